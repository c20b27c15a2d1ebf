/- FnExactFromBelow: for every input the law holds, and each argument reads as it read before. No condition. -/
import Derived.Test.YtcjmpjiclnfjmaaZFnExactFromBelow1
import Derived.Test.YtcjmpjiclnfjmaaZFnExactFromBelow2
import Derived.Below
import Derived.Deep.Draws
import Derived.Deep.AppendLies
import Derived.Maps.AppendAt
import Derived.OwnWalk
import Derived.Laws.BytesArg
import Derived.Laws.MakeOwn
import Derived.Laws.OwnMore
import Derived.Deep.OwnRows
import Derived.Tactics
import Derived.Lib.ConvBytes
import Derived.Laws.Slices
import Derived.WalkKit
import Derived.KernelRfl
import Derived.RowKit3
import Derived.Deep.LoopGhost
import Derived.Deep.QuietTactic
import Derived.BigQuiet
import Derived.WideLaws
import Derived.Deep.DeepCutAuto
import Derived.Deep.CutBlock
import Derived.Deep.RegionHeld3
import Derived.Laws.Rows
import Derived.Lib.AppendStr
import Derived.ArgAppend
import Derived.Laws.IdiomCopy
import Derived.RowKit
import Derived.OrdersHeld
import Derived.Laws.BitsLemmas
import Derived.Laws.StructEq
import Derived.Test.YtcjmpjiclnfjmaaProg
namespace Go.Proofs.Ytcjmpjiclnfjmaa.PU
open Go.RowKit Go.Proofs.YtcjmpjiclnfjmaaW.PrintWords Go.Proofs.YtcjmpjiclnfjmaaW.PrintLast Go.Proofs.YtcjmpjiclnfjmaaW.PrintMore Go.Proofs.Ytcjmpjiclnfjmaa.Qd
attribute [local go_sem] max2_int min2_int max_two min_two max_three min_three max_four min_four
set_option linter.unusedVariables false
set_option linter.unusedSimpArgs false
mutual
def spec_GetsOf.l0 : Nat → List (S36) → List (S36) → List Int → Int → List Int → List (List Int) → Option ((List (S36)) × Bool)
 | 0, _, _, _, _, _, _ => none
 | k + 1, x1, x6, x7, x8, x228000, x228001 => if x8 < (x1.length : Int) then (if 0 ≤ x8 then (if x8 < (x228000.length : Int) then (spec_GetsOf.l1 k x1 x6 x7 x8 0 x228000 x228001 (rd x228000 x8) 1) else (none)) else (none)) else (some (x6, true))
def spec_GetsOf.l1 : Nat → List (S36) → List (S36) → List Int → Int → Int → List Int → List (List Int) → Int → Int → Option ((List (S36)) × Bool)
 | 0, _, _, _, _, _, _, _, _, _ => none
 | k + 1, x1, x6, x7, x8, x10, x228000, x228001, x237000, x237001 => if x10 < (x1.length : Int) then (if 0 ≤ x10 then (if x10 < (x7.length : Int) then (if (rd x7 x10) = 0 then (spec_GetsOf.l1 k x1 x6 x7 x8 (wrap64 (x10 + 1)) x228000 x228001 x237000 x237001) else (if x10 < (x228001.length : Int) then (if 0 ≤ x8 then (if x8 < ((rd_L1 x228001 x10).length : Int) then ((spec_FracOf.f k (rd (rd_L1 x228001 x10) x8) (rd x7 x10)).bind fun bt244 => ((spec_TimesOf.f k ((rd_T36 x1 x10).f0) ((rd_T36 x1 x10).f1) bt244.1 bt244.2.1).bind fun bt249 => ((spec_PlusOf.f k x237000 x237001 bt249.1 bt249.2.1).bind fun bt253 => (if bt249.2.2 = true then (if bt253.2.2 = true then (spec_GetsOf.l1 k x1 x6 x7 x8 (wrap64 (x10 + 1)) x228000 x228001 bt253.1 bt253.2.1) else (some ((([] : List (S36))), false))) else (some ((([] : List (S36))), false)))))) else (none)) else (none)) else (none))) else (none)) else (none)) else (if x6.length < 8796093022208 then (spec_GetsOf.l0 k x1 (x6 ++ [(⟨x237000, x237001⟩ : S36)]) x7 (wrap64 (x8 + 1)) x228000 x228001) else (none))
end
def spec_GetsOf.f (k : Nat) (l0_0 : List Int) (l0_1 : List (List Int)) (l1 : List (S36)) : Option ((List (S36)) × Bool) := (some (([] : List (S36)) : List (S36))).bind fun y228 => ((spec_PaysOk.f k l0_0 l0_1 l1).bind fun t231 => (if t231 = true then ((spec_OwesOf.f k l0_0 l0_1).bind fun t232 => (spec_GetsOf.l0 k l1 y228 t232 0 l0_0 l0_1)) else (some (y228, false))))
theorem spec_GetsOf.mq {p : Prop} (h : p := by
 repeat' first
 | (with_reducible exact ih0 _ _ _ _ _ _)
 | (with_reducible exact ih1 _ _ _ _ _ _ _ _ _)
 | (with_reducible exact spec_FracOf.mono _ _ _)
 | (with_reducible exact spec_OwesOf.mono _ _ _)
 | (with_reducible exact spec_PaysOk.mono _ _ _ _)
 | (with_reducible exact spec_PlusOf.mono _ _ _ _ _)
 | (with_reducible exact spec_TimesOf.mono _ _ _ _ _)
 | (with_reducible exact LeO.refl _)
 | (with_reducible exact LeO.none _)
 | (with_reducible refine LeO.ite ?_ ?_)
 | (with_reducible refine LeO.bind ?_ (fun _ => ?_))
 | exact ih0 _ _ _ _ _ _
 | exact ih1 _ _ _ _ _ _ _ _ _
 | exact spec_FracOf.mono _ _ _
 | exact spec_OwesOf.mono _ _ _
 | exact spec_PaysOk.mono _ _ _ _
 | exact spec_PlusOf.mono _ _ _ _ _
 | exact spec_TimesOf.mono _ _ _ _ _
 | exact LeO.none _
 | refine LeO.ite ?_ ?_
 | refine LeO.bind ?_ (fun _ => ?_)) : p := h
theorem spec_GetsOf.mono_l : ∀ k, (∀ y0 y1 y2 y3 y4 y5, LeO (spec_GetsOf.l0 k y0 y1 y2 y3 y4 y5) (spec_GetsOf.l0 (k + 1) y0 y1 y2 y3 y4 y5)) ∧ (∀ y0 y1 y2 y3 y4 y5 y6 y7 y8, LeO (spec_GetsOf.l1 k y0 y1 y2 y3 y4 y5 y6 y7 y8) (spec_GetsOf.l1 (k + 1) y0 y1 y2 y3 y4 y5 y6 y7 y8))
 | 0 => ⟨fun _ _ _ _ _ _ r h => by simp [spec_GetsOf.l0] at h, fun _ _ _ _ _ _ _ _ _ r h => by simp [spec_GetsOf.l1] at h⟩
 | k + 1 => by
  obtain ⟨ih0, ih1⟩ := spec_GetsOf.mono_l k
  refine ⟨?_, ?_⟩
  ·intro y0 y1 y2 y3 y4 y5
   unfold spec_GetsOf.l0
   exact spec_GetsOf.mq
  ·intro y0 y1 y2 y3 y4 y5 y6 y7 y8
   unfold spec_GetsOf.l1
   exact spec_GetsOf.mq
theorem spec_GetsOf.mono : ∀ a0 a1 a2 k, LeO (spec_GetsOf.f k a0 a1 a2) (spec_GetsOf.f (k + 1) a0 a1 a2) := by
 intro a0 a1 a2 k
 obtain ⟨ih0, ih1⟩ := spec_GetsOf.mono_l k
 unfold spec_GetsOf.f
 exact spec_GetsOf.mq
def spec_GetsOf.T13 : Bool × List (List Nat × List Nat) := (true, [([], []), ([0], [0]), ([], []), ([1, 2], [1, 2]), ([3], [3]), ([], []), ([4, 5], [4, 5]), ([6], [6]), ([], []), ([], []), ([8, 9], [8, 9]), ([10], [10]), ([7, 11], [7, 11]), ([12], [12]), ([13], [13]), ([13], [13]), ([], []), ([16, 14, 12, 0, 1, 2, 3, 4, 5, 6, 7, 8, 9, 10, 11, 12, 13, 14, 16], [14, 16]), ([15, 17, 0, 1, 2, 3, 4, 5, 6, 7, 8, 9, 10, 11, 12, 13, 14, 15, 16, 17], [15])])
def spec_GetsOf.B13 : List Nat := [0, 1, 0, 7, 15, 0, 63, 127, 0, 0, 768, 1792, 4095, 8191, 16383, 16383, 0, 98303, 262143]
theorem spec_GetsOf.tab13 : rtab .any (opsOf Try.f57 13) = spec_GetsOf.T13 := by kernel_rfl
theorem spec_GetsOf.bits13 : waitsOk spec_GetsOf.T13.2 spec_GetsOf.B13 = true := by kernel_rfl
def spec_GetsOf.T14 : Bool × List (List Nat × List Nat) := (true, [([], []), ([], []), ([0, 1], [0, 1]), ([2], [2]), ([], []), ([3, 4], [3, 4]), ([5], [5]), ([6], [6]), ([6], [6]), ([], []), ([9, 7, 5, 0, 1, 2, 3, 4, 5, 6, 7, 9], [7, 9]), ([8, 10, 0, 1, 2, 3, 4, 5, 6, 7, 8, 9, 10], [8])])
def spec_GetsOf.B14 : List Nat := [0, 0, 3, 7, 0, 31, 63, 127, 127, 0, 767, 2047]
theorem spec_GetsOf.tab14 : rtab .any (opsOf Try.f57 14) = spec_GetsOf.T14 := by kernel_rfl
theorem spec_GetsOf.bits14 : waitsOk spec_GetsOf.T14.2 spec_GetsOf.B14 = true := by kernel_rfl
theorem spec_GetsOf.calls_q0 {p : Prop} (h : p := by repeat (first | (with_reducible first | exact HB.out | apply below_alloc | apply pw_below_drewN | apply below_drew1 | refine below_set ?_ GE227.out | refine below_set ?_ GE236.out | refine below_set ?_ GE247.out | refine below_set ?_ GE252.out | refine below_set ?_ GE256.out) | exact HB.out)) : p := h
set_option maxHeartbeats 8000000 in
set_option maxRecDepth 100000 in
theorem spec_GetsOf.calls (k : Nat) (A0_0 : Option Addr) (c0_0 : Nat) (l0_0 : List Int) (A0_1 : Option Addr) (c0_1 : Nat) (l0_1 : List (List Int)) (A1 : Option Addr) (c1 : Nat) (l1 : List (S36)) (r1 : List (S36)) (r2 : Bool) (w : World) (hr0_0 : Kd.C (Kd.int .i64) w A0_0 l0_0.length l0_0) (hc0_0 : l0_0.length ≤ c0_0) (hr0_1 : Kd.C (Kd.slice 3 (Kd.int .i64)) w A0_1 l0_1.length l0_1) (hc0_1 : l0_1.length ≤ c0_1) (hr1 : Kd.C k36 w A1 l1.length l1) (hc1 : l1.length ≤ c1) (h : spec_GetsOf.f k l0_0 l0_1 l1 = some (r1, r2)) :
  Calls Try.prog 57 #[.agg #[.slice A0_0 l0_0.length c0_0, .slice A0_1 l0_1.length c0_1], .slice A1 l1.length c1] w fun e w' => ∃ v0_ : Value, e = .returned (.tuple #[v0_, .bool r2]) ∧ Kd.R k36 36 w' w.heap.size (fun _ => True) v0_ r1 ∧ Below w.heap.size w w' := by
 have hu26 := Try.underlying26
 have hu36 := Try.underlying36
 have HR0_0 := Aside0.mk hr0_0
 have HC0_0 := Aside0.mk hc0_0
 clear hr0_0 hc0_0
 have HR0_1 := Aside0.mk hr0_1
 have HC0_1 := Aside0.mk hc0_1
 clear hr0_1 hc0_1
 have HR1 := Aside0.mk hr1
 have HC1 := Aside0.mk hc1
 clear hr1 hc1
 have HB := Aside0.mk (Below.refl w.heap.size w)
 have H : ((some (([] : List (S36)) : List (S36))).bind fun y228 => ((spec_PaysOk.f k l0_0 l0_1 l1).bind fun t231 => (if t231 = true then ((spec_OwesOf.f k l0_0 l0_1).bind fun t232 => (spec_GetsOf.l0 k l1 y228 t232 0 l0_0 l0_1)) else (some (y228, false))))) = some (r1, r2) := h
 clear h
 obtain ⟨y228, hy228⟩ : ∃ y_ : List (S36), y_ = (([] : List (S36))) := ⟨_, rfl⟩
 replace H : ((spec_PaysOk.f k l0_0 l0_1 l1).bind fun t231 => (if t231 = true then ((spec_OwesOf.f k l0_0 l0_1).bind fun t232 => (spec_GetsOf.l0 k l1 y228 t232 0 l0_0 l0_1)) else (some (y228, false)))) = some (r1, r2) := by first | (rw [hy228]; with_reducible exact H) | (have H2_ := (Option.bind_some _ _).symm.trans H; rw [hy228]; with_reducible exact H2_) | (have H2_ := (Option.bind_some _ _).symm.trans H; with_reducible exact H2_) | with_reducible exact H | (rw [hy228]; exact H) | exact H
 have Ny228 := Aside0.mk hy228
 clear hy228
 obtain ⟨t231, A3, H⟩ := bind_ H
 by_cases c4 : t231 = true
 ·subst c4
  replace H := ifp_ H
  obtain ⟨t232, A5, H⟩ := bind_ H
  have H' := Aside0.mk H
  clear H
  go_enter Try.func57, Try.ntmps57
  go_wp2_with (first | ((with_reducible refine gate_dst (N := 2) rfl ?_); refine bx_ (N := 2) #[.slice A0_0 l0_0.length c0_0, .slice A0_1 l0_1.length c0_1] 26 ?_; intro gb227 hg w6 hbox hb; have BK227 := Aside0.mk (hbox); have GW227 := Aside0.mk ((g7_ : w.heap.size ≤ gb227)); have GE227 := Aside0.mk ((g7_ : w.heap.size ≤ gb227)); replace HB := Aside0.mk (below_step (spec_GetsOf.calls_q0) hb); clear hb hbox hg) | ((with_reducible refine gate_dst (N := 17) rfl ?_); refine Kd.R_lit k36 _ 36 ?hg (N := 17) ?hd (xs := ([] : List (S36))) (inner := []) (ok := fun _ => True) (okp := fun _ => True) ?hr ?hp (fun _ hk => hk) trivial (Below.refl _ _) (Nat.le_refl _) (by simp) ?_; (case hd => rfl); (case hg => rfl); (case hr => first | (go_simp; done) | (go_simp; rfl)); (case hp => exact (Reps.none _ _)); intro v229 w7 ho8 hb hg_ hnew_; clear hg_ hnew_; (first | rw [← Ny228.out] at ho8 | (simp only [Int.reduceToNat] at ho8; rw [← Ny228.out] at ho8)); have HO230 := Aside0.mk (Kd.R_lower ho8 (below_size (spec_GetsOf.calls_q0))); replace BK227 := bb_ BK227 hb; replace HB := Aside0.mk (below_step (spec_GetsOf.calls_q0) hb); clear hb ho8; obtain ⟨hcz9_0, hcz9_1, hfz9_0, hfz9_1⟩ := blk2_ BK227) | ((with_reducible refine gate_callee (f := 85) rfl ?_); refine goesL_ (some 20) rfl rfl Try.func85 k_ rfl #[.agg #[.slice A0_0 l0_0.length c0_0, .slice A0_1 l0_1.length c0_1], .slice A1 l1.length c1] rfl (g2_) ?_; (with_reducible refine (spec_PaysOk.calls k _ _ l0_0 _ _ l0_1 _ _ l1 true _ ?side1 ?side2 ?side3 ?side4 ?side5 ?side6 A3.out).mono ?_); (case side1 => exact uf0_ HR0_0); (case side2 => exact HC0_0.out); (case side3 => exact uf0_ HR0_1); (case side4 => exact HC0_1.out); (case side5 => exact uf0_ HR1); (case side6 => exact HC1.out); rintro e w10 ⟨rfl, hb⟩; refine ⟨_, rfl, ?_⟩; replace HO230 := Aside0.mk (Kd.R_below (uf1_ HO230) hb); replace BK227 := bb_ BK227 hb; replace HB := Aside0.mk (below_step (spec_GetsOf.calls_q0) hb); (try clear hb); (try clear hk hi); obtain ⟨hcz11_0, hcz11_1, hfz11_0, hfz11_1⟩ := blk2_ BK227) | ((with_reducible refine gate_callee (f := 54) rfl ?_); refine goesL_ (some 24) rfl rfl Try.func54 k_ rfl #[.agg #[.slice A0_0 l0_0.length c0_0, .slice A0_1 l0_1.length c0_1]] rfl (g2_) ?_; (with_reducible refine (spec_OwesOf.calls k _ _ l0_0 _ _ l0_1 t232 _ ?side1 ?side2 ?side3 ?side4 A5.out).mono ?_); (case side1 => exact uf0_ HR0_0); (case side2 => exact HC0_0.out); (case side3 => exact uf0_ HR0_1); (case side4 => exact HC0_1.out); rintro e w12 ⟨v233, rfl, ho0, hb⟩; refine ⟨_, rfl, ?_⟩; replace HO230 := Aside0.mk (Kd.R_below (uf1_ HO230) hb); have HO234 := Aside0.mk (Kd.R_lower ho0 (below_size (spec_GetsOf.calls_q0))); replace BK227 := bb_ BK227 hb; replace HB := Aside0.mk (below_step (spec_GetsOf.calls_q0) hb); (try clear hb); (try clear hk hi); (try clear ho0)))
  go_loopg [6, 8] k (fun kq v6 v8 w' => ∃ (x6_1 : List (S36)) (x8_1 : Int), v8 = .int .i64 x8_1 ∧ Aside0 (spec_GetsOf.l0 kq l1 x6_1 t232 x8_1 l0_0 l0_1 = some (r1, r2)) ∧ Aside0 (kq ≤ k) ∧ Aside0 (Kd.R k36 36 w' w.heap.size (fun _ => True) v6 x6_1) ∧ Aside0 (Kd.R (Kd.int .i64) 3 w' w.heap.size (fun _ => True) v233 t232) ∧ Aside0 (w'.heap[gb227]? = some (.cells #[(.slice A0_0 l0_0.length c0_0), (.slice A0_1 l0_1.length c0_1)] 26 (0, 0))) ∧ Aside0 (Below w.heap.size w w'))
  case atStart => exact ⟨(y228), (0), (g3_), H', ⟨Nat.le_refl _⟩, ⟨uf1_ HO230⟩, ⟨uf1_ HO234⟩, ⟨uf3_ BK227⟩, ⟨spec_GetsOf.calls_q0⟩⟩
  case round =>
   clear H'
   try clear c1
   try clear p2
   try clear c4
   try clear c5
   try clear c8
   try clear hcz11_0
   try clear hcz11_1
   try clear hcz9_0
   try clear hcz9_1
   try clear hfz11_0
   try clear hfz11_1
   try clear hfz9_0
   try clear hfz9_1
   obtain ⟨x6_1, x8_1, rfl, HA, HK1, HO_6, HO_7, BK227, HB⟩ := hrel
   cases gk with
   | zero => exact absurd HA.out (by simp [spec_GetsOf.l0])
   | succ k1 =>
    have H := HA.out
    clear HA
    simp only [spec_GetsOf.l0] at H
    by_cases c13 : x8_1 < (l1.length : Int)
    ·rw [if_pos c13] at H
     have c13b0 := decide_eq_true c13
     clear c13
     obtain ⟨c14, H⟩ := pos_ H
     have c14b0 := decide_eq_true c14
     clear c14
     obtain ⟨c15, H⟩ := pos_ H
     have c15b0 := decide_eq_true c15
     clear c15
     have H' := Aside0.mk H
     clear H
     obtain ⟨hcz16_0, hcz16_1, hfz16_0, hfz16_1⟩ := blk2_ BK227
     have p235 : 0 ≤ (x8_1 : Int) := of_decide_eq_true (g1_)
     have q235 : x8_1 < (l0_0.length : Int) := of_decide_eq_true (g1_)
     obtain ⟨ad235, e235, hx235_0⟩ := Kd.at_int HR0_0.out x8_1 p235 q235
     cases e235
     replace hx235_0 := cl_ HB hx235_0
     replace p235 := eq_true p235
     replace q235 := eq_true q235
     go_wp2_with (first | ((with_reducible refine gate_dst (N := 9) rfl ?_); refine bx_ (N := 9) #[.int .i64 0, .int .i64 0] 36 ?_; intro gb236 hg w17 hbox hb; replace HO_6 := Aside0.mk (Kd.R_below (Kd.R_elderB (uf1_ HO_6) gb236 (Nat.le_of_eq hg.symm)) hb); replace HO_7 := Aside0.mk (Kd.R_below (uf1_ HO_7) hb); have BK236 := Aside0.mk (hbox); have GW236 := Aside0.mk ((g7_ : w.heap.size ≤ gb236)); have GE236 := Aside0.mk ((g7_ : w.heap.size ≤ gb236)); replace HB := Aside0.mk (below_step (spec_GetsOf.calls_q0) hb); have NB227_236 := Aside0.mk ((by rw [hg]; exact Nat.ne_of_lt (blk_lt (g := gb227) (o := .cells #[.slice (some ad235) l0_0.length c0_0, .slice A0_1 l0_1.length c0_1] 26 (0, 0)) (uf3_ BK227)) : gb227 ≠ gb236)); have NB236_227 := Aside0.mk ((by rw [hg]; exact Nat.ne_of_gt (blk_lt (g := gb227) (o := .cells #[.slice (some ad235) l0_0.length c0_0, .slice A0_1 l0_1.length c0_1] 26 (0, 0)) (uf3_ BK227)) : gb236 ≠ gb227)); replace BK227 := bb_ BK227 hb; clear hb hbox hg; have hnb18 := NB236_227.out; have hnc18 := NB227_236.out; obtain ⟨hcz19_0, hcz19_1, hfz19_0, hfz19_1⟩ := blk2_ BK236))
     go_loopg [10] k1 (fun kq v10 w' => ∃ (x10_2 : Int) (x237000_2 : Int) (x237001_2 : Int), v10 = .int .i64 x10_2 ∧ Aside0 (spec_GetsOf.l1 kq l1 x6_1 t232 x8_1 x10_2 l0_0 l0_1 x237000_2 x237001_2 = some (r1, r2)) ∧ Aside0 (kq ≤ k1) ∧ Aside0 (Kd.R k36 36 w' w.heap.size (fun k_ => k_ ≠ gb236) u6 x6_1) ∧ Aside0 (Kd.R (Kd.int .i64) 3 w' w.heap.size (fun _ => True) v233 t232) ∧ Aside0 (w'.heap[gb227]? = some (.cells #[(.slice (some ad235) l0_0.length c0_0), (.slice A0_1 l0_1.length c0_1)] 26 (0, 0))) ∧ Aside0 (w'.heap[gb236]? = some (.cells #[.int .i64 x237000_2, .int .i64 x237001_2] 36 (0, 0))) ∧ Aside0 (Below w.heap.size w w'))
     case atStart => exact ⟨(0), (rd l0_0 x8_1), (1), (g3_), H', ⟨Nat.le_refl _⟩, ⟨by (with_reducible repeat (first | apply Kd.R_alloc | apply Kd.R_drewN | apply Kd.R_drew)); exact Kd.R_mono (Kd.R_far (p := ⟨gb236, 1, none⟩) (Kd.R_far (p := ⟨gb236, 0, none⟩) (Kd.R_mono HO_6.out (fun k_ hk => (⟨hk, hk.2⟩ : _ ∧ k_ ≠ gb236))) (fun _ hk => hk.2) (.int .i64 (rd l0_0 x8_1))) (fun _ hk => hk.2) (.int .i64 1)) (fun _ hk => hk.1.2)⟩, ⟨by (with_reducible repeat (first | apply Kd.R_alloc | apply Kd.R_drewN | apply Kd.R_drew)); exact Kd.R_mono (Kd.R_far (p := ⟨gb236, 1, none⟩) (Kd.R_far (p := ⟨gb236, 0, none⟩) (Kd.R_types HO_7.out BK236.out (by decide)) (fun _ hk => hk.2) (.int .i64 (rd l0_0 x8_1))) (fun _ hk => hk.2) (.int .i64 1)) (fun _ hk => trivial)⟩, ⟨by (with_reducible repeat (first | refine blk_drewN ?_ _ | refine blk_drew ?_ | refine blk_alloc ?_ _)); refine blk_far ?_ NB227_236.out _; (with_reducible repeat (first | refine blk_drewN ?_ _ | refine blk_drew ?_ | refine blk_alloc ?_ _)); refine blk_far ?_ NB227_236.out _; (with_reducible repeat (first | refine blk_drewN ?_ _ | refine blk_drew ?_ | refine blk_alloc ?_ _)); exact BK227.out⟩, ⟨by (with_reducible repeat (first | refine blk_drewN ?_ _ | refine blk_drew ?_ | refine blk_alloc ?_ _)); refine blk_put (cs := #[.int .i64 (rd l0_0 x8_1), .int .i64 0]) ?_ 1 _ rfl; (with_reducible repeat (first | refine blk_drewN ?_ _ | refine blk_drew ?_ | refine blk_alloc ?_ _)); refine blk_put (cs := #[.int .i64 0, .int .i64 0]) ?_ 0 _ rfl; (with_reducible repeat (first | refine blk_drewN ?_ _ | refine blk_drew ?_ | refine blk_alloc ?_ _)); exact BK236.out⟩, ⟨spec_GetsOf.calls_q0⟩⟩
     case round =>
      clear H'
      try clear c1
      try clear p2
      try clear q2
      try clear hx2
      try clear c4
      try clear c5
      try clear c8
      try clear c13
      try clear c13b0
      try clear c14
      try clear c14b0
      try clear c15
      try clear c15b0
      try clear c18
      try clear hcz11_0
      try clear hcz11_1
      try clear hcz16_0
      try clear hcz16_1
      try clear hcz19_0
      try clear hcz19_1
      try clear hcz9_0
      try clear hcz9_1
      try clear hfz11_0
      try clear hfz11_1
      try clear hfz16_0
      try clear hfz16_1
      try clear hfz19_0
      try clear hfz19_1
      try clear hfz9_0
      try clear hfz9_1
      try clear hx235_0
      try clear p2
      try clear p235
      try clear q235
      obtain ⟨x10_2, x237000_2, x237001_2, rfl, HA, HK2, HO_6, HO_7, BK227, BK236, HB⟩ := hrel
      cases gk with
      | zero => exact absurd HA.out (by simp [spec_GetsOf.l1])
      | succ k2 =>
       have H := HA.out
       clear HA
       simp only [spec_GetsOf.l1] at H
       by_cases c20 : x10_2 < (l1.length : Int)
       ·rw [if_pos c20] at H
        have c20b0 := decide_eq_true c20
        clear c20
        obtain ⟨c21, H⟩ := pos_ H
        have c21b0 := decide_eq_true c21
        clear c21
        obtain ⟨c22, H⟩ := pos_ H
        have c22b0 := decide_eq_true c22
        clear c22
        by_cases c23 : (rd t232 x10_2) = 0
        ·rw [if_pos c23] at H
         have c23b0 : ((rd t232 x10_2) == 0) = true := beq_iff_eq.mpr c23
         have c23b1 : ((rd t232 x10_2) != 0) = false := bne_eq_false_iff_eq.mpr c23
         clear c23
         have H' := Aside0.mk H
         clear H
         obtain ⟨Ao24, co24, eo24⟩ := Kd.R_slice HO_7.out
         subst eo24
         have p240 : 0 ≤ (x10_2 : Int) := of_decide_eq_true (g1_)
         have q240 : x10_2 < (t232.length : Int) := of_decide_eq_true (g1_)
         obtain ⟨ad240, e240, hx240_0⟩ := Kd.at_int (Kd.R_reads' HO_7.out).2.2 x10_2 p240 q240
         cases e240
         replace p240 := eq_true p240
         replace q240 := eq_true q240
         go_wp2
         go_roundg k2
         case measure => have := HK1.out; have := HK2.out; omega
         case rel => exact ⟨(wrap64 (x10_2 + 1)), (x237000_2), (x237001_2), (g3_), H', ⟨g46_⟩, ⟨uf1_ HO_6⟩, ⟨uf1_ HO_7⟩, ⟨uf3_ BK227⟩, ⟨uf3_ BK236⟩, ⟨spec_GetsOf.calls_q0⟩⟩
        ·rw [if_neg c23] at H
         have c23b0 : ((rd t232 x10_2) == 0) = false := beq_eq_false_iff_ne.mpr c23
         have c23b1 : ((rd t232 x10_2) != 0) = true := bne_iff_ne.mpr c23
         obtain ⟨c25, H⟩ := pos_ H
         have c25b0 := decide_eq_true c25
         clear c25
         obtain ⟨c26, H⟩ := pos_ H
         have c26b0 := decide_eq_true c26
         clear c26
         obtain ⟨c27, H⟩ := pos_ H
         have c27b0 := decide_eq_true c27
         clear c27
         replace H := Option.bind_eq_some_iff.mp H
         obtain ⟨⟨t244, t245, t246⟩, A280, H⟩ := H
         replace H : ((spec_TimesOf.f k2 ((rd_T36 l1 x10_2).f0) ((rd_T36 l1 x10_2).f1) t244 t245).bind fun bt249 => ((spec_PlusOf.f k2 x237000_2 x237001_2 bt249.1 bt249.2.1).bind fun bt253 => (if bt249.2.2 = true then (if bt253.2.2 = true then (spec_GetsOf.l1 k2 l1 x6_1 t232 x8_1 (wrap64 (x10_2 + 1)) l0_0 l0_1 bt253.1 bt253.2.1) else (some ((([] : List (S36))), false))) else (some ((([] : List (S36))), false))))) = some (r1, r2) := H
         have A28 := Aside0.mk A280
         clear A280
         replace H := Option.bind_eq_some_iff.mp H
         obtain ⟨⟨t249, t250, t251⟩, A290, H⟩ := H
         replace H : ((spec_PlusOf.f k2 x237000_2 x237001_2 t249 t250).bind fun bt253 => (if t251 = true then (if bt253.2.2 = true then (spec_GetsOf.l1 k2 l1 x6_1 t232 x8_1 (wrap64 (x10_2 + 1)) l0_0 l0_1 bt253.1 bt253.2.1) else (some ((([] : List (S36))), false))) else (some ((([] : List (S36))), false)))) = some (r1, r2) := H
         have A29 := Aside0.mk A290
         clear A290
         replace H := Option.bind_eq_some_iff.mp H
         obtain ⟨⟨t253, t254, t255⟩, A300, H⟩ := H
         replace H : (if t251 = true then (if t255 = true then (spec_GetsOf.l1 k2 l1 x6_1 t232 x8_1 (wrap64 (x10_2 + 1)) l0_0 l0_1 t253 t254) else (some ((([] : List (S36))), false))) else (some ((([] : List (S36))), false))) = some (r1, r2) := H
         have A30 := Aside0.mk A300
         clear A300
         by_cases c31 : t251 = true
         ·subst c31
          replace H := ifp_ H
          by_cases c32 : t255 = true
          ·subst c32
           replace H := ifp_ H
           have H' := Aside0.mk H
           clear H
           obtain ⟨Ao33, co33, eo33⟩ := Kd.R_slice HO_7.out
           subst eo33
           have p240 : 0 ≤ (x10_2 : Int) := of_decide_eq_true (g1_)
           have q240 : x10_2 < (t232.length : Int) := of_decide_eq_true (g1_)
           obtain ⟨ad240, e240, hx240_0⟩ := Kd.at_int (Kd.R_reads' HO_7.out).2.2 x10_2 p240 q240
           cases e240
           replace p240 := eq_true p240
           replace q240 := eq_true q240
           try go_wp2
           replace HO_6 := Aside0.mk (Kd.R_drew HO_6.out)
           replace HO_7 := Aside0.mk (Kd.R_drew HO_7.out)
           replace BK227 := Aside0.mk (blk_drew BK227.out)
           replace BK236 := Aside0.mk (blk_drew BK236.out)
           replace HB := Aside0.mk (below_drew1 HB.out)
           have p241 : 0 ≤ (x10_2 : Int) := of_decide_eq_true (g1_)
           have q241 : x10_2 < (l0_1.length : Int) := of_decide_eq_true (g1_)
           obtain ⟨ad241, A241_0, c241_0, e241, hx241_0, hl241_0, hi241_0⟩ := at_L1 HR0_1.out x10_2 p241 q241
           have hw241_0 := hx241_0
           cases e241
           replace hx241_0 := cl_ HB hx241_0
           have HR241_0 := Aside0.mk hi241_0
           have HC241_0 := Aside0.mk hl241_0
           clear hi241_0 hl241_0
           replace p241 := eq_true p241
           replace q241 := eq_true q241
           have p242 : 0 ≤ (x8_1 : Int) := of_decide_eq_true (g1_)
           have q242 : x8_1 < ((rd_L1 l0_1 x10_2).length : Int) := of_decide_eq_true (g1_)
           obtain ⟨ad242, e242, hx242_0⟩ := Kd.at_int HR241_0.out x8_1 p242 q242
           have hw242_0 := hx242_0
           cases e242
           replace hx242_0 := cl_ HB hx242_0
           replace p242 := eq_true p242
           replace q242 := eq_true q242
           have p243 : 0 ≤ (x10_2 : Int) := of_decide_eq_true (g1_)
           have q243 : x10_2 < (t232.length : Int) := of_decide_eq_true (g1_)
           obtain ⟨ad243, e243, hx243_0⟩ := Kd.at_int (Kd.R_reads' HO_7.out).2.2 x10_2 p243 q243
           obtain rfl : ad240 = ad243 := (by injection e243)
           replace p243 := eq_true p243
           replace q243 := eq_true q243
           refine start_ (n := 19) (S := fun w' => w'.cell? ⟨gb227, 0, none⟩ = some (.slice (some ad235) l0_0.length c0_0) ∧ w'.cell? ⟨gb227, 1, none⟩ = some (.slice (some ad241) l0_1.length c0_1) ∧ w'.cell? (ad241.add (x10_2).toNat) = some (.slice (some ad242) (rd_L1 l0_1 x10_2).length c241_0) ∧ w'.cell? (ad242.add (x8_1).toNat) = some (.int .i64 (rd (rd_L1 l0_1 x10_2) x8_1)) ∧ w'.cell? (ad240.add (x10_2).toNat) = some (.int .i64 (rd t232 x10_2))) (ds := []) (tl_ 19 0) (g0_) rfl (g0_) ⟨(blk_cell BK227.out 0).trans rfl, (blk_cell BK227.out 1).trans rfl, ((cl_ HB hw241_0).trans rfl), ((cl_ HB hw242_0).trans rfl), hx243_0⟩ (fun hHeld => ?_); refine with_tabW spec_GetsOf.tab13 spec_GetsOf.bits13 (fun HT_ HW_ => ?_)
           generalize wr.drew = w34 at HO_6 HO_7 BK227 BK236 HB HR241_0 hx241_0 hx242_0 hx243_0 hHeld ⊢
           refine pw_ 0 49 (tl_ 19 1) rfl rfl ?_
           refine pw_ 2 51 (tl_ 19 5) rfl rfl ?_
           refine pw_ 5 54 (tl_ 19 37) rfl rfl ?_
           refine pw_ 8 57 (tl_ 19 293) rfl rfl ?_
           refine pw_ 9 58 (tl_ 19 805) rfl rfl ?_
           refine pw_ 10 59 (tl_ 19 1829) rfl rfl ?_
           refine tk5_ 1 50 (tl_ 19 1831) rfl rfl hHeld ?_
           refine pw_ 3 52 (tl_ 19 1839) rfl rfl ?_
           refine tk5_ 4 53 (tl_ 19 1855) rfl rfl hHeld ?_
           refine pw_ 6 55 (tl_ 19 1919) rfl rfl ?_
           refine tk5_ 7 56 (tl_ 19 2047) rfl rfl hHeld ?_
           refine tk5_ 11 60 (tl_ 19 4095) rfl rfl hHeld ?_
           refine join_ (σ := Nat) 2 (tl_ 19 131071) (fun s_ => [(61, .tuple #[.agg #[.int .i64 t244, .int .i64 t245], .bool t246]), (11, .pointer (some ⟨s_, 0, none⟩)), (48, .tuple #[.agg #[.int .i64 t244, .int .i64 t245], .bool t246]), (62, .agg #[.int .i64 t244, .int .i64 t245]), (63, .bool t246)]) (fun s_ w' => (w'.cell? ⟨gb227, 0, none⟩ = some (.slice (some ad235) l0_0.length c0_0) ∧ w'.cell? ⟨gb227, 1, none⟩ = some (.slice (some ad241) l0_1.length c0_1) ∧ w'.cell? (ad241.add (x10_2).toNat) = some (.slice (some ad242) (rd_L1 l0_1 x10_2).length c241_0) ∧ w'.cell? (ad242.add (x8_1).toNat) = some (.int .i64 (rd (rd_L1 l0_1 x10_2) x8_1)) ∧ w'.cell? (ad240.add (x10_2).toNat) = some (.int .i64 (rd t232 x10_2))) ∧ (Kd.R k36 36 w' w.heap.size (fun k_ => k_ ≠ gb236 ∧ k_ ≠ s_) u6 x6_1) ∧ (Kd.R (Kd.int .i64) 3 w' w.heap.size (fun _ => True) (.slice (some ad240) t232.length co33) t232) ∧ (w'.heap[gb227]? = some (.cells #[.slice (some ad235) l0_0.length c0_0, .slice (some ad241) l0_1.length c0_1] 26 (0, 0))) ∧ (w'.heap[gb236]? = some (.cells #[.int .i64 x237000_2, .int .i64 x237001_2] 36 (0, 0))) ∧ (w'.heap[s_]? = some (.cells #[.int .i64 0, .int .i64 0] 36 (0, 0))) ∧ (w.heap.size ≤ s_) ∧ (w.heap.size ≤ s_) ∧ (gb227 ≠ s_) ∧ (s_ ≠ gb227) ∧ (gb236 ≠ s_) ∧ (s_ ≠ gb236) ∧ (Below w.heap.size w w')) ?_ ?_
           rotate_left
           ·intro hCont
            refine two_ (i := 12) (j := 16) (Ni := some 61) (Nj := some 11) (tl_ 19 8191) (tl_ 19 69631) rfl rfl rfl rfl (two_of HT_.out (g0_)) (by decide) (by decide) (fun K hK => ?_) (fun K hK => ?_)
            ·skip
             refine goes_ Try.func86 (g0_) rfl #[.int .i64 (rd (rd_L1 l0_1 x10_2) x8_1), .int .i64 (rd t232 x10_2)] (by rfl) rfl rfl (g2_) ?_
             with_reducible refine (spec_FracOf.calls k2 (rd (rd_L1 l0_1 x10_2) x8_1) (rd t232 x10_2) t244 t245 t246 _ A28.out).mono ?_
             rintro e w35 ⟨rfl, hb⟩
             have HS4_ := (hb.cell (World.block_lt_of_cell? _ _ (hHeld.2.2.2.2))).trans (hHeld.2.2.2.2)
             refine ⟨_, rfl, ?_⟩
             replace HO_6 := Aside0.mk (Kd.R_below (uf1_ HO_6) hb)
             replace HO_7 := Aside0.mk (Kd.R_below (uf1_ HO_7) hb)
             replace BK227 := bb_ BK227 hb
             replace BK236 := bb_ BK236 hb
             replace HB := Aside0.mk (below_step (spec_GetsOf.calls_q0) hb)
             (try clear hb)
             (try clear hk hi)
             refine hK.out _ _ ⟨(blk_cell BK227.out 0).trans rfl, (blk_cell BK227.out 1).trans rfl, ((cl_ HB hw241_0).trans rfl), ((cl_ HB hw242_0).trans rfl), HS4_⟩ (fun hHeld => ?_)
             clear hK K
             refine nm_ ?_
             refine pw_ 13 48 (tl_ 19 16383) rfl rfl ?_
             refine pw_ 14 62 (tl_ 19 32767) rfl rfl ?_
             refine pw_ 15 63 (tl_ 19 65535) rfl rfl ?_
             refine one_ (i := 16) (N := some 11) (tl_ 19 131071) rfl rfl (one_of HT_.out (g0_)) (by decide) (fun K hK => ?_)
             refine bs_ (N := 11) #[.int .i64 0, .int .i64 0] 36 ?_
             intro gb247 hg w36 hbox hb
             have HS4_ := (hb.cell (World.block_lt_of_cell? _ _ (hHeld.2.2.2.2))).trans (hHeld.2.2.2.2)
             replace HO_6 := Aside0.mk (Kd.R_below (Kd.R_elderB (uf1_ HO_6) gb247 (Nat.le_of_eq hg.symm)) hb)
             replace HO_7 := Aside0.mk (Kd.R_below (uf1_ HO_7) hb)
             have BK247 := Aside0.mk (hbox)
             have GW247 := Aside0.mk ((g7_ : w.heap.size ≤ gb247))
             have GE247 := Aside0.mk ((g7_ : w.heap.size ≤ gb247))
             replace HB := Aside0.mk (below_step (spec_GetsOf.calls_q0) hb)
             have NB227_247 := Aside0.mk ((g17_ : gb227 ≠ gb247))
             have NB247_227 := Aside0.mk ((g18_ : gb247 ≠ gb227))
             replace BK227 := bb_ BK227 hb
             have NB236_247 := Aside0.mk ((g19_ : gb236 ≠ gb247))
             have NB247_236 := Aside0.mk ((g20_ : gb247 ≠ gb236))
             replace BK236 := bb_ BK236 hb
             clear hb hbox hg
             refine hK.out _ _ ⟨(blk_cell BK227.out 0).trans rfl, (blk_cell BK227.out 1).trans rfl, ((cl_ HB hw241_0).trans rfl), ((cl_ HB hw242_0).trans rfl), HS4_⟩ (fun hHeld => ?_)
             clear hK K
             refine nm_ ?_
             exact norm_ (g9_) (hCont (gb247) _ ⟨hHeld, (uf1_ HO_6), (uf1_ HO_7), (uf3_ BK227), (uf3_ BK236), (uf3_ BK247), GW247.out, GE247.out, NB227_247.out, NB247_227.out, NB236_247.out, NB247_236.out, (spec_GetsOf.calls_q0)⟩)
            ·skip
             refine bs_ (N := 11) #[.int .i64 0, .int .i64 0] 36 ?_
             intro gb247 hg w35 hbox hb
             have HS4_ := (hb.cell (World.block_lt_of_cell? _ _ (hHeld.2.2.2.2))).trans (hHeld.2.2.2.2)
             replace HO_6 := Aside0.mk (Kd.R_below (Kd.R_elderB (uf1_ HO_6) gb247 (Nat.le_of_eq hg.symm)) hb)
             replace HO_7 := Aside0.mk (Kd.R_below (uf1_ HO_7) hb)
             have BK247 := Aside0.mk (hbox)
             have GW247 := Aside0.mk ((g7_ : w.heap.size ≤ gb247))
             have GE247 := Aside0.mk ((g7_ : w.heap.size ≤ gb247))
             replace HB := Aside0.mk (below_step (spec_GetsOf.calls_q0) hb)
             have NB227_247 := Aside0.mk ((g17_ : gb227 ≠ gb247))
             have NB247_227 := Aside0.mk ((g18_ : gb247 ≠ gb227))
             replace BK227 := bb_ BK227 hb
             have NB236_247 := Aside0.mk ((g19_ : gb236 ≠ gb247))
             have NB247_236 := Aside0.mk ((g20_ : gb247 ≠ gb236))
             replace BK236 := bb_ BK236 hb
             clear hb hbox hg
             refine hK.out _ _ ⟨(blk_cell BK227.out 0).trans rfl, (blk_cell BK227.out 1).trans rfl, ((cl_ HB hw241_0).trans rfl), ((cl_ HB hw242_0).trans rfl), HS4_⟩ (fun hHeld => ?_)
             clear hK K
             refine nm_ ?_
             refine one_ (i := 12) (N := some 61) (tl_ 19 73727) rfl rfl (one_of HT_.out (g0_)) (by decide) (fun K hK => ?_)
             refine goes_ Try.func86 (g0_) rfl #[.int .i64 (rd (rd_L1 l0_1 x10_2) x8_1), .int .i64 (rd t232 x10_2)] (by rfl) rfl rfl (g2_) ?_
             with_reducible refine (spec_FracOf.calls k2 (rd (rd_L1 l0_1 x10_2) x8_1) (rd t232 x10_2) t244 t245 t246 _ A28.out).mono ?_
             rintro e w36 ⟨rfl, hb⟩
             have HS4_ := (hb.cell (World.block_lt_of_cell? _ _ (hHeld.2.2.2.2))).trans (hHeld.2.2.2.2)
             refine ⟨_, rfl, ?_⟩
             replace HO_6 := Aside0.mk (Kd.R_below (uf1_ HO_6) hb)
             replace HO_7 := Aside0.mk (Kd.R_below (uf1_ HO_7) hb)
             replace BK227 := bb_ BK227 hb
             replace BK236 := bb_ BK236 hb
             replace BK247 := bb_ BK247 hb
             replace HB := Aside0.mk (below_step (spec_GetsOf.calls_q0) hb)
             (try clear hb)
             (try clear hk hi)
             refine hK.out _ _ ⟨(blk_cell BK227.out 0).trans rfl, (blk_cell BK227.out 1).trans rfl, ((cl_ HB hw241_0).trans rfl), ((cl_ HB hw242_0).trans rfl), HS4_⟩ (fun hHeld => ?_)
             clear hK K
             refine nm_ ?_
             refine pw_ 13 48 (tl_ 19 81919) rfl rfl ?_
             refine pw_ 14 62 (tl_ 19 98303) rfl rfl ?_
             refine pw_ 15 63 (tl_ 19 131071) rfl rfl ?_
             exact norm_ (g9_) (hCont (gb247) _ ⟨hHeld, (uf1_ HO_6), (uf1_ HO_7), (uf3_ BK227), (uf3_ BK236), (uf3_ BK247), GW247.out, GE247.out, NB227_247.out, NB247_227.out, NB236_247.out, NB247_236.out, (spec_GetsOf.calls_q0)⟩)
           rintro gb247 w37 ⟨hS_, h0_, h1_, h2_, h3_, h4_, h5_, h6_, h7_, h8_, h9_, h10_, h11_⟩
           replace HO_6 : Aside0 (Kd.R k36 36 w37 w.heap.size (fun k_ => k_ ≠ gb236 ∧ k_ ≠ gb247) u6 x6_1) := ⟨h0_⟩
           replace HO_7 : Aside0 (Kd.R (Kd.int .i64) 3 w37 w.heap.size (fun _ => True) (.slice (some ad240) t232.length co33) t232) := ⟨h1_⟩
           replace BK227 : Aside0 (w37.heap[gb227]? = some (.cells #[.slice (some ad235) l0_0.length c0_0, .slice (some ad241) l0_1.length c0_1] 26 (0, 0))) := ⟨h2_⟩
           replace BK236 : Aside0 (w37.heap[gb236]? = some (.cells #[.int .i64 x237000_2, .int .i64 x237001_2] 36 (0, 0))) := ⟨h3_⟩
           have BK247 : Aside0 (w37.heap[gb247]? = some (.cells #[.int .i64 0, .int .i64 0] 36 (0, 0))) := ⟨h4_⟩
           have GW247 : Aside0 (w.heap.size ≤ gb247) := ⟨h5_⟩
           have GE247 : Aside0 (w.heap.size ≤ gb247) := ⟨h6_⟩
           have NB227_247 : Aside0 (gb227 ≠ gb247) := ⟨h7_⟩
           have NB247_227 : Aside0 (gb247 ≠ gb227) := ⟨h8_⟩
           have NB236_247 : Aside0 (gb236 ≠ gb247) := ⟨h9_⟩
           have NB247_236 : Aside0 (gb247 ≠ gb236) := ⟨h10_⟩
           replace HB : Aside0 (Below w.heap.size w w37) := ⟨h11_⟩
           clear h0_ h1_ h2_ h3_ h4_ h5_ h6_ h7_ h8_ h9_ h10_ h11_
           have hHeld : w37.cell? ⟨gb227, 0, none⟩ = some (.slice (some ad235) l0_0.length c0_0) ∧ w37.cell? ⟨gb227, 1, none⟩ = some (.slice (some ad241) l0_1.length c0_1) ∧ w37.cell? (ad241.add (x10_2).toNat) = some (.slice (some ad242) (rd_L1 l0_1 x10_2).length c241_0) ∧ w37.cell? (ad242.add (x8_1).toNat) = some (.int .i64 (rd (rd_L1 l0_1 x10_2) x8_1)) ∧ w37.cell? (ad240.add (x10_2).toNat) = some (.int .i64 (rd t232 x10_2)) := hS_
           refine norm_ (a' := ?_) ?_ ?_
           rotate_left
           ·simp only [putAll, Act.put, List.setIfInBounds_toArray, List.set_cons_zero, List.set_cons_succ]
            rfl
           refine one_ (i := 17) (N := none) (tl_ 19 262143) rfl rfl (one_of HT_.out (g0_)) (by decide) (fun K hK => ?_)
           have hs38 : w37.cell? ⟨gb247, 0, none⟩ = some (.int .i64 0) := (blk_cell BK247.out 0).trans rfl
           have hfs38 := blk_frozen BK247.out 0
           have hns38_0 := NB227_247.out
           have hns38_1 := NB236_247.out
           have hms38_0 := NB247_227.out
           have hms38_1 := NB247_236.out
           have hs39 : w37.cell? ⟨gb247, 1, none⟩ = some (.int .i64 0) := (blk_cell BK247.out 1).trans rfl
           have hfs39 := blk_frozen BK247.out 1
           have hns39_0 := NB227_247.out
           have hns39_1 := NB236_247.out
           have hms39_0 := NB247_227.out
           have hms39_1 := NB247_236.out
           refine skip_ (w1 := ?_) (by rfl) rfl ?_ ?_
           rotate_left
           ·go_simp
            rfl
           refine hK.out _ _ ⟨(cf_ NB227_247 ((cf_ NB227_247 (hHeld.1)))), (cf_ NB227_247 ((cf_ NB227_247 (hHeld.2.1)))), ((cell_far (p := ⟨gb247, _, none⟩) (by first | exact Nat.ne_of_lt (Nat.lt_of_lt_of_le (by have := World.block_lt_of_cell? _ _ hw241_0; first | rwa [add_block] at this | exact this) GW247.out) | (rw [add_block]; exact Nat.ne_of_lt (Nat.lt_of_lt_of_le (by have := World.block_lt_of_cell? _ _ hw241_0; first | rwa [add_block] at this | exact this) GW247.out)) | (show (Addr.add _ _).block ≠ _; rw [add_block]; exact Nat.ne_of_lt (Nat.lt_of_lt_of_le (by have := World.block_lt_of_cell? _ _ hw241_0; first | rwa [add_block] at this | exact this) GW247.out)) | (dsimp only; exact Nat.ne_of_lt (Nat.lt_of_lt_of_le (by have := World.block_lt_of_cell? _ _ hw241_0; first | rwa [add_block] at this | exact this) GW247.out))) _).trans (((cell_far (p := ⟨gb247, _, none⟩) (by first | exact Nat.ne_of_lt (Nat.lt_of_lt_of_le (by have := World.block_lt_of_cell? _ _ hw241_0; first | rwa [add_block] at this | exact this) GW247.out) | (rw [add_block]; exact Nat.ne_of_lt (Nat.lt_of_lt_of_le (by have := World.block_lt_of_cell? _ _ hw241_0; first | rwa [add_block] at this | exact this) GW247.out)) | (show (Addr.add _ _).block ≠ _; rw [add_block]; exact Nat.ne_of_lt (Nat.lt_of_lt_of_le (by have := World.block_lt_of_cell? _ _ hw241_0; first | rwa [add_block] at this | exact this) GW247.out)) | (dsimp only; exact Nat.ne_of_lt (Nat.lt_of_lt_of_le (by have := World.block_lt_of_cell? _ _ hw241_0; first | rwa [add_block] at this | exact this) GW247.out))) _).trans (hHeld.2.2.1)))), ((cell_far (p := ⟨gb247, _, none⟩) (by first | exact Nat.ne_of_lt (Nat.lt_of_lt_of_le (by have := World.block_lt_of_cell? _ _ hw242_0; first | rwa [add_block] at this | exact this) GW247.out) | (rw [add_block]; exact Nat.ne_of_lt (Nat.lt_of_lt_of_le (by have := World.block_lt_of_cell? _ _ hw242_0; first | rwa [add_block] at this | exact this) GW247.out)) | (show (Addr.add _ _).block ≠ _; rw [add_block]; exact Nat.ne_of_lt (Nat.lt_of_lt_of_le (by have := World.block_lt_of_cell? _ _ hw242_0; first | rwa [add_block] at this | exact this) GW247.out)) | (dsimp only; exact Nat.ne_of_lt (Nat.lt_of_lt_of_le (by have := World.block_lt_of_cell? _ _ hw242_0; first | rwa [add_block] at this | exact this) GW247.out))) _).trans (((cell_far (p := ⟨gb247, _, none⟩) (by first | exact Nat.ne_of_lt (Nat.lt_of_lt_of_le (by have := World.block_lt_of_cell? _ _ hw242_0; first | rwa [add_block] at this | exact this) GW247.out) | (rw [add_block]; exact Nat.ne_of_lt (Nat.lt_of_lt_of_le (by have := World.block_lt_of_cell? _ _ hw242_0; first | rwa [add_block] at this | exact this) GW247.out)) | (show (Addr.add _ _).block ≠ _; rw [add_block]; exact Nat.ne_of_lt (Nat.lt_of_lt_of_le (by have := World.block_lt_of_cell? _ _ hw242_0; first | rwa [add_block] at this | exact this) GW247.out)) | (dsimp only; exact Nat.ne_of_lt (Nat.lt_of_lt_of_le (by have := World.block_lt_of_cell? _ _ hw242_0; first | rwa [add_block] at this | exact this) GW247.out))) _).trans (hHeld.2.2.2.1)))), ((cell_far (p := ⟨gb247, _, none⟩) (g47_) _).trans (((cell_far (p := ⟨gb247, _, none⟩) (g47_) _).trans (hHeld.2.2.2.2))))⟩ (fun hHeld => ?_)
           clear hK K
           refine pw_ 18 12 (tl_ 19 524287) rfl rfl ?_
           refine done_ (done_of HT_.out (g0_)) ?_
           try go_wp2
           have n0_ : Aside0 (Kd.R k36 36 ((w37.setCell ⟨gb247, 0, none⟩ (.int .i64 t244)).setCell ⟨gb247, 1, none⟩ (.int .i64 t245)) w.heap.size (fun k_ => k_ ≠ gb236 ∧ k_ ≠ gb247) u6 x6_1) := ⟨g82_⟩
           have n1_ : Aside0 (Kd.R (Kd.int .i64) 3 ((w37.setCell ⟨gb247, 0, none⟩ (.int .i64 t244)).setCell ⟨gb247, 1, none⟩ (.int .i64 t245)) w.heap.size (fun _ => True) (.slice (some ad240) t232.length co33) t232) := ⟨g83_⟩
           have n2_ : Aside0 (((w37.setCell ⟨gb247, 0, none⟩ (.int .i64 t244)).setCell ⟨gb247, 1, none⟩ (.int .i64 t245)).heap[gb227]? = some (.cells #[.slice (some ad235) l0_0.length c0_0, .slice (some ad241) l0_1.length c0_1] 26 (0, 0))) := ⟨g84_⟩
           have n3_ : Aside0 (((w37.setCell ⟨gb247, 0, none⟩ (.int .i64 t244)).setCell ⟨gb247, 1, none⟩ (.int .i64 t245)).heap[gb236]? = some (.cells #[.int .i64 x237000_2, .int .i64 x237001_2] 36 (0, 0))) := ⟨g85_⟩
           have n4_ : Aside0 (((w37.setCell ⟨gb247, 0, none⟩ (.int .i64 t244)).setCell ⟨gb247, 1, none⟩ (.int .i64 t245)).heap[gb247]? = some (.cells #[.int .i64 t244, .int .i64 t245] 36 (0, 0))) := ⟨g86_⟩
           have n5_ : Aside0 (Below w.heap.size w ((w37.setCell ⟨gb247, 0, none⟩ (.int .i64 t244)).setCell ⟨gb247, 1, none⟩ (.int .i64 t245))) := ⟨spec_GetsOf.calls_q0⟩
           (try clear HO_6)
           (try clear HO_7)
           (try clear BK227)
           (try clear BK236)
           (try clear BK247)
           (try clear HB)
           generalize ((w37.setCell ⟨gb247, 0, none⟩ (.int .i64 t244)).setCell ⟨gb247, 1, none⟩ (.int .i64 t245)) = w40 at n0_ n1_ n2_ n3_ n4_ n5_ ⊢
           have HO_6 := n0_
           have HO_7 := n1_
           have BK227 := n2_
           have BK236 := n3_
           have BK247 := n4_
           have HB := n5_
           clear n0_ n1_ n2_ n3_ n4_ n5_
           replace HO_6 := Aside0.mk (Kd.R_drew HO_6.out)
           replace HO_7 := Aside0.mk (Kd.R_drew HO_7.out)
           replace BK227 := Aside0.mk (blk_drew BK227.out)
           replace BK236 := Aside0.mk (blk_drew BK236.out)
           replace BK247 := Aside0.mk (blk_drew BK247.out)
           replace HB := Aside0.mk (below_drew1 HB.out)
           have p248 : 0 ≤ (x10_2 : Int) := of_decide_eq_true (g1_)
           have q248 : x10_2 < (l1.length : Int) := of_decide_eq_true (g1_)
           obtain ⟨ad248, e248, hx248_0, hx248_1⟩ := at_T36 HR1.out x10_2 p248 q248
           have hw248_1 := hx248_1
           have hw248_0 := hx248_0
           cases e248
           replace hx248_0 := cl_ HB hx248_0
           replace hx248_1 := cl_ HB hx248_1
           replace p248 := eq_true p248
           replace q248 := eq_true q248
           refine start_ (n := 12) (S := fun w' => w'.cell? ⟨gb247, 0, none⟩ = some (.int .i64 t244) ∧ w'.cell? ⟨gb247, 1, none⟩ = some (.int .i64 t245) ∧ w'.cell? (ad248.add ((x10_2).toNat * 2)) = some (.int .i64 ((rd_T36 l1 x10_2).f0)) ∧ w'.cell? ⟨(ad248.add ((x10_2).toNat * 2)).block, (ad248.add ((x10_2).toNat * 2)).off + 1, none⟩ = some (.int .i64 ((rd_T36 l1 x10_2).f1))) (ds := []) (tl_ 12 0) (g0_) rfl (g0_) ⟨(blk_cell BK247.out 0).trans rfl, (blk_cell BK247.out 1).trans rfl, ((cl_ HB hw248_0).trans rfl), ((cl_ HB hw248_1).trans rfl)⟩ (fun hHeld => ?_); refine with_tabW spec_GetsOf.tab14 spec_GetsOf.bits14 (fun HT_ HW_ => ?_)
           generalize w40.drew = w41 at HO_6 HO_7 BK227 BK236 BK247 HB hx248_0 hx248_1 hHeld ⊢
           refine pw_ 0 65 (tl_ 12 1) rfl rfl ?_
           refine pw_ 1 66 (tl_ 12 3) rfl rfl ?_
           refine pw_ 2 67 (tl_ 12 7) rfl rfl ?_
           refine tk0_ 3 68 (tl_ 12 15) rfl rfl hHeld ?_
           refine tk0_ 4 69 (tl_ 12 31) rfl rfl hHeld ?_
           refine join_ (σ := Nat) 2 (tl_ 12 1023) (fun s_ => [(70, .tuple #[.agg #[.int .i64 t249, .int .i64 t250], .bool true]), (13, .pointer (some ⟨s_, 0, none⟩)), (64, .tuple #[.agg #[.int .i64 t249, .int .i64 t250], .bool true]), (71, .agg #[.int .i64 t249, .int .i64 t250]), (72, .bool true)]) (fun s_ w' => (w'.cell? ⟨gb247, 0, none⟩ = some (.int .i64 t244) ∧ w'.cell? ⟨gb247, 1, none⟩ = some (.int .i64 t245) ∧ w'.cell? (ad248.add ((x10_2).toNat * 2)) = some (.int .i64 ((rd_T36 l1 x10_2).f0)) ∧ w'.cell? ⟨(ad248.add ((x10_2).toNat * 2)).block, (ad248.add ((x10_2).toNat * 2)).off + 1, none⟩ = some (.int .i64 ((rd_T36 l1 x10_2).f1))) ∧ (Kd.R k36 36 w' w.heap.size (fun k_ => k_ ≠ gb236 ∧ k_ ≠ gb247 ∧ k_ ≠ s_) u6 x6_1) ∧ (Kd.R (Kd.int .i64) 3 w' w.heap.size (fun _ => True) (.slice (some ad240) t232.length co33) t232) ∧ (w'.heap[gb227]? = some (.cells #[.slice (some ad235) l0_0.length c0_0, .slice (some ad241) l0_1.length c0_1] 26 (0, 0))) ∧ (w'.heap[gb236]? = some (.cells #[.int .i64 x237000_2, .int .i64 x237001_2] 36 (0, 0))) ∧ (w'.heap[gb247]? = some (.cells #[.int .i64 t244, .int .i64 t245] 36 (0, 0))) ∧ (w'.heap[s_]? = some (.cells #[.int .i64 0, .int .i64 0] 36 (0, 0))) ∧ (w.heap.size ≤ s_) ∧ (w.heap.size ≤ s_) ∧ (gb227 ≠ s_) ∧ (s_ ≠ gb227) ∧ (gb236 ≠ s_) ∧ (s_ ≠ gb236) ∧ (gb247 ≠ s_) ∧ (s_ ≠ gb247) ∧ (Below w.heap.size w w')) ?_ ?_
           rotate_left
           ·intro hCont
            refine two_ (i := 5) (j := 9) (Ni := some 70) (Nj := some 13) (tl_ 12 63) (tl_ 12 543) rfl rfl rfl rfl (two_of HT_.out (g0_)) (by decide) (by decide) (fun K hK => ?_) (fun K hK => ?_)
            ·skip
             refine goes_ Try.func87 (g0_) rfl #[.agg #[.int .i64 ((rd_T36 l1 x10_2).f0), .int .i64 ((rd_T36 l1 x10_2).f1)], .agg #[.int .i64 t244, .int .i64 t245]] (by rfl) rfl rfl (g2_) ?_
             with_reducible refine (spec_TimesOf.calls k2 ((rd_T36 l1 x10_2).f0) ((rd_T36 l1 x10_2).f1) t244 t245 t249 t250 true _ A29.out).mono ?_
             rintro e w42 ⟨rfl, hb⟩
             refine ⟨_, rfl, ?_⟩
             replace HO_6 := Aside0.mk (Kd.R_below (uf1_ HO_6) hb)
             replace HO_7 := Aside0.mk (Kd.R_below (uf1_ HO_7) hb)
             replace BK227 := bb_ BK227 hb
             replace BK236 := bb_ BK236 hb
             replace BK247 := bb_ BK247 hb
             replace HB := Aside0.mk (below_step (spec_GetsOf.calls_q0) hb)
             (try clear hb)
             (try clear hk hi)
             refine hK.out _ _ ⟨(blk_cell BK247.out 0).trans rfl, (blk_cell BK247.out 1).trans rfl, ((cl_ HB hw248_0).trans rfl), ((cl_ HB hw248_1).trans rfl)⟩ (fun hHeld => ?_)
             clear hK K
             refine nm_ ?_
             refine pw_ 6 64 (tl_ 12 127) rfl rfl ?_
             refine pw_ 7 71 (tl_ 12 255) rfl rfl ?_
             refine pw_ 8 72 (tl_ 12 511) rfl rfl ?_
             refine one_ (i := 9) (N := some 13) (tl_ 12 1023) rfl rfl (one_of HT_.out (g0_)) (by decide) (fun K hK => ?_)
             refine bs_ (N := 13) #[.int .i64 0, .int .i64 0] 36 ?_
             intro gb252 hg w43 hbox hb
             replace HO_6 := Aside0.mk (Kd.R_below (Kd.R_elderB (uf1_ HO_6) gb252 (Nat.le_of_eq hg.symm)) hb)
             replace HO_7 := Aside0.mk (Kd.R_below (uf1_ HO_7) hb)
             have BK252 := Aside0.mk (hbox)
             have GW252 := Aside0.mk ((g7_ : w.heap.size ≤ gb252))
             have GE252 := Aside0.mk ((g7_ : w.heap.size ≤ gb252))
             replace HB := Aside0.mk (below_step (spec_GetsOf.calls_q0) hb)
             have NB227_252 := Aside0.mk ((g17_ : gb227 ≠ gb252))
             have NB252_227 := Aside0.mk ((g18_ : gb252 ≠ gb227))
             replace BK227 := bb_ BK227 hb
             have NB236_252 := Aside0.mk ((g19_ : gb236 ≠ gb252))
             have NB252_236 := Aside0.mk ((g20_ : gb252 ≠ gb236))
             replace BK236 := bb_ BK236 hb
             have NB247_252 := Aside0.mk ((g27_ : gb247 ≠ gb252))
             have NB252_247 := Aside0.mk ((g28_ : gb252 ≠ gb247))
             replace BK247 := bb_ BK247 hb
             clear hb hbox hg
             refine hK.out _ _ ⟨(blk_cell BK247.out 0).trans rfl, (blk_cell BK247.out 1).trans rfl, ((cl_ HB hw248_0).trans rfl), ((cl_ HB hw248_1).trans rfl)⟩ (fun hHeld => ?_)
             clear hK K
             refine nm_ ?_
             exact norm_ (g9_) (hCont (gb252) _ ⟨hHeld, (g48_), (uf1_ HO_7), (uf3_ BK227), (uf3_ BK236), (uf3_ BK247), (uf3_ BK252), GW252.out, GE252.out, NB227_252.out, NB252_227.out, NB236_252.out, NB252_236.out, NB247_252.out, NB252_247.out, (spec_GetsOf.calls_q0)⟩)
            ·skip
             refine bs_ (N := 13) #[.int .i64 0, .int .i64 0] 36 ?_
             intro gb252 hg w42 hbox hb
             replace HO_6 := Aside0.mk (Kd.R_below (Kd.R_elderB (uf1_ HO_6) gb252 (Nat.le_of_eq hg.symm)) hb)
             replace HO_7 := Aside0.mk (Kd.R_below (uf1_ HO_7) hb)
             have BK252 := Aside0.mk (hbox)
             have GW252 := Aside0.mk ((g7_ : w.heap.size ≤ gb252))
             have GE252 := Aside0.mk ((g7_ : w.heap.size ≤ gb252))
             replace HB := Aside0.mk (below_step (spec_GetsOf.calls_q0) hb)
             have NB227_252 := Aside0.mk ((g17_ : gb227 ≠ gb252))
             have NB252_227 := Aside0.mk ((g18_ : gb252 ≠ gb227))
             replace BK227 := bb_ BK227 hb
             have NB236_252 := Aside0.mk ((g19_ : gb236 ≠ gb252))
             have NB252_236 := Aside0.mk ((g20_ : gb252 ≠ gb236))
             replace BK236 := bb_ BK236 hb
             have NB247_252 := Aside0.mk ((g27_ : gb247 ≠ gb252))
             have NB252_247 := Aside0.mk ((g28_ : gb252 ≠ gb247))
             replace BK247 := bb_ BK247 hb
             clear hb hbox hg
             refine hK.out _ _ ⟨(blk_cell BK247.out 0).trans rfl, (blk_cell BK247.out 1).trans rfl, ((cl_ HB hw248_0).trans rfl), ((cl_ HB hw248_1).trans rfl)⟩ (fun hHeld => ?_)
             clear hK K
             refine nm_ ?_
             refine one_ (i := 5) (N := some 70) (tl_ 12 575) rfl rfl (one_of HT_.out (g0_)) (by decide) (fun K hK => ?_)
             refine goes_ Try.func87 (g0_) rfl #[.agg #[.int .i64 ((rd_T36 l1 x10_2).f0), .int .i64 ((rd_T36 l1 x10_2).f1)], .agg #[.int .i64 t244, .int .i64 t245]] (by rfl) rfl rfl (g2_) ?_
             with_reducible refine (spec_TimesOf.calls k2 ((rd_T36 l1 x10_2).f0) ((rd_T36 l1 x10_2).f1) t244 t245 t249 t250 true _ A29.out).mono ?_
             rintro e w43 ⟨rfl, hb⟩
             refine ⟨_, rfl, ?_⟩
             replace HO_6 := Aside0.mk (Kd.R_below (uf1_ HO_6) hb)
             replace HO_7 := Aside0.mk (Kd.R_below (uf1_ HO_7) hb)
             replace BK227 := bb_ BK227 hb
             replace BK236 := bb_ BK236 hb
             replace BK247 := bb_ BK247 hb
             replace BK252 := bb_ BK252 hb
             replace HB := Aside0.mk (below_step (spec_GetsOf.calls_q0) hb)
             (try clear hb)
             (try clear hk hi)
             refine hK.out _ _ ⟨(blk_cell BK247.out 0).trans rfl, (blk_cell BK247.out 1).trans rfl, ((cl_ HB hw248_0).trans rfl), ((cl_ HB hw248_1).trans rfl)⟩ (fun hHeld => ?_)
             clear hK K
             refine nm_ ?_
             refine pw_ 6 64 (tl_ 12 639) rfl rfl ?_
             refine pw_ 7 71 (tl_ 12 767) rfl rfl ?_
             refine pw_ 8 72 (tl_ 12 1023) rfl rfl ?_
             exact norm_ (g9_) (hCont (gb252) _ ⟨hHeld, (g48_), (uf1_ HO_7), (uf3_ BK227), (uf3_ BK236), (uf3_ BK247), (uf3_ BK252), GW252.out, GE252.out, NB227_252.out, NB252_227.out, NB236_252.out, NB252_236.out, NB247_252.out, NB252_247.out, (spec_GetsOf.calls_q0)⟩)
           rintro gb252 w44 ⟨hS_, h0_, h1_, h2_, h3_, h4_, h5_, h6_, h7_, h8_, h9_, h10_, h11_, h12_, h13_, h14_⟩
           replace HO_6 : Aside0 (Kd.R k36 36 w44 w.heap.size (fun k_ => k_ ≠ gb236 ∧ k_ ≠ gb247 ∧ k_ ≠ gb252) u6 x6_1) := ⟨h0_⟩
           replace HO_7 : Aside0 (Kd.R (Kd.int .i64) 3 w44 w.heap.size (fun _ => True) (.slice (some ad240) t232.length co33) t232) := ⟨h1_⟩
           replace BK227 : Aside0 (w44.heap[gb227]? = some (.cells #[.slice (some ad235) l0_0.length c0_0, .slice (some ad241) l0_1.length c0_1] 26 (0, 0))) := ⟨h2_⟩
           replace BK236 : Aside0 (w44.heap[gb236]? = some (.cells #[.int .i64 x237000_2, .int .i64 x237001_2] 36 (0, 0))) := ⟨h3_⟩
           replace BK247 : Aside0 (w44.heap[gb247]? = some (.cells #[.int .i64 t244, .int .i64 t245] 36 (0, 0))) := ⟨h4_⟩
           have BK252 : Aside0 (w44.heap[gb252]? = some (.cells #[.int .i64 0, .int .i64 0] 36 (0, 0))) := ⟨h5_⟩
           have GW252 : Aside0 (w.heap.size ≤ gb252) := ⟨h6_⟩
           have GE252 : Aside0 (w.heap.size ≤ gb252) := ⟨h7_⟩
           have NB227_252 : Aside0 (gb227 ≠ gb252) := ⟨h8_⟩
           have NB252_227 : Aside0 (gb252 ≠ gb227) := ⟨h9_⟩
           have NB236_252 : Aside0 (gb236 ≠ gb252) := ⟨h10_⟩
           have NB252_236 : Aside0 (gb252 ≠ gb236) := ⟨h11_⟩
           have NB247_252 : Aside0 (gb247 ≠ gb252) := ⟨h12_⟩
           have NB252_247 : Aside0 (gb252 ≠ gb247) := ⟨h13_⟩
           replace HB : Aside0 (Below w.heap.size w w44) := ⟨h14_⟩
           clear h0_ h1_ h2_ h3_ h4_ h5_ h6_ h7_ h8_ h9_ h10_ h11_ h12_ h13_ h14_
           have hHeld : w44.cell? ⟨gb247, 0, none⟩ = some (.int .i64 t244) ∧ w44.cell? ⟨gb247, 1, none⟩ = some (.int .i64 t245) ∧ w44.cell? (ad248.add ((x10_2).toNat * 2)) = some (.int .i64 ((rd_T36 l1 x10_2).f0)) ∧ w44.cell? ⟨(ad248.add ((x10_2).toNat * 2)).block, (ad248.add ((x10_2).toNat * 2)).off + 1, none⟩ = some (.int .i64 ((rd_T36 l1 x10_2).f1)) := hS_
           refine norm_ (a' := ?_) ?_ ?_
           rotate_left
           ·simp only [putAll, Act.put, List.setIfInBounds_toArray, List.set_cons_zero, List.set_cons_succ]
            rfl
           refine one_ (i := 10) (N := none) (tl_ 12 2047) rfl rfl (one_of HT_.out (g0_)) (by decide) (fun K hK => ?_)
           have hs45 : w44.cell? ⟨gb252, 0, none⟩ = some (.int .i64 0) := (blk_cell BK252.out 0).trans rfl
           have hfs45 := blk_frozen BK252.out 0
           have hns45_0 := NB227_252.out
           have hns45_1 := NB236_252.out
           have hns45_2 := NB247_252.out
           have hms45_0 := NB252_227.out
           have hms45_1 := NB252_236.out
           have hms45_2 := NB252_247.out
           have hs46 : w44.cell? ⟨gb252, 1, none⟩ = some (.int .i64 0) := (blk_cell BK252.out 1).trans rfl
           have hfs46 := blk_frozen BK252.out 1
           have hns46_0 := NB227_252.out
           have hns46_1 := NB236_252.out
           have hns46_2 := NB247_252.out
           have hms46_0 := NB252_227.out
           have hms46_1 := NB252_236.out
           have hms46_2 := NB252_247.out
           refine skip_ (w1 := ?_) (by rfl) rfl ?_ ?_
           rotate_left
           ·go_simp
            rfl
           refine hK.out _ _ ⟨(cf_ NB247_252 ((cf_ NB247_252 (hHeld.1)))), (cf_ NB247_252 ((cf_ NB247_252 (hHeld.2.1)))), ((cell_far (p := ⟨gb252, _, none⟩) (by first | exact Nat.ne_of_lt (Nat.lt_of_lt_of_le (by have := World.block_lt_of_cell? _ _ hw248_0; first | rwa [add_block] at this | exact this) GW252.out) | (rw [add_block]; exact Nat.ne_of_lt (Nat.lt_of_lt_of_le (by have := World.block_lt_of_cell? _ _ hw248_0; first | rwa [add_block] at this | exact this) GW252.out)) | (show (Addr.add _ _).block ≠ _; rw [add_block]; exact Nat.ne_of_lt (Nat.lt_of_lt_of_le (by have := World.block_lt_of_cell? _ _ hw248_0; first | rwa [add_block] at this | exact this) GW252.out)) | (dsimp only; exact Nat.ne_of_lt (Nat.lt_of_lt_of_le (by have := World.block_lt_of_cell? _ _ hw248_0; first | rwa [add_block] at this | exact this) GW252.out))) _).trans (((cell_far (p := ⟨gb252, _, none⟩) (by first | exact Nat.ne_of_lt (Nat.lt_of_lt_of_le (by have := World.block_lt_of_cell? _ _ hw248_0; first | rwa [add_block] at this | exact this) GW252.out) | (rw [add_block]; exact Nat.ne_of_lt (Nat.lt_of_lt_of_le (by have := World.block_lt_of_cell? _ _ hw248_0; first | rwa [add_block] at this | exact this) GW252.out)) | (show (Addr.add _ _).block ≠ _; rw [add_block]; exact Nat.ne_of_lt (Nat.lt_of_lt_of_le (by have := World.block_lt_of_cell? _ _ hw248_0; first | rwa [add_block] at this | exact this) GW252.out)) | (dsimp only; exact Nat.ne_of_lt (Nat.lt_of_lt_of_le (by have := World.block_lt_of_cell? _ _ hw248_0; first | rwa [add_block] at this | exact this) GW252.out))) _).trans (hHeld.2.2.1)))), ((cell_far (p := ⟨gb252, _, none⟩) (by first | exact Nat.ne_of_lt (Nat.lt_of_lt_of_le (by have := World.block_lt_of_cell? _ _ hw248_1; first | rwa [add_block] at this | exact this) GW252.out) | (rw [add_block]; exact Nat.ne_of_lt (Nat.lt_of_lt_of_le (by have := World.block_lt_of_cell? _ _ hw248_1; first | rwa [add_block] at this | exact this) GW252.out)) | (show (Addr.add _ _).block ≠ _; rw [add_block]; exact Nat.ne_of_lt (Nat.lt_of_lt_of_le (by have := World.block_lt_of_cell? _ _ hw248_1; first | rwa [add_block] at this | exact this) GW252.out)) | (dsimp only; exact Nat.ne_of_lt (Nat.lt_of_lt_of_le (by have := World.block_lt_of_cell? _ _ hw248_1; first | rwa [add_block] at this | exact this) GW252.out))) _).trans (((cell_far (p := ⟨gb252, _, none⟩) (by first | exact Nat.ne_of_lt (Nat.lt_of_lt_of_le (by have := World.block_lt_of_cell? _ _ hw248_1; first | rwa [add_block] at this | exact this) GW252.out) | (rw [add_block]; exact Nat.ne_of_lt (Nat.lt_of_lt_of_le (by have := World.block_lt_of_cell? _ _ hw248_1; first | rwa [add_block] at this | exact this) GW252.out)) | (show (Addr.add _ _).block ≠ _; rw [add_block]; exact Nat.ne_of_lt (Nat.lt_of_lt_of_le (by have := World.block_lt_of_cell? _ _ hw248_1; first | rwa [add_block] at this | exact this) GW252.out)) | (dsimp only; exact Nat.ne_of_lt (Nat.lt_of_lt_of_le (by have := World.block_lt_of_cell? _ _ hw248_1; first | rwa [add_block] at this | exact this) GW252.out))) _).trans (hHeld.2.2.2))))⟩ (fun hHeld => ?_)
           clear hK K
           refine pw_ 11 14 (tl_ 12 4095) rfl rfl ?_
           refine done_ (done_of HT_.out (g0_)) ?_
           have hnb47 := NB236_227.out
           have hnc47 := NB227_236.out
           have hnb48 := NB236_247.out
           have hnc48 := NB247_236.out
           have hnb49 := NB236_252.out
           have hnc49 := NB252_236.out
           obtain ⟨hcz50_0, hcz50_1, hfz50_0, hfz50_1⟩ := blk2_ BK236
           have hnb51 := NB252_227.out
           have hnc51 := NB227_252.out
           have hnb52 := NB252_247.out
           have hnc52 := NB247_252.out
           obtain ⟨hcz53_0, hcz53_1, hfz53_0, hfz53_1⟩ := blk2_ BK252
           try go_wp2_with (first | ((with_reducible refine gate_callee (f := 71) rfl ?_); refine goesL_ (some 76) rfl rfl Try.func71 k_ rfl #[.agg #[.int .i64 x237000_2, .int .i64 x237001_2], .agg #[.int .i64 t249, .int .i64 t250]] rfl (g2_) ?_; (with_reducible refine (spec_PlusOf.calls k2 x237000_2 x237001_2 t249 t250 t253 t254 true _ A30.out).mono ?_); rintro e w54 ⟨rfl, hb⟩; refine ⟨_, rfl, ?_⟩; replace HO_6 := Aside0.mk (Kd.R_below (g87_) hb); replace HO_7 := Aside0.mk (Kd.R_below (g88_) hb); replace BK227 := Aside0.mk (blk_below (g := gb227) (o := .cells #[.slice (some ad235) l0_0.length c0_0, .slice (some ad241) l0_1.length c0_1] 26 (0, 0)) (g89_) hb); replace BK236 := Aside0.mk (blk_below (g := gb236) (o := .cells #[.int .i64 x237000_2, .int .i64 x237001_2] 36 (0, 0)) (g90_) hb); replace BK247 := Aside0.mk (blk_below (g := gb247) (o := .cells #[.int .i64 t244, .int .i64 t245] 36 (0, 0)) (g91_) hb); replace BK252 := Aside0.mk (blk_below (g := gb252) (o := .cells #[.int .i64 t249, .int .i64 t250] 36 (0, 0)) (g92_) hb); replace HB := Aside0.mk (below_step (spec_GetsOf.calls_q0) hb); (try clear hb); (try clear hk hi)) | ((with_reducible refine gate_dst (N := 15) rfl ?_); refine bx_ (N := 15) #[.int .i64 0, .int .i64 0] 36 ?_; intro gb256 hg w55 hbox hb; replace HO_6 := Aside0.mk (Kd.R_below (Kd.R_elderB (uf1_ HO_6) gb256 (Nat.le_of_eq hg.symm)) hb); replace HO_7 := Aside0.mk (Kd.R_below (uf1_ HO_7) hb); have BK256 := Aside0.mk (hbox); have GW256 := Aside0.mk ((g7_ : w.heap.size ≤ gb256)); have GE256 := Aside0.mk ((g7_ : w.heap.size ≤ gb256)); replace HB := Aside0.mk (below_step (spec_GetsOf.calls_q0) hb); have NB227_256 := Aside0.mk ((g17_ : gb227 ≠ gb256)); have NB256_227 := Aside0.mk ((g18_ : gb256 ≠ gb227)); replace BK227 := bb_ BK227 hb; have NB236_256 := Aside0.mk ((g19_ : gb236 ≠ gb256)); have NB256_236 := Aside0.mk ((g20_ : gb256 ≠ gb236)); replace BK236 := bb_ BK236 hb; have NB247_256 := Aside0.mk ((g27_ : gb247 ≠ gb256)); have NB256_247 := Aside0.mk ((g28_ : gb256 ≠ gb247)); replace BK247 := bb_ BK247 hb; have NB252_256 := Aside0.mk ((g93_ : gb252 ≠ gb256)); have NB256_252 := Aside0.mk ((g94_ : gb256 ≠ gb252)); replace BK252 := bb_ BK252 hb; clear hb hbox hg; have hnb56 := NB256_227.out; have hnc56 := NB227_256.out; have hnb57 := NB256_236.out; have hnc57 := NB236_256.out; have hnb58 := NB256_247.out; have hnc58 := NB247_256.out; have hnb59 := NB256_252.out; have hnc59 := NB252_256.out; obtain ⟨hcz60_0, hcz60_1, hfz60_0, hfz60_1⟩ := blk2_ BK256; obtain ⟨hcz61_0, hcz61_1, hfz61_0, hfz61_1⟩ := blk2_ BK236))
           go_roundg k2
           case measure => have := HK1.out; have := HK2.out; omega
           case rel => exact ⟨(wrap64 (x10_2 + 1)), (t253), (t254), (g3_), H', ⟨g46_⟩, ⟨by (with_reducible repeat (first | apply Kd.R_alloc | apply Kd.R_drewN | apply Kd.R_drew)); exact Kd.R_mono (Kd.R_far (p := ⟨gb236, 1, none⟩) (Kd.R_far (p := ⟨gb236, 0, none⟩) (Kd.R_far (p := ⟨gb256, 1, none⟩) (Kd.R_far (p := ⟨gb256, 0, none⟩) (Kd.R_mono (Kd.R_mono HO_6.out (fun k_ hk => (⟨hk, hk.2⟩ : _ ∧ k_ ≠ gb256))) (fun k_ hk => (⟨hk, hk.1.1.1⟩ : _ ∧ k_ ≠ gb236))) (fun _ hk => hk.1.2) (.int .i64 t253)) (fun _ hk => hk.1.2) (.int .i64 t254)) (fun _ hk => hk.2) (.int .i64 t253)) (fun _ hk => hk.2) (.int .i64 t254)) (fun _ hk => hk.1.1.1.1)⟩, ⟨by (with_reducible repeat (first | apply Kd.R_alloc | apply Kd.R_drewN | apply Kd.R_drew)); exact Kd.R_mono (Kd.R_far (p := ⟨gb236, 1, none⟩) (Kd.R_far (p := ⟨gb236, 0, none⟩) (Kd.R_far (p := ⟨gb256, 1, none⟩) (Kd.R_far (p := ⟨gb256, 0, none⟩) (Kd.R_types (Kd.R_types HO_7.out BK256.out (by decide)) BK236.out (by decide)) (fun _ hk => hk.1.2) (.int .i64 t253)) (fun _ hk => hk.1.2) (.int .i64 t254)) (fun _ hk => hk.2) (.int .i64 t253)) (fun _ hk => hk.2) (.int .i64 t254)) (fun _ hk => trivial)⟩, ⟨by (with_reducible repeat (first | refine blk_drewN ?_ _ | refine blk_drew ?_ | refine blk_alloc ?_ _)); refine blk_far ?_ NB227_236.out _; (with_reducible repeat (first | refine blk_drewN ?_ _ | refine blk_drew ?_ | refine blk_alloc ?_ _)); refine blk_far ?_ NB227_236.out _; (with_reducible repeat (first | refine blk_drewN ?_ _ | refine blk_drew ?_ | refine blk_alloc ?_ _)); refine blk_far ?_ NB227_256.out _; (with_reducible repeat (first | refine blk_drewN ?_ _ | refine blk_drew ?_ | refine blk_alloc ?_ _)); refine blk_far ?_ NB227_256.out _; (with_reducible repeat (first | refine blk_drewN ?_ _ | refine blk_drew ?_ | refine blk_alloc ?_ _)); exact BK227.out⟩, ⟨by (with_reducible repeat (first | refine blk_drewN ?_ _ | refine blk_drew ?_ | refine blk_alloc ?_ _)); refine blk_put (cs := #[.int .i64 t253, .int .i64 x237001_2]) ?_ 1 _ rfl; (with_reducible repeat (first | refine blk_drewN ?_ _ | refine blk_drew ?_ | refine blk_alloc ?_ _)); refine blk_put (cs := #[.int .i64 x237000_2, .int .i64 x237001_2]) ?_ 0 _ rfl; (with_reducible repeat (first | refine blk_drewN ?_ _ | refine blk_drew ?_ | refine blk_alloc ?_ _)); refine blk_far ?_ NB236_256.out _; (with_reducible repeat (first | refine blk_drewN ?_ _ | refine blk_drew ?_ | refine blk_alloc ?_ _)); refine blk_far ?_ NB236_256.out _; (with_reducible repeat (first | refine blk_drewN ?_ _ | refine blk_drew ?_ | refine blk_alloc ?_ _)); exact BK236.out⟩, ⟨spec_GetsOf.calls_q0⟩⟩
          ·replace c32 := Bool.eq_false_iff.mpr c32
           subst c32
           replace H := ifn_ H
           obtain ⟨y257, hy257⟩ : ∃ y_ : List (S36), y_ = (([] : List (S36))) := ⟨_, rfl⟩
           replace H : (some (y257, false)) = some (r1, r2) := by first | (rw [hy257]; with_reducible exact H) | (have H2_ := (Option.bind_some _ _).symm.trans H; rw [hy257]; with_reducible exact H2_) | (have H2_ := (Option.bind_some _ _).symm.trans H; with_reducible exact H2_) | with_reducible exact H | (rw [hy257]; exact H) | exact H
           have Ny257 := Aside0.mk hy257
           clear hy257
           simp only [Option.some.injEq, Prod.mk.injEq] at H
           obtain ⟨rfl, rfl⟩ := H
           obtain ⟨Ao62, co62, eo62⟩ := Kd.R_slice HO_7.out
           subst eo62
           have p240 : 0 ≤ (x10_2 : Int) := of_decide_eq_true (g1_)
           have q240 : x10_2 < (t232.length : Int) := of_decide_eq_true (g1_)
           obtain ⟨ad240, e240, hx240_0⟩ := Kd.at_int (Kd.R_reads' HO_7.out).2.2 x10_2 p240 q240
           cases e240
           replace p240 := eq_true p240
           replace q240 := eq_true q240
           try go_wp2
           replace HO_6 := Aside0.mk (Kd.R_drew HO_6.out)
           replace HO_7 := Aside0.mk (Kd.R_drew HO_7.out)
           replace BK227 := Aside0.mk (blk_drew BK227.out)
           replace BK236 := Aside0.mk (blk_drew BK236.out)
           replace HB := Aside0.mk (below_drew1 HB.out)
           have p241 : 0 ≤ (x10_2 : Int) := of_decide_eq_true (g1_)
           have q241 : x10_2 < (l0_1.length : Int) := of_decide_eq_true (g1_)
           obtain ⟨ad241, A241_0, c241_0, e241, hx241_0, hl241_0, hi241_0⟩ := at_L1 HR0_1.out x10_2 p241 q241
           have hw241_0 := hx241_0
           cases e241
           replace hx241_0 := cl_ HB hx241_0
           have HR241_0 := Aside0.mk hi241_0
           have HC241_0 := Aside0.mk hl241_0
           clear hi241_0 hl241_0
           replace p241 := eq_true p241
           replace q241 := eq_true q241
           have p242 : 0 ≤ (x8_1 : Int) := of_decide_eq_true (g1_)
           have q242 : x8_1 < ((rd_L1 l0_1 x10_2).length : Int) := of_decide_eq_true (g1_)
           obtain ⟨ad242, e242, hx242_0⟩ := Kd.at_int HR241_0.out x8_1 p242 q242
           have hw242_0 := hx242_0
           cases e242
           replace hx242_0 := cl_ HB hx242_0
           replace p242 := eq_true p242
           replace q242 := eq_true q242
           have p243 : 0 ≤ (x10_2 : Int) := of_decide_eq_true (g1_)
           have q243 : x10_2 < (t232.length : Int) := of_decide_eq_true (g1_)
           obtain ⟨ad243, e243, hx243_0⟩ := Kd.at_int (Kd.R_reads' HO_7.out).2.2 x10_2 p243 q243
           obtain rfl : ad240 = ad243 := (by injection e243)
           replace p243 := eq_true p243
           replace q243 := eq_true q243
           refine start_ (n := 19) (S := fun w' => w'.cell? ⟨gb227, 0, none⟩ = some (.slice (some ad235) l0_0.length c0_0) ∧ w'.cell? ⟨gb227, 1, none⟩ = some (.slice (some ad241) l0_1.length c0_1) ∧ w'.cell? (ad241.add (x10_2).toNat) = some (.slice (some ad242) (rd_L1 l0_1 x10_2).length c241_0) ∧ w'.cell? (ad242.add (x8_1).toNat) = some (.int .i64 (rd (rd_L1 l0_1 x10_2) x8_1)) ∧ w'.cell? (ad240.add (x10_2).toNat) = some (.int .i64 (rd t232 x10_2))) (ds := []) (tl_ 19 0) (g0_) rfl (g0_) ⟨(blk_cell BK227.out 0).trans rfl, (blk_cell BK227.out 1).trans rfl, ((cl_ HB hw241_0).trans rfl), ((cl_ HB hw242_0).trans rfl), hx243_0⟩ (fun hHeld => ?_); refine with_tabW spec_GetsOf.tab13 spec_GetsOf.bits13 (fun HT_ HW_ => ?_)
           generalize wr.drew = w63 at HO_6 HO_7 BK227 BK236 HB HR241_0 hx241_0 hx242_0 hx243_0 hHeld ⊢
           refine pw_ 0 49 (tl_ 19 1) rfl rfl ?_
           refine pw_ 2 51 (tl_ 19 5) rfl rfl ?_
           refine pw_ 5 54 (tl_ 19 37) rfl rfl ?_
           refine pw_ 8 57 (tl_ 19 293) rfl rfl ?_
           refine pw_ 9 58 (tl_ 19 805) rfl rfl ?_
           refine pw_ 10 59 (tl_ 19 1829) rfl rfl ?_
           refine tk5_ 1 50 (tl_ 19 1831) rfl rfl hHeld ?_
           refine pw_ 3 52 (tl_ 19 1839) rfl rfl ?_
           refine tk5_ 4 53 (tl_ 19 1855) rfl rfl hHeld ?_
           refine pw_ 6 55 (tl_ 19 1919) rfl rfl ?_
           refine tk5_ 7 56 (tl_ 19 2047) rfl rfl hHeld ?_
           refine tk5_ 11 60 (tl_ 19 4095) rfl rfl hHeld ?_
           refine join_ (σ := Nat) 2 (tl_ 19 131071) (fun s_ => [(61, .tuple #[.agg #[.int .i64 t244, .int .i64 t245], .bool t246]), (11, .pointer (some ⟨s_, 0, none⟩)), (48, .tuple #[.agg #[.int .i64 t244, .int .i64 t245], .bool t246]), (62, .agg #[.int .i64 t244, .int .i64 t245]), (63, .bool t246)]) (fun s_ w' => (w'.cell? ⟨gb227, 0, none⟩ = some (.slice (some ad235) l0_0.length c0_0) ∧ w'.cell? ⟨gb227, 1, none⟩ = some (.slice (some ad241) l0_1.length c0_1) ∧ w'.cell? (ad241.add (x10_2).toNat) = some (.slice (some ad242) (rd_L1 l0_1 x10_2).length c241_0) ∧ w'.cell? (ad242.add (x8_1).toNat) = some (.int .i64 (rd (rd_L1 l0_1 x10_2) x8_1)) ∧ w'.cell? (ad240.add (x10_2).toNat) = some (.int .i64 (rd t232 x10_2))) ∧ (Kd.R k36 36 w' w.heap.size (fun k_ => k_ ≠ gb236 ∧ k_ ≠ s_) u6 x6_1) ∧ (Kd.R (Kd.int .i64) 3 w' w.heap.size (fun _ => True) (.slice (some ad240) t232.length co62) t232) ∧ (w'.heap[gb227]? = some (.cells #[.slice (some ad235) l0_0.length c0_0, .slice (some ad241) l0_1.length c0_1] 26 (0, 0))) ∧ (w'.heap[gb236]? = some (.cells #[.int .i64 x237000_2, .int .i64 x237001_2] 36 (0, 0))) ∧ (w'.heap[s_]? = some (.cells #[.int .i64 0, .int .i64 0] 36 (0, 0))) ∧ (w.heap.size ≤ s_) ∧ (w.heap.size ≤ s_) ∧ (gb227 ≠ s_) ∧ (s_ ≠ gb227) ∧ (gb236 ≠ s_) ∧ (s_ ≠ gb236) ∧ (Below w.heap.size w w')) ?_ ?_
           rotate_left
           ·intro hCont
            refine two_ (i := 12) (j := 16) (Ni := some 61) (Nj := some 11) (tl_ 19 8191) (tl_ 19 69631) rfl rfl rfl rfl (two_of HT_.out (g0_)) (by decide) (by decide) (fun K hK => ?_) (fun K hK => ?_)
            ·skip
             refine goes_ Try.func86 (g0_) rfl #[.int .i64 (rd (rd_L1 l0_1 x10_2) x8_1), .int .i64 (rd t232 x10_2)] (by rfl) rfl rfl (g2_) ?_
             with_reducible refine (spec_FracOf.calls k2 (rd (rd_L1 l0_1 x10_2) x8_1) (rd t232 x10_2) t244 t245 t246 _ A28.out).mono ?_
             rintro e w64 ⟨rfl, hb⟩
             have HS4_ := (hb.cell (World.block_lt_of_cell? _ _ (hHeld.2.2.2.2))).trans (hHeld.2.2.2.2)
             refine ⟨_, rfl, ?_⟩
             replace HO_6 := Aside0.mk (Kd.R_below (uf1_ HO_6) hb)
             replace HO_7 := Aside0.mk (Kd.R_below (uf1_ HO_7) hb)
             replace BK227 := bb_ BK227 hb
             replace BK236 := bb_ BK236 hb
             replace HB := Aside0.mk (below_step (spec_GetsOf.calls_q0) hb)
             (try clear hb)
             (try clear hk hi)
             refine hK.out _ _ ⟨(blk_cell BK227.out 0).trans rfl, (blk_cell BK227.out 1).trans rfl, ((cl_ HB hw241_0).trans rfl), ((cl_ HB hw242_0).trans rfl), HS4_⟩ (fun hHeld => ?_)
             clear hK K
             refine nm_ ?_
             refine pw_ 13 48 (tl_ 19 16383) rfl rfl ?_
             refine pw_ 14 62 (tl_ 19 32767) rfl rfl ?_
             refine pw_ 15 63 (tl_ 19 65535) rfl rfl ?_
             refine one_ (i := 16) (N := some 11) (tl_ 19 131071) rfl rfl (one_of HT_.out (g0_)) (by decide) (fun K hK => ?_)
             refine bs_ (N := 11) #[.int .i64 0, .int .i64 0] 36 ?_
             intro gb247 hg w65 hbox hb
             have HS4_ := (hb.cell (World.block_lt_of_cell? _ _ (hHeld.2.2.2.2))).trans (hHeld.2.2.2.2)
             replace HO_6 := Aside0.mk (Kd.R_below (Kd.R_elderB (uf1_ HO_6) gb247 (Nat.le_of_eq hg.symm)) hb)
             replace HO_7 := Aside0.mk (Kd.R_below (uf1_ HO_7) hb)
             have BK247 := Aside0.mk (hbox)
             have GW247 := Aside0.mk ((g7_ : w.heap.size ≤ gb247))
             have GE247 := Aside0.mk ((g7_ : w.heap.size ≤ gb247))
             replace HB := Aside0.mk (below_step (spec_GetsOf.calls_q0) hb)
             have NB227_247 := Aside0.mk ((g17_ : gb227 ≠ gb247))
             have NB247_227 := Aside0.mk ((g18_ : gb247 ≠ gb227))
             replace BK227 := bb_ BK227 hb
             have NB236_247 := Aside0.mk ((g19_ : gb236 ≠ gb247))
             have NB247_236 := Aside0.mk ((g20_ : gb247 ≠ gb236))
             replace BK236 := bb_ BK236 hb
             clear hb hbox hg
             refine hK.out _ _ ⟨(blk_cell BK227.out 0).trans rfl, (blk_cell BK227.out 1).trans rfl, ((cl_ HB hw241_0).trans rfl), ((cl_ HB hw242_0).trans rfl), HS4_⟩ (fun hHeld => ?_)
             clear hK K
             refine nm_ ?_
             exact norm_ (g9_) (hCont (gb247) _ ⟨hHeld, (uf1_ HO_6), (uf1_ HO_7), (uf3_ BK227), (uf3_ BK236), (uf3_ BK247), GW247.out, GE247.out, NB227_247.out, NB247_227.out, NB236_247.out, NB247_236.out, (spec_GetsOf.calls_q0)⟩)
            ·skip
             refine bs_ (N := 11) #[.int .i64 0, .int .i64 0] 36 ?_
             intro gb247 hg w64 hbox hb
             have HS4_ := (hb.cell (World.block_lt_of_cell? _ _ (hHeld.2.2.2.2))).trans (hHeld.2.2.2.2)
             replace HO_6 := Aside0.mk (Kd.R_below (Kd.R_elderB (uf1_ HO_6) gb247 (Nat.le_of_eq hg.symm)) hb)
             replace HO_7 := Aside0.mk (Kd.R_below (uf1_ HO_7) hb)
             have BK247 := Aside0.mk (hbox)
             have GW247 := Aside0.mk ((g7_ : w.heap.size ≤ gb247))
             have GE247 := Aside0.mk ((g7_ : w.heap.size ≤ gb247))
             replace HB := Aside0.mk (below_step (spec_GetsOf.calls_q0) hb)
             have NB227_247 := Aside0.mk ((g17_ : gb227 ≠ gb247))
             have NB247_227 := Aside0.mk ((g18_ : gb247 ≠ gb227))
             replace BK227 := bb_ BK227 hb
             have NB236_247 := Aside0.mk ((g19_ : gb236 ≠ gb247))
             have NB247_236 := Aside0.mk ((g20_ : gb247 ≠ gb236))
             replace BK236 := bb_ BK236 hb
             clear hb hbox hg
             refine hK.out _ _ ⟨(blk_cell BK227.out 0).trans rfl, (blk_cell BK227.out 1).trans rfl, ((cl_ HB hw241_0).trans rfl), ((cl_ HB hw242_0).trans rfl), HS4_⟩ (fun hHeld => ?_)
             clear hK K
             refine nm_ ?_
             refine one_ (i := 12) (N := some 61) (tl_ 19 73727) rfl rfl (one_of HT_.out (g0_)) (by decide) (fun K hK => ?_)
             refine goes_ Try.func86 (g0_) rfl #[.int .i64 (rd (rd_L1 l0_1 x10_2) x8_1), .int .i64 (rd t232 x10_2)] (by rfl) rfl rfl (g2_) ?_
             with_reducible refine (spec_FracOf.calls k2 (rd (rd_L1 l0_1 x10_2) x8_1) (rd t232 x10_2) t244 t245 t246 _ A28.out).mono ?_
             rintro e w65 ⟨rfl, hb⟩
             have HS4_ := (hb.cell (World.block_lt_of_cell? _ _ (hHeld.2.2.2.2))).trans (hHeld.2.2.2.2)
             refine ⟨_, rfl, ?_⟩
             replace HO_6 := Aside0.mk (Kd.R_below (uf1_ HO_6) hb)
             replace HO_7 := Aside0.mk (Kd.R_below (uf1_ HO_7) hb)
             replace BK227 := bb_ BK227 hb
             replace BK236 := bb_ BK236 hb
             replace BK247 := bb_ BK247 hb
             replace HB := Aside0.mk (below_step (spec_GetsOf.calls_q0) hb)
             (try clear hb)
             (try clear hk hi)
             refine hK.out _ _ ⟨(blk_cell BK227.out 0).trans rfl, (blk_cell BK227.out 1).trans rfl, ((cl_ HB hw241_0).trans rfl), ((cl_ HB hw242_0).trans rfl), HS4_⟩ (fun hHeld => ?_)
             clear hK K
             refine nm_ ?_
             refine pw_ 13 48 (tl_ 19 81919) rfl rfl ?_
             refine pw_ 14 62 (tl_ 19 98303) rfl rfl ?_
             refine pw_ 15 63 (tl_ 19 131071) rfl rfl ?_
             exact norm_ (g9_) (hCont (gb247) _ ⟨hHeld, (uf1_ HO_6), (uf1_ HO_7), (uf3_ BK227), (uf3_ BK236), (uf3_ BK247), GW247.out, GE247.out, NB227_247.out, NB247_227.out, NB236_247.out, NB247_236.out, (spec_GetsOf.calls_q0)⟩)
           rintro gb247 w66 ⟨hS_, h0_, h1_, h2_, h3_, h4_, h5_, h6_, h7_, h8_, h9_, h10_, h11_⟩
           replace HO_6 : Aside0 (Kd.R k36 36 w66 w.heap.size (fun k_ => k_ ≠ gb236 ∧ k_ ≠ gb247) u6 x6_1) := ⟨h0_⟩
           replace HO_7 : Aside0 (Kd.R (Kd.int .i64) 3 w66 w.heap.size (fun _ => True) (.slice (some ad240) t232.length co62) t232) := ⟨h1_⟩
           replace BK227 : Aside0 (w66.heap[gb227]? = some (.cells #[.slice (some ad235) l0_0.length c0_0, .slice (some ad241) l0_1.length c0_1] 26 (0, 0))) := ⟨h2_⟩
           replace BK236 : Aside0 (w66.heap[gb236]? = some (.cells #[.int .i64 x237000_2, .int .i64 x237001_2] 36 (0, 0))) := ⟨h3_⟩
           have BK247 : Aside0 (w66.heap[gb247]? = some (.cells #[.int .i64 0, .int .i64 0] 36 (0, 0))) := ⟨h4_⟩
           have GW247 : Aside0 (w.heap.size ≤ gb247) := ⟨h5_⟩
           have GE247 : Aside0 (w.heap.size ≤ gb247) := ⟨h6_⟩
           have NB227_247 : Aside0 (gb227 ≠ gb247) := ⟨h7_⟩
           have NB247_227 : Aside0 (gb247 ≠ gb227) := ⟨h8_⟩
           have NB236_247 : Aside0 (gb236 ≠ gb247) := ⟨h9_⟩
           have NB247_236 : Aside0 (gb247 ≠ gb236) := ⟨h10_⟩
           replace HB : Aside0 (Below w.heap.size w w66) := ⟨h11_⟩
           clear h0_ h1_ h2_ h3_ h4_ h5_ h6_ h7_ h8_ h9_ h10_ h11_
           have hHeld : w66.cell? ⟨gb227, 0, none⟩ = some (.slice (some ad235) l0_0.length c0_0) ∧ w66.cell? ⟨gb227, 1, none⟩ = some (.slice (some ad241) l0_1.length c0_1) ∧ w66.cell? (ad241.add (x10_2).toNat) = some (.slice (some ad242) (rd_L1 l0_1 x10_2).length c241_0) ∧ w66.cell? (ad242.add (x8_1).toNat) = some (.int .i64 (rd (rd_L1 l0_1 x10_2) x8_1)) ∧ w66.cell? (ad240.add (x10_2).toNat) = some (.int .i64 (rd t232 x10_2)) := hS_
           refine norm_ (a' := ?_) ?_ ?_
           rotate_left
           ·simp only [putAll, Act.put, List.setIfInBounds_toArray, List.set_cons_zero, List.set_cons_succ]
            rfl
           refine one_ (i := 17) (N := none) (tl_ 19 262143) rfl rfl (one_of HT_.out (g0_)) (by decide) (fun K hK => ?_)
           have hs67 : w66.cell? ⟨gb247, 0, none⟩ = some (.int .i64 0) := (blk_cell BK247.out 0).trans rfl
           have hfs67 := blk_frozen BK247.out 0
           have hns67_0 := NB227_247.out
           have hns67_1 := NB236_247.out
           have hms67_0 := NB247_227.out
           have hms67_1 := NB247_236.out
           have hs68 : w66.cell? ⟨gb247, 1, none⟩ = some (.int .i64 0) := (blk_cell BK247.out 1).trans rfl
           have hfs68 := blk_frozen BK247.out 1
           have hns68_0 := NB227_247.out
           have hns68_1 := NB236_247.out
           have hms68_0 := NB247_227.out
           have hms68_1 := NB247_236.out
           refine skip_ (w1 := ?_) (by rfl) rfl ?_ ?_
           rotate_left
           ·go_simp
            rfl
           refine hK.out _ _ ⟨(cf_ NB227_247 ((cf_ NB227_247 (hHeld.1)))), (cf_ NB227_247 ((cf_ NB227_247 (hHeld.2.1)))), ((cell_far (p := ⟨gb247, _, none⟩) (by first | exact Nat.ne_of_lt (Nat.lt_of_lt_of_le (by have := World.block_lt_of_cell? _ _ hw241_0; first | rwa [add_block] at this | exact this) GW247.out) | (rw [add_block]; exact Nat.ne_of_lt (Nat.lt_of_lt_of_le (by have := World.block_lt_of_cell? _ _ hw241_0; first | rwa [add_block] at this | exact this) GW247.out)) | (show (Addr.add _ _).block ≠ _; rw [add_block]; exact Nat.ne_of_lt (Nat.lt_of_lt_of_le (by have := World.block_lt_of_cell? _ _ hw241_0; first | rwa [add_block] at this | exact this) GW247.out)) | (dsimp only; exact Nat.ne_of_lt (Nat.lt_of_lt_of_le (by have := World.block_lt_of_cell? _ _ hw241_0; first | rwa [add_block] at this | exact this) GW247.out))) _).trans (((cell_far (p := ⟨gb247, _, none⟩) (by first | exact Nat.ne_of_lt (Nat.lt_of_lt_of_le (by have := World.block_lt_of_cell? _ _ hw241_0; first | rwa [add_block] at this | exact this) GW247.out) | (rw [add_block]; exact Nat.ne_of_lt (Nat.lt_of_lt_of_le (by have := World.block_lt_of_cell? _ _ hw241_0; first | rwa [add_block] at this | exact this) GW247.out)) | (show (Addr.add _ _).block ≠ _; rw [add_block]; exact Nat.ne_of_lt (Nat.lt_of_lt_of_le (by have := World.block_lt_of_cell? _ _ hw241_0; first | rwa [add_block] at this | exact this) GW247.out)) | (dsimp only; exact Nat.ne_of_lt (Nat.lt_of_lt_of_le (by have := World.block_lt_of_cell? _ _ hw241_0; first | rwa [add_block] at this | exact this) GW247.out))) _).trans (hHeld.2.2.1)))), ((cell_far (p := ⟨gb247, _, none⟩) (by first | exact Nat.ne_of_lt (Nat.lt_of_lt_of_le (by have := World.block_lt_of_cell? _ _ hw242_0; first | rwa [add_block] at this | exact this) GW247.out) | (rw [add_block]; exact Nat.ne_of_lt (Nat.lt_of_lt_of_le (by have := World.block_lt_of_cell? _ _ hw242_0; first | rwa [add_block] at this | exact this) GW247.out)) | (show (Addr.add _ _).block ≠ _; rw [add_block]; exact Nat.ne_of_lt (Nat.lt_of_lt_of_le (by have := World.block_lt_of_cell? _ _ hw242_0; first | rwa [add_block] at this | exact this) GW247.out)) | (dsimp only; exact Nat.ne_of_lt (Nat.lt_of_lt_of_le (by have := World.block_lt_of_cell? _ _ hw242_0; first | rwa [add_block] at this | exact this) GW247.out))) _).trans (((cell_far (p := ⟨gb247, _, none⟩) (by first | exact Nat.ne_of_lt (Nat.lt_of_lt_of_le (by have := World.block_lt_of_cell? _ _ hw242_0; first | rwa [add_block] at this | exact this) GW247.out) | (rw [add_block]; exact Nat.ne_of_lt (Nat.lt_of_lt_of_le (by have := World.block_lt_of_cell? _ _ hw242_0; first | rwa [add_block] at this | exact this) GW247.out)) | (show (Addr.add _ _).block ≠ _; rw [add_block]; exact Nat.ne_of_lt (Nat.lt_of_lt_of_le (by have := World.block_lt_of_cell? _ _ hw242_0; first | rwa [add_block] at this | exact this) GW247.out)) | (dsimp only; exact Nat.ne_of_lt (Nat.lt_of_lt_of_le (by have := World.block_lt_of_cell? _ _ hw242_0; first | rwa [add_block] at this | exact this) GW247.out))) _).trans (hHeld.2.2.2.1)))), ((cell_far (p := ⟨gb247, _, none⟩) (g47_) _).trans (((cell_far (p := ⟨gb247, _, none⟩) (g47_) _).trans (hHeld.2.2.2.2))))⟩ (fun hHeld => ?_)
           clear hK K
           refine pw_ 18 12 (tl_ 19 524287) rfl rfl ?_
           refine done_ (done_of HT_.out (g0_)) ?_
           try go_wp2
           have n0_ : Aside0 (Kd.R k36 36 ((w66.setCell ⟨gb247, 0, none⟩ (.int .i64 t244)).setCell ⟨gb247, 1, none⟩ (.int .i64 t245)) w.heap.size (fun k_ => k_ ≠ gb236 ∧ k_ ≠ gb247) u6 x6_1) := ⟨g82_⟩
           have n1_ : Aside0 (Kd.R (Kd.int .i64) 3 ((w66.setCell ⟨gb247, 0, none⟩ (.int .i64 t244)).setCell ⟨gb247, 1, none⟩ (.int .i64 t245)) w.heap.size (fun _ => True) (.slice (some ad240) t232.length co62) t232) := ⟨g83_⟩
           have n2_ : Aside0 (((w66.setCell ⟨gb247, 0, none⟩ (.int .i64 t244)).setCell ⟨gb247, 1, none⟩ (.int .i64 t245)).heap[gb227]? = some (.cells #[.slice (some ad235) l0_0.length c0_0, .slice (some ad241) l0_1.length c0_1] 26 (0, 0))) := ⟨g84_⟩
           have n3_ : Aside0 (((w66.setCell ⟨gb247, 0, none⟩ (.int .i64 t244)).setCell ⟨gb247, 1, none⟩ (.int .i64 t245)).heap[gb236]? = some (.cells #[.int .i64 x237000_2, .int .i64 x237001_2] 36 (0, 0))) := ⟨g85_⟩
           have n4_ : Aside0 (((w66.setCell ⟨gb247, 0, none⟩ (.int .i64 t244)).setCell ⟨gb247, 1, none⟩ (.int .i64 t245)).heap[gb247]? = some (.cells #[.int .i64 t244, .int .i64 t245] 36 (0, 0))) := ⟨g86_⟩
           have n5_ : Aside0 (Below w.heap.size w ((w66.setCell ⟨gb247, 0, none⟩ (.int .i64 t244)).setCell ⟨gb247, 1, none⟩ (.int .i64 t245))) := ⟨spec_GetsOf.calls_q0⟩
           (try clear HO_6)
           (try clear HO_7)
           (try clear BK227)
           (try clear BK236)
           (try clear BK247)
           (try clear HB)
           generalize ((w66.setCell ⟨gb247, 0, none⟩ (.int .i64 t244)).setCell ⟨gb247, 1, none⟩ (.int .i64 t245)) = w69 at n0_ n1_ n2_ n3_ n4_ n5_ ⊢
           have HO_6 := n0_
           have HO_7 := n1_
           have BK227 := n2_
           have BK236 := n3_
           have BK247 := n4_
           have HB := n5_
           clear n0_ n1_ n2_ n3_ n4_ n5_
           replace HO_6 := Aside0.mk (Kd.R_drew HO_6.out)
           replace HO_7 := Aside0.mk (Kd.R_drew HO_7.out)
           replace BK227 := Aside0.mk (blk_drew BK227.out)
           replace BK236 := Aside0.mk (blk_drew BK236.out)
           replace BK247 := Aside0.mk (blk_drew BK247.out)
           replace HB := Aside0.mk (below_drew1 HB.out)
           have p248 : 0 ≤ (x10_2 : Int) := of_decide_eq_true (g1_)
           have q248 : x10_2 < (l1.length : Int) := of_decide_eq_true (g1_)
           obtain ⟨ad248, e248, hx248_0, hx248_1⟩ := at_T36 HR1.out x10_2 p248 q248
           have hw248_1 := hx248_1
           have hw248_0 := hx248_0
           cases e248
           replace hx248_0 := cl_ HB hx248_0
           replace hx248_1 := cl_ HB hx248_1
           replace p248 := eq_true p248
           replace q248 := eq_true q248
           refine start_ (n := 12) (S := fun w' => w'.cell? ⟨gb247, 0, none⟩ = some (.int .i64 t244) ∧ w'.cell? ⟨gb247, 1, none⟩ = some (.int .i64 t245) ∧ w'.cell? (ad248.add ((x10_2).toNat * 2)) = some (.int .i64 ((rd_T36 l1 x10_2).f0)) ∧ w'.cell? ⟨(ad248.add ((x10_2).toNat * 2)).block, (ad248.add ((x10_2).toNat * 2)).off + 1, none⟩ = some (.int .i64 ((rd_T36 l1 x10_2).f1))) (ds := []) (tl_ 12 0) (g0_) rfl (g0_) ⟨(blk_cell BK247.out 0).trans rfl, (blk_cell BK247.out 1).trans rfl, ((cl_ HB hw248_0).trans rfl), ((cl_ HB hw248_1).trans rfl)⟩ (fun hHeld => ?_); refine with_tabW spec_GetsOf.tab14 spec_GetsOf.bits14 (fun HT_ HW_ => ?_)
           generalize w69.drew = w70 at HO_6 HO_7 BK227 BK236 BK247 HB hx248_0 hx248_1 hHeld ⊢
           refine pw_ 0 65 (tl_ 12 1) rfl rfl ?_
           refine pw_ 1 66 (tl_ 12 3) rfl rfl ?_
           refine pw_ 2 67 (tl_ 12 7) rfl rfl ?_
           refine tk0_ 3 68 (tl_ 12 15) rfl rfl hHeld ?_
           refine tk0_ 4 69 (tl_ 12 31) rfl rfl hHeld ?_
           refine join_ (σ := Nat) 2 (tl_ 12 1023) (fun s_ => [(70, .tuple #[.agg #[.int .i64 t249, .int .i64 t250], .bool true]), (13, .pointer (some ⟨s_, 0, none⟩)), (64, .tuple #[.agg #[.int .i64 t249, .int .i64 t250], .bool true]), (71, .agg #[.int .i64 t249, .int .i64 t250]), (72, .bool true)]) (fun s_ w' => (w'.cell? ⟨gb247, 0, none⟩ = some (.int .i64 t244) ∧ w'.cell? ⟨gb247, 1, none⟩ = some (.int .i64 t245) ∧ w'.cell? (ad248.add ((x10_2).toNat * 2)) = some (.int .i64 ((rd_T36 l1 x10_2).f0)) ∧ w'.cell? ⟨(ad248.add ((x10_2).toNat * 2)).block, (ad248.add ((x10_2).toNat * 2)).off + 1, none⟩ = some (.int .i64 ((rd_T36 l1 x10_2).f1))) ∧ (Kd.R k36 36 w' w.heap.size (fun k_ => k_ ≠ gb236 ∧ k_ ≠ gb247 ∧ k_ ≠ s_) u6 x6_1) ∧ (Kd.R (Kd.int .i64) 3 w' w.heap.size (fun _ => True) (.slice (some ad240) t232.length co62) t232) ∧ (w'.heap[gb227]? = some (.cells #[.slice (some ad235) l0_0.length c0_0, .slice (some ad241) l0_1.length c0_1] 26 (0, 0))) ∧ (w'.heap[gb236]? = some (.cells #[.int .i64 x237000_2, .int .i64 x237001_2] 36 (0, 0))) ∧ (w'.heap[gb247]? = some (.cells #[.int .i64 t244, .int .i64 t245] 36 (0, 0))) ∧ (w'.heap[s_]? = some (.cells #[.int .i64 0, .int .i64 0] 36 (0, 0))) ∧ (w.heap.size ≤ s_) ∧ (w.heap.size ≤ s_) ∧ (gb227 ≠ s_) ∧ (s_ ≠ gb227) ∧ (gb236 ≠ s_) ∧ (s_ ≠ gb236) ∧ (gb247 ≠ s_) ∧ (s_ ≠ gb247) ∧ (Below w.heap.size w w')) ?_ ?_
           rotate_left
           ·intro hCont
            refine two_ (i := 5) (j := 9) (Ni := some 70) (Nj := some 13) (tl_ 12 63) (tl_ 12 543) rfl rfl rfl rfl (two_of HT_.out (g0_)) (by decide) (by decide) (fun K hK => ?_) (fun K hK => ?_)
            ·skip
             refine goes_ Try.func87 (g0_) rfl #[.agg #[.int .i64 ((rd_T36 l1 x10_2).f0), .int .i64 ((rd_T36 l1 x10_2).f1)], .agg #[.int .i64 t244, .int .i64 t245]] (by rfl) rfl rfl (g2_) ?_
             with_reducible refine (spec_TimesOf.calls k2 ((rd_T36 l1 x10_2).f0) ((rd_T36 l1 x10_2).f1) t244 t245 t249 t250 true _ A29.out).mono ?_
             rintro e w71 ⟨rfl, hb⟩
             refine ⟨_, rfl, ?_⟩
             replace HO_6 := Aside0.mk (Kd.R_below (uf1_ HO_6) hb)
             replace HO_7 := Aside0.mk (Kd.R_below (uf1_ HO_7) hb)
             replace BK227 := bb_ BK227 hb
             replace BK236 := bb_ BK236 hb
             replace BK247 := bb_ BK247 hb
             replace HB := Aside0.mk (below_step (spec_GetsOf.calls_q0) hb)
             (try clear hb)
             (try clear hk hi)
             refine hK.out _ _ ⟨(blk_cell BK247.out 0).trans rfl, (blk_cell BK247.out 1).trans rfl, ((cl_ HB hw248_0).trans rfl), ((cl_ HB hw248_1).trans rfl)⟩ (fun hHeld => ?_)
             clear hK K
             refine nm_ ?_
             refine pw_ 6 64 (tl_ 12 127) rfl rfl ?_
             refine pw_ 7 71 (tl_ 12 255) rfl rfl ?_
             refine pw_ 8 72 (tl_ 12 511) rfl rfl ?_
             refine one_ (i := 9) (N := some 13) (tl_ 12 1023) rfl rfl (one_of HT_.out (g0_)) (by decide) (fun K hK => ?_)
             refine bs_ (N := 13) #[.int .i64 0, .int .i64 0] 36 ?_
             intro gb252 hg w72 hbox hb
             replace HO_6 := Aside0.mk (Kd.R_below (Kd.R_elderB (uf1_ HO_6) gb252 (Nat.le_of_eq hg.symm)) hb)
             replace HO_7 := Aside0.mk (Kd.R_below (uf1_ HO_7) hb)
             have BK252 := Aside0.mk (hbox)
             have GW252 := Aside0.mk ((g7_ : w.heap.size ≤ gb252))
             have GE252 := Aside0.mk ((g7_ : w.heap.size ≤ gb252))
             replace HB := Aside0.mk (below_step (spec_GetsOf.calls_q0) hb)
             have NB227_252 := Aside0.mk ((g17_ : gb227 ≠ gb252))
             have NB252_227 := Aside0.mk ((g18_ : gb252 ≠ gb227))
             replace BK227 := bb_ BK227 hb
             have NB236_252 := Aside0.mk ((g19_ : gb236 ≠ gb252))
             have NB252_236 := Aside0.mk ((g20_ : gb252 ≠ gb236))
             replace BK236 := bb_ BK236 hb
             have NB247_252 := Aside0.mk ((g27_ : gb247 ≠ gb252))
             have NB252_247 := Aside0.mk ((g28_ : gb252 ≠ gb247))
             replace BK247 := bb_ BK247 hb
             clear hb hbox hg
             refine hK.out _ _ ⟨(blk_cell BK247.out 0).trans rfl, (blk_cell BK247.out 1).trans rfl, ((cl_ HB hw248_0).trans rfl), ((cl_ HB hw248_1).trans rfl)⟩ (fun hHeld => ?_)
             clear hK K
             refine nm_ ?_
             exact norm_ (g9_) (hCont (gb252) _ ⟨hHeld, (g48_), (uf1_ HO_7), (uf3_ BK227), (uf3_ BK236), (uf3_ BK247), (uf3_ BK252), GW252.out, GE252.out, NB227_252.out, NB252_227.out, NB236_252.out, NB252_236.out, NB247_252.out, NB252_247.out, (spec_GetsOf.calls_q0)⟩)
            ·skip
             refine bs_ (N := 13) #[.int .i64 0, .int .i64 0] 36 ?_
             intro gb252 hg w71 hbox hb
             replace HO_6 := Aside0.mk (Kd.R_below (Kd.R_elderB (uf1_ HO_6) gb252 (Nat.le_of_eq hg.symm)) hb)
             replace HO_7 := Aside0.mk (Kd.R_below (uf1_ HO_7) hb)
             have BK252 := Aside0.mk (hbox)
             have GW252 := Aside0.mk ((g7_ : w.heap.size ≤ gb252))
             have GE252 := Aside0.mk ((g7_ : w.heap.size ≤ gb252))
             replace HB := Aside0.mk (below_step (spec_GetsOf.calls_q0) hb)
             have NB227_252 := Aside0.mk ((g17_ : gb227 ≠ gb252))
             have NB252_227 := Aside0.mk ((g18_ : gb252 ≠ gb227))
             replace BK227 := bb_ BK227 hb
             have NB236_252 := Aside0.mk ((g19_ : gb236 ≠ gb252))
             have NB252_236 := Aside0.mk ((g20_ : gb252 ≠ gb236))
             replace BK236 := bb_ BK236 hb
             have NB247_252 := Aside0.mk ((g27_ : gb247 ≠ gb252))
             have NB252_247 := Aside0.mk ((g28_ : gb252 ≠ gb247))
             replace BK247 := bb_ BK247 hb
             clear hb hbox hg
             refine hK.out _ _ ⟨(blk_cell BK247.out 0).trans rfl, (blk_cell BK247.out 1).trans rfl, ((cl_ HB hw248_0).trans rfl), ((cl_ HB hw248_1).trans rfl)⟩ (fun hHeld => ?_)
             clear hK K
             refine nm_ ?_
             refine one_ (i := 5) (N := some 70) (tl_ 12 575) rfl rfl (one_of HT_.out (g0_)) (by decide) (fun K hK => ?_)
             refine goes_ Try.func87 (g0_) rfl #[.agg #[.int .i64 ((rd_T36 l1 x10_2).f0), .int .i64 ((rd_T36 l1 x10_2).f1)], .agg #[.int .i64 t244, .int .i64 t245]] (by rfl) rfl rfl (g2_) ?_
             with_reducible refine (spec_TimesOf.calls k2 ((rd_T36 l1 x10_2).f0) ((rd_T36 l1 x10_2).f1) t244 t245 t249 t250 true _ A29.out).mono ?_
             rintro e w72 ⟨rfl, hb⟩
             refine ⟨_, rfl, ?_⟩
             replace HO_6 := Aside0.mk (Kd.R_below (uf1_ HO_6) hb)
             replace HO_7 := Aside0.mk (Kd.R_below (uf1_ HO_7) hb)
             replace BK227 := bb_ BK227 hb
             replace BK236 := bb_ BK236 hb
             replace BK247 := bb_ BK247 hb
             replace BK252 := bb_ BK252 hb
             replace HB := Aside0.mk (below_step (spec_GetsOf.calls_q0) hb)
             (try clear hb)
             (try clear hk hi)
             refine hK.out _ _ ⟨(blk_cell BK247.out 0).trans rfl, (blk_cell BK247.out 1).trans rfl, ((cl_ HB hw248_0).trans rfl), ((cl_ HB hw248_1).trans rfl)⟩ (fun hHeld => ?_)
             clear hK K
             refine nm_ ?_
             refine pw_ 6 64 (tl_ 12 639) rfl rfl ?_
             refine pw_ 7 71 (tl_ 12 767) rfl rfl ?_
             refine pw_ 8 72 (tl_ 12 1023) rfl rfl ?_
             exact norm_ (g9_) (hCont (gb252) _ ⟨hHeld, (g48_), (uf1_ HO_7), (uf3_ BK227), (uf3_ BK236), (uf3_ BK247), (uf3_ BK252), GW252.out, GE252.out, NB227_252.out, NB252_227.out, NB236_252.out, NB252_236.out, NB247_252.out, NB252_247.out, (spec_GetsOf.calls_q0)⟩)
           rintro gb252 w73 ⟨hS_, h0_, h1_, h2_, h3_, h4_, h5_, h6_, h7_, h8_, h9_, h10_, h11_, h12_, h13_, h14_⟩
           replace HO_6 : Aside0 (Kd.R k36 36 w73 w.heap.size (fun k_ => k_ ≠ gb236 ∧ k_ ≠ gb247 ∧ k_ ≠ gb252) u6 x6_1) := ⟨h0_⟩
           replace HO_7 : Aside0 (Kd.R (Kd.int .i64) 3 w73 w.heap.size (fun _ => True) (.slice (some ad240) t232.length co62) t232) := ⟨h1_⟩
           replace BK227 : Aside0 (w73.heap[gb227]? = some (.cells #[.slice (some ad235) l0_0.length c0_0, .slice (some ad241) l0_1.length c0_1] 26 (0, 0))) := ⟨h2_⟩
           replace BK236 : Aside0 (w73.heap[gb236]? = some (.cells #[.int .i64 x237000_2, .int .i64 x237001_2] 36 (0, 0))) := ⟨h3_⟩
           replace BK247 : Aside0 (w73.heap[gb247]? = some (.cells #[.int .i64 t244, .int .i64 t245] 36 (0, 0))) := ⟨h4_⟩
           have BK252 : Aside0 (w73.heap[gb252]? = some (.cells #[.int .i64 0, .int .i64 0] 36 (0, 0))) := ⟨h5_⟩
           have GW252 : Aside0 (w.heap.size ≤ gb252) := ⟨h6_⟩
           have GE252 : Aside0 (w.heap.size ≤ gb252) := ⟨h7_⟩
           have NB227_252 : Aside0 (gb227 ≠ gb252) := ⟨h8_⟩
           have NB252_227 : Aside0 (gb252 ≠ gb227) := ⟨h9_⟩
           have NB236_252 : Aside0 (gb236 ≠ gb252) := ⟨h10_⟩
           have NB252_236 : Aside0 (gb252 ≠ gb236) := ⟨h11_⟩
           have NB247_252 : Aside0 (gb247 ≠ gb252) := ⟨h12_⟩
           have NB252_247 : Aside0 (gb252 ≠ gb247) := ⟨h13_⟩
           replace HB : Aside0 (Below w.heap.size w w73) := ⟨h14_⟩
           clear h0_ h1_ h2_ h3_ h4_ h5_ h6_ h7_ h8_ h9_ h10_ h11_ h12_ h13_ h14_
           have hHeld : w73.cell? ⟨gb247, 0, none⟩ = some (.int .i64 t244) ∧ w73.cell? ⟨gb247, 1, none⟩ = some (.int .i64 t245) ∧ w73.cell? (ad248.add ((x10_2).toNat * 2)) = some (.int .i64 ((rd_T36 l1 x10_2).f0)) ∧ w73.cell? ⟨(ad248.add ((x10_2).toNat * 2)).block, (ad248.add ((x10_2).toNat * 2)).off + 1, none⟩ = some (.int .i64 ((rd_T36 l1 x10_2).f1)) := hS_
           refine norm_ (a' := ?_) ?_ ?_
           rotate_left
           ·simp only [putAll, Act.put, List.setIfInBounds_toArray, List.set_cons_zero, List.set_cons_succ]
            rfl
           refine one_ (i := 10) (N := none) (tl_ 12 2047) rfl rfl (one_of HT_.out (g0_)) (by decide) (fun K hK => ?_)
           have hs74 : w73.cell? ⟨gb252, 0, none⟩ = some (.int .i64 0) := (blk_cell BK252.out 0).trans rfl
           have hfs74 := blk_frozen BK252.out 0
           have hns74_0 := NB227_252.out
           have hns74_1 := NB236_252.out
           have hns74_2 := NB247_252.out
           have hms74_0 := NB252_227.out
           have hms74_1 := NB252_236.out
           have hms74_2 := NB252_247.out
           have hs75 : w73.cell? ⟨gb252, 1, none⟩ = some (.int .i64 0) := (blk_cell BK252.out 1).trans rfl
           have hfs75 := blk_frozen BK252.out 1
           have hns75_0 := NB227_252.out
           have hns75_1 := NB236_252.out
           have hns75_2 := NB247_252.out
           have hms75_0 := NB252_227.out
           have hms75_1 := NB252_236.out
           have hms75_2 := NB252_247.out
           refine skip_ (w1 := ?_) (by rfl) rfl ?_ ?_
           rotate_left
           ·go_simp
            rfl
           refine hK.out _ _ ⟨(cf_ NB247_252 ((cf_ NB247_252 (hHeld.1)))), (cf_ NB247_252 ((cf_ NB247_252 (hHeld.2.1)))), ((cell_far (p := ⟨gb252, _, none⟩) (by first | exact Nat.ne_of_lt (Nat.lt_of_lt_of_le (by have := World.block_lt_of_cell? _ _ hw248_0; first | rwa [add_block] at this | exact this) GW252.out) | (rw [add_block]; exact Nat.ne_of_lt (Nat.lt_of_lt_of_le (by have := World.block_lt_of_cell? _ _ hw248_0; first | rwa [add_block] at this | exact this) GW252.out)) | (show (Addr.add _ _).block ≠ _; rw [add_block]; exact Nat.ne_of_lt (Nat.lt_of_lt_of_le (by have := World.block_lt_of_cell? _ _ hw248_0; first | rwa [add_block] at this | exact this) GW252.out)) | (dsimp only; exact Nat.ne_of_lt (Nat.lt_of_lt_of_le (by have := World.block_lt_of_cell? _ _ hw248_0; first | rwa [add_block] at this | exact this) GW252.out))) _).trans (((cell_far (p := ⟨gb252, _, none⟩) (by first | exact Nat.ne_of_lt (Nat.lt_of_lt_of_le (by have := World.block_lt_of_cell? _ _ hw248_0; first | rwa [add_block] at this | exact this) GW252.out) | (rw [add_block]; exact Nat.ne_of_lt (Nat.lt_of_lt_of_le (by have := World.block_lt_of_cell? _ _ hw248_0; first | rwa [add_block] at this | exact this) GW252.out)) | (show (Addr.add _ _).block ≠ _; rw [add_block]; exact Nat.ne_of_lt (Nat.lt_of_lt_of_le (by have := World.block_lt_of_cell? _ _ hw248_0; first | rwa [add_block] at this | exact this) GW252.out)) | (dsimp only; exact Nat.ne_of_lt (Nat.lt_of_lt_of_le (by have := World.block_lt_of_cell? _ _ hw248_0; first | rwa [add_block] at this | exact this) GW252.out))) _).trans (hHeld.2.2.1)))), ((cell_far (p := ⟨gb252, _, none⟩) (by first | exact Nat.ne_of_lt (Nat.lt_of_lt_of_le (by have := World.block_lt_of_cell? _ _ hw248_1; first | rwa [add_block] at this | exact this) GW252.out) | (rw [add_block]; exact Nat.ne_of_lt (Nat.lt_of_lt_of_le (by have := World.block_lt_of_cell? _ _ hw248_1; first | rwa [add_block] at this | exact this) GW252.out)) | (show (Addr.add _ _).block ≠ _; rw [add_block]; exact Nat.ne_of_lt (Nat.lt_of_lt_of_le (by have := World.block_lt_of_cell? _ _ hw248_1; first | rwa [add_block] at this | exact this) GW252.out)) | (dsimp only; exact Nat.ne_of_lt (Nat.lt_of_lt_of_le (by have := World.block_lt_of_cell? _ _ hw248_1; first | rwa [add_block] at this | exact this) GW252.out))) _).trans (((cell_far (p := ⟨gb252, _, none⟩) (by first | exact Nat.ne_of_lt (Nat.lt_of_lt_of_le (by have := World.block_lt_of_cell? _ _ hw248_1; first | rwa [add_block] at this | exact this) GW252.out) | (rw [add_block]; exact Nat.ne_of_lt (Nat.lt_of_lt_of_le (by have := World.block_lt_of_cell? _ _ hw248_1; first | rwa [add_block] at this | exact this) GW252.out)) | (show (Addr.add _ _).block ≠ _; rw [add_block]; exact Nat.ne_of_lt (Nat.lt_of_lt_of_le (by have := World.block_lt_of_cell? _ _ hw248_1; first | rwa [add_block] at this | exact this) GW252.out)) | (dsimp only; exact Nat.ne_of_lt (Nat.lt_of_lt_of_le (by have := World.block_lt_of_cell? _ _ hw248_1; first | rwa [add_block] at this | exact this) GW252.out))) _).trans (hHeld.2.2.2))))⟩ (fun hHeld => ?_)
           clear hK K
           refine pw_ 11 14 (tl_ 12 4095) rfl rfl ?_
           refine done_ (done_of HT_.out (g0_)) ?_
           have hnb76 := NB236_227.out
           have hnc76 := NB227_236.out
           have hnb77 := NB236_247.out
           have hnc77 := NB247_236.out
           have hnb78 := NB236_252.out
           have hnc78 := NB252_236.out
           obtain ⟨hcz79_0, hcz79_1, hfz79_0, hfz79_1⟩ := blk2_ BK236
           have hnb80 := NB252_227.out
           have hnc80 := NB227_252.out
           have hnb81 := NB252_247.out
           have hnc81 := NB247_252.out
           obtain ⟨hcz82_0, hcz82_1, hfz82_0, hfz82_1⟩ := blk2_ BK252
           try go_wp2_with (first | ((with_reducible refine gate_callee (f := 71) rfl ?_); refine goesL_ (some 76) rfl rfl Try.func71 k_ rfl #[.agg #[.int .i64 x237000_2, .int .i64 x237001_2], .agg #[.int .i64 t249, .int .i64 t250]] rfl (g2_) ?_; (with_reducible refine (spec_PlusOf.calls k2 x237000_2 x237001_2 t249 t250 t253 t254 false _ A30.out).mono ?_); rintro e w83 ⟨rfl, hb⟩; refine ⟨_, rfl, ?_⟩; replace HO_6 := Aside0.mk (Kd.R_below (g87_) hb); replace HO_7 := Aside0.mk (Kd.R_below (g88_) hb); replace BK227 := Aside0.mk (blk_below (g := gb227) (o := .cells #[.slice (some ad235) l0_0.length c0_0, .slice (some ad241) l0_1.length c0_1] 26 (0, 0)) (g89_) hb); replace BK236 := Aside0.mk (blk_below (g := gb236) (o := .cells #[.int .i64 x237000_2, .int .i64 x237001_2] 36 (0, 0)) (g90_) hb); replace BK247 := Aside0.mk (blk_below (g := gb247) (o := .cells #[.int .i64 t244, .int .i64 t245] 36 (0, 0)) (g91_) hb); replace BK252 := Aside0.mk (blk_below (g := gb252) (o := .cells #[.int .i64 t249, .int .i64 t250] 36 (0, 0)) (g92_) hb); replace HB := Aside0.mk (below_step (spec_GetsOf.calls_q0) hb); (try clear hb); (try clear hk hi)) | ((with_reducible refine gate_dst (N := 15) rfl ?_); refine bx_ (N := 15) #[.int .i64 0, .int .i64 0] 36 ?_; intro gb256 hg w84 hbox hb; replace HO_6 := Aside0.mk (Kd.R_below (Kd.R_elderB (uf1_ HO_6) gb256 (Nat.le_of_eq hg.symm)) hb); replace HO_7 := Aside0.mk (Kd.R_below (uf1_ HO_7) hb); have BK256 := Aside0.mk (hbox); have GW256 := Aside0.mk ((g7_ : w.heap.size ≤ gb256)); have GE256 := Aside0.mk ((g7_ : w.heap.size ≤ gb256)); replace HB := Aside0.mk (below_step (spec_GetsOf.calls_q0) hb); have NB227_256 := Aside0.mk ((g17_ : gb227 ≠ gb256)); have NB256_227 := Aside0.mk ((g18_ : gb256 ≠ gb227)); replace BK227 := bb_ BK227 hb; have NB236_256 := Aside0.mk ((g19_ : gb236 ≠ gb256)); have NB256_236 := Aside0.mk ((g20_ : gb256 ≠ gb236)); replace BK236 := bb_ BK236 hb; have NB247_256 := Aside0.mk ((g27_ : gb247 ≠ gb256)); have NB256_247 := Aside0.mk ((g28_ : gb256 ≠ gb247)); replace BK247 := bb_ BK247 hb; have NB252_256 := Aside0.mk ((g93_ : gb252 ≠ gb256)); have NB256_252 := Aside0.mk ((g94_ : gb256 ≠ gb252)); replace BK252 := bb_ BK252 hb; clear hb hbox hg; have hnb85 := NB256_227.out; have hnc85 := NB227_256.out; have hnb86 := NB256_236.out; have hnc86 := NB236_256.out; have hnb87 := NB256_247.out; have hnc87 := NB247_256.out; have hnb88 := NB256_252.out; have hnc88 := NB252_256.out; obtain ⟨hcz89_0, hcz89_1, hfz89_0, hfz89_1⟩ := blk2_ BK256) | ((with_reducible refine gate_dst (N := 85) rfl ?_); refine Kd.R_lit k36 _ 36 ?hg (N := 85) ?hd (xs := ([] : List (S36))) (inner := []) (ok := fun _ => True) (okp := fun _ => True) ?hr ?hp (fun _ hk => hk) trivial (Below.refl _ _) (Nat.le_refl _) (by simp) ?_; (case hd => rfl); (case hg => rfl); (case hr => first | (go_simp; done) | (go_simp; rfl)); (case hp => exact (Reps.none _ _)); intro v258 w90 ho91 hb hg_ hnew_; clear hg_ hnew_; (first | rw [← Ny257.out] at ho91 | (simp only [Int.reduceToNat] at ho91; rw [← Ny257.out] at ho91)); replace HO_7 := Aside0.mk (Kd.R_below (by (with_reducible repeat (first | apply Kd.R_alloc | apply Kd.R_drewN | apply Kd.R_drew)); exact (Kd.R_mono (Kd.R_far (p := ⟨gb256, 1, none⟩) (Kd.R_far (p := ⟨gb256, 0, none⟩) (Kd.R_types HO_7.out BK256.out (by decide)) (fun _ hk => hk.2) (.int .i64 t253)) (fun _ hk => hk.2) (.int .i64 t254)) (fun _ h_ => h_.1))) hb); have HO259 := Aside0.mk (Kd.R_lower (Kd.R_newB (Kd.R_newB (Kd.R_newB (Kd.R_newB (Kd.R_new' ho91 (Kd.R_lt (g59_))) (g := gb236) (o := .cells #[.int .i64 x237000_2, .int .i64 x237001_2] 36 (0, 0)) (g60_)) (g := gb247) (o := .cells #[.int .i64 t244, .int .i64 t245] 36 (0, 0)) (g61_)) (g := gb252) (o := .cells #[.int .i64 t249, .int .i64 t250] 36 (0, 0)) (g62_)) (g := gb256) (o := .cells #[.int .i64 t253, .int .i64 t254] 36 (0, 0)) (g63_)) (below_size (spec_GetsOf.calls_q0))); replace HO_6 := Aside0.mk (Kd.R_elder' (g59_) (Kd.R_base ho91) hb); replace BK227 := Aside0.mk (blk_below (g := gb227) (o := .cells #[.slice (some ad235) l0_0.length c0_0, .slice (some ad241) l0_1.length c0_1] 26 (0, 0)) (by (with_reducible repeat (first | refine blk_drewN ?_ _ | refine blk_drew ?_ | refine blk_alloc ?_ _)); refine blk_far ?_ NB227_256.out _; (with_reducible repeat (first | refine blk_drewN ?_ _ | refine blk_drew ?_ | refine blk_alloc ?_ _)); refine blk_far ?_ NB227_256.out _; (with_reducible repeat (first | refine blk_drewN ?_ _ | refine blk_drew ?_ | refine blk_alloc ?_ _)); exact BK227.out) hb); replace BK236 := Aside0.mk (blk_below (g := gb236) (o := .cells #[.int .i64 x237000_2, .int .i64 x237001_2] 36 (0, 0)) (g60_) hb); replace BK247 := Aside0.mk (blk_below (g := gb247) (o := .cells #[.int .i64 t244, .int .i64 t245] 36 (0, 0)) (g61_) hb); replace BK252 := Aside0.mk (blk_below (g := gb252) (o := .cells #[.int .i64 t249, .int .i64 t250] 36 (0, 0)) (g62_) hb); replace BK256 := Aside0.mk (blk_below (g := gb256) (o := .cells #[.int .i64 t253, .int .i64 t254] 36 (0, 0)) (g63_) hb); replace HB := Aside0.mk (below_step (spec_GetsOf.calls_q0) hb); clear hb ho91))
           go_ret2
           exact ⟨_, g4_, by (with_reducible repeat (first | apply Kd.R_alloc | apply Kd.R_drewN | apply Kd.R_drew)); exact Kd.R_mono HO259.out (fun _ hk => trivial), spec_GetsOf.calls_q0⟩
         ·replace c31 := Bool.eq_false_iff.mpr c31
          subst c31
          replace H := ifn_ H
          obtain ⟨y260, hy260⟩ : ∃ y_ : List (S36), y_ = (([] : List (S36))) := ⟨_, rfl⟩
          replace H : (some (y260, false)) = some (r1, r2) := by first | (rw [hy260]; with_reducible exact H) | (have H2_ := (Option.bind_some _ _).symm.trans H; rw [hy260]; with_reducible exact H2_) | (have H2_ := (Option.bind_some _ _).symm.trans H; with_reducible exact H2_) | with_reducible exact H | (rw [hy260]; exact H) | exact H
          have Ny260 := Aside0.mk hy260
          clear hy260
          simp only [Option.some.injEq, Prod.mk.injEq] at H
          obtain ⟨rfl, rfl⟩ := H
          obtain ⟨Ao92, co92, eo92⟩ := Kd.R_slice HO_7.out
          subst eo92
          have p240 : 0 ≤ (x10_2 : Int) := of_decide_eq_true (g1_)
          have q240 : x10_2 < (t232.length : Int) := of_decide_eq_true (g1_)
          obtain ⟨ad240, e240, hx240_0⟩ := Kd.at_int (Kd.R_reads' HO_7.out).2.2 x10_2 p240 q240
          cases e240
          replace p240 := eq_true p240
          replace q240 := eq_true q240
          try go_wp2
          replace HO_6 := Aside0.mk (Kd.R_drew HO_6.out)
          replace HO_7 := Aside0.mk (Kd.R_drew HO_7.out)
          replace BK227 := Aside0.mk (blk_drew BK227.out)
          replace BK236 := Aside0.mk (blk_drew BK236.out)
          replace HB := Aside0.mk (below_drew1 HB.out)
          have p241 : 0 ≤ (x10_2 : Int) := of_decide_eq_true (g1_)
          have q241 : x10_2 < (l0_1.length : Int) := of_decide_eq_true (g1_)
          obtain ⟨ad241, A241_0, c241_0, e241, hx241_0, hl241_0, hi241_0⟩ := at_L1 HR0_1.out x10_2 p241 q241
          have hw241_0 := hx241_0
          cases e241
          replace hx241_0 := cl_ HB hx241_0
          have HR241_0 := Aside0.mk hi241_0
          have HC241_0 := Aside0.mk hl241_0
          clear hi241_0 hl241_0
          replace p241 := eq_true p241
          replace q241 := eq_true q241
          have p242 : 0 ≤ (x8_1 : Int) := of_decide_eq_true (g1_)
          have q242 : x8_1 < ((rd_L1 l0_1 x10_2).length : Int) := of_decide_eq_true (g1_)
          obtain ⟨ad242, e242, hx242_0⟩ := Kd.at_int HR241_0.out x8_1 p242 q242
          have hw242_0 := hx242_0
          cases e242
          replace hx242_0 := cl_ HB hx242_0
          replace p242 := eq_true p242
          replace q242 := eq_true q242
          have p243 : 0 ≤ (x10_2 : Int) := of_decide_eq_true (g1_)
          have q243 : x10_2 < (t232.length : Int) := of_decide_eq_true (g1_)
          obtain ⟨ad243, e243, hx243_0⟩ := Kd.at_int (Kd.R_reads' HO_7.out).2.2 x10_2 p243 q243
          obtain rfl : ad240 = ad243 := (by injection e243)
          replace p243 := eq_true p243
          replace q243 := eq_true q243
          refine start_ (n := 19) (S := fun w' => w'.cell? ⟨gb227, 0, none⟩ = some (.slice (some ad235) l0_0.length c0_0) ∧ w'.cell? ⟨gb227, 1, none⟩ = some (.slice (some ad241) l0_1.length c0_1) ∧ w'.cell? (ad241.add (x10_2).toNat) = some (.slice (some ad242) (rd_L1 l0_1 x10_2).length c241_0) ∧ w'.cell? (ad242.add (x8_1).toNat) = some (.int .i64 (rd (rd_L1 l0_1 x10_2) x8_1)) ∧ w'.cell? (ad240.add (x10_2).toNat) = some (.int .i64 (rd t232 x10_2))) (ds := []) (tl_ 19 0) (g0_) rfl (g0_) ⟨(blk_cell BK227.out 0).trans rfl, (blk_cell BK227.out 1).trans rfl, ((cl_ HB hw241_0).trans rfl), ((cl_ HB hw242_0).trans rfl), hx243_0⟩ (fun hHeld => ?_); refine with_tabW spec_GetsOf.tab13 spec_GetsOf.bits13 (fun HT_ HW_ => ?_)
          generalize wr.drew = w93 at HO_6 HO_7 BK227 BK236 HB HR241_0 hx241_0 hx242_0 hx243_0 hHeld ⊢
          refine pw_ 0 49 (tl_ 19 1) rfl rfl ?_
          refine pw_ 2 51 (tl_ 19 5) rfl rfl ?_
          refine pw_ 5 54 (tl_ 19 37) rfl rfl ?_
          refine pw_ 8 57 (tl_ 19 293) rfl rfl ?_
          refine pw_ 9 58 (tl_ 19 805) rfl rfl ?_
          refine pw_ 10 59 (tl_ 19 1829) rfl rfl ?_
          refine tk5_ 1 50 (tl_ 19 1831) rfl rfl hHeld ?_
          refine pw_ 3 52 (tl_ 19 1839) rfl rfl ?_
          refine tk5_ 4 53 (tl_ 19 1855) rfl rfl hHeld ?_
          refine pw_ 6 55 (tl_ 19 1919) rfl rfl ?_
          refine tk5_ 7 56 (tl_ 19 2047) rfl rfl hHeld ?_
          refine tk5_ 11 60 (tl_ 19 4095) rfl rfl hHeld ?_
          refine join_ (σ := Nat) 2 (tl_ 19 131071) (fun s_ => [(61, .tuple #[.agg #[.int .i64 t244, .int .i64 t245], .bool t246]), (11, .pointer (some ⟨s_, 0, none⟩)), (48, .tuple #[.agg #[.int .i64 t244, .int .i64 t245], .bool t246]), (62, .agg #[.int .i64 t244, .int .i64 t245]), (63, .bool t246)]) (fun s_ w' => (w'.cell? ⟨gb227, 0, none⟩ = some (.slice (some ad235) l0_0.length c0_0) ∧ w'.cell? ⟨gb227, 1, none⟩ = some (.slice (some ad241) l0_1.length c0_1) ∧ w'.cell? (ad241.add (x10_2).toNat) = some (.slice (some ad242) (rd_L1 l0_1 x10_2).length c241_0) ∧ w'.cell? (ad242.add (x8_1).toNat) = some (.int .i64 (rd (rd_L1 l0_1 x10_2) x8_1)) ∧ w'.cell? (ad240.add (x10_2).toNat) = some (.int .i64 (rd t232 x10_2))) ∧ (Kd.R k36 36 w' w.heap.size (fun k_ => k_ ≠ gb236 ∧ k_ ≠ s_) u6 x6_1) ∧ (Kd.R (Kd.int .i64) 3 w' w.heap.size (fun _ => True) (.slice (some ad240) t232.length co92) t232) ∧ (w'.heap[gb227]? = some (.cells #[.slice (some ad235) l0_0.length c0_0, .slice (some ad241) l0_1.length c0_1] 26 (0, 0))) ∧ (w'.heap[gb236]? = some (.cells #[.int .i64 x237000_2, .int .i64 x237001_2] 36 (0, 0))) ∧ (w'.heap[s_]? = some (.cells #[.int .i64 0, .int .i64 0] 36 (0, 0))) ∧ (w.heap.size ≤ s_) ∧ (w.heap.size ≤ s_) ∧ (gb227 ≠ s_) ∧ (s_ ≠ gb227) ∧ (gb236 ≠ s_) ∧ (s_ ≠ gb236) ∧ (Below w.heap.size w w')) ?_ ?_
          rotate_left
          ·intro hCont
           refine two_ (i := 12) (j := 16) (Ni := some 61) (Nj := some 11) (tl_ 19 8191) (tl_ 19 69631) rfl rfl rfl rfl (two_of HT_.out (g0_)) (by decide) (by decide) (fun K hK => ?_) (fun K hK => ?_)
           ·skip
            refine goes_ Try.func86 (g0_) rfl #[.int .i64 (rd (rd_L1 l0_1 x10_2) x8_1), .int .i64 (rd t232 x10_2)] (by rfl) rfl rfl (g2_) ?_
            with_reducible refine (spec_FracOf.calls k2 (rd (rd_L1 l0_1 x10_2) x8_1) (rd t232 x10_2) t244 t245 t246 _ A28.out).mono ?_
            rintro e w94 ⟨rfl, hb⟩
            have HS4_ := (hb.cell (World.block_lt_of_cell? _ _ (hHeld.2.2.2.2))).trans (hHeld.2.2.2.2)
            refine ⟨_, rfl, ?_⟩
            replace HO_6 := Aside0.mk (Kd.R_below (uf1_ HO_6) hb)
            replace HO_7 := Aside0.mk (Kd.R_below (uf1_ HO_7) hb)
            replace BK227 := bb_ BK227 hb
            replace BK236 := bb_ BK236 hb
            replace HB := Aside0.mk (below_step (spec_GetsOf.calls_q0) hb)
            (try clear hb)
            (try clear hk hi)
            refine hK.out _ _ ⟨(blk_cell BK227.out 0).trans rfl, (blk_cell BK227.out 1).trans rfl, ((cl_ HB hw241_0).trans rfl), ((cl_ HB hw242_0).trans rfl), HS4_⟩ (fun hHeld => ?_)
            clear hK K
            refine nm_ ?_
            refine pw_ 13 48 (tl_ 19 16383) rfl rfl ?_
            refine pw_ 14 62 (tl_ 19 32767) rfl rfl ?_
            refine pw_ 15 63 (tl_ 19 65535) rfl rfl ?_
            refine one_ (i := 16) (N := some 11) (tl_ 19 131071) rfl rfl (one_of HT_.out (g0_)) (by decide) (fun K hK => ?_)
            refine bs_ (N := 11) #[.int .i64 0, .int .i64 0] 36 ?_
            intro gb247 hg w95 hbox hb
            have HS4_ := (hb.cell (World.block_lt_of_cell? _ _ (hHeld.2.2.2.2))).trans (hHeld.2.2.2.2)
            replace HO_6 := Aside0.mk (Kd.R_below (Kd.R_elderB (uf1_ HO_6) gb247 (Nat.le_of_eq hg.symm)) hb)
            replace HO_7 := Aside0.mk (Kd.R_below (uf1_ HO_7) hb)
            have BK247 := Aside0.mk (hbox)
            have GW247 := Aside0.mk ((g7_ : w.heap.size ≤ gb247))
            have GE247 := Aside0.mk ((g7_ : w.heap.size ≤ gb247))
            replace HB := Aside0.mk (below_step (spec_GetsOf.calls_q0) hb)
            have NB227_247 := Aside0.mk ((g17_ : gb227 ≠ gb247))
            have NB247_227 := Aside0.mk ((g18_ : gb247 ≠ gb227))
            replace BK227 := bb_ BK227 hb
            have NB236_247 := Aside0.mk ((g19_ : gb236 ≠ gb247))
            have NB247_236 := Aside0.mk ((g20_ : gb247 ≠ gb236))
            replace BK236 := bb_ BK236 hb
            clear hb hbox hg
            refine hK.out _ _ ⟨(blk_cell BK227.out 0).trans rfl, (blk_cell BK227.out 1).trans rfl, ((cl_ HB hw241_0).trans rfl), ((cl_ HB hw242_0).trans rfl), HS4_⟩ (fun hHeld => ?_)
            clear hK K
            refine nm_ ?_
            exact norm_ (g9_) (hCont (gb247) _ ⟨hHeld, (uf1_ HO_6), (uf1_ HO_7), (uf3_ BK227), (uf3_ BK236), (uf3_ BK247), GW247.out, GE247.out, NB227_247.out, NB247_227.out, NB236_247.out, NB247_236.out, (spec_GetsOf.calls_q0)⟩)
           ·skip
            refine bs_ (N := 11) #[.int .i64 0, .int .i64 0] 36 ?_
            intro gb247 hg w94 hbox hb
            have HS4_ := (hb.cell (World.block_lt_of_cell? _ _ (hHeld.2.2.2.2))).trans (hHeld.2.2.2.2)
            replace HO_6 := Aside0.mk (Kd.R_below (Kd.R_elderB (uf1_ HO_6) gb247 (Nat.le_of_eq hg.symm)) hb)
            replace HO_7 := Aside0.mk (Kd.R_below (uf1_ HO_7) hb)
            have BK247 := Aside0.mk (hbox)
            have GW247 := Aside0.mk ((g7_ : w.heap.size ≤ gb247))
            have GE247 := Aside0.mk ((g7_ : w.heap.size ≤ gb247))
            replace HB := Aside0.mk (below_step (spec_GetsOf.calls_q0) hb)
            have NB227_247 := Aside0.mk ((g17_ : gb227 ≠ gb247))
            have NB247_227 := Aside0.mk ((g18_ : gb247 ≠ gb227))
            replace BK227 := bb_ BK227 hb
            have NB236_247 := Aside0.mk ((g19_ : gb236 ≠ gb247))
            have NB247_236 := Aside0.mk ((g20_ : gb247 ≠ gb236))
            replace BK236 := bb_ BK236 hb
            clear hb hbox hg
            refine hK.out _ _ ⟨(blk_cell BK227.out 0).trans rfl, (blk_cell BK227.out 1).trans rfl, ((cl_ HB hw241_0).trans rfl), ((cl_ HB hw242_0).trans rfl), HS4_⟩ (fun hHeld => ?_)
            clear hK K
            refine nm_ ?_
            refine one_ (i := 12) (N := some 61) (tl_ 19 73727) rfl rfl (one_of HT_.out (g0_)) (by decide) (fun K hK => ?_)
            refine goes_ Try.func86 (g0_) rfl #[.int .i64 (rd (rd_L1 l0_1 x10_2) x8_1), .int .i64 (rd t232 x10_2)] (by rfl) rfl rfl (g2_) ?_
            with_reducible refine (spec_FracOf.calls k2 (rd (rd_L1 l0_1 x10_2) x8_1) (rd t232 x10_2) t244 t245 t246 _ A28.out).mono ?_
            rintro e w95 ⟨rfl, hb⟩
            have HS4_ := (hb.cell (World.block_lt_of_cell? _ _ (hHeld.2.2.2.2))).trans (hHeld.2.2.2.2)
            refine ⟨_, rfl, ?_⟩
            replace HO_6 := Aside0.mk (Kd.R_below (uf1_ HO_6) hb)
            replace HO_7 := Aside0.mk (Kd.R_below (uf1_ HO_7) hb)
            replace BK227 := bb_ BK227 hb
            replace BK236 := bb_ BK236 hb
            replace BK247 := bb_ BK247 hb
            replace HB := Aside0.mk (below_step (spec_GetsOf.calls_q0) hb)
            (try clear hb)
            (try clear hk hi)
            refine hK.out _ _ ⟨(blk_cell BK227.out 0).trans rfl, (blk_cell BK227.out 1).trans rfl, ((cl_ HB hw241_0).trans rfl), ((cl_ HB hw242_0).trans rfl), HS4_⟩ (fun hHeld => ?_)
            clear hK K
            refine nm_ ?_
            refine pw_ 13 48 (tl_ 19 81919) rfl rfl ?_
            refine pw_ 14 62 (tl_ 19 98303) rfl rfl ?_
            refine pw_ 15 63 (tl_ 19 131071) rfl rfl ?_
            exact norm_ (g9_) (hCont (gb247) _ ⟨hHeld, (uf1_ HO_6), (uf1_ HO_7), (uf3_ BK227), (uf3_ BK236), (uf3_ BK247), GW247.out, GE247.out, NB227_247.out, NB247_227.out, NB236_247.out, NB247_236.out, (spec_GetsOf.calls_q0)⟩)
          rintro gb247 w96 ⟨hS_, h0_, h1_, h2_, h3_, h4_, h5_, h6_, h7_, h8_, h9_, h10_, h11_⟩
          replace HO_6 : Aside0 (Kd.R k36 36 w96 w.heap.size (fun k_ => k_ ≠ gb236 ∧ k_ ≠ gb247) u6 x6_1) := ⟨h0_⟩
          replace HO_7 : Aside0 (Kd.R (Kd.int .i64) 3 w96 w.heap.size (fun _ => True) (.slice (some ad240) t232.length co92) t232) := ⟨h1_⟩
          replace BK227 : Aside0 (w96.heap[gb227]? = some (.cells #[.slice (some ad235) l0_0.length c0_0, .slice (some ad241) l0_1.length c0_1] 26 (0, 0))) := ⟨h2_⟩
          replace BK236 : Aside0 (w96.heap[gb236]? = some (.cells #[.int .i64 x237000_2, .int .i64 x237001_2] 36 (0, 0))) := ⟨h3_⟩
          have BK247 : Aside0 (w96.heap[gb247]? = some (.cells #[.int .i64 0, .int .i64 0] 36 (0, 0))) := ⟨h4_⟩
          have GW247 : Aside0 (w.heap.size ≤ gb247) := ⟨h5_⟩
          have GE247 : Aside0 (w.heap.size ≤ gb247) := ⟨h6_⟩
          have NB227_247 : Aside0 (gb227 ≠ gb247) := ⟨h7_⟩
          have NB247_227 : Aside0 (gb247 ≠ gb227) := ⟨h8_⟩
          have NB236_247 : Aside0 (gb236 ≠ gb247) := ⟨h9_⟩
          have NB247_236 : Aside0 (gb247 ≠ gb236) := ⟨h10_⟩
          replace HB : Aside0 (Below w.heap.size w w96) := ⟨h11_⟩
          clear h0_ h1_ h2_ h3_ h4_ h5_ h6_ h7_ h8_ h9_ h10_ h11_
          have hHeld : w96.cell? ⟨gb227, 0, none⟩ = some (.slice (some ad235) l0_0.length c0_0) ∧ w96.cell? ⟨gb227, 1, none⟩ = some (.slice (some ad241) l0_1.length c0_1) ∧ w96.cell? (ad241.add (x10_2).toNat) = some (.slice (some ad242) (rd_L1 l0_1 x10_2).length c241_0) ∧ w96.cell? (ad242.add (x8_1).toNat) = some (.int .i64 (rd (rd_L1 l0_1 x10_2) x8_1)) ∧ w96.cell? (ad240.add (x10_2).toNat) = some (.int .i64 (rd t232 x10_2)) := hS_
          refine norm_ (a' := ?_) ?_ ?_
          rotate_left
          ·simp only [putAll, Act.put, List.setIfInBounds_toArray, List.set_cons_zero, List.set_cons_succ]
           rfl
          refine one_ (i := 17) (N := none) (tl_ 19 262143) rfl rfl (one_of HT_.out (g0_)) (by decide) (fun K hK => ?_)
          have hs97 : w96.cell? ⟨gb247, 0, none⟩ = some (.int .i64 0) := (blk_cell BK247.out 0).trans rfl
          have hfs97 := blk_frozen BK247.out 0
          have hns97_0 := NB227_247.out
          have hns97_1 := NB236_247.out
          have hms97_0 := NB247_227.out
          have hms97_1 := NB247_236.out
          have hs98 : w96.cell? ⟨gb247, 1, none⟩ = some (.int .i64 0) := (blk_cell BK247.out 1).trans rfl
          have hfs98 := blk_frozen BK247.out 1
          have hns98_0 := NB227_247.out
          have hns98_1 := NB236_247.out
          have hms98_0 := NB247_227.out
          have hms98_1 := NB247_236.out
          refine skip_ (w1 := ?_) (by rfl) rfl ?_ ?_
          rotate_left
          ·go_simp
           rfl
          refine hK.out _ _ ⟨(cf_ NB227_247 ((cf_ NB227_247 (hHeld.1)))), (cf_ NB227_247 ((cf_ NB227_247 (hHeld.2.1)))), ((cell_far (p := ⟨gb247, _, none⟩) (by first | exact Nat.ne_of_lt (Nat.lt_of_lt_of_le (by have := World.block_lt_of_cell? _ _ hw241_0; first | rwa [add_block] at this | exact this) GW247.out) | (rw [add_block]; exact Nat.ne_of_lt (Nat.lt_of_lt_of_le (by have := World.block_lt_of_cell? _ _ hw241_0; first | rwa [add_block] at this | exact this) GW247.out)) | (show (Addr.add _ _).block ≠ _; rw [add_block]; exact Nat.ne_of_lt (Nat.lt_of_lt_of_le (by have := World.block_lt_of_cell? _ _ hw241_0; first | rwa [add_block] at this | exact this) GW247.out)) | (dsimp only; exact Nat.ne_of_lt (Nat.lt_of_lt_of_le (by have := World.block_lt_of_cell? _ _ hw241_0; first | rwa [add_block] at this | exact this) GW247.out))) _).trans (((cell_far (p := ⟨gb247, _, none⟩) (by first | exact Nat.ne_of_lt (Nat.lt_of_lt_of_le (by have := World.block_lt_of_cell? _ _ hw241_0; first | rwa [add_block] at this | exact this) GW247.out) | (rw [add_block]; exact Nat.ne_of_lt (Nat.lt_of_lt_of_le (by have := World.block_lt_of_cell? _ _ hw241_0; first | rwa [add_block] at this | exact this) GW247.out)) | (show (Addr.add _ _).block ≠ _; rw [add_block]; exact Nat.ne_of_lt (Nat.lt_of_lt_of_le (by have := World.block_lt_of_cell? _ _ hw241_0; first | rwa [add_block] at this | exact this) GW247.out)) | (dsimp only; exact Nat.ne_of_lt (Nat.lt_of_lt_of_le (by have := World.block_lt_of_cell? _ _ hw241_0; first | rwa [add_block] at this | exact this) GW247.out))) _).trans (hHeld.2.2.1)))), ((cell_far (p := ⟨gb247, _, none⟩) (by first | exact Nat.ne_of_lt (Nat.lt_of_lt_of_le (by have := World.block_lt_of_cell? _ _ hw242_0; first | rwa [add_block] at this | exact this) GW247.out) | (rw [add_block]; exact Nat.ne_of_lt (Nat.lt_of_lt_of_le (by have := World.block_lt_of_cell? _ _ hw242_0; first | rwa [add_block] at this | exact this) GW247.out)) | (show (Addr.add _ _).block ≠ _; rw [add_block]; exact Nat.ne_of_lt (Nat.lt_of_lt_of_le (by have := World.block_lt_of_cell? _ _ hw242_0; first | rwa [add_block] at this | exact this) GW247.out)) | (dsimp only; exact Nat.ne_of_lt (Nat.lt_of_lt_of_le (by have := World.block_lt_of_cell? _ _ hw242_0; first | rwa [add_block] at this | exact this) GW247.out))) _).trans (((cell_far (p := ⟨gb247, _, none⟩) (by first | exact Nat.ne_of_lt (Nat.lt_of_lt_of_le (by have := World.block_lt_of_cell? _ _ hw242_0; first | rwa [add_block] at this | exact this) GW247.out) | (rw [add_block]; exact Nat.ne_of_lt (Nat.lt_of_lt_of_le (by have := World.block_lt_of_cell? _ _ hw242_0; first | rwa [add_block] at this | exact this) GW247.out)) | (show (Addr.add _ _).block ≠ _; rw [add_block]; exact Nat.ne_of_lt (Nat.lt_of_lt_of_le (by have := World.block_lt_of_cell? _ _ hw242_0; first | rwa [add_block] at this | exact this) GW247.out)) | (dsimp only; exact Nat.ne_of_lt (Nat.lt_of_lt_of_le (by have := World.block_lt_of_cell? _ _ hw242_0; first | rwa [add_block] at this | exact this) GW247.out))) _).trans (hHeld.2.2.2.1)))), ((cell_far (p := ⟨gb247, _, none⟩) (g47_) _).trans (((cell_far (p := ⟨gb247, _, none⟩) (g47_) _).trans (hHeld.2.2.2.2))))⟩ (fun hHeld => ?_)
          clear hK K
          refine pw_ 18 12 (tl_ 19 524287) rfl rfl ?_
          refine done_ (done_of HT_.out (g0_)) ?_
          try go_wp2
          have n0_ : Aside0 (Kd.R k36 36 ((w96.setCell ⟨gb247, 0, none⟩ (.int .i64 t244)).setCell ⟨gb247, 1, none⟩ (.int .i64 t245)) w.heap.size (fun k_ => k_ ≠ gb236 ∧ k_ ≠ gb247) u6 x6_1) := ⟨g82_⟩
          have n1_ : Aside0 (Kd.R (Kd.int .i64) 3 ((w96.setCell ⟨gb247, 0, none⟩ (.int .i64 t244)).setCell ⟨gb247, 1, none⟩ (.int .i64 t245)) w.heap.size (fun _ => True) (.slice (some ad240) t232.length co92) t232) := ⟨g83_⟩
          have n2_ : Aside0 (((w96.setCell ⟨gb247, 0, none⟩ (.int .i64 t244)).setCell ⟨gb247, 1, none⟩ (.int .i64 t245)).heap[gb227]? = some (.cells #[.slice (some ad235) l0_0.length c0_0, .slice (some ad241) l0_1.length c0_1] 26 (0, 0))) := ⟨g84_⟩
          have n3_ : Aside0 (((w96.setCell ⟨gb247, 0, none⟩ (.int .i64 t244)).setCell ⟨gb247, 1, none⟩ (.int .i64 t245)).heap[gb236]? = some (.cells #[.int .i64 x237000_2, .int .i64 x237001_2] 36 (0, 0))) := ⟨g85_⟩
          have n4_ : Aside0 (((w96.setCell ⟨gb247, 0, none⟩ (.int .i64 t244)).setCell ⟨gb247, 1, none⟩ (.int .i64 t245)).heap[gb247]? = some (.cells #[.int .i64 t244, .int .i64 t245] 36 (0, 0))) := ⟨g86_⟩
          have n5_ : Aside0 (Below w.heap.size w ((w96.setCell ⟨gb247, 0, none⟩ (.int .i64 t244)).setCell ⟨gb247, 1, none⟩ (.int .i64 t245))) := ⟨spec_GetsOf.calls_q0⟩
          (try clear HO_6)
          (try clear HO_7)
          (try clear BK227)
          (try clear BK236)
          (try clear BK247)
          (try clear HB)
          generalize ((w96.setCell ⟨gb247, 0, none⟩ (.int .i64 t244)).setCell ⟨gb247, 1, none⟩ (.int .i64 t245)) = w99 at n0_ n1_ n2_ n3_ n4_ n5_ ⊢
          have HO_6 := n0_
          have HO_7 := n1_
          have BK227 := n2_
          have BK236 := n3_
          have BK247 := n4_
          have HB := n5_
          clear n0_ n1_ n2_ n3_ n4_ n5_
          replace HO_6 := Aside0.mk (Kd.R_drew HO_6.out)
          replace HO_7 := Aside0.mk (Kd.R_drew HO_7.out)
          replace BK227 := Aside0.mk (blk_drew BK227.out)
          replace BK236 := Aside0.mk (blk_drew BK236.out)
          replace BK247 := Aside0.mk (blk_drew BK247.out)
          replace HB := Aside0.mk (below_drew1 HB.out)
          have p248 : 0 ≤ (x10_2 : Int) := of_decide_eq_true (g1_)
          have q248 : x10_2 < (l1.length : Int) := of_decide_eq_true (g1_)
          obtain ⟨ad248, e248, hx248_0, hx248_1⟩ := at_T36 HR1.out x10_2 p248 q248
          have hw248_1 := hx248_1
          have hw248_0 := hx248_0
          cases e248
          replace hx248_0 := cl_ HB hx248_0
          replace hx248_1 := cl_ HB hx248_1
          replace p248 := eq_true p248
          replace q248 := eq_true q248
          refine start_ (n := 12) (S := fun w' => w'.cell? ⟨gb247, 0, none⟩ = some (.int .i64 t244) ∧ w'.cell? ⟨gb247, 1, none⟩ = some (.int .i64 t245) ∧ w'.cell? (ad248.add ((x10_2).toNat * 2)) = some (.int .i64 ((rd_T36 l1 x10_2).f0)) ∧ w'.cell? ⟨(ad248.add ((x10_2).toNat * 2)).block, (ad248.add ((x10_2).toNat * 2)).off + 1, none⟩ = some (.int .i64 ((rd_T36 l1 x10_2).f1))) (ds := []) (tl_ 12 0) (g0_) rfl (g0_) ⟨(blk_cell BK247.out 0).trans rfl, (blk_cell BK247.out 1).trans rfl, ((cl_ HB hw248_0).trans rfl), ((cl_ HB hw248_1).trans rfl)⟩ (fun hHeld => ?_); refine with_tabW spec_GetsOf.tab14 spec_GetsOf.bits14 (fun HT_ HW_ => ?_)
          generalize w99.drew = w100 at HO_6 HO_7 BK227 BK236 BK247 HB hx248_0 hx248_1 hHeld ⊢
          refine pw_ 0 65 (tl_ 12 1) rfl rfl ?_
          refine pw_ 1 66 (tl_ 12 3) rfl rfl ?_
          refine pw_ 2 67 (tl_ 12 7) rfl rfl ?_
          refine tk0_ 3 68 (tl_ 12 15) rfl rfl hHeld ?_
          refine tk0_ 4 69 (tl_ 12 31) rfl rfl hHeld ?_
          refine join_ (σ := Nat) 2 (tl_ 12 1023) (fun s_ => [(70, .tuple #[.agg #[.int .i64 t249, .int .i64 t250], .bool false]), (13, .pointer (some ⟨s_, 0, none⟩)), (64, .tuple #[.agg #[.int .i64 t249, .int .i64 t250], .bool false]), (71, .agg #[.int .i64 t249, .int .i64 t250]), (72, .bool false)]) (fun s_ w' => (w'.cell? ⟨gb247, 0, none⟩ = some (.int .i64 t244) ∧ w'.cell? ⟨gb247, 1, none⟩ = some (.int .i64 t245) ∧ w'.cell? (ad248.add ((x10_2).toNat * 2)) = some (.int .i64 ((rd_T36 l1 x10_2).f0)) ∧ w'.cell? ⟨(ad248.add ((x10_2).toNat * 2)).block, (ad248.add ((x10_2).toNat * 2)).off + 1, none⟩ = some (.int .i64 ((rd_T36 l1 x10_2).f1))) ∧ (Kd.R k36 36 w' w.heap.size (fun k_ => k_ ≠ gb236 ∧ k_ ≠ gb247 ∧ k_ ≠ s_) u6 x6_1) ∧ (Kd.R (Kd.int .i64) 3 w' w.heap.size (fun _ => True) (.slice (some ad240) t232.length co92) t232) ∧ (w'.heap[gb227]? = some (.cells #[.slice (some ad235) l0_0.length c0_0, .slice (some ad241) l0_1.length c0_1] 26 (0, 0))) ∧ (w'.heap[gb236]? = some (.cells #[.int .i64 x237000_2, .int .i64 x237001_2] 36 (0, 0))) ∧ (w'.heap[gb247]? = some (.cells #[.int .i64 t244, .int .i64 t245] 36 (0, 0))) ∧ (w'.heap[s_]? = some (.cells #[.int .i64 0, .int .i64 0] 36 (0, 0))) ∧ (w.heap.size ≤ s_) ∧ (w.heap.size ≤ s_) ∧ (gb227 ≠ s_) ∧ (s_ ≠ gb227) ∧ (gb236 ≠ s_) ∧ (s_ ≠ gb236) ∧ (gb247 ≠ s_) ∧ (s_ ≠ gb247) ∧ (Below w.heap.size w w')) ?_ ?_
          rotate_left
          ·intro hCont
           refine two_ (i := 5) (j := 9) (Ni := some 70) (Nj := some 13) (tl_ 12 63) (tl_ 12 543) rfl rfl rfl rfl (two_of HT_.out (g0_)) (by decide) (by decide) (fun K hK => ?_) (fun K hK => ?_)
           ·skip
            refine goes_ Try.func87 (g0_) rfl #[.agg #[.int .i64 ((rd_T36 l1 x10_2).f0), .int .i64 ((rd_T36 l1 x10_2).f1)], .agg #[.int .i64 t244, .int .i64 t245]] (by rfl) rfl rfl (g2_) ?_
            with_reducible refine (spec_TimesOf.calls k2 ((rd_T36 l1 x10_2).f0) ((rd_T36 l1 x10_2).f1) t244 t245 t249 t250 false _ A29.out).mono ?_
            rintro e w101 ⟨rfl, hb⟩
            refine ⟨_, rfl, ?_⟩
            replace HO_6 := Aside0.mk (Kd.R_below (uf1_ HO_6) hb)
            replace HO_7 := Aside0.mk (Kd.R_below (uf1_ HO_7) hb)
            replace BK227 := bb_ BK227 hb
            replace BK236 := bb_ BK236 hb
            replace BK247 := bb_ BK247 hb
            replace HB := Aside0.mk (below_step (spec_GetsOf.calls_q0) hb)
            (try clear hb)
            (try clear hk hi)
            refine hK.out _ _ ⟨(blk_cell BK247.out 0).trans rfl, (blk_cell BK247.out 1).trans rfl, ((cl_ HB hw248_0).trans rfl), ((cl_ HB hw248_1).trans rfl)⟩ (fun hHeld => ?_)
            clear hK K
            refine nm_ ?_
            refine pw_ 6 64 (tl_ 12 127) rfl rfl ?_
            refine pw_ 7 71 (tl_ 12 255) rfl rfl ?_
            refine pw_ 8 72 (tl_ 12 511) rfl rfl ?_
            refine one_ (i := 9) (N := some 13) (tl_ 12 1023) rfl rfl (one_of HT_.out (g0_)) (by decide) (fun K hK => ?_)
            refine bs_ (N := 13) #[.int .i64 0, .int .i64 0] 36 ?_
            intro gb252 hg w102 hbox hb
            replace HO_6 := Aside0.mk (Kd.R_below (Kd.R_elderB (uf1_ HO_6) gb252 (Nat.le_of_eq hg.symm)) hb)
            replace HO_7 := Aside0.mk (Kd.R_below (uf1_ HO_7) hb)
            have BK252 := Aside0.mk (hbox)
            have GW252 := Aside0.mk ((g7_ : w.heap.size ≤ gb252))
            have GE252 := Aside0.mk ((g7_ : w.heap.size ≤ gb252))
            replace HB := Aside0.mk (below_step (spec_GetsOf.calls_q0) hb)
            have NB227_252 := Aside0.mk ((g17_ : gb227 ≠ gb252))
            have NB252_227 := Aside0.mk ((g18_ : gb252 ≠ gb227))
            replace BK227 := bb_ BK227 hb
            have NB236_252 := Aside0.mk ((g19_ : gb236 ≠ gb252))
            have NB252_236 := Aside0.mk ((g20_ : gb252 ≠ gb236))
            replace BK236 := bb_ BK236 hb
            have NB247_252 := Aside0.mk ((g27_ : gb247 ≠ gb252))
            have NB252_247 := Aside0.mk ((g28_ : gb252 ≠ gb247))
            replace BK247 := bb_ BK247 hb
            clear hb hbox hg
            refine hK.out _ _ ⟨(blk_cell BK247.out 0).trans rfl, (blk_cell BK247.out 1).trans rfl, ((cl_ HB hw248_0).trans rfl), ((cl_ HB hw248_1).trans rfl)⟩ (fun hHeld => ?_)
            clear hK K
            refine nm_ ?_
            exact norm_ (g9_) (hCont (gb252) _ ⟨hHeld, (g48_), (uf1_ HO_7), (uf3_ BK227), (uf3_ BK236), (uf3_ BK247), (uf3_ BK252), GW252.out, GE252.out, NB227_252.out, NB252_227.out, NB236_252.out, NB252_236.out, NB247_252.out, NB252_247.out, (spec_GetsOf.calls_q0)⟩)
           ·skip
            refine bs_ (N := 13) #[.int .i64 0, .int .i64 0] 36 ?_
            intro gb252 hg w101 hbox hb
            replace HO_6 := Aside0.mk (Kd.R_below (Kd.R_elderB (uf1_ HO_6) gb252 (Nat.le_of_eq hg.symm)) hb)
            replace HO_7 := Aside0.mk (Kd.R_below (uf1_ HO_7) hb)
            have BK252 := Aside0.mk (hbox)
            have GW252 := Aside0.mk ((g7_ : w.heap.size ≤ gb252))
            have GE252 := Aside0.mk ((g7_ : w.heap.size ≤ gb252))
            replace HB := Aside0.mk (below_step (spec_GetsOf.calls_q0) hb)
            have NB227_252 := Aside0.mk ((g17_ : gb227 ≠ gb252))
            have NB252_227 := Aside0.mk ((g18_ : gb252 ≠ gb227))
            replace BK227 := bb_ BK227 hb
            have NB236_252 := Aside0.mk ((g19_ : gb236 ≠ gb252))
            have NB252_236 := Aside0.mk ((g20_ : gb252 ≠ gb236))
            replace BK236 := bb_ BK236 hb
            have NB247_252 := Aside0.mk ((g27_ : gb247 ≠ gb252))
            have NB252_247 := Aside0.mk ((g28_ : gb252 ≠ gb247))
            replace BK247 := bb_ BK247 hb
            clear hb hbox hg
            refine hK.out _ _ ⟨(blk_cell BK247.out 0).trans rfl, (blk_cell BK247.out 1).trans rfl, ((cl_ HB hw248_0).trans rfl), ((cl_ HB hw248_1).trans rfl)⟩ (fun hHeld => ?_)
            clear hK K
            refine nm_ ?_
            refine one_ (i := 5) (N := some 70) (tl_ 12 575) rfl rfl (one_of HT_.out (g0_)) (by decide) (fun K hK => ?_)
            refine goes_ Try.func87 (g0_) rfl #[.agg #[.int .i64 ((rd_T36 l1 x10_2).f0), .int .i64 ((rd_T36 l1 x10_2).f1)], .agg #[.int .i64 t244, .int .i64 t245]] (by rfl) rfl rfl (g2_) ?_
            with_reducible refine (spec_TimesOf.calls k2 ((rd_T36 l1 x10_2).f0) ((rd_T36 l1 x10_2).f1) t244 t245 t249 t250 false _ A29.out).mono ?_
            rintro e w102 ⟨rfl, hb⟩
            refine ⟨_, rfl, ?_⟩
            replace HO_6 := Aside0.mk (Kd.R_below (uf1_ HO_6) hb)
            replace HO_7 := Aside0.mk (Kd.R_below (uf1_ HO_7) hb)
            replace BK227 := bb_ BK227 hb
            replace BK236 := bb_ BK236 hb
            replace BK247 := bb_ BK247 hb
            replace BK252 := bb_ BK252 hb
            replace HB := Aside0.mk (below_step (spec_GetsOf.calls_q0) hb)
            (try clear hb)
            (try clear hk hi)
            refine hK.out _ _ ⟨(blk_cell BK247.out 0).trans rfl, (blk_cell BK247.out 1).trans rfl, ((cl_ HB hw248_0).trans rfl), ((cl_ HB hw248_1).trans rfl)⟩ (fun hHeld => ?_)
            clear hK K
            refine nm_ ?_
            refine pw_ 6 64 (tl_ 12 639) rfl rfl ?_
            refine pw_ 7 71 (tl_ 12 767) rfl rfl ?_
            refine pw_ 8 72 (tl_ 12 1023) rfl rfl ?_
            exact norm_ (g9_) (hCont (gb252) _ ⟨hHeld, (g48_), (uf1_ HO_7), (uf3_ BK227), (uf3_ BK236), (uf3_ BK247), (uf3_ BK252), GW252.out, GE252.out, NB227_252.out, NB252_227.out, NB236_252.out, NB252_236.out, NB247_252.out, NB252_247.out, (spec_GetsOf.calls_q0)⟩)
          rintro gb252 w103 ⟨hS_, h0_, h1_, h2_, h3_, h4_, h5_, h6_, h7_, h8_, h9_, h10_, h11_, h12_, h13_, h14_⟩
          replace HO_6 : Aside0 (Kd.R k36 36 w103 w.heap.size (fun k_ => k_ ≠ gb236 ∧ k_ ≠ gb247 ∧ k_ ≠ gb252) u6 x6_1) := ⟨h0_⟩
          replace HO_7 : Aside0 (Kd.R (Kd.int .i64) 3 w103 w.heap.size (fun _ => True) (.slice (some ad240) t232.length co92) t232) := ⟨h1_⟩
          replace BK227 : Aside0 (w103.heap[gb227]? = some (.cells #[.slice (some ad235) l0_0.length c0_0, .slice (some ad241) l0_1.length c0_1] 26 (0, 0))) := ⟨h2_⟩
          replace BK236 : Aside0 (w103.heap[gb236]? = some (.cells #[.int .i64 x237000_2, .int .i64 x237001_2] 36 (0, 0))) := ⟨h3_⟩
          replace BK247 : Aside0 (w103.heap[gb247]? = some (.cells #[.int .i64 t244, .int .i64 t245] 36 (0, 0))) := ⟨h4_⟩
          have BK252 : Aside0 (w103.heap[gb252]? = some (.cells #[.int .i64 0, .int .i64 0] 36 (0, 0))) := ⟨h5_⟩
          have GW252 : Aside0 (w.heap.size ≤ gb252) := ⟨h6_⟩
          have GE252 : Aside0 (w.heap.size ≤ gb252) := ⟨h7_⟩
          have NB227_252 : Aside0 (gb227 ≠ gb252) := ⟨h8_⟩
          have NB252_227 : Aside0 (gb252 ≠ gb227) := ⟨h9_⟩
          have NB236_252 : Aside0 (gb236 ≠ gb252) := ⟨h10_⟩
          have NB252_236 : Aside0 (gb252 ≠ gb236) := ⟨h11_⟩
          have NB247_252 : Aside0 (gb247 ≠ gb252) := ⟨h12_⟩
          have NB252_247 : Aside0 (gb252 ≠ gb247) := ⟨h13_⟩
          replace HB : Aside0 (Below w.heap.size w w103) := ⟨h14_⟩
          clear h0_ h1_ h2_ h3_ h4_ h5_ h6_ h7_ h8_ h9_ h10_ h11_ h12_ h13_ h14_
          have hHeld : w103.cell? ⟨gb247, 0, none⟩ = some (.int .i64 t244) ∧ w103.cell? ⟨gb247, 1, none⟩ = some (.int .i64 t245) ∧ w103.cell? (ad248.add ((x10_2).toNat * 2)) = some (.int .i64 ((rd_T36 l1 x10_2).f0)) ∧ w103.cell? ⟨(ad248.add ((x10_2).toNat * 2)).block, (ad248.add ((x10_2).toNat * 2)).off + 1, none⟩ = some (.int .i64 ((rd_T36 l1 x10_2).f1)) := hS_
          refine norm_ (a' := ?_) ?_ ?_
          rotate_left
          ·simp only [putAll, Act.put, List.setIfInBounds_toArray, List.set_cons_zero, List.set_cons_succ]
           rfl
          refine one_ (i := 10) (N := none) (tl_ 12 2047) rfl rfl (one_of HT_.out (g0_)) (by decide) (fun K hK => ?_)
          have hs104 : w103.cell? ⟨gb252, 0, none⟩ = some (.int .i64 0) := (blk_cell BK252.out 0).trans rfl
          have hfs104 := blk_frozen BK252.out 0
          have hns104_0 := NB227_252.out
          have hns104_1 := NB236_252.out
          have hns104_2 := NB247_252.out
          have hms104_0 := NB252_227.out
          have hms104_1 := NB252_236.out
          have hms104_2 := NB252_247.out
          have hs105 : w103.cell? ⟨gb252, 1, none⟩ = some (.int .i64 0) := (blk_cell BK252.out 1).trans rfl
          have hfs105 := blk_frozen BK252.out 1
          have hns105_0 := NB227_252.out
          have hns105_1 := NB236_252.out
          have hns105_2 := NB247_252.out
          have hms105_0 := NB252_227.out
          have hms105_1 := NB252_236.out
          have hms105_2 := NB252_247.out
          refine skip_ (w1 := ?_) (by rfl) rfl ?_ ?_
          rotate_left
          ·go_simp
           rfl
          refine hK.out _ _ ⟨(cf_ NB247_252 ((cf_ NB247_252 (hHeld.1)))), (cf_ NB247_252 ((cf_ NB247_252 (hHeld.2.1)))), ((cell_far (p := ⟨gb252, _, none⟩) (by first | exact Nat.ne_of_lt (Nat.lt_of_lt_of_le (by have := World.block_lt_of_cell? _ _ hw248_0; first | rwa [add_block] at this | exact this) GW252.out) | (rw [add_block]; exact Nat.ne_of_lt (Nat.lt_of_lt_of_le (by have := World.block_lt_of_cell? _ _ hw248_0; first | rwa [add_block] at this | exact this) GW252.out)) | (show (Addr.add _ _).block ≠ _; rw [add_block]; exact Nat.ne_of_lt (Nat.lt_of_lt_of_le (by have := World.block_lt_of_cell? _ _ hw248_0; first | rwa [add_block] at this | exact this) GW252.out)) | (dsimp only; exact Nat.ne_of_lt (Nat.lt_of_lt_of_le (by have := World.block_lt_of_cell? _ _ hw248_0; first | rwa [add_block] at this | exact this) GW252.out))) _).trans (((cell_far (p := ⟨gb252, _, none⟩) (by first | exact Nat.ne_of_lt (Nat.lt_of_lt_of_le (by have := World.block_lt_of_cell? _ _ hw248_0; first | rwa [add_block] at this | exact this) GW252.out) | (rw [add_block]; exact Nat.ne_of_lt (Nat.lt_of_lt_of_le (by have := World.block_lt_of_cell? _ _ hw248_0; first | rwa [add_block] at this | exact this) GW252.out)) | (show (Addr.add _ _).block ≠ _; rw [add_block]; exact Nat.ne_of_lt (Nat.lt_of_lt_of_le (by have := World.block_lt_of_cell? _ _ hw248_0; first | rwa [add_block] at this | exact this) GW252.out)) | (dsimp only; exact Nat.ne_of_lt (Nat.lt_of_lt_of_le (by have := World.block_lt_of_cell? _ _ hw248_0; first | rwa [add_block] at this | exact this) GW252.out))) _).trans (hHeld.2.2.1)))), ((cell_far (p := ⟨gb252, _, none⟩) (by first | exact Nat.ne_of_lt (Nat.lt_of_lt_of_le (by have := World.block_lt_of_cell? _ _ hw248_1; first | rwa [add_block] at this | exact this) GW252.out) | (rw [add_block]; exact Nat.ne_of_lt (Nat.lt_of_lt_of_le (by have := World.block_lt_of_cell? _ _ hw248_1; first | rwa [add_block] at this | exact this) GW252.out)) | (show (Addr.add _ _).block ≠ _; rw [add_block]; exact Nat.ne_of_lt (Nat.lt_of_lt_of_le (by have := World.block_lt_of_cell? _ _ hw248_1; first | rwa [add_block] at this | exact this) GW252.out)) | (dsimp only; exact Nat.ne_of_lt (Nat.lt_of_lt_of_le (by have := World.block_lt_of_cell? _ _ hw248_1; first | rwa [add_block] at this | exact this) GW252.out))) _).trans (((cell_far (p := ⟨gb252, _, none⟩) (by first | exact Nat.ne_of_lt (Nat.lt_of_lt_of_le (by have := World.block_lt_of_cell? _ _ hw248_1; first | rwa [add_block] at this | exact this) GW252.out) | (rw [add_block]; exact Nat.ne_of_lt (Nat.lt_of_lt_of_le (by have := World.block_lt_of_cell? _ _ hw248_1; first | rwa [add_block] at this | exact this) GW252.out)) | (show (Addr.add _ _).block ≠ _; rw [add_block]; exact Nat.ne_of_lt (Nat.lt_of_lt_of_le (by have := World.block_lt_of_cell? _ _ hw248_1; first | rwa [add_block] at this | exact this) GW252.out)) | (dsimp only; exact Nat.ne_of_lt (Nat.lt_of_lt_of_le (by have := World.block_lt_of_cell? _ _ hw248_1; first | rwa [add_block] at this | exact this) GW252.out))) _).trans (hHeld.2.2.2))))⟩ (fun hHeld => ?_)
          clear hK K
          refine pw_ 11 14 (tl_ 12 4095) rfl rfl ?_
          refine done_ (done_of HT_.out (g0_)) ?_
          have hnb106 := NB236_227.out
          have hnc106 := NB227_236.out
          have hnb107 := NB236_247.out
          have hnc107 := NB247_236.out
          have hnb108 := NB236_252.out
          have hnc108 := NB252_236.out
          obtain ⟨hcz109_0, hcz109_1, hfz109_0, hfz109_1⟩ := blk2_ BK236
          have hnb110 := NB252_227.out
          have hnc110 := NB227_252.out
          have hnb111 := NB252_247.out
          have hnc111 := NB247_252.out
          obtain ⟨hcz112_0, hcz112_1, hfz112_0, hfz112_1⟩ := blk2_ BK252
          try go_wp2_with (first | ((with_reducible refine gate_callee (f := 71) rfl ?_); refine goesL_ (some 76) rfl rfl Try.func71 k_ rfl #[.agg #[.int .i64 x237000_2, .int .i64 x237001_2], .agg #[.int .i64 t249, .int .i64 t250]] rfl (g2_) ?_; (with_reducible refine (spec_PlusOf.calls k2 x237000_2 x237001_2 t249 t250 t253 t254 t255 _ A30.out).mono ?_); rintro e w113 ⟨rfl, hb⟩; refine ⟨_, rfl, ?_⟩; replace HO_6 := Aside0.mk (Kd.R_below (g87_) hb); replace HO_7 := Aside0.mk (Kd.R_below (g88_) hb); replace BK227 := Aside0.mk (blk_below (g := gb227) (o := .cells #[.slice (some ad235) l0_0.length c0_0, .slice (some ad241) l0_1.length c0_1] 26 (0, 0)) (g89_) hb); replace BK236 := Aside0.mk (blk_below (g := gb236) (o := .cells #[.int .i64 x237000_2, .int .i64 x237001_2] 36 (0, 0)) (g90_) hb); replace BK247 := Aside0.mk (blk_below (g := gb247) (o := .cells #[.int .i64 t244, .int .i64 t245] 36 (0, 0)) (g91_) hb); replace BK252 := Aside0.mk (blk_below (g := gb252) (o := .cells #[.int .i64 t249, .int .i64 t250] 36 (0, 0)) (g92_) hb); replace HB := Aside0.mk (below_step (spec_GetsOf.calls_q0) hb); (try clear hb); (try clear hk hi)) | ((with_reducible refine gate_dst (N := 15) rfl ?_); refine bx_ (N := 15) #[.int .i64 0, .int .i64 0] 36 ?_; intro gb256 hg w114 hbox hb; replace HO_6 := Aside0.mk (Kd.R_below (Kd.R_elderB (uf1_ HO_6) gb256 (Nat.le_of_eq hg.symm)) hb); replace HO_7 := Aside0.mk (Kd.R_below (uf1_ HO_7) hb); have BK256 := Aside0.mk (hbox); have GW256 := Aside0.mk ((g7_ : w.heap.size ≤ gb256)); have GE256 := Aside0.mk ((g7_ : w.heap.size ≤ gb256)); replace HB := Aside0.mk (below_step (spec_GetsOf.calls_q0) hb); have NB227_256 := Aside0.mk ((g17_ : gb227 ≠ gb256)); have NB256_227 := Aside0.mk ((g18_ : gb256 ≠ gb227)); replace BK227 := bb_ BK227 hb; have NB236_256 := Aside0.mk ((g19_ : gb236 ≠ gb256)); have NB256_236 := Aside0.mk ((g20_ : gb256 ≠ gb236)); replace BK236 := bb_ BK236 hb; have NB247_256 := Aside0.mk ((g27_ : gb247 ≠ gb256)); have NB256_247 := Aside0.mk ((g28_ : gb256 ≠ gb247)); replace BK247 := bb_ BK247 hb; have NB252_256 := Aside0.mk ((g93_ : gb252 ≠ gb256)); have NB256_252 := Aside0.mk ((g94_ : gb256 ≠ gb252)); replace BK252 := bb_ BK252 hb; clear hb hbox hg; have hnb115 := NB256_227.out; have hnc115 := NB227_256.out; have hnb116 := NB256_236.out; have hnc116 := NB236_256.out; have hnb117 := NB256_247.out; have hnc117 := NB247_256.out; have hnb118 := NB256_252.out; have hnc118 := NB252_256.out; obtain ⟨hcz119_0, hcz119_1, hfz119_0, hfz119_1⟩ := blk2_ BK256) | ((with_reducible refine gate_dst (N := 85) rfl ?_); refine Kd.R_lit k36 _ 36 ?hg (N := 85) ?hd (xs := ([] : List (S36))) (inner := []) (ok := fun _ => True) (okp := fun _ => True) ?hr ?hp (fun _ hk => hk) trivial (Below.refl _ _) (Nat.le_refl _) (by simp) ?_; (case hd => rfl); (case hg => rfl); (case hr => first | (go_simp; done) | (go_simp; rfl)); (case hp => exact (Reps.none _ _)); intro v261 w120 ho121 hb hg_ hnew_; clear hg_ hnew_; (first | rw [← Ny260.out] at ho121 | (simp only [Int.reduceToNat] at ho121; rw [← Ny260.out] at ho121)); replace HO_7 := Aside0.mk (Kd.R_below (by (with_reducible repeat (first | apply Kd.R_alloc | apply Kd.R_drewN | apply Kd.R_drew)); exact (Kd.R_mono (Kd.R_far (p := ⟨gb256, 1, none⟩) (Kd.R_far (p := ⟨gb256, 0, none⟩) (Kd.R_types HO_7.out BK256.out (by decide)) (fun _ hk => hk.2) (.int .i64 t253)) (fun _ hk => hk.2) (.int .i64 t254)) (fun _ h_ => h_.1))) hb); have HO262 := Aside0.mk (Kd.R_lower (Kd.R_newB (Kd.R_newB (Kd.R_newB (Kd.R_newB (Kd.R_new' ho121 (Kd.R_lt (g59_))) (g := gb236) (o := .cells #[.int .i64 x237000_2, .int .i64 x237001_2] 36 (0, 0)) (g60_)) (g := gb247) (o := .cells #[.int .i64 t244, .int .i64 t245] 36 (0, 0)) (g61_)) (g := gb252) (o := .cells #[.int .i64 t249, .int .i64 t250] 36 (0, 0)) (g62_)) (g := gb256) (o := .cells #[.int .i64 t253, .int .i64 t254] 36 (0, 0)) (g63_)) (below_size (spec_GetsOf.calls_q0))); replace HO_6 := Aside0.mk (Kd.R_elder' (g59_) (Kd.R_base ho121) hb); replace BK227 := Aside0.mk (blk_below (g := gb227) (o := .cells #[.slice (some ad235) l0_0.length c0_0, .slice (some ad241) l0_1.length c0_1] 26 (0, 0)) (by (with_reducible repeat (first | refine blk_drewN ?_ _ | refine blk_drew ?_ | refine blk_alloc ?_ _)); refine blk_far ?_ NB227_256.out _; (with_reducible repeat (first | refine blk_drewN ?_ _ | refine blk_drew ?_ | refine blk_alloc ?_ _)); refine blk_far ?_ NB227_256.out _; (with_reducible repeat (first | refine blk_drewN ?_ _ | refine blk_drew ?_ | refine blk_alloc ?_ _)); exact BK227.out) hb); replace BK236 := Aside0.mk (blk_below (g := gb236) (o := .cells #[.int .i64 x237000_2, .int .i64 x237001_2] 36 (0, 0)) (g60_) hb); replace BK247 := Aside0.mk (blk_below (g := gb247) (o := .cells #[.int .i64 t244, .int .i64 t245] 36 (0, 0)) (g61_) hb); replace BK252 := Aside0.mk (blk_below (g := gb252) (o := .cells #[.int .i64 t249, .int .i64 t250] 36 (0, 0)) (g62_) hb); replace BK256 := Aside0.mk (blk_below (g := gb256) (o := .cells #[.int .i64 t253, .int .i64 t254] 36 (0, 0)) (g63_) hb); replace HB := Aside0.mk (below_step (spec_GetsOf.calls_q0) hb); clear hb ho121))
          go_ret2
          exact ⟨_, g4_, by (with_reducible repeat (first | apply Kd.R_alloc | apply Kd.R_drewN | apply Kd.R_drew)); exact Kd.R_mono HO262.out (fun _ hk => trivial), spec_GetsOf.calls_q0⟩
       ·rw [if_neg c20] at H
        have c20b0 := decide_eq_false c20
        clear c20
        obtain ⟨c122, H⟩ := pos_ H
        have LMc122 := Aside0.mk c122
        clear c122
        obtain ⟨y237, hy237⟩ : ∃ y_ : List (S36), y_ = (x6_1 ++ [(⟨x237000_2, x237001_2⟩ : S36)]) := ⟨_, rfl⟩
        replace H : (spec_GetsOf.l0 k2 l1 y237 t232 (wrap64 (x8_1 + 1)) l0_0 l0_1) = some (r1, r2) := by first | (rw [hy237]; with_reducible exact H) | (have H2_ := (Option.bind_some _ _).symm.trans H; rw [hy237]; with_reducible exact H2_) | (have H2_ := (Option.bind_some _ _).symm.trans H; with_reducible exact H2_) | with_reducible exact H | (rw [hy237]; exact H) | exact H
        have Ny237 := Aside0.mk hy237
        clear hy237
        have H' := Aside0.mk H
        clear H
        have hnb123 := NB236_227.out
        have hnc123 := NB227_236.out
        obtain ⟨hcz124_0, hcz124_1, hfz124_0, hfz124_1⟩ := blk2_ BK236
        go_wp2_with (first | ((with_reducible refine gate_builtin (b := .append) (xs := #[.tmp 87, .tmp 89]) rfl ?_); at_builtin; refine Kd.R_append k36 (w0 := w) w.heap.size rfl (.tmp 87) (.tmp 89) 27 36 (.agg #[(.int .i64 0), (.int .i64 0)]) 16 rfl Try.underlying27 info36 rfl (by decide) (by omega) u6 x6_1 (⟨x237000_2, x237001_2⟩ : S36) [.int .i64 x237000_2, .int .i64 x237001_2] (fun k_ => k_ ≠ gb236) (fun _ => False) rfl rfl ?aP (fun _ hk => hk.elim) ?aF ?aO ?aB ?aS ?aL ?_; (case aP => exact k36_mkM _ _ _ (⟨x237000_2, x237001_2⟩ : S36)); (case aB => exact (spec_GetsOf.calls_q0)); (case aF => exact (fun k_ hk => Kd.freshB (g := gb236) (o := .cells #[.int .i64 x237000_2, .int .i64 x237001_2] 36 (0, 0)) (uf3_ BK236) k_ hk)); (case aO => exact (uf1_ HO_6)); (case aS => exact (below_size (spec_GetsOf.calls_q0))); (case aL => have := LMc122.out; omega); intro v238 w125 ho hb hg hat; rw [← Ny237.out] at ho; replace HO_7 := Aside0.mk (Kd.R_over' (uf1_ HO_7) (Kd.R_typed (uf1_ HO_6)) (by decide) hg); replace BK227 := Aside0.mk (blk_grown (g := gb227) (o := .cells #[.slice (some ad235) l0_0.length c0_0, .slice A0_1 l0_1.length c0_1] 26 (0, 0)) (uf3_ BK227) hg (Kd.R_ne HO_6.out BK227.out (by decide))); replace BK236 := Aside0.mk (blk_grown (g := gb236) (o := .cells #[.int .i64 x237000_2, .int .i64 x237001_2] 36 (0, 0)) (uf3_ BK236) hg (Kd.R_away HO_6.out (fun _ hk => hk))); replace HB := Aside0.mk (hb); have HO239 := Aside0.mk (ho); clear HO_6; clear ho hb hg hat))
        go_roundg k2
        case measure => have := HK1.out; have := HK2.out; omega
        case rel => exact ⟨(y237), (wrap64 (x8_1 + 1)), (g3_), H', ⟨g46_⟩, ⟨by (with_reducible repeat (first | apply Kd.R_alloc | apply Kd.R_drewN | apply Kd.R_drew)); exact Kd.R_mono HO239.out (fun _ hk => trivial)⟩, ⟨uf1_ HO_7⟩, ⟨uf3_ BK227⟩, ⟨spec_GetsOf.calls_q0⟩⟩
    ·rw [if_neg c13] at H
     have c13b0 := decide_eq_false c13
     clear c13
     simp only [Option.some.injEq, Prod.mk.injEq] at H
     obtain ⟨rfl, rfl⟩ := H
     go_wp2
     go_ret2
     exact ⟨_, g4_, uf1_ HO_6, spec_GetsOf.calls_q0⟩
 ·replace c4 := Bool.eq_false_iff.mpr c4
  subst c4
  replace H := ifn_ H
  simp only [Option.some.injEq, Prod.mk.injEq] at H
  obtain ⟨rfl, rfl⟩ := H
  go_enter Try.func57, Try.ntmps57
  go_wp2_with (first | ((with_reducible refine gate_dst (N := 2) rfl ?_); refine bx_ (N := 2) #[.slice A0_0 l0_0.length c0_0, .slice A0_1 l0_1.length c0_1] 26 ?_; intro gb227 hg w126 hbox hb; have BK227 := Aside0.mk (hbox); have GW227 := Aside0.mk ((g7_ : w.heap.size ≤ gb227)); have GE227 := Aside0.mk ((g7_ : w.heap.size ≤ gb227)); replace HB := Aside0.mk (below_step (spec_GetsOf.calls_q0) hb); clear hb hbox hg) | ((with_reducible refine gate_dst (N := 17) rfl ?_); refine Kd.R_lit k36 _ 36 ?hg (N := 17) ?hd (xs := ([] : List (S36))) (inner := []) (ok := fun _ => True) (okp := fun _ => True) ?hr ?hp (fun _ hk => hk) trivial (Below.refl _ _) (Nat.le_refl _) (by simp) ?_; (case hd => rfl); (case hg => rfl); (case hr => first | (go_simp; done) | (go_simp; rfl)); (case hp => exact (Reps.none _ _)); intro v229 w127 ho128 hb hg_ hnew_; clear hg_ hnew_; (first | rw [← Ny228.out] at ho128 | (simp only [Int.reduceToNat] at ho128; rw [← Ny228.out] at ho128)); have HO230 := Aside0.mk (Kd.R_lower ho128 (below_size (spec_GetsOf.calls_q0))); replace BK227 := bb_ BK227 hb; replace HB := Aside0.mk (below_step (spec_GetsOf.calls_q0) hb); clear hb ho128; obtain ⟨hcz129_0, hcz129_1, hfz129_0, hfz129_1⟩ := blk2_ BK227) | ((with_reducible refine gate_callee (f := 85) rfl ?_); refine goesL_ (some 20) rfl rfl Try.func85 k_ rfl #[.agg #[.slice A0_0 l0_0.length c0_0, .slice A0_1 l0_1.length c0_1], .slice A1 l1.length c1] rfl (g2_) ?_; (with_reducible refine (spec_PaysOk.calls k _ _ l0_0 _ _ l0_1 _ _ l1 false _ ?side1 ?side2 ?side3 ?side4 ?side5 ?side6 A3.out).mono ?_); (case side1 => exact uf0_ HR0_0); (case side2 => exact HC0_0.out); (case side3 => exact uf0_ HR0_1); (case side4 => exact HC0_1.out); (case side5 => exact uf0_ HR1); (case side6 => exact HC1.out); rintro e w130 ⟨rfl, hb⟩; refine ⟨_, rfl, ?_⟩; replace HO230 := Aside0.mk (Kd.R_below (uf1_ HO230) hb); replace BK227 := bb_ BK227 hb; replace HB := Aside0.mk (below_step (spec_GetsOf.calls_q0) hb); (try clear hb); (try clear hk hi)))
  go_ret2
  exact ⟨_, g4_, uf1_ HO230, spec_GetsOf.calls_q0⟩
mutual
def spec_LeadsTo.l0 : Nat → List (S36) → Bool → List (S36) → List (S36) → Int → Option ((List (S36)) × Bool)
 | 0, _, _, _, _, _ => none
 | k + 1, x6, x7, x8, x9, x10 => if x10 < (x6.length : Int) then (spec_LeadsTo.j1 k x6 x7 x8 x9 x10 x7) else (spec_LeadsTo.j1 k x6 x7 x8 x9 x10 false)
def spec_LeadsTo.j1 : Nat → List (S36) → Bool → List (S36) → List (S36) → Int → Bool → Option ((List (S36)) × Bool)
 | 0, _, _, _, _, _, _ => none
 | k + 1, x6, x7, x8, x9, x10, x26 => if x26 = true then (if 0 ≤ x10 then (if x10 < (x6.length : Int) then (if x10 < (x8.length : Int) then ((spec_BeforeOf.f k ((rd_T36 x6 x10).f0) ((rd_T36 x6 x10).f1) ((rd_T36 x8 x10).f0) ((rd_T36 x8 x10).f1)).bind fun t276 => (if t276 < 0 then (if x9.length < 8796093022208 then (spec_LeadsTo.l0 k x6 x7 x8 (x9 ++ [(⟨(rd_T36 x6 x10).f0, (rd_T36 x6 x10).f1⟩ : S36)]) (wrap64 (x10 + 1))) else (none)) else (if x9.length < 8796093022208 then (spec_LeadsTo.l0 k x6 x7 x8 (x9 ++ [(⟨(rd_T36 x8 x10).f0, (rd_T36 x8 x10).f1⟩ : S36)]) (wrap64 (x10 + 1))) else (none)))) else (none)) else (none)) else (none)) else (some (x9, x7))
end
def spec_LeadsTo.f (k : Nat) (l0_0 : List Int) (l0_1 : List (List Int)) (l1 : List (S36)) : Option ((List (S36)) × Bool) := (spec_GetsOf.f k l0_0 l0_1 l1).bind fun bt264 => ((spec_AllPaid.f k l0_0 l0_1).bind fun t268 => (spec_LeadsTo.l0 k bt264.1 bt264.2 t268 (([] : List (S36))) 0))
theorem spec_LeadsTo.mq {p : Prop} (h : p := by
 repeat' first
 | (with_reducible exact ih0 _ _ _ _ _)
 | (with_reducible exact ih1 _ _ _ _ _ _)
 | (with_reducible exact spec_AllPaid.mono _ _ _)
 | (with_reducible exact spec_BeforeOf.mono _ _ _ _ _)
 | (with_reducible exact spec_GetsOf.mono _ _ _ _)
 | (with_reducible exact LeO.refl _)
 | (with_reducible exact LeO.none _)
 | (with_reducible refine LeO.ite ?_ ?_)
 | (with_reducible refine LeO.bind ?_ (fun _ => ?_))
 | exact ih0 _ _ _ _ _
 | exact ih1 _ _ _ _ _ _
 | exact spec_AllPaid.mono _ _ _
 | exact spec_BeforeOf.mono _ _ _ _ _
 | exact spec_GetsOf.mono _ _ _ _
 | exact LeO.none _
 | refine LeO.ite ?_ ?_
 | refine LeO.bind ?_ (fun _ => ?_)) : p := h
theorem spec_LeadsTo.mono_l : ∀ k, (∀ y0 y1 y2 y3 y4, LeO (spec_LeadsTo.l0 k y0 y1 y2 y3 y4) (spec_LeadsTo.l0 (k + 1) y0 y1 y2 y3 y4)) ∧ (∀ y0 y1 y2 y3 y4 y5, LeO (spec_LeadsTo.j1 k y0 y1 y2 y3 y4 y5) (spec_LeadsTo.j1 (k + 1) y0 y1 y2 y3 y4 y5))
 | 0 => ⟨fun _ _ _ _ _ r h => by simp [spec_LeadsTo.l0] at h, fun _ _ _ _ _ _ r h => by simp [spec_LeadsTo.j1] at h⟩
 | k + 1 => by
  obtain ⟨ih0, ih1⟩ := spec_LeadsTo.mono_l k
  refine ⟨?_, ?_⟩
  ·intro y0 y1 y2 y3 y4
   unfold spec_LeadsTo.l0
   exact spec_LeadsTo.mq
  ·intro y0 y1 y2 y3 y4 y5
   unfold spec_LeadsTo.j1
   exact spec_LeadsTo.mq
theorem spec_LeadsTo.mono : ∀ a0 a1 a2 k, LeO (spec_LeadsTo.f k a0 a1 a2) (spec_LeadsTo.f (k + 1) a0 a1 a2) := by
 intro a0 a1 a2 k
 obtain ⟨ih0, ih1⟩ := spec_LeadsTo.mono_l k
 unfold spec_LeadsTo.f
 exact spec_LeadsTo.mq
def spec_LeadsTo.T7 : Bool × List (List Nat × List Nat) := (true, [([], []), ([], []), ([0, 1], [0, 1]), ([2], [2]), ([], []), ([], []), ([4, 5], [4, 5]), ([6], [6]), ([3, 7], [3, 7]), ([8], [8])])
def spec_LeadsTo.B7 : List Nat := [0, 0, 3, 7, 0, 0, 48, 112, 255, 511]
theorem spec_LeadsTo.tab7 : rtab .any (opsOf Try.f39 7) = spec_LeadsTo.T7 := by kernel_rfl
theorem spec_LeadsTo.bits7 : waitsOk spec_LeadsTo.T7.2 spec_LeadsTo.B7 = true := by kernel_rfl
theorem spec_LeadsTo.calls_q0 {p : Prop} (h : p := by repeat (first | (with_reducible first | exact HB.out | apply below_alloc | apply pw_below_drewN | apply below_drew1 | refine below_set ?_ GE263.out) | exact HB.out)) : p := h
set_option maxHeartbeats 8000000 in
set_option maxRecDepth 100000 in
theorem spec_LeadsTo.calls (k : Nat) (A0_0 : Option Addr) (c0_0 : Nat) (l0_0 : List Int) (A0_1 : Option Addr) (c0_1 : Nat) (l0_1 : List (List Int)) (A1 : Option Addr) (c1 : Nat) (l1 : List (S36)) (r1 : List (S36)) (r2 : Bool) (w : World) (hr0_0 : Kd.C (Kd.int .i64) w A0_0 l0_0.length l0_0) (hc0_0 : l0_0.length ≤ c0_0) (hr0_1 : Kd.C (Kd.slice 3 (Kd.int .i64)) w A0_1 l0_1.length l0_1) (hc0_1 : l0_1.length ≤ c0_1) (hr1 : Kd.C k36 w A1 l1.length l1) (hc1 : l1.length ≤ c1) (h : spec_LeadsTo.f k l0_0 l0_1 l1 = some (r1, r2)) :
  Calls Try.prog 39 #[.agg #[.slice A0_0 l0_0.length c0_0, .slice A0_1 l0_1.length c0_1], .slice A1 l1.length c1] w fun e w' => ∃ v0_ : Value, e = .returned (.tuple #[v0_, .bool r2]) ∧ Kd.R k36 36 w' w.heap.size (fun _ => True) v0_ r1 ∧ Below w.heap.size w w' := by
 have hu26 := Try.underlying26
 have hu36 := Try.underlying36
 have HR0_0 := Aside0.mk hr0_0
 have HC0_0 := Aside0.mk hc0_0
 clear hr0_0 hc0_0
 have HR0_1 := Aside0.mk hr0_1
 have HC0_1 := Aside0.mk hc0_1
 clear hr0_1 hc0_1
 have HR1 := Aside0.mk hr1
 have HC1 := Aside0.mk hc1
 clear hr1 hc1
 have HB := Aside0.mk (Below.refl w.heap.size w)
 have H : ((spec_GetsOf.f k l0_0 l0_1 l1).bind fun bt264 => ((spec_AllPaid.f k l0_0 l0_1).bind fun t268 => (spec_LeadsTo.l0 k bt264.1 bt264.2 t268 (([] : List (S36))) 0))) = some (r1, r2) := h
 clear h
 replace H := Option.bind_eq_some_iff.mp H
 obtain ⟨⟨t264, t267⟩, A30, H⟩ := H
 replace H : ((spec_AllPaid.f k l0_0 l0_1).bind fun t268 => (spec_LeadsTo.l0 k t264 t267 t268 (([] : List (S36))) 0)) = some (r1, r2) := H
 have A3 := Aside0.mk A30
 clear A30
 obtain ⟨t268, A4, H⟩ := bind_ H
 obtain ⟨y271, hy271⟩ : ∃ y_ : List (S36), y_ = (([] : List (S36))) := ⟨_, rfl⟩
 replace H : (spec_LeadsTo.l0 k t264 t267 t268 y271 0) = some (r1, r2) := by first | (rw [hy271]; with_reducible exact H) | (have H2_ := (Option.bind_some _ _).symm.trans H; rw [hy271]; with_reducible exact H2_) | (have H2_ := (Option.bind_some _ _).symm.trans H; with_reducible exact H2_) | with_reducible exact H | (rw [hy271]; exact H) | exact H
 have Ny271 := Aside0.mk hy271
 clear hy271
 have H' := Aside0.mk H
 clear H
 go_enter Try.func39, Try.ntmps39
 go_wp2_with (first | ((with_reducible refine gate_dst (N := 2) rfl ?_); refine bx_ (N := 2) #[.slice A0_0 l0_0.length c0_0, .slice A0_1 l0_1.length c0_1] 26 ?_; intro gb263 hg w5 hbox hb; have BK263 := Aside0.mk (hbox); have GW263 := Aside0.mk ((by rw [hg]; exact (below_size (spec_LeadsTo.calls_q0)) : w.heap.size ≤ gb263)); have GE263 := Aside0.mk ((by rw [hg]; exact (below_size (spec_LeadsTo.calls_q0)) : w.heap.size ≤ gb263)); replace HB := Aside0.mk (below_step (spec_LeadsTo.calls_q0) hb); clear hb hbox hg; obtain ⟨hcz6_0, hcz6_1, hfz6_0, hfz6_1⟩ := blk2_ BK263) | ((with_reducible refine gate_callee (f := 57) rfl ?_); refine goesL_ (some 14) rfl rfl Try.func57 k_ rfl #[.agg #[.slice A0_0 l0_0.length c0_0, .slice A0_1 l0_1.length c0_1], .slice A1 l1.length c1] rfl (g2_) ?_; (with_reducible refine (spec_GetsOf.calls k _ _ l0_0 _ _ l0_1 _ _ l1 t264 t267 _ ?side1 ?side2 ?side3 ?side4 ?side5 ?side6 A3.out).mono ?_); (case side1 => exact uf0_ HR0_0); (case side2 => exact HC0_0.out); (case side3 => exact uf0_ HR0_1); (case side4 => exact HC0_1.out); (case side5 => exact uf0_ HR1); (case side6 => exact HC1.out); rintro e w7 ⟨v265, rfl, ho0, hb⟩; refine ⟨_, rfl, ?_⟩; have HO266 := Aside0.mk (Kd.R_lower ho0 (below_size (spec_LeadsTo.calls_q0))); replace BK263 := bb_ BK263 hb; replace HB := Aside0.mk (below_step (spec_LeadsTo.calls_q0) hb); (try clear hb); (try clear hk hi); (try clear ho0); obtain ⟨hcz8_0, hcz8_1, hfz8_0, hfz8_1⟩ := blk2_ BK263) | ((with_reducible refine gate_callee (f := 17) rfl ?_); refine goesL_ (some 18) rfl rfl Try.func17 k_ rfl #[.agg #[.slice A0_0 l0_0.length c0_0, .slice A0_1 l0_1.length c0_1]] rfl (g2_) ?_; (with_reducible refine (spec_AllPaid.calls k _ _ l0_0 _ _ l0_1 t268 _ ?side1 ?side2 ?side3 ?side4 A4.out).mono ?_); (case side1 => exact uf0_ HR0_0); (case side2 => exact HC0_0.out); (case side3 => exact uf0_ HR0_1); (case side4 => exact HC0_1.out); rintro e w9 ⟨v269, rfl, ho0, hb⟩; refine ⟨_, rfl, ?_⟩; have HO270 := Aside0.mk (Kd.R_lower (Kd.R_new' ho0 (Kd.R_lt (uf1_ HO266))) (below_size (spec_LeadsTo.calls_q0))); replace HO266 := Aside0.mk (Kd.R_elder' (uf1_ HO266) (Kd.R_base ho0) hb); replace BK263 := bb_ BK263 hb; replace HB := Aside0.mk (below_step (spec_LeadsTo.calls_q0) hb); (try clear hb); (try clear hk hi); (try clear ho0)) | ((with_reducible refine gate_dst (N := 19) rfl ?_); refine Kd.R_lit k36 _ 36 ?hg (N := 19) ?hd (xs := ([] : List (S36))) (inner := []) (ok := fun _ => True) (okp := fun _ => True) ?hr ?hp (fun _ hk => hk) trivial (Below.refl _ _) (Nat.le_refl _) (by simp) ?_; (case hd => rfl); (case hg => rfl); (case hr => first | (go_simp; done) | (go_simp; rfl)); (case hp => exact (Reps.none _ _)); intro v272 w10 ho11 hb hg_ hnew_; clear hg_ hnew_; (first | rw [← Ny271.out] at ho11 | (simp only [Int.reduceToNat] at ho11; rw [← Ny271.out] at ho11)); have HO273 := Aside0.mk (Kd.R_lower (Kd.R_new' (Kd.R_new' ho11 (Kd.R_lt (uf1_ HO266))) (Kd.R_lt (uf1_ HO270))) (below_size (spec_LeadsTo.calls_q0))); replace HO266 := Aside0.mk (Kd.R_elder' (uf1_ HO266) (Kd.R_base ho11) hb); replace HO270 := Aside0.mk (Kd.R_elder' (uf1_ HO270) (Kd.R_base ho11) hb); replace BK263 := bb_ BK263 hb; replace HB := Aside0.mk (below_step (spec_LeadsTo.calls_q0) hb); clear hb ho11))
 go_loopg [9, 10] k (fun kq v9 v10 w' => ∃ (x9_1 : List (S36)) (x10_1 : Int), v10 = .int .i64 x10_1 ∧ Aside0 (spec_LeadsTo.l0 kq t264 t267 t268 x9_1 x10_1 = some (r1, r2)) ∧ Aside0 (kq ≤ k) ∧ Aside0 (Kd.R k36 36 w' w.heap.size (fun k_ => some k_ ≠ (v269 : Value).ownBlock ∧ some k_ ≠ (v9 : Value).ownBlock) v265 t264) ∧ Aside0 (Kd.R k36 36 w' w.heap.size (fun k_ => some k_ ≠ (v265 : Value).ownBlock ∧ some k_ ≠ (v9 : Value).ownBlock) v269 t268) ∧ Aside0 (Kd.R k36 36 w' w.heap.size (fun k_ => some k_ ≠ (v265 : Value).ownBlock ∧ some k_ ≠ (v269 : Value).ownBlock) v9 x9_1) ∧ Aside0 (w'.heap[gb263]? = some (.cells #[(.slice A0_0 l0_0.length c0_0), (.slice A0_1 l0_1.length c0_1)] 26 (0, 0))) ∧ Aside0 (Below w.heap.size w w'))
 case atStart => exact ⟨(y271), (0), (g3_), H', ⟨Nat.le_refl _⟩, ⟨by (with_reducible repeat (first | apply Kd.R_alloc | apply Kd.R_drewN | apply Kd.R_drew)); exact Kd.R_mono HO266.out (fun _ hk => ⟨hk.1.2, hk.2⟩)⟩, ⟨by (with_reducible repeat (first | apply Kd.R_alloc | apply Kd.R_drewN | apply Kd.R_drew)); exact Kd.R_mono HO270.out (fun _ hk => ⟨hk.1.2, hk.2⟩)⟩, ⟨by (with_reducible repeat (first | apply Kd.R_alloc | apply Kd.R_drewN | apply Kd.R_drew)); exact Kd.R_mono HO273.out (fun _ hk => ⟨hk.1.2, hk.2⟩)⟩, ⟨uf3_ BK263⟩, ⟨spec_LeadsTo.calls_q0⟩⟩
 case round =>
  clear H'
  try clear c1
  try clear p2
  try clear c3
  try clear c5
  try clear hcz6_0
  try clear hcz6_1
  try clear hcz8_0
  try clear hcz8_1
  try clear hfz6_0
  try clear hfz6_1
  try clear hfz8_0
  try clear hfz8_1
  obtain ⟨x9_1, x10_1, rfl, HA, HK1, HO_6, HO_8, HO_9, BK263, HB⟩ := hrel
  cases gk with
  | zero => exact absurd HA.out (by simp [spec_LeadsTo.l0])
  | succ k1 =>
   have H := HA.out
   clear HA
   simp only [spec_LeadsTo.l0] at H
   have HC12 := Aside0.mk H
   clear H
   go_upto_region 5 with (fail)
   go_cut [26] (fun v26 wc => ∃ (kq : Nat) (x26_11 : Bool), v26 = .bool x26_11 ∧ Aside0 (spec_LeadsTo.j1 kq t264 t267 t268 x9_1 x10_1 x26_11 = some (r1, r2)) ∧ Aside0 (kq ≤ k1) ∧ Aside0 (Kd.R k36 36 wc w.heap.size (fun k_ => some k_ ≠ (v269 : Value).ownBlock ∧ some k_ ≠ (u9 : Value).ownBlock) v265 t264) ∧ Aside0 (Kd.R k36 36 wc w.heap.size (fun k_ => some k_ ≠ (v265 : Value).ownBlock ∧ some k_ ≠ (u9 : Value).ownBlock) v269 t268) ∧ Aside0 (Kd.R k36 36 wc w.heap.size (fun k_ => some k_ ≠ (v265 : Value).ownBlock ∧ some k_ ≠ (v269 : Value).ownBlock) u9 x9_1) ∧ Aside0 (wc.heap[gb263]? = some (.cells #[(.slice A0_0 l0_0.length c0_0), (.slice A0_1 l0_1.length c0_1)] 26 (0, 0))) ∧ Aside0 (Below w.heap.size w wc))
   case first =>
    have H := HC12.out
    clear HC12
    by_cases c13 : x10_1 < (t264.length : Int)
    ·rw [if_pos c13] at H
     have c13b0 := decide_eq_true c13
     clear c13
     (first | rw [c13b0] | (simp only [i64_w, i32_w]; rw [c13b0]) | skip)
     have H' := Aside0.mk H
     clear H
     obtain ⟨Ao14, co14, eo14⟩ := Kd.R_slice HO_6.out
     subst eo14
     go_wp2
     go_meet
     case rel => exact ⟨_, (t267), (g3_), H', ⟨g39_⟩, ⟨uf1_ HO_6⟩, ⟨uf1_ HO_8⟩, ⟨uf1_ HO_9⟩, ⟨uf3_ BK263⟩, ⟨spec_LeadsTo.calls_q0⟩⟩
    ·rw [if_neg c13] at H
     have c13b0 := decide_eq_false c13
     clear c13
     (first | rw [c13b0] | (simp only [i64_w, i32_w]; rw [c13b0]) | skip)
     have H' := Aside0.mk H
     clear H
     obtain ⟨Ao15, co15, eo15⟩ := Kd.R_slice HO_6.out
     subst eo15
     go_wp2
     go_meet
     case rel => exact ⟨_, (false), (g3_), H', ⟨g39_⟩, ⟨uf1_ HO_6⟩, ⟨uf1_ HO_8⟩, ⟨uf1_ HO_9⟩, ⟨uf3_ BK263⟩, ⟨spec_LeadsTo.calls_q0⟩⟩
   case rest =>
    clear HC12
    try clear c1
    try clear p2
    try clear c3
    try clear c5
    try clear c13
    try clear c13b0
    try clear hcz6_0
    try clear hcz6_1
    try clear hcz8_0
    try clear hcz8_1
    try clear hfz6_0
    try clear hfz6_1
    try clear hfz8_0
    try clear hfz8_1
    try clear p2
    obtain ⟨kq, x26_11, rfl, HA, HJ11, HO_6, HO_8, HO_9, BK263, HB⟩ := hcut
    cases kq with
    | zero => exact absurd HA.out (by simp [spec_LeadsTo.j1])
    | succ kj11 =>
     have H := HA.out
     clear HA
     simp only [spec_LeadsTo.j1] at H
     by_cases c16 : x26_11 = true
     ·subst c16
      replace H := ifp_ H
      obtain ⟨c17, H⟩ := pos_ H
      have c17b0 := decide_eq_true c17
      clear c17
      obtain ⟨c18, H⟩ := pos_ H
      have c18b0 := decide_eq_true c18
      clear c18
      obtain ⟨c19, H⟩ := pos_ H
      have c19b0 := decide_eq_true c19
      clear c19
      obtain ⟨t276, A20, H⟩ := bind_ H
      by_cases c21 : t276 < 0
      ·rw [if_pos c21] at H
       have c21b0 := decide_eq_true c21
       clear c21
       obtain ⟨c22, H⟩ := pos_ H
       have LMc22 := Aside0.mk c22
       clear c22
       obtain ⟨y278, hy278⟩ : ∃ y_ : List (S36), y_ = (x9_1 ++ [(⟨(rd_T36 t264 x10_1).f0, (rd_T36 t264 x10_1).f1⟩ : S36)]) := ⟨_, rfl⟩
       replace H : (spec_LeadsTo.l0 kj11 t264 t267 t268 y278 (wrap64 (x10_1 + 1))) = some (r1, r2) := by first | (rw [hy278]; with_reducible exact H) | (have H2_ := (Option.bind_some _ _).symm.trans H; rw [hy278]; with_reducible exact H2_) | (have H2_ := (Option.bind_some _ _).symm.trans H; with_reducible exact H2_) | with_reducible exact H | (rw [hy278]; exact H) | exact H
       have Ny278 := Aside0.mk hy278
       clear hy278
       have H' := Aside0.mk H
       clear H
       try go_wp2
       replace HO_6 := Aside0.mk (Kd.R_drew HO_6.out)
       replace HO_8 := Aside0.mk (Kd.R_drew HO_8.out)
       replace HO_9 := Aside0.mk (Kd.R_drew HO_9.out)
       replace BK263 := Aside0.mk (blk_drew BK263.out)
       replace HB := Aside0.mk (below_drew1 HB.out)
       obtain ⟨Ao24, co24, eo24⟩ := Kd.R_slice HO_6.out
       (first | subst eo24 | (injection eo24 with f1_ f2_ f3_; have f4_ := f1_.symm; have f5_ := f3_.symm; clear f1_ f2_ f3_; subst f4_; subst f5_))
       have p274 : 0 ≤ (x10_1 : Int) := of_decide_eq_true (g1_)
       have q274 : x10_1 < (t264.length : Int) := of_decide_eq_true (g1_)
       obtain ⟨ad274, e274, hx274_0, hx274_1⟩ := at_T36 (Kd.R_reads' HO_6.out).2.2 x10_1 p274 q274
       cases e274
       replace p274 := eq_true p274
       replace q274 := eq_true q274
       obtain ⟨Ao25, co25, eo25⟩ := Kd.R_slice HO_8.out
       (first | subst eo25 | (injection eo25 with f1_ f2_ f3_; have f4_ := f1_.symm; have f5_ := f3_.symm; clear f1_ f2_ f3_; subst f4_; subst f5_))
       have p275 : 0 ≤ (x10_1 : Int) := of_decide_eq_true (g1_)
       have q275 : x10_1 < (t268.length : Int) := of_decide_eq_true (g1_)
       obtain ⟨ad275, e275, hx275_0, hx275_1⟩ := at_T36 (Kd.R_reads' HO_8.out).2.2 x10_1 p275 q275
       cases e275
       replace p275 := eq_true p275
       replace q275 := eq_true q275
       refine start_ (n := 10) (S := fun w' => w'.cell? (ad274.add ((x10_1).toNat * 2)) = some (.int .i64 ((rd_T36 t264 x10_1).f0)) ∧ w'.cell? ⟨(ad274.add ((x10_1).toNat * 2)).block, (ad274.add ((x10_1).toNat * 2)).off + 1, none⟩ = some (.int .i64 ((rd_T36 t264 x10_1).f1)) ∧ w'.cell? (ad275.add ((x10_1).toNat * 2)) = some (.int .i64 ((rd_T36 t268 x10_1).f0)) ∧ w'.cell? ⟨(ad275.add ((x10_1).toNat * 2)).block, (ad275.add ((x10_1).toNat * 2)).off + 1, none⟩ = some (.int .i64 ((rd_T36 t268 x10_1).f1))) (ds := []) (tl_ 10 0) (g0_) rfl (g0_) ⟨hx274_0, hx274_1, hx275_0, hx275_1⟩ (fun hHeld => ?_); refine with_tabW spec_LeadsTo.tab7 spec_LeadsTo.bits7 (fun HT_ HW_ => ?_)
       generalize wc.drew = w23 at HO_6 HO_8 HO_9 BK263 HB hx274_0 hx274_1 hx275_0 hx275_1 hHeld ⊢
       refine pw_ 0 29 (tl_ 10 1) rfl rfl ?_
       refine pw_ 1 30 (tl_ 10 3) rfl rfl ?_
       refine pw_ 2 31 (tl_ 10 7) rfl rfl ?_
       refine pw_ 4 33 (tl_ 10 23) rfl rfl ?_
       refine pw_ 5 34 (tl_ 10 55) rfl rfl ?_
       refine pw_ 6 35 (tl_ 10 119) rfl rfl ?_
       refine tk0_ 3 32 (tl_ 10 127) rfl rfl hHeld ?_
       refine tk0_ 7 36 (tl_ 10 255) rfl rfl hHeld ?_
       refine one_ (i := 8) (N := some 37) (tl_ 10 511) rfl rfl (one_of HT_.out (g0_)) (by decide) (fun K hK => ?_)
       refine goes_ Try.func75 (g0_) rfl #[.agg #[.int .i64 ((rd_T36 t264 x10_1).f0), .int .i64 ((rd_T36 t264 x10_1).f1)], .agg #[.int .i64 ((rd_T36 t268 x10_1).f0), .int .i64 ((rd_T36 t268 x10_1).f1)]] (by rfl) rfl rfl (g2_) ?_
       with_reducible refine (spec_BeforeOf.calls kj11 ((rd_T36 t264 x10_1).f0) ((rd_T36 t264 x10_1).f1) ((rd_T36 t268 x10_1).f0) ((rd_T36 t268 x10_1).f1) t276 _ A20.out).mono ?_
       rintro e w26 ⟨rfl, hb⟩
       have HS0_ := (hb.cell (World.block_lt_of_cell? _ _ (hHeld.1))).trans (hHeld.1)
       have HS1_ := (hb.cell (World.block_lt_of_cell? _ _ (hHeld.2.1))).trans (hHeld.2.1)
       have HS2_ := (hb.cell (World.block_lt_of_cell? _ _ (hHeld.2.2.1))).trans (hHeld.2.2.1)
       have HS3_ := (hb.cell (World.block_lt_of_cell? _ _ (hHeld.2.2.2))).trans (hHeld.2.2.2)
       refine ⟨_, rfl, ?_⟩
       replace HO_6 := Aside0.mk (Kd.R_below (uf1_ HO_6) hb)
       replace HO_8 := Aside0.mk (Kd.R_below (uf1_ HO_8) hb)
       replace HO_9 := Aside0.mk (Kd.R_below (uf1_ HO_9) hb)
       replace BK263 := bb_ BK263 hb
       replace HB := Aside0.mk (below_step (spec_LeadsTo.calls_q0) hb)
       (try clear hb)
       (try clear hk hi)
       refine hK.out _ _ ⟨HS0_, HS1_, HS2_, HS3_⟩ (fun hHeld => ?_)
       clear hK K
       refine nm_ ?_
       refine pw_ 9 38 (tl_ 10 1023) rfl rfl ?_
       refine done_ (done_of HT_.out (g0_)) ?_
       have p277 : 0 ≤ (x10_1 : Int) := of_decide_eq_true (g1_)
       have q277 : x10_1 < (t264.length : Int) := of_decide_eq_true (g1_)
       obtain ⟨ad277, e277, hx277_0, hx277_1⟩ := at_T36 (Kd.R_reads' HO_6.out).2.2 x10_1 p277 q277
       obtain rfl : ad274 = ad277 := (by injection e277)
       replace p277 := eq_true p277
       replace q277 := eq_true q277
       try go_wp2_with (first | ((with_reducible refine gate_builtin (b := .append) (xs := #[.tmp 39, .tmp 44]) rfl ?_); at_builtin; refine Kd.R_append k36 (w0 := w) w.heap.size rfl (.tmp 39) (.tmp 44) 27 36 (.agg #[(.int .i64 0), (.int .i64 0)]) 16 rfl Try.underlying27 info36 rfl (by decide) (by omega) u9 x9_1 (⟨(rd_T36 t264 x10_1).f0, (rd_T36 t264 x10_1).f1⟩ : S36) [.int .i64 ((rd_T36 t264 x10_1).f0), .int .i64 ((rd_T36 t264 x10_1).f1)] (fun k_ => some k_ ≠ (.slice (some ad274) t264.length co24 : Value).ownBlock ∧ some k_ ≠ (.slice (some ad275) t268.length co25 : Value).ownBlock) (fun _ => False) rfl rfl ?aP (fun _ hk => hk.elim) ?aF ?aO ?aB ?aS ?aL ?_; (case aP => exact k36_mkM _ _ _ (⟨(rd_T36 t264 x10_1).f0, (rd_T36 t264 x10_1).f1⟩ : S36)); (case aB => exact (spec_LeadsTo.calls_q0)); (case aF => exact (fun k_ hk => ⟨Kd.fresh' (Kd.R_lt (uf1_ HO_6)) k_ hk, Kd.fresh' (Kd.R_lt (uf1_ HO_8)) k_ hk⟩)); (case aO => exact (uf1_ HO_9)); (case aS => exact (below_size (spec_LeadsTo.calls_q0))); (case aL => have := LMc22.out; omega); intro v279 w27 ho hb hg hat; rw [← Ny278.out] at ho; replace HO_6 := Aside0.mk (Kd.R_after (ok := (fun k_ => some k_ ≠ (.slice (some ad275) t268.length co25 : Value).ownBlock)) (uf1_ HO_6) hg hat); replace HO_8 := Aside0.mk (Kd.R_after (ok := (fun k_ => some k_ ≠ (.slice (some ad274) t264.length co24 : Value).ownBlock)) (uf1_ HO_8) hg hat); replace BK263 := Aside0.mk (blk_grown (g := gb263) (o := .cells #[.slice A0_0 l0_0.length c0_0, .slice A0_1 l0_1.length c0_1] 26 (0, 0)) (uf3_ BK263) hg (Kd.R_ne HO_9.out BK263.out (by decide))); replace HB := Aside0.mk (hb); have HO280 := Aside0.mk (ho); clear HO_9; clear ho hb hg hat))
       go_roundg kj11
       case measure => have := HK1.out; have := HJ11.out; omega
       case rel => exact ⟨(y278), (wrap64 (x10_1 + 1)), (g3_), H', ⟨by have := HK1.out; have := HJ11.out; omega⟩, ⟨uf1_ HO_6⟩, ⟨uf1_ HO_8⟩, ⟨uf1_ HO280⟩, ⟨uf3_ BK263⟩, ⟨spec_LeadsTo.calls_q0⟩⟩
      ·rw [if_neg c21] at H
       have c21b0 := decide_eq_false c21
       clear c21
       obtain ⟨c28, H⟩ := pos_ H
       have LMc28 := Aside0.mk c28
       clear c28
       obtain ⟨y282, hy282⟩ : ∃ y_ : List (S36), y_ = (x9_1 ++ [(⟨(rd_T36 t268 x10_1).f0, (rd_T36 t268 x10_1).f1⟩ : S36)]) := ⟨_, rfl⟩
       replace H : (spec_LeadsTo.l0 kj11 t264 t267 t268 y282 (wrap64 (x10_1 + 1))) = some (r1, r2) := by first | (rw [hy282]; with_reducible exact H) | (have H2_ := (Option.bind_some _ _).symm.trans H; rw [hy282]; with_reducible exact H2_) | (have H2_ := (Option.bind_some _ _).symm.trans H; with_reducible exact H2_) | with_reducible exact H | (rw [hy282]; exact H) | exact H
       have Ny282 := Aside0.mk hy282
       clear hy282
       have H' := Aside0.mk H
       clear H
       try go_wp2
       replace HO_6 := Aside0.mk (Kd.R_drew HO_6.out)
       replace HO_8 := Aside0.mk (Kd.R_drew HO_8.out)
       replace HO_9 := Aside0.mk (Kd.R_drew HO_9.out)
       replace BK263 := Aside0.mk (blk_drew BK263.out)
       replace HB := Aside0.mk (below_drew1 HB.out)
       obtain ⟨Ao30, co30, eo30⟩ := Kd.R_slice HO_6.out
       (first | subst eo30 | (injection eo30 with f1_ f2_ f3_; have f4_ := f1_.symm; have f5_ := f3_.symm; clear f1_ f2_ f3_; subst f4_; subst f5_))
       have p274 : 0 ≤ (x10_1 : Int) := of_decide_eq_true (g1_)
       have q274 : x10_1 < (t264.length : Int) := of_decide_eq_true (g1_)
       obtain ⟨ad274, e274, hx274_0, hx274_1⟩ := at_T36 (Kd.R_reads' HO_6.out).2.2 x10_1 p274 q274
       cases e274
       replace p274 := eq_true p274
       replace q274 := eq_true q274
       obtain ⟨Ao31, co31, eo31⟩ := Kd.R_slice HO_8.out
       (first | subst eo31 | (injection eo31 with f1_ f2_ f3_; have f4_ := f1_.symm; have f5_ := f3_.symm; clear f1_ f2_ f3_; subst f4_; subst f5_))
       have p275 : 0 ≤ (x10_1 : Int) := of_decide_eq_true (g1_)
       have q275 : x10_1 < (t268.length : Int) := of_decide_eq_true (g1_)
       obtain ⟨ad275, e275, hx275_0, hx275_1⟩ := at_T36 (Kd.R_reads' HO_8.out).2.2 x10_1 p275 q275
       cases e275
       replace p275 := eq_true p275
       replace q275 := eq_true q275
       refine start_ (n := 10) (S := fun w' => w'.cell? (ad274.add ((x10_1).toNat * 2)) = some (.int .i64 ((rd_T36 t264 x10_1).f0)) ∧ w'.cell? ⟨(ad274.add ((x10_1).toNat * 2)).block, (ad274.add ((x10_1).toNat * 2)).off + 1, none⟩ = some (.int .i64 ((rd_T36 t264 x10_1).f1)) ∧ w'.cell? (ad275.add ((x10_1).toNat * 2)) = some (.int .i64 ((rd_T36 t268 x10_1).f0)) ∧ w'.cell? ⟨(ad275.add ((x10_1).toNat * 2)).block, (ad275.add ((x10_1).toNat * 2)).off + 1, none⟩ = some (.int .i64 ((rd_T36 t268 x10_1).f1))) (ds := []) (tl_ 10 0) (g0_) rfl (g0_) ⟨hx274_0, hx274_1, hx275_0, hx275_1⟩ (fun hHeld => ?_); refine with_tabW spec_LeadsTo.tab7 spec_LeadsTo.bits7 (fun HT_ HW_ => ?_)
       generalize wc.drew = w29 at HO_6 HO_8 HO_9 BK263 HB hx274_0 hx274_1 hx275_0 hx275_1 hHeld ⊢
       refine pw_ 0 29 (tl_ 10 1) rfl rfl ?_
       refine pw_ 1 30 (tl_ 10 3) rfl rfl ?_
       refine pw_ 2 31 (tl_ 10 7) rfl rfl ?_
       refine pw_ 4 33 (tl_ 10 23) rfl rfl ?_
       refine pw_ 5 34 (tl_ 10 55) rfl rfl ?_
       refine pw_ 6 35 (tl_ 10 119) rfl rfl ?_
       refine tk0_ 3 32 (tl_ 10 127) rfl rfl hHeld ?_
       refine tk0_ 7 36 (tl_ 10 255) rfl rfl hHeld ?_
       refine one_ (i := 8) (N := some 37) (tl_ 10 511) rfl rfl (one_of HT_.out (g0_)) (by decide) (fun K hK => ?_)
       refine goes_ Try.func75 (g0_) rfl #[.agg #[.int .i64 ((rd_T36 t264 x10_1).f0), .int .i64 ((rd_T36 t264 x10_1).f1)], .agg #[.int .i64 ((rd_T36 t268 x10_1).f0), .int .i64 ((rd_T36 t268 x10_1).f1)]] (by rfl) rfl rfl (g2_) ?_
       with_reducible refine (spec_BeforeOf.calls kj11 ((rd_T36 t264 x10_1).f0) ((rd_T36 t264 x10_1).f1) ((rd_T36 t268 x10_1).f0) ((rd_T36 t268 x10_1).f1) t276 _ A20.out).mono ?_
       rintro e w32 ⟨rfl, hb⟩
       have HS0_ := (hb.cell (World.block_lt_of_cell? _ _ (hHeld.1))).trans (hHeld.1)
       have HS1_ := (hb.cell (World.block_lt_of_cell? _ _ (hHeld.2.1))).trans (hHeld.2.1)
       have HS2_ := (hb.cell (World.block_lt_of_cell? _ _ (hHeld.2.2.1))).trans (hHeld.2.2.1)
       have HS3_ := (hb.cell (World.block_lt_of_cell? _ _ (hHeld.2.2.2))).trans (hHeld.2.2.2)
       refine ⟨_, rfl, ?_⟩
       replace HO_6 := Aside0.mk (Kd.R_below (uf1_ HO_6) hb)
       replace HO_8 := Aside0.mk (Kd.R_below (uf1_ HO_8) hb)
       replace HO_9 := Aside0.mk (Kd.R_below (uf1_ HO_9) hb)
       replace BK263 := bb_ BK263 hb
       replace HB := Aside0.mk (below_step (spec_LeadsTo.calls_q0) hb)
       (try clear hb)
       (try clear hk hi)
       refine hK.out _ _ ⟨HS0_, HS1_, HS2_, HS3_⟩ (fun hHeld => ?_)
       clear hK K
       refine nm_ ?_
       refine pw_ 9 38 (tl_ 10 1023) rfl rfl ?_
       refine done_ (done_of HT_.out (g0_)) ?_
       have p281 : 0 ≤ (x10_1 : Int) := of_decide_eq_true (g1_)
       have q281 : x10_1 < (t268.length : Int) := of_decide_eq_true (g1_)
       obtain ⟨ad281, e281, hx281_0, hx281_1⟩ := at_T36 (Kd.R_reads' HO_8.out).2.2 x10_1 p281 q281
       obtain rfl : ad275 = ad281 := (by injection e281)
       replace p281 := eq_true p281
       replace q281 := eq_true q281
       try go_wp2_with (first | ((with_reducible refine gate_builtin (b := .append) (xs := #[.tmp 46, .tmp 51]) rfl ?_); at_builtin; refine Kd.R_append k36 (w0 := w) w.heap.size rfl (.tmp 46) (.tmp 51) 27 36 (.agg #[(.int .i64 0), (.int .i64 0)]) 16 rfl Try.underlying27 info36 rfl (by decide) (by omega) u9 x9_1 (⟨(rd_T36 t268 x10_1).f0, (rd_T36 t268 x10_1).f1⟩ : S36) [.int .i64 ((rd_T36 t268 x10_1).f0), .int .i64 ((rd_T36 t268 x10_1).f1)] (fun k_ => some k_ ≠ (.slice (some ad274) t264.length co30 : Value).ownBlock ∧ some k_ ≠ (.slice (some ad275) t268.length co31 : Value).ownBlock) (fun _ => False) rfl rfl ?aP (fun _ hk => hk.elim) ?aF ?aO ?aB ?aS ?aL ?_; (case aP => exact k36_mkM _ _ _ (⟨(rd_T36 t268 x10_1).f0, (rd_T36 t268 x10_1).f1⟩ : S36)); (case aB => exact (spec_LeadsTo.calls_q0)); (case aF => exact (fun k_ hk => ⟨Kd.fresh' (Kd.R_lt (uf1_ HO_6)) k_ hk, Kd.fresh' (Kd.R_lt (uf1_ HO_8)) k_ hk⟩)); (case aO => exact (uf1_ HO_9)); (case aS => exact (below_size (spec_LeadsTo.calls_q0))); (case aL => have := LMc28.out; omega); intro v283 w33 ho hb hg hat; rw [← Ny282.out] at ho; replace HO_6 := Aside0.mk (Kd.R_after (ok := (fun k_ => some k_ ≠ (.slice (some ad275) t268.length co31 : Value).ownBlock)) (uf1_ HO_6) hg hat); replace HO_8 := Aside0.mk (Kd.R_after (ok := (fun k_ => some k_ ≠ (.slice (some ad274) t264.length co30 : Value).ownBlock)) (uf1_ HO_8) hg hat); replace BK263 := Aside0.mk (blk_grown (g := gb263) (o := .cells #[.slice A0_0 l0_0.length c0_0, .slice A0_1 l0_1.length c0_1] 26 (0, 0)) (uf3_ BK263) hg (Kd.R_ne HO_9.out BK263.out (by decide))); replace HB := Aside0.mk (hb); have HO284 := Aside0.mk (ho); clear HO_9; clear ho hb hg hat))
       go_roundg kj11
       case measure => have := HK1.out; have := HJ11.out; omega
       case rel => exact ⟨(y282), (wrap64 (x10_1 + 1)), (g3_), H', ⟨by have := HK1.out; have := HJ11.out; omega⟩, ⟨uf1_ HO_6⟩, ⟨uf1_ HO_8⟩, ⟨uf1_ HO284⟩, ⟨uf3_ BK263⟩, ⟨spec_LeadsTo.calls_q0⟩⟩
     ·replace c16 := Bool.eq_false_iff.mpr c16
      subst c16
      replace H := ifn_ H
      simp only [Option.some.injEq, Prod.mk.injEq] at H
      obtain ⟨rfl, rfl⟩ := H
      go_wp2
      go_ret2
      exact ⟨_, g4_, g56_, spec_LeadsTo.calls_q0⟩
mutual
def spec_l6Steps.j0 : Nat → List (S36) → Int → Bool → List Int → List (List Int) → Option ((List (S36)) × Bool)
 | 0, _, _, _, _, _ => none
 | k + 1, x1, x2, x19, x286000, x286001 => if x19 = true then (some ((([] : List (S36))), false)) else (spec_l6Steps.l0 k x2 x1 0 x286000 x286001)
def spec_l6Steps.l0 : Nat → Int → List (S36) → Int → List Int → List (List Int) → Option ((List (S36)) × Bool)
 | 0, _, _, _, _, _ => none
 | k + 1, x2, x8, x9, x286000, x286001 => if x9 < x2 then ((spec_LeadsTo.f k x286000 x286001 x8).bind fun bt291 => (if bt291.2 = true then (spec_l6Steps.l0 k x2 bt291.1 (wrap64 (x9 + 1)) x286000 x286001) else (some ((([] : List (S36))), false)))) else (some (x8, true))
end
def spec_l6Steps.f (k : Nat) (l0_0 : List Int) (l0_1 : List (List Int)) (l1 : List (S36)) (a2 : Int) : Option ((List (S36)) × Bool) := (spec_BookOk.f k l0_0 l0_1).bind fun t286 => (if t286 = true then ((spec_l1In.f a2 0 4).bind fun t287 => (spec_l6Steps.j0 k l1 a2 (!t287) l0_0 l0_1)) else (spec_l6Steps.j0 k l1 a2 true l0_0 l0_1))
theorem spec_l6Steps.mq {p : Prop} (h : p := by
 repeat' first
 | (with_reducible exact ih0 _ _ _ _ _)
 | (with_reducible exact ih1 _ _ _ _ _)
 | (with_reducible exact spec_BookOk.mono _ _ _)
 | (with_reducible exact spec_LeadsTo.mono _ _ _ _)
 | (with_reducible exact LeO.refl _)
 | (with_reducible exact LeO.none _)
 | (with_reducible refine LeO.ite ?_ ?_)
 | (with_reducible refine LeO.bind ?_ (fun _ => ?_))
 | exact ih0 _ _ _ _ _
 | exact ih1 _ _ _ _ _
 | exact spec_BookOk.mono _ _ _
 | exact spec_LeadsTo.mono _ _ _ _
 | exact LeO.none _
 | refine LeO.ite ?_ ?_
 | refine LeO.bind ?_ (fun _ => ?_)) : p := h
theorem spec_l6Steps.mono_l : ∀ k, (∀ y0 y1 y2 y3 y4, LeO (spec_l6Steps.j0 k y0 y1 y2 y3 y4) (spec_l6Steps.j0 (k + 1) y0 y1 y2 y3 y4)) ∧ (∀ y0 y1 y2 y3 y4, LeO (spec_l6Steps.l0 k y0 y1 y2 y3 y4) (spec_l6Steps.l0 (k + 1) y0 y1 y2 y3 y4))
 | 0 => ⟨fun _ _ _ _ _ r h => by simp [spec_l6Steps.j0] at h, fun _ _ _ _ _ r h => by simp [spec_l6Steps.l0] at h⟩
 | k + 1 => by
  obtain ⟨ih0, ih1⟩ := spec_l6Steps.mono_l k
  refine ⟨?_, ?_⟩
  ·intro y0 y1 y2 y3 y4
   unfold spec_l6Steps.j0
   exact spec_l6Steps.mq
  ·intro y0 y1 y2 y3 y4
   unfold spec_l6Steps.l0
   exact spec_l6Steps.mq
theorem spec_l6Steps.mono : ∀ a0 a1 a2 a3 k, LeO (spec_l6Steps.f k a0 a1 a2 a3) (spec_l6Steps.f (k + 1) a0 a1 a2 a3) := by
 intro a0 a1 a2 a3 k
 obtain ⟨ih0, ih1⟩ := spec_l6Steps.mono_l k
 unfold spec_l6Steps.f
 exact spec_l6Steps.mq
theorem spec_l6Steps.calls_q0 {p : Prop} (h : p := by repeat (first | (with_reducible first | exact HK.out | apply Kept.alloc | apply Kept.drewN | apply Kept.drew | refine Kept.setCell ?_ (.inr GW285.out) _) | exact HK.out)) : p := h
theorem spec_l6Steps.calls_q1 {p : Prop} (h : p := by repeat (first | (with_reducible first | exact HB.out | apply below_alloc | apply pw_below_drewN | apply below_drew1 | refine below_set ?_ GE285.out) | exact HB.out)) : p := h
set_option maxHeartbeats 8000000 in
set_option maxRecDepth 100000 in
theorem spec_l6Steps.calls (k : Nat) (A0_0 : Option Addr) (c0_0 : Nat) (l0_0 : List Int) (A0_1 : Option Addr) (c0_1 : Nat) (l0_1 : List (List Int)) (P1_ : Nat → Prop) (u9000_ : Value) (l1 : List (S36)) (a2 : Int) (r1 : List (S36)) (r2 : Bool) (w0 w : World) (hB : Below w0.heap.size w0 w) (hr0_0 : ∀ W_, Kept w W_ (fun k_ => P1_ k_) → Kd.C (Kd.int .i64) W_ A0_0 l0_0.length l0_0) (hc0_0 : l0_0.length ≤ c0_0) (hr0_1 : ∀ W_, Kept w W_ (fun k_ => P1_ k_) → Kd.C (Kd.slice 3 (Kd.int .i64)) W_ A0_1 l0_1.length l0_1) (hc0_1 : l0_1.length ≤ c0_1) (ho1 : Kd.R k36 36 w w0.heap.size P1_ u9000_ l1) (h : spec_l6Steps.f k l0_0 l0_1 l1 a2 = some (r1, r2)) :
  Calls Try.prog 77 #[.agg #[.slice A0_0 l0_0.length c0_0, .slice A0_1 l0_1.length c0_1], u9000_, .int .i64 a2] w fun e w' => ∃ v0_ : Value, e = .returned (.tuple #[v0_, .bool r2]) ∧ Kd.R k36 36 w' w0.heap.size (fun k_ => (P1_ k_ ∨ w.heap.size ≤ k_)) v0_ r1 ∧ Below w0.heap.size w0 w' ∧ Kept w w' (fun k_ => P1_ k_) := by
 have hu26 := Try.underlying26
 have HR0_0 := Aside0.mk hr0_0
 have HC0_0 := Aside0.mk hc0_0
 clear hr0_0 hc0_0
 have HR0_1 := Aside0.mk hr0_1
 have HC0_1 := Aside0.mk hc0_1
 clear hr0_1 hc0_1
 have HO1 := Aside0.mk (show Kd.R k36 36 w w0.heap.size (fun k_ => (P1_ k_ ∨ w.heap.size ≤ k_)) u9000_ l1 from Kd.R_mono ho1 (fun k_ hk => (.inl hk)))
 have HK := Aside0.mk (Kept.refl w (fun k_ => P1_ k_))
 have HW0 := Aside0.mk hB.size
 have HB := Aside0.mk hB
 clear hB
 have H : ((spec_BookOk.f k l0_0 l0_1).bind fun t286 => (if t286 = true then ((spec_l1In.f a2 0 4).bind fun t287 => (spec_l6Steps.j0 k l1 a2 (!t287) l0_0 l0_1)) else (spec_l6Steps.j0 k l1 a2 true l0_0 l0_1))) = some (r1, r2) := h
 clear h
 have HC4 := Aside0.mk H
 clear H
 go_enter Try.func77, Try.ntmps77
 go_upto_region 1 with (first | ((with_reducible refine gate_dst (N := 3) rfl ?_); refine bx_ (N := 3) #[.slice A0_0 l0_0.length c0_0, .slice A0_1 l0_1.length c0_1] 26 ?_; intro gb285 hg w5 hbox hb; replace HO1 := Aside0.mk (Kd.R_below (uf1_ HO1) hb); have BK285 := Aside0.mk (hbox); have GW285 := Aside0.mk ((by rw [hg]; exact (g57_) : w.heap.size ≤ gb285)); replace HK := Aside0.mk (Kept.below (S := (fun k_ => P1_ k_)) (spec_l6Steps.calls_q0) hb); have GE285 := Aside0.mk ((by rw [hg]; exact (below_size (spec_l6Steps.calls_q1)) : w0.heap.size ≤ gb285)); replace HB := Aside0.mk (below_step (spec_l6Steps.calls_q1) hb); clear hb hbox hg))
 (try simp only [Act.put, List.setIfInBounds_toArray, List.set_cons_zero, List.set_cons_succ])
 go_cut [19] (fun v19 wc => ∃ (kq : Nat) (x19_3 : Bool), v19 = .bool x19_3 ∧ Aside0 (spec_l6Steps.j0 kq l1 a2 x19_3 l0_0 l0_1 = some (r1, r2)) ∧ Aside0 (kq ≤ k) ∧ Aside0 (Kd.R k36 36 wc w0.heap.size (fun k_ => (P1_ k_ ∨ w.heap.size ≤ k_)) u9000_ l1) ∧ Aside0 (wc.heap[gb285]? = some (.cells #[(.slice A0_0 l0_0.length c0_0), (.slice A0_1 l0_1.length c0_1)] 26 (0, 0))) ∧ Aside0 (Kept w wc (fun k_ => P1_ k_)) ∧ Aside0 (Below w0.heap.size w0 wc))
 case first =>
  have H := HC4.out
  clear HC4
  obtain ⟨t286, A6, H⟩ := bind_ H
  by_cases c7 : t286 = true
  ·subst c7
   replace H := ifp_ H
   obtain ⟨t287, A8, H⟩ := bind_ H
   have H' := Aside0.mk H
   clear H
   obtain ⟨hcz9_0, hcz9_1, hfz9_0, hfz9_1⟩ := blk2_ BK285
   go_wp2_with (first | ((with_reducible refine gate_callee (f := 84) rfl ?_); refine goesL_ (some 13) rfl rfl Try.func84 k_ rfl #[.agg #[.slice A0_0 l0_0.length c0_0, .slice A0_1 l0_1.length c0_1]] rfl (g2_) ?_; (with_reducible refine (spec_BookOk.calls k _ _ l0_0 _ _ l0_1 true _ ?side1 ?side2 ?side3 ?side4 A6.out).mono ?_); (case side1 => exact Kd.C_kept_now HR0_0.out (spec_l6Steps.calls_q0)); (case side2 => exact HC0_0.out); (case side3 => exact Kd.C_kept_now HR0_1.out (spec_l6Steps.calls_q0)); (case side4 => exact HC0_1.out); rintro e w10 ⟨rfl, hb⟩; refine ⟨_, rfl, ?_⟩; replace HO1 := Aside0.mk (Kd.R_below (uf1_ HO1) hb); replace BK285 := bb_ BK285 hb; replace HK := Aside0.mk (Kept.below (S := (fun k_ => P1_ k_)) (spec_l6Steps.calls_q0) hb); replace HB := Aside0.mk (below_step (spec_l6Steps.calls_q1) hb); (try clear hb); (try clear hk hi)) | (go_at_call 93; (with_reducible refine (spec_l1In.calls a2 0 4 t287 _ A8.out).mono ?_); rintro e w' ⟨rfl, ⟨nd, rfl⟩⟩))
   go_meet
   case rel => exact ⟨_, (!t287), (g3_), H', ⟨g15_⟩, ⟨uf1_ HO1⟩, ⟨uf3_ BK285⟩, ⟨spec_l6Steps.calls_q0⟩, ⟨spec_l6Steps.calls_q1⟩⟩
  ·replace c7 := Bool.eq_false_iff.mpr c7
   subst c7
   replace H := ifn_ H
   have H' := Aside0.mk H
   clear H
   obtain ⟨hcz11_0, hcz11_1, hfz11_0, hfz11_1⟩ := blk2_ BK285
   go_wp2_with (first | ((with_reducible refine gate_callee (f := 84) rfl ?_); refine goesL_ (some 13) rfl rfl Try.func84 k_ rfl #[.agg #[.slice A0_0 l0_0.length c0_0, .slice A0_1 l0_1.length c0_1]] rfl (g2_) ?_; (with_reducible refine (spec_BookOk.calls k _ _ l0_0 _ _ l0_1 false _ ?side1 ?side2 ?side3 ?side4 A6.out).mono ?_); (case side1 => exact Kd.C_kept_now HR0_0.out (spec_l6Steps.calls_q0)); (case side2 => exact HC0_0.out); (case side3 => exact Kd.C_kept_now HR0_1.out (spec_l6Steps.calls_q0)); (case side4 => exact HC0_1.out); rintro e w12 ⟨rfl, hb⟩; refine ⟨_, rfl, ?_⟩; replace HO1 := Aside0.mk (Kd.R_below (uf1_ HO1) hb); replace BK285 := bb_ BK285 hb; replace HK := Aside0.mk (Kept.below (S := (fun k_ => P1_ k_)) (spec_l6Steps.calls_q0) hb); replace HB := Aside0.mk (below_step (spec_l6Steps.calls_q1) hb); (try clear hb); (try clear hk hi)))
   go_meet
   case rel => exact ⟨_, (true), (g3_), H', ⟨g15_⟩, ⟨uf1_ HO1⟩, ⟨uf3_ BK285⟩, ⟨spec_l6Steps.calls_q0⟩, ⟨spec_l6Steps.calls_q1⟩⟩
 case rest =>
  clear HC4
  try clear p2
  try clear c7
  try clear c8
  try clear hcz11_0
  try clear hcz11_1
  try clear hcz9_0
  try clear hcz9_1
  try clear hfz11_0
  try clear hfz11_1
  try clear hfz9_0
  try clear hfz9_1
  obtain ⟨kq, x19_3, rfl, HA, HJ3, HO_1, BK285, HK, HB⟩ := hcut
  cases kq with
  | zero => exact absurd HA.out (by simp [spec_l6Steps.j0])
  | succ kj3 =>
   have H := HA.out
   clear HA
   simp only [spec_l6Steps.j0] at H
   by_cases c13 : x19_3 = true
   ·subst c13
    replace H := ifp_ H
    obtain ⟨y288, hy288⟩ : ∃ y_ : List (S36), y_ = (([] : List (S36))) := ⟨_, rfl⟩
    replace H : (some (y288, false)) = some (r1, r2) := by first | (rw [hy288]; with_reducible exact H) | (have H2_ := (Option.bind_some _ _).symm.trans H; rw [hy288]; with_reducible exact H2_) | (have H2_ := (Option.bind_some _ _).symm.trans H; with_reducible exact H2_) | with_reducible exact H | (rw [hy288]; exact H) | exact H
    have Ny288 := Aside0.mk hy288
    clear hy288
    simp only [Option.some.injEq, Prod.mk.injEq] at H
    obtain ⟨rfl, rfl⟩ := H
    go_wp2_with (first | ((with_reducible refine gate_dst (N := 20) rfl ?_); refine Kd.R_lit k36 _ 36 ?hg (N := 20) ?hd (xs := ([] : List (S36))) (inner := []) (ok := fun _ => True) (okp := fun _ => True) ?hr ?hp (fun _ hk => hk) trivial (Below.refl _ _) (Nat.le_refl _) (by simp) ?_; (case hd => rfl); (case hg => rfl); (case hr => first | (go_simp; done) | (go_simp; rfl)); (case hp => exact (Reps.none _ _)); intro v289 w14 ho15 hb hg_ hnew_; clear hg_ hnew_; (first | rw [← Ny288.out] at ho15 | (simp only [Int.reduceToNat] at ho15; rw [← Ny288.out] at ho15)); have HO290 := Aside0.mk (Kd.R_lower (Kd.R_new' (Kd.R_newM (M := fun k_ => (P1_ k_ ∨ w.heap.size ≤ k_)) ho15 (g57_) (fun k_ h_ => .inr h_)) (Kd.R_lt (uf1_ HO_1))) (below_size (spec_l6Steps.calls_q1))); replace HO_1 := Aside0.mk (Kd.R_elder' (uf1_ HO_1) (Kd.R_base ho15) hb); replace BK285 := bb_ BK285 hb; replace HK := Aside0.mk (Kept.below (S := (fun k_ => P1_ k_)) (spec_l6Steps.calls_q0) hb); replace HB := Aside0.mk (below_step (spec_l6Steps.calls_q1) hb); clear hb ho15))
    go_ret2
    exact ⟨_, g4_, by (with_reducible repeat (first | apply Kd.R_alloc | apply Kd.R_drewN | apply Kd.R_drew)); exact Kd.R_mono HO290.out (fun _ hk => hk.1.1), spec_l6Steps.calls_q1, spec_l6Steps.calls_q0⟩
   ·replace c13 := Bool.eq_false_iff.mpr c13
    subst c13
    replace H := ifn_ H
    have H' := Aside0.mk H
    clear H
    go_wp2
    go_loopg [8, 9] kj3 (fun kq v8 v9 w' => ∃ (x8_2 : List (S36)) (x9_2 : Int), v9 = .int .i64 x9_2 ∧ Aside0 (spec_l6Steps.l0 kq a2 x8_2 x9_2 l0_0 l0_1 = some (r1, r2)) ∧ Aside0 (kq ≤ kj3) ∧ Aside0 (Kd.R k36 36 w' w0.heap.size (fun k_ => (P1_ k_ ∨ w.heap.size ≤ k_)) v8 x8_2) ∧ Aside0 (w'.heap[gb285]? = some (.cells #[(.slice A0_0 l0_0.length c0_0), (.slice A0_1 l0_1.length c0_1)] 26 (0, 0))) ∧ Aside0 (Kept w w' (fun k_ => P1_ k_)) ∧ Aside0 (Below w0.heap.size w0 w'))
    case atStart => exact ⟨(l1), (0), (g3_), H', ⟨Nat.le_refl _⟩, ⟨uf1_ HO_1⟩, ⟨uf3_ BK285⟩, ⟨spec_l6Steps.calls_q0⟩, ⟨spec_l6Steps.calls_q1⟩⟩
    case round =>
     clear H'
     try clear c1
     try clear p2
     try clear c7
     try clear c8
     try clear c13
     try clear hcz11_0
     try clear hcz11_1
     try clear hcz9_0
     try clear hcz9_1
     try clear hfz11_0
     try clear hfz11_1
     try clear hfz9_0
     try clear hfz9_1
     try clear p2
     obtain ⟨x8_2, x9_2, rfl, HA, HK2, HO_8, BK285, HK, HB⟩ := hrel
     cases gk with
     | zero => exact absurd HA.out (by simp [spec_l6Steps.l0])
     | succ k2 =>
      have H := HA.out
      clear HA
      simp only [spec_l6Steps.l0] at H
      by_cases c16 : x9_2 < a2
      ·rw [if_pos c16] at H
       have c16b0 := decide_eq_true c16
       clear c16
       replace H := Option.bind_eq_some_iff.mp H
       obtain ⟨⟨t291, t294⟩, A170, H⟩ := H
       replace H : (if t294 = true then (spec_l6Steps.l0 k2 a2 t291 (wrap64 (x9_2 + 1)) l0_0 l0_1) else (some ((([] : List (S36))), false))) = some (r1, r2) := H
       have A17 := Aside0.mk A170
       clear A170
       by_cases c18 : t294 = true
       ·subst c18
        replace H := ifp_ H
        have H' := Aside0.mk H
        clear H
        obtain ⟨hcz19_0, hcz19_1, hfz19_0, hfz19_1⟩ := blk2_ BK285
        obtain ⟨Ao20, co20, eo20⟩ := Kd.R_slice HO_8.out
        subst eo20
        go_wp2_with (first | ((with_reducible refine gate_callee (f := 39) rfl ?_); refine goesL_ (some 30) rfl rfl Try.func39 k_ rfl #[.agg #[.slice A0_0 l0_0.length c0_0, .slice A0_1 l0_1.length c0_1], .slice Ao20 x8_2.length co20] rfl (g2_) ?_; (with_reducible refine (spec_LeadsTo.calls k2 _ _ l0_0 _ _ l0_1 _ _ x8_2 t291 true _ ?side1 ?side2 ?side3 ?side4 ?side5 ?side6 A17.out).mono ?_); (case side1 => exact Kd.C_kept_now HR0_0.out (spec_l6Steps.calls_q0)); (case side2 => exact HC0_0.out); (case side3 => exact Kd.C_kept_now HR0_1.out (spec_l6Steps.calls_q0)); (case side4 => exact HC0_1.out); (case side5 => repeat (first | exact (Kd.R_reads' HO_8.out).2.2 | (with_reducible refine Kd.C_alloc ?_ _) | (with_reducible refine Kd.C_drewN ?_ _) | (with_reducible refine Kd.C_drew ?_))); (case side6 => exact (Kd.R_reads' HO_8.out).2.1); rintro e w21 ⟨v292, rfl, ho0, hb⟩; refine ⟨_, rfl, ?_⟩; have HO293 := Aside0.mk (Kd.R_lower (Kd.R_new' (Kd.R_newM (M := fun k_ => (P1_ k_ ∨ w.heap.size ≤ k_)) ho0 (g57_) (fun k_ h_ => .inr h_)) (Kd.R_lt (uf1_ HO_8))) (below_size (spec_l6Steps.calls_q1))); replace HO_8 := Aside0.mk (Kd.R_elder' (uf1_ HO_8) (Kd.R_base ho0) hb); replace BK285 := bb_ BK285 hb; replace HK := Aside0.mk (Kept.below (S := (fun k_ => P1_ k_)) (spec_l6Steps.calls_q0) hb); replace HB := Aside0.mk (below_step (spec_l6Steps.calls_q1) hb); (try clear hb); (try clear hk hi); (try clear ho0)))
        go_roundg k2
        case measure => have := HJ3.out; have := HK2.out; omega
        case rel => exact ⟨(t291), (wrap64 (x9_2 + 1)), (g3_), H', ⟨by have := HJ3.out; have := HK2.out; omega⟩, ⟨by (with_reducible repeat (first | apply Kd.R_alloc | apply Kd.R_drewN | apply Kd.R_drew)); exact Kd.R_mono HO293.out (fun _ hk => hk.1.1)⟩, ⟨uf3_ BK285⟩, ⟨spec_l6Steps.calls_q0⟩, ⟨spec_l6Steps.calls_q1⟩⟩
       ·replace c18 := Bool.eq_false_iff.mpr c18
        subst c18
        replace H := ifn_ H
        obtain ⟨y295, hy295⟩ : ∃ y_ : List (S36), y_ = (([] : List (S36))) := ⟨_, rfl⟩
        replace H : (some (y295, false)) = some (r1, r2) := by first | (rw [hy295]; with_reducible exact H) | (have H2_ := (Option.bind_some _ _).symm.trans H; rw [hy295]; with_reducible exact H2_) | (have H2_ := (Option.bind_some _ _).symm.trans H; with_reducible exact H2_) | with_reducible exact H | (rw [hy295]; exact H) | exact H
        have Ny295 := Aside0.mk hy295
        clear hy295
        simp only [Option.some.injEq, Prod.mk.injEq] at H
        obtain ⟨rfl, rfl⟩ := H
        obtain ⟨hcz22_0, hcz22_1, hfz22_0, hfz22_1⟩ := blk2_ BK285
        obtain ⟨Ao23, co23, eo23⟩ := Kd.R_slice HO_8.out
        subst eo23
        go_wp2_with (first | ((with_reducible refine gate_callee (f := 39) rfl ?_); refine goesL_ (some 30) rfl rfl Try.func39 k_ rfl #[.agg #[.slice A0_0 l0_0.length c0_0, .slice A0_1 l0_1.length c0_1], .slice Ao23 x8_2.length co23] rfl (g2_) ?_; (with_reducible refine (spec_LeadsTo.calls k2 _ _ l0_0 _ _ l0_1 _ _ x8_2 t291 false _ ?side1 ?side2 ?side3 ?side4 ?side5 ?side6 A17.out).mono ?_); (case side1 => exact Kd.C_kept_now HR0_0.out (spec_l6Steps.calls_q0)); (case side2 => exact HC0_0.out); (case side3 => exact Kd.C_kept_now HR0_1.out (spec_l6Steps.calls_q0)); (case side4 => exact HC0_1.out); (case side5 => repeat (first | exact (Kd.R_reads' HO_8.out).2.2 | (with_reducible refine Kd.C_alloc ?_ _) | (with_reducible refine Kd.C_drewN ?_ _) | (with_reducible refine Kd.C_drew ?_))); (case side6 => exact (Kd.R_reads' HO_8.out).2.1); rintro e w24 ⟨v292, rfl, ho0, hb⟩; refine ⟨_, rfl, ?_⟩; have HO293 := Aside0.mk (Kd.R_lower (Kd.R_new' (Kd.R_newM (M := fun k_ => (P1_ k_ ∨ w.heap.size ≤ k_)) ho0 (g57_) (fun k_ h_ => .inr h_)) (Kd.R_lt (uf1_ HO_8))) (below_size (spec_l6Steps.calls_q1))); replace HO_8 := Aside0.mk (Kd.R_elder' (uf1_ HO_8) (Kd.R_base ho0) hb); replace BK285 := bb_ BK285 hb; replace HK := Aside0.mk (Kept.below (S := (fun k_ => P1_ k_)) (spec_l6Steps.calls_q0) hb); replace HB := Aside0.mk (below_step (spec_l6Steps.calls_q1) hb); (try clear hb); (try clear hk hi); (try clear ho0)) | ((with_reducible refine gate_dst (N := 35) rfl ?_); refine Kd.R_lit k36 _ 36 ?hg (N := 35) ?hd (xs := ([] : List (S36))) (inner := []) (ok := fun _ => True) (okp := fun _ => True) ?hr ?hp (fun _ hk => hk) trivial (Below.refl _ _) (Nat.le_refl _) (by simp) ?_; (case hd => rfl); (case hg => rfl); (case hr => first | (go_simp; done) | (go_simp; rfl)); (case hp => exact (Reps.none _ _)); intro v296 w25 ho26 hb hg_ hnew_; clear hg_ hnew_; (first | rw [← Ny295.out] at ho26 | (simp only [Int.reduceToNat] at ho26; rw [← Ny295.out] at ho26)); have HO297 := Aside0.mk (Kd.R_lower (Kd.R_new' (Kd.R_new' (Kd.R_newM (M := fun k_ => (P1_ k_ ∨ w.heap.size ≤ k_)) ho26 (g57_) (fun k_ h_ => .inr h_)) (Kd.R_lt (uf1_ HO_8))) (Kd.R_lt (uf1_ HO293))) (below_size (spec_l6Steps.calls_q1))); replace HO_8 := Aside0.mk (Kd.R_elder' (uf1_ HO_8) (Kd.R_base ho26) hb); replace HO293 := Aside0.mk (Kd.R_elder' (uf1_ HO293) (Kd.R_base ho26) hb); replace BK285 := bb_ BK285 hb; replace HK := Aside0.mk (Kept.below (S := (fun k_ => P1_ k_)) (spec_l6Steps.calls_q0) hb); replace HB := Aside0.mk (below_step (spec_l6Steps.calls_q1) hb); clear hb ho26))
        go_ret2
        exact ⟨_, g4_, by (with_reducible repeat (first | apply Kd.R_alloc | apply Kd.R_drewN | apply Kd.R_drew)); exact Kd.R_mono HO297.out (fun _ hk => hk.1.1.1), spec_l6Steps.calls_q1, spec_l6Steps.calls_q0⟩
      ·rw [if_neg c16] at H
       have c16b0 := decide_eq_false c16
       clear c16
       simp only [Option.some.injEq, Prod.mk.injEq] at H
       obtain ⟨rfl, rfl⟩ := H
       go_wp2
       go_ret2
       exact ⟨_, g4_, uf1_ HO_8, spec_l6Steps.calls_q1, spec_l6Steps.calls_q0⟩
def spec_NonePaid.l0 : Nat → List (S36) → Int → List Int → List (List Int) → Option ((List (S36)))
 | 0, _, _, _, _ => none
 | k + 1, x3, x4, x470000, x470001 => if x4 < (x470000.length : Int) then ((spec_BookOk.f k x470000 x470001).bind fun t473 => (if t473 = true then (if x3.length < 8796093022208 then (spec_NonePaid.l0 k (x3 ++ [(⟨0, 1⟩ : S36)]) (wrap64 (x4 + 1)) x470000 x470001) else (none)) else (some x3))) else (some x3)
def spec_NonePaid.f (k : Nat) (l0_0 : List Int) (l0_1 : List (List Int)) : Option ((List (S36))) := spec_NonePaid.l0 k (([] : List (S36))) 0 l0_0 l0_1
theorem spec_NonePaid.mq {p : Prop} (h : p := by
 repeat' first
 | (with_reducible exact ih0 _ _ _ _)
 | (with_reducible exact spec_BookOk.mono _ _ _)
 | (with_reducible exact LeO.refl _)
 | (with_reducible exact LeO.none _)
 | (with_reducible refine LeO.ite ?_ ?_)
 | (with_reducible refine LeO.bind ?_ (fun _ => ?_))
 | exact ih0 _ _ _ _
 | exact spec_BookOk.mono _ _ _
 | exact LeO.none _
 | refine LeO.ite ?_ ?_
 | refine LeO.bind ?_ (fun _ => ?_)) : p := h
theorem spec_NonePaid.mono_l : ∀ k, (∀ y0 y1 y2 y3, LeO (spec_NonePaid.l0 k y0 y1 y2 y3) (spec_NonePaid.l0 (k + 1) y0 y1 y2 y3))
 | 0 => fun _ _ _ _ r h => by simp [spec_NonePaid.l0] at h
 | k + 1 => by
  have ih0 := spec_NonePaid.mono_l k
  ·intro y0 y1 y2 y3
   unfold spec_NonePaid.l0
   exact spec_NonePaid.mq
theorem spec_NonePaid.mono : ∀ a0 a1 k, LeO (spec_NonePaid.f k a0 a1) (spec_NonePaid.f (k + 1) a0 a1) := by
 intro a0 a1 k
 have ih0 := spec_NonePaid.mono_l k
 unfold spec_NonePaid.f
 exact spec_NonePaid.mq
theorem spec_NonePaid.calls_q0 {p : Prop} (h : p := by repeat (first | (with_reducible first | exact HB.out | apply below_alloc | apply pw_below_drewN | apply below_drew1 | refine below_set ?_ GE469.out) | exact HB.out)) : p := h
set_option maxHeartbeats 8000000 in
set_option maxRecDepth 100000 in
theorem spec_NonePaid.calls (k : Nat) (A0_0 : Option Addr) (c0_0 : Nat) (l0_0 : List Int) (A0_1 : Option Addr) (c0_1 : Nat) (l0_1 : List (List Int)) (r : List (S36)) (w : World) (hr0_0 : Kd.C (Kd.int .i64) w A0_0 l0_0.length l0_0) (hc0_0 : l0_0.length ≤ c0_0) (hr0_1 : Kd.C (Kd.slice 3 (Kd.int .i64)) w A0_1 l0_1.length l0_1) (hc0_1 : l0_1.length ≤ c0_1) (h : spec_NonePaid.f k l0_0 l0_1 = some r) :
  Calls Try.prog 78 #[.agg #[.slice A0_0 l0_0.length c0_0, .slice A0_1 l0_1.length c0_1]] w fun e w' => ∃ v0_ : Value, e = .returned (v0_) ∧ Kd.R k36 36 w' w.heap.size (fun _ => True) v0_ r ∧ Below w.heap.size w w' := by
 have hu26 := Try.underlying26
 have hu36 := Try.underlying36
 have HR0_0 := Aside0.mk hr0_0
 have HC0_0 := Aside0.mk hc0_0
 clear hr0_0 hc0_0
 have HR0_1 := Aside0.mk hr0_1
 have HC0_1 := Aside0.mk hc0_1
 clear hr0_1 hc0_1
 have HB := Aside0.mk (Below.refl w.heap.size w)
 have H : (spec_NonePaid.l0 k (([] : List (S36))) 0 l0_0 l0_1) = some r := h
 clear h
 obtain ⟨y470, hy470⟩ : ∃ y_ : List (S36), y_ = (([] : List (S36))) := ⟨_, rfl⟩
 replace H : (spec_NonePaid.l0 k y470 0 l0_0 l0_1) = some r := by first | (rw [hy470]; with_reducible exact H) | (have H2_ := (Option.bind_some _ _).symm.trans H; rw [hy470]; with_reducible exact H2_) | (have H2_ := (Option.bind_some _ _).symm.trans H; with_reducible exact H2_) | with_reducible exact H | (rw [hy470]; exact H) | exact H
 have Ny470 := Aside0.mk hy470
 clear hy470
 have H' := Aside0.mk H
 clear H
 go_enter Try.func78, Try.ntmps78
 go_wp2_with (first | ((with_reducible refine gate_dst (N := 1) rfl ?_); refine bx_ (N := 1) #[.slice A0_0 l0_0.length c0_0, .slice A0_1 l0_1.length c0_1] 26 ?_; intro gb469 hg w2 hbox hb; have BK469 := Aside0.mk (hbox); have GW469 := Aside0.mk ((by rw [hg]; exact (below_size (spec_NonePaid.calls_q0)) : w.heap.size ≤ gb469)); have GE469 := Aside0.mk ((by rw [hg]; exact (below_size (spec_NonePaid.calls_q0)) : w.heap.size ≤ gb469)); replace HB := Aside0.mk (below_step (spec_NonePaid.calls_q0) hb); clear hb hbox hg) | ((with_reducible refine gate_dst (N := 5) rfl ?_); refine Kd.R_lit k36 _ 36 ?hg (N := 5) ?hd (xs := ([] : List (S36))) (inner := []) (ok := fun _ => True) (okp := fun _ => True) ?hr ?hp (fun _ hk => hk) trivial (Below.refl _ _) (Nat.le_refl _) (by simp) ?_; (case hd => rfl); (case hg => rfl); (case hr => first | (go_simp; done) | (go_simp; rfl)); (case hp => exact (Reps.none _ _)); intro v471 w3 ho4 hb hg_ hnew_; clear hg_ hnew_; (first | rw [← Ny470.out] at ho4 | (simp only [Int.reduceToNat] at ho4; rw [← Ny470.out] at ho4)); have HO472 := Aside0.mk (Kd.R_lower ho4 (below_size (spec_NonePaid.calls_q0))); replace BK469 := bb_ BK469 hb; replace HB := Aside0.mk (below_step (spec_NonePaid.calls_q0) hb); clear hb ho4))
 go_loopg [3, 4] k (fun kq v3 v4 w' => ∃ (x3_1 : List (S36)) (x4_1 : Int), v4 = .int .i64 x4_1 ∧ Aside0 (spec_NonePaid.l0 kq x3_1 x4_1 l0_0 l0_1 = some r) ∧ Aside0 (kq ≤ k) ∧ Aside0 (Kd.R k36 36 w' w.heap.size (fun _ => True) v3 x3_1) ∧ Aside0 (w'.heap[gb469]? = some (.cells #[(.slice A0_0 l0_0.length c0_0), (.slice A0_1 l0_1.length c0_1)] 26 (0, 0))) ∧ Aside0 (Below w.heap.size w w'))
 case atStart => exact ⟨(y470), (0), (g3_), H', ⟨Nat.le_refl _⟩, ⟨uf1_ HO472⟩, ⟨uf3_ BK469⟩, ⟨spec_NonePaid.calls_q0⟩⟩
 case round =>
  clear H'
  try clear p2
  obtain ⟨x3_1, x4_1, rfl, HA, HK1, HO_3, BK469, HB⟩ := hrel
  cases gk with
  | zero => exact absurd HA.out (by simp [spec_NonePaid.l0])
  | succ k1 =>
   have H := HA.out
   clear HA
   simp only [spec_NonePaid.l0] at H
   by_cases c5 : x4_1 < (l0_0.length : Int)
   ·rw [if_pos c5] at H
    have c5b0 := decide_eq_true c5
    clear c5
    obtain ⟨t473, A6, H⟩ := bind_ H
    by_cases c7 : t473 = true
    ·subst c7
     replace H := ifp_ H
     obtain ⟨c8, H⟩ := pos_ H
     have LMc8 := Aside0.mk c8
     clear c8
     obtain ⟨y474, hy474⟩ : ∃ y_ : List (S36), y_ = (x3_1 ++ [(⟨0, 1⟩ : S36)]) := ⟨_, rfl⟩
     replace H : (spec_NonePaid.l0 k1 y474 (wrap64 (x4_1 + 1)) l0_0 l0_1) = some r := by first | (rw [hy474]; with_reducible exact H) | (have H2_ := (Option.bind_some _ _).symm.trans H; rw [hy474]; with_reducible exact H2_) | (have H2_ := (Option.bind_some _ _).symm.trans H; with_reducible exact H2_) | with_reducible exact H | (rw [hy474]; exact H) | exact H
     have Ny474 := Aside0.mk hy474
     clear hy474
     have H' := Aside0.mk H
     clear H
     obtain ⟨hcz9_0, hcz9_1, hfz9_0, hfz9_1⟩ := blk2_ BK469
     go_wp2_with (first | (go_at_call 84; (with_reducible refine (spec_BookOk.calls k1 _ _ l0_0 _ _ l0_1 true _ ?side1 ?side2 ?side3 ?side4 A6.out).mono ?_); (case side1 => exact uf0_ HR0_0); (case side2 => exact HC0_0.out); (case side3 => exact uf0_ HR0_1); (case side4 => exact HC0_1.out); rintro e w10 ⟨rfl, hb⟩; replace HO_3 := Aside0.mk (Kd.R_below (uf1_ HO_3) hb); replace BK469 := bb_ BK469 hb; replace HB := Aside0.mk (below_step (spec_NonePaid.calls_q0) hb); (try clear hb); (try clear hk hi)) | ((with_reducible refine gate_builtin (b := .append) (xs := #[.tmp 17, .tmp 19]) rfl ?_); at_builtin; refine Kd.R_append k36 (w0 := w) w.heap.size rfl (.tmp 17) (.tmp 19) 27 36 (.agg #[(.int .i64 0), (.int .i64 0)]) 16 rfl Try.underlying27 info36 rfl (by decide) (by omega) u3 x3_1 (⟨0, 1⟩ : S36) [.int .i64 0, .int .i64 1] (fun _ => True) (fun _ => False) rfl rfl ?aP (fun _ hk => hk.elim) ?aF ?aO ?aB ?aS ?aL ?_; (case aP => exact k36_mkM _ _ _ (⟨0, 1⟩ : S36)); (case aB => exact (spec_NonePaid.calls_q0)); (case aF => exact (fun _ _ => trivial)); (case aO => exact (uf1_ HO_3)); (case aS => exact (below_size (spec_NonePaid.calls_q0))); (case aL => have := LMc8.out; omega); intro v475 w11 ho hb hg hat; rw [← Ny474.out] at ho; replace BK469 := Aside0.mk (blk_grown (g := gb469) (o := .cells #[.slice A0_0 l0_0.length c0_0, .slice A0_1 l0_1.length c0_1] 26 (0, 0)) (uf3_ BK469) hg (Kd.R_ne HO_3.out BK469.out (by decide))); replace HB := Aside0.mk (hb); have HO476 := Aside0.mk (ho); clear HO_3; clear ho hb hg hat))
     go_roundg k1
     case measure => have := HK1.out; omega
     case rel => exact ⟨(y474), (wrap64 (x4_1 + 1)), (g3_), H', ⟨g12_⟩, ⟨uf1_ HO476⟩, ⟨uf3_ BK469⟩, ⟨spec_NonePaid.calls_q0⟩⟩
    ·replace c7 := Bool.eq_false_iff.mpr c7
     subst c7
     replace H := ifn_ H
     obtain rfl := Option.some.inj H
     obtain ⟨hcz12_0, hcz12_1, hfz12_0, hfz12_1⟩ := blk2_ BK469
     go_wp2_with (first | (go_at_call 84; (with_reducible refine (spec_BookOk.calls k1 _ _ l0_0 _ _ l0_1 false _ ?side1 ?side2 ?side3 ?side4 A6.out).mono ?_); (case side1 => exact uf0_ HR0_0); (case side2 => exact HC0_0.out); (case side3 => exact uf0_ HR0_1); (case side4 => exact HC0_1.out); rintro e w13 ⟨rfl, hb⟩; replace HO_3 := Aside0.mk (Kd.R_below (uf1_ HO_3) hb); replace BK469 := bb_ BK469 hb; replace HB := Aside0.mk (below_step (spec_NonePaid.calls_q0) hb); (try clear hb); (try clear hk hi)))
     go_ret
     exact ⟨_, g4_, uf1_ HO_3, spec_NonePaid.calls_q0⟩
   ·rw [if_neg c5] at H
    have c5b0 := decide_eq_false c5
    clear c5
    obtain rfl := Option.some.inj H
    obtain ⟨hcz14_0, hcz14_1, hfz14_0, hfz14_1⟩ := blk2_ BK469
    go_wp2
    go_ret
    exact ⟨_, g4_, uf1_ HO_3, spec_NonePaid.calls_q0⟩
def spec_FromBelow.f (k : Nat) (l0_0 : List Int) (l0_1 : List (List Int)) (a1 : Int) : Option ((List (S36)) × Bool) := (spec_NonePaid.f k l0_0 l0_1).bind fun t478 => ((spec_l6Steps.f k l0_0 l0_1 t478 a1).bind fun bt481 => (some (bt481.1, bt481.2)))
theorem spec_FromBelow.mq {p : Prop} (h : p := by
 repeat' first
 | (with_reducible exact spec_NonePaid.mono _ _ _)
 | (with_reducible exact spec_l6Steps.mono _ _ _ _ _)
 | (with_reducible exact LeO.refl _)
 | (with_reducible exact LeO.none _)
 | (with_reducible refine LeO.ite ?_ ?_)
 | (with_reducible refine LeO.bind ?_ (fun _ => ?_))
 | exact spec_NonePaid.mono _ _ _
 | exact spec_l6Steps.mono _ _ _ _ _
 | exact LeO.none _
 | refine LeO.ite ?_ ?_
 | refine LeO.bind ?_ (fun _ => ?_)) : p := h
theorem spec_FromBelow.mono : ∀ a0 a1 a2 k, LeO (spec_FromBelow.f k a0 a1 a2) (spec_FromBelow.f (k + 1) a0 a1 a2) := by
 intro a0 a1 a2 k
 unfold spec_FromBelow.f
 exact spec_FromBelow.mq
def spec_FromBelow.T1 : Bool × List (List Nat × List Nat) := (true, [([], []), ([], []), ([1], [1]), ([], []), ([0, 2, 3, 2], [0, 2, 3]), ([4], [4]), ([4], [4]), ([5, 4, 0, 1, 2, 3, 4, 5, 6], [5]), ([6, 7, 0, 1, 2, 3, 4, 5, 6, 7], [6])])
def spec_FromBelow.B1 : List Nat := [0, 0, 2, 0, 15, 31, 31, 127, 255]
theorem spec_FromBelow.tab1 : rtab .any (opsOf Try.f43 1) = spec_FromBelow.T1 := by kernel_rfl
theorem spec_FromBelow.bits1 : waitsOk spec_FromBelow.T1.2 spec_FromBelow.B1 = true := by kernel_rfl
theorem spec_FromBelow.calls_q0 {p : Prop} (h : p := by repeat (first | (with_reducible first | exact HB.out | apply below_alloc | apply pw_below_drewN | apply below_drew1 | refine below_set ?_ GE477.out) | exact HB.out)) : p := h
set_option maxHeartbeats 8000000 in
set_option maxRecDepth 100000 in
theorem spec_FromBelow.calls (k : Nat) (A0_0 : Option Addr) (c0_0 : Nat) (l0_0 : List Int) (A0_1 : Option Addr) (c0_1 : Nat) (l0_1 : List (List Int)) (a1 : Int) (r1 : List (S36)) (r2 : Bool) (w : World) (hr0_0 : Kd.C (Kd.int .i64) w A0_0 l0_0.length l0_0) (hc0_0 : l0_0.length ≤ c0_0) (hr0_1 : Kd.C (Kd.slice 3 (Kd.int .i64)) w A0_1 l0_1.length l0_1) (hc0_1 : l0_1.length ≤ c0_1) (h : spec_FromBelow.f k l0_0 l0_1 a1 = some (r1, r2)) :
  Calls Try.prog 43 #[.agg #[.slice A0_0 l0_0.length c0_0, .slice A0_1 l0_1.length c0_1], .int .i64 a1] w fun e w' => ∃ v0_ : Value, e = .returned (.tuple #[v0_, .bool r2]) ∧ Kd.R k36 36 w' w.heap.size (fun _ => True) v0_ r1 ∧ Below w.heap.size w w' := by
 have hu26 := Try.underlying26
 have HR0_0 := Aside0.mk hr0_0
 have HC0_0 := Aside0.mk hc0_0
 clear hr0_0 hc0_0
 have HR0_1 := Aside0.mk hr0_1
 have HC0_1 := Aside0.mk hc0_1
 clear hr0_1 hc0_1
 have HB := Aside0.mk (Below.refl w.heap.size w)
 have H : ((spec_NonePaid.f k l0_0 l0_1).bind fun t478 => ((spec_l6Steps.f k l0_0 l0_1 t478 a1).bind fun bt481 => (some (bt481.1, bt481.2)))) = some (r1, r2) := h
 clear h
 obtain ⟨t478, A3, H⟩ := bind_ H
 replace H := Option.bind_eq_some_iff.mp H
 obtain ⟨⟨t481, t484⟩, A40, H⟩ := H
 replace H : (some (t481, t484)) = some (r1, r2) := H
 have A4 := Aside0.mk A40
 clear A40
 simp only [Option.some.injEq, Prod.mk.injEq] at H
 obtain ⟨rfl, rfl⟩ := H
 go_enter Try.func43, Try.ntmps43
 try go_wp2_with (first | ((with_reducible refine gate_dst (N := 2) rfl ?_); refine bx_ (N := 2) #[.slice A0_0 l0_0.length c0_0, .slice A0_1 l0_1.length c0_1] 26 ?_; intro gb477 hg w5 hbox hb; have BK477 := Aside0.mk (hbox); have GW477 := Aside0.mk ((by rw [hg]; exact (below_size (spec_FromBelow.calls_q0)) : w.heap.size ≤ gb477)); have GE477 := Aside0.mk ((by rw [hg]; exact (below_size (spec_FromBelow.calls_q0)) : w.heap.size ≤ gb477)); replace HB := Aside0.mk (below_step (spec_FromBelow.calls_q0) hb); clear hb hbox hg))
 replace BK477 := Aside0.mk (blk_drew BK477.out)
 replace HB := Aside0.mk (below_drew1 HB.out)
 refine start_ (n := 9) (S := fun w' => w'.cell? ⟨gb477, 0, none⟩ = some (.slice A0_0 l0_0.length c0_0) ∧ w'.cell? ⟨gb477, 1, none⟩ = some (.slice A0_1 l0_1.length c0_1)) (ds := []) (tl_ 9 0) (g0_) rfl (g0_) ⟨(blk_cell BK477.out 0).trans rfl, (blk_cell BK477.out 1).trans rfl⟩ (fun hHeld => ?_); refine with_tabW spec_FromBelow.tab1 spec_FromBelow.bits1 (fun HT_ HW_ => ?_)
 generalize w5.drew = w6 at BK477 HB hHeld ⊢
 refine pw_ 3 9 (tl_ 9 8) rfl rfl ?_
 refine tk4_ 0 6 (tl_ 9 9) rfl rfl hHeld ?_
 refine tk4_ 1 7 (tl_ 9 11) rfl rfl hHeld ?_
 refine one_ (i := 2) (N := some 8) (tl_ 9 15) rfl rfl (one_of HT_.out (g0_)) (by decide) (fun K hK => ?_)
 refine goes_ Try.func78 (g0_) rfl #[.agg #[.slice A0_0 l0_0.length c0_0, .slice A0_1 l0_1.length c0_1]] (by rfl) rfl rfl (g2_) ?_
 with_reducible refine (spec_NonePaid.calls k _ _ l0_0 _ _ l0_1 t478 _ ?side1 ?side2 ?side3 ?side4 A3.out).mono ?_
 (case side1 => exact uf0_ HR0_0)
 (case side2 => exact HC0_0.out)
 (case side3 => exact uf0_ HR0_1)
 (case side4 => exact HC0_1.out)
 rintro e w7 ⟨v479, rfl, ho0, hb⟩
 refine ⟨_, rfl, ?_⟩
 have HO480 := Aside0.mk (Kd.R_lower ho0 (below_size (spec_FromBelow.calls_q0)))
 replace BK477 := bb_ BK477 hb
 replace HB := Aside0.mk (below_step (spec_FromBelow.calls_q0) hb)
 (try clear hb)
 (try clear hk hi)
 (try clear ho0)
 obtain ⟨Ao8, co8, eo8⟩ := Kd.R_slice HO480.out
 (first | subst eo8 | (injection eo8 with f1_ f2_ f3_; have f4_ := f1_.symm; have f5_ := f3_.symm; clear f1_ f2_ f3_; subst f4_; subst f5_))
 refine hK.out _ _ ⟨(blk_cell BK477.out 0).trans rfl, (blk_cell BK477.out 1).trans rfl⟩ (fun hHeld => ?_)
 clear hK K
 refine nm_ ?_
 refine one_ (i := 4) (N := some 10) (tl_ 9 31) rfl rfl (one_of HT_.out (g0_)) (by decide) (fun K hK => ?_)
 refine goes_ Try.func77 (g0_) rfl #[.agg #[.slice A0_0 l0_0.length c0_0, .slice A0_1 l0_1.length c0_1], .slice Ao8 t478.length co8, .int .i64 a1] (by rfl) rfl rfl (g2_) ?_
 with_reducible refine (spec_l6Steps.calls k _ _ l0_0 _ _ l0_1 (fun k_ => some k_ = (.slice Ao8 t478.length co8 : Value).ownBlock) (.slice Ao8 t478.length co8) t478 a1 t481 t484 w _ ?side1 ?side2 ?side3 ?side4 ?side5 ?side6 A4.out).mono ?_
 (case side1 => exact spec_FromBelow.calls_q0)
 (case side2 => exact Kd.C_kept_came (Kd.heap_int .i64) HR0_0.out (spec_FromBelow.calls_q0) (fun k_ hs_ => (fun e_ => Kd.R_base HO480.out k_ e_.symm) hs_))
 (case side3 => exact HC0_0.out)
 (case side4 => exact Kd.C_kept_came (Kd.heap_slice 3 (Kd.heap_int .i64)) HR0_1.out (spec_FromBelow.calls_q0) (fun k_ hs_ => (fun e_ => Kd.R_base HO480.out k_ e_.symm) hs_))
 (case side5 => exact HC0_1.out)
 (case side6 => exact Kd.R_tight rfl HO480.out)
 rintro e w9 ⟨v482, rfl, ho0, hb, hkp⟩
 refine ⟨_, rfl, ?_⟩
 replace BK477 := Aside0.mk (blk_kept (uf3_ BK477) hkp (fun hs_ => (fun e_ => (Kd.R_ne HO480.out BK477.out (by decide)) e_) hs_))
 have HO483 := Aside0.mk (Kd.R_mono (ok' := fun k_ => True) ho0 (fun k_ hk_ => trivial))
 replace HB := Aside0.mk (hb)
 clear HO480
 (try clear hb)
 (try clear hkp)
 (try clear ho0)
 refine hK.out _ _ ⟨(blk_cell BK477.out 0).trans rfl, (blk_cell BK477.out 1).trans rfl⟩ (fun hHeld => ?_)
 clear hK K
 refine nm_ ?_
 refine pw_ 5 11 (tl_ 9 63) rfl rfl ?_
 refine pw_ 6 12 (tl_ 9 127) rfl rfl ?_
 refine pw_ 7 4 (tl_ 9 255) rfl rfl ?_
 refine pw_ 8 5 (tl_ 9 511) rfl rfl ?_
 refine done_ (done_of HT_.out (g0_)) ?_
 try go_wp2
 go_ret2
 exact ⟨_, g4_, uf1_ HO483, spec_FromBelow.calls_q0⟩
mutual
def impl_isBook.j0 : Nat → Int → Bool → List Int → List (List Int) → Option (Bool)
 | 0, _, _, _, _ => none
 | k + 1, x3, x23, x307000, x307001 => if x23 = true then (some false) else (impl_isBook.l0 k x3 x307001 (x307001.length : Int) 0 x307000 x307001)
def impl_isBook.l0 : Nat → Int → List (List Int) → Int → Int → List Int → List (List Int) → Option (Bool)
 | 0, _, _, _, _, _, _ => none
 | k + 1, x3, x25, x26, x27, x307000, x307001 => if x27 < x26 then (if 0 ≤ x27 then (if x27 < (x25.length : Int) then (if x27 < (x307000.length : Int) then (if (rd x307000 x27) < 0 then (impl_isBook.j2 k x3 (rd_L1 x25 x27) x25 x26 x27 true x307000 x307001) else (if (rd x307000 x27) > 20 then (impl_isBook.j2 k x3 (rd_L1 x25 x27) x25 x26 x27 true x307000 x307001) else (if ((rd_L1 x25 x27).length : Int) = x3 then (if x27 < ((rd_L1 x25 x27).length : Int) then (impl_isBook.j2 k x3 (rd_L1 x25 x27) x25 x26 x27 ((rd (rd_L1 x25 x27) x27) != 0) x307000 x307001) else (none)) else (impl_isBook.j2 k x3 (rd_L1 x25 x27) x25 x26 x27 true x307000 x307001)))) else (none)) else (none)) else (none)) else (some true)
def impl_isBook.j2 : Nat → Int → List Int → List (List Int) → Int → Int → Bool → List Int → List (List Int) → Option (Bool)
 | 0, _, _, _, _, _, _, _, _ => none
 | k + 1, x3, x5, x25, x26, x27, x58, x307000, x307001 => if x58 = true then (some false) else (impl_isBook.l1 k x3 x25 x26 x27 x5 (x5.length : Int) 0 x307000 x307001)
def impl_isBook.l1 : Nat → Int → List (List Int) → Int → Int → List Int → Int → Int → List Int → List (List Int) → Option (Bool)
 | 0, _, _, _, _, _, _, _, _, _ => none
 | k + 1, x3, x25, x26, x27, x59, x60, x61, x307000, x307001 => if x61 < x60 then (if 0 ≤ x61 then (if x61 < (x59.length : Int) then (if (rd x59 x61) < 0 then (some false) else (if (rd x59 x61) > 9 then (some false) else (impl_isBook.l1 k x3 x25 x26 x27 x59 x60 (wrap64 (x61 + 1)) x307000 x307001))) else (none)) else (none)) else (impl_isBook.l0 k x3 x25 x26 (wrap64 (x27 + 1)) x307000 x307001)
end
def impl_isBook.f (k : Nat) (l0_0 : List Int) (l0_1 : List (List Int)) : Option (Bool) := if (l0_0.length : Int) < 1 then (impl_isBook.j0 k (l0_0.length : Int) true l0_0 l0_1) else (if (l0_0.length : Int) > 4 then (impl_isBook.j0 k (l0_0.length : Int) true l0_0 l0_1) else (impl_isBook.j0 k (l0_0.length : Int) ((l0_1.length : Int) != (l0_0.length : Int)) l0_0 l0_1))
theorem impl_isBook.mq {p : Prop} (h : p := by
 repeat' first
 | (with_reducible exact ih0 _ _ _ _)
 | (with_reducible exact ih1 _ _ _ _ _ _)
 | (with_reducible exact ih2 _ _ _ _ _ _ _ _)
 | (with_reducible exact ih3 _ _ _ _ _ _ _ _ _)
 | (with_reducible exact LeO.refl _)
 | (with_reducible exact LeO.none _)
 | (with_reducible refine LeO.ite ?_ ?_)
 | (with_reducible refine LeO.bind ?_ (fun _ => ?_))
 | exact ih0 _ _ _ _
 | exact ih1 _ _ _ _ _ _
 | exact ih2 _ _ _ _ _ _ _ _
 | exact ih3 _ _ _ _ _ _ _ _ _
 | exact LeO.none _
 | refine LeO.ite ?_ ?_
 | refine LeO.bind ?_ (fun _ => ?_)) : p := h
theorem impl_isBook.mono_l : ∀ k, (∀ y0 y1 y2 y3, LeO (impl_isBook.j0 k y0 y1 y2 y3) (impl_isBook.j0 (k + 1) y0 y1 y2 y3)) ∧ (∀ y0 y1 y2 y3 y4 y5, LeO (impl_isBook.l0 k y0 y1 y2 y3 y4 y5) (impl_isBook.l0 (k + 1) y0 y1 y2 y3 y4 y5)) ∧ (∀ y0 y1 y2 y3 y4 y5 y6 y7, LeO (impl_isBook.j2 k y0 y1 y2 y3 y4 y5 y6 y7) (impl_isBook.j2 (k + 1) y0 y1 y2 y3 y4 y5 y6 y7)) ∧ (∀ y0 y1 y2 y3 y4 y5 y6 y7 y8, LeO (impl_isBook.l1 k y0 y1 y2 y3 y4 y5 y6 y7 y8) (impl_isBook.l1 (k + 1) y0 y1 y2 y3 y4 y5 y6 y7 y8))
 | 0 => ⟨fun _ _ _ _ r h => by simp [impl_isBook.j0] at h, fun _ _ _ _ _ _ r h => by simp [impl_isBook.l0] at h, fun _ _ _ _ _ _ _ _ r h => by simp [impl_isBook.j2] at h, fun _ _ _ _ _ _ _ _ _ r h => by simp [impl_isBook.l1] at h⟩
 | k + 1 => by
  obtain ⟨ih0, ih1, ih2, ih3⟩ := impl_isBook.mono_l k
  refine ⟨?_, ?_, ?_, ?_⟩
  ·intro y0 y1 y2 y3
   unfold impl_isBook.j0
   exact impl_isBook.mq
  ·intro y0 y1 y2 y3 y4 y5
   unfold impl_isBook.l0
   exact impl_isBook.mq
  ·intro y0 y1 y2 y3 y4 y5 y6 y7
   unfold impl_isBook.j2
   exact impl_isBook.mq
  ·intro y0 y1 y2 y3 y4 y5 y6 y7 y8
   unfold impl_isBook.l1
   exact impl_isBook.mq
theorem impl_isBook.mono : ∀ a0 a1 k, LeO (impl_isBook.f k a0 a1) (impl_isBook.f (k + 1) a0 a1) := by
 intro a0 a1 k
 obtain ⟨ih0, ih1, ih2, ih3⟩ := impl_isBook.mono_l k
 unfold impl_isBook.f
 exact impl_isBook.mq
theorem impl_isBook.calls_q0 {p : Prop} (h : p := by repeat (first | (with_reducible first | exact HB.out | apply below_alloc | apply pw_below_drewN | apply below_drew1 | refine below_set ?_ GE306.out) | exact HB.out)) : p := h
set_option maxHeartbeats 8000000 in
set_option maxRecDepth 100000 in
theorem impl_isBook.calls (k : Nat) (A0_0 : Option Addr) (c0_0 : Nat) (l0_0 : List Int) (A0_1 : Option Addr) (c0_1 : Nat) (l0_1 : List (List Int)) (r : Bool) (w : World) (hr0_0 : Kd.C (Kd.int .i64) w A0_0 l0_0.length l0_0) (hc0_0 : l0_0.length ≤ c0_0) (hr0_1 : Kd.C (Kd.slice 3 (Kd.int .i64)) w A0_1 l0_1.length l0_1) (hc0_1 : l0_1.length ≤ c0_1) (h : impl_isBook.f k l0_0 l0_1 = some r) :
  Calls Try.prog 65 #[.agg #[.slice A0_0 l0_0.length c0_0, .slice A0_1 l0_1.length c0_1]] w fun e w' => e = .returned (.bool r) ∧ Below w.heap.size w w' := by
 have hu26 := Try.underlying26
 have HR0_0 := Aside0.mk hr0_0
 have HC0_0 := Aside0.mk hc0_0
 clear hr0_0 hc0_0
 have HR0_1 := Aside0.mk hr0_1
 have HC0_1 := Aside0.mk hc0_1
 clear hr0_1 hc0_1
 have HB := Aside0.mk (Below.refl w.heap.size w)
 have H : (if (l0_0.length : Int) < 1 then (impl_isBook.j0 k (l0_0.length : Int) true l0_0 l0_1) else (if (l0_0.length : Int) > 4 then (impl_isBook.j0 k (l0_0.length : Int) true l0_0 l0_1) else (impl_isBook.j0 k (l0_0.length : Int) ((l0_1.length : Int) != (l0_0.length : Int)) l0_0 l0_1))) = some r := h
 clear h
 have HC2 := Aside0.mk H
 clear H
 go_enter Try.func65, Try.ntmps65
 go_upto_region 2 with (first | ((with_reducible refine gate_dst (N := 1) rfl ?_); (try (refine gate_guard (by rfl) ?_; dsimp only)); refine bx_ (N := 1) #[.slice A0_0 l0_0.length c0_0, .slice A0_1 l0_1.length c0_1] 26 ?_; intro gb306 hg w3 hbox hb; have BK306 := Aside0.mk (hbox); have GW306 := Aside0.mk ((by rw [hg]; exact (below_size (impl_isBook.calls_q0)) : w.heap.size ≤ gb306)); have GE306 := Aside0.mk ((by rw [hg]; exact (below_size (impl_isBook.calls_q0)) : w.heap.size ≤ gb306)); replace HB := Aside0.mk (below_step (impl_isBook.calls_q0) hb); clear hb hbox hg; obtain ⟨hcz4_0, hcz4_1, hfz4_0, hfz4_1⟩ := blk2_ BK306))
 (try simp only [Act.put, List.setIfInBounds_toArray, List.set_cons_zero, List.set_cons_succ])
 go_cut [23] (fun v23 wc => ∃ (kq : Nat) (x23_1 : Bool), v23 = .bool x23_1 ∧ Aside0 (impl_isBook.j0 kq (l0_0.length : Int) x23_1 l0_0 l0_1 = some r) ∧ Aside0 (kq ≤ k) ∧ Aside0 (wc.heap[gb306]? = some (.cells #[(.slice A0_0 l0_0.length c0_0), (.slice A0_1 l0_1.length c0_1)] 26 (0, 0))) ∧ Aside0 (Below w.heap.size w wc))
 case first =>
  have H := HC2.out
  clear HC2
  by_cases c5 : (l0_0.length : Int) < 1
  ·rw [if_pos c5] at H
   have c5b0 := decide_eq_true c5
   have c5b1 : decide (l0_0.length < 1) = true := decide_eq_true (by omega)
   clear c5
   (first | rw [c5b0] | (simp only [i64_w, i32_w]; rw [c5b0]) | skip)
   have H' := Aside0.mk H
   clear H
   go_wp2
   go_meet
   case rel => exact ⟨_, (true), (g3_), H', ⟨g15_⟩, ⟨uf3_ BK306⟩, ⟨impl_isBook.calls_q0⟩⟩
  ·rw [if_neg c5] at H
   have c5b0 := decide_eq_false c5
   have c5b1 : decide (l0_0.length < 1) = false := decide_eq_false (by omega)
   clear c5
   (first | rw [c5b0] | (simp only [i64_w, i32_w]; rw [c5b0]) | skip)
   by_cases c6 : (l0_0.length : Int) > 4
   ·rw [if_pos c6] at H
    have c6b0 := decide_eq_true c6
    have c6b1 : decide (4 < l0_0.length) = true := decide_eq_true (by omega)
    clear c6
    have H' := Aside0.mk H
    clear H
    go_wp2
    go_meet
    case rel => exact ⟨_, (true), (g3_), H', ⟨g15_⟩, ⟨uf3_ BK306⟩, ⟨impl_isBook.calls_q0⟩⟩
   ·rw [if_neg c6] at H
    have c6b0 := decide_eq_false c6
    have c6b1 : decide (4 < l0_0.length) = false := decide_eq_false (by omega)
    clear c6
    have H' := Aside0.mk H
    clear H
    obtain ⟨hcz7_0, hcz7_1, hfz7_0, hfz7_1⟩ := blk2_ BK306
    go_wp2
    go_meet
    case rel => exact ⟨_, (((l0_1.length : Int) != (l0_0.length : Int))), (g3_), H', ⟨g15_⟩, ⟨uf3_ BK306⟩, ⟨impl_isBook.calls_q0⟩⟩
 case rest =>
  clear HC2
  try clear p2
  try clear c5
  try clear c5b0
  try clear c5b1
  try clear c6
  try clear c6b0
  try clear c6b1
  try clear hcz4_0
  try clear hcz4_1
  try clear hcz7_0
  try clear hcz7_1
  try clear hfz4_0
  try clear hfz4_1
  try clear hfz7_0
  try clear hfz7_1
  obtain ⟨kq, x23_1, rfl, HA, HJ1, BK306, HB⟩ := hcut
  cases kq with
  | zero => exact absurd HA.out (by simp [impl_isBook.j0])
  | succ kj1 =>
   have H := HA.out
   clear HA
   simp only [impl_isBook.j0] at H
   by_cases c8 : x23_1 = true
   ·subst c8
    replace H := ifp_ H
    obtain rfl := Option.some.inj H
    go_wp2
    go_ret
    exact ⟨g4_, impl_isBook.calls_q0⟩
   ·replace c8 := Bool.eq_false_iff.mpr c8
    subst c8
    replace H := ifn_ H
    have H' := Aside0.mk H
    clear H
    obtain ⟨hcz9_0, hcz9_1, hfz9_0, hfz9_1⟩ := blk2_ BK306
    go_wp2
    go_loopg [27] kj1 (fun kq v27 w' => ∃ (x27_2 : Int), v27 = .int .i64 x27_2 ∧ Aside0 (impl_isBook.l0 kq (l0_0.length : Int) l0_1 (l0_1.length : Int) x27_2 l0_0 l0_1 = some r) ∧ Aside0 (kq ≤ kj1) ∧ Aside0 (w'.heap[gb306]? = some (.cells #[(.slice A0_0 l0_0.length c0_0), (.slice A0_1 l0_1.length c0_1)] 26 (0, 0))) ∧ Aside0 (Below w.heap.size w w'))
    case atStart => exact ⟨(0), (g3_), H', ⟨Nat.le_refl _⟩, ⟨uf3_ BK306⟩, ⟨impl_isBook.calls_q0⟩⟩
    case round =>
     clear H'
     try clear p2
     try clear c5
     try clear c5b0
     try clear c5b1
     try clear c6
     try clear c6b0
     try clear c6b1
     try clear c8
     try clear hcz4_0
     try clear hcz4_1
     try clear hcz7_0
     try clear hcz7_1
     try clear hcz9_0
     try clear hcz9_1
     try clear hfz4_0
     try clear hfz4_1
     try clear hfz7_0
     try clear hfz7_1
     try clear hfz9_0
     try clear hfz9_1
     try clear p2
     obtain ⟨x27_2, rfl, HA, HK2, BK306, HB⟩ := hrel
     cases gk with
     | zero => exact absurd HA.out (by simp [impl_isBook.l0])
     | succ k2 =>
      have H := HA.out
      clear HA
      simp only [impl_isBook.l0] at H
      by_cases c10 : x27_2 < (l0_1.length : Int)
      ·rw [if_pos c10] at H
       have c10b0 := decide_eq_true c10
       clear c10
       obtain ⟨c11, H⟩ := pos_ H
       have c11b0 := decide_eq_true c11
       clear c11
       obtain ⟨c12, H⟩ := pos_ H
       have c12b0 := decide_eq_true c12
       clear c12
       have HC13 := Aside0.mk H
       clear H
       have p307 : 0 ≤ (x27_2 : Int) := of_decide_eq_true (g1_)
       have q307 : x27_2 < (l0_1.length : Int) := of_decide_eq_true (g1_)
       obtain ⟨ad307, A307_0, c307_0, e307, hx307_0, hl307_0, hi307_0⟩ := at_L1 HR0_1.out x27_2 p307 q307
       cases e307
       replace hx307_0 := cl_ HB hx307_0
       have HR307_0 := Aside0.mk hi307_0
       have HC307_0 := Aside0.mk hl307_0
       clear hi307_0 hl307_0
       replace p307 := eq_true p307
       replace q307 := eq_true q307
       go_upto_region 7 with (fail)
       go_cut [58] (fun v58 wc => ∃ (kq : Nat) (x58_12 : Bool), v58 = .bool x58_12 ∧ Aside0 (impl_isBook.j2 kq (l0_0.length : Int) (rd_L1 l0_1 x27_2) l0_1 (l0_1.length : Int) x27_2 x58_12 l0_0 l0_1 = some r) ∧ Aside0 (kq ≤ k2) ∧ Aside0 (wc.heap[gb306]? = some (.cells #[(.slice A0_0 l0_0.length c0_0), (.slice (some ad307) l0_1.length c0_1)] 26 (0, 0))) ∧ Aside0 (Below w.heap.size w wc))
       case first =>
        have H := HC13.out
        clear HC13
        obtain ⟨c14, H⟩ := pos_ H
        have c14b0 := decide_eq_true c14
        clear c14
        (first | rw [c14b0] | (simp only [i64_w, i32_w]; rw [c14b0]) | skip)
        by_cases c15 : (rd l0_0 x27_2) < 0
        ·rw [if_pos c15] at H
         have c15b0 := decide_eq_true c15
         clear c15
         have H' := Aside0.mk H
         clear H
         obtain ⟨hcz16_0, hcz16_1, hfz16_0, hfz16_1⟩ := blk2_ BK306
         have p308 : 0 ≤ (x27_2 : Int) := of_decide_eq_true (g1_)
         have q308 : x27_2 < (l0_0.length : Int) := of_decide_eq_true (g1_)
         obtain ⟨ad308, e308, hx308_0⟩ := Kd.at_int HR0_0.out x27_2 p308 q308
         cases e308
         replace hx308_0 := cl_ HB hx308_0
         replace p308 := eq_true p308
         replace q308 := eq_true q308
         go_wp2
         go_meet
         case rel => exact ⟨_, (true), (g3_), H', ⟨g33_⟩, ⟨uf3_ BK306⟩, ⟨impl_isBook.calls_q0⟩⟩
        ·rw [if_neg c15] at H
         have c15b0 := decide_eq_false c15
         clear c15
         by_cases c17 : (rd l0_0 x27_2) > 20
         ·rw [if_pos c17] at H
          have c17b0 := decide_eq_true c17
          clear c17
          have H' := Aside0.mk H
          clear H
          obtain ⟨hcz18_0, hcz18_1, hfz18_0, hfz18_1⟩ := blk2_ BK306
          have p308 : 0 ≤ (x27_2 : Int) := of_decide_eq_true (g1_)
          have q308 : x27_2 < (l0_0.length : Int) := of_decide_eq_true (g1_)
          obtain ⟨ad308, e308, hx308_0⟩ := Kd.at_int HR0_0.out x27_2 p308 q308
          cases e308
          replace hx308_0 := cl_ HB hx308_0
          replace p308 := eq_true p308
          replace q308 := eq_true q308
          have p309 : 0 ≤ (x27_2 : Int) := of_decide_eq_true (g1_)
          have q309 : x27_2 < (l0_0.length : Int) := of_decide_eq_true (g1_)
          obtain ⟨ad309, e309, hx309_0⟩ := Kd.at_int HR0_0.out x27_2 p309 q309
          obtain rfl : ad308 = ad309 := (by injection e309)
          replace hx309_0 := cl_ HB hx309_0
          replace p309 := eq_true p309
          replace q309 := eq_true q309
          go_wp2
          go_meet
          case rel => exact ⟨_, (true), (g3_), H', ⟨g33_⟩, ⟨uf3_ BK306⟩, ⟨impl_isBook.calls_q0⟩⟩
         ·rw [if_neg c17] at H
          have c17b0 := decide_eq_false c17
          clear c17
          by_cases c19 : ((rd_L1 l0_1 x27_2).length : Int) = (l0_0.length : Int)
          ·rw [if_pos c19] at H
           have c19b0 : (((rd_L1 l0_1 x27_2).length : Int) == (l0_0.length : Int)) = true := beq_iff_eq.mpr c19
           have c19b1 : (((rd_L1 l0_1 x27_2).length : Int) != (l0_0.length : Int)) = false := bne_eq_false_iff_eq.mpr c19
           have c19b2 : ((rd_L1 l0_1 x27_2).length == l0_0.length) = true := by first | simpa using c19 | (simp at c19 ⊢; omega)
           clear c19
           obtain ⟨c20, H⟩ := pos_ H
           have c20b0 := decide_eq_true c20
           clear c20
           have H' := Aside0.mk H
           clear H
           obtain ⟨hcz21_0, hcz21_1, hfz21_0, hfz21_1⟩ := blk2_ BK306
           have p308 : 0 ≤ (x27_2 : Int) := of_decide_eq_true (g1_)
           have q308 : x27_2 < (l0_0.length : Int) := of_decide_eq_true (g1_)
           obtain ⟨ad308, e308, hx308_0⟩ := Kd.at_int HR0_0.out x27_2 p308 q308
           cases e308
           replace hx308_0 := cl_ HB hx308_0
           replace p308 := eq_true p308
           replace q308 := eq_true q308
           have p309 : 0 ≤ (x27_2 : Int) := of_decide_eq_true (g1_)
           have q309 : x27_2 < (l0_0.length : Int) := of_decide_eq_true (g1_)
           obtain ⟨ad309, e309, hx309_0⟩ := Kd.at_int HR0_0.out x27_2 p309 q309
           obtain rfl : ad308 = ad309 := (by injection e309)
           replace hx309_0 := cl_ HB hx309_0
           replace p309 := eq_true p309
           replace q309 := eq_true q309
           have p310 : 0 ≤ (x27_2 : Int) := of_decide_eq_true (g1_)
           have q310 : x27_2 < ((rd_L1 l0_1 x27_2).length : Int) := of_decide_eq_true (g1_)
           obtain ⟨ad310, e310, hx310_0⟩ := Kd.at_int HR307_0.out x27_2 p310 q310
           cases e310
           replace hx310_0 := cl_ HB hx310_0
           replace p310 := eq_true p310
           replace q310 := eq_true q310
           go_wp2
           go_meet
           case rel => exact ⟨_, (((rd (rd_L1 l0_1 x27_2) x27_2) != 0)), (g3_), H', ⟨g33_⟩, ⟨uf3_ BK306⟩, ⟨impl_isBook.calls_q0⟩⟩
          ·rw [if_neg c19] at H
           have c19b0 : (((rd_L1 l0_1 x27_2).length : Int) == (l0_0.length : Int)) = false := beq_eq_false_iff_ne.mpr c19
           have c19b1 : (((rd_L1 l0_1 x27_2).length : Int) != (l0_0.length : Int)) = true := bne_iff_ne.mpr c19
           have c19b2 : ((rd_L1 l0_1 x27_2).length == l0_0.length) = false := by first | simpa using c19 | (simp at c19 ⊢; omega)
           have H' := Aside0.mk H
           clear H
           obtain ⟨hcz22_0, hcz22_1, hfz22_0, hfz22_1⟩ := blk2_ BK306
           have p308 : 0 ≤ (x27_2 : Int) := of_decide_eq_true (g1_)
           have q308 : x27_2 < (l0_0.length : Int) := of_decide_eq_true (g1_)
           obtain ⟨ad308, e308, hx308_0⟩ := Kd.at_int HR0_0.out x27_2 p308 q308
           cases e308
           replace hx308_0 := cl_ HB hx308_0
           replace p308 := eq_true p308
           replace q308 := eq_true q308
           have p309 : 0 ≤ (x27_2 : Int) := of_decide_eq_true (g1_)
           have q309 : x27_2 < (l0_0.length : Int) := of_decide_eq_true (g1_)
           obtain ⟨ad309, e309, hx309_0⟩ := Kd.at_int HR0_0.out x27_2 p309 q309
           obtain rfl : ad308 = ad309 := (by injection e309)
           replace hx309_0 := cl_ HB hx309_0
           replace p309 := eq_true p309
           replace q309 := eq_true q309
           go_wp2
           go_meet
           case rel => exact ⟨_, (true), (g3_), H', ⟨g33_⟩, ⟨uf3_ BK306⟩, ⟨impl_isBook.calls_q0⟩⟩
       case rest =>
        clear HC13
        try clear c1
        try clear c2
        try clear p2
        try clear c3
        try clear p3
        try clear q3
        try clear hx3
        try clear c5
        try clear c5b0
        try clear c5b1
        try clear c6
        try clear c6b0
        try clear c6b1
        try clear c8
        try clear c10
        try clear c10b0
        try clear c11
        try clear c11b0
        try clear c12
        try clear c12b0
        try clear c14
        try clear c14b0
        try clear c15
        try clear c15b0
        try clear c17
        try clear c17b0
        try clear c19
        try clear c19b0
        try clear c19b1
        try clear c19b2
        try clear c20
        try clear c20b0
        try clear hcz16_0
        try clear hcz16_1
        try clear hcz18_0
        try clear hcz18_1
        try clear hcz21_0
        try clear hcz21_1
        try clear hcz22_0
        try clear hcz22_1
        try clear hcz4_0
        try clear hcz4_1
        try clear hcz7_0
        try clear hcz7_1
        try clear hcz9_0
        try clear hcz9_1
        try clear hfz16_0
        try clear hfz16_1
        try clear hfz18_0
        try clear hfz18_1
        try clear hfz21_0
        try clear hfz21_1
        try clear hfz22_0
        try clear hfz22_1
        try clear hfz4_0
        try clear hfz4_1
        try clear hfz7_0
        try clear hfz7_1
        try clear hfz9_0
        try clear hfz9_1
        try clear hx307_0
        try clear hx308_0
        try clear hx309_0
        try clear hx310_0
        try clear p2
        try clear p307
        try clear p308
        try clear p309
        try clear p310
        try clear q307
        try clear q308
        try clear q309
        try clear q310
        obtain ⟨kq, x58_12, rfl, HA, HJ12, BK306, HB⟩ := hcut
        cases kq with
        | zero => exact absurd HA.out (by simp [impl_isBook.j2])
        | succ kj12 =>
         have H := HA.out
         clear HA
         simp only [impl_isBook.j2] at H
         by_cases c23 : x58_12 = true
         ·subst c23
          replace H := ifp_ H
          obtain rfl := Option.some.inj H
          go_wp2
          go_ret
          exact ⟨g4_, impl_isBook.calls_q0⟩
         ·replace c23 := Bool.eq_false_iff.mpr c23
          subst c23
          replace H := ifn_ H
          have H' := Aside0.mk H
          clear H
          go_wp2
          go_loopg [61] kj12 (fun kq v61 w' => ∃ (x61_4 : Int), v61 = .int .i64 x61_4 ∧ Aside0 (impl_isBook.l1 kq (l0_0.length : Int) l0_1 (l0_1.length : Int) x27_2 (rd_L1 l0_1 x27_2) ((rd_L1 l0_1 x27_2).length : Int) x61_4 l0_0 l0_1 = some r) ∧ Aside0 (kq ≤ kj12) ∧ Aside0 (w'.heap[gb306]? = some (.cells #[(.slice A0_0 l0_0.length c0_0), (.slice (some ad307) l0_1.length c0_1)] 26 (0, 0))) ∧ Aside0 (Below w.heap.size w w'))
          case atStart => exact ⟨(0), (g3_), H', ⟨Nat.le_refl _⟩, ⟨uf3_ BK306⟩, ⟨impl_isBook.calls_q0⟩⟩
          case round =>
           clear H'
           try clear c1
           try clear c2
           try clear p2
           try clear c3
           try clear p3
           try clear q3
           try clear hx3
           try clear c5
           try clear c5b0
           try clear c5b1
           try clear c6
           try clear c6b0
           try clear c6b1
           try clear c8
           try clear c10
           try clear c10b0
           try clear c11
           try clear c11b0
           try clear c12
           try clear c12b0
           try clear c14
           try clear c14b0
           try clear c15
           try clear c15b0
           try clear c17
           try clear c17b0
           try clear c19
           try clear c19b0
           try clear c19b1
           try clear c19b2
           try clear c20
           try clear c20b0
           try clear c23
           try clear hcz16_0
           try clear hcz16_1
           try clear hcz18_0
           try clear hcz18_1
           try clear hcz21_0
           try clear hcz21_1
           try clear hcz22_0
           try clear hcz22_1
           try clear hcz4_0
           try clear hcz4_1
           try clear hcz7_0
           try clear hcz7_1
           try clear hcz9_0
           try clear hcz9_1
           try clear hfz16_0
           try clear hfz16_1
           try clear hfz18_0
           try clear hfz18_1
           try clear hfz21_0
           try clear hfz21_1
           try clear hfz22_0
           try clear hfz22_1
           try clear hfz4_0
           try clear hfz4_1
           try clear hfz7_0
           try clear hfz7_1
           try clear hfz9_0
           try clear hfz9_1
           try clear hx307_0
           try clear hx308_0
           try clear hx309_0
           try clear hx310_0
           try clear p2
           try clear p3
           try clear p307
           try clear p308
           try clear p309
           try clear p310
           try clear q3
           try clear q307
           try clear q308
           try clear q309
           try clear q310
           obtain ⟨x61_4, rfl, HA, HK4, BK306, HB⟩ := hrel
           cases gk with
           | zero => exact absurd HA.out (by simp [impl_isBook.l1])
           | succ k4 =>
            have H := HA.out
            clear HA
            simp only [impl_isBook.l1] at H
            by_cases c24 : x61_4 < ((rd_L1 l0_1 x27_2).length : Int)
            ·rw [if_pos c24] at H
             have c24b0 := decide_eq_true c24
             clear c24
             obtain ⟨c25, H⟩ := pos_ H
             have c25b0 := decide_eq_true c25
             clear c25
             obtain ⟨c26, H⟩ := pos_ H
             have c26b0 := decide_eq_true c26
             clear c26
             by_cases c27 : (rd (rd_L1 l0_1 x27_2) x61_4) < 0
             ·rw [if_pos c27] at H
              have c27b0 := decide_eq_true c27
              clear c27
              obtain rfl := Option.some.inj H
              have p311 : 0 ≤ (x61_4 : Int) := of_decide_eq_true (g1_)
              have q311 : x61_4 < ((rd_L1 l0_1 x27_2).length : Int) := of_decide_eq_true (g1_)
              obtain ⟨ad311, e311, hx311_0⟩ := Kd.at_int HR307_0.out x61_4 p311 q311
              cases e311
              replace hx311_0 := cl_ HB hx311_0
              replace p311 := eq_true p311
              replace q311 := eq_true q311
              go_wp2
              go_ret
              exact ⟨g4_, impl_isBook.calls_q0⟩
             ·rw [if_neg c27] at H
              have c27b0 := decide_eq_false c27
              clear c27
              by_cases c28 : (rd (rd_L1 l0_1 x27_2) x61_4) > 9
              ·rw [if_pos c28] at H
               have c28b0 := decide_eq_true c28
               clear c28
               obtain rfl := Option.some.inj H
               have p311 : 0 ≤ (x61_4 : Int) := of_decide_eq_true (g1_)
               have q311 : x61_4 < ((rd_L1 l0_1 x27_2).length : Int) := of_decide_eq_true (g1_)
               obtain ⟨ad311, e311, hx311_0⟩ := Kd.at_int HR307_0.out x61_4 p311 q311
               cases e311
               replace hx311_0 := cl_ HB hx311_0
               replace p311 := eq_true p311
               replace q311 := eq_true q311
               go_wp2
               go_ret
               exact ⟨g4_, impl_isBook.calls_q0⟩
              ·rw [if_neg c28] at H
               have c28b0 := decide_eq_false c28
               clear c28
               have H' := Aside0.mk H
               clear H
               have p311 : 0 ≤ (x61_4 : Int) := of_decide_eq_true (g1_)
               have q311 : x61_4 < ((rd_L1 l0_1 x27_2).length : Int) := of_decide_eq_true (g1_)
               obtain ⟨ad311, e311, hx311_0⟩ := Kd.at_int HR307_0.out x61_4 p311 q311
               cases e311
               replace hx311_0 := cl_ HB hx311_0
               replace p311 := eq_true p311
               replace q311 := eq_true q311
               go_wp2
               go_roundg k4
               case measure => have := HJ1.out; have := HK2.out; have := HJ12.out; have := HK4.out; omega
               case rel => exact ⟨(wrap64 (x61_4 + 1)), (g3_), H', ⟨by have := HJ1.out; have := HK2.out; have := HJ12.out; have := HK4.out; omega⟩, ⟨uf3_ BK306⟩, ⟨impl_isBook.calls_q0⟩⟩
            ·rw [if_neg c24] at H
             have c24b0 := decide_eq_false c24
             clear c24
             have H' := Aside0.mk H
             clear H
             go_wp2
             go_roundg k4
             case measure => have := HJ1.out; have := HK2.out; have := HJ12.out; have := HK4.out; omega
             case rel => exact ⟨(wrap64 (x27_2 + 1)), (g3_), H', ⟨by have := HJ1.out; have := HK2.out; have := HJ12.out; have := HK4.out; omega⟩, ⟨uf3_ BK306⟩, ⟨impl_isBook.calls_q0⟩⟩
      ·rw [if_neg c10] at H
       have c10b0 := decide_eq_false c10
       clear c10
       obtain rfl := Option.some.inj H
       go_wp2
       go_ret
       exact ⟨g4_, impl_isBook.calls_q0⟩
def impl_whole.f (a0 : Int) : Option (Int × Int) := some (a0, 1)
theorem impl_whole.calls_q0 {p : Prop} (h : p := by repeat (first | (with_reducible first | exact HB.out | apply below_alloc | apply pw_below_drewN | apply below_drew1 | refine below_set ?_ GE312.out) | exact HB.out)) : p := h
set_option maxHeartbeats 8000000 in
set_option maxRecDepth 100000 in
theorem impl_whole.calls (a0 : Int) (r1 : Int) (r2 : Int) (w : World) (h : impl_whole.f a0 = some (r1, r2)) :
  Calls Try.prog 69 #[.int .i64 a0] w fun e w' => e = .returned (.agg #[.int .i64 r1, .int .i64 r2]) ∧ Below w.heap.size w w' := by
 have hu36 := Try.underlying36
 have HB := Aside0.mk (Below.refl w.heap.size w)
 have H : (some (a0, 1)) = some (r1, r2) := h
 clear h
 simp only [Option.some.injEq, Prod.mk.injEq] at H
 obtain ⟨rfl, rfl⟩ := H
 go_enter Try.func69, Try.ntmps69
 go_wp2_with (first | ((with_reducible refine gate_dst (N := 2) rfl ?_); refine bx_ (N := 2) #[.int .i64 0, .int .i64 0] 36 ?_; intro gb312 hg w2 hbox hb; have BK312 := Aside0.mk (hbox); have GW312 := Aside0.mk ((by rw [hg]; exact (below_size (impl_whole.calls_q0)) : w.heap.size ≤ gb312)); have GE312 := Aside0.mk ((by rw [hg]; exact (below_size (impl_whole.calls_q0)) : w.heap.size ≤ gb312)); replace HB := Aside0.mk (below_step (impl_whole.calls_q0) hb); clear hb hbox hg; obtain ⟨hcz3_0, hcz3_1, hfz3_0, hfz3_1⟩ := blk2_ BK312))
 refine bodyPost_ret (results_cell_row rfl _ _ gb312 36 #[.int .i64 a0, .int .i64 1] (0, 0) _ rfl (by (with_reducible repeat (first | refine blk_drewN ?_ _ | refine blk_drew ?_ | refine blk_alloc ?_ _)); refine blk_put (cs := #[.int .i64 a0, .int .i64 0]) ?_ 1 _ rfl; (with_reducible repeat (first | refine blk_drewN ?_ _ | refine blk_drew ?_ | refine blk_alloc ?_ _)); refine blk_put (cs := #[.int .i64 0, .int .i64 0]) ?_ 0 _ rfl; (with_reducible repeat (first | refine blk_drewN ?_ _ | refine blk_drew ?_ | refine blk_alloc ?_ _)); exact BK312.out) Try.underlying36 rfl (g0_)) rfl ?_
 exact ⟨g4_, impl_whole.calls_q0⟩
mutual
def impl_owes.l0 : Nat → List Int → List (List Int) → Int → Int → Option (List Int)
 | 0, _, _, _, _ => none
 | k + 1, x3, x13, x14, x15 => if x15 < x14 then (if 0 ≤ x15 then (if x15 < (x13.length : Int) then (impl_owes.l1 k x3 x15 x13 x14 x15 (rd_L1 x13 x15) ((rd_L1 x13 x15).length : Int) 0) else (none)) else (none)) else (some x3)
def impl_owes.l1 : Nat → List Int → Int → List (List Int) → Int → Int → List Int → Int → Int → Option (List Int)
 | 0, _, _, _, _, _, _, _, _ => none
 | k + 1, x3, x4, x13, x14, x15, x20, x21, x22 => if x22 < x21 then (if 0 ≤ x22 then (if x22 < (x20.length : Int) then (if 0 ≤ x4 then (if x4 < (x3.length : Int) then (impl_owes.l1 k (x3.set (x4 : Int).toNat (wrap64 ((rd x3 x4) + (rd x20 x22)))) x4 x13 x14 x15 x20 x21 (wrap64 (x22 + 1))) else (none)) else (none)) else (none)) else (none)) else (impl_owes.l0 k x3 x13 x14 (wrap64 (x15 + 1)))
end
def impl_owes.f (k : Nat) (l0_0 : List Int) (l0_1 : List (List Int)) : Option (List Int) := if 0 ≤ (l0_0.length : Int) then (if ((l0_0.length : Int) : Int).toNat ≤ 35184372088832 then (impl_owes.l0 k (List.replicate ((l0_0.length : Int) : Int).toNat 0) l0_1 (l0_1.length : Int) 0) else (none)) else (none)
theorem impl_owes.mq {p : Prop} (h : p := by
 repeat' first
 | (with_reducible exact ih0 _ _ _ _)
 | (with_reducible exact ih1 _ _ _ _ _ _ _ _)
 | (with_reducible exact LeO.refl _)
 | (with_reducible exact LeO.none _)
 | (with_reducible refine LeO.ite ?_ ?_)
 | (with_reducible refine LeO.bind ?_ (fun _ => ?_))
 | exact ih0 _ _ _ _
 | exact ih1 _ _ _ _ _ _ _ _
 | exact LeO.none _
 | refine LeO.ite ?_ ?_
 | refine LeO.bind ?_ (fun _ => ?_)) : p := h
theorem impl_owes.mono_l : ∀ k, (∀ y0 y1 y2 y3, LeO (impl_owes.l0 k y0 y1 y2 y3) (impl_owes.l0 (k + 1) y0 y1 y2 y3)) ∧ (∀ y0 y1 y2 y3 y4 y5 y6 y7, LeO (impl_owes.l1 k y0 y1 y2 y3 y4 y5 y6 y7) (impl_owes.l1 (k + 1) y0 y1 y2 y3 y4 y5 y6 y7))
 | 0 => ⟨fun _ _ _ _ r h => by simp [impl_owes.l0] at h, fun _ _ _ _ _ _ _ _ r h => by simp [impl_owes.l1] at h⟩
 | k + 1 => by
  obtain ⟨ih0, ih1⟩ := impl_owes.mono_l k
  refine ⟨?_, ?_⟩
  ·intro y0 y1 y2 y3
   unfold impl_owes.l0
   exact impl_owes.mq
  ·intro y0 y1 y2 y3 y4 y5 y6 y7
   unfold impl_owes.l1
   exact impl_owes.mq
theorem impl_owes.mono : ∀ a0 a1 k, LeO (impl_owes.f k a0 a1) (impl_owes.f (k + 1) a0 a1) := by
 intro a0 a1 k
 obtain ⟨ih0, ih1⟩ := impl_owes.mono_l k
 unfold impl_owes.f
 exact impl_owes.mq
theorem impl_owes.calls_q0 {p : Prop} (h : p := by repeat (first | (with_reducible first | exact HB.out | apply below_alloc | apply pw_below_drewN | apply below_drew1 | refine below_set ?_ GE328.out) | exact HB.out)) : p := h
set_option maxHeartbeats 8000000 in
set_option maxRecDepth 100000 in
theorem impl_owes.calls (k : Nat) (A0_0 : Option Addr) (c0_0 : Nat) (l0_0 : List Int) (A0_1 : Option Addr) (c0_1 : Nat) (l0_1 : List (List Int)) (r : List Int) (w : World) (hr0_0 : Kd.C (Kd.int .i64) w A0_0 l0_0.length l0_0) (hc0_0 : l0_0.length ≤ c0_0) (hr0_1 : Kd.C (Kd.slice 3 (Kd.int .i64)) w A0_1 l0_1.length l0_1) (hc0_1 : l0_1.length ≤ c0_1) (h : impl_owes.f k l0_0 l0_1 = some r) :
  Calls Try.prog 72 #[.agg #[.slice A0_0 l0_0.length c0_0, .slice A0_1 l0_1.length c0_1]] w fun e w' => ∃ v0_ : Value, e = .returned (v0_) ∧ Kd.R (Kd.int .i64) 3 w' w.heap.size (fun _ => True) v0_ r ∧ Below w.heap.size w w' := by
 have hu26 := Try.underlying26
 have HR0_0 := Aside0.mk hr0_0
 have HC0_0 := Aside0.mk hc0_0
 clear hr0_0 hc0_0
 have HR0_1 := Aside0.mk hr0_1
 have HC0_1 := Aside0.mk hc0_1
 clear hr0_1 hc0_1
 have HB := Aside0.mk (Below.refl w.heap.size w)
 have H : (if 0 ≤ (l0_0.length : Int) then (if ((l0_0.length : Int) : Int).toNat ≤ 35184372088832 then (impl_owes.l0 k (List.replicate ((l0_0.length : Int) : Int).toNat 0) l0_1 (l0_1.length : Int) 0) else (none)) else (none)) = some r := h
 clear h
 obtain ⟨c2, H⟩ := pos_ H
 have c2b0 := eq_true c2
 have c2b1 := decide_eq_true c2
 clear c2
 obtain ⟨c3, H⟩ := pos_ H
 have c3b0 := eq_true c3
 have c3b1 := decide_eq_true c3
 clear c3
 obtain ⟨y329, hy329⟩ : ∃ y_ : List Int, y_ = (List.replicate ((l0_0.length : Int) : Int).toNat 0) := ⟨_, rfl⟩
 replace H : (impl_owes.l0 k y329 l0_1 (l0_1.length : Int) 0) = some r := by first | (rw [hy329]; with_reducible exact H) | (have H2_ := (Option.bind_some _ _).symm.trans H; rw [hy329]; with_reducible exact H2_) | (have H2_ := (Option.bind_some _ _).symm.trans H; with_reducible exact H2_) | with_reducible exact H | (rw [hy329]; exact H) | exact H
 have Ny329 := Aside0.mk hy329
 clear hy329
 have H' := Aside0.mk H
 clear H
 go_enter Try.func72, Try.ntmps72
 go_wp2_with (first | ((with_reducible refine gate_dst (N := 1) rfl ?_); refine bx_ (N := 1) #[.slice A0_0 l0_0.length c0_0, .slice A0_1 l0_1.length c0_1] 26 ?_; intro gb328 hg w4 hbox hb; have BK328 := Aside0.mk (hbox); have GW328 := Aside0.mk ((by rw [hg]; exact (below_size (impl_owes.calls_q0)) : w.heap.size ≤ gb328)); have GE328 := Aside0.mk ((by rw [hg]; exact (below_size (impl_owes.calls_q0)) : w.heap.size ≤ gb328)); replace HB := Aside0.mk (below_step (impl_owes.calls_q0) hb); clear hb hbox hg; obtain ⟨hcz5_0, hcz5_1, hfz5_0, hfz5_1⟩ := blk2_ BK328) | ((with_reducible refine gate_dst (N := 11) rfl ?_); refine Kd.R_make (Kd.int .i64) _ 3 rfl (N := 11) rfl 23 _ _ rfl (l0_0.length : Int) rfl rfl Try.underlying23 (.int .i64 0) 8 info3 rfl (by decide) (by omega) 0 (ok := fun _ => True) (okp := fun _ => True) rfl (fun _ hk => hk) trivial (of_decide_eq_true (g1_)) (Nat.le_trans (Nat.mul_le_mul_right _ (of_decide_eq_true (g1_) : (l0_0.length : Int).toNat ≤ 35184372088832)) (by omega)) (Below.refl _ _) (Nat.le_refl _) ?_; intro v330 w6 ho7 hb hg_ hnew_; clear hg_ hnew_; (first | rw [← Ny329.out] at ho7 | (simp only [Int.reduceToNat] at ho7; rw [← Ny329.out] at ho7)); have HO331 := Aside0.mk (Kd.R_lower ho7 (below_size (impl_owes.calls_q0))); replace BK328 := bb_ BK328 hb; replace HB := Aside0.mk (below_step (impl_owes.calls_q0) hb); clear hb ho7; obtain ⟨hcz8_0, hcz8_1, hfz8_0, hfz8_1⟩ := blk2_ BK328))
 go_loopg [15] k (fun kq v15 w' => ∃ (x3_1 : List Int) (x15_1 : Int), v15 = .int .i64 x15_1 ∧ Aside0 (impl_owes.l0 kq x3_1 l0_1 (l0_1.length : Int) x15_1 = some r) ∧ Aside0 (kq ≤ k) ∧ Aside0 (Kd.R (Kd.int .i64) 3 w' w.heap.size (fun _ => True) v330 x3_1) ∧ Aside0 (w'.heap[gb328]? = some (.cells #[(.slice A0_0 l0_0.length c0_0), (.slice A0_1 l0_1.length c0_1)] 26 (0, 0))) ∧ Aside0 (Below w.heap.size w w'))
 case atStart => exact ⟨(y329), (0), (g3_), H', ⟨Nat.le_refl _⟩, ⟨uf1_ HO331⟩, ⟨uf3_ BK328⟩, ⟨impl_owes.calls_q0⟩⟩
 case round =>
  clear H'
  try clear c2
  try clear c2b0
  try clear c2b1
  try clear p2
  try clear c3
  try clear c3b0
  try clear c3b1
  try clear c7
  try clear hcz5_0
  try clear hcz5_1
  try clear hcz8_0
  try clear hcz8_1
  try clear hfz5_0
  try clear hfz5_1
  try clear hfz8_0
  try clear hfz8_1
  obtain ⟨x3_1, x15_1, rfl, HA, HK1, HO_3, BK328, HB⟩ := hrel
  cases gk with
  | zero => exact absurd HA.out (by simp [impl_owes.l0])
  | succ k1 =>
   have H := HA.out
   clear HA
   simp only [impl_owes.l0] at H
   by_cases c9 : x15_1 < (l0_1.length : Int)
   ·rw [if_pos c9] at H
    have c9b0 := decide_eq_true c9
    clear c9
    obtain ⟨c10, H⟩ := pos_ H
    have c10b0 := decide_eq_true c10
    clear c10
    obtain ⟨c11, H⟩ := pos_ H
    have c11b0 := decide_eq_true c11
    clear c11
    have H' := Aside0.mk H
    clear H
    have p332 : 0 ≤ (x15_1 : Int) := of_decide_eq_true (g1_)
    have q332 : x15_1 < (l0_1.length : Int) := of_decide_eq_true (g1_)
    obtain ⟨ad332, A332_0, c332_0, e332, hx332_0, hl332_0, hi332_0⟩ := at_L1 HR0_1.out x15_1 p332 q332
    cases e332
    replace hx332_0 := cl_ HB hx332_0
    have HR332_0 := Aside0.mk hi332_0
    have HC332_0 := Aside0.mk hl332_0
    clear hi332_0 hl332_0
    replace p332 := eq_true p332
    replace q332 := eq_true q332
    go_wp2
    go_loopg [22] k1 (fun kq v22 w' => ∃ (x3_2 : List Int) (x22_2 : Int), v22 = .int .i64 x22_2 ∧ Aside0 (impl_owes.l1 kq x3_2 x15_1 l0_1 (l0_1.length : Int) x15_1 (rd_L1 l0_1 x15_1) ((rd_L1 l0_1 x15_1).length : Int) x22_2 = some r) ∧ Aside0 (kq ≤ k1) ∧ Aside0 (Kd.R (Kd.int .i64) 3 w' w.heap.size (fun _ => True) v330 x3_2) ∧ Aside0 (w'.heap[gb328]? = some (.cells #[(.slice A0_0 l0_0.length c0_0), (.slice (some ad332) l0_1.length c0_1)] 26 (0, 0))) ∧ Aside0 (Below w.heap.size w w'))
    case atStart => exact ⟨(x3_1), (0), (g3_), H', ⟨Nat.le_refl _⟩, ⟨uf1_ HO_3⟩, ⟨uf3_ BK328⟩, ⟨impl_owes.calls_q0⟩⟩
    case round =>
     clear H'
     try clear c1
     try clear c2
     try clear c2b0
     try clear c2b1
     try clear p2
     try clear c3
     try clear c3b0
     try clear c3b1
     try clear p3
     try clear q3
     try clear hx3
     try clear c7
     try clear c9
     try clear c9b0
     try clear c10
     try clear c10b0
     try clear c11
     try clear c11b0
     try clear hcz5_0
     try clear hcz5_1
     try clear hcz8_0
     try clear hcz8_1
     try clear hfz5_0
     try clear hfz5_1
     try clear hfz8_0
     try clear hfz8_1
     try clear hx332_0
     try clear p2
     try clear p332
     try clear q332
     obtain ⟨x3_2, x22_2, rfl, HA, HK2, HO_3, BK328, HB⟩ := hrel
     cases gk with
     | zero => exact absurd HA.out (by simp [impl_owes.l1])
     | succ k2 =>
      have H := HA.out
      clear HA
      simp only [impl_owes.l1] at H
      by_cases c12 : x22_2 < ((rd_L1 l0_1 x15_1).length : Int)
      ·rw [if_pos c12] at H
       have c12b0 := decide_eq_true c12
       clear c12
       obtain ⟨c13, H⟩ := pos_ H
       have c13b0 := decide_eq_true c13
       clear c13
       obtain ⟨c14, H⟩ := pos_ H
       have c14b0 := decide_eq_true c14
       clear c14
       obtain ⟨c15, H⟩ := pos_ H
       have c15b0 := decide_eq_true c15
       clear c15
       obtain ⟨c16, H⟩ := pos_ H
       have c16b0 := decide_eq_true c16
       clear c16
       obtain ⟨y335, hy335⟩ : ∃ y_ : List Int, y_ = (x3_2.set (x15_1 : Int).toNat (wrap64 ((rd x3_2 x15_1) + (rd (rd_L1 l0_1 x15_1) x22_2)))) := ⟨_, rfl⟩
       replace H : (impl_owes.l1 k2 y335 x15_1 l0_1 (l0_1.length : Int) x15_1 (rd_L1 l0_1 x15_1) ((rd_L1 l0_1 x15_1).length : Int) (wrap64 (x22_2 + 1))) = some r := by first | (rw [hy335]; with_reducible exact H) | (have H2_ := (Option.bind_some _ _).symm.trans H; rw [hy335]; with_reducible exact H2_) | (have H2_ := (Option.bind_some _ _).symm.trans H; with_reducible exact H2_) | with_reducible exact H | (rw [hy335]; exact H) | exact H
       have Ny335 := Aside0.mk hy335
       clear hy335
       have H' := Aside0.mk H
       clear H
       have p333 : 0 ≤ (x22_2 : Int) := of_decide_eq_true (g1_)
       have q333 : x22_2 < ((rd_L1 l0_1 x15_1).length : Int) := of_decide_eq_true (g1_)
       obtain ⟨ad333, e333, hx333_0⟩ := Kd.at_int HR332_0.out x22_2 p333 q333
       cases e333
       replace hx333_0 := cl_ HB hx333_0
       replace p333 := eq_true p333
       replace q333 := eq_true q333
       obtain ⟨Ao18, co18, eo18⟩ := Kd.R_slice HO_3.out
       subst eo18
       have p334 : 0 ≤ (x15_1 : Int) := of_decide_eq_true (g1_)
       have q334 : x15_1 < (x3_2.length : Int) := of_decide_eq_true (g1_)
       obtain ⟨ad334, e334, hx334_0⟩ := Kd.at_int (Kd.R_reads' HO_3.out).2.2 x15_1 p334 q334
       cases e334
       replace p334 := eq_true p334
       replace q334 := eq_true q334
       have p17 : 0 ≤ (x15_1 : Int) := of_decide_eq_true (g1_)
       have q17 : (x15_1 : Int) < ((x3_2.length : Int) : Int) := of_decide_eq_true (g1_)
       obtain ⟨go17, co17, eo17, gb17, gl17, cl17, HG17⟩ := Kd.R_form HO_3.out (by omega)
       (first | cases eo17 | (injection eo17 with ea_ en_ ec_; (first | subst ea_ | (injection ea_ with ea_; subst ea_)); subst ec_; clear en_))
       have GB17 := Aside0.mk gb17
       have GG17 := Aside0.mk HG17
       clear gb17 gl17 HG17
       (first | simp only [add_plain] at hx334_0 | skip)
       obtain ⟨hx17_0, hf17_0⟩ := Kd.R_celln 0 HO_3.out (x15_1 : Int) p17 q17
       replace p17 := eq_true p17
       replace q17 := eq_true q17
       have HP19 := Kd.R_putg HO_3.out (x15_1 : Int) (wrap64 ((rd x3_2 x15_1) + (rd (rd_L1 l0_1 x15_1) x22_2)))
       go_wp2_with (first | ((with_reducible refine gate_store (t := 3) (p := 32) rfl ?_); refine store_event (t := 3) (p := 32) (v := ?vo_w20) (w1 := (wr.setCell ⟨go17, (x15_1 : Int).toNat, none⟩ (.int .i64 (wrap64 ((rd x3_2 x15_1) + (rd (rd_L1 l0_1 x15_1) x22_2)))))) ?hg ?ho ?hn ?hr ?_; (case ho => rfl); (case hg => rfl); (case hn => rfl); (case hr => first | (go_simp; done) | (go_simp; rfl)); intro w20 hw; have hg : wr.grownBy w20 (some go17) := (by rw [hw]; exact HP19.2); have hp_ : Kd.R (Kd.int .i64) 3 w20 w.heap.size (fun _ => True) (.slice (some ⟨go17, 0, none⟩) x3_2.length co18) y335 := (by rw [hw, Ny335.out]; exact HP19.1); clear HP19; replace BK328 := Aside0.mk (blk_grown (g := gb328) (o := .cells #[.slice A0_0 l0_0.length c0_0, .slice (some ad332) l0_1.length c0_1] 26 (0, 0)) (uf3_ BK328) hg (Kd.R_ne HO_3.out BK328.out (by decide))); replace HO_3 := Aside0.mk (hp_); replace HB := Aside0.mk ((by rw [hw]; exact below_set (HB.out) GB17.out : Below w.heap.size w w20)); clear hg hw hp_))
       go_roundg k2
       case measure => have := HK1.out; have := HK2.out; omega
       case rel => exact ⟨(y335), (wrap64 (x22_2 + 1)), (g3_), H', ⟨g46_⟩, ⟨uf1_ HO_3⟩, ⟨uf3_ BK328⟩, ⟨impl_owes.calls_q0⟩⟩
      ·rw [if_neg c12] at H
       have c12b0 := decide_eq_false c12
       clear c12
       have H' := Aside0.mk H
       clear H
       go_wp2
       go_roundg k2
       case measure => have := HK1.out; have := HK2.out; omega
       case rel => exact ⟨(x3_2), (wrap64 (x15_1 + 1)), (g3_), H', ⟨g46_⟩, ⟨uf1_ HO_3⟩, ⟨uf3_ BK328⟩, ⟨impl_owes.calls_q0⟩⟩
   ·rw [if_neg c9] at H
    have c9b0 := decide_eq_false c9
    clear c9
    obtain rfl := Option.some.inj H
    go_wp2
    go_ret
    exact ⟨_, g4_, uf1_ HO_3, impl_owes.calls_q0⟩
def impl_gcd.l0 : Nat → Int → Int → Option (Int)
 | 0, _, _ => none
 | k + 1, x0, x1 => if x1 = 0 then (some (mx x0 (wrap64 (-x0)))) else (impl_gcd.l0 k x1 (Int.tmod x0 x1))
def impl_gcd.f (k : Nat) (a0 : Int) (a1 : Int) : Option (Int) := impl_gcd.l0 k a0 a1
theorem impl_gcd.mq {p : Prop} (h : p := by
 repeat' first
 | (with_reducible exact ih0 _ _)
 | (with_reducible exact LeO.refl _)
 | (with_reducible exact LeO.none _)
 | (with_reducible refine LeO.ite ?_ ?_)
 | (with_reducible refine LeO.bind ?_ (fun _ => ?_))
 | exact ih0 _ _
 | exact LeO.none _
 | refine LeO.ite ?_ ?_
 | refine LeO.bind ?_ (fun _ => ?_)) : p := h
theorem impl_gcd.mono_l : ∀ k, (∀ y0 y1, LeO (impl_gcd.l0 k y0 y1) (impl_gcd.l0 (k + 1) y0 y1))
 | 0 => fun _ _ r h => by simp [impl_gcd.l0] at h
 | k + 1 => by
  have ih0 := impl_gcd.mono_l k
  ·intro y0 y1
   unfold impl_gcd.l0
   exact impl_gcd.mq
theorem impl_gcd.mono : ∀ a0 a1 k, LeO (impl_gcd.f k a0 a1) (impl_gcd.f (k + 1) a0 a1) := by
 intro a0 a1 k
 have ih0 := impl_gcd.mono_l k
 unfold impl_gcd.f
 exact impl_gcd.mq
theorem impl_gcd.calls_q0 {p : Prop} (h : p := by repeat (first | (with_reducible first | exact HB.out | apply below_alloc | apply pw_below_drewN | apply below_drew1) | exact HB.out)) : p := h
set_option maxHeartbeats 8000000 in
set_option maxRecDepth 100000 in
theorem impl_gcd.calls (k : Nat) (a0 : Int) (a1 : Int) (r : Int) (w : World) (h : impl_gcd.f k a0 a1 = some r) :
  Calls Try.prog 91 #[.int .i64 a0, .int .i64 a1] w fun e w' => e = .returned (.int .i64 r) ∧ Below w.heap.size w w' := by
 have HB := Aside0.mk (Below.refl w.heap.size w)
 have H : (impl_gcd.l0 k a0 a1) = some r := h
 clear h
 have H' := Aside0.mk H
 clear H
 go_enter Try.func91, Try.ntmps91
 go_wp2
 repeat (go_quiet (fail); try go_wp2)
 go_loopg [0, 1] k (fun kq v0 v1 w' => ∃ (x0_1 : Int) (x1_1 : Int), v0 = .int .i64 x0_1 ∧ v1 = .int .i64 x1_1 ∧ Aside0 (impl_gcd.l0 kq x0_1 x1_1 = some r) ∧ Aside0 (kq ≤ k) ∧ Aside0 (Below w.heap.size w w'))
 case atStart => exact ⟨(a0), (a1), (g3_), (g3_), H', ⟨Nat.le_refl _⟩, ⟨impl_gcd.calls_q0⟩⟩
 case round =>
  clear H'
  try clear p2
  obtain ⟨x0_1, x1_1, rfl, rfl, HA, HK1, HB⟩ := hrel
  cases gk with
  | zero => exact absurd HA.out (by simp [impl_gcd.l0])
  | succ k1 =>
   have H := HA.out
   clear HA
   simp only [impl_gcd.l0] at H
   by_cases c3 : x1_1 = 0
   ·rw [if_pos c3] at H
    have c3b0 : (x1_1 == 0) = true := beq_iff_eq.mpr c3
    have c3b1 : (x1_1 != 0) = false := bne_eq_false_iff_eq.mpr c3
    clear c3
    obtain ⟨ji4, hji4⟩ : ∃ j_ : Int, (mx x0_1 (wrap64 (-x0_1))) = j_ := ⟨_, rfl⟩
    replace H : (some ji4) = some r := by first | (rw [hji4] at H; exact H) | (simp only [hji4] at H ⊢; exact H)
    have hji4_ : (if x0_1 < (wrap64 (-x0_1)) then (wrap64 (-x0_1)) else x0_1) = ji4 := hji4
    obtain rfl := Option.some.inj H
    go_wp2
    repeat (go_quiet (fail); try go_wp2)
    go_ret
    exact ⟨by first | rfl | (simp [errW_none, errW_some] <;> rfl) | (simp only [← hji4]; first | rfl | (simp [errW_none, errW_some] <;> rfl)) | (simp [*, errW_none, errW_some] <;> rfl), impl_gcd.calls_q0⟩
   ·rw [if_neg c3] at H
    have c3b0 : (x1_1 == 0) = false := beq_eq_false_iff_ne.mpr c3
    have c3b1 : (x1_1 != 0) = true := bne_iff_ne.mpr c3
    have H' := Aside0.mk H
    clear H
    go_wp2
    repeat (go_quiet (fail); try go_wp2)
    go_roundg k1
    case measure => have := HK1.out; omega
    case rel => exact ⟨(x1_1), (Int.tmod x0_1 x1_1), (g3_), (g3_), H', ⟨g12_⟩, ⟨impl_gcd.calls_q0⟩⟩
def impl_isNumber.f (a0 : Int) : Option (Bool) := if a0 ≥ (-1000000000) then (some (decide (a0 ≤ 1000000000))) else (some false)
set_option maxHeartbeats 8000000 in
set_option maxRecDepth 100000 in
theorem impl_isNumber.calls (a0 : Int) (r : Bool) (w : World) (h : impl_isNumber.f a0 = some r) :
  Calls Try.prog 90 #[.int .i64 a0] w fun e w' => e = .returned (.bool r) ∧ Drawn0 w w' := by
 have H : (if a0 ≥ (-1000000000) then (some (decide (a0 ≤ 1000000000))) else (some false)) = some r := h
 clear h
 by_cases c2 : a0 ≥ (-1000000000)
 ·rw [if_pos c2] at H
  have c2b0 := decide_eq_true c2
  clear c2
  obtain rfl := Option.some.inj H
  go_enter Try.func90, Try.ntmps90
  go_wp2
  go_ret
  exact ⟨g3_, g6_⟩
 ·rw [if_neg c2] at H
  have c2b0 := decide_eq_false c2
  clear c2
  obtain rfl := Option.some.inj H
  go_enter Try.func90, Try.ntmps90
  go_wp2
  go_ret
  exact ⟨g3_, g6_⟩
def impl_isFrac.f (k : Nat) (a0_0 : Int) (a0_1 : Int) : Option (Bool) := (impl_isNumber.f a0_0).bind fun t314 => (if t314 = true then (if a0_1 ≥ 1 then (if a0_1 ≤ 1000000000 then ((impl_gcd.f k a0_0 a0_1).bind fun t315 => (some (t315 == 1))) else (some false)) else (some false)) else (some false))
theorem impl_isFrac.mq {p : Prop} (h : p := by
 repeat' first
 | (with_reducible exact impl_gcd.mono _ _ _)
 | (with_reducible exact LeO.refl _)
 | (with_reducible exact LeO.none _)
 | (with_reducible refine LeO.ite ?_ ?_)
 | (with_reducible refine LeO.bind ?_ (fun _ => ?_))
 | exact impl_gcd.mono _ _ _
 | exact LeO.none _
 | refine LeO.ite ?_ ?_
 | refine LeO.bind ?_ (fun _ => ?_)) : p := h
theorem impl_isFrac.mono : ∀ a0 a1 k, LeO (impl_isFrac.f k a0 a1) (impl_isFrac.f (k + 1) a0 a1) := by
 intro a0 a1 k
 unfold impl_isFrac.f
 exact impl_isFrac.mq
theorem impl_isFrac.calls_q0 {p : Prop} (h : p := by repeat (first | (with_reducible first | exact HB.out | apply below_alloc | apply pw_below_drewN | apply below_drew1 | refine below_set ?_ GE313.out) | exact HB.out)) : p := h
set_option maxHeartbeats 8000000 in
set_option maxRecDepth 100000 in
theorem impl_isFrac.calls (k : Nat) (a0_0 : Int) (a0_1 : Int) (r : Bool) (w : World) (h : impl_isFrac.f k a0_0 a0_1 = some r) :
  Calls Try.prog 73 #[.agg #[.int .i64 a0_0, .int .i64 a0_1]] w fun e w' => e = .returned (.bool r) ∧ Below w.heap.size w w' := by
 have hu36 := Try.underlying36
 have HB := Aside0.mk (Below.refl w.heap.size w)
 have H : ((impl_isNumber.f a0_0).bind fun t314 => (if t314 = true then (if a0_1 ≥ 1 then (if a0_1 ≤ 1000000000 then ((impl_gcd.f k a0_0 a0_1).bind fun t315 => (some (t315 == 1))) else (some false)) else (some false)) else (some false))) = some r := h
 clear h
 obtain ⟨t314, A2, H⟩ := bind_ H
 by_cases c3 : t314 = true
 ·subst c3
  replace H := ifp_ H
  by_cases c4 : a0_1 ≥ 1
  ·rw [if_pos c4] at H
   have c4b0 := decide_eq_true c4
   clear c4
   by_cases c5 : a0_1 ≤ 1000000000
   ·rw [if_pos c5] at H
    have c5b0 := decide_eq_true c5
    clear c5
    obtain ⟨t315, A6, H⟩ := bind_ H
    obtain rfl := Option.some.inj H
    go_enter Try.func73, Try.ntmps73
    go_wp2_with (first | ((with_reducible refine gate_dst (N := 1) rfl ?_); refine bx_ (N := 1) #[.int .i64 a0_0, .int .i64 a0_1] 36 ?_; intro gb313 hg w7 hbox hb; have BK313 := Aside0.mk (hbox); have GW313 := Aside0.mk ((g32_ : w.heap.size ≤ gb313)); have GE313 := Aside0.mk ((g32_ : w.heap.size ≤ gb313)); replace HB := Aside0.mk (below_step (impl_isFrac.calls_q0) hb); clear hb hbox hg; obtain ⟨hcz8_0, hcz8_1, hfz8_0, hfz8_1⟩ := blk2_ BK313) | ((with_reducible refine gate_callee (f := 90) rfl ?_); refine goesL_ (some 5) rfl rfl Try.func90 k_ rfl #[.int .i64 a0_0] rfl (g2_) ?_; (with_reducible refine (impl_isNumber.calls a0_0 true _ A2.out).mono ?_); rintro e w' ⟨rfl, ⟨nd, rfl⟩⟩; refine ⟨_, rfl, ?_⟩) | (go_at_call 91; (with_reducible refine (impl_gcd.calls k a0_0 a0_1 t315 _ A6.out).mono ?_); rintro e w9 ⟨rfl, hb⟩; replace BK313 := bb_ BK313 hb; replace HB := Aside0.mk (below_step (impl_isFrac.calls_q0) hb); (try clear hb); (try clear hk hi)))
    go_ret
    exact ⟨g4_, impl_isFrac.calls_q0⟩
   ·rw [if_neg c5] at H
    have c5b0 := decide_eq_false c5
    clear c5
    obtain rfl := Option.some.inj H
    go_enter Try.func73, Try.ntmps73
    go_wp2_with (first | ((with_reducible refine gate_dst (N := 1) rfl ?_); refine bx_ (N := 1) #[.int .i64 a0_0, .int .i64 a0_1] 36 ?_; intro gb313 hg w10 hbox hb; have BK313 := Aside0.mk (hbox); have GW313 := Aside0.mk ((g32_ : w.heap.size ≤ gb313)); have GE313 := Aside0.mk ((g32_ : w.heap.size ≤ gb313)); replace HB := Aside0.mk (below_step (impl_isFrac.calls_q0) hb); clear hb hbox hg; obtain ⟨hcz11_0, hcz11_1, hfz11_0, hfz11_1⟩ := blk2_ BK313) | ((with_reducible refine gate_callee (f := 90) rfl ?_); refine goesL_ (some 5) rfl rfl Try.func90 k_ rfl #[.int .i64 a0_0] rfl (g2_) ?_; (with_reducible refine (impl_isNumber.calls a0_0 true _ A2.out).mono ?_); rintro e w' ⟨rfl, ⟨nd, rfl⟩⟩; refine ⟨_, rfl, ?_⟩))
    go_ret
    exact ⟨g4_, impl_isFrac.calls_q0⟩
  ·rw [if_neg c4] at H
   have c4b0 := decide_eq_false c4
   clear c4
   obtain rfl := Option.some.inj H
   go_enter Try.func73, Try.ntmps73
   go_wp2_with (first | ((with_reducible refine gate_dst (N := 1) rfl ?_); refine bx_ (N := 1) #[.int .i64 a0_0, .int .i64 a0_1] 36 ?_; intro gb313 hg w12 hbox hb; have BK313 := Aside0.mk (hbox); have GW313 := Aside0.mk ((g32_ : w.heap.size ≤ gb313)); have GE313 := Aside0.mk ((g32_ : w.heap.size ≤ gb313)); replace HB := Aside0.mk (below_step (impl_isFrac.calls_q0) hb); clear hb hbox hg; obtain ⟨hcz13_0, hcz13_1, hfz13_0, hfz13_1⟩ := blk2_ BK313) | ((with_reducible refine gate_callee (f := 90) rfl ?_); refine goesL_ (some 5) rfl rfl Try.func90 k_ rfl #[.int .i64 a0_0] rfl (g2_) ?_; (with_reducible refine (impl_isNumber.calls a0_0 true _ A2.out).mono ?_); rintro e w' ⟨rfl, ⟨nd, rfl⟩⟩; refine ⟨_, rfl, ?_⟩))
   go_ret
   exact ⟨g4_, impl_isFrac.calls_q0⟩
 ·replace c3 := Bool.eq_false_iff.mpr c3
  subst c3
  replace H := ifn_ H
  obtain rfl := Option.some.inj H
  go_enter Try.func73, Try.ntmps73
  go_wp2_with (first | ((with_reducible refine gate_dst (N := 1) rfl ?_); refine bx_ (N := 1) #[.int .i64 a0_0, .int .i64 a0_1] 36 ?_; intro gb313 hg w14 hbox hb; have BK313 := Aside0.mk (hbox); have GW313 := Aside0.mk ((g32_ : w.heap.size ≤ gb313)); have GE313 := Aside0.mk ((g32_ : w.heap.size ≤ gb313)); replace HB := Aside0.mk (below_step (impl_isFrac.calls_q0) hb); clear hb hbox hg; obtain ⟨hcz15_0, hcz15_1, hfz15_0, hfz15_1⟩ := blk2_ BK313) | ((with_reducible refine gate_callee (f := 90) rfl ?_); refine goesL_ (some 5) rfl rfl Try.func90 k_ rfl #[.int .i64 a0_0] rfl (g2_) ?_; (with_reducible refine (impl_isNumber.calls a0_0 false _ A2.out).mono ?_); rintro e w' ⟨rfl, ⟨nd, rfl⟩⟩; refine ⟨_, rfl, ?_⟩))
  go_ret
  exact ⟨g4_, impl_isFrac.calls_q0⟩
end Go.Proofs.Ytcjmpjiclnfjmaa.PU
