/- FnExactFromBelow: for every input the law holds, and each argument reads as it read before. No condition. -/
import Derived.Test.YtcjmpjiclnfjmaaZFnExactFromBelow1
import Derived.Below
import Derived.Deep.Draws
import Derived.Deep.AppendLies
import Derived.Maps.AppendAt
import Derived.OwnWalk
import Derived.Laws.BytesArg
import Derived.Laws.MakeOwn
import Derived.Laws.OwnMore
import Derived.Deep.OwnRows
import Derived.Tactics
import Derived.Lib.ConvBytes
import Derived.Laws.Slices
import Derived.WalkKit
import Derived.KernelRfl
import Derived.RowKit3
import Derived.Deep.LoopGhost
import Derived.Deep.QuietTactic
import Derived.BigQuiet
import Derived.WideLaws
import Derived.Deep.DeepCutAuto
import Derived.Deep.CutBlock
import Derived.Deep.RegionHeld3
import Derived.Laws.Rows
import Derived.Lib.AppendStr
import Derived.ArgAppend
import Derived.Laws.IdiomCopy
import Derived.RowKit
import Derived.OrdersHeld
import Derived.Laws.BitsLemmas
import Derived.Laws.StructEq
import Derived.Test.YtcjmpjiclnfjmaaProg
namespace Go.Proofs.Ytcjmpjiclnfjmaa.PU
open Go.RowKit Go.Proofs.YtcjmpjiclnfjmaaW.PrintWords Go.Proofs.YtcjmpjiclnfjmaaW.PrintLast Go.Proofs.YtcjmpjiclnfjmaaW.PrintMore Go.Proofs.Ytcjmpjiclnfjmaa.Qd
attribute [local go_sem] max2_int min2_int max_two min_two max_three min_three max_four min_four
set_option linter.unusedVariables false
set_option linter.unusedSimpArgs false
def laws_eqBook.f (k : Nat) (l0_0 : List Int) (l0_1 : List (List Int)) (l1_0 : List Int) (l1_1 : List (List Int)) : Option (Bool) := (laws_eqIntS.f k l0_0 l1_0).bind fun t140 => (if t140 = true then ((laws_eqIntSS.f k l0_1 l1_1).bind fun t141 => (if t141 = true then (some true) else (some false))) else (some false))
theorem laws_eqBook.mq {p : Prop} (h : p := by
 repeat' first
 | (with_reducible exact laws_eqIntS.mono _ _ _)
 | (with_reducible exact laws_eqIntSS.mono _ _ _)
 | (with_reducible exact LeO.refl _)
 | (with_reducible exact LeO.none _)
 | (with_reducible refine LeO.ite ?_ ?_)
 | (with_reducible refine LeO.bind ?_ (fun _ => ?_))
 | exact laws_eqIntS.mono _ _ _
 | exact laws_eqIntSS.mono _ _ _
 | exact LeO.none _
 | refine LeO.ite ?_ ?_
 | refine LeO.bind ?_ (fun _ => ?_)) : p := h
theorem laws_eqBook.mono : ∀ a0 a1 a2 a3 k, LeO (laws_eqBook.f k a0 a1 a2 a3) (laws_eqBook.f (k + 1) a0 a1 a2 a3) := by
 intro a0 a1 a2 a3 k
 unfold laws_eqBook.f
 exact laws_eqBook.mq
theorem laws_eqBook.calls_q0 {p : Prop} (h : p := by repeat (first | (with_reducible first | exact HB.out | apply below_alloc | apply pw_below_drewN | apply below_drew1 | refine below_set ?_ GE138.out | refine below_set ?_ GE139.out) | exact HB.out)) : p := h
set_option maxHeartbeats 8000000 in
set_option maxRecDepth 100000 in
theorem laws_eqBook.calls (k : Nat) (A0_0 : Option Addr) (c0_0 : Nat) (l0_0 : List Int) (A0_1 : Option Addr) (c0_1 : Nat) (l0_1 : List (List Int)) (A1_0 : Option Addr) (c1_0 : Nat) (l1_0 : List Int) (A1_1 : Option Addr) (c1_1 : Nat) (l1_1 : List (List Int)) (r : Bool) (w : World) (hr0_0 : Kd.C (Kd.int .i64) w A0_0 l0_0.length l0_0) (hc0_0 : l0_0.length ≤ c0_0) (hr0_1 : Kd.C (Kd.slice 3 (Kd.int .i64)) w A0_1 l0_1.length l0_1) (hc0_1 : l0_1.length ≤ c0_1) (hr1_0 : Kd.C (Kd.int .i64) w A1_0 l1_0.length l1_0) (hc1_0 : l1_0.length ≤ c1_0) (hr1_1 : Kd.C (Kd.slice 3 (Kd.int .i64)) w A1_1 l1_1.length l1_1) (hc1_1 : l1_1.length ≤ c1_1) (h : laws_eqBook.f k l0_0 l0_1 l1_0 l1_1 = some r) :
  Calls Try.prog 25 #[.agg #[.slice A0_0 l0_0.length c0_0, .slice A0_1 l0_1.length c0_1], .agg #[.slice A1_0 l1_0.length c1_0, .slice A1_1 l1_1.length c1_1]] w fun e w' => e = .returned (.bool r) ∧ Below w.heap.size w w' := by
 have hu26 := Try.underlying26
 have HR0_0 := Aside0.mk hr0_0
 have HC0_0 := Aside0.mk hc0_0
 clear hr0_0 hc0_0
 have HR0_1 := Aside0.mk hr0_1
 have HC0_1 := Aside0.mk hc0_1
 clear hr0_1 hc0_1
 have HR1_0 := Aside0.mk hr1_0
 have HC1_0 := Aside0.mk hc1_0
 clear hr1_0 hc1_0
 have HR1_1 := Aside0.mk hr1_1
 have HC1_1 := Aside0.mk hc1_1
 clear hr1_1 hc1_1
 have HB := Aside0.mk (Below.refl w.heap.size w)
 have H : ((laws_eqIntS.f k l0_0 l1_0).bind fun t140 => (if t140 = true then ((laws_eqIntSS.f k l0_1 l1_1).bind fun t141 => (if t141 = true then (some true) else (some false))) else (some false))) = some r := h
 clear h
 obtain ⟨t140, A3, H⟩ := bind_ H
 by_cases c4 : t140 = true
 ·subst c4
  replace H := ifp_ H
  obtain ⟨t141, A5, H⟩ := bind_ H
  by_cases c6 : t141 = true
  ·subst c6
   replace H := ifp_ H
   obtain rfl := Option.some.inj H
   go_enter Try.func25, Try.ntmps25
   go_wp2_with (first | ((with_reducible refine gate_dst (N := 2) rfl ?_); refine bx_ (N := 2) #[.slice A0_0 l0_0.length c0_0, .slice A0_1 l0_1.length c0_1] 26 ?_; intro gb138 hg w7 hbox hb; have BK138 := Aside0.mk (hbox); have GW138 := Aside0.mk ((g26_ : w.heap.size ≤ gb138)); have GE138 := Aside0.mk ((g26_ : w.heap.size ≤ gb138)); replace HB := Aside0.mk (below_step (laws_eqBook.calls_q0) hb); clear hb hbox hg) | ((with_reducible refine gate_dst (N := 3) rfl ?_); refine bx_ (N := 3) #[.slice A1_0 l1_0.length c1_0, .slice A1_1 l1_1.length c1_1] 26 ?_; intro gb139 hg w8 hbox hb; have BK139 := Aside0.mk (hbox); have GW139 := Aside0.mk ((g26_ : w.heap.size ≤ gb139)); have GE139 := Aside0.mk ((g26_ : w.heap.size ≤ gb139)); replace HB := Aside0.mk (below_step (laws_eqBook.calls_q0) hb); have NB138_139 := Aside0.mk ((g74_ : gb138 ≠ gb139)); have NB139_138 := Aside0.mk ((g75_ : gb139 ≠ gb138)); replace BK138 := bb_ BK138 hb; clear hb hbox hg; have hnb9 := NB138_139.out; have hnc9 := NB139_138.out; obtain ⟨hcz10_0, hcz10_1, hfz10_0, hfz10_1⟩ := blk2_ BK138; obtain ⟨hcz11_0, hcz11_1, hfz11_0, hfz11_1⟩ := blk2_ BK139) | ((with_reducible refine gate_callee (f := 36) rfl ?_); refine goesL_ (some 9) rfl rfl Try.func36 k_ rfl #[.slice A0_0 l0_0.length c0_0, .slice A1_0 l1_0.length c1_0] rfl (g2_) ?_; (with_reducible refine (laws_eqIntS.calls k _ _ l0_0 _ _ l1_0 true _ ?side1 ?side2 ?side3 ?side4 A3.out).mono ?_); (case side1 => exact uf0_ HR0_0); (case side2 => exact HC0_0.out); (case side3 => exact uf0_ HR1_0); (case side4 => exact HC1_0.out); rintro e w' ⟨rfl, ⟨nd, rfl⟩⟩; refine ⟨_, rfl, ?_⟩) | ((with_reducible refine gate_callee (f := 62) rfl ?_); refine goesL_ (some 15) rfl rfl Try.func62 k_ rfl #[.slice A0_1 l0_1.length c0_1, .slice A1_1 l1_1.length c1_1] rfl (g2_) ?_; (with_reducible refine (laws_eqIntSS.calls k _ _ l0_1 _ _ l1_1 true _ ?side1 ?side2 ?side3 ?side4 A5.out).mono ?_); (case side1 => repeat (first | exact (Kd.C_below HR0_1.out (laws_eqBook.calls_q0)) | (with_reducible refine Kd.C_alloc ?_ _) | (with_reducible refine Kd.C_drewN ?_ _) | (with_reducible refine Kd.C_drew ?_))); (case side2 => exact HC0_1.out); (case side3 => repeat (first | exact (Kd.C_below HR1_1.out (laws_eqBook.calls_q0)) | (with_reducible refine Kd.C_alloc ?_ _) | (with_reducible refine Kd.C_drewN ?_ _) | (with_reducible refine Kd.C_drew ?_))); (case side4 => exact HC1_1.out); rintro e w' ⟨rfl, ⟨nd, rfl⟩⟩; refine ⟨_, rfl, ?_⟩))
   go_ret
   exact ⟨g4_, laws_eqBook.calls_q0⟩
  ·replace c6 := Bool.eq_false_iff.mpr c6
   subst c6
   replace H := ifn_ H
   obtain rfl := Option.some.inj H
   go_enter Try.func25, Try.ntmps25
   go_wp2_with (first | ((with_reducible refine gate_dst (N := 2) rfl ?_); refine bx_ (N := 2) #[.slice A0_0 l0_0.length c0_0, .slice A0_1 l0_1.length c0_1] 26 ?_; intro gb138 hg w12 hbox hb; have BK138 := Aside0.mk (hbox); have GW138 := Aside0.mk ((g26_ : w.heap.size ≤ gb138)); have GE138 := Aside0.mk ((g26_ : w.heap.size ≤ gb138)); replace HB := Aside0.mk (below_step (laws_eqBook.calls_q0) hb); clear hb hbox hg) | ((with_reducible refine gate_dst (N := 3) rfl ?_); refine bx_ (N := 3) #[.slice A1_0 l1_0.length c1_0, .slice A1_1 l1_1.length c1_1] 26 ?_; intro gb139 hg w13 hbox hb; have BK139 := Aside0.mk (hbox); have GW139 := Aside0.mk ((g26_ : w.heap.size ≤ gb139)); have GE139 := Aside0.mk ((g26_ : w.heap.size ≤ gb139)); replace HB := Aside0.mk (below_step (laws_eqBook.calls_q0) hb); have NB138_139 := Aside0.mk ((g74_ : gb138 ≠ gb139)); have NB139_138 := Aside0.mk ((g75_ : gb139 ≠ gb138)); replace BK138 := bb_ BK138 hb; clear hb hbox hg; have hnb14 := NB138_139.out; have hnc14 := NB139_138.out; obtain ⟨hcz15_0, hcz15_1, hfz15_0, hfz15_1⟩ := blk2_ BK138; obtain ⟨hcz16_0, hcz16_1, hfz16_0, hfz16_1⟩ := blk2_ BK139) | ((with_reducible refine gate_callee (f := 36) rfl ?_); refine goesL_ (some 9) rfl rfl Try.func36 k_ rfl #[.slice A0_0 l0_0.length c0_0, .slice A1_0 l1_0.length c1_0] rfl (g2_) ?_; (with_reducible refine (laws_eqIntS.calls k _ _ l0_0 _ _ l1_0 true _ ?side1 ?side2 ?side3 ?side4 A3.out).mono ?_); (case side1 => exact uf0_ HR0_0); (case side2 => exact HC0_0.out); (case side3 => exact uf0_ HR1_0); (case side4 => exact HC1_0.out); rintro e w' ⟨rfl, ⟨nd, rfl⟩⟩; refine ⟨_, rfl, ?_⟩) | ((with_reducible refine gate_callee (f := 62) rfl ?_); refine goesL_ (some 15) rfl rfl Try.func62 k_ rfl #[.slice A0_1 l0_1.length c0_1, .slice A1_1 l1_1.length c1_1] rfl (g2_) ?_; (with_reducible refine (laws_eqIntSS.calls k _ _ l0_1 _ _ l1_1 false _ ?side1 ?side2 ?side3 ?side4 A5.out).mono ?_); (case side1 => repeat (first | exact (Kd.C_below HR0_1.out (laws_eqBook.calls_q0)) | (with_reducible refine Kd.C_alloc ?_ _) | (with_reducible refine Kd.C_drewN ?_ _) | (with_reducible refine Kd.C_drew ?_))); (case side2 => exact HC0_1.out); (case side3 => repeat (first | exact (Kd.C_below HR1_1.out (laws_eqBook.calls_q0)) | (with_reducible refine Kd.C_alloc ?_ _) | (with_reducible refine Kd.C_drewN ?_ _) | (with_reducible refine Kd.C_drew ?_))); (case side4 => exact HC1_1.out); rintro e w' ⟨rfl, ⟨nd, rfl⟩⟩; refine ⟨_, rfl, ?_⟩))
   go_ret
   exact ⟨g4_, laws_eqBook.calls_q0⟩
 ·replace c4 := Bool.eq_false_iff.mpr c4
  subst c4
  replace H := ifn_ H
  obtain rfl := Option.some.inj H
  go_enter Try.func25, Try.ntmps25
  go_wp2_with (first | ((with_reducible refine gate_dst (N := 2) rfl ?_); refine bx_ (N := 2) #[.slice A0_0 l0_0.length c0_0, .slice A0_1 l0_1.length c0_1] 26 ?_; intro gb138 hg w17 hbox hb; have BK138 := Aside0.mk (hbox); have GW138 := Aside0.mk ((g26_ : w.heap.size ≤ gb138)); have GE138 := Aside0.mk ((g26_ : w.heap.size ≤ gb138)); replace HB := Aside0.mk (below_step (laws_eqBook.calls_q0) hb); clear hb hbox hg) | ((with_reducible refine gate_dst (N := 3) rfl ?_); refine bx_ (N := 3) #[.slice A1_0 l1_0.length c1_0, .slice A1_1 l1_1.length c1_1] 26 ?_; intro gb139 hg w18 hbox hb; have BK139 := Aside0.mk (hbox); have GW139 := Aside0.mk ((g26_ : w.heap.size ≤ gb139)); have GE139 := Aside0.mk ((g26_ : w.heap.size ≤ gb139)); replace HB := Aside0.mk (below_step (laws_eqBook.calls_q0) hb); have NB138_139 := Aside0.mk ((g74_ : gb138 ≠ gb139)); have NB139_138 := Aside0.mk ((g75_ : gb139 ≠ gb138)); replace BK138 := bb_ BK138 hb; clear hb hbox hg; have hnb19 := NB138_139.out; have hnc19 := NB139_138.out; obtain ⟨hcz20_0, hcz20_1, hfz20_0, hfz20_1⟩ := blk2_ BK138; obtain ⟨hcz21_0, hcz21_1, hfz21_0, hfz21_1⟩ := blk2_ BK139) | ((with_reducible refine gate_callee (f := 36) rfl ?_); refine goesL_ (some 9) rfl rfl Try.func36 k_ rfl #[.slice A0_0 l0_0.length c0_0, .slice A1_0 l1_0.length c1_0] rfl (g2_) ?_; (with_reducible refine (laws_eqIntS.calls k _ _ l0_0 _ _ l1_0 false _ ?side1 ?side2 ?side3 ?side4 A3.out).mono ?_); (case side1 => exact uf0_ HR0_0); (case side2 => exact HC0_0.out); (case side3 => exact uf0_ HR1_0); (case side4 => exact HC1_0.out); rintro e w' ⟨rfl, ⟨nd, rfl⟩⟩; refine ⟨_, rfl, ?_⟩))
  go_ret
  exact ⟨g4_, laws_eqBook.calls_q0⟩
def laws_markIntS.l0 : Nat → List Int → Int → Int → Option (Int × List Int)
 | 0, _, _, _ => none
 | k + 1, x0, x1, x5 => if x5 < (x0.length : Int) then (if 0 ≤ x5 then (laws_markIntS.l0 k (x0.set (x5 : Int).toNat x1) (wrap64 (x1 + 1)) (wrap64 (x5 + 1))) else (none)) else (some (x1, x0))
def laws_markIntS.f (k : Nat) (l0 : List Int) (a1 : Int) : Option (Int × List Int) := laws_markIntS.l0 k l0 a1 0
theorem laws_markIntS.mq {p : Prop} (h : p := by
 repeat' first
 | (with_reducible exact ih0 _ _ _)
 | (with_reducible exact LeO.refl _)
 | (with_reducible exact LeO.none _)
 | (with_reducible refine LeO.ite ?_ ?_)
 | (with_reducible refine LeO.bind ?_ (fun _ => ?_))
 | exact ih0 _ _ _
 | exact LeO.none _
 | refine LeO.ite ?_ ?_
 | refine LeO.bind ?_ (fun _ => ?_)) : p := h
theorem laws_markIntS.mono_l : ∀ k, (∀ y0 y1 y2, LeO (laws_markIntS.l0 k y0 y1 y2) (laws_markIntS.l0 (k + 1) y0 y1 y2))
 | 0 => fun _ _ _ r h => by simp [laws_markIntS.l0] at h
 | k + 1 => by
  have ih0 := laws_markIntS.mono_l k
  ·intro y0 y1 y2
   unfold laws_markIntS.l0
   exact laws_markIntS.mq
theorem laws_markIntS.mono : ∀ a0 a1 k, LeO (laws_markIntS.f k a0 a1) (laws_markIntS.f (k + 1) a0 a1) := by
 intro a0 a1 k
 have ih0 := laws_markIntS.mono_l k
 unfold laws_markIntS.f
 exact laws_markIntS.mq
theorem laws_markIntS.calls_q0 {p : Prop} (h : p := by repeat (first | (with_reducible first | exact HK.out | apply Kept.alloc | apply Kept.drewN | apply Kept.drew) | exact HK.out)) : p := h
theorem laws_markIntS.calls_q1 {p : Prop} (h : p := by repeat (first | (with_reducible first | exact HB.out | apply below_alloc | apply pw_below_drewN | apply below_drew1) | exact HB.out)) : p := h
set_option maxHeartbeats 8000000 in
set_option maxRecDepth 100000 in
theorem laws_markIntS.calls (k : Nat) (P0_ : Nat → Prop) (u9000_ : Value) (l0 : List Int) (a1 : Int) (r1 : Int) (r2 : List Int) (w0 w : World) (hB : Below w0.heap.size w0 w) (ho0 : Kd.R (Kd.int .i64) 3 w w0.heap.size P0_ u9000_ l0) (h : laws_markIntS.f k l0 a1 = some (r1, r2)) :
  Calls Try.prog 37 #[u9000_, .int .i64 a1] w fun e w' => e = .returned (.int .i64 r1) ∧ Kd.R (Kd.int .i64) 3 w' w0.heap.size (fun k_ => (P0_ k_ ∨ w.heap.size ≤ k_)) u9000_ r2 ∧ Below w0.heap.size w0 w' ∧ Kept w w' (fun k_ => P0_ k_) := by
 have HO0 := Aside0.mk (show Kd.R (Kd.int .i64) 3 w w0.heap.size (fun k_ => (P0_ k_ ∨ w.heap.size ≤ k_)) u9000_ l0 from Kd.R_mono ho0 (fun k_ hk => (.inl hk)))
 have HK := Aside0.mk (Kept.refl w (fun k_ => P0_ k_))
 have HW0 := Aside0.mk hB.size
 have HB := Aside0.mk hB
 clear hB
 have H : (laws_markIntS.l0 k l0 a1 0) = some (r1, r2) := h
 clear h
 have H' := Aside0.mk H
 clear H
 go_enter Try.func37, Try.ntmps37
 go_wp2
 go_loopg [1, 5] k (fun kq v1 v5 w' => ∃ (x0_1 : List Int) (x1_1 : Int) (x5_1 : Int), v1 = .int .i64 x1_1 ∧ v5 = .int .i64 x5_1 ∧ Aside0 (laws_markIntS.l0 kq x0_1 x1_1 x5_1 = some (r1, r2)) ∧ Aside0 (kq ≤ k) ∧ Aside0 (Kd.R (Kd.int .i64) 3 w' w0.heap.size (fun k_ => (P0_ k_ ∨ w.heap.size ≤ k_)) u9000_ x0_1) ∧ Aside0 (Kept w w' (fun k_ => P0_ k_)) ∧ Aside0 (Below w0.heap.size w0 w'))
 case atStart => exact ⟨(l0), (a1), (0), (g3_), (g3_), H', ⟨Nat.le_refl _⟩, ⟨uf1_ HO0⟩, ⟨laws_markIntS.calls_q0⟩, ⟨laws_markIntS.calls_q1⟩⟩
 case round =>
  clear H'
  try clear p2
  obtain ⟨x0_1, x1_1, x5_1, rfl, rfl, HA, HK1, HO_0, HK, HB⟩ := hrel
  cases gk with
  | zero => exact absurd HA.out (by simp [laws_markIntS.l0])
  | succ k1 =>
   have H := HA.out
   clear HA
   simp only [laws_markIntS.l0] at H
   by_cases c3 : x5_1 < (x0_1.length : Int)
   ·rw [if_pos c3] at H
    have c3b0 := decide_eq_true c3
    clear c3
    obtain ⟨c4, H⟩ := pos_ H
    have c4b0 := decide_eq_true c4
    clear c4
    obtain ⟨y142, hy142⟩ : ∃ y_ : List Int, y_ = (x0_1.set (x5_1 : Int).toNat x1_1) := ⟨_, rfl⟩
    replace H : (laws_markIntS.l0 k1 y142 (wrap64 (x1_1 + 1)) (wrap64 (x5_1 + 1))) = some (r1, r2) := by first | (rw [hy142]; with_reducible exact H) | (have H2_ := (Option.bind_some _ _).symm.trans H; rw [hy142]; with_reducible exact H2_) | (have H2_ := (Option.bind_some _ _).symm.trans H; with_reducible exact H2_) | with_reducible exact H | (rw [hy142]; exact H) | exact H
    have Ny142 := Aside0.mk hy142
    clear hy142
    have H' := Aside0.mk H
    clear H
    obtain ⟨Ao6, co6, eo6⟩ := Kd.R_slice HO_0.out
    subst eo6
    have p5 : 0 ≤ (x5_1 : Int) := of_decide_eq_true (g1_)
    have q5 : (x5_1 : Int) < ((x0_1.length : Int) : Int) := of_decide_eq_true (g1_)
    obtain ⟨go5, co5, eo5, gb5, gl5, cl5, HG5⟩ := Kd.R_form HO_0.out (by omega)
    (first | cases eo5 | (injection eo5 with ea_ en_ ec_; (first | subst ea_ | (injection ea_ with ea_; subst ea_)); subst ec_; clear en_))
    have GB5 := Aside0.mk gb5
    have GG5 := Aside0.mk HG5
    clear gb5 gl5 HG5
    have HMgo5 := Aside0.mk (show (P0_ go5 ∨ w.heap.size ≤ go5) from (HO_0.out.1 _ rfl))
    obtain ⟨hx5_0, hf5_0⟩ := Kd.R_celln 0 HO_0.out (x5_1 : Int) p5 q5
    replace p5 := eq_true p5
    replace q5 := eq_true q5
    have HP7 := Kd.R_putg HO_0.out (x5_1 : Int) x1_1
    go_wp2_with (first | ((with_reducible refine gate_store (t := 3) (p := 15) rfl ?_); refine store_event (t := 3) (p := 15) (v := ?vo_w8) (w1 := (wr.setCell ⟨go5, (x5_1 : Int).toNat, none⟩ (.int .i64 x1_1))) ?hg ?ho ?hn ?hr ?_; (case ho => rfl); (case hg => rfl); (case hn => rfl); (case hr => first | (go_simp; done) | (go_simp; rfl)); intro w8 hw; have hg : wr.grownBy w8 (some go5) := (by rw [hw]; exact HP7.2); have hp_ : Kd.R (Kd.int .i64) 3 w8 w0.heap.size (fun k_ => (P0_ k_ ∨ w.heap.size ≤ k_)) (.slice (some ⟨go5, 0, none⟩) x0_1.length co6) y142 := (by rw [hw, Ny142.out]; exact HP7.1); clear HP7; replace HB := Aside0.mk ((by rw [hw]; exact below_set (HB.out) GB5.out : Below w0.heap.size w0 w8)); replace HK := Aside0.mk (Kept.of_grown (S := (fun k_ => P0_ k_)) hg (laws_markIntS.calls_q0) (fun k_ e_ => (HO_0.out.1 k_ e_))); replace HO_0 := Aside0.mk (hp_); clear hg hw hp_))
    go_roundg k1
    case measure => have := HK1.out; omega
    case rel => exact ⟨(y142), (wrap64 (x1_1 + 1)), (wrap64 (x5_1 + 1)), (g3_), (g3_), H', ⟨g12_⟩, ⟨uf1_ HO_0⟩, ⟨laws_markIntS.calls_q0⟩, ⟨laws_markIntS.calls_q1⟩⟩
   ·rw [if_neg c3] at H
    have c3b0 := decide_eq_false c3
    clear c3
    simp only [Option.some.injEq, Prod.mk.injEq] at H
    obtain ⟨rfl, rfl⟩ := H
    obtain ⟨Ao9, co9, eo9⟩ := Kd.R_slice HO_0.out
    subst eo9
    go_wp2
    go_ret
    exact ⟨g4_, uf1_ HO_0, laws_markIntS.calls_q1, laws_markIntS.calls_q0⟩
def laws_markIntSS.l0 : Nat → List (List Int) → Int → Int → Option Int
 | 0, _, _, _ => none
 | k + 1, xs, x1, x5 => if x5 < (xs.length : Int) then (if 0 ≤ x5 then ((laws_markIntS.f k (xs.getD x5.toNat []) x1).bind fun bt => laws_markIntSS.l0 k xs bt.1 (wrap64 (x5 + 1))) else (none)) else (some x1)
def laws_markIntSS.f (k : Nat) (l0 : List (List Int)) (a1 : Int) : Option Int := laws_markIntSS.l0 k l0 a1 0
theorem laws_markIntSS.mq {p : Prop} (h : p := by
 repeat' first
 | (with_reducible exact ih0 _ _ _)
 | (with_reducible exact laws_markIntS.mono _ _ _)
 | (with_reducible exact LeO.refl _)
 | (with_reducible exact LeO.none _)
 | (with_reducible refine LeO.ite ?_ ?_)
 | (with_reducible refine LeO.bind ?_ (fun _ => ?_))
 | exact ih0 _ _ _
 | exact laws_markIntS.mono _ _ _) : p := h
theorem laws_markIntSS.mono_l : ∀ k, (∀ y0 y1 y2, LeO (laws_markIntSS.l0 k y0 y1 y2) (laws_markIntSS.l0 (k + 1) y0 y1 y2))
 | 0 => fun _ _ _ r h => by simp [laws_markIntSS.l0] at h
 | k + 1 => by
  have ih0 := laws_markIntSS.mono_l k
  intro y0 y1 y2
  unfold laws_markIntSS.l0
  exact laws_markIntSS.mq
theorem laws_markIntSS.mono : ∀ a0 a1 k, LeO (laws_markIntSS.f k a0 a1) (laws_markIntSS.f (k + 1) a0 a1) := by
 intro a0 a1 k
 unfold laws_markIntSS.f
 exact laws_markIntSS.mono_l k _ _ _
theorem laws_markIntSS.calls_q0 {p : Prop} (h : p := by repeat (first | (with_reducible first | exact HK.out | apply Kept.alloc | apply Kept.drewN | apply Kept.drew) | exact HK.out)) : p := h
theorem laws_markIntSS.calls_q1 {p : Prop} (h : p := by repeat (first | (with_reducible first | exact HB.out | apply below_alloc | apply pw_below_drewN | apply below_drew1) | exact HB.out)) : p := h
set_option maxHeartbeats 8000000 in
set_option maxRecDepth 100000 in
theorem laws_markIntSS.calls (k : Nat) (u : Value) (l0 : List (List Int)) (a1 r1 : Int) (w0 w : World) (ok : Nat → Prop) (hB : Below w0.heap.size w0 w) (ho0 : Kd.S (Kd.slice 3 (Kd.int .i64)) 23 w w0.heap.size ok u l0) (h : laws_markIntSS.f k l0 a1 = some r1) :
  Calls Try.prog 63 #[u, .int .i64 a1] w fun e w' => e = .returned (.int .i64 r1) ∧ Below w0.heap.size w0 w' ∧ Kept w w' (fun k_ => ∃ cells, w.heap[k_]? = some (.cells cells 3 (0, 0))) := by
 obtain ⟨A, c, rfl, hlc, hC⟩ := Kd.S_reads ho0
 obtain ⟨fo, hR⟩ := ho0
 have hn : l0.length ≤ 9223372036854775807 := hC.2.1
 have HR := Aside0.mk hR
 have HN := Aside0.mk hn
 have HK := Aside0.mk (Kept.refl w (fun k_ => fo k_ < 0 ∧ ∃ cells, w.heap[k_]? = some (.cells cells 3 (0, 0))))
 have HB := Aside0.mk hB
 have H' := Aside0.mk (show laws_markIntSS.l0 k l0 a1 0 = some r1 from h)
 have hzl : l0.zipIdx.length = l0.length := by simp
 have HZ := Aside0.mk hzl
 clear hC hR hB h hzl hn
 generalize hN : l0.length = n at *
 have HNN := Aside0.mk hN
 clear hN
 go_enter Try.func63, Try.ntmps63
 go_wp2
 go_loopg [1, 5] k (fun kq v1 v5 w' => ∃ (x1_1 : Int) (i : Nat), v1 = .int .i64 x1_1 ∧ v5 = .int .i64 i ∧ i ≤ n ∧ Aside0 (laws_markIntSS.l0 kq l0 x1_1 i = some r1) ∧ Aside0 (kq ≤ k) ∧ Aside0 (Kept w w' (fun k_ => fo k_ < i ∧ ∃ cells, w.heap[k_]? = some (.cells cells 3 (0, 0)))) ∧ Aside0 (Below w0.heap.size w0 w'))
 case atStart => exact ⟨a1, 0, rfl, rfl, Nat.zero_le _, H', ⟨Nat.le_refl _⟩, ⟨laws_markIntSS.calls_q0⟩, ⟨laws_markIntSS.calls_q1⟩⟩
 case round =>
  clear H' HK HB
  obtain ⟨x1_1, i, rfl, rfl, hi, HA, HK1, HK, HB⟩ := hrel
  cases gk with
  | zero => exact absurd HA.out (by simp [laws_markIntSS.l0])
  | succ k1 =>
   have H := HA.out
   clear HA
   simp only [laws_markIntSS.l0] at H
   rw [HNN.out, Int.toNat_natCast] at H
   by_cases hlt : i < n
   ·rw [if_pos (by omega), if_pos (by omega)] at H
    obtain ⟨⟨t1, t2⟩, A0, H⟩ := Option.bind_eq_some_iff.mp H
    have AT := Aside0.mk A0
    clear A0
    have H' := Aside0.mk H
    clear H
    obtain ⟨g, cap, he, _, _, cells, hcell⟩ := Kd.R_form HR.out (by rw [HZ.out]; omega)
    obtain ⟨rfl, rfl⟩ : A = some ⟨g, 0, none⟩ ∧ c = cap := by
     injection he with h1 h2 h3
     exact ⟨h1, h3⟩
    clear he
    obtain ⟨cs, _, hM, hcc⟩ := Kd.R_getA HR.out ([], 0) (i : Int) (by omega) (by omega)
    have hz : l0.zipIdx.getD (i : Int).toNat ([], 0) = (l0.getD i [], i) := by
     rw [Int.toNat_natCast, List.getD_eq_getElem?_getD, List.getD_eq_getElem?_getD, List.getElem?_zipIdx, List.getElem?_eq_getElem (by rw [HNN.out]; exact hlt)]
     simp
    rw [hz] at hM
    obtain ⟨v, rfl, hv⟩ := hM
    have hcv : w.cell? ((⟨g, 0, none⟩ : Addr).add (i * 1 + 0)) = some v := hcc 0 v rfl
    rw [add_at, Nat.mul_one, Nat.add_zero, Nat.zero_add] at hcv
    have hnt : ¬ (fo g < i ∧ ∃ cells, w.heap[g]? = some (.cells cells 3 (0, 0))) := by
     rintro ⟨_, cells', hc'⟩
     rw [hcell] at hc'
     simp at hc'
    have hx1 : wr.cell? ⟨g, i, none⟩ = some v := cell_kept hcv HK.out hnt
    clear hcv hcc hz hnt hcell
    have hrow := Kd.R_step (w1 := wr) (Kd.R_mono (ok' := fun k_ => fo k_ = i ∧ ∃ cells, w.heap[k_]? = some (.cells cells 3 (0, 0))) (Kd.R_bound hv) (fun k_ hk => ⟨hk.1.2, by
     obtain ⟨_, _, _, q, hq, cells, hc⟩ := hk
     have : q = 3 := by simpa [Kd.int, Kd.scalar] using hq
     subst this
     exact ⟨cells, hc⟩⟩)) (fun k_ hk hl => HK.out.2 k_ hl (fun hs => by have := hs.1; have := hk.1; omega))
    have HRow := Aside0.mk hrow
    clear hrow hv
    have p5 : (0 ≤ (i : Int)) = True := eq_true (by omega)
    have q5 : ((i : Int) < (n : Int)) = True := eq_true (by omega)
    have c3b0 : decide ((i : Int) < (n : Int)) = true := decide_eq_true (by omega)
    go_wp2_with (first | ((with_reducible refine gate_callee (f := 37) rfl ?_); refine goesL_ (some 17) rfl rfl Try.func37 k_ rfl #[v, .int .i64 x1_1] rfl (g76_) ?_; (with_reducible refine (laws_markIntS.calls k1 (fun k_ => fo k_ = i ∧ ∃ cells, w.heap[k_]? = some (.cells cells 3 (0, 0))) v (l0.getD i []) x1_1 t1 t2 w0 _ ?side1 ?side2 AT.out).mono ?_); (case side1 => exact laws_markIntSS.calls_q1); (case side2 => (with_reducible repeat (first | apply Kd.R_alloc | apply Kd.R_drewN | apply Kd.R_drew)); exact HRow.out); rintro e w8 ⟨rfl, _, hb, hkp⟩; refine ⟨_, rfl, ?_⟩; replace HK := Aside0.mk (Kept.then_ (S := fun k_ => fo k_ < i + 1 ∧ ∃ cells, w.heap[k_]? = some (.cells cells 3 (0, 0))) (Kept.mono (S := fun k_ => fo k_ < i ∧ ∃ cells, w.heap[k_]? = some (.cells cells 3 (0, 0))) (laws_markIntSS.calls_q0) (fun k_ hs => ⟨by have := hs.1; omega, hs.2⟩)) hkp (fun k_ hs => .inl ⟨by have := hs.1; omega, hs.2⟩)); replace HB := Aside0.mk hb; clear hb hkp))
    go_roundg k1
    case measure => have := HK1.out; omega
    case rel =>
     have hs : wrap64 ((i : Int) + 1) = ((i + 1 : Nat) : Int) := by have := HN.out; unfold wrap64; omega
     exact ⟨t1, i + 1, rfl, by rw [← hs], by omega, ⟨by have := H'.out; rw [hs] at this; exact this⟩, ⟨g12_⟩, ⟨laws_markIntSS.calls_q0⟩, ⟨laws_markIntSS.calls_q1⟩⟩
   ·rw [if_neg (by omega)] at H
    have c3b0 : decide ((i : Int) < (n : Int)) = false := decide_eq_false (by omega)
    obtain rfl := Option.some.inj H
    go_wp2
    go_ret
    exact ⟨rfl, laws_markIntSS.calls_q1, Kept.mono (S := fun k_ => fo k_ < i ∧ ∃ cells, w.heap[k_]? = some (.cells cells 3 (0, 0))) (laws_markIntSS.calls_q0) (fun k_ hs => hs.2)⟩
theorem keptT_then {w w3 w4 : World} {O : Nat → Prop} (h : Kept w w3 O) (htp : ∀ k_, O k_ → ∃ cells, w.heap[k_]? = some (.cells cells 3 (0, 0))) (hk : Kept w3 w4 (fun k_ => ∃ cells, w3.heap[k_]? = some (.cells cells 3 (0, 0)))) : Kept w w4 (fun k_ => ∃ cells, w.heap[k_]? = some (.cells cells 3 (0, 0))) :=
 Kept.then_ (Kept.mono h htp) hk (fun k_ hs => by
  by_cases ho : O k_
  ·exact .inl (htp k_ ho)
  ·by_cases hl : k_ < w.heap.size
   ·rw [h.2 k_ hl ho] at hs; exact .inl hs
   ·exact .inr (by omega))
theorem keptT_R {α : Type} {d : Kd α} {e : Nat} {w w1 : World} {base : Nat} {ok : Nat → Prop} {v : Value} {xs : List α} (h : d.R e w base ok v xs) (hk : Kept w w1 (fun k_ => ∃ cells, w.heap[k_]? = some (.cells cells 3 (0, 0)))) (ht : ∀ q ∈ e :: d.E, q ≠ 3) : d.R e w1 base ok v xs :=
 Kd.R_mono (Kd.R_step (Kd.R_bound h) (fun k_ hk2 hl => hk.2 k_ hl (by
  rintro ⟨cells, hc⟩
  obtain ⟨_, _, _, q, hq, cells', hc'⟩ := hk2
  rw [hc] at hc'
  injection hc' with h1
  injection h1 with _ h2
  exact ht q hq h2.symm))) (fun _ h_ => h_.1)
theorem keptT_blk {w w1 : World} {g : Nat} {cs : Array Value} {t : TypeId} (hb : w.heap[g]? = some (.cells cs t (0, 0))) (hk : Kept w w1 (fun k_ => ∃ cells, w.heap[k_]? = some (.cells cells 3 (0, 0)))) (ht : t ≠ 3) : w1.heap[g]? = some (.cells cs t (0, 0)) :=
 blk_kept hb hk (by
  rintro ⟨cells, hc⟩
  rw [hb] at hc
  injection hc with h1
  injection h1 with _ h2
  exact ht h2)
def laws_markBook.f (k : Nat) (l0 : List Int) (l1 : List (List Int)) (a1 : Int) : Option Int := (laws_markIntS.f k l0 a1).bind fun bt => laws_markIntSS.f k l1 bt.1
theorem laws_markBook.mono : ∀ a0 a1 a2 k, LeO (laws_markBook.f k a0 a1 a2) (laws_markBook.f (k + 1) a0 a1 a2) := by
 intro a0 a1 a2 k
 unfold laws_markBook.f
 exact LeO.bind (laws_markIntS.mono _ _ _) (fun _ => laws_markIntSS.mono _ _ _)
theorem laws_markBook.calls_q0 {p : Prop} (h : p := by repeat (first | (with_reducible first | exact HB.out | apply below_alloc | apply pw_below_drewN | apply below_drew1) | exact HB.out)) : p := h
theorem laws_markBook.calls_q1 {p : Prop} (h : p := by repeat (first | (with_reducible first | exact HK.out | apply Kept.alloc | apply Kept.drewN | apply Kept.drew) | exact HK.out)) : p := h
set_option maxHeartbeats 8000000 in
set_option maxRecDepth 100000 in
theorem laws_markBook.calls (k : Nat) (P0_ : Nat → Prop) (u0 : Value) (l0 : List Int) (P1_ : Nat → Prop) (u1 : Value) (l1 : List (List Int)) (a1 r1 : Int) (w0 w : World) (hB : Below w0.heap.size w0 w) (ho0 : Kd.R (Kd.int .i64) 3 w w0.heap.size (fun k_ => some k_ = u0.ownBlock) u0 l0) (ho1 : Kd.S (Kd.slice 3 (Kd.int .i64)) 23 w w0.heap.size (fun k_ => some k_ ≠ u0.ownBlock) u1 l1) (h : laws_markBook.f k l0 l1 a1 = some r1) :
  Calls Try.prog 26 #[.agg #[u0, u1], .int .i64 a1] w fun e w' => e = .returned (.int .i64 r1) ∧ Below w0.heap.size w0 w' ∧ Kept w w' (fun k_ => ∃ cells, w.heap[k_]? = some (.cells cells 3 (0, 0))) := by
 obtain ⟨A0, c0, rfl, _⟩ := Kd.R_reads ho0
 obtain ⟨A1, c1, rfl, _⟩ := Kd.S_reads ho1
 obtain ⟨⟨t1, t2⟩, h1, h2⟩ := Option.bind_eq_some_iff.mp (show (laws_markIntS.f k l0 a1).bind (fun bt => laws_markIntSS.f k l1 bt.1) = some r1 from h)
 have HT1 := Aside0.mk h1
 have HT2 := Aside0.mk h2
 have htp : ∀ k_, some k_ = (Value.slice A0 l0.length c0).ownBlock → ∃ cells, w.heap[k_]? = some (.cells cells 3 (0, 0)) := fun k_ e_ => by
  obtain ⟨_, inner, ho, _⟩ := ho0
  exact own_typed ho k_ e_.symm
 have HTP := Aside0.mk htp
 have HO0 := Aside0.mk ho0
 have HO1 := Aside0.mk ho1
 have HB := Aside0.mk hB
 have HK := Aside0.mk (Kept.refl w (fun k_ => some k_ = (Value.slice A0 l0.length c0).ownBlock))
 clear h h1 h2 ho0 ho1 hB htp
 have hu := Try.underlying26
 go_enter Try.func26, Try.ntmps26
 go_wp2_with (first | ((with_reducible refine gate_dst (N := 2) rfl ?_); (try (refine gate_guard (by rfl) ?_; dsimp only)); refine bx_ (N := 2) #[.slice A0 l0.length c0, .slice A1 l1.length c1] 26 ?_; intro gb hg w2 hbox hb; have n0_ := Aside0.mk (Kd.R_below HO0.out hb); have n1_ := Aside0.mk (Kd.S_below HO1.out hb); have n2_ := Aside0.mk (Kept.then_ HK.out (Kept.of_below hb (fun _ => False)) (fun _ h_ => h_.elim)); have n3_ := Aside0.mk (below_step HB.out hb); have BK := Aside0.mk hbox; clear HO0 HO1 HK HB hb hbox hg; have HO0 := n0_; have HO1 := n1_; have HK := n2_; have HB := n3_; clear n0_ n1_ n2_ n3_; have hcz_0 : w2.cell? ⟨gb, 0, none⟩ = some (.slice A0 l0.length c0) := (blk_cell BK.out 0).trans rfl; have hcz_1 : w2.cell? ⟨gb, 1, none⟩ = some (.slice A1 l1.length c1) := (blk_cell BK.out 1).trans rfl) | ((with_reducible refine gate_callee (f := 37) rfl ?_); refine goesL_ (some 8) rfl rfl Try.func37 k_ rfl #[.slice A0 l0.length c0, .int .i64 a1] rfl (g76_) ?_; (with_reducible refine (laws_markIntS.calls k (fun k_ => some k_ = (Value.slice A0 l0.length c0).ownBlock) (.slice A0 l0.length c0) l0 a1 t1 t2 w0 _ ?side1 ?side2 HT1.out).mono ?_); (case side1 => exact laws_markBook.calls_q0); (case side2 => (with_reducible repeat (first | apply Kd.R_alloc | apply Kd.R_drewN | apply Kd.R_drew)); exact HO0.out); rintro e w3 ⟨rfl, _, hb, hkp⟩; refine ⟨_, rfl, ?_⟩; replace HO1 := Aside0.mk (Kd.S_kept (ok := fun k_ => some k_ ≠ (Value.slice A0 l0.length c0).ownBlock) (uf2_ HO1) hkp (fun k_ h_ e_ => h_ e_)); replace HK := Aside0.mk (Kept.then_ (laws_markBook.calls_q1) hkp (fun _ h_ => .inl h_)); replace HB := Aside0.mk hb; replace BK := Aside0.mk (blk_kept (g := gb) (uf3_ BK) hkp (fun hs_ => (Kd.R_ne HO0.out BK.out (by decide)) hs_)); clear HO0 hb hkp; have hcy_0 : w3.cell? ⟨gb, 0, none⟩ = some (.slice A0 l0.length c0) := (blk_cell BK.out 0).trans rfl; have hcy_1 : w3.cell? ⟨gb, 1, none⟩ = some (.slice A1 l1.length c1) := (blk_cell BK.out 1).trans rfl) | ((with_reducible refine gate_callee (f := 63) rfl ?_); refine goesL_ (some 12) rfl rfl Try.func63 k_ rfl #[.slice A1 l1.length c1, .int .i64 t1] rfl (g76_) ?_; (with_reducible refine (laws_markIntSS.calls k (.slice A1 l1.length c1) l1 t1 r1 w0 _ (fun k_ => some k_ ≠ (Value.slice A0 l0.length c0).ownBlock) ?side1 ?side2 HT2.out).mono ?_); (case side1 => exact laws_markBook.calls_q0); (case side2 => (with_reducible repeat (first | apply Kd.S_alloc | apply Kd.S_drewN | apply Kd.S_drew)); exact HO1.out); rintro e w4 ⟨rfl, hb, hkp⟩; refine ⟨_, rfl, ?_⟩; have n1_ : Aside0 (Kept w w4 (fun k_ => ∃ cells, w.heap[k_]? = some (.cells cells 3 (0, 0)))) := ⟨keptT_then (laws_markBook.calls_q1) HTP.out hkp⟩; have n2_ := Aside0.mk hb; clear HO1 HK HB BK hb hkp; have HK := n1_; have HB := n2_; clear n1_ n2_))
 go_ret
 exact ⟨rfl, laws_markBook.calls_q0, laws_markBook.calls_q1⟩
def laws_markFracS.l0 : Nat → List (S36) → Int → Int → Option (Int × (List (S36)))
 | 0, _, _, _ => none
 | k + 1, x0, x1, x5 => if x5 < (x0.length : Int) then (if 0 ≤ x5 then ((some (x0.set (x5 : Int).toNat (⟨x1, (rd_T36 x0 x5).f1⟩ : S36) : List (S36))).bind fun y144 => (laws_markFracS.l0 k (y144.set (x5 : Int).toNat (⟨(rd_T36 y144 x5).f0, wrap64 (x1 + 1)⟩ : S36)) (wrap64 ((wrap64 (x1 + 1)) + 1)) (wrap64 (x5 + 1)))) else (none)) else (some (x1, x0))
def laws_markFracS.f (k : Nat) (l0 : List (S36)) (a1 : Int) : Option (Int × (List (S36))) := laws_markFracS.l0 k l0 a1 0
theorem laws_markFracS.mq {p : Prop} (h : p := by
 repeat' first
 | (with_reducible exact ih0 _ _ _)
 | (with_reducible exact LeO.refl _)
 | (with_reducible exact LeO.none _)
 | (with_reducible refine LeO.ite ?_ ?_)
 | (with_reducible refine LeO.bind ?_ (fun _ => ?_))
 | exact ih0 _ _ _
 | exact LeO.none _
 | refine LeO.ite ?_ ?_
 | refine LeO.bind ?_ (fun _ => ?_)) : p := h
theorem laws_markFracS.mono_l : ∀ k, (∀ y0 y1 y2, LeO (laws_markFracS.l0 k y0 y1 y2) (laws_markFracS.l0 (k + 1) y0 y1 y2))
 | 0 => fun _ _ _ r h => by simp [laws_markFracS.l0] at h
 | k + 1 => by
  have ih0 := laws_markFracS.mono_l k
  ·intro y0 y1 y2
   unfold laws_markFracS.l0
   exact laws_markFracS.mq
theorem laws_markFracS.mono : ∀ a0 a1 k, LeO (laws_markFracS.f k a0 a1) (laws_markFracS.f (k + 1) a0 a1) := by
 intro a0 a1 k
 have ih0 := laws_markFracS.mono_l k
 unfold laws_markFracS.f
 exact laws_markFracS.mq
theorem laws_markFracS.calls_q0 {p : Prop} (h : p := by repeat (first | (with_reducible first | exact HK.out | apply Kept.alloc | apply Kept.drewN | apply Kept.drew) | exact HK.out)) : p := h
theorem laws_markFracS.calls_q1 {p : Prop} (h : p := by repeat (first | (with_reducible first | exact HB.out | apply below_alloc | apply pw_below_drewN | apply below_drew1) | exact HB.out)) : p := h
set_option maxHeartbeats 8000000 in
set_option maxRecDepth 100000 in
theorem laws_markFracS.calls (k : Nat) (P0_ : Nat → Prop) (u9000_ : Value) (l0 : List (S36)) (a1 : Int) (r1 : Int) (r2 : List (S36)) (w0 w : World) (hB : Below w0.heap.size w0 w) (ho0 : Kd.R k36 36 w w0.heap.size P0_ u9000_ l0) (h : laws_markFracS.f k l0 a1 = some (r1, r2)) :
  Calls Try.prog 27 #[u9000_, .int .i64 a1] w fun e w' => e = .returned (.int .i64 r1) ∧ Kd.R k36 36 w' w0.heap.size (fun k_ => (P0_ k_ ∨ w.heap.size ≤ k_)) u9000_ r2 ∧ Below w0.heap.size w0 w' ∧ Kept w w' (fun k_ => P0_ k_) := by
 have HO0 := Aside0.mk (show Kd.R k36 36 w w0.heap.size (fun k_ => (P0_ k_ ∨ w.heap.size ≤ k_)) u9000_ l0 from Kd.R_mono ho0 (fun k_ hk => (.inl hk)))
 have HK := Aside0.mk (Kept.refl w (fun k_ => P0_ k_))
 have HW0 := Aside0.mk hB.size
 have HB := Aside0.mk hB
 clear hB
 have H : (laws_markFracS.l0 k l0 a1 0) = some (r1, r2) := h
 clear h
 have H' := Aside0.mk H
 clear H
 go_enter Try.func27, Try.ntmps27
 go_wp2
 go_loopg [1, 5] k (fun kq v1 v5 w' => ∃ (x0_1 : List (S36)) (x1_1 : Int) (x5_1 : Int), v1 = .int .i64 x1_1 ∧ v5 = .int .i64 x5_1 ∧ Aside0 (laws_markFracS.l0 kq x0_1 x1_1 x5_1 = some (r1, r2)) ∧ Aside0 (kq ≤ k) ∧ Aside0 (Kd.R k36 36 w' w0.heap.size (fun k_ => (P0_ k_ ∨ w.heap.size ≤ k_)) u9000_ x0_1) ∧ Aside0 (Kept w w' (fun k_ => P0_ k_)) ∧ Aside0 (Below w0.heap.size w0 w'))
 case atStart => exact ⟨(l0), (a1), (0), (g3_), (g3_), H', ⟨Nat.le_refl _⟩, ⟨uf1_ HO0⟩, ⟨laws_markFracS.calls_q0⟩, ⟨laws_markFracS.calls_q1⟩⟩
 case round =>
  clear H'
  try clear c2
  try clear p2
  obtain ⟨x0_1, x1_1, x5_1, rfl, rfl, HA, HK1, HO_0, HK, HB⟩ := hrel
  cases gk with
  | zero => exact absurd HA.out (by simp [laws_markFracS.l0])
  | succ k1 =>
   have H := HA.out
   clear HA
   simp only [laws_markFracS.l0] at H
   by_cases c3 : x5_1 < (x0_1.length : Int)
   ·rw [if_pos c3] at H
    have c3b0 := decide_eq_true c3
    clear c3
    obtain ⟨c4, H⟩ := pos_ H
    have c4b0 := decide_eq_true c4
    clear c4
    obtain ⟨y144, hy144⟩ : ∃ y_ : List (S36), y_ = (x0_1.set (x5_1 : Int).toNat (⟨x1_1, (rd_T36 x0_1 x5_1).f1⟩ : S36)) := ⟨_, rfl⟩
    replace H : (laws_markFracS.l0 k1 (y144.set (x5_1 : Int).toNat (⟨(rd_T36 y144 x5_1).f0, wrap64 (x1_1 + 1)⟩ : S36)) (wrap64 ((wrap64 (x1_1 + 1)) + 1)) (wrap64 (x5_1 + 1))) = some (r1, r2) := by first | (rw [hy144]; with_reducible exact H) | (have H2_ := (Option.bind_some _ _).symm.trans H; rw [hy144]; with_reducible exact H2_) | (have H2_ := (Option.bind_some _ _).symm.trans H; with_reducible exact H2_) | with_reducible exact H | (rw [hy144]; exact H) | exact H
    have Ny144 := Aside0.mk hy144
    clear hy144
    obtain ⟨y145, hy145⟩ : ∃ y_ : List (S36), y_ = (y144.set (x5_1 : Int).toNat (⟨(rd_T36 y144 x5_1).f0, wrap64 (x1_1 + 1)⟩ : S36)) := ⟨_, rfl⟩
    replace H : (laws_markFracS.l0 k1 y145 (wrap64 ((wrap64 (x1_1 + 1)) + 1)) (wrap64 (x5_1 + 1))) = some (r1, r2) := by first | (rw [hy145]; with_reducible exact H) | (have H2_ := (Option.bind_some _ _).symm.trans H; rw [hy145]; with_reducible exact H2_) | (have H2_ := (Option.bind_some _ _).symm.trans H; with_reducible exact H2_) | with_reducible exact H | (rw [hy145]; exact H) | exact H
    have Ny145 := Aside0.mk hy145
    clear hy145
    have H' := Aside0.mk H
    clear H
    obtain ⟨Ao7, co7, eo7⟩ := Kd.R_slice HO_0.out
    subst eo7
    have p5 : 0 ≤ (x5_1 : Int) := of_decide_eq_true (g1_)
    have q5 : (x5_1 : Int) < ((x0_1.length : Int) : Int) := of_decide_eq_true (g1_)
    obtain ⟨go5, co5, eo5, gb5, gl5, cl5, HG5⟩ := Kd.R_form HO_0.out (by omega)
    (first | cases eo5 | (injection eo5 with ea_ en_ ec_; (first | subst ea_ | (injection ea_ with ea_; subst ea_)); subst ec_; clear en_))
    have GB5 := Aside0.mk gb5
    have GG5 := Aside0.mk HG5
    clear gb5 gl5 HG5
    have HMgo5 := Aside0.mk (show (P0_ go5 ∨ w.heap.size ≤ go5) from (HO_0.out.1 _ rfl))
    obtain ⟨ce5, hcl5, hM5, hcc5, hfr5⟩ := Kd.R_elem HO_0.out z36 (x5_1 : Int) p5 q5
    obtain rfl := k36_openM hM5
    have hx5_0 : wr.cell? ⟨go5, (x5_1 : Int).toNat * 2, none⟩ = some (.int .i64 ((rd_T36 x0_1 x5_1).f0)) := hcc5 0 _ rfl
    have hx5_1 : wr.cell? ⟨go5, (x5_1 : Int).toNat * 2 + 1, none⟩ = some (.int .i64 ((rd_T36 x0_1 x5_1).f1)) := hcc5 1 _ rfl
    have hf5_0 : wr.frozen? ⟨go5, (x5_1 : Int).toNat * 2, none⟩ = false := hfr5 0
    have hf5_1 : wr.frozen? ⟨go5, (x5_1 : Int).toNat * 2 + 1, none⟩ = false := hfr5 1
    clear hcl5 hcc5 hfr5 hM5
    replace p5 := eq_true p5
    replace q5 := eq_true q5
    have HX8 := Aside0.mk (show Kd.R k36 36 wr w0.heap.size (fun k_ => (P0_ k_ ∨ w.heap.size ≤ k_)) (.slice (some ⟨go5, 0, none⟩) x0_1.length co7) x0_1 from (uf1_ HO_0))
    obtain ⟨ce8, hcl8, hM8, hcc8, hfr8⟩ := Kd.R_elem HX8.out z36 (x5_1 : Int) (of_decide_eq_true (g1_)) (by have h_ : (x5_1 : Int) < ((x0_1.length : Int) : Int) := of_decide_eq_true (g1_); first | exact h_ | (have e_ := (Kd.R_reads' HO_0.out).1; omega) | simpa using h_)
    obtain rfl := k36_openM hM8
    have HP8 := Kd.R_seg HX8.out (x5_1 : Int) (of_decide_eq_true (g1_)) (by have h_ : (x5_1 : Int) < ((x0_1.length : Int) : Int) := of_decide_eq_true (g1_); first | exact h_ | (have e_ := (Kd.R_reads' HO_0.out).1; omega) | simpa using h_) (seg := [.int .i64 x1_1]) (j := 0) hcl8 hcc8 (show 1 ≤ 2 from by decide) (x' := (⟨x1_1, (rd_T36 x0_1 x5_1).f1⟩ : S36)) (k36_mkM _ _ _ (⟨x1_1, (rd_T36 x0_1 x5_1).f1⟩ : S36) ) (fun _ hk => hk)
    have hx8_0 := hcc8 0 _ rfl
    (try simp only [show (k36).sz = 2 from rfl, Nat.mul_one, Nat.add_zero] at hx8_0)
    have hf8_0 := hfr8 0
    (try simp only [show (k36).sz = 2 from rfl, Nat.mul_one, Nat.add_zero] at hf8_0)
    clear hcl8 hcc8 hfr8 hM8
    go_wp2_with (first | ((with_reducible refine gate_store (t := 3) (p := 16) rfl ?_); refine store_event (t := 3) (p := 16) (v := ?vo_w9) (w1 := (wr.setCell ⟨go5, (x5_1 : Int).toNat * 2, none⟩ (.int .i64 x1_1))) ?hg ?ho ?hn ?hr ?_; (case ho => rfl); (case hg => rfl); (case hn => rfl); (case hr => first | (go_simp; done) | (go_simp; rfl)); intro w9 hw; have hg : wr.grownBy w9 (some go5) := (by rw [hw]; exact HP8.2); have hp_ : Kd.R k36 36 w9 w0.heap.size (fun k_ => (P0_ k_ ∨ w.heap.size ≤ k_)) (.slice (some ⟨go5, 0, none⟩) x0_1.length co7) y144 := (by rw [hw, Ny144.out]; exact HP8.1); clear HP8; replace HB := Aside0.mk ((by rw [hw]; exact below_set (HB.out) GB5.out : Below w0.heap.size w0 w9)); replace HK := Aside0.mk (Kept.of_grown (S := (fun k_ => P0_ k_)) hg (laws_markFracS.calls_q0) (fun k_ e_ => (HO_0.out.1 k_ e_))); replace HO_0 := Aside0.mk (hp_); clear hg hw hp_; have p6 : 0 ≤ (x5_1 : Int) := of_decide_eq_true (g1_); have q6 : (x5_1 : Int) < ((x0_1.length : Int) : Int) := of_decide_eq_true (g1_); obtain ⟨ce6, hcl6, hM6, hcc6, hfr6⟩ := Kd.R_elem HO_0.out z36 (x5_1 : Int) p6 q6; obtain rfl := k36_openM hM6; have hx6_0 : w9.cell? ⟨go5, (x5_1 : Int).toNat * 2, none⟩ = some (.int .i64 ((rd_T36 y144 x5_1).f0)) := hcc6 0 _ rfl; have hx6_1 : w9.cell? ⟨go5, (x5_1 : Int).toNat * 2 + 1, none⟩ = some (.int .i64 ((rd_T36 y144 x5_1).f1)) := hcc6 1 _ rfl; have hf6_0 : w9.frozen? ⟨go5, (x5_1 : Int).toNat * 2, none⟩ = false := hfr6 0; have hf6_1 : w9.frozen? ⟨go5, (x5_1 : Int).toNat * 2 + 1, none⟩ = false := hfr6 1; clear hcl6 hcc6 hfr6 hM6; replace p6 := eq_true p6; replace q6 := eq_true q6; have HX10 := Aside0.mk (show Kd.R k36 36 w9 w0.heap.size (fun k_ => (P0_ k_ ∨ w.heap.size ≤ k_)) (.slice (some ⟨go5, 0, none⟩) x0_1.length co7) y144 from (uf1_ HO_0)); obtain ⟨ce10, hcl10, hM10, hcc10, hfr10⟩ := Kd.R_elem HX10.out z36 (x5_1 : Int) (of_decide_eq_true (g1_)) (by have h_ : (x5_1 : Int) < ((x0_1.length : Int) : Int) := of_decide_eq_true (g1_); first | exact h_ | (have e_ := (Kd.R_reads' HO_0.out).1; omega) | simpa using h_); obtain rfl := k36_openM hM10; have HP10 := Kd.R_seg HX10.out (x5_1 : Int) (of_decide_eq_true (g1_)) (by have h_ : (x5_1 : Int) < ((x0_1.length : Int) : Int) := of_decide_eq_true (g1_); first | exact h_ | (have e_ := (Kd.R_reads' HO_0.out).1; omega) | simpa using h_) (seg := [.int .i64 (wrap64 (x1_1 + 1))]) (j := 1) hcl10 hcc10 (show 2 ≤ 2 from by decide) (x' := (⟨(rd_T36 y144 x5_1).f0, wrap64 (x1_1 + 1)⟩ : S36)) (k36_mkM _ _ _ (⟨(rd_T36 y144 x5_1).f0, wrap64 (x1_1 + 1)⟩ : S36) ) (fun _ hk => hk); have hx10_1 := hcc10 1 _ rfl; (try simp only [show (k36).sz = 2 from rfl, Nat.mul_one, Nat.add_zero] at hx10_1); have hf10_1 := hfr10 1; (try simp only [show (k36).sz = 2 from rfl, Nat.mul_one, Nat.add_zero] at hf10_1); clear hcl10 hcc10 hfr10 hM10) | ((with_reducible refine gate_store (t := 3) (p := 23) rfl ?_); refine store_event (t := 3) (p := 23) (v := ?vo_w11) (w1 := (w9.setCell ⟨go5, (x5_1 : Int).toNat * 2 + 1, none⟩ (.int .i64 (wrap64 (x1_1 + 1))))) ?hg ?ho ?hn ?hr ?_; (case ho => rfl); (case hg => rfl); (case hn => rfl); (case hr => first | (go_simp; done) | (go_simp; rfl)); intro w11 hw; have hg : w9.grownBy w11 (some go5) := (by rw [hw]; exact HP10.2); have hp_ : Kd.R k36 36 w11 w0.heap.size (fun k_ => (P0_ k_ ∨ w.heap.size ≤ k_)) (.slice (some ⟨go5, 0, none⟩) x0_1.length co7) y145 := (by rw [hw, Ny145.out]; exact HP10.1); clear HP10; replace HB := Aside0.mk ((by rw [hw]; exact below_set (HB.out) GB5.out : Below w0.heap.size w0 w11)); replace HK := Aside0.mk (Kept.of_grown (S := (fun k_ => P0_ k_)) hg (laws_markFracS.calls_q0) (fun k_ e_ => (HO_0.out.1 k_ e_))); replace HO_0 := Aside0.mk (hp_); clear hg hw hp_))
    go_roundg k1
    case measure => have := HK1.out; omega
    case rel => exact ⟨(y145), (wrap64 ((wrap64 (x1_1 + 1)) + 1)), (wrap64 (x5_1 + 1)), (g3_), (g3_), H', ⟨g12_⟩, ⟨uf1_ HO_0⟩, ⟨laws_markFracS.calls_q0⟩, ⟨laws_markFracS.calls_q1⟩⟩
   ·rw [if_neg c3] at H
    have c3b0 := decide_eq_false c3
    clear c3
    simp only [Option.some.injEq, Prod.mk.injEq] at H
    obtain ⟨rfl, rfl⟩ := H
    obtain ⟨Ao12, co12, eo12⟩ := Kd.R_slice HO_0.out
    subst eo12
    go_wp2
    go_ret
    exact ⟨g4_, uf1_ HO_0, laws_markFracS.calls_q1, laws_markFracS.calls_q0⟩
def laws_heldFracS.l0 : Nat → List (S36) → Int → Int → Option (Int)
 | 0, _, _, _ => none
 | k + 1, x0, x1, x5 => if x5 < (x0.length : Int) then (if 0 ≤ x5 then (if ((rd_T36 x0 x5).f0) = x1 then (if ((rd_T36 x0 x5).f1) = (wrap64 (x1 + 1)) then (laws_heldFracS.l0 k x0 (wrap64 ((wrap64 (x1 + 1)) + 1)) (wrap64 (x5 + 1))) else (some (-1))) else (some (-1))) else (none)) else (some x1)
def laws_heldFracS.f (k : Nat) (l0 : List (S36)) (a1 : Int) : Option (Int) := laws_heldFracS.l0 k l0 a1 0
theorem laws_heldFracS.mq {p : Prop} (h : p := by
 repeat' first
 | (with_reducible exact ih0 _ _ _)
 | (with_reducible exact LeO.refl _)
 | (with_reducible exact LeO.none _)
 | (with_reducible refine LeO.ite ?_ ?_)
 | (with_reducible refine LeO.bind ?_ (fun _ => ?_))
 | exact ih0 _ _ _
 | exact LeO.none _
 | refine LeO.ite ?_ ?_
 | refine LeO.bind ?_ (fun _ => ?_)) : p := h
theorem laws_heldFracS.mono_l : ∀ k, (∀ y0 y1 y2, LeO (laws_heldFracS.l0 k y0 y1 y2) (laws_heldFracS.l0 (k + 1) y0 y1 y2))
 | 0 => fun _ _ _ r h => by simp [laws_heldFracS.l0] at h
 | k + 1 => by
  have ih0 := laws_heldFracS.mono_l k
  ·intro y0 y1 y2
   unfold laws_heldFracS.l0
   exact laws_heldFracS.mq
theorem laws_heldFracS.mono : ∀ a0 a1 k, LeO (laws_heldFracS.f k a0 a1) (laws_heldFracS.f (k + 1) a0 a1) := by
 intro a0 a1 k
 have ih0 := laws_heldFracS.mono_l k
 unfold laws_heldFracS.f
 exact laws_heldFracS.mq
set_option maxHeartbeats 8000000 in
set_option maxRecDepth 100000 in
theorem laws_heldFracS.calls (k : Nat) (A0 : Option Addr) (c0 : Nat) (l0 : List (S36)) (a1 : Int) (r : Int) (w : World) (hr0 : Kd.C k36 w A0 l0.length l0) (hc0 : l0.length ≤ c0) (h : laws_heldFracS.f k l0 a1 = some r) :
  Calls Try.prog 28 #[.slice A0 l0.length c0, .int .i64 a1] w fun e w' => e = .returned (.int .i64 r) ∧ Drawn0 w w' := by
 have HR0 := Aside0.mk hr0
 have HC0 := Aside0.mk hc0
 clear hr0 hc0
 have H : (laws_heldFracS.l0 k l0 a1 0) = some r := h
 clear h
 have H' := Aside0.mk H
 clear H
 go_enter Try.func28, Try.ntmps28
 go_wp2
 go_loopg [1, 5] k (fun kq v1 v5 w' => ∃ (x1_1 : Int) (x5_1 : Int), v1 = .int .i64 x1_1 ∧ v5 = .int .i64 x5_1 ∧ Aside0 (laws_heldFracS.l0 kq l0 x1_1 x5_1 = some r) ∧ Aside0 (kq ≤ k) ∧ Drawn0 w w')
 case atStart => exact ⟨(a1), (0), (g3_), (g3_), H', ⟨Nat.le_refl _⟩, g6_⟩
 case round =>
  clear H'
  try clear c2
  try clear p2
  obtain ⟨x1_1, x5_1, rfl, rfl, HA, HK1, ⟨m1, rfl⟩⟩ := hrel
  cases gk with
  | zero => exact absurd HA.out (by simp [laws_heldFracS.l0])
  | succ k1 =>
   have H := HA.out
   clear HA
   simp only [laws_heldFracS.l0] at H
   by_cases c3 : x5_1 < (l0.length : Int)
   ·rw [if_pos c3] at H
    have c3b0 := decide_eq_true c3
    clear c3
    obtain ⟨c4, H⟩ := pos_ H
    have c4b0 := decide_eq_true c4
    clear c4
    by_cases c5 : ((rd_T36 l0 x5_1).f0) = x1_1
    ·rw [if_pos c5] at H
     have c5b0 : (((rd_T36 l0 x5_1).f0) == x1_1) = true := beq_iff_eq.mpr c5
     have c5b1 : (((rd_T36 l0 x5_1).f0) != x1_1) = false := bne_eq_false_iff_eq.mpr c5
     clear c5
     by_cases c6 : ((rd_T36 l0 x5_1).f1) = (wrap64 (x1_1 + 1))
     ·rw [if_pos c6] at H
      have c6b0 : (((rd_T36 l0 x5_1).f1) == (wrap64 (x1_1 + 1))) = true := beq_iff_eq.mpr c6
      have c6b1 : (((rd_T36 l0 x5_1).f1) != (wrap64 (x1_1 + 1))) = false := bne_eq_false_iff_eq.mpr c6
      clear c6
      have H' := Aside0.mk H
      clear H
      have p146 : 0 ≤ (x5_1 : Int) := of_decide_eq_true (g1_)
      have q146 : x5_1 < (l0.length : Int) := of_decide_eq_true (g1_)
      obtain ⟨ad146, e146, hx146_0, hx146_1⟩ := at_T36 HR0.out x5_1 p146 q146
      cases e146
      replace p146 := eq_true p146
      replace q146 := eq_true q146
      have p147 : 0 ≤ (x5_1 : Int) := of_decide_eq_true (g1_)
      have q147 : x5_1 < (l0.length : Int) := of_decide_eq_true (g1_)
      obtain ⟨ad147, e147, hx147_0, hx147_1⟩ := at_T36 HR0.out x5_1 p147 q147
      obtain rfl : ad146 = ad147 := (by injection e147)
      replace p147 := eq_true p147
      replace q147 := eq_true q147
      go_wp2
      go_roundg k1
      case measure => have := HK1.out; omega
      case rel => exact ⟨(wrap64 ((wrap64 (x1_1 + 1)) + 1)), (wrap64 (x5_1 + 1)), (g3_), (g3_), H', ⟨g12_⟩, g6_⟩
     ·rw [if_neg c6] at H
      have c6b0 : (((rd_T36 l0 x5_1).f1) == (wrap64 (x1_1 + 1))) = false := beq_eq_false_iff_ne.mpr c6
      have c6b1 : (((rd_T36 l0 x5_1).f1) != (wrap64 (x1_1 + 1))) = true := bne_iff_ne.mpr c6
      obtain rfl := Option.some.inj H
      have p146 : 0 ≤ (x5_1 : Int) := of_decide_eq_true (g1_)
      have q146 : x5_1 < (l0.length : Int) := of_decide_eq_true (g1_)
      obtain ⟨ad146, e146, hx146_0, hx146_1⟩ := at_T36 HR0.out x5_1 p146 q146
      cases e146
      replace p146 := eq_true p146
      replace q146 := eq_true q146
      have p147 : 0 ≤ (x5_1 : Int) := of_decide_eq_true (g1_)
      have q147 : x5_1 < (l0.length : Int) := of_decide_eq_true (g1_)
      obtain ⟨ad147, e147, hx147_0, hx147_1⟩ := at_T36 HR0.out x5_1 p147 q147
      obtain rfl : ad146 = ad147 := (by injection e147)
      replace p147 := eq_true p147
      replace q147 := eq_true q147
      go_wp2
      go_ret
      exact ⟨g3_, g6_⟩
    ·rw [if_neg c5] at H
     have c5b0 : (((rd_T36 l0 x5_1).f0) == x1_1) = false := beq_eq_false_iff_ne.mpr c5
     have c5b1 : (((rd_T36 l0 x5_1).f0) != x1_1) = true := bne_iff_ne.mpr c5
     obtain rfl := Option.some.inj H
     have p146 : 0 ≤ (x5_1 : Int) := of_decide_eq_true (g1_)
     have q146 : x5_1 < (l0.length : Int) := of_decide_eq_true (g1_)
     obtain ⟨ad146, e146, hx146_0, hx146_1⟩ := at_T36 HR0.out x5_1 p146 q146
     cases e146
     replace p146 := eq_true p146
     replace q146 := eq_true q146
     go_wp2
     go_ret
     exact ⟨g3_, g6_⟩
   ·rw [if_neg c3] at H
    have c3b0 := decide_eq_false c3
    clear c3
    obtain rfl := Option.some.inj H
    go_wp2
    go_ret
    exact ⟨g3_, g6_⟩
def spec_l1In.f (a0 : Int) (a1 : Int) (a2 : Int) : Option (Bool) := if a0 ≥ a1 then (some (decide (a0 ≤ a2))) else (some false)
set_option maxHeartbeats 8000000 in
set_option maxRecDepth 100000 in
theorem spec_l1In.calls (a0 : Int) (a1 : Int) (a2 : Int) (r : Bool) (w : World) (h : spec_l1In.f a0 a1 a2 = some r) :
  Calls Try.prog 93 #[.int .i64 a0, .int .i64 a1, .int .i64 a2] w fun e w' => e = .returned (.bool r) ∧ Drawn0 w w' := by
 have H : (if a0 ≥ a1 then (some (decide (a0 ≤ a2))) else (some false)) = some r := h
 clear h
 by_cases c4 : a0 ≥ a1
 ·rw [if_pos c4] at H
  have c4b0 := decide_eq_true c4
  clear c4
  obtain rfl := Option.some.inj H
  go_enter Try.func93, Try.ntmps93
  go_wp2
  go_ret
  exact ⟨g3_, g6_⟩
 ·rw [if_neg c4] at H
  have c4b0 := decide_eq_false c4
  clear c4
  obtain rfl := Option.some.inj H
  go_enter Try.func93, Try.ntmps93
  go_wp2
  go_ret
  exact ⟨g3_, g6_⟩
mutual
def spec_BookOk.j0 : Nat → Bool → List Int → List (List Int) → Option (Bool)
 | 0, _, _, _ => none
 | k + 1, x18, x149000, x149001 => if x18 = true then (some false) else (spec_BookOk.l0 k 0 x149000 x149001)
def spec_BookOk.l0 : Nat → Int → List Int → List (List Int) → Option (Bool)
 | 0, _, _, _ => none
 | k + 1, x3, x149000, x149001 => if x3 < (x149000.length : Int) then (if 0 ≤ x3 then ((spec_l1In.f (rd x149000 x3) 0 20).bind fun t151 => (if t151 = true then (if x3 < (x149001.length : Int) then (if ((rd_L1 x149001 x3).length : Int) = (x149000.length : Int) then (if x3 < ((rd_L1 x149001 x3).length : Int) then (spec_BookOk.j2 k x3 ((rd (rd_L1 x149001 x3) x3) != 0) x149000 x149001) else (none)) else (spec_BookOk.j2 k x3 true x149000 x149001)) else (none)) else (spec_BookOk.j2 k x3 true x149000 x149001))) else (none)) else (some true)
def spec_BookOk.j2 : Nat → Int → Bool → List Int → List (List Int) → Option (Bool)
 | 0, _, _, _, _ => none
 | k + 1, x3, x55, x149000, x149001 => if x55 = true then (some false) else (spec_BookOk.l1 k x3 0 x149000 x149001)
def spec_BookOk.l1 : Nat → Int → Int → List Int → List (List Int) → Option (Bool)
 | 0, _, _, _, _ => none
 | k + 1, x3, x4, x149000, x149001 => if 0 ≤ x3 then (if x3 < (x149001.length : Int) then (if x4 < ((rd_L1 x149001 x3).length : Int) then (if 0 ≤ x4 then ((spec_l1In.f (rd (rd_L1 x149001 x3) x4) 0 9).bind fun t158 => (if t158 = true then (spec_BookOk.l1 k x3 (wrap64 (x4 + 1)) x149000 x149001) else (some false))) else (none)) else (spec_BookOk.l0 k (wrap64 (x3 + 1)) x149000 x149001)) else (none)) else (none)
end
def spec_BookOk.f (k : Nat) (l0_0 : List Int) (l0_1 : List (List Int)) : Option (Bool) := (spec_l1In.f (l0_0.length : Int) 1 4).bind fun t149 => (if t149 = true then (spec_BookOk.j0 k ((l0_1.length : Int) != (l0_0.length : Int)) l0_0 l0_1) else (spec_BookOk.j0 k true l0_0 l0_1))
theorem spec_BookOk.mq {p : Prop} (h : p := by
 repeat' first
 | (with_reducible exact ih0 _ _ _)
 | (with_reducible exact ih1 _ _ _)
 | (with_reducible exact ih2 _ _ _ _)
 | (with_reducible exact ih3 _ _ _ _)
 | (with_reducible exact LeO.refl _)
 | (with_reducible exact LeO.none _)
 | (with_reducible refine LeO.ite ?_ ?_)
 | (with_reducible refine LeO.bind ?_ (fun _ => ?_))
 | exact ih0 _ _ _
 | exact ih1 _ _ _
 | exact ih2 _ _ _ _
 | exact ih3 _ _ _ _
 | exact LeO.none _
 | refine LeO.ite ?_ ?_
 | refine LeO.bind ?_ (fun _ => ?_)) : p := h
theorem spec_BookOk.mono_l : ∀ k, (∀ y0 y1 y2, LeO (spec_BookOk.j0 k y0 y1 y2) (spec_BookOk.j0 (k + 1) y0 y1 y2)) ∧ (∀ y0 y1 y2, LeO (spec_BookOk.l0 k y0 y1 y2) (spec_BookOk.l0 (k + 1) y0 y1 y2)) ∧ (∀ y0 y1 y2 y3, LeO (spec_BookOk.j2 k y0 y1 y2 y3) (spec_BookOk.j2 (k + 1) y0 y1 y2 y3)) ∧ (∀ y0 y1 y2 y3, LeO (spec_BookOk.l1 k y0 y1 y2 y3) (spec_BookOk.l1 (k + 1) y0 y1 y2 y3))
 | 0 => ⟨fun _ _ _ r h => by simp [spec_BookOk.j0] at h, fun _ _ _ r h => by simp [spec_BookOk.l0] at h, fun _ _ _ _ r h => by simp [spec_BookOk.j2] at h, fun _ _ _ _ r h => by simp [spec_BookOk.l1] at h⟩
 | k + 1 => by
  obtain ⟨ih0, ih1, ih2, ih3⟩ := spec_BookOk.mono_l k
  refine ⟨?_, ?_, ?_, ?_⟩
  ·intro y0 y1 y2
   unfold spec_BookOk.j0
   exact spec_BookOk.mq
  ·intro y0 y1 y2
   unfold spec_BookOk.l0
   exact spec_BookOk.mq
  ·intro y0 y1 y2 y3
   unfold spec_BookOk.j2
   exact spec_BookOk.mq
  ·intro y0 y1 y2 y3
   unfold spec_BookOk.l1
   exact spec_BookOk.mq
theorem spec_BookOk.mono : ∀ a0 a1 k, LeO (spec_BookOk.f k a0 a1) (spec_BookOk.f (k + 1) a0 a1) := by
 intro a0 a1 k
 obtain ⟨ih0, ih1, ih2, ih3⟩ := spec_BookOk.mono_l k
 unfold spec_BookOk.f
 exact spec_BookOk.mq
def spec_BookOk.T6 : Bool × List (List Nat × List Nat) := (true, [([], []), ([0], [0]), ([], []), ([1, 2], [1, 2]), ([3], [3]), ([4], [4]), ([5], [5]), ([6, 5], [6]), ([7], [7]), ([8, 7], [7, 8]), ([7], [7]), ([9, 10, 7], [7, 9, 10]), ([11, 7], [7, 11]), ([12, 7], [7, 12]), ([7], [7]), ([14, 7], [7, 14]), ([15, 7], [7, 15]), ([13, 16, 7], [7, 13, 16]), ([7, 17], [7, 17]), ([18, 7], [18]), ([19], [19]), ([20, 19], [19, 20]), ([19], [19]), ([21, 22, 19], [19, 21, 22]), ([23, 19], [19, 23]), ([19], [19]), ([24, 25, 19], [19, 24, 25]), ([26, 19], [19, 26]), ([27, 19], [19, 27]), ([19, 28], [19, 28])])
def spec_BookOk.B6 : List Nat := [0, 1, 0, 7, 15, 31, 63, 127, 255, 511, 255, 2047, 4095, 8191, 255, 16639, 49407, 131071, 262143, 524287, 1048575, 2097151, 1048575, 8388607, 16777215, 1048575, 67108863, 134217727, 268435455, 536870911]
theorem spec_BookOk.tab6 : rtab .any (opsOf Try.f84 6) = spec_BookOk.T6 := by kernel_rfl
theorem spec_BookOk.bits6 : waitsOk spec_BookOk.T6.2 spec_BookOk.B6 = true := by kernel_rfl
theorem spec_BookOk.calls_q0 {p : Prop} (h : p := by repeat (first | (with_reducible first | exact HB.out | apply below_alloc | apply pw_below_drewN | apply below_drew1 | refine below_set ?_ GE148.out) | exact HB.out)) : p := h
set_option maxHeartbeats 8000000 in
set_option maxRecDepth 100000 in
theorem spec_BookOk.calls (k : Nat) (A0_0 : Option Addr) (c0_0 : Nat) (l0_0 : List Int) (A0_1 : Option Addr) (c0_1 : Nat) (l0_1 : List (List Int)) (r : Bool) (w : World) (hr0_0 : Kd.C (Kd.int .i64) w A0_0 l0_0.length l0_0) (hc0_0 : l0_0.length ≤ c0_0) (hr0_1 : Kd.C (Kd.slice 3 (Kd.int .i64)) w A0_1 l0_1.length l0_1) (hc0_1 : l0_1.length ≤ c0_1) (h : spec_BookOk.f k l0_0 l0_1 = some r) :
  Calls Try.prog 84 #[.agg #[.slice A0_0 l0_0.length c0_0, .slice A0_1 l0_1.length c0_1]] w fun e w' => e = .returned (.bool r) ∧ Below w.heap.size w w' := by
 have hu26 := Try.underlying26
 have HR0_0 := Aside0.mk hr0_0
 have HC0_0 := Aside0.mk hc0_0
 clear hr0_0 hc0_0
 have HR0_1 := Aside0.mk hr0_1
 have HC0_1 := Aside0.mk hc0_1
 clear hr0_1 hc0_1
 have HB := Aside0.mk (Below.refl w.heap.size w)
 have H : ((spec_l1In.f (l0_0.length : Int) 1 4).bind fun t149 => (if t149 = true then (spec_BookOk.j0 k ((l0_1.length : Int) != (l0_0.length : Int)) l0_0 l0_1) else (spec_BookOk.j0 k true l0_0 l0_1))) = some r := h
 clear h
 have HC2 := Aside0.mk H
 clear H
 go_enter Try.func84, Try.ntmps84
 go_upto_region 1 with (first | ((with_reducible refine gate_dst (N := 1) rfl ?_); (try (refine gate_guard (by rfl) ?_; dsimp only)); refine bx_ (N := 1) #[.slice A0_0 l0_0.length c0_0, .slice A0_1 l0_1.length c0_1] 26 ?_; intro gb148 hg w3 hbox hb; have BK148 := Aside0.mk (hbox); have GW148 := Aside0.mk ((by rw [hg]; exact (below_size (spec_BookOk.calls_q0)) : w.heap.size ≤ gb148)); have GE148 := Aside0.mk ((by rw [hg]; exact (below_size (spec_BookOk.calls_q0)) : w.heap.size ≤ gb148)); replace HB := Aside0.mk (below_step (spec_BookOk.calls_q0) hb); clear hb hbox hg))
 (try simp only [Act.put, List.setIfInBounds_toArray, List.set_cons_zero, List.set_cons_succ])
 go_cut [18] (fun v18 wc => ∃ (kq : Nat) (x18_1 : Bool), v18 = .bool x18_1 ∧ Aside0 (spec_BookOk.j0 kq x18_1 l0_0 l0_1 = some r) ∧ Aside0 (kq ≤ k) ∧ Aside0 (wc.heap[gb148]? = some (.cells #[(.slice A0_0 l0_0.length c0_0), (.slice A0_1 l0_1.length c0_1)] 26 (0, 0))) ∧ Aside0 (Below w.heap.size w wc))
 case first =>
  have H := HC2.out
  clear HC2
  obtain ⟨t149, A4, H⟩ := bind_ H
  by_cases c5 : t149 = true
  ·subst c5
   replace H := ifp_ H
   have H' := Aside0.mk H
   clear H
   obtain ⟨hcz6_0, hcz6_1, hfz6_0, hfz6_1⟩ := blk2_ BK148
   go_wp2_with (first | ((with_reducible refine gate_callee (f := 93) rfl ?_); refine goesL_ (some 8) rfl rfl Try.func93 k_ rfl #[.int .i64 (l0_0.length : Int), .int .i64 1, .int .i64 4] rfl (g2_) ?_; (with_reducible refine (spec_l1In.calls (l0_0.length : Int) 1 4 true _ A4.out).mono ?_); rintro e w' ⟨rfl, ⟨nd, rfl⟩⟩; refine ⟨_, rfl, ?_⟩))
   go_meet
   case rel => exact ⟨_, (((l0_1.length : Int) != (l0_0.length : Int))), (g3_), H', ⟨g15_⟩, ⟨uf3_ BK148⟩, ⟨spec_BookOk.calls_q0⟩⟩
  ·replace c5 := Bool.eq_false_iff.mpr c5
   subst c5
   replace H := ifn_ H
   have H' := Aside0.mk H
   clear H
   obtain ⟨hcz7_0, hcz7_1, hfz7_0, hfz7_1⟩ := blk2_ BK148
   go_wp2_with (first | ((with_reducible refine gate_callee (f := 93) rfl ?_); refine goesL_ (some 8) rfl rfl Try.func93 k_ rfl #[.int .i64 (l0_0.length : Int), .int .i64 1, .int .i64 4] rfl (g2_) ?_; (with_reducible refine (spec_l1In.calls (l0_0.length : Int) 1 4 false _ A4.out).mono ?_); rintro e w' ⟨rfl, ⟨nd, rfl⟩⟩; refine ⟨_, rfl, ?_⟩))
   go_meet
   case rel => exact ⟨_, (true), (g3_), H', ⟨g15_⟩, ⟨uf3_ BK148⟩, ⟨spec_BookOk.calls_q0⟩⟩
 case rest =>
  clear HC2
  try clear p2
  try clear c5
  try clear hcz6_0
  try clear hcz6_1
  try clear hcz7_0
  try clear hcz7_1
  try clear hfz6_0
  try clear hfz6_1
  try clear hfz7_0
  try clear hfz7_1
  obtain ⟨kq, x18_1, rfl, HA, HJ1, BK148, HB⟩ := hcut
  cases kq with
  | zero => exact absurd HA.out (by simp [spec_BookOk.j0])
  | succ kj1 =>
   have H := HA.out
   clear HA
   simp only [spec_BookOk.j0] at H
   by_cases c8 : x18_1 = true
   ·subst c8
    replace H := ifp_ H
    obtain rfl := Option.some.inj H
    go_wp2
    go_ret
    exact ⟨g4_, spec_BookOk.calls_q0⟩
   ·replace c8 := Bool.eq_false_iff.mpr c8
    subst c8
    replace H := ifn_ H
    have H' := Aside0.mk H
    clear H
    go_wp2
    go_loopg [3] kj1 (fun kq v3 w' => ∃ (x3_2 : Int), v3 = .int .i64 x3_2 ∧ Aside0 (spec_BookOk.l0 kq x3_2 l0_0 l0_1 = some r) ∧ Aside0 (kq ≤ kj1) ∧ Aside0 (w'.heap[gb148]? = some (.cells #[(.slice A0_0 l0_0.length c0_0), (.slice A0_1 l0_1.length c0_1)] 26 (0, 0))) ∧ Aside0 (Below w.heap.size w w'))
    case atStart => exact ⟨(0), (g3_), H', ⟨Nat.le_refl _⟩, ⟨uf3_ BK148⟩, ⟨spec_BookOk.calls_q0⟩⟩
    case round =>
     clear H'
     try clear p2
     try clear c5
     try clear c8
     try clear hcz6_0
     try clear hcz6_1
     try clear hcz7_0
     try clear hcz7_1
     try clear hfz6_0
     try clear hfz6_1
     try clear hfz7_0
     try clear hfz7_1
     try clear p2
     obtain ⟨x3_2, rfl, HA, HK2, BK148, HB⟩ := hrel
     cases gk with
     | zero => exact absurd HA.out (by simp [spec_BookOk.l0])
     | succ k2 =>
      have H := HA.out
      clear HA
      simp only [spec_BookOk.l0] at H
      by_cases c9 : x3_2 < (l0_0.length : Int)
      ·rw [if_pos c9] at H
       have c9b0 := decide_eq_true c9
       clear c9
       have HC10 := Aside0.mk H
       clear H
       obtain ⟨hcz11_0, hcz11_1, hfz11_0, hfz11_1⟩ := blk2_ BK148
       go_upto_region 6 with (fail)
       go_cut [55] (fun v55 wc => ∃ (kq : Nat) (x55_9 : Bool), v55 = .bool x55_9 ∧ Aside0 (spec_BookOk.j2 kq x3_2 x55_9 l0_0 l0_1 = some r) ∧ Aside0 (kq ≤ k2) ∧ Aside0 (wc.heap[gb148]? = some (.cells #[(.slice A0_0 l0_0.length c0_0), (.slice A0_1 l0_1.length c0_1)] 26 (0, 0))) ∧ Aside0 (Below w.heap.size w wc))
       case first =>
        have H := HC10.out
        clear HC10
        obtain ⟨c12, H⟩ := pos_ H
        have c12b0 := decide_eq_true c12
        clear c12
        (first | rw [c12b0] | (simp only [i64_w, i32_w]; rw [c12b0]) | skip)
        obtain ⟨t151, A13, H⟩ := bind_ H
        by_cases c14 : t151 = true
        ·subst c14
         replace H := ifp_ H
         obtain ⟨c15, H⟩ := pos_ H
         have c15b0 := decide_eq_true c15
         clear c15
         by_cases c16 : ((rd_L1 l0_1 x3_2).length : Int) = (l0_0.length : Int)
         ·rw [if_pos c16] at H
          have c16b0 : (((rd_L1 l0_1 x3_2).length : Int) == (l0_0.length : Int)) = true := beq_iff_eq.mpr c16
          have c16b1 : (((rd_L1 l0_1 x3_2).length : Int) != (l0_0.length : Int)) = false := bne_eq_false_iff_eq.mpr c16
          have c16b2 : ((rd_L1 l0_1 x3_2).length == l0_0.length) = true := by first | simpa using c16 | (simp at c16 ⊢; omega)
          clear c16
          obtain ⟨c17, H⟩ := pos_ H
          have c17b0 := decide_eq_true c17
          clear c17
          have H' := Aside0.mk H
          clear H
          try go_wp2
          replace BK148 := Aside0.mk (blk_drew BK148.out)
          replace HB := Aside0.mk (below_drew1 HB.out)
          have p150 : 0 ≤ (x3_2 : Int) := of_decide_eq_true (g1_)
          have q150 : x3_2 < (l0_0.length : Int) := of_decide_eq_true (g1_)
          obtain ⟨ad150, e150, hx150_0⟩ := Kd.at_int HR0_0.out x3_2 p150 q150
          have hw150_0 := hx150_0
          cases e150
          replace hx150_0 := cl_ HB hx150_0
          replace p150 := eq_true p150
          replace q150 := eq_true q150
          have p152 : 0 ≤ (x3_2 : Int) := of_decide_eq_true (g1_)
          have q152 : x3_2 < (l0_1.length : Int) := of_decide_eq_true (g1_)
          obtain ⟨ad152, A152_0, c152_0, e152, hx152_0, hl152_0, hi152_0⟩ := at_L1 HR0_1.out x3_2 p152 q152
          have hw152_0 := hx152_0
          cases e152
          replace hx152_0 := cl_ HB hx152_0
          have HR152_0 := Aside0.mk hi152_0
          have HC152_0 := Aside0.mk hl152_0
          clear hi152_0 hl152_0
          replace p152 := eq_true p152
          replace q152 := eq_true q152
          have p153 : 0 ≤ (x3_2 : Int) := of_decide_eq_true (g1_)
          have q153 : x3_2 < (l0_1.length : Int) := of_decide_eq_true (g1_)
          obtain ⟨ad153, A153_0, c153_0, e153, hx153_0, hl153_0, hi153_0⟩ := at_L1 HR0_1.out x3_2 p153 q153
          have hw153_0 := hx153_0
          obtain rfl : ad152 = ad153 := (by injection e153)
          replace hx153_0 := cl_ HB hx153_0
          have HR153_0 := Aside0.mk hi153_0
          have HC153_0 := Aside0.mk hl153_0
          clear hi153_0 hl153_0
          replace p153 := eq_true p153
          replace q153 := eq_true q153
          have ea_ := Option.some.inj (hx152_0.symm.trans hx153_0)
          injection ea_ with ea_ en_ ec_
          subst ea_
          subst ec_
          clear en_
          have p154 : 0 ≤ (x3_2 : Int) := of_decide_eq_true (g1_)
          have q154 : x3_2 < ((rd_L1 l0_1 x3_2).length : Int) := of_decide_eq_true (g1_)
          obtain ⟨ad154, e154, hx154_0⟩ := Kd.at_int HR153_0.out x3_2 p154 q154
          have hw154_0 := hx154_0
          cases e154
          replace hx154_0 := cl_ HB hx154_0
          replace p154 := eq_true p154
          replace q154 := eq_true q154
          refine start_ (n := 30) (S := fun w' => w'.cell? ⟨gb148, 0, none⟩ = some (.slice (some ad150) l0_0.length c0_0) ∧ w'.cell? ⟨gb148, 1, none⟩ = some (.slice (some ad152) l0_1.length c0_1) ∧ w'.cell? (ad150.add (x3_2).toNat) = some (.int .i64 (rd l0_0 x3_2)) ∧ w'.cell? (ad152.add (x3_2).toNat) = some (.slice (some ad154) (rd_L1 l0_1 x3_2).length c152_0) ∧ w'.cell? (ad152.add (x3_2).toNat) = some (.slice (some ad154) (rd_L1 l0_1 x3_2).length c152_0) ∧ w'.cell? (ad154.add (x3_2).toNat) = some (.int .i64 (rd (rd_L1 l0_1 x3_2) x3_2))) (ds := []) (tl_ 30 0) (g0_) rfl (g0_) ⟨(blk_cell BK148.out 0).trans rfl, (blk_cell BK148.out 1).trans rfl, ((cl_ HB hw150_0).trans rfl), ((cl_ HB hw152_0).trans rfl), ((cl_ HB hw153_0).trans rfl), ((cl_ HB hw154_0).trans rfl)⟩ (fun hHeld => ?_); refine with_tabW spec_BookOk.tab6 spec_BookOk.bits6 (fun HT_ HW_ => ?_)
          generalize wr.drew = w18 at BK148 HB HR152_0 HR153_0 hx150_0 hx152_0 hx153_0 hx154_0 hHeld ⊢
          refine pw_ 0 26 (tl_ 30 1) rfl rfl ?_
          refine pw_ 2 28 (tl_ 30 5) rfl rfl ?_
          refine tk1_ 1 27 (tl_ 30 7) rfl rfl hHeld ?_
          refine pw_ 3 29 (tl_ 30 15) rfl rfl ?_
          refine tk1_ 4 30 (tl_ 30 31) rfl rfl hHeld ?_
          refine one_ (i := 5) (N := some 31) (tl_ 30 63) rfl rfl (one_of HT_.out (g0_)) (by decide) (fun K hK => ?_)
          refine goes_ Try.func93 (g0_) rfl #[.int .i64 (rd l0_0 x3_2), .int .i64 0, .int .i64 20] (by rfl) rfl rfl (g2_) ?_
          with_reducible refine (spec_l1In.calls (rd l0_0 x3_2) 0 20 true _ A13.out).mono ?_
          rintro e w' ⟨rfl, ⟨nd, rfl⟩⟩
          refine ⟨_, rfl, ?_⟩
          refine hK.out _ _ ⟨(blk_cell BK148.out 0).trans rfl, (blk_cell BK148.out 1).trans rfl, ((cl_ HB hw150_0).trans rfl), ((cl_ HB hw152_0).trans rfl), ((cl_ HB hw153_0).trans rfl), ((cl_ HB hw154_0).trans rfl)⟩ (fun hHeld => ?_)
          clear hK K
          refine nm_ ?_
          refine pw_ 6 32 (tl_ 30 127) rfl rfl ?_
          refine pw_ 7 33 (tl_ 30 255) rfl rfl ?_
          refine pw_ 8 34 (tl_ 30 511) rfl rfl ?_
          refine pw_ 10 36 (tl_ 30 1535) rfl rfl ?_
          refine pw_ 14 40 (tl_ 30 17919) rfl rfl ?_
          refine tk1_ 9 35 (tl_ 30 18431) rfl rfl hHeld ?_
          refine pw_ 11 37 (tl_ 30 20479) rfl rfl ?_
          refine tk1_ 12 38 (tl_ 30 24575) rfl rfl hHeld ?_
          refine pw_ 13 39 (tl_ 30 32767) rfl rfl ?_
          refine tk1_ 15 41 (tl_ 30 65535) rfl rfl hHeld ?_
          refine pw_ 16 42 (tl_ 30 131071) rfl rfl ?_
          refine pw_ 17 43 (tl_ 30 262143) rfl rfl ?_
          refine pw_ 18 44 (tl_ 30 524287) rfl rfl ?_
          refine pw_ 19 45 (tl_ 30 1048575) rfl rfl ?_
          refine pw_ 20 46 (tl_ 30 2097151) rfl rfl ?_
          refine pw_ 22 48 (tl_ 30 6291455) rfl rfl ?_
          refine pw_ 25 51 (tl_ 30 39845887) rfl rfl ?_
          refine tk1_ 21 47 (tl_ 30 41943039) rfl rfl hHeld ?_
          refine pw_ 23 49 (tl_ 30 50331647) rfl rfl ?_
          refine tk1_ 24 50 (tl_ 30 67108863) rfl rfl hHeld ?_
          refine pw_ 26 52 (tl_ 30 134217727) rfl rfl ?_
          refine tk1_ 27 53 (tl_ 30 268435455) rfl rfl hHeld ?_
          refine pw_ 28 54 (tl_ 30 536870911) rfl rfl ?_
          refine pw_ 29 55 (tl_ 30 1073741823) rfl rfl ?_
          refine done_ (done_of HT_.out (g0_)) ?_
          try go_wp2
          go_meet
          case rel => exact ⟨_, (((rd (rd_L1 l0_1 x3_2) x3_2) != 0)), (g3_), H', ⟨g33_⟩, ⟨uf3_ BK148⟩, ⟨spec_BookOk.calls_q0⟩⟩
         ·rw [if_neg c16] at H
          have c16b0 : (((rd_L1 l0_1 x3_2).length : Int) == (l0_0.length : Int)) = false := beq_eq_false_iff_ne.mpr c16
          have c16b1 : (((rd_L1 l0_1 x3_2).length : Int) != (l0_0.length : Int)) = true := bne_iff_ne.mpr c16
          have c16b2 : ((rd_L1 l0_1 x3_2).length == l0_0.length) = false := by first | simpa using c16 | (simp at c16 ⊢; omega)
          have H' := Aside0.mk H
          clear H
          try go_wp2
          replace BK148 := Aside0.mk (blk_drew BK148.out)
          replace HB := Aside0.mk (below_drew1 HB.out)
          have p150 : 0 ≤ (x3_2 : Int) := of_decide_eq_true (g1_)
          have q150 : x3_2 < (l0_0.length : Int) := of_decide_eq_true (g1_)
          obtain ⟨ad150, e150, hx150_0⟩ := Kd.at_int HR0_0.out x3_2 p150 q150
          have hw150_0 := hx150_0
          cases e150
          replace hx150_0 := cl_ HB hx150_0
          replace p150 := eq_true p150
          replace q150 := eq_true q150
          have p152 : 0 ≤ (x3_2 : Int) := of_decide_eq_true (g1_)
          have q152 : x3_2 < (l0_1.length : Int) := of_decide_eq_true (g1_)
          obtain ⟨ad152, A152_0, c152_0, e152, hx152_0, hl152_0, hi152_0⟩ := at_L1 HR0_1.out x3_2 p152 q152
          have hw152_0 := hx152_0
          cases e152
          replace hx152_0 := cl_ HB hx152_0
          have HR152_0 := Aside0.mk hi152_0
          have HC152_0 := Aside0.mk hl152_0
          clear hi152_0 hl152_0
          replace p152 := eq_true p152
          replace q152 := eq_true q152
          refine start_ (n := 30) (S := fun w' => w'.cell? ⟨gb148, 0, none⟩ = some (.slice (some ad150) l0_0.length c0_0) ∧ w'.cell? ⟨gb148, 1, none⟩ = some (.slice (some ad152) l0_1.length c0_1) ∧ w'.cell? (ad150.add (x3_2).toNat) = some (.int .i64 (rd l0_0 x3_2)) ∧ w'.cell? (ad152.add (x3_2).toNat) = some (.slice A152_0 (rd_L1 l0_1 x3_2).length c152_0)) (ds := []) (tl_ 30 0) (g0_) rfl (g0_) ⟨(blk_cell BK148.out 0).trans rfl, (blk_cell BK148.out 1).trans rfl, ((cl_ HB hw150_0).trans rfl), ((cl_ HB hw152_0).trans rfl)⟩ (fun hHeld => ?_); refine with_tabW spec_BookOk.tab6 spec_BookOk.bits6 (fun HT_ HW_ => ?_)
          generalize wr.drew = w19 at BK148 HB HR152_0 hx150_0 hx152_0 hHeld ⊢
          refine pw_ 0 26 (tl_ 30 1) rfl rfl ?_
          refine pw_ 2 28 (tl_ 30 5) rfl rfl ?_
          refine tk0_ 1 27 (tl_ 30 7) rfl rfl hHeld ?_
          refine pw_ 3 29 (tl_ 30 15) rfl rfl ?_
          refine tk0_ 4 30 (tl_ 30 31) rfl rfl hHeld ?_
          refine one_ (i := 5) (N := some 31) (tl_ 30 63) rfl rfl (one_of HT_.out (g0_)) (by decide) (fun K hK => ?_)
          refine goes_ Try.func93 (g0_) rfl #[.int .i64 (rd l0_0 x3_2), .int .i64 0, .int .i64 20] (by rfl) rfl rfl (g2_) ?_
          with_reducible refine (spec_l1In.calls (rd l0_0 x3_2) 0 20 true _ A13.out).mono ?_
          rintro e w' ⟨rfl, ⟨nd, rfl⟩⟩
          refine ⟨_, rfl, ?_⟩
          refine hK.out _ _ ⟨(blk_cell BK148.out 0).trans rfl, (blk_cell BK148.out 1).trans rfl, ((cl_ HB hw150_0).trans rfl), ((cl_ HB hw152_0).trans rfl)⟩ (fun hHeld => ?_)
          clear hK K
          refine nm_ ?_
          refine pw_ 6 32 (tl_ 30 127) rfl rfl ?_
          refine pw_ 7 33 (tl_ 30 255) rfl rfl ?_
          refine pw_ 8 34 (tl_ 30 511) rfl rfl ?_
          refine pw_ 10 36 (tl_ 30 1535) rfl rfl ?_
          refine pw_ 14 40 (tl_ 30 17919) rfl rfl ?_
          refine tk0_ 9 35 (tl_ 30 18431) rfl rfl hHeld ?_
          refine pw_ 11 37 (tl_ 30 20479) rfl rfl ?_
          refine tk0_ 12 38 (tl_ 30 24575) rfl rfl hHeld ?_
          refine pw_ 13 39 (tl_ 30 32767) rfl rfl ?_
          refine tk0_ 15 41 (tl_ 30 65535) rfl rfl hHeld ?_
          refine pw_ 16 42 (tl_ 30 131071) rfl rfl ?_
          refine pw_ 17 43 (tl_ 30 262143) rfl rfl ?_
          refine pw_ 18 44 (tl_ 30 524287) rfl rfl ?_
          refine pw_ 19 45 (tl_ 30 1048575) rfl rfl ?_
          refine pu_ 20 46 (tl_ 30 2097151) rfl rfl ?_
          refine pu_ 21 47 (tl_ 30 4194303) rfl rfl ?_
          refine pu_ 22 48 (tl_ 30 8388607) rfl rfl ?_
          refine pu_ 23 49 (tl_ 30 16777215) rfl rfl ?_
          refine pu_ 24 50 (tl_ 30 33554431) rfl rfl ?_
          refine pu_ 25 51 (tl_ 30 67108863) rfl rfl ?_
          refine pu_ 26 52 (tl_ 30 134217727) rfl rfl ?_
          refine pu_ 27 53 (tl_ 30 268435455) rfl rfl ?_
          refine pu_ 28 54 (tl_ 30 536870911) rfl rfl ?_
          refine pw_ 29 55 (tl_ 30 1073741823) rfl rfl ?_
          refine done_ (done_of HT_.out (g0_)) ?_
          try go_wp2
          go_meet
          case rel => exact ⟨_, (true), (g3_), H', ⟨g33_⟩, ⟨uf3_ BK148⟩, ⟨spec_BookOk.calls_q0⟩⟩
        ·replace c14 := Bool.eq_false_iff.mpr c14
         subst c14
         replace H := ifn_ H
         have H' := Aside0.mk H
         clear H
         try go_wp2
         replace BK148 := Aside0.mk (blk_drew BK148.out)
         replace HB := Aside0.mk (below_drew1 HB.out)
         have p150 : 0 ≤ (x3_2 : Int) := of_decide_eq_true (g1_)
         have q150 : x3_2 < (l0_0.length : Int) := of_decide_eq_true (g1_)
         obtain ⟨ad150, e150, hx150_0⟩ := Kd.at_int HR0_0.out x3_2 p150 q150
         have hw150_0 := hx150_0
         cases e150
         replace hx150_0 := cl_ HB hx150_0
         replace p150 := eq_true p150
         replace q150 := eq_true q150
         refine start_ (n := 30) (S := fun w' => w'.cell? ⟨gb148, 0, none⟩ = some (.slice (some ad150) l0_0.length c0_0) ∧ w'.cell? ⟨gb148, 1, none⟩ = some (.slice A0_1 l0_1.length c0_1) ∧ w'.cell? (ad150.add (x3_2).toNat) = some (.int .i64 (rd l0_0 x3_2))) (ds := []) (tl_ 30 0) (g0_) rfl (g0_) ⟨(blk_cell BK148.out 0).trans rfl, (blk_cell BK148.out 1).trans rfl, ((cl_ HB hw150_0).trans rfl)⟩ (fun hHeld => ?_); refine with_tabW spec_BookOk.tab6 spec_BookOk.bits6 (fun HT_ HW_ => ?_)
         generalize wr.drew = w20 at BK148 HB hx150_0 hHeld ⊢
         refine pw_ 0 26 (tl_ 30 1) rfl rfl ?_
         refine pw_ 2 28 (tl_ 30 5) rfl rfl ?_
         refine tk2_ 1 27 (tl_ 30 7) rfl rfl hHeld ?_
         refine pw_ 3 29 (tl_ 30 15) rfl rfl ?_
         refine tk2_ 4 30 (tl_ 30 31) rfl rfl hHeld ?_
         refine one_ (i := 5) (N := some 31) (tl_ 30 63) rfl rfl (one_of HT_.out (g0_)) (by decide) (fun K hK => ?_)
         refine goes_ Try.func93 (g0_) rfl #[.int .i64 (rd l0_0 x3_2), .int .i64 0, .int .i64 20] (by rfl) rfl rfl (g2_) ?_
         with_reducible refine (spec_l1In.calls (rd l0_0 x3_2) 0 20 false _ A13.out).mono ?_
         rintro e w' ⟨rfl, ⟨nd, rfl⟩⟩
         refine ⟨_, rfl, ?_⟩
         refine hK.out _ _ ⟨(blk_cell BK148.out 0).trans rfl, (blk_cell BK148.out 1).trans rfl, ((cl_ HB hw150_0).trans rfl)⟩ (fun hHeld => ?_)
         clear hK K
         refine nm_ ?_
         refine pw_ 6 32 (tl_ 30 127) rfl rfl ?_
         refine pw_ 7 33 (tl_ 30 255) rfl rfl ?_
         refine pu_ 8 34 (tl_ 30 511) rfl rfl ?_
         refine pu_ 9 35 (tl_ 30 1023) rfl rfl ?_
         refine pu_ 10 36 (tl_ 30 2047) rfl rfl ?_
         refine pu_ 11 37 (tl_ 30 4095) rfl rfl ?_
         refine pu_ 12 38 (tl_ 30 8191) rfl rfl ?_
         refine pu_ 13 39 (tl_ 30 16383) rfl rfl ?_
         refine pu_ 14 40 (tl_ 30 32767) rfl rfl ?_
         refine pu_ 15 41 (tl_ 30 65535) rfl rfl ?_
         refine pu_ 16 42 (tl_ 30 131071) rfl rfl ?_
         refine pu_ 17 43 (tl_ 30 262143) rfl rfl ?_
         refine pw_ 18 44 (tl_ 30 524287) rfl rfl ?_
         refine pw_ 19 45 (tl_ 30 1048575) rfl rfl ?_
         refine pu_ 20 46 (tl_ 30 2097151) rfl rfl ?_
         refine pu_ 21 47 (tl_ 30 4194303) rfl rfl ?_
         refine pu_ 22 48 (tl_ 30 8388607) rfl rfl ?_
         refine pu_ 23 49 (tl_ 30 16777215) rfl rfl ?_
         refine pu_ 24 50 (tl_ 30 33554431) rfl rfl ?_
         refine pu_ 25 51 (tl_ 30 67108863) rfl rfl ?_
         refine pu_ 26 52 (tl_ 30 134217727) rfl rfl ?_
         refine pu_ 27 53 (tl_ 30 268435455) rfl rfl ?_
         refine pu_ 28 54 (tl_ 30 536870911) rfl rfl ?_
         refine pw_ 29 55 (tl_ 30 1073741823) rfl rfl ?_
         refine done_ (done_of HT_.out (g0_)) ?_
         try go_wp2
         go_meet
         case rel => exact ⟨_, (true), (g3_), H', ⟨g33_⟩, ⟨uf3_ BK148⟩, ⟨spec_BookOk.calls_q0⟩⟩
       case rest =>
        clear HC10
        try clear c1
        try clear p1
        try clear q1
        try clear hx1
        try clear p2
        try clear c9
        try clear c12
        try clear c14
        try clear c15
        try clear p15
        try clear q15
        try clear hx15
        try clear c16
        try clear c16b0
        try clear c16b1
        try clear c16b2
        try clear c17
        try clear hx150_0
        try clear hx152_0
        try clear p150
        try clear p152
        try clear q150
        try clear q152
        obtain ⟨kq, x55_9, rfl, HA, HJ9, BK148, HB⟩ := hcut
        cases kq with
        | zero => exact absurd HA.out (by simp [spec_BookOk.j2])
        | succ kj9 =>
         have H := HA.out
         clear HA
         simp only [spec_BookOk.j2] at H
         by_cases c21 : x55_9 = true
         ·subst c21
          replace H := ifp_ H
          obtain rfl := Option.some.inj H
          go_wp2
          go_ret
          exact ⟨g4_, spec_BookOk.calls_q0⟩
         ·replace c21 := Bool.eq_false_iff.mpr c21
          subst c21
          replace H := ifn_ H
          have H' := Aside0.mk H
          clear H
          go_wp2
          go_loopg [4] kj9 (fun kq v4 w' => ∃ (x4_4 : Int), v4 = .int .i64 x4_4 ∧ Aside0 (spec_BookOk.l1 kq x3_2 x4_4 l0_0 l0_1 = some r) ∧ Aside0 (kq ≤ kj9) ∧ Aside0 (w'.heap[gb148]? = some (.cells #[(.slice A0_0 l0_0.length c0_0), (.slice A0_1 l0_1.length c0_1)] 26 (0, 0))) ∧ Aside0 (Below w.heap.size w w'))
          case atStart => exact ⟨(0), (g3_), H', ⟨Nat.le_refl _⟩, ⟨uf3_ BK148⟩, ⟨spec_BookOk.calls_q0⟩⟩
          case round =>
           clear H'
           try clear c1
           try clear p1
           try clear q1
           try clear hx1
           try clear c2
           try clear p2
           try clear c9
           try clear c12
           try clear c14
           try clear c15
           try clear p15
           try clear q15
           try clear hx15
           try clear c16
           try clear c16b0
           try clear c16b1
           try clear c16b2
           try clear c17
           try clear c21
           try clear hx150_0
           try clear hx152_0
           try clear p1
           try clear p15
           try clear p150
           try clear p152
           try clear p2
           try clear q1
           try clear q15
           try clear q150
           try clear q152
           obtain ⟨x4_4, rfl, HA, HK4, BK148, HB⟩ := hrel
           cases gk with
           | zero => exact absurd HA.out (by simp [spec_BookOk.l1])
           | succ k4 =>
            have H := HA.out
            clear HA
            simp only [spec_BookOk.l1] at H
            obtain ⟨c22, H⟩ := pos_ H
            have c22b0 := decide_eq_true c22
            clear c22
            obtain ⟨c23, H⟩ := pos_ H
            have c23b0 := decide_eq_true c23
            clear c23
            by_cases c24 : x4_4 < ((rd_L1 l0_1 x3_2).length : Int)
            ·rw [if_pos c24] at H
             have c24b0 := decide_eq_true c24
             clear c24
             obtain ⟨c25, H⟩ := pos_ H
             have c25b0 := decide_eq_true c25
             clear c25
             obtain ⟨t158, A26, H⟩ := bind_ H
             by_cases c27 : t158 = true
             ·subst c27
              replace H := ifp_ H
              have H' := Aside0.mk H
              clear H
              obtain ⟨hcz28_0, hcz28_1, hfz28_0, hfz28_1⟩ := blk2_ BK148
              have p155 : 0 ≤ (x3_2 : Int) := of_decide_eq_true (g1_)
              have q155 : x3_2 < (l0_1.length : Int) := of_decide_eq_true (g1_)
              obtain ⟨ad155, A155_0, c155_0, e155, hx155_0, hl155_0, hi155_0⟩ := at_L1 HR0_1.out x3_2 p155 q155
              cases e155
              replace hx155_0 := cl_ HB hx155_0
              have HR155_0 := Aside0.mk hi155_0
              have HC155_0 := Aside0.mk hl155_0
              clear hi155_0 hl155_0
              replace p155 := eq_true p155
              replace q155 := eq_true q155
              have p156 : 0 ≤ (x3_2 : Int) := of_decide_eq_true (g1_)
              have q156 : x3_2 < (l0_1.length : Int) := of_decide_eq_true (g1_)
              obtain ⟨ad156, A156_0, c156_0, e156, hx156_0, hl156_0, hi156_0⟩ := at_L1 HR0_1.out x3_2 p156 q156
              obtain rfl : ad155 = ad156 := (by injection e156)
              replace hx156_0 := cl_ HB hx156_0
              have HR156_0 := Aside0.mk hi156_0
              have HC156_0 := Aside0.mk hl156_0
              clear hi156_0 hl156_0
              replace p156 := eq_true p156
              replace q156 := eq_true q156
              have ea_ := Option.some.inj (hx155_0.symm.trans hx156_0)
              injection ea_ with ea_ en_ ec_
              subst ea_
              subst ec_
              clear en_
              have p157 : 0 ≤ (x4_4 : Int) := of_decide_eq_true (g1_)
              have q157 : x4_4 < ((rd_L1 l0_1 x3_2).length : Int) := of_decide_eq_true (g1_)
              obtain ⟨ad157, e157, hx157_0⟩ := Kd.at_int HR156_0.out x4_4 p157 q157
              cases e157
              replace hx157_0 := cl_ HB hx157_0
              replace p157 := eq_true p157
              replace q157 := eq_true q157
              go_wp2_with (first | ((with_reducible refine gate_callee (f := 93) rfl ?_); refine goesL_ (some 74) rfl rfl Try.func93 k_ rfl #[.int .i64 (rd (rd_L1 l0_1 x3_2) x4_4), .int .i64 0, .int .i64 9] rfl (g2_) ?_; (with_reducible refine (spec_l1In.calls (rd (rd_L1 l0_1 x3_2) x4_4) 0 9 true _ A26.out).mono ?_); rintro e w' ⟨rfl, ⟨nd, rfl⟩⟩; refine ⟨_, rfl, ?_⟩))
              go_roundg k4
              case measure => have := HJ1.out; have := HK2.out; have := HJ9.out; have := HK4.out; omega
              case rel => exact ⟨(wrap64 (x4_4 + 1)), (g3_), H', ⟨by have := HJ1.out; have := HK2.out; have := HJ9.out; have := HK4.out; omega⟩, ⟨uf3_ BK148⟩, ⟨spec_BookOk.calls_q0⟩⟩
             ·replace c27 := Bool.eq_false_iff.mpr c27
              subst c27
              replace H := ifn_ H
              obtain rfl := Option.some.inj H
              obtain ⟨hcz29_0, hcz29_1, hfz29_0, hfz29_1⟩ := blk2_ BK148
              have p155 : 0 ≤ (x3_2 : Int) := of_decide_eq_true (g1_)
              have q155 : x3_2 < (l0_1.length : Int) := of_decide_eq_true (g1_)
              obtain ⟨ad155, A155_0, c155_0, e155, hx155_0, hl155_0, hi155_0⟩ := at_L1 HR0_1.out x3_2 p155 q155
              cases e155
              replace hx155_0 := cl_ HB hx155_0
              have HR155_0 := Aside0.mk hi155_0
              have HC155_0 := Aside0.mk hl155_0
              clear hi155_0 hl155_0
              replace p155 := eq_true p155
              replace q155 := eq_true q155
              have p156 : 0 ≤ (x3_2 : Int) := of_decide_eq_true (g1_)
              have q156 : x3_2 < (l0_1.length : Int) := of_decide_eq_true (g1_)
              obtain ⟨ad156, A156_0, c156_0, e156, hx156_0, hl156_0, hi156_0⟩ := at_L1 HR0_1.out x3_2 p156 q156
              obtain rfl : ad155 = ad156 := (by injection e156)
              replace hx156_0 := cl_ HB hx156_0
              have HR156_0 := Aside0.mk hi156_0
              have HC156_0 := Aside0.mk hl156_0
              clear hi156_0 hl156_0
              replace p156 := eq_true p156
              replace q156 := eq_true q156
              have ea_ := Option.some.inj (hx155_0.symm.trans hx156_0)
              injection ea_ with ea_ en_ ec_
              subst ea_
              subst ec_
              clear en_
              have p157 : 0 ≤ (x4_4 : Int) := of_decide_eq_true (g1_)
              have q157 : x4_4 < ((rd_L1 l0_1 x3_2).length : Int) := of_decide_eq_true (g1_)
              obtain ⟨ad157, e157, hx157_0⟩ := Kd.at_int HR156_0.out x4_4 p157 q157
              cases e157
              replace hx157_0 := cl_ HB hx157_0
              replace p157 := eq_true p157
              replace q157 := eq_true q157
              go_wp2_with (first | ((with_reducible refine gate_callee (f := 93) rfl ?_); refine goesL_ (some 74) rfl rfl Try.func93 k_ rfl #[.int .i64 (rd (rd_L1 l0_1 x3_2) x4_4), .int .i64 0, .int .i64 9] rfl (g2_) ?_; (with_reducible refine (spec_l1In.calls (rd (rd_L1 l0_1 x3_2) x4_4) 0 9 false _ A26.out).mono ?_); rintro e w' ⟨rfl, ⟨nd, rfl⟩⟩; refine ⟨_, rfl, ?_⟩))
              go_ret
              exact ⟨g4_, spec_BookOk.calls_q0⟩
            ·rw [if_neg c24] at H
             have c24b0 := decide_eq_false c24
             clear c24
             have H' := Aside0.mk H
             clear H
             obtain ⟨hcz30_0, hcz30_1, hfz30_0, hfz30_1⟩ := blk2_ BK148
             have p155 : 0 ≤ (x3_2 : Int) := of_decide_eq_true (g1_)
             have q155 : x3_2 < (l0_1.length : Int) := of_decide_eq_true (g1_)
             obtain ⟨ad155, A155_0, c155_0, e155, hx155_0, hl155_0, hi155_0⟩ := at_L1 HR0_1.out x3_2 p155 q155
             cases e155
             replace hx155_0 := cl_ HB hx155_0
             have HR155_0 := Aside0.mk hi155_0
             have HC155_0 := Aside0.mk hl155_0
             clear hi155_0 hl155_0
             replace p155 := eq_true p155
             replace q155 := eq_true q155
             go_wp2
             go_roundg k4
             case measure => have := HJ1.out; have := HK2.out; have := HJ9.out; have := HK4.out; omega
             case rel => exact ⟨(wrap64 (x3_2 + 1)), (g3_), H', ⟨by have := HJ1.out; have := HK2.out; have := HJ9.out; have := HK4.out; omega⟩, ⟨uf3_ BK148⟩, ⟨spec_BookOk.calls_q0⟩⟩
      ·rw [if_neg c9] at H
       have c9b0 := decide_eq_false c9
       clear c9
       obtain rfl := Option.some.inj H
       obtain ⟨hcz31_0, hcz31_1, hfz31_0, hfz31_1⟩ := blk2_ BK148
       go_wp2
       go_ret
       exact ⟨g4_, spec_BookOk.calls_q0⟩
mutual
def spec_OwesOf.l0 : Nat → List Int → Int → List Int → List (List Int) → Option (List Int)
 | 0, _, _, _, _ => none
 | k + 1, x3, x4, x160000, x160001 => if x4 < (x160000.length : Int) then ((spec_BookOk.f k x160000 x160001).bind fun t163 => (spec_OwesOf.j1 k x3 x4 t163 x160000 x160001)) else (spec_OwesOf.j1 k x3 x4 false x160000 x160001)
def spec_OwesOf.j1 : Nat → List Int → Int → Bool → List Int → List (List Int) → Option (List Int)
 | 0, _, _, _, _, _ => none
 | k + 1, x3, x4, x16, x160000, x160001 => if x16 = true then (spec_OwesOf.l1 k x3 x4 0 0 x160000 x160001) else (some x3)
def spec_OwesOf.l1 : Nat → List Int → Int → Int → Int → List Int → List (List Int) → Option (List Int)
 | 0, _, _, _, _, _, _ => none
 | k + 1, x3, x4, x5, x6, x160000, x160001 => if x6 < (x160000.length : Int) then (if 0 ≤ x4 then (if x4 < (x160001.length : Int) then (if 0 ≤ x6 then (if x6 < ((rd_L1 x160001 x4).length : Int) then (spec_OwesOf.l1 k x3 x4 (wrap64 (x5 + (rd (rd_L1 x160001 x4) x6))) (wrap64 (x6 + 1)) x160000 x160001) else (none)) else (none)) else (none)) else (none)) else (if x3.length < 17592186044416 then (spec_OwesOf.l0 k (x3 ++ [x5]) (wrap64 (x4 + 1)) x160000 x160001) else (none))
end
def spec_OwesOf.f (k : Nat) (l0_0 : List Int) (l0_1 : List (List Int)) : Option (List Int) := spec_OwesOf.l0 k (([] : List Int)) 0 l0_0 l0_1
theorem spec_OwesOf.mq {p : Prop} (h : p := by
 repeat' first
 | (with_reducible exact ih0 _ _ _ _)
 | (with_reducible exact ih1 _ _ _ _ _)
 | (with_reducible exact ih2 _ _ _ _ _ _)
 | (with_reducible exact spec_BookOk.mono _ _ _)
 | (with_reducible exact LeO.refl _)
 | (with_reducible exact LeO.none _)
 | (with_reducible refine LeO.ite ?_ ?_)
 | (with_reducible refine LeO.bind ?_ (fun _ => ?_))
 | exact ih0 _ _ _ _
 | exact ih1 _ _ _ _ _
 | exact ih2 _ _ _ _ _ _
 | exact spec_BookOk.mono _ _ _
 | exact LeO.none _
 | refine LeO.ite ?_ ?_
 | refine LeO.bind ?_ (fun _ => ?_)) : p := h
theorem spec_OwesOf.mono_l : ∀ k, (∀ y0 y1 y2 y3, LeO (spec_OwesOf.l0 k y0 y1 y2 y3) (spec_OwesOf.l0 (k + 1) y0 y1 y2 y3)) ∧ (∀ y0 y1 y2 y3 y4, LeO (spec_OwesOf.j1 k y0 y1 y2 y3 y4) (spec_OwesOf.j1 (k + 1) y0 y1 y2 y3 y4)) ∧ (∀ y0 y1 y2 y3 y4 y5, LeO (spec_OwesOf.l1 k y0 y1 y2 y3 y4 y5) (spec_OwesOf.l1 (k + 1) y0 y1 y2 y3 y4 y5))
 | 0 => ⟨fun _ _ _ _ r h => by simp [spec_OwesOf.l0] at h, fun _ _ _ _ _ r h => by simp [spec_OwesOf.j1] at h, fun _ _ _ _ _ _ r h => by simp [spec_OwesOf.l1] at h⟩
 | k + 1 => by
  obtain ⟨ih0, ih1, ih2⟩ := spec_OwesOf.mono_l k
  refine ⟨?_, ?_, ?_⟩
  ·intro y0 y1 y2 y3
   unfold spec_OwesOf.l0
   exact spec_OwesOf.mq
  ·intro y0 y1 y2 y3 y4
   unfold spec_OwesOf.j1
   exact spec_OwesOf.mq
  ·intro y0 y1 y2 y3 y4 y5
   unfold spec_OwesOf.l1
   exact spec_OwesOf.mq
theorem spec_OwesOf.mono : ∀ a0 a1 k, LeO (spec_OwesOf.f k a0 a1) (spec_OwesOf.f (k + 1) a0 a1) := by
 intro a0 a1 k
 obtain ⟨ih0, ih1, ih2⟩ := spec_OwesOf.mono_l k
 unfold spec_OwesOf.f
 exact spec_OwesOf.mq
theorem spec_OwesOf.calls_q0 {p : Prop} (h : p := by repeat (first | (with_reducible first | exact HB.out | apply below_alloc | apply pw_below_drewN | apply below_drew1 | refine below_set ?_ GE159.out) | exact HB.out)) : p := h
set_option maxHeartbeats 8000000 in
set_option maxRecDepth 100000 in
theorem spec_OwesOf.calls (k : Nat) (A0_0 : Option Addr) (c0_0 : Nat) (l0_0 : List Int) (A0_1 : Option Addr) (c0_1 : Nat) (l0_1 : List (List Int)) (r : List Int) (w : World) (hr0_0 : Kd.C (Kd.int .i64) w A0_0 l0_0.length l0_0) (hc0_0 : l0_0.length ≤ c0_0) (hr0_1 : Kd.C (Kd.slice 3 (Kd.int .i64)) w A0_1 l0_1.length l0_1) (hc0_1 : l0_1.length ≤ c0_1) (h : spec_OwesOf.f k l0_0 l0_1 = some r) :
  Calls Try.prog 54 #[.agg #[.slice A0_0 l0_0.length c0_0, .slice A0_1 l0_1.length c0_1]] w fun e w' => ∃ v0_ : Value, e = .returned (v0_) ∧ Kd.R (Kd.int .i64) 3 w' w.heap.size (fun _ => True) v0_ r ∧ Below w.heap.size w w' := by
 have hu26 := Try.underlying26
 have HR0_0 := Aside0.mk hr0_0
 have HC0_0 := Aside0.mk hc0_0
 clear hr0_0 hc0_0
 have HR0_1 := Aside0.mk hr0_1
 have HC0_1 := Aside0.mk hc0_1
 clear hr0_1 hc0_1
 have HB := Aside0.mk (Below.refl w.heap.size w)
 have H : (spec_OwesOf.l0 k (([] : List Int)) 0 l0_0 l0_1) = some r := h
 clear h
 obtain ⟨y160, hy160⟩ : ∃ y_ : List Int, y_ = (([] : List Int)) := ⟨_, rfl⟩
 replace H : (spec_OwesOf.l0 k y160 0 l0_0 l0_1) = some r := by first | (rw [hy160]; with_reducible exact H) | (have H2_ := (Option.bind_some _ _).symm.trans H; rw [hy160]; with_reducible exact H2_) | (have H2_ := (Option.bind_some _ _).symm.trans H; with_reducible exact H2_) | with_reducible exact H | (rw [hy160]; exact H) | exact H
 have Ny160 := Aside0.mk hy160
 clear hy160
 have H' := Aside0.mk H
 clear H
 go_enter Try.func54, Try.ntmps54
 go_wp2_with (first | ((with_reducible refine gate_dst (N := 1) rfl ?_); refine bx_ (N := 1) #[.slice A0_0 l0_0.length c0_0, .slice A0_1 l0_1.length c0_1] 26 ?_; intro gb159 hg w2 hbox hb; have BK159 := Aside0.mk (hbox); have GW159 := Aside0.mk ((by rw [hg]; exact (below_size (spec_OwesOf.calls_q0)) : w.heap.size ≤ gb159)); have GE159 := Aside0.mk ((by rw [hg]; exact (below_size (spec_OwesOf.calls_q0)) : w.heap.size ≤ gb159)); replace HB := Aside0.mk (below_step (spec_OwesOf.calls_q0) hb); clear hb hbox hg) | ((with_reducible refine gate_dst (N := 7) rfl ?_); refine Kd.R_lit (Kd.int .i64) _ 3 ?hg (N := 7) ?hd (xs := ([] : List Int)) (inner := []) (ok := fun _ => True) (okp := fun _ => True) ?hr ?hp (fun _ hk => hk) trivial (Below.refl _ _) (Nat.le_refl _) (by simp) ?_; (case hd => rfl); (case hg => rfl); (case hr => first | (go_simp; done) | (go_simp; rfl)); (case hp => exact (Reps.none _ _)); intro v161 w3 ho4 hb hg_ hnew_; clear hg_ hnew_; (first | rw [← Ny160.out] at ho4 | (simp only [Int.reduceToNat] at ho4; rw [← Ny160.out] at ho4)); have HO162 := Aside0.mk (Kd.R_lower ho4 (below_size (spec_OwesOf.calls_q0))); replace BK159 := bb_ BK159 hb; replace HB := Aside0.mk (below_step (spec_OwesOf.calls_q0) hb); clear hb ho4))
 go_loopg [3, 4] k (fun kq v3 v4 w' => ∃ (x3_1 : List Int) (x4_1 : Int), v4 = .int .i64 x4_1 ∧ Aside0 (spec_OwesOf.l0 kq x3_1 x4_1 l0_0 l0_1 = some r) ∧ Aside0 (kq ≤ k) ∧ Aside0 (Kd.R (Kd.int .i64) 3 w' w.heap.size (fun _ => True) v3 x3_1) ∧ Aside0 (w'.heap[gb159]? = some (.cells #[(.slice A0_0 l0_0.length c0_0), (.slice A0_1 l0_1.length c0_1)] 26 (0, 0))) ∧ Aside0 (Below w.heap.size w w'))
 case atStart => exact ⟨(y160), (0), (g3_), H', ⟨Nat.le_refl _⟩, ⟨uf1_ HO162⟩, ⟨uf3_ BK159⟩, ⟨spec_OwesOf.calls_q0⟩⟩
 case round =>
  clear H'
  try clear p2
  obtain ⟨x3_1, x4_1, rfl, HA, HK1, HO_3, BK159, HB⟩ := hrel
  cases gk with
  | zero => exact absurd HA.out (by simp [spec_OwesOf.l0])
  | succ k1 =>
   have H := HA.out
   clear HA
   simp only [spec_OwesOf.l0] at H
   have HC5 := Aside0.mk H
   clear H
   go_upto_region 3 with (fail)
   go_cut [16] (fun v16 wc => ∃ (kq : Nat) (x16_4 : Bool), v16 = .bool x16_4 ∧ Aside0 (spec_OwesOf.j1 kq x3_1 x4_1 x16_4 l0_0 l0_1 = some r) ∧ Aside0 (kq ≤ k1) ∧ Aside0 (Kd.R (Kd.int .i64) 3 wc w.heap.size (fun _ => True) u3 x3_1) ∧ Aside0 (wc.heap[gb159]? = some (.cells #[(.slice A0_0 l0_0.length c0_0), (.slice A0_1 l0_1.length c0_1)] 26 (0, 0))) ∧ Aside0 (Below w.heap.size w wc))
   case first =>
    have H := HC5.out
    clear HC5
    by_cases c6 : x4_1 < (l0_0.length : Int)
    ·rw [if_pos c6] at H
     have c6b0 := decide_eq_true c6
     clear c6
     (first | rw [c6b0] | (simp only [i64_w, i32_w]; rw [c6b0]) | skip)
     obtain ⟨t163, A7, H⟩ := bind_ H
     have H' := Aside0.mk H
     clear H
     obtain ⟨hcz8_0, hcz8_1, hfz8_0, hfz8_1⟩ := blk2_ BK159
     go_wp2_with (first | (go_at_call 84; (with_reducible refine (spec_BookOk.calls k1 _ _ l0_0 _ _ l0_1 t163 _ ?side1 ?side2 ?side3 ?side4 A7.out).mono ?_); (case side1 => exact uf0_ HR0_0); (case side2 => exact HC0_0.out); (case side3 => exact uf0_ HR0_1); (case side4 => exact HC0_1.out); rintro e w9 ⟨rfl, hb⟩; replace HO_3 := Aside0.mk (Kd.R_below (uf1_ HO_3) hb); replace BK159 := bb_ BK159 hb; replace HB := Aside0.mk (below_step (spec_OwesOf.calls_q0) hb); (try clear hb); (try clear hk hi)))
     go_meet
     case rel => exact ⟨_, (t163), (g3_), H', ⟨g39_⟩, ⟨uf1_ HO_3⟩, ⟨uf3_ BK159⟩, ⟨spec_OwesOf.calls_q0⟩⟩
    ·rw [if_neg c6] at H
     have c6b0 := decide_eq_false c6
     clear c6
     (first | rw [c6b0] | (simp only [i64_w, i32_w]; rw [c6b0]) | skip)
     have H' := Aside0.mk H
     clear H
     obtain ⟨hcz10_0, hcz10_1, hfz10_0, hfz10_1⟩ := blk2_ BK159
     go_wp2
     go_meet
     case rel => exact ⟨_, (false), (g3_), H', ⟨g39_⟩, ⟨uf1_ HO_3⟩, ⟨uf3_ BK159⟩, ⟨spec_OwesOf.calls_q0⟩⟩
   case rest =>
    clear HC5
    try clear p2
    try clear c5
    try clear c6
    try clear c6b0
    try clear hcz10_0
    try clear hcz10_1
    try clear hcz8_0
    try clear hcz8_1
    try clear hfz10_0
    try clear hfz10_1
    try clear hfz8_0
    try clear hfz8_1
    try clear p2
    obtain ⟨kq, x16_4, rfl, HA, HJ4, HO_3, BK159, HB⟩ := hcut
    cases kq with
    | zero => exact absurd HA.out (by simp [spec_OwesOf.j1])
    | succ kj4 =>
     have H := HA.out
     clear HA
     simp only [spec_OwesOf.j1] at H
     by_cases c11 : x16_4 = true
     ·subst c11
      replace H := ifp_ H
      have H' := Aside0.mk H
      clear H
      go_wp2
      go_loopg [5, 6] kj4 (fun kq v5 v6 w' => ∃ (x5_3 : Int) (x6_3 : Int), v5 = .int .i64 x5_3 ∧ v6 = .int .i64 x6_3 ∧ Aside0 (spec_OwesOf.l1 kq x3_1 x4_1 x5_3 x6_3 l0_0 l0_1 = some r) ∧ Aside0 (kq ≤ kj4) ∧ Aside0 (Kd.R (Kd.int .i64) 3 w' w.heap.size (fun _ => True) u3 x3_1) ∧ Aside0 (w'.heap[gb159]? = some (.cells #[(.slice A0_0 l0_0.length c0_0), (.slice A0_1 l0_1.length c0_1)] 26 (0, 0))) ∧ Aside0 (Below w.heap.size w w'))
      case atStart => exact ⟨(0), (0), (g3_), (g3_), H', ⟨Nat.le_refl _⟩, ⟨uf1_ HO_3⟩, ⟨uf3_ BK159⟩, ⟨spec_OwesOf.calls_q0⟩⟩
      case round =>
       clear H'
       try clear c1
       try clear p2
       try clear c5
       try clear c6
       try clear c6b0
       try clear c11
       try clear hcz10_0
       try clear hcz10_1
       try clear hcz8_0
       try clear hcz8_1
       try clear hfz10_0
       try clear hfz10_1
       try clear hfz8_0
       try clear hfz8_1
       try clear p2
       obtain ⟨x5_3, x6_3, rfl, rfl, HA, HK3, HO_3, BK159, HB⟩ := hrel
       cases gk with
       | zero => exact absurd HA.out (by simp [spec_OwesOf.l1])
       | succ k3 =>
        have H := HA.out
        clear HA
        simp only [spec_OwesOf.l1] at H
        by_cases c12 : x6_3 < (l0_0.length : Int)
        ·rw [if_pos c12] at H
         have c12b0 := decide_eq_true c12
         clear c12
         obtain ⟨c13, H⟩ := pos_ H
         have c13b0 := decide_eq_true c13
         clear c13
         obtain ⟨c14, H⟩ := pos_ H
         have c14b0 := decide_eq_true c14
         clear c14
         obtain ⟨c15, H⟩ := pos_ H
         have c15b0 := decide_eq_true c15
         clear c15
         obtain ⟨c16, H⟩ := pos_ H
         have c16b0 := decide_eq_true c16
         clear c16
         have H' := Aside0.mk H
         clear H
         obtain ⟨hcz17_0, hcz17_1, hfz17_0, hfz17_1⟩ := blk2_ BK159
         have p164 : 0 ≤ (x4_1 : Int) := of_decide_eq_true (g1_)
         have q164 : x4_1 < (l0_1.length : Int) := of_decide_eq_true (g1_)
         obtain ⟨ad164, A164_0, c164_0, e164, hx164_0, hl164_0, hi164_0⟩ := at_L1 HR0_1.out x4_1 p164 q164
         cases e164
         replace hx164_0 := cl_ HB hx164_0
         have HR164_0 := Aside0.mk hi164_0
         have HC164_0 := Aside0.mk hl164_0
         clear hi164_0 hl164_0
         replace p164 := eq_true p164
         replace q164 := eq_true q164
         have p165 : 0 ≤ (x6_3 : Int) := of_decide_eq_true (g1_)
         have q165 : x6_3 < ((rd_L1 l0_1 x4_1).length : Int) := of_decide_eq_true (g1_)
         obtain ⟨ad165, e165, hx165_0⟩ := Kd.at_int HR164_0.out x6_3 p165 q165
         cases e165
         replace hx165_0 := cl_ HB hx165_0
         replace p165 := eq_true p165
         replace q165 := eq_true q165
         go_wp2
         go_roundg k3
         case measure => have := HK1.out; have := HJ4.out; have := HK3.out; omega
         case rel => exact ⟨(wrap64 (x5_3 + (rd (rd_L1 l0_1 x4_1) x6_3))), (wrap64 (x6_3 + 1)), (g3_), (g3_), H', ⟨by have := HK1.out; have := HJ4.out; have := HK3.out; omega⟩, ⟨uf1_ HO_3⟩, ⟨uf3_ BK159⟩, ⟨spec_OwesOf.calls_q0⟩⟩
        ·rw [if_neg c12] at H
         have c12b0 := decide_eq_false c12
         clear c12
         obtain ⟨c18, H⟩ := pos_ H
         have LMc18 := Aside0.mk c18
         clear c18
         obtain ⟨y166, hy166⟩ : ∃ y_ : List Int, y_ = (x3_1 ++ [x5_3]) := ⟨_, rfl⟩
         replace H : (spec_OwesOf.l0 k3 y166 (wrap64 (x4_1 + 1)) l0_0 l0_1) = some r := by first | (rw [hy166]; with_reducible exact H) | (have H2_ := (Option.bind_some _ _).symm.trans H; rw [hy166]; with_reducible exact H2_) | (have H2_ := (Option.bind_some _ _).symm.trans H; with_reducible exact H2_) | with_reducible exact H | (rw [hy166]; exact H) | exact H
         have Ny166 := Aside0.mk hy166
         clear hy166
         have H' := Aside0.mk H
         clear H
         obtain ⟨hcz19_0, hcz19_1, hfz19_0, hfz19_1⟩ := blk2_ BK159
         go_wp2_with (first | ((with_reducible refine gate_builtin (b := .append) (xs := #[.tmp 36, .tmp 38]) rfl ?_); at_builtin; refine Kd.R_append (Kd.int .i64) (w0 := w) w.heap.size rfl (.tmp 36) (.tmp 38) 23 3 (.int .i64 0) 8 rfl Try.underlying23 info3 rfl (by decide) (by omega) u3 x3_1 x5_3 [.int .i64 x5_3] (fun _ => True) (fun _ => False) rfl rfl ?aP (fun _ hk => hk.elim) ?aF ?aO ?aB ?aS ?aL ?_; (case aP => exact rfl); (case aB => exact (spec_OwesOf.calls_q0)); (case aF => exact (fun _ _ => trivial)); (case aO => exact (uf1_ HO_3)); (case aS => exact (below_size (spec_OwesOf.calls_q0))); (case aL => have := LMc18.out; omega); intro v167 w20 ho hb hg hat; rw [← Ny166.out] at ho; replace BK159 := Aside0.mk (blk_grown (g := gb159) (o := .cells #[.slice A0_0 l0_0.length c0_0, .slice A0_1 l0_1.length c0_1] 26 (0, 0)) (uf3_ BK159) hg (Kd.R_ne HO_3.out BK159.out (by decide))); replace HB := Aside0.mk (hb); have HO168 := Aside0.mk (ho); clear HO_3; clear ho hb hg hat))
         go_roundg k3
         case measure => have := HK1.out; have := HJ4.out; have := HK3.out; omega
         case rel => exact ⟨(y166), (wrap64 (x4_1 + 1)), (g3_), H', ⟨by have := HK1.out; have := HJ4.out; have := HK3.out; omega⟩, ⟨uf1_ HO168⟩, ⟨uf3_ BK159⟩, ⟨spec_OwesOf.calls_q0⟩⟩
     ·replace c11 := Bool.eq_false_iff.mpr c11
      subst c11
      replace H := ifn_ H
      obtain rfl := Option.some.inj H
      go_wp2
      go_ret
      exact ⟨_, g4_, uf1_ HO_3, spec_OwesOf.calls_q0⟩
def spec_AllPaid.l0 : Nat → List Int → List (S36) → Int → Option ((List (S36)))
 | 0, _, _, _ => none
 | k + 1, x3, x4, x5 => if x5 < (x3.length : Int) then (if 0 ≤ x5 then (if x4.length < 8796093022208 then (spec_AllPaid.l0 k x3 (x4 ++ [(⟨rd x3 x5, 1⟩ : S36)]) (wrap64 (x5 + 1))) else (none)) else (none)) else (some x4)
def spec_AllPaid.f (k : Nat) (l0_0 : List Int) (l0_1 : List (List Int)) : Option ((List (S36))) := (spec_OwesOf.f k l0_0 l0_1).bind fun t170 => (spec_AllPaid.l0 k t170 (([] : List (S36))) 0)
theorem spec_AllPaid.mq {p : Prop} (h : p := by
 repeat' first
 | (with_reducible exact ih0 _ _ _)
 | (with_reducible exact spec_OwesOf.mono _ _ _)
 | (with_reducible exact LeO.refl _)
 | (with_reducible exact LeO.none _)
 | (with_reducible refine LeO.ite ?_ ?_)
 | (with_reducible refine LeO.bind ?_ (fun _ => ?_))
 | exact ih0 _ _ _
 | exact spec_OwesOf.mono _ _ _
 | exact LeO.none _
 | refine LeO.ite ?_ ?_
 | refine LeO.bind ?_ (fun _ => ?_)) : p := h
theorem spec_AllPaid.mono_l : ∀ k, (∀ y0 y1 y2, LeO (spec_AllPaid.l0 k y0 y1 y2) (spec_AllPaid.l0 (k + 1) y0 y1 y2))
 | 0 => fun _ _ _ r h => by simp [spec_AllPaid.l0] at h
 | k + 1 => by
  have ih0 := spec_AllPaid.mono_l k
  ·intro y0 y1 y2
   unfold spec_AllPaid.l0
   exact spec_AllPaid.mq
theorem spec_AllPaid.mono : ∀ a0 a1 k, LeO (spec_AllPaid.f k a0 a1) (spec_AllPaid.f (k + 1) a0 a1) := by
 intro a0 a1 k
 have ih0 := spec_AllPaid.mono_l k
 unfold spec_AllPaid.f
 exact spec_AllPaid.mq
theorem spec_AllPaid.calls_q0 {p : Prop} (h : p := by repeat (first | (with_reducible first | exact HB.out | apply below_alloc | apply pw_below_drewN | apply below_drew1 | refine below_set ?_ GE169.out) | exact HB.out)) : p := h
set_option maxHeartbeats 8000000 in
set_option maxRecDepth 100000 in
theorem spec_AllPaid.calls (k : Nat) (A0_0 : Option Addr) (c0_0 : Nat) (l0_0 : List Int) (A0_1 : Option Addr) (c0_1 : Nat) (l0_1 : List (List Int)) (r : List (S36)) (w : World) (hr0_0 : Kd.C (Kd.int .i64) w A0_0 l0_0.length l0_0) (hc0_0 : l0_0.length ≤ c0_0) (hr0_1 : Kd.C (Kd.slice 3 (Kd.int .i64)) w A0_1 l0_1.length l0_1) (hc0_1 : l0_1.length ≤ c0_1) (h : spec_AllPaid.f k l0_0 l0_1 = some r) :
  Calls Try.prog 17 #[.agg #[.slice A0_0 l0_0.length c0_0, .slice A0_1 l0_1.length c0_1]] w fun e w' => ∃ v0_ : Value, e = .returned (v0_) ∧ Kd.R k36 36 w' w.heap.size (fun _ => True) v0_ r ∧ Below w.heap.size w w' := by
 have hu26 := Try.underlying26
 have hu36 := Try.underlying36
 have HR0_0 := Aside0.mk hr0_0
 have HC0_0 := Aside0.mk hc0_0
 clear hr0_0 hc0_0
 have HR0_1 := Aside0.mk hr0_1
 have HC0_1 := Aside0.mk hc0_1
 clear hr0_1 hc0_1
 have HB := Aside0.mk (Below.refl w.heap.size w)
 have H : ((spec_OwesOf.f k l0_0 l0_1).bind fun t170 => (spec_AllPaid.l0 k t170 (([] : List (S36))) 0)) = some r := h
 clear h
 obtain ⟨t170, A2, H⟩ := bind_ H
 obtain ⟨y173, hy173⟩ : ∃ y_ : List (S36), y_ = (([] : List (S36))) := ⟨_, rfl⟩
 replace H : (spec_AllPaid.l0 k t170 y173 0) = some r := by first | (rw [hy173]; with_reducible exact H) | (have H2_ := (Option.bind_some _ _).symm.trans H; rw [hy173]; with_reducible exact H2_) | (have H2_ := (Option.bind_some _ _).symm.trans H; with_reducible exact H2_) | with_reducible exact H | (rw [hy173]; exact H) | exact H
 have Ny173 := Aside0.mk hy173
 clear hy173
 have H' := Aside0.mk H
 clear H
 go_enter Try.func17, Try.ntmps17
 go_wp2_with (first | ((with_reducible refine gate_dst (N := 1) rfl ?_); refine bx_ (N := 1) #[.slice A0_0 l0_0.length c0_0, .slice A0_1 l0_1.length c0_1] 26 ?_; intro gb169 hg w3 hbox hb; have BK169 := Aside0.mk (hbox); have GW169 := Aside0.mk ((by rw [hg]; exact (below_size (spec_AllPaid.calls_q0)) : w.heap.size ≤ gb169)); have GE169 := Aside0.mk ((by rw [hg]; exact (below_size (spec_AllPaid.calls_q0)) : w.heap.size ≤ gb169)); replace HB := Aside0.mk (below_step (spec_AllPaid.calls_q0) hb); clear hb hbox hg; obtain ⟨hcz4_0, hcz4_1, hfz4_0, hfz4_1⟩ := blk2_ BK169) | ((with_reducible refine gate_callee (f := 54) rfl ?_); refine goesL_ (some 7) rfl rfl Try.func54 k_ rfl #[.agg #[.slice A0_0 l0_0.length c0_0, .slice A0_1 l0_1.length c0_1]] rfl (g2_) ?_; (with_reducible refine (spec_OwesOf.calls k _ _ l0_0 _ _ l0_1 t170 _ ?side1 ?side2 ?side3 ?side4 A2.out).mono ?_); (case side1 => exact uf0_ HR0_0); (case side2 => exact HC0_0.out); (case side3 => exact uf0_ HR0_1); (case side4 => exact HC0_1.out); rintro e w5 ⟨v171, rfl, ho0, hb⟩; refine ⟨_, rfl, ?_⟩; have HO172 := Aside0.mk (Kd.R_lower ho0 (below_size (spec_AllPaid.calls_q0))); replace BK169 := bb_ BK169 hb; replace HB := Aside0.mk (below_step (spec_AllPaid.calls_q0) hb); (try clear hb); (try clear hk hi); (try clear ho0)) | ((with_reducible refine gate_dst (N := 8) rfl ?_); refine Kd.R_lit k36 _ 36 ?hg (N := 8) ?hd (xs := ([] : List (S36))) (inner := []) (ok := fun _ => True) (okp := fun _ => True) ?hr ?hp (fun _ hk => hk) trivial (Below.refl _ _) (Nat.le_refl _) (by simp) ?_; (case hd => rfl); (case hg => rfl); (case hr => first | (go_simp; done) | (go_simp; rfl)); (case hp => exact (Reps.none _ _)); intro v174 w6 ho7 hb hg_ hnew_; clear hg_ hnew_; (first | rw [← Ny173.out] at ho7 | (simp only [Int.reduceToNat] at ho7; rw [← Ny173.out] at ho7)); replace HO172 := Aside0.mk (Kd.R_below (uf1_ HO172) hb); have HO175 := Aside0.mk (Kd.R_lower ho7 (below_size (spec_AllPaid.calls_q0))); replace BK169 := bb_ BK169 hb; replace HB := Aside0.mk (below_step (spec_AllPaid.calls_q0) hb); clear hb ho7))
 go_loopg [4, 5] k (fun kq v4 v5 w' => ∃ (x4_1 : List (S36)) (x5_1 : Int), v5 = .int .i64 x5_1 ∧ Aside0 (spec_AllPaid.l0 kq t170 x4_1 x5_1 = some r) ∧ Aside0 (kq ≤ k) ∧ Aside0 (Kd.R (Kd.int .i64) 3 w' w.heap.size (fun _ => True) v171 t170) ∧ Aside0 (Kd.R k36 36 w' w.heap.size (fun _ => True) v4 x4_1) ∧ Aside0 (w'.heap[gb169]? = some (.cells #[(.slice A0_0 l0_0.length c0_0), (.slice A0_1 l0_1.length c0_1)] 26 (0, 0))) ∧ Aside0 (Below w.heap.size w w'))
 case atStart => exact ⟨(y173), (0), (g3_), H', ⟨Nat.le_refl _⟩, ⟨uf1_ HO172⟩, ⟨uf1_ HO175⟩, ⟨uf3_ BK169⟩, ⟨spec_AllPaid.calls_q0⟩⟩
 case round =>
  clear H'
  try clear c1
  try clear p2
  try clear c5
  try clear hcz4_0
  try clear hcz4_1
  try clear hfz4_0
  try clear hfz4_1
  obtain ⟨x4_1, x5_1, rfl, HA, HK1, HO_3, HO_4, BK169, HB⟩ := hrel
  cases gk with
  | zero => exact absurd HA.out (by simp [spec_AllPaid.l0])
  | succ k1 =>
   have H := HA.out
   clear HA
   simp only [spec_AllPaid.l0] at H
   by_cases c8 : x5_1 < (t170.length : Int)
   ·rw [if_pos c8] at H
    have c8b0 := decide_eq_true c8
    clear c8
    obtain ⟨c9, H⟩ := pos_ H
    have c9b0 := decide_eq_true c9
    clear c9
    obtain ⟨c10, H⟩ := pos_ H
    have LMc10 := Aside0.mk c10
    clear c10
    obtain ⟨y177, hy177⟩ : ∃ y_ : List (S36), y_ = (x4_1 ++ [(⟨rd t170 x5_1, 1⟩ : S36)]) := ⟨_, rfl⟩
    replace H : (spec_AllPaid.l0 k1 t170 y177 (wrap64 (x5_1 + 1))) = some r := by first | (rw [hy177]; with_reducible exact H) | (have H2_ := (Option.bind_some _ _).symm.trans H; rw [hy177]; with_reducible exact H2_) | (have H2_ := (Option.bind_some _ _).symm.trans H; with_reducible exact H2_) | with_reducible exact H | (rw [hy177]; exact H) | exact H
    have Ny177 := Aside0.mk hy177
    clear hy177
    have H' := Aside0.mk H
    clear H
    obtain ⟨Ao11, co11, eo11⟩ := Kd.R_slice HO_3.out
    subst eo11
    have p176 : 0 ≤ (x5_1 : Int) := of_decide_eq_true (g1_)
    have q176 : x5_1 < (t170.length : Int) := of_decide_eq_true (g1_)
    obtain ⟨ad176, e176, hx176_0⟩ := Kd.at_int (Kd.R_reads' HO_3.out).2.2 x5_1 p176 q176
    cases e176
    replace p176 := eq_true p176
    replace q176 := eq_true q176
    go_wp2_with (first | ((with_reducible refine gate_builtin (b := .append) (xs := #[.tmp 15, .tmp 21]) rfl ?_); at_builtin; refine Kd.R_append k36 (w0 := w) w.heap.size rfl (.tmp 15) (.tmp 21) 27 36 (.agg #[(.int .i64 0), (.int .i64 0)]) 16 rfl Try.underlying27 info36 rfl (by decide) (by omega) u4 x4_1 (⟨rd t170 x5_1, 1⟩ : S36) [.int .i64 (rd t170 x5_1), .int .i64 1] (fun _ => True) (fun _ => False) rfl rfl ?aP (fun _ hk => hk.elim) ?aF ?aO ?aB ?aS ?aL ?_; (case aP => exact k36_mkM _ _ _ (⟨rd t170 x5_1, 1⟩ : S36)); (case aB => exact (spec_AllPaid.calls_q0)); (case aF => exact (fun _ _ => trivial)); (case aO => exact (uf1_ HO_4)); (case aS => exact (below_size (spec_AllPaid.calls_q0))); (case aL => have := LMc10.out; omega); intro v178 w12 ho hb hg hat; rw [← Ny177.out] at ho; replace HO_3 := Aside0.mk (Kd.R_over' (uf1_ HO_3) (Kd.R_typed (uf1_ HO_4)) (by decide) hg); replace BK169 := Aside0.mk (blk_grown (g := gb169) (o := .cells #[.slice A0_0 l0_0.length c0_0, .slice A0_1 l0_1.length c0_1] 26 (0, 0)) (uf3_ BK169) hg (Kd.R_ne HO_4.out BK169.out (by decide))); replace HB := Aside0.mk (hb); have HO179 := Aside0.mk (ho); clear HO_4; clear ho hb hg hat))
    go_roundg k1
    case measure => have := HK1.out; omega
    case rel => exact ⟨(y177), (wrap64 (x5_1 + 1)), (g3_), H', ⟨g12_⟩, ⟨uf1_ HO_3⟩, ⟨uf1_ HO179⟩, ⟨uf3_ BK169⟩, ⟨spec_AllPaid.calls_q0⟩⟩
   ·rw [if_neg c8] at H
    have c8b0 := decide_eq_false c8
    clear c8
    obtain rfl := Option.some.inj H
    obtain ⟨Ao13, co13, eo13⟩ := Kd.R_slice HO_3.out
    subst eo13
    go_wp2
    go_ret
    exact ⟨_, g4_, uf1_ HO_4, spec_AllPaid.calls_q0⟩
def spec_l1Abs.f (a0 : Int) : Option (Int) := if a0 < 0 then (some (wrap64 (-a0))) else (some a0)
set_option maxHeartbeats 8000000 in
set_option maxRecDepth 100000 in
theorem spec_l1Abs.calls (a0 : Int) (r : Int) (w : World) (h : spec_l1Abs.f a0 = some r) :
  Calls Try.prog 97 #[.int .i64 a0] w fun e w' => e = .returned (.int .i64 r) ∧ Drawn0 w w' := by
 have H : (if a0 < 0 then (some (wrap64 (-a0))) else (some a0)) = some r := h
 clear h
 by_cases c2 : a0 < 0
 ·rw [if_pos c2] at H
  have c2b0 := decide_eq_true c2
  clear c2
  obtain rfl := Option.some.inj H
  go_enter Try.func97, Try.ntmps97
  go_wp2
  go_ret
  exact ⟨g3_, g6_⟩
 ·rw [if_neg c2] at H
  have c2b0 := decide_eq_false c2
  clear c2
  obtain rfl := Option.some.inj H
  go_enter Try.func97, Try.ntmps97
  go_wp2
  go_ret
  exact ⟨g3_, g6_⟩
def spec_l1Divisor.l0 : Nat → Int → Int → Option (Int)
 | 0, _, _ => none
 | k + 1, x0, x1 => if x1 > 0 then (if x1 = 0 then (none) else (spec_l1Divisor.l0 k x1 (Int.tmod x0 x1))) else (some x0)
def spec_l1Divisor.f (k : Nat) (a0 : Int) (a1 : Int) : Option (Int) := (spec_l1Abs.f a0).bind fun t180 => ((spec_l1Abs.f a1).bind fun t181 => (spec_l1Divisor.l0 k t180 t181))
theorem spec_l1Divisor.mq {p : Prop} (h : p := by
 repeat' first
 | (with_reducible exact ih0 _ _)
 | (with_reducible exact LeO.refl _)
 | (with_reducible exact LeO.none _)
 | (with_reducible refine LeO.ite ?_ ?_)
 | (with_reducible refine LeO.bind ?_ (fun _ => ?_))
 | exact ih0 _ _
 | exact LeO.none _
 | refine LeO.ite ?_ ?_
 | refine LeO.bind ?_ (fun _ => ?_)) : p := h
theorem spec_l1Divisor.mono_l : ∀ k, (∀ y0 y1, LeO (spec_l1Divisor.l0 k y0 y1) (spec_l1Divisor.l0 (k + 1) y0 y1))
 | 0 => fun _ _ r h => by simp [spec_l1Divisor.l0] at h
 | k + 1 => by
  have ih0 := spec_l1Divisor.mono_l k
  ·intro y0 y1
   unfold spec_l1Divisor.l0
   exact spec_l1Divisor.mq
theorem spec_l1Divisor.mono : ∀ a0 a1 k, LeO (spec_l1Divisor.f k a0 a1) (spec_l1Divisor.f (k + 1) a0 a1) := by
 intro a0 a1 k
 have ih0 := spec_l1Divisor.mono_l k
 unfold spec_l1Divisor.f
 exact spec_l1Divisor.mq
set_option maxHeartbeats 8000000 in
set_option maxRecDepth 100000 in
theorem spec_l1Divisor.calls (k : Nat) (a0 : Int) (a1 : Int) (r : Int) (w : World) (h : spec_l1Divisor.f k a0 a1 = some r) :
  Calls Try.prog 95 #[.int .i64 a0, .int .i64 a1] w fun e w' => e = .returned (.int .i64 r) ∧ Drawn0 w w' := by
 have H : ((spec_l1Abs.f a0).bind fun t180 => ((spec_l1Abs.f a1).bind fun t181 => (spec_l1Divisor.l0 k t180 t181))) = some r := h
 clear h
 obtain ⟨t180, A3, H⟩ := bind_ H
 obtain ⟨t181, A4, H⟩ := bind_ H
 have H' := Aside0.mk H
 clear H
 go_enter Try.func95, Try.ntmps95
 go_wp2_with (first | (go_at_call 97; (with_reducible refine (spec_l1Abs.calls a0 t180 _ A3.out).mono ?_); rintro e w' ⟨rfl, ⟨nd, rfl⟩⟩; (try first | exact ⟨rfl, _, World.drewN_drewN _ _ _⟩ | exact ⟨rfl, _, Eq.trans (World.drewN_drewN _ _ _) (congrArg (World.drewN _) (Nat.add_assoc _ _ _))⟩)) | (go_at_call 97; (with_reducible refine (spec_l1Abs.calls a1 t181 _ A4.out).mono ?_); rintro e w' ⟨rfl, ⟨nd, rfl⟩⟩; (try first | exact ⟨rfl, _, World.drewN_drewN _ _ _⟩ | exact ⟨rfl, _, Eq.trans (World.drewN_drewN _ _ _) (congrArg (World.drewN _) (Nat.add_assoc _ _ _))⟩)))
 repeat (go_quiet (first | (go_at_call 97; (with_reducible refine (spec_l1Abs.calls a0 t180 _ A3.out).mono ?_); rintro e w' ⟨rfl, ⟨nd, rfl⟩⟩; (try first | exact ⟨rfl, _, World.drewN_drewN _ _ _⟩ | exact ⟨rfl, _, Eq.trans (World.drewN_drewN _ _ _) (congrArg (World.drewN _) (Nat.add_assoc _ _ _))⟩)) | (go_at_call 97; (with_reducible refine (spec_l1Abs.calls a1 t181 _ A4.out).mono ?_); rintro e w' ⟨rfl, ⟨nd, rfl⟩⟩; (try first | exact ⟨rfl, _, World.drewN_drewN _ _ _⟩ | exact ⟨rfl, _, Eq.trans (World.drewN_drewN _ _ _) (congrArg (World.drewN _) (Nat.add_assoc _ _ _))⟩))); try go_wp2_with (first | (go_at_call 97; (with_reducible refine (spec_l1Abs.calls a0 t180 _ A3.out).mono ?_); rintro e w' ⟨rfl, ⟨nd, rfl⟩⟩; (try first | exact ⟨rfl, _, World.drewN_drewN _ _ _⟩ | exact ⟨rfl, _, Eq.trans (World.drewN_drewN _ _ _) (congrArg (World.drewN _) (Nat.add_assoc _ _ _))⟩)) | (go_at_call 97; (with_reducible refine (spec_l1Abs.calls a1 t181 _ A4.out).mono ?_); rintro e w' ⟨rfl, ⟨nd, rfl⟩⟩; (try first | exact ⟨rfl, _, World.drewN_drewN _ _ _⟩ | exact ⟨rfl, _, Eq.trans (World.drewN_drewN _ _ _) (congrArg (World.drewN _) (Nat.add_assoc _ _ _))⟩))))
 go_loopg [0, 1] k (fun kq v0 v1 w' => ∃ (x0_1 : Int) (x1_1 : Int), v0 = .int .i64 x0_1 ∧ v1 = .int .i64 x1_1 ∧ Aside0 (spec_l1Divisor.l0 kq x0_1 x1_1 = some r) ∧ Aside0 (kq ≤ k) ∧ Drawn0 w w')
 case atStart => exact ⟨(t180), (t181), (g3_), (g3_), H', ⟨Nat.le_refl _⟩, g6_⟩
 case round =>
  clear H'
  try clear p2
  obtain ⟨x0_1, x1_1, rfl, rfl, HA, HK1, ⟨m1, rfl⟩⟩ := hrel
  cases gk with
  | zero => exact absurd HA.out (by simp [spec_l1Divisor.l0])
  | succ k1 =>
   have H := HA.out
   clear HA
   simp only [spec_l1Divisor.l0] at H
   by_cases c5 : x1_1 > 0
   ·rw [if_pos c5] at H
    have c5b0 := decide_eq_true c5
    clear c5
    by_cases c6 : x1_1 = 0
    ·rw [if_pos c6] at H
     exact absurd H (by simp)
    ·rw [if_neg c6] at H
     have c6b0 : (x1_1 == 0) = false := beq_eq_false_iff_ne.mpr c6
     have c6b1 : (x1_1 != 0) = true := bne_iff_ne.mpr c6
     have H' := Aside0.mk H
     clear H
     go_wp2
     repeat (go_quiet (fail); try go_wp2)
     go_roundg k1
     case measure => have := HK1.out; omega
     case rel => exact ⟨(x1_1), (Int.tmod x0_1 x1_1), (g3_), (g3_), H', ⟨g12_⟩, g6_⟩
   ·rw [if_neg c5] at H
    have c5b0 := decide_eq_false c5
    clear c5
    obtain rfl := Option.some.inj H
    go_wp2
    repeat (go_quiet (fail); try go_wp2)
    go_ret
    exact ⟨g3_, g6_⟩
def spec_FracOk.f (k : Nat) (a0_0 : Int) (a0_1 : Int) : Option (Bool) := (spec_l1In.f a0_1 1 1000000000).bind fun t183 => (if t183 = true then ((spec_l1In.f a0_0 (-1000000000) 1000000000).bind fun t184 => (if t184 = true then ((spec_l1Divisor.f k a0_0 a0_1).bind fun t185 => (some (t185 == 1))) else (some false))) else (some false))
theorem spec_FracOk.mq {p : Prop} (h : p := by
 repeat' first
 | (with_reducible exact spec_l1Divisor.mono _ _ _)
 | (with_reducible exact LeO.refl _)
 | (with_reducible exact LeO.none _)
 | (with_reducible refine LeO.ite ?_ ?_)
 | (with_reducible refine LeO.bind ?_ (fun _ => ?_))
 | exact spec_l1Divisor.mono _ _ _
 | exact LeO.none _
 | refine LeO.ite ?_ ?_
 | refine LeO.bind ?_ (fun _ => ?_)) : p := h
theorem spec_FracOk.mono : ∀ a0 a1 k, LeO (spec_FracOk.f k a0 a1) (spec_FracOk.f (k + 1) a0 a1) := by
 intro a0 a1 k
 unfold spec_FracOk.f
 exact spec_FracOk.mq
theorem spec_FracOk.calls_q0 {p : Prop} (h : p := by repeat (first | (with_reducible first | exact HB.out | apply below_alloc | apply pw_below_drewN | apply below_drew1 | refine below_set ?_ GE182.out) | exact HB.out)) : p := h
set_option maxHeartbeats 8000000 in
set_option maxRecDepth 100000 in
theorem spec_FracOk.calls (k : Nat) (a0_0 : Int) (a0_1 : Int) (r : Bool) (w : World) (h : spec_FracOk.f k a0_0 a0_1 = some r) :
  Calls Try.prog 88 #[.agg #[.int .i64 a0_0, .int .i64 a0_1]] w fun e w' => e = .returned (.bool r) ∧ Below w.heap.size w w' := by
 have hu36 := Try.underlying36
 have HB := Aside0.mk (Below.refl w.heap.size w)
 have H : ((spec_l1In.f a0_1 1 1000000000).bind fun t183 => (if t183 = true then ((spec_l1In.f a0_0 (-1000000000) 1000000000).bind fun t184 => (if t184 = true then ((spec_l1Divisor.f k a0_0 a0_1).bind fun t185 => (some (t185 == 1))) else (some false))) else (some false))) = some r := h
 clear h
 obtain ⟨t183, A2, H⟩ := bind_ H
 by_cases c3 : t183 = true
 ·subst c3
  replace H := ifp_ H
  obtain ⟨t184, A4, H⟩ := bind_ H
  by_cases c5 : t184 = true
  ·subst c5
   replace H := ifp_ H
   obtain ⟨t185, A6, H⟩ := bind_ H
   obtain rfl := Option.some.inj H
   go_enter Try.func88, Try.ntmps88
   go_wp2_with (first | ((with_reducible refine gate_dst (N := 1) rfl ?_); refine bx_ (N := 1) #[.int .i64 a0_0, .int .i64 a0_1] 36 ?_; intro gb182 hg w7 hbox hb; have BK182 := Aside0.mk (hbox); have GW182 := Aside0.mk ((g40_ : w.heap.size ≤ gb182)); have GE182 := Aside0.mk ((g40_ : w.heap.size ≤ gb182)); replace HB := Aside0.mk (below_step (spec_FracOk.calls_q0) hb); clear hb hbox hg; obtain ⟨hcz8_0, hcz8_1, hfz8_0, hfz8_1⟩ := blk2_ BK182) | ((with_reducible refine gate_callee (f := 93) rfl ?_); refine goesL_ (some 5) rfl rfl Try.func93 k_ rfl #[.int .i64 a0_1, .int .i64 1, .int .i64 1000000000] rfl (g2_) ?_; (with_reducible refine (spec_l1In.calls a0_1 1 1000000000 true _ A2.out).mono ?_); rintro e w' ⟨rfl, ⟨nd, rfl⟩⟩; refine ⟨_, rfl, ?_⟩) | (go_at_call 93; (with_reducible refine (spec_l1In.calls a0_0 (-1000000000) 1000000000 true _ A4.out).mono ?_); rintro e w' ⟨rfl, ⟨nd, rfl⟩⟩) | (go_at_call 95; (with_reducible refine (spec_l1Divisor.calls k a0_0 a0_1 t185 _ A6.out).mono ?_); rintro e w' ⟨rfl, ⟨nd, rfl⟩⟩))
   go_ret
   exact ⟨g4_, spec_FracOk.calls_q0⟩
  ·replace c5 := Bool.eq_false_iff.mpr c5
   subst c5
   replace H := ifn_ H
   obtain rfl := Option.some.inj H
   go_enter Try.func88, Try.ntmps88
   go_wp2_with (first | ((with_reducible refine gate_dst (N := 1) rfl ?_); refine bx_ (N := 1) #[.int .i64 a0_0, .int .i64 a0_1] 36 ?_; intro gb182 hg w9 hbox hb; have BK182 := Aside0.mk (hbox); have GW182 := Aside0.mk ((g40_ : w.heap.size ≤ gb182)); have GE182 := Aside0.mk ((g40_ : w.heap.size ≤ gb182)); replace HB := Aside0.mk (below_step (spec_FracOk.calls_q0) hb); clear hb hbox hg; obtain ⟨hcz10_0, hcz10_1, hfz10_0, hfz10_1⟩ := blk2_ BK182) | ((with_reducible refine gate_callee (f := 93) rfl ?_); refine goesL_ (some 5) rfl rfl Try.func93 k_ rfl #[.int .i64 a0_1, .int .i64 1, .int .i64 1000000000] rfl (g2_) ?_; (with_reducible refine (spec_l1In.calls a0_1 1 1000000000 true _ A2.out).mono ?_); rintro e w' ⟨rfl, ⟨nd, rfl⟩⟩; refine ⟨_, rfl, ?_⟩) | (go_at_call 93; (with_reducible refine (spec_l1In.calls a0_0 (-1000000000) 1000000000 false _ A4.out).mono ?_); rintro e w' ⟨rfl, ⟨nd, rfl⟩⟩))
   go_ret
   exact ⟨g4_, spec_FracOk.calls_q0⟩
 ·replace c3 := Bool.eq_false_iff.mpr c3
  subst c3
  replace H := ifn_ H
  obtain rfl := Option.some.inj H
  go_enter Try.func88, Try.ntmps88
  go_wp2_with (first | ((with_reducible refine gate_dst (N := 1) rfl ?_); refine bx_ (N := 1) #[.int .i64 a0_0, .int .i64 a0_1] 36 ?_; intro gb182 hg w11 hbox hb; have BK182 := Aside0.mk (hbox); have GW182 := Aside0.mk ((g40_ : w.heap.size ≤ gb182)); have GE182 := Aside0.mk ((g40_ : w.heap.size ≤ gb182)); replace HB := Aside0.mk (below_step (spec_FracOk.calls_q0) hb); clear hb hbox hg; obtain ⟨hcz12_0, hcz12_1, hfz12_0, hfz12_1⟩ := blk2_ BK182) | ((with_reducible refine gate_callee (f := 93) rfl ?_); refine goesL_ (some 5) rfl rfl Try.func93 k_ rfl #[.int .i64 a0_1, .int .i64 1, .int .i64 1000000000] rfl (g2_) ?_; (with_reducible refine (spec_l1In.calls a0_1 1 1000000000 false _ A2.out).mono ?_); rintro e w' ⟨rfl, ⟨nd, rfl⟩⟩; refine ⟨_, rfl, ?_⟩))
  go_ret
  exact ⟨g4_, spec_FracOk.calls_q0⟩
def spec_BeforeOf.j0 : Nat → Bool → Int → Int → Int → Int → Option (Int)
 | 0, _, _, _, _, _ => none
 | k + 1, x14, x199000, x199001, x200000, x200001 => if x14 = true then (some (-2)) else (if (wrap64 (x199000 * x200001)) < (wrap64 (x200000 * x199001)) then (some (-1)) else (if (wrap64 (x199000 * x200001)) > (wrap64 (x200000 * x199001)) then (some 1) else (some 0)))
def spec_BeforeOf.f (k : Nat) (a0_0 : Int) (a0_1 : Int) (a1_0 : Int) (a1_1 : Int) : Option (Int) := (spec_FracOk.f k a0_0 a0_1).bind fun t200 => (if t200 = true then ((spec_FracOk.f k a1_0 a1_1).bind fun t201 => (spec_BeforeOf.j0 k (!t201) a0_0 a0_1 a1_0 a1_1)) else (spec_BeforeOf.j0 k true a0_0 a0_1 a1_0 a1_1))
theorem spec_BeforeOf.mq {p : Prop} (h : p := by
 repeat' first
 | (with_reducible exact ih0 _ _ _ _ _)
 | (with_reducible exact spec_FracOk.mono _ _ _)
 | (with_reducible exact LeO.refl _)
 | (with_reducible exact LeO.none _)
 | (with_reducible refine LeO.ite ?_ ?_)
 | (with_reducible refine LeO.bind ?_ (fun _ => ?_))
 | exact ih0 _ _ _ _ _
 | exact spec_FracOk.mono _ _ _
 | exact LeO.none _
 | refine LeO.ite ?_ ?_
 | refine LeO.bind ?_ (fun _ => ?_)) : p := h
theorem spec_BeforeOf.mono_l : ∀ k, (∀ y0 y1 y2 y3 y4, LeO (spec_BeforeOf.j0 k y0 y1 y2 y3 y4) (spec_BeforeOf.j0 (k + 1) y0 y1 y2 y3 y4))
 | 0 => fun _ _ _ _ _ r h => by simp [spec_BeforeOf.j0] at h
 | k + 1 => by
  have ih0 := spec_BeforeOf.mono_l k
  ·intro y0 y1 y2 y3 y4
   unfold spec_BeforeOf.j0
   exact spec_BeforeOf.mq
theorem spec_BeforeOf.mono : ∀ a0 a1 a2 a3 k, LeO (spec_BeforeOf.f k a0 a1 a2 a3) (spec_BeforeOf.f (k + 1) a0 a1 a2 a3) := by
 intro a0 a1 a2 a3 k
 have ih0 := spec_BeforeOf.mono_l k
 unfold spec_BeforeOf.f
 exact spec_BeforeOf.mq
theorem spec_BeforeOf.calls_q0 {p : Prop} (h : p := by repeat (first | (with_reducible first | exact HB.out | apply below_alloc | apply pw_below_drewN | apply below_drew1 | refine below_set ?_ GE198.out | refine below_set ?_ GE199.out) | exact HB.out)) : p := h
set_option maxHeartbeats 8000000 in
set_option maxRecDepth 100000 in
theorem spec_BeforeOf.calls (k : Nat) (a0_0 : Int) (a0_1 : Int) (a1_0 : Int) (a1_1 : Int) (r : Int) (w : World) (h : spec_BeforeOf.f k a0_0 a0_1 a1_0 a1_1 = some r) :
  Calls Try.prog 75 #[.agg #[.int .i64 a0_0, .int .i64 a0_1], .agg #[.int .i64 a1_0, .int .i64 a1_1]] w fun e w' => e = .returned (.int .i64 r) ∧ Below w.heap.size w w' := by
 have hu36 := Try.underlying36
 have HB := Aside0.mk (Below.refl w.heap.size w)
 have H : ((spec_FracOk.f k a0_0 a0_1).bind fun t200 => (if t200 = true then ((spec_FracOk.f k a1_0 a1_1).bind fun t201 => (spec_BeforeOf.j0 k (!t201) a0_0 a0_1 a1_0 a1_1)) else (spec_BeforeOf.j0 k true a0_0 a0_1 a1_0 a1_1))) = some r := h
 clear h
 have HC3 := Aside0.mk H
 clear H
 go_enter Try.func75, Try.ntmps75
 go_upto_region 1 with (first | ((with_reducible refine gate_dst (N := 2) rfl ?_); refine bx_ (N := 2) #[.int .i64 a0_0, .int .i64 a0_1] 36 ?_; intro gb198 hg w4 hbox hb; have BK198 := Aside0.mk (hbox); have GW198 := Aside0.mk ((g58_ : w.heap.size ≤ gb198)); have GE198 := Aside0.mk ((g58_ : w.heap.size ≤ gb198)); replace HB := Aside0.mk (below_step (spec_BeforeOf.calls_q0) hb); clear hb hbox hg) | ((with_reducible refine gate_dst (N := 3) rfl ?_); refine bx_ (N := 3) #[.int .i64 a1_0, .int .i64 a1_1] 36 ?_; intro gb199 hg w5 hbox hb; have BK199 := Aside0.mk (hbox); have GW199 := Aside0.mk ((g58_ : w.heap.size ≤ gb199)); have GE199 := Aside0.mk ((g58_ : w.heap.size ≤ gb199)); replace HB := Aside0.mk (below_step (spec_BeforeOf.calls_q0) hb); have NB198_199 := Aside0.mk ((by rw [hg]; exact Nat.ne_of_lt (blk_lt (g := gb198) (o := .cells #[.int .i64 a0_0, .int .i64 a0_1] 36 (0, 0)) (uf3_ BK198)) : gb198 ≠ gb199)); have NB199_198 := Aside0.mk ((by rw [hg]; exact Nat.ne_of_gt (blk_lt (g := gb198) (o := .cells #[.int .i64 a0_0, .int .i64 a0_1] 36 (0, 0)) (uf3_ BK198)) : gb199 ≠ gb198)); replace BK198 := bb_ BK198 hb; clear hb hbox hg))
 (try simp only [Act.put, List.setIfInBounds_toArray, List.set_cons_zero, List.set_cons_succ])
 go_cut [14] (fun v14 wc => ∃ (kq : Nat) (x14_2 : Bool), v14 = .bool x14_2 ∧ Aside0 (spec_BeforeOf.j0 kq x14_2 a0_0 a0_1 a1_0 a1_1 = some r) ∧ Aside0 (kq ≤ k) ∧ Aside0 (wc.heap[gb198]? = some (.cells #[.int .i64 a0_0, .int .i64 a0_1] 36 (0, 0))) ∧ Aside0 (wc.heap[gb199]? = some (.cells #[.int .i64 a1_0, .int .i64 a1_1] 36 (0, 0))) ∧ Aside0 (Below w.heap.size w wc))
 case first =>
  have H := HC3.out
  clear HC3
  obtain ⟨t200, A6, H⟩ := bind_ H
  by_cases c7 : t200 = true
  ·subst c7
   replace H := ifp_ H
   obtain ⟨t201, A8, H⟩ := bind_ H
   have H' := Aside0.mk H
   clear H
   have hnb9 := NB198_199.out
   have hnc9 := NB199_198.out
   obtain ⟨hcz10_0, hcz10_1, hfz10_0, hfz10_1⟩ := blk2_ BK198
   go_wp2_with (first | ((with_reducible refine gate_callee (f := 88) rfl ?_); refine goesL_ (some 8) rfl rfl Try.func88 k_ rfl #[.agg #[.int .i64 a0_0, .int .i64 a0_1]] rfl (g2_) ?_; (with_reducible refine (spec_FracOk.calls k a0_0 a0_1 true _ A6.out).mono ?_); rintro e w11 ⟨rfl, hb⟩; refine ⟨_, rfl, ?_⟩; replace BK198 := bb_ BK198 hb; replace BK199 := bb_ BK199 hb; replace HB := Aside0.mk (below_step (spec_BeforeOf.calls_q0) hb); (try clear hb); (try clear hk hi); obtain ⟨hcz12_0, hcz12_1, hfz12_0, hfz12_1⟩ := blk2_ BK199) | (go_at_call 88; (with_reducible refine (spec_FracOk.calls k a1_0 a1_1 t201 _ A8.out).mono ?_); rintro e w13 ⟨rfl, hb⟩; replace BK198 := bb_ BK198 hb; replace BK199 := bb_ BK199 hb; replace HB := Aside0.mk (below_step (spec_BeforeOf.calls_q0) hb); (try clear hb); (try clear hk hi)))
   go_meet
   case rel => exact ⟨_, (!t201), (g3_), H', ⟨g15_⟩, ⟨uf3_ BK198⟩, ⟨uf3_ BK199⟩, ⟨spec_BeforeOf.calls_q0⟩⟩
  ·replace c7 := Bool.eq_false_iff.mpr c7
   subst c7
   replace H := ifn_ H
   have H' := Aside0.mk H
   clear H
   have hnb14 := NB198_199.out
   have hnc14 := NB199_198.out
   obtain ⟨hcz15_0, hcz15_1, hfz15_0, hfz15_1⟩ := blk2_ BK198
   go_wp2_with (first | ((with_reducible refine gate_callee (f := 88) rfl ?_); refine goesL_ (some 8) rfl rfl Try.func88 k_ rfl #[.agg #[.int .i64 a0_0, .int .i64 a0_1]] rfl (g2_) ?_; (with_reducible refine (spec_FracOk.calls k a0_0 a0_1 false _ A6.out).mono ?_); rintro e w16 ⟨rfl, hb⟩; refine ⟨_, rfl, ?_⟩; replace BK198 := bb_ BK198 hb; replace BK199 := bb_ BK199 hb; replace HB := Aside0.mk (below_step (spec_BeforeOf.calls_q0) hb); (try clear hb); (try clear hk hi)))
   go_meet
   case rel => exact ⟨_, (true), (g3_), H', ⟨g15_⟩, ⟨uf3_ BK198⟩, ⟨uf3_ BK199⟩, ⟨spec_BeforeOf.calls_q0⟩⟩
 case rest =>
  clear HC3
  try clear c1
  try clear p2
  try clear c7
  try clear c8
  try clear c9
  try clear c14
  try clear hcz10_0
  try clear hcz10_1
  try clear hcz12_0
  try clear hcz12_1
  try clear hcz15_0
  try clear hcz15_1
  try clear hfz10_0
  try clear hfz10_1
  try clear hfz12_0
  try clear hfz12_1
  try clear hfz15_0
  try clear hfz15_1
  obtain ⟨kq, x14_2, rfl, HA, HJ2, BK198, BK199, HB⟩ := hcut
  cases kq with
  | zero => exact absurd HA.out (by simp [spec_BeforeOf.j0])
  | succ kj2 =>
   have H := HA.out
   clear HA
   simp only [spec_BeforeOf.j0] at H
   by_cases c17 : x14_2 = true
   ·subst c17
    replace H := ifp_ H
    obtain rfl := Option.some.inj H
    go_wp2
    go_ret
    exact ⟨g4_, spec_BeforeOf.calls_q0⟩
   ·replace c17 := Bool.eq_false_iff.mpr c17
    subst c17
    replace H := ifn_ H
    by_cases c18 : (wrap64 (a0_0 * a1_1)) < (wrap64 (a1_0 * a0_1))
    ·rw [if_pos c18] at H
     have c18b0 := decide_eq_true c18
     clear c18
     obtain rfl := Option.some.inj H
     have hnb19 := NB198_199.out
     have hnc19 := NB199_198.out
     obtain ⟨hcz20_0, hcz20_1, hfz20_0, hfz20_1⟩ := blk2_ BK198
     obtain ⟨hcz21_0, hcz21_1, hfz21_0, hfz21_1⟩ := blk2_ BK199
     go_wp2
     go_ret
     exact ⟨g4_, spec_BeforeOf.calls_q0⟩
    ·rw [if_neg c18] at H
     have c18b0 := decide_eq_false c18
     clear c18
     by_cases c22 : (wrap64 (a0_0 * a1_1)) > (wrap64 (a1_0 * a0_1))
     ·rw [if_pos c22] at H
      have c22b0 := decide_eq_true c22
      clear c22
      obtain rfl := Option.some.inj H
      have hnb23 := NB198_199.out
      have hnc23 := NB199_198.out
      obtain ⟨hcz24_0, hcz24_1, hfz24_0, hfz24_1⟩ := blk2_ BK198
      obtain ⟨hcz25_0, hcz25_1, hfz25_0, hfz25_1⟩ := blk2_ BK199
      go_wp2
      go_ret
      exact ⟨g4_, spec_BeforeOf.calls_q0⟩
     ·rw [if_neg c22] at H
      have c22b0 := decide_eq_false c22
      clear c22
      obtain rfl := Option.some.inj H
      have hnb26 := NB198_199.out
      have hnc26 := NB199_198.out
      obtain ⟨hcz27_0, hcz27_1, hfz27_0, hfz27_1⟩ := blk2_ BK198
      obtain ⟨hcz28_0, hcz28_1, hfz28_0, hfz28_1⟩ := blk2_ BK199
      go_wp2
      go_ret
      exact ⟨g4_, spec_BeforeOf.calls_q0⟩
def spec_l1Low.j0 : Nat → Int → Int → Option (Int × Int × Bool)
 | 0, _, _ => none
 | k + 1, x0, x1 => (spec_l1Divisor.f k x0 x1).bind fun t187 => (if t187 = 0 then (none) else ((spec_FracOk.f k (wrap64 (Int.tdiv x0 t187)) (wrap64 (Int.tdiv x1 t187))).bind fun t189 => (if t189 = true then (some (wrap64 (Int.tdiv x0 t187), wrap64 (Int.tdiv x1 t187), true)) else (some (0, 0, false)))))
def spec_l1Low.f (k : Nat) (a0 : Int) (a1 : Int) : Option (Int × Int × Bool) := if a1 < 0 then (spec_l1Low.j0 k (wrap64 (-a0)) (wrap64 (-a1))) else (spec_l1Low.j0 k a0 a1)
theorem spec_l1Low.mq {p : Prop} (h : p := by
 repeat' first
 | (with_reducible exact ih0 _ _)
 | (with_reducible exact spec_FracOk.mono _ _ _)
 | (with_reducible exact spec_l1Divisor.mono _ _ _)
 | (with_reducible exact LeO.refl _)
 | (with_reducible exact LeO.none _)
 | (with_reducible refine LeO.ite ?_ ?_)
 | (with_reducible refine LeO.bind ?_ (fun _ => ?_))
 | exact ih0 _ _
 | exact spec_FracOk.mono _ _ _
 | exact spec_l1Divisor.mono _ _ _
 | exact LeO.none _
 | refine LeO.ite ?_ ?_
 | refine LeO.bind ?_ (fun _ => ?_)) : p := h
theorem spec_l1Low.mono_l : ∀ k, (∀ y0 y1, LeO (spec_l1Low.j0 k y0 y1) (spec_l1Low.j0 (k + 1) y0 y1))
 | 0 => fun _ _ r h => by simp [spec_l1Low.j0] at h
 | k + 1 => by
  have ih0 := spec_l1Low.mono_l k
  ·intro y0 y1
   unfold spec_l1Low.j0
   exact spec_l1Low.mq
theorem spec_l1Low.mono : ∀ a0 a1 k, LeO (spec_l1Low.f k a0 a1) (spec_l1Low.f (k + 1) a0 a1) := by
 intro a0 a1 k
 have ih0 := spec_l1Low.mono_l k
 unfold spec_l1Low.f
 exact spec_l1Low.mq
def spec_l1Low.T5 : Bool × List (List Nat × List Nat) := (true, [([], []), ([], []), ([0, 1], [0, 1]), ([], []), ([], []), ([3, 4], [3, 4]), ([2, 5], [2, 5]), ([], []), ([7, 6, 0, 1, 2, 3, 4, 5, 6, 7], [6, 7])])
def spec_l1Low.B5 : List Nat := [0, 0, 3, 0, 0, 24, 63, 0, 255]
theorem spec_l1Low.tab5 : rtab .any (opsOf Try.f89 5) = spec_l1Low.T5 := by kernel_rfl
theorem spec_l1Low.bits5 : waitsOk spec_l1Low.T5.2 spec_l1Low.B5 = true := by kernel_rfl
theorem spec_l1Low.calls_q0 {p : Prop} (h : p := by repeat (first | (with_reducible first | exact HB.out | apply below_alloc | apply pw_below_drewN | apply below_drew1 | refine below_set ?_ GE186.out | refine below_set ?_ GE188.out) | exact HB.out)) : p := h
set_option maxHeartbeats 8000000 in
set_option maxRecDepth 100000 in
theorem spec_l1Low.calls (k : Nat) (a0 : Int) (a1 : Int) (r1 : Int) (r2 : Int) (r3 : Bool) (w : World) (h : spec_l1Low.f k a0 a1 = some (r1, r2, r3)) :
  Calls Try.prog 89 #[.int .i64 a0, .int .i64 a1] w fun e w' => e = .returned (.tuple #[.agg #[.int .i64 r1, .int .i64 r2], .bool r3]) ∧ Below w.heap.size w w' := by
 have hu36 := Try.underlying36
 have HB := Aside0.mk (Below.refl w.heap.size w)
 have H : (if a1 < 0 then (spec_l1Low.j0 k (wrap64 (-a0)) (wrap64 (-a1))) else (spec_l1Low.j0 k a0 a1)) = some (r1, r2, r3) := h
 clear h
 have HC3 := Aside0.mk H
 clear H
 go_enter Try.func89, Try.ntmps89
 go_upto_if 9 with (first | ((with_reducible refine gate_dst (N := 4) rfl ?_); refine bx_ (N := 4) #[.int .i64 0, .int .i64 0] 36 ?_; intro gb186 hg w4 hbox hb; have BK186 := Aside0.mk (hbox); have GW186 := Aside0.mk ((g41_ : w.heap.size ≤ gb186)); have GE186 := Aside0.mk ((g41_ : w.heap.size ≤ gb186)); replace HB := Aside0.mk (below_step (spec_l1Low.calls_q0) hb); clear hb hbox hg))
 (try simp only [Act.put, List.setIfInBounds_toArray, List.set_cons_zero, List.set_cons_succ])
 go_cut [0, 1] (fun v0 v1 wc => ∃ (kq : Nat) (x0_2 : Int) (x1_2 : Int), v0 = .int .i64 x0_2 ∧ v1 = .int .i64 x1_2 ∧ Aside0 (spec_l1Low.j0 kq x0_2 x1_2 = some (r1, r2, r3)) ∧ Aside0 (kq ≤ k) ∧ Aside0 (wc.heap[gb186]? = some (.cells #[.int .i64 0, .int .i64 0] 36 (0, 0))) ∧ Aside0 (Below w.heap.size w wc))
 case first =>
  have H := HC3.out
  clear HC3
  by_cases c5 : a1 < 0
  ·rw [if_pos c5] at H
   have c5b0 := decide_eq_true c5
   clear c5
   (first | rw [c5b0] | (simp only [i64_w, i32_w]; rw [c5b0]) | skip)
   have H' := Aside0.mk H
   clear H
   go_wp2
   go_meet
   case rel => exact ⟨_, (wrap64 (-a0)), (wrap64 (-a1)), (g3_), (g3_), H', ⟨g15_⟩, ⟨uf3_ BK186⟩, ⟨spec_l1Low.calls_q0⟩⟩
  ·rw [if_neg c5] at H
   have c5b0 := decide_eq_false c5
   clear c5
   (first | rw [c5b0] | (simp only [i64_w, i32_w]; rw [c5b0]) | skip)
   have H' := Aside0.mk H
   clear H
   go_wp2
   go_meet
   case rel => exact ⟨_, (a0), (a1), (g3_), (g3_), H', ⟨g15_⟩, ⟨uf3_ BK186⟩, ⟨spec_l1Low.calls_q0⟩⟩
 case rest =>
  clear HC3
  try clear p2
  try clear c5
  try clear c5b0
  obtain ⟨kq, x0_2, x1_2, rfl, rfl, HA, HJ2, BK186, HB⟩ := hcut
  cases kq with
  | zero => exact absurd HA.out (by simp [spec_l1Low.j0])
  | succ kj2 =>
   have H := HA.out
   clear HA
   simp only [spec_l1Low.j0] at H
   obtain ⟨t187, A6, H⟩ := bind_ H
   by_cases c7 : t187 = 0
   ·rw [if_pos c7] at H
    exact absurd H (by simp)
   ·rw [if_neg c7] at H
    have c7b0 : (t187 == 0) = false := beq_eq_false_iff_ne.mpr c7
    have c7b1 : (t187 != 0) = true := bne_iff_ne.mpr c7
    obtain ⟨t189, A8, H⟩ := bind_ H
    by_cases c9 : t189 = true
    ·subst c9
     replace H := ifp_ H
     simp only [Option.some.injEq, Prod.mk.injEq] at H
     obtain ⟨rfl, rfl, rfl⟩ := H
     try go_wp2_with (first | ((with_reducible refine gate_callee (f := 95) rfl ?_); refine goesL_ (some 16) rfl rfl Try.func95 k_ rfl #[.int .i64 x0_2, .int .i64 x1_2] rfl (g2_) ?_; (with_reducible refine (spec_l1Divisor.calls kj2 x0_2 x1_2 t187 _ A6.out).mono ?_); rintro e w' ⟨rfl, ⟨nd, rfl⟩⟩; refine ⟨_, rfl, ?_⟩; (try (rw [drewN_self wc]; generalize hq_ : World.drewN wc _ = wc; replace BK186 : Aside0 (wc.heap[gb186]? = some (.cells #[.int .i64 0, .int .i64 0] 36 (0, 0))) := ⟨by rw [← hq_]; exact (uf3_ BK186)⟩; replace HB : Aside0 (Below w.heap.size w wc) := ⟨by rw [← hq_]; exact (spec_l1Low.calls_q0)⟩; clear hq_))))
     replace BK186 := Aside0.mk (blk_drew BK186.out)
     replace HB := Aside0.mk (below_drew1 HB.out)
     refine start_ (n := 9) (S := fun w' => True) (ds := []) (tl_ 9 0) (g0_) rfl (g0_) trivial (fun hHeld => ?_); refine with_tabW spec_l1Low.tab5 spec_l1Low.bits5 (fun HT_ HW_ => ?_)
     generalize wc.drew = w10 at BK186 HB hHeld ⊢
     refine pw_ 0 17 (tl_ 9 1) rfl rfl ?_
     refine pw_ 1 18 (tl_ 9 3) rfl rfl ?_
     refine pw_ 2 19 (tl_ 9 7) rfl rfl ?_
     refine pw_ 3 20 (tl_ 9 15) rfl rfl ?_
     refine pw_ 4 21 (tl_ 9 31) rfl rfl ?_
     refine pw_ 5 22 (tl_ 9 63) rfl rfl ?_
     refine pw_ 6 23 (tl_ 9 127) rfl rfl ?_
     refine one_ (i := 7) (N := some 7) (tl_ 9 255) rfl rfl (one_of HT_.out (g0_)) (by decide) (fun K hK => ?_)
     refine bs_ (N := 7) #[.int .i64 0, .int .i64 0] 36 ?_
     intro gb188 hg w11 hbox hb
     have BK188 := Aside0.mk (hbox)
     have GW188 := Aside0.mk ((g41_ : w.heap.size ≤ gb188))
     have GE188 := Aside0.mk ((g41_ : w.heap.size ≤ gb188))
     replace HB := Aside0.mk (below_step (spec_l1Low.calls_q0) hb)
     have NB186_188 := Aside0.mk ((by rw [hg]; exact Nat.ne_of_lt (blk_lt (g := gb186) (o := .cells #[.int .i64 0, .int .i64 0] 36 (0, 0)) (uf3_ BK186)) : gb186 ≠ gb188))
     have NB188_186 := Aside0.mk ((by rw [hg]; exact Nat.ne_of_gt (blk_lt (g := gb186) (o := .cells #[.int .i64 0, .int .i64 0] 36 (0, 0)) (uf3_ BK186)) : gb188 ≠ gb186))
     replace BK186 := bb_ BK186 hb
     clear hb hbox hg
     refine hK.out _ _ trivial (fun hHeld => ?_)
     clear hK K
     refine nm_ ?_
     refine one_ (i := 8) (N := none) (tl_ 9 511) rfl rfl (one_of HT_.out (g0_)) (by decide) (fun K hK => ?_)
     have hs12 : w11.cell? ⟨gb188, 0, none⟩ = some (.int .i64 0) := (blk_cell BK188.out 0).trans rfl
     have hfs12 := blk_frozen BK188.out 0
     have hns12_0 := NB186_188.out
     have hms12_0 := NB188_186.out
     have hs13 : w11.cell? ⟨gb188, 1, none⟩ = some (.int .i64 0) := (blk_cell BK188.out 1).trans rfl
     have hfs13 := blk_frozen BK188.out 1
     have hns13_0 := NB186_188.out
     have hms13_0 := NB188_186.out
     refine skip_ (w1 := ?_) (by rfl) rfl ?_ ?_
     rotate_left
     ·go_simp
      rfl
     refine hK.out _ _ trivial (fun hHeld => ?_)
     clear hK K
     refine done_ (done_of HT_.out (g0_)) ?_
     have hnb14 := NB188_186.out
     have hnc14 := NB186_188.out
     obtain ⟨hcz15_0, hcz15_1, hfz15_0, hfz15_1⟩ := blk2_ BK188
     try go_wp2_with (first | ((with_reducible refine gate_callee (f := 88) rfl ?_); refine goesL_ (some 25) rfl rfl Try.func88 k_ rfl #[.agg #[.int .i64 (wrap64 (Int.tdiv x0_2 t187)), .int .i64 (wrap64 (Int.tdiv x1_2 t187))]] rfl (g2_) ?_; (with_reducible refine (spec_FracOk.calls kj2 (wrap64 (Int.tdiv x0_2 t187)) (wrap64 (Int.tdiv x1_2 t187)) true _ A8.out).mono ?_); rintro e w16 ⟨rfl, hb⟩; refine ⟨_, rfl, ?_⟩; replace BK186 := Aside0.mk (blk_below (g := gb186) (o := .cells #[.int .i64 0, .int .i64 0] 36 (0, 0)) (by (with_reducible repeat (first | refine blk_drewN ?_ _ | refine blk_drew ?_ | refine blk_alloc ?_ _)); refine blk_far ?_ NB186_188.out _; (with_reducible repeat (first | refine blk_drewN ?_ _ | refine blk_drew ?_ | refine blk_alloc ?_ _)); refine blk_far ?_ NB186_188.out _; (with_reducible repeat (first | refine blk_drewN ?_ _ | refine blk_drew ?_ | refine blk_alloc ?_ _)); exact BK186.out) hb); replace BK188 := Aside0.mk (blk_below (g := gb188) (o := .cells #[.int .i64 (wrap64 (Int.tdiv x0_2 t187)), .int .i64 (wrap64 (Int.tdiv x1_2 t187))] 36 (0, 0)) (by (with_reducible repeat (first | refine blk_drewN ?_ _ | refine blk_drew ?_ | refine blk_alloc ?_ _)); refine blk_put (cs := #[.int .i64 (wrap64 (Int.tdiv x0_2 t187)), .int .i64 0]) ?_ 1 _ rfl; (with_reducible repeat (first | refine blk_drewN ?_ _ | refine blk_drew ?_ | refine blk_alloc ?_ _)); refine blk_put (cs := #[.int .i64 0, .int .i64 0]) ?_ 0 _ rfl; (with_reducible repeat (first | refine blk_drewN ?_ _ | refine blk_drew ?_ | refine blk_alloc ?_ _)); exact BK188.out) hb); replace HB := Aside0.mk (below_step (spec_l1Low.calls_q0) hb); (try clear hb); (try clear hk hi); obtain ⟨hcz17_0, hcz17_1, hfz17_0, hfz17_1⟩ := blk2_ BK188; obtain ⟨hcz18_0, hcz18_1, hfz18_0, hfz18_1⟩ := blk2_ BK186))
     refine bodyPost_ret (results_ct rfl _ _ gb186 36 #[.int .i64 (wrap64 (Int.tdiv x0_2 t187)), .int .i64 (wrap64 (Int.tdiv x1_2 t187))] (0, 0) _ rfl (by (with_reducible repeat (first | refine blk_drewN ?_ _ | refine blk_drew ?_ | refine blk_alloc ?_ _)); refine blk_put (cs := #[.int .i64 (wrap64 (Int.tdiv x0_2 t187)), .int .i64 0]) ?_ 1 _ rfl; (with_reducible repeat (first | refine blk_drewN ?_ _ | refine blk_drew ?_ | refine blk_alloc ?_ _)); refine blk_put (cs := #[.int .i64 0, .int .i64 0]) ?_ 0 _ rfl; (with_reducible repeat (first | refine blk_drewN ?_ _ | refine blk_drew ?_ | refine blk_alloc ?_ _)); exact BK186.out) Try.underlying36 rfl (g0_)) rfl ?_
     exact ⟨g4_, spec_l1Low.calls_q0⟩
    ·replace c9 := Bool.eq_false_iff.mpr c9
     subst c9
     replace H := ifn_ H
     simp only [Option.some.injEq, Prod.mk.injEq] at H
     obtain ⟨rfl, rfl, rfl⟩ := H
     try go_wp2_with (first | ((with_reducible refine gate_callee (f := 95) rfl ?_); refine goesL_ (some 16) rfl rfl Try.func95 k_ rfl #[.int .i64 x0_2, .int .i64 x1_2] rfl (g2_) ?_; (with_reducible refine (spec_l1Divisor.calls kj2 x0_2 x1_2 t187 _ A6.out).mono ?_); rintro e w' ⟨rfl, ⟨nd, rfl⟩⟩; refine ⟨_, rfl, ?_⟩; (try (rw [drewN_self wc]; generalize hq_ : World.drewN wc _ = wc; replace BK186 : Aside0 (wc.heap[gb186]? = some (.cells #[.int .i64 0, .int .i64 0] 36 (0, 0))) := ⟨by rw [← hq_]; exact (uf3_ BK186)⟩; replace HB : Aside0 (Below w.heap.size w wc) := ⟨by rw [← hq_]; exact (spec_l1Low.calls_q0)⟩; clear hq_))))
     replace BK186 := Aside0.mk (blk_drew BK186.out)
     replace HB := Aside0.mk (below_drew1 HB.out)
     refine start_ (n := 9) (S := fun w' => True) (ds := []) (tl_ 9 0) (g0_) rfl (g0_) trivial (fun hHeld => ?_); refine with_tabW spec_l1Low.tab5 spec_l1Low.bits5 (fun HT_ HW_ => ?_)
     generalize wc.drew = w19 at BK186 HB hHeld ⊢
     refine pw_ 0 17 (tl_ 9 1) rfl rfl ?_
     refine pw_ 1 18 (tl_ 9 3) rfl rfl ?_
     refine pw_ 2 19 (tl_ 9 7) rfl rfl ?_
     refine pw_ 3 20 (tl_ 9 15) rfl rfl ?_
     refine pw_ 4 21 (tl_ 9 31) rfl rfl ?_
     refine pw_ 5 22 (tl_ 9 63) rfl rfl ?_
     refine pw_ 6 23 (tl_ 9 127) rfl rfl ?_
     refine one_ (i := 7) (N := some 7) (tl_ 9 255) rfl rfl (one_of HT_.out (g0_)) (by decide) (fun K hK => ?_)
     refine bs_ (N := 7) #[.int .i64 0, .int .i64 0] 36 ?_
     intro gb188 hg w20 hbox hb
     have BK188 := Aside0.mk (hbox)
     have GW188 := Aside0.mk ((g41_ : w.heap.size ≤ gb188))
     have GE188 := Aside0.mk ((g41_ : w.heap.size ≤ gb188))
     replace HB := Aside0.mk (below_step (spec_l1Low.calls_q0) hb)
     have NB186_188 := Aside0.mk ((by rw [hg]; exact Nat.ne_of_lt (blk_lt (g := gb186) (o := .cells #[.int .i64 0, .int .i64 0] 36 (0, 0)) (uf3_ BK186)) : gb186 ≠ gb188))
     have NB188_186 := Aside0.mk ((by rw [hg]; exact Nat.ne_of_gt (blk_lt (g := gb186) (o := .cells #[.int .i64 0, .int .i64 0] 36 (0, 0)) (uf3_ BK186)) : gb188 ≠ gb186))
     replace BK186 := bb_ BK186 hb
     clear hb hbox hg
     refine hK.out _ _ trivial (fun hHeld => ?_)
     clear hK K
     refine nm_ ?_
     refine one_ (i := 8) (N := none) (tl_ 9 511) rfl rfl (one_of HT_.out (g0_)) (by decide) (fun K hK => ?_)
     have hs21 : w20.cell? ⟨gb188, 0, none⟩ = some (.int .i64 0) := (blk_cell BK188.out 0).trans rfl
     have hfs21 := blk_frozen BK188.out 0
     have hns21_0 := NB186_188.out
     have hms21_0 := NB188_186.out
     have hs22 : w20.cell? ⟨gb188, 1, none⟩ = some (.int .i64 0) := (blk_cell BK188.out 1).trans rfl
     have hfs22 := blk_frozen BK188.out 1
     have hns22_0 := NB186_188.out
     have hms22_0 := NB188_186.out
     refine skip_ (w1 := ?_) (by rfl) rfl ?_ ?_
     rotate_left
     ·go_simp
      rfl
     refine hK.out _ _ trivial (fun hHeld => ?_)
     clear hK K
     refine done_ (done_of HT_.out (g0_)) ?_
     have hnb23 := NB188_186.out
     have hnc23 := NB186_188.out
     obtain ⟨hcz24_0, hcz24_1, hfz24_0, hfz24_1⟩ := blk2_ BK188
     try go_wp2_with (first | ((with_reducible refine gate_callee (f := 88) rfl ?_); refine goesL_ (some 25) rfl rfl Try.func88 k_ rfl #[.agg #[.int .i64 (wrap64 (Int.tdiv x0_2 t187)), .int .i64 (wrap64 (Int.tdiv x1_2 t187))]] rfl (g2_) ?_; (with_reducible refine (spec_FracOk.calls kj2 (wrap64 (Int.tdiv x0_2 t187)) (wrap64 (Int.tdiv x1_2 t187)) false _ A8.out).mono ?_); rintro e w25 ⟨rfl, hb⟩; refine ⟨_, rfl, ?_⟩; replace BK186 := Aside0.mk (blk_below (g := gb186) (o := .cells #[.int .i64 0, .int .i64 0] 36 (0, 0)) (by (with_reducible repeat (first | refine blk_drewN ?_ _ | refine blk_drew ?_ | refine blk_alloc ?_ _)); refine blk_far ?_ NB186_188.out _; (with_reducible repeat (first | refine blk_drewN ?_ _ | refine blk_drew ?_ | refine blk_alloc ?_ _)); refine blk_far ?_ NB186_188.out _; (with_reducible repeat (first | refine blk_drewN ?_ _ | refine blk_drew ?_ | refine blk_alloc ?_ _)); exact BK186.out) hb); replace BK188 := Aside0.mk (blk_below (g := gb188) (o := .cells #[.int .i64 (wrap64 (Int.tdiv x0_2 t187)), .int .i64 (wrap64 (Int.tdiv x1_2 t187))] 36 (0, 0)) (by (with_reducible repeat (first | refine blk_drewN ?_ _ | refine blk_drew ?_ | refine blk_alloc ?_ _)); refine blk_put (cs := #[.int .i64 (wrap64 (Int.tdiv x0_2 t187)), .int .i64 0]) ?_ 1 _ rfl; (with_reducible repeat (first | refine blk_drewN ?_ _ | refine blk_drew ?_ | refine blk_alloc ?_ _)); refine blk_put (cs := #[.int .i64 0, .int .i64 0]) ?_ 0 _ rfl; (with_reducible repeat (first | refine blk_drewN ?_ _ | refine blk_drew ?_ | refine blk_alloc ?_ _)); exact BK188.out) hb); replace HB := Aside0.mk (below_step (spec_l1Low.calls_q0) hb); (try clear hb); (try clear hk hi); obtain ⟨hcz26_0, hcz26_1, hfz26_0, hfz26_1⟩ := blk2_ BK186))
     refine bodyPost_ret (results_ct rfl _ _ gb186 36 #[.int .i64 0, .int .i64 0] (0, 0) _ rfl (by (with_reducible repeat (first | refine blk_drewN ?_ _ | refine blk_drew ?_ | refine blk_alloc ?_ _)); refine blk_put (cs := #[.int .i64 0, .int .i64 0]) ?_ 1 _ rfl; (with_reducible repeat (first | refine blk_drewN ?_ _ | refine blk_drew ?_ | refine blk_alloc ?_ _)); refine blk_put (cs := #[.int .i64 0, .int .i64 0]) ?_ 0 _ rfl; (with_reducible repeat (first | refine blk_drewN ?_ _ | refine blk_drew ?_ | refine blk_alloc ?_ _)); exact BK186.out) Try.underlying36 rfl (g0_)) rfl ?_
     exact ⟨g4_, spec_l1Low.calls_q0⟩
def spec_PlusOf.f (k : Nat) (a0_0 : Int) (a0_1 : Int) (a1_0 : Int) (a1_1 : Int) : Option (Int × Int × Bool) := (spec_FracOk.f k a0_0 a0_1).bind fun t193 => (if t193 = true then ((spec_FracOk.f k a1_0 a1_1).bind fun t194 => (if t194 = true then ((spec_l1Low.f k (wrap64 ((wrap64 (a0_0 * a1_1)) + (wrap64 (a1_0 * a0_1)))) (wrap64 (a0_1 * a1_1))).bind fun bt195 => (some (bt195.1, bt195.2.1, bt195.2.2))) else (some (0, 0, false)))) else (some (0, 0, false)))
theorem spec_PlusOf.mq {p : Prop} (h : p := by
 repeat' first
 | (with_reducible exact spec_FracOk.mono _ _ _)
 | (with_reducible exact spec_l1Low.mono _ _ _)
 | (with_reducible exact LeO.refl _)
 | (with_reducible exact LeO.none _)
 | (with_reducible refine LeO.ite ?_ ?_)
 | (with_reducible refine LeO.bind ?_ (fun _ => ?_))
 | exact spec_FracOk.mono _ _ _
 | exact spec_l1Low.mono _ _ _
 | exact LeO.none _
 | refine LeO.ite ?_ ?_
 | refine LeO.bind ?_ (fun _ => ?_)) : p := h
theorem spec_PlusOf.mono : ∀ a0 a1 a2 a3 k, LeO (spec_PlusOf.f k a0 a1 a2 a3) (spec_PlusOf.f (k + 1) a0 a1 a2 a3) := by
 intro a0 a1 a2 a3 k
 unfold spec_PlusOf.f
 exact spec_PlusOf.mq
theorem spec_PlusOf.calls_q0 {p : Prop} (h : p := by repeat (first | (with_reducible first | exact HB.out | apply below_alloc | apply pw_below_drewN | apply below_drew1 | refine below_set ?_ GE190.out | refine below_set ?_ GE191.out | refine below_set ?_ GE192.out) | exact HB.out)) : p := h
set_option maxHeartbeats 8000000 in
set_option maxRecDepth 100000 in
theorem spec_PlusOf.calls (k : Nat) (a0_0 : Int) (a0_1 : Int) (a1_0 : Int) (a1_1 : Int) (r1 : Int) (r2 : Int) (r3 : Bool) (w : World) (h : spec_PlusOf.f k a0_0 a0_1 a1_0 a1_1 = some (r1, r2, r3)) :
  Calls Try.prog 71 #[.agg #[.int .i64 a0_0, .int .i64 a0_1], .agg #[.int .i64 a1_0, .int .i64 a1_1]] w fun e w' => e = .returned (.tuple #[.agg #[.int .i64 r1, .int .i64 r2], .bool r3]) ∧ Below w.heap.size w w' := by
 have hu36 := Try.underlying36
 have HB := Aside0.mk (Below.refl w.heap.size w)
 have H : ((spec_FracOk.f k a0_0 a0_1).bind fun t193 => (if t193 = true then ((spec_FracOk.f k a1_0 a1_1).bind fun t194 => (if t194 = true then ((spec_l1Low.f k (wrap64 ((wrap64 (a0_0 * a1_1)) + (wrap64 (a1_0 * a0_1)))) (wrap64 (a0_1 * a1_1))).bind fun bt195 => (some (bt195.1, bt195.2.1, bt195.2.2))) else (some (0, 0, false)))) else (some (0, 0, false)))) = some (r1, r2, r3) := h
 clear h
 obtain ⟨t193, A3, H⟩ := bind_ H
 by_cases c4 : t193 = true
 ·subst c4
  replace H := ifp_ H
  obtain ⟨t194, A5, H⟩ := bind_ H
  by_cases c6 : t194 = true
  ·subst c6
   replace H := ifp_ H
   replace H := Option.bind_eq_some_iff.mp H
   obtain ⟨⟨t195, t196, t197⟩, A70, H⟩ := H
   replace H : (some (t195, t196, t197)) = some (r1, r2, r3) := H
   have A7 := Aside0.mk A70
   clear A70
   simp only [Option.some.injEq, Prod.mk.injEq] at H
   obtain ⟨rfl, rfl, rfl⟩ := H
   go_enter Try.func71, Try.ntmps71
   go_wp2_with (first | ((with_reducible refine gate_dst (N := 2) rfl ?_); refine bx_ (N := 2) #[.int .i64 a0_0, .int .i64 a0_1] 36 ?_; intro gb190 hg w8 hbox hb; have BK190 := Aside0.mk (hbox); have GW190 := Aside0.mk ((g13_ : w.heap.size ≤ gb190)); have GE190 := Aside0.mk ((g13_ : w.heap.size ≤ gb190)); replace HB := Aside0.mk (below_step (spec_PlusOf.calls_q0) hb); clear hb hbox hg) | ((with_reducible refine gate_dst (N := 3) rfl ?_); refine bx_ (N := 3) #[.int .i64 a1_0, .int .i64 a1_1] 36 ?_; intro gb191 hg w9 hbox hb; have BK191 := Aside0.mk (hbox); have GW191 := Aside0.mk ((g13_ : w.heap.size ≤ gb191)); have GE191 := Aside0.mk ((g13_ : w.heap.size ≤ gb191)); replace HB := Aside0.mk (below_step (spec_PlusOf.calls_q0) hb); have NB190_191 := Aside0.mk ((g42_ : gb190 ≠ gb191)); have NB191_190 := Aside0.mk ((g43_ : gb191 ≠ gb190)); replace BK190 := bb_ BK190 hb; clear hb hbox hg) | ((with_reducible refine gate_dst (N := 4) rfl ?_); refine bx_ (N := 4) #[.int .i64 0, .int .i64 0] 36 ?_; intro gb192 hg w10 hbox hb; have BK192 := Aside0.mk (hbox); have GW192 := Aside0.mk ((g13_ : w.heap.size ≤ gb192)); have GE192 := Aside0.mk ((g13_ : w.heap.size ≤ gb192)); replace HB := Aside0.mk (below_step (spec_PlusOf.calls_q0) hb); have NB190_192 := Aside0.mk ((g42_ : gb190 ≠ gb192)); have NB192_190 := Aside0.mk ((g43_ : gb192 ≠ gb190)); replace BK190 := bb_ BK190 hb; have NB191_192 := Aside0.mk ((g77_ : gb191 ≠ gb192)); have NB192_191 := Aside0.mk ((g78_ : gb192 ≠ gb191)); replace BK191 := bb_ BK191 hb; clear hb hbox hg; have hnb11 := NB190_191.out; have hnc11 := NB191_190.out; have hnb12 := NB190_192.out; have hnc12 := NB192_190.out; obtain ⟨hcz13_0, hcz13_1, hfz13_0, hfz13_1⟩ := blk2_ BK190) | ((with_reducible refine gate_callee (f := 88) rfl ?_); refine goesL_ (some 7) rfl rfl Try.func88 k_ rfl #[.agg #[.int .i64 a0_0, .int .i64 a0_1]] rfl (g2_) ?_; (with_reducible refine (spec_FracOk.calls k a0_0 a0_1 true _ A3.out).mono ?_); rintro e w14 ⟨rfl, hb⟩; refine ⟨_, rfl, ?_⟩; replace BK190 := bb_ BK190 hb; replace BK191 := bb_ BK191 hb; replace BK192 := bb_ BK192 hb; replace HB := Aside0.mk (below_step (spec_PlusOf.calls_q0) hb); (try clear hb); (try clear hk hi); have hnb15 := NB191_192.out; have hnc15 := NB192_191.out; obtain ⟨hcz16_0, hcz16_1, hfz16_0, hfz16_1⟩ := blk2_ BK191) | (go_at_call 88; (with_reducible refine (spec_FracOk.calls k a1_0 a1_1 true _ A5.out).mono ?_); rintro e w17 ⟨rfl, hb⟩; replace BK190 := bb_ BK190 hb; replace BK191 := bb_ BK191 hb; replace BK192 := bb_ BK192 hb; replace HB := Aside0.mk (below_step (spec_PlusOf.calls_q0) hb); (try clear hb); (try clear hk hi); obtain ⟨hcz18_0, hcz18_1, hfz18_0, hfz18_1⟩ := blk2_ BK190; obtain ⟨hcz19_0, hcz19_1, hfz19_0, hfz19_1⟩ := blk2_ BK191) | ((with_reducible refine gate_callee (f := 89) rfl ?_); refine goesL_ (some 31) rfl rfl Try.func89 k_ rfl #[.int .i64 (wrap64 ((wrap64 (a0_0 * a1_1)) + (wrap64 (a1_0 * a0_1)))), .int .i64 (wrap64 (a0_1 * a1_1))] rfl (g2_) ?_; (with_reducible refine (spec_l1Low.calls k (wrap64 ((wrap64 (a0_0 * a1_1)) + (wrap64 (a1_0 * a0_1)))) (wrap64 (a0_1 * a1_1)) t195 t196 t197 _ A7.out).mono ?_); rintro e w20 ⟨rfl, hb⟩; refine ⟨_, rfl, ?_⟩; replace BK190 := bb_ BK190 hb; replace BK191 := bb_ BK191 hb; replace BK192 := bb_ BK192 hb; replace HB := Aside0.mk (below_step (spec_PlusOf.calls_q0) hb); (try clear hb); (try clear hk hi); obtain ⟨hcz21_0, hcz21_1, hfz21_0, hfz21_1⟩ := blk2_ BK192))
   refine bodyPost_ret (results_ct rfl _ _ gb192 36 #[.int .i64 t195, .int .i64 t196] (0, 0) _ rfl (by (with_reducible repeat (first | refine blk_drewN ?_ _ | refine blk_drew ?_ | refine blk_alloc ?_ _)); refine blk_put (cs := #[.int .i64 t195, .int .i64 0]) ?_ 1 _ rfl; (with_reducible repeat (first | refine blk_drewN ?_ _ | refine blk_drew ?_ | refine blk_alloc ?_ _)); refine blk_put (cs := #[.int .i64 0, .int .i64 0]) ?_ 0 _ rfl; (with_reducible repeat (first | refine blk_drewN ?_ _ | refine blk_drew ?_ | refine blk_alloc ?_ _)); exact BK192.out) Try.underlying36 rfl (g0_)) rfl ?_
   exact ⟨g4_, spec_PlusOf.calls_q0⟩
  ·replace c6 := Bool.eq_false_iff.mpr c6
   subst c6
   replace H := ifn_ H
   simp only [Option.some.injEq, Prod.mk.injEq] at H
   obtain ⟨rfl, rfl, rfl⟩ := H
   go_enter Try.func71, Try.ntmps71
   go_wp2_with (first | ((with_reducible refine gate_dst (N := 2) rfl ?_); refine bx_ (N := 2) #[.int .i64 a0_0, .int .i64 a0_1] 36 ?_; intro gb190 hg w22 hbox hb; have BK190 := Aside0.mk (hbox); have GW190 := Aside0.mk ((g13_ : w.heap.size ≤ gb190)); have GE190 := Aside0.mk ((g13_ : w.heap.size ≤ gb190)); replace HB := Aside0.mk (below_step (spec_PlusOf.calls_q0) hb); clear hb hbox hg) | ((with_reducible refine gate_dst (N := 3) rfl ?_); refine bx_ (N := 3) #[.int .i64 a1_0, .int .i64 a1_1] 36 ?_; intro gb191 hg w23 hbox hb; have BK191 := Aside0.mk (hbox); have GW191 := Aside0.mk ((g13_ : w.heap.size ≤ gb191)); have GE191 := Aside0.mk ((g13_ : w.heap.size ≤ gb191)); replace HB := Aside0.mk (below_step (spec_PlusOf.calls_q0) hb); have NB190_191 := Aside0.mk ((g42_ : gb190 ≠ gb191)); have NB191_190 := Aside0.mk ((g43_ : gb191 ≠ gb190)); replace BK190 := bb_ BK190 hb; clear hb hbox hg) | ((with_reducible refine gate_dst (N := 4) rfl ?_); refine bx_ (N := 4) #[.int .i64 0, .int .i64 0] 36 ?_; intro gb192 hg w24 hbox hb; have BK192 := Aside0.mk (hbox); have GW192 := Aside0.mk ((g13_ : w.heap.size ≤ gb192)); have GE192 := Aside0.mk ((g13_ : w.heap.size ≤ gb192)); replace HB := Aside0.mk (below_step (spec_PlusOf.calls_q0) hb); have NB190_192 := Aside0.mk ((g42_ : gb190 ≠ gb192)); have NB192_190 := Aside0.mk ((g43_ : gb192 ≠ gb190)); replace BK190 := bb_ BK190 hb; have NB191_192 := Aside0.mk ((g77_ : gb191 ≠ gb192)); have NB192_191 := Aside0.mk ((g78_ : gb192 ≠ gb191)); replace BK191 := bb_ BK191 hb; clear hb hbox hg; have hnb25 := NB190_191.out; have hnc25 := NB191_190.out; have hnb26 := NB190_192.out; have hnc26 := NB192_190.out; obtain ⟨hcz27_0, hcz27_1, hfz27_0, hfz27_1⟩ := blk2_ BK190) | ((with_reducible refine gate_callee (f := 88) rfl ?_); refine goesL_ (some 7) rfl rfl Try.func88 k_ rfl #[.agg #[.int .i64 a0_0, .int .i64 a0_1]] rfl (g2_) ?_; (with_reducible refine (spec_FracOk.calls k a0_0 a0_1 true _ A3.out).mono ?_); rintro e w28 ⟨rfl, hb⟩; refine ⟨_, rfl, ?_⟩; replace BK190 := bb_ BK190 hb; replace BK191 := bb_ BK191 hb; replace BK192 := bb_ BK192 hb; replace HB := Aside0.mk (below_step (spec_PlusOf.calls_q0) hb); (try clear hb); (try clear hk hi); have hnb29 := NB191_192.out; have hnc29 := NB192_191.out; obtain ⟨hcz30_0, hcz30_1, hfz30_0, hfz30_1⟩ := blk2_ BK191) | (go_at_call 88; (with_reducible refine (spec_FracOk.calls k a1_0 a1_1 false _ A5.out).mono ?_); rintro e w31 ⟨rfl, hb⟩; replace BK190 := bb_ BK190 hb; replace BK191 := bb_ BK191 hb; replace BK192 := bb_ BK192 hb; replace HB := Aside0.mk (below_step (spec_PlusOf.calls_q0) hb); (try clear hb); (try clear hk hi); obtain ⟨hcz32_0, hcz32_1, hfz32_0, hfz32_1⟩ := blk2_ BK192))
   refine bodyPost_ret (results_ct rfl _ _ gb192 36 #[.int .i64 0, .int .i64 0] (0, 0) _ rfl (by (with_reducible repeat (first | refine blk_drewN ?_ _ | refine blk_drew ?_ | refine blk_alloc ?_ _)); refine blk_put (cs := #[.int .i64 0, .int .i64 0]) ?_ 1 _ rfl; (with_reducible repeat (first | refine blk_drewN ?_ _ | refine blk_drew ?_ | refine blk_alloc ?_ _)); refine blk_put (cs := #[.int .i64 0, .int .i64 0]) ?_ 0 _ rfl; (with_reducible repeat (first | refine blk_drewN ?_ _ | refine blk_drew ?_ | refine blk_alloc ?_ _)); exact BK192.out) Try.underlying36 rfl (g0_)) rfl ?_
   exact ⟨g4_, spec_PlusOf.calls_q0⟩
 ·replace c4 := Bool.eq_false_iff.mpr c4
  subst c4
  replace H := ifn_ H
  simp only [Option.some.injEq, Prod.mk.injEq] at H
  obtain ⟨rfl, rfl, rfl⟩ := H
  go_enter Try.func71, Try.ntmps71
  go_wp2_with (first | ((with_reducible refine gate_dst (N := 2) rfl ?_); refine bx_ (N := 2) #[.int .i64 a0_0, .int .i64 a0_1] 36 ?_; intro gb190 hg w33 hbox hb; have BK190 := Aside0.mk (hbox); have GW190 := Aside0.mk ((g13_ : w.heap.size ≤ gb190)); have GE190 := Aside0.mk ((g13_ : w.heap.size ≤ gb190)); replace HB := Aside0.mk (below_step (spec_PlusOf.calls_q0) hb); clear hb hbox hg) | ((with_reducible refine gate_dst (N := 3) rfl ?_); refine bx_ (N := 3) #[.int .i64 a1_0, .int .i64 a1_1] 36 ?_; intro gb191 hg w34 hbox hb; have BK191 := Aside0.mk (hbox); have GW191 := Aside0.mk ((g13_ : w.heap.size ≤ gb191)); have GE191 := Aside0.mk ((g13_ : w.heap.size ≤ gb191)); replace HB := Aside0.mk (below_step (spec_PlusOf.calls_q0) hb); have NB190_191 := Aside0.mk ((g42_ : gb190 ≠ gb191)); have NB191_190 := Aside0.mk ((g43_ : gb191 ≠ gb190)); replace BK190 := bb_ BK190 hb; clear hb hbox hg) | ((with_reducible refine gate_dst (N := 4) rfl ?_); refine bx_ (N := 4) #[.int .i64 0, .int .i64 0] 36 ?_; intro gb192 hg w35 hbox hb; have BK192 := Aside0.mk (hbox); have GW192 := Aside0.mk ((g13_ : w.heap.size ≤ gb192)); have GE192 := Aside0.mk ((g13_ : w.heap.size ≤ gb192)); replace HB := Aside0.mk (below_step (spec_PlusOf.calls_q0) hb); have NB190_192 := Aside0.mk ((g42_ : gb190 ≠ gb192)); have NB192_190 := Aside0.mk ((g43_ : gb192 ≠ gb190)); replace BK190 := bb_ BK190 hb; have NB191_192 := Aside0.mk ((g77_ : gb191 ≠ gb192)); have NB192_191 := Aside0.mk ((g78_ : gb192 ≠ gb191)); replace BK191 := bb_ BK191 hb; clear hb hbox hg; have hnb36 := NB190_191.out; have hnc36 := NB191_190.out; have hnb37 := NB190_192.out; have hnc37 := NB192_190.out; obtain ⟨hcz38_0, hcz38_1, hfz38_0, hfz38_1⟩ := blk2_ BK190) | ((with_reducible refine gate_callee (f := 88) rfl ?_); refine goesL_ (some 7) rfl rfl Try.func88 k_ rfl #[.agg #[.int .i64 a0_0, .int .i64 a0_1]] rfl (g2_) ?_; (with_reducible refine (spec_FracOk.calls k a0_0 a0_1 false _ A3.out).mono ?_); rintro e w39 ⟨rfl, hb⟩; refine ⟨_, rfl, ?_⟩; replace BK190 := bb_ BK190 hb; replace BK191 := bb_ BK191 hb; replace BK192 := bb_ BK192 hb; replace HB := Aside0.mk (below_step (spec_PlusOf.calls_q0) hb); (try clear hb); (try clear hk hi); have hnb40 := NB192_191.out; have hnc40 := NB191_192.out; obtain ⟨hcz41_0, hcz41_1, hfz41_0, hfz41_1⟩ := blk2_ BK192))
  refine bodyPost_ret (results_ct rfl _ _ gb192 36 #[.int .i64 0, .int .i64 0] (0, 0) _ rfl (by (with_reducible repeat (first | refine blk_drewN ?_ _ | refine blk_drew ?_ | refine blk_alloc ?_ _)); refine blk_put (cs := #[.int .i64 0, .int .i64 0]) ?_ 1 _ rfl; (with_reducible repeat (first | refine blk_drewN ?_ _ | refine blk_drew ?_ | refine blk_alloc ?_ _)); refine blk_put (cs := #[.int .i64 0, .int .i64 0]) ?_ 0 _ rfl; (with_reducible repeat (first | refine blk_drewN ?_ _ | refine blk_drew ?_ | refine blk_alloc ?_ _)); exact BK192.out) Try.underlying36 rfl (g0_)) rfl ?_
  exact ⟨g4_, spec_PlusOf.calls_q0⟩
mutual
def spec_PaysOk.l0 : Nat → List (S36) → List Int → Int → List Int → List (List Int) → Option (Bool)
 | 0, _, _, _, _, _ => none
 | k + 1, x1, x5, x6, x203000, x203001 => if x6 < (x1.length : Int) then (spec_PaysOk.j1 k x1 x5 x6 ((x1.length : Int) == (x5.length : Int)) x203000 x203001) else (spec_PaysOk.j1 k x1 x5 x6 false x203000 x203001)
def spec_PaysOk.j1 : Nat → List (S36) → List Int → Int → Bool → List Int → List (List Int) → Option (Bool)
 | 0, _, _, _, _, _, _ => none
 | k + 1, x1, x5, x6, x19, x203000, x203001 => if x19 = true then (if 0 ≤ x6 then (if x6 < (x1.length : Int) then ((spec_FracOk.f k ((rd_T36 x1 x6).f0) ((rd_T36 x1 x6).f1)).bind fun t208 => (if t208 = true then (if ((rd_T36 x1 x6).f0) < 0 then (some false) else (if x6 < (x5.length : Int) then ((spec_BeforeOf.f k ((rd_T36 x1 x6).f0) ((rd_T36 x1 x6).f1) (rd x5 x6) 1).bind fun t212 => (if t212 > 0 then (some false) else (spec_PaysOk.l0 k x1 x5 (wrap64 (x6 + 1)) x203000 x203001))) else (none))) else (some false))) else (none)) else (none)) else ((spec_BookOk.f k x203000 x203001).bind fun t206 => (if t206 = true then (some ((x1.length : Int) == (x5.length : Int))) else (some false)))
end
def spec_PaysOk.f (k : Nat) (l0_0 : List Int) (l0_1 : List (List Int)) (l1 : List (S36)) : Option (Bool) := (spec_OwesOf.f k l0_0 l0_1).bind fun t203 => (spec_PaysOk.l0 k l1 t203 0 l0_0 l0_1)
theorem spec_PaysOk.mq {p : Prop} (h : p := by
 repeat' first
 | (with_reducible exact ih0 _ _ _ _ _)
 | (with_reducible exact ih1 _ _ _ _ _ _)
 | (with_reducible exact spec_BeforeOf.mono _ _ _ _ _)
 | (with_reducible exact spec_BookOk.mono _ _ _)
 | (with_reducible exact spec_FracOk.mono _ _ _)
 | (with_reducible exact spec_OwesOf.mono _ _ _)
 | (with_reducible exact LeO.refl _)
 | (with_reducible exact LeO.none _)
 | (with_reducible refine LeO.ite ?_ ?_)
 | (with_reducible refine LeO.bind ?_ (fun _ => ?_))
 | exact ih0 _ _ _ _ _
 | exact ih1 _ _ _ _ _ _
 | exact spec_BeforeOf.mono _ _ _ _ _
 | exact spec_BookOk.mono _ _ _
 | exact spec_FracOk.mono _ _ _
 | exact spec_OwesOf.mono _ _ _
 | exact LeO.none _
 | refine LeO.ite ?_ ?_
 | refine LeO.bind ?_ (fun _ => ?_)) : p := h
theorem spec_PaysOk.mono_l : ∀ k, (∀ y0 y1 y2 y3 y4, LeO (spec_PaysOk.l0 k y0 y1 y2 y3 y4) (spec_PaysOk.l0 (k + 1) y0 y1 y2 y3 y4)) ∧ (∀ y0 y1 y2 y3 y4 y5, LeO (spec_PaysOk.j1 k y0 y1 y2 y3 y4 y5) (spec_PaysOk.j1 (k + 1) y0 y1 y2 y3 y4 y5))
 | 0 => ⟨fun _ _ _ _ _ r h => by simp [spec_PaysOk.l0] at h, fun _ _ _ _ _ _ r h => by simp [spec_PaysOk.j1] at h⟩
 | k + 1 => by
  obtain ⟨ih0, ih1⟩ := spec_PaysOk.mono_l k
  refine ⟨?_, ?_⟩
  ·intro y0 y1 y2 y3 y4
   unfold spec_PaysOk.l0
   exact spec_PaysOk.mq
  ·intro y0 y1 y2 y3 y4 y5
   unfold spec_PaysOk.j1
   exact spec_PaysOk.mq
theorem spec_PaysOk.mono : ∀ a0 a1 a2 k, LeO (spec_PaysOk.f k a0 a1 a2) (spec_PaysOk.f (k + 1) a0 a1 a2) := by
 intro a0 a1 a2 k
 obtain ⟨ih0, ih1⟩ := spec_PaysOk.mono_l k
 unfold spec_PaysOk.f
 exact spec_PaysOk.mq
def spec_PaysOk.T5 : Bool × List (List Nat × List Nat) := (true, [([], []), ([], []), ([0, 1], [0, 1]), ([2], [2]), ([3], [3]), ([4], [4]), ([5, 4], [5]), ([6], [6]), ([6], [6]), ([7, 8, 6], [6, 7, 8]), ([9, 6], [6, 9]), ([10, 6], [6, 10]), ([11, 6], [6, 11]), ([6, 12], [6, 12]), ([13, 6], [13]), ([14], [14]), ([14], [14]), ([15, 16, 14], [14, 15, 16]), ([17, 14], [14, 17]), ([14], [14]), ([14], [14]), ([19, 20, 14], [14, 19, 20]), ([21, 14], [14, 21]), ([22, 14], [14, 22]), ([18, 23, 14, 14], [14, 18, 23]), ([24, 14], [14, 24]), ([14, 25], [14, 25])])
def spec_PaysOk.B5 : List Nat := [0, 0, 3, 7, 15, 31, 63, 127, 127, 511, 1023, 2047, 4095, 8191, 16383, 32767, 32767, 131071, 262143, 32767, 32767, 1605631, 3702783, 7897087, 16777215, 33554431, 67108863]
theorem spec_PaysOk.tab5 : rtab .any (opsOf Try.f85 5) = spec_PaysOk.T5 := by kernel_rfl
theorem spec_PaysOk.bits5 : waitsOk spec_PaysOk.T5.2 spec_PaysOk.B5 = true := by kernel_rfl
theorem spec_PaysOk.calls_q0 {p : Prop} (h : p := by repeat (first | (with_reducible first | exact HB.out | apply below_alloc | apply pw_below_drewN | apply below_drew1 | refine below_set ?_ GE202.out) | exact HB.out)) : p := h
set_option maxHeartbeats 8000000 in
set_option maxRecDepth 100000 in
theorem spec_PaysOk.calls (k : Nat) (A0_0 : Option Addr) (c0_0 : Nat) (l0_0 : List Int) (A0_1 : Option Addr) (c0_1 : Nat) (l0_1 : List (List Int)) (A1 : Option Addr) (c1 : Nat) (l1 : List (S36)) (r : Bool) (w : World) (hr0_0 : Kd.C (Kd.int .i64) w A0_0 l0_0.length l0_0) (hc0_0 : l0_0.length ≤ c0_0) (hr0_1 : Kd.C (Kd.slice 3 (Kd.int .i64)) w A0_1 l0_1.length l0_1) (hc0_1 : l0_1.length ≤ c0_1) (hr1 : Kd.C k36 w A1 l1.length l1) (hc1 : l1.length ≤ c1) (h : spec_PaysOk.f k l0_0 l0_1 l1 = some r) :
  Calls Try.prog 85 #[.agg #[.slice A0_0 l0_0.length c0_0, .slice A0_1 l0_1.length c0_1], .slice A1 l1.length c1] w fun e w' => e = .returned (.bool r) ∧ Below w.heap.size w w' := by
 have hu26 := Try.underlying26
 have hu36 := Try.underlying36
 have HR0_0 := Aside0.mk hr0_0
 have HC0_0 := Aside0.mk hc0_0
 clear hr0_0 hc0_0
 have HR0_1 := Aside0.mk hr0_1
 have HC0_1 := Aside0.mk hc0_1
 clear hr0_1 hc0_1
 have HR1 := Aside0.mk hr1
 have HC1 := Aside0.mk hc1
 clear hr1 hc1
 have HB := Aside0.mk (Below.refl w.heap.size w)
 have H : ((spec_OwesOf.f k l0_0 l0_1).bind fun t203 => (spec_PaysOk.l0 k l1 t203 0 l0_0 l0_1)) = some r := h
 clear h
 obtain ⟨t203, A3, H⟩ := bind_ H
 have H' := Aside0.mk H
 clear H
 go_enter Try.func85, Try.ntmps85
 go_wp2_with (first | ((with_reducible refine gate_dst (N := 2) rfl ?_); (try (refine gate_guard (by rfl) ?_; dsimp only)); refine bx_ (N := 2) #[.slice A0_0 l0_0.length c0_0, .slice A0_1 l0_1.length c0_1] 26 ?_; intro gb202 hg w4 hbox hb; have BK202 := Aside0.mk (hbox); have GW202 := Aside0.mk ((by rw [hg]; exact (below_size (spec_PaysOk.calls_q0)) : w.heap.size ≤ gb202)); have GE202 := Aside0.mk ((by rw [hg]; exact (below_size (spec_PaysOk.calls_q0)) : w.heap.size ≤ gb202)); replace HB := Aside0.mk (below_step (spec_PaysOk.calls_q0) hb); clear hb hbox hg; obtain ⟨hcz5_0, hcz5_1, hfz5_0, hfz5_1⟩ := blk2_ BK202) | ((with_reducible refine gate_callee (f := 54) rfl ?_); refine goesL_ (some 8) rfl rfl Try.func54 k_ rfl #[.agg #[.slice A0_0 l0_0.length c0_0, .slice A0_1 l0_1.length c0_1]] rfl (g2_) ?_; (with_reducible refine (spec_OwesOf.calls k _ _ l0_0 _ _ l0_1 t203 _ ?side1 ?side2 ?side3 ?side4 A3.out).mono ?_); (case side1 => exact uf0_ HR0_0); (case side2 => exact HC0_0.out); (case side3 => exact uf0_ HR0_1); (case side4 => exact HC0_1.out); rintro e w6 ⟨v204, rfl, ho0, hb⟩; refine ⟨_, rfl, ?_⟩; have HO205 := Aside0.mk (Kd.R_lower ho0 (below_size (spec_PaysOk.calls_q0))); replace BK202 := bb_ BK202 hb; replace HB := Aside0.mk (below_step (spec_PaysOk.calls_q0) hb); (try clear hb); (try clear hk hi); (try clear ho0)))
 go_loopg [6] k (fun kq v6 w' => ∃ (x6_1 : Int), v6 = .int .i64 x6_1 ∧ Aside0 (spec_PaysOk.l0 kq l1 t203 x6_1 l0_0 l0_1 = some r) ∧ Aside0 (kq ≤ k) ∧ Aside0 (Kd.R (Kd.int .i64) 3 w' w.heap.size (fun _ => True) v204 t203) ∧ Aside0 (w'.heap[gb202]? = some (.cells #[(.slice A0_0 l0_0.length c0_0), (.slice A0_1 l0_1.length c0_1)] 26 (0, 0))) ∧ Aside0 (Below w.heap.size w w'))
 case atStart => exact ⟨(0), (g3_), H', ⟨Nat.le_refl _⟩, ⟨uf1_ HO205⟩, ⟨uf3_ BK202⟩, ⟨spec_PaysOk.calls_q0⟩⟩
 case round =>
  clear H'
  try clear c1
  try clear p2
  try clear c5
  try clear hcz5_0
  try clear hcz5_1
  try clear hfz5_0
  try clear hfz5_1
  obtain ⟨x6_1, rfl, HA, HK1, HO_5, BK202, HB⟩ := hrel
  cases gk with
  | zero => exact absurd HA.out (by simp [spec_PaysOk.l0])
  | succ k1 =>
   have H := HA.out
   clear HA
   simp only [spec_PaysOk.l0] at H
   have HC7 := Aside0.mk H
   clear H
   go_upto_region 3 with (fail)
   go_cut [19] (fun v19 wc => ∃ (kq : Nat) (x19_6 : Bool), v19 = .bool x19_6 ∧ Aside0 (spec_PaysOk.j1 kq l1 t203 x6_1 x19_6 l0_0 l0_1 = some r) ∧ Aside0 (kq ≤ k1) ∧ Aside0 (Kd.R (Kd.int .i64) 3 wc w.heap.size (fun _ => True) v204 t203) ∧ Aside0 (wc.heap[gb202]? = some (.cells #[(.slice A0_0 l0_0.length c0_0), (.slice A0_1 l0_1.length c0_1)] 26 (0, 0))) ∧ Aside0 (Below w.heap.size w wc))
   case first =>
    have H := HC7.out
    clear HC7
    by_cases c8 : x6_1 < (l1.length : Int)
    ·rw [if_pos c8] at H
     have c8b0 := decide_eq_true c8
     clear c8
     (first | rw [c8b0] | (simp only [i64_w, i32_w]; rw [c8b0]) | skip)
     have H' := Aside0.mk H
     clear H
     obtain ⟨Ao9, co9, eo9⟩ := Kd.R_slice HO_5.out
     subst eo9
     go_wp2
     go_meet
     case rel => exact ⟨_, (((l1.length : Int) == (t203.length : Int))), (g3_), H', ⟨g39_⟩, ⟨uf1_ HO_5⟩, ⟨uf3_ BK202⟩, ⟨spec_PaysOk.calls_q0⟩⟩
    ·rw [if_neg c8] at H
     have c8b0 := decide_eq_false c8
     clear c8
     (first | rw [c8b0] | (simp only [i64_w, i32_w]; rw [c8b0]) | skip)
     have H' := Aside0.mk H
     clear H
     go_wp2
     go_meet
     case rel => exact ⟨_, (false), (g3_), H', ⟨g39_⟩, ⟨uf1_ HO_5⟩, ⟨uf3_ BK202⟩, ⟨spec_PaysOk.calls_q0⟩⟩
   case rest =>
    clear HC7
    try clear c1
    try clear p2
    try clear c5
    try clear c8
    try clear c8b0
    try clear hcz5_0
    try clear hcz5_1
    try clear hfz5_0
    try clear hfz5_1
    try clear p2
    obtain ⟨kq, x19_6, rfl, HA, HJ6, HO_5, BK202, HB⟩ := hcut
    cases kq with
    | zero => exact absurd HA.out (by simp [spec_PaysOk.j1])
    | succ kj6 =>
     have H := HA.out
     clear HA
     simp only [spec_PaysOk.j1] at H
     by_cases c10 : x19_6 = true
     ·subst c10
      replace H := ifp_ H
      obtain ⟨c11, H⟩ := pos_ H
      have c11b0 := decide_eq_true c11
      clear c11
      obtain ⟨c12, H⟩ := pos_ H
      have c12b0 := decide_eq_true c12
      clear c12
      obtain ⟨t208, A13, H⟩ := bind_ H
      by_cases c14 : t208 = true
      ·subst c14
       replace H := ifp_ H
       by_cases c15 : ((rd_T36 l1 x6_1).f0) < 0
       ·rw [if_pos c15] at H
        have c15b0 := decide_eq_true c15
        clear c15
        obtain rfl := Option.some.inj H
        try go_wp2
        replace HO_5 := Aside0.mk (Kd.R_drew HO_5.out)
        replace BK202 := Aside0.mk (blk_drew BK202.out)
        replace HB := Aside0.mk (below_drew1 HB.out)
        have p207 : 0 ≤ (x6_1 : Int) := of_decide_eq_true (g1_)
        have q207 : x6_1 < (l1.length : Int) := of_decide_eq_true (g1_)
        obtain ⟨ad207, e207, hx207_0, hx207_1⟩ := at_T36 HR1.out x6_1 p207 q207
        have hw207_1 := hx207_1
        have hw207_0 := hx207_0
        cases e207
        replace hx207_0 := cl_ HB hx207_0
        replace hx207_1 := cl_ HB hx207_1
        replace p207 := eq_true p207
        replace q207 := eq_true q207
        have p209 : 0 ≤ (x6_1 : Int) := of_decide_eq_true (g1_)
        have q209 : x6_1 < (l1.length : Int) := of_decide_eq_true (g1_)
        obtain ⟨ad209, e209, hx209_0, hx209_1⟩ := at_T36 HR1.out x6_1 p209 q209
        have hw209_1 := hx209_1
        have hw209_0 := hx209_0
        obtain rfl : ad207 = ad209 := (by injection e209)
        replace hx209_0 := cl_ HB hx209_0
        replace hx209_1 := cl_ HB hx209_1
        replace p209 := eq_true p209
        replace q209 := eq_true q209
        refine start_ (n := 27) (S := fun w' => w'.cell? (ad207.add ((x6_1).toNat * 2)) = some (.int .i64 ((rd_T36 l1 x6_1).f0)) ∧ w'.cell? ⟨(ad207.add ((x6_1).toNat * 2)).block, (ad207.add ((x6_1).toNat * 2)).off + 1, none⟩ = some (.int .i64 ((rd_T36 l1 x6_1).f1)) ∧ w'.cell? (ad207.add ((x6_1).toNat * 2)) = some (.int .i64 ((rd_T36 l1 x6_1).f0)) ∧ w'.cell? ⟨(ad207.add ((x6_1).toNat * 2)).block, (ad207.add ((x6_1).toNat * 2)).off + 1, none⟩ = some (.int .i64 ((rd_T36 l1 x6_1).f1))) (ds := []) (tl_ 27 0) (g0_) rfl (g0_) ⟨((cl_ HB hw207_0).trans rfl), ((cl_ HB hw207_1).trans rfl), ((cl_ HB hw209_0).trans rfl), ((cl_ HB hw209_1).trans rfl)⟩ (fun hHeld => ?_); refine with_tabW spec_PaysOk.tab5 spec_PaysOk.bits5 (fun HT_ HW_ => ?_)
        generalize wc.drew = w16 at HO_5 BK202 HB hx207_0 hx207_1 hx209_0 hx209_1 hHeld ⊢
        refine pw_ 0 22 (tl_ 27 1) rfl rfl ?_
        refine pw_ 1 23 (tl_ 27 3) rfl rfl ?_
        refine pw_ 2 24 (tl_ 27 7) rfl rfl ?_
        refine tk0_ 3 25 (tl_ 27 15) rfl rfl hHeld ?_
        refine one_ (i := 4) (N := some 26) (tl_ 27 31) rfl rfl (one_of HT_.out (g0_)) (by decide) (fun K hK => ?_)
        refine goes_ Try.func88 (g0_) rfl #[.agg #[.int .i64 ((rd_T36 l1 x6_1).f0), .int .i64 ((rd_T36 l1 x6_1).f1)]] (by rfl) rfl rfl (g2_) ?_
        with_reducible refine (spec_FracOk.calls kj6 ((rd_T36 l1 x6_1).f0) ((rd_T36 l1 x6_1).f1) true _ A13.out).mono ?_
        rintro e w17 ⟨rfl, hb⟩
        refine ⟨_, rfl, ?_⟩
        replace HO_5 := Aside0.mk (Kd.R_below (uf1_ HO_5) hb)
        replace BK202 := bb_ BK202 hb
        replace HB := Aside0.mk (below_step (spec_PaysOk.calls_q0) hb)
        (try clear hb)
        (try clear hk hi)
        refine hK.out _ _ ⟨((cl_ HB hw207_0).trans rfl), ((cl_ HB hw207_1).trans rfl), ((cl_ HB hw209_0).trans rfl), ((cl_ HB hw209_1).trans rfl)⟩ (fun hHeld => ?_)
        clear hK K
        refine nm_ ?_
        refine pw_ 5 27 (tl_ 27 63) rfl rfl ?_
        refine pw_ 6 28 (tl_ 27 127) rfl rfl ?_
        refine pw_ 7 29 (tl_ 27 255) rfl rfl ?_
        refine pw_ 8 30 (tl_ 27 511) rfl rfl ?_
        refine pw_ 9 31 (tl_ 27 1023) rfl rfl ?_
        refine pw_ 10 32 (tl_ 27 2047) rfl rfl ?_
        refine tk0_ 11 33 (tl_ 27 4095) rfl rfl hHeld ?_
        refine pw_ 12 34 (tl_ 27 8191) rfl rfl ?_
        refine pw_ 13 35 (tl_ 27 16383) rfl rfl ?_
        refine pw_ 14 36 (tl_ 27 32767) rfl rfl ?_
        refine pu_ 15 37 (tl_ 27 65535) rfl rfl ?_
        refine pu_ 16 38 (tl_ 27 131071) rfl rfl ?_
        refine pu_ 17 39 (tl_ 27 262143) rfl rfl ?_
        refine pu_ 18 40 (tl_ 27 524287) rfl rfl ?_
        refine pu_ 19 41 (tl_ 27 1048575) rfl rfl ?_
        refine pu_ 20 42 (tl_ 27 2097151) rfl rfl ?_
        refine pu_ 21 43 (tl_ 27 4194303) rfl rfl ?_
        refine pu_ 22 44 (tl_ 27 8388607) rfl rfl ?_
        refine pu_ 23 45 (tl_ 27 16777215) rfl rfl ?_
        refine pu_ 24 46 (tl_ 27 33554431) rfl rfl ?_
        refine pu_ 25 47 (tl_ 27 67108863) rfl rfl ?_
        refine pw_ 26 48 (tl_ 27 134217727) rfl rfl ?_
        refine done_ (done_of HT_.out (g0_)) ?_
        try go_wp2
        go_ret
        exact ⟨g4_, spec_PaysOk.calls_q0⟩
       ·rw [if_neg c15] at H
        have c15b0 := decide_eq_false c15
        clear c15
        obtain ⟨c18, H⟩ := pos_ H
        have c18b0 := decide_eq_true c18
        clear c18
        obtain ⟨t212, A19, H⟩ := bind_ H
        by_cases c20 : t212 > 0
        ·rw [if_pos c20] at H
         have c20b0 := decide_eq_true c20
         clear c20
         obtain rfl := Option.some.inj H
         try go_wp2
         replace HO_5 := Aside0.mk (Kd.R_drew HO_5.out)
         replace BK202 := Aside0.mk (blk_drew BK202.out)
         replace HB := Aside0.mk (below_drew1 HB.out)
         have p207 : 0 ≤ (x6_1 : Int) := of_decide_eq_true (g1_)
         have q207 : x6_1 < (l1.length : Int) := of_decide_eq_true (g1_)
         obtain ⟨ad207, e207, hx207_0, hx207_1⟩ := at_T36 HR1.out x6_1 p207 q207
         have hw207_1 := hx207_1
         have hw207_0 := hx207_0
         cases e207
         replace hx207_0 := cl_ HB hx207_0
         replace hx207_1 := cl_ HB hx207_1
         replace p207 := eq_true p207
         replace q207 := eq_true q207
         have p209 : 0 ≤ (x6_1 : Int) := of_decide_eq_true (g1_)
         have q209 : x6_1 < (l1.length : Int) := of_decide_eq_true (g1_)
         obtain ⟨ad209, e209, hx209_0, hx209_1⟩ := at_T36 HR1.out x6_1 p209 q209
         have hw209_1 := hx209_1
         have hw209_0 := hx209_0
         obtain rfl : ad207 = ad209 := (by injection e209)
         replace hx209_0 := cl_ HB hx209_0
         replace hx209_1 := cl_ HB hx209_1
         replace p209 := eq_true p209
         replace q209 := eq_true q209
         have p210 : 0 ≤ (x6_1 : Int) := of_decide_eq_true (g1_)
         have q210 : x6_1 < (l1.length : Int) := of_decide_eq_true (g1_)
         obtain ⟨ad210, e210, hx210_0, hx210_1⟩ := at_T36 HR1.out x6_1 p210 q210
         have hw210_1 := hx210_1
         have hw210_0 := hx210_0
         obtain rfl : ad207 = ad210 := (by injection e210)
         replace hx210_0 := cl_ HB hx210_0
         replace hx210_1 := cl_ HB hx210_1
         replace p210 := eq_true p210
         replace q210 := eq_true q210
         have p211 : 0 ≤ (x6_1 : Int) := of_decide_eq_true (g1_)
         have q211 : x6_1 < (t203.length : Int) := of_decide_eq_true (g1_)
         try (obtain ⟨Aoz, coz, eoz⟩ := Kd.R_slice HO_5.out; subst eoz)
         obtain ⟨ad211, e211, hx211_0⟩ := Kd.at_int (Kd.R_reads' HO_5.out).2.2 x6_1 p211 q211
         cases e211
         replace p211 := eq_true p211
         replace q211 := eq_true q211
         refine start_ (n := 27) (S := fun w' => w'.cell? (ad207.add ((x6_1).toNat * 2)) = some (.int .i64 ((rd_T36 l1 x6_1).f0)) ∧ w'.cell? ⟨(ad207.add ((x6_1).toNat * 2)).block, (ad207.add ((x6_1).toNat * 2)).off + 1, none⟩ = some (.int .i64 ((rd_T36 l1 x6_1).f1)) ∧ w'.cell? (ad207.add ((x6_1).toNat * 2)) = some (.int .i64 ((rd_T36 l1 x6_1).f0)) ∧ w'.cell? ⟨(ad207.add ((x6_1).toNat * 2)).block, (ad207.add ((x6_1).toNat * 2)).off + 1, none⟩ = some (.int .i64 ((rd_T36 l1 x6_1).f1)) ∧ w'.cell? (ad207.add ((x6_1).toNat * 2)) = some (.int .i64 ((rd_T36 l1 x6_1).f0)) ∧ w'.cell? ⟨(ad207.add ((x6_1).toNat * 2)).block, (ad207.add ((x6_1).toNat * 2)).off + 1, none⟩ = some (.int .i64 ((rd_T36 l1 x6_1).f1)) ∧ w'.cell? (ad211.add (x6_1).toNat) = some (.int .i64 (rd t203 x6_1))) (ds := []) (tl_ 27 0) (g0_) rfl (g0_) ⟨((cl_ HB hw207_0).trans rfl), ((cl_ HB hw207_1).trans rfl), ((cl_ HB hw209_0).trans rfl), ((cl_ HB hw209_1).trans rfl), ((cl_ HB hw210_0).trans rfl), ((cl_ HB hw210_1).trans rfl), hx211_0⟩ (fun hHeld => ?_); refine with_tabW spec_PaysOk.tab5 spec_PaysOk.bits5 (fun HT_ HW_ => ?_)
         generalize wc.drew = w21 at HO_5 BK202 HB hx207_0 hx207_1 hx209_0 hx209_1 hx210_0 hx210_1 hx211_0 hHeld ⊢
         refine pw_ 0 22 (tl_ 27 1) rfl rfl ?_
         refine pw_ 1 23 (tl_ 27 3) rfl rfl ?_
         refine pw_ 2 24 (tl_ 27 7) rfl rfl ?_
         refine tk3_ 3 25 (tl_ 27 15) rfl rfl hHeld ?_
         refine one_ (i := 4) (N := some 26) (tl_ 27 31) rfl rfl (one_of HT_.out (g0_)) (by decide) (fun K hK => ?_)
         refine goes_ Try.func88 (g0_) rfl #[.agg #[.int .i64 ((rd_T36 l1 x6_1).f0), .int .i64 ((rd_T36 l1 x6_1).f1)]] (by rfl) rfl rfl (g2_) ?_
         with_reducible refine (spec_FracOk.calls kj6 ((rd_T36 l1 x6_1).f0) ((rd_T36 l1 x6_1).f1) true _ A13.out).mono ?_
         rintro e w22 ⟨rfl, hb⟩
         have HS6_ := (hb.cell (World.block_lt_of_cell? _ _ (hHeld.2.2.2.2.2.2))).trans (hHeld.2.2.2.2.2.2)
         refine ⟨_, rfl, ?_⟩
         replace HO_5 := Aside0.mk (Kd.R_below (uf1_ HO_5) hb)
         replace BK202 := bb_ BK202 hb
         replace HB := Aside0.mk (below_step (spec_PaysOk.calls_q0) hb)
         (try clear hb)
         (try clear hk hi)
         obtain ⟨Ao23, co23, eo23⟩ := Kd.R_slice HO_5.out
         (first | subst eo23 | (injection eo23 with f1_ f2_ f3_; have f4_ := f1_.symm; have f5_ := f3_.symm; clear f1_ f2_ f3_; subst f4_; subst f5_))
         refine hK.out _ _ ⟨((cl_ HB hw207_0).trans rfl), ((cl_ HB hw207_1).trans rfl), ((cl_ HB hw209_0).trans rfl), ((cl_ HB hw209_1).trans rfl), ((cl_ HB hw210_0).trans rfl), ((cl_ HB hw210_1).trans rfl), HS6_⟩ (fun hHeld => ?_)
         clear hK K
         refine nm_ ?_
         refine pw_ 5 27 (tl_ 27 63) rfl rfl ?_
         refine pw_ 6 28 (tl_ 27 127) rfl rfl ?_
         refine pw_ 7 29 (tl_ 27 255) rfl rfl ?_
         refine pw_ 8 30 (tl_ 27 511) rfl rfl ?_
         refine pw_ 9 31 (tl_ 27 1023) rfl rfl ?_
         refine pw_ 10 32 (tl_ 27 2047) rfl rfl ?_
         refine tk3_ 11 33 (tl_ 27 4095) rfl rfl hHeld ?_
         refine pw_ 12 34 (tl_ 27 8191) rfl rfl ?_
         refine pw_ 13 35 (tl_ 27 16383) rfl rfl ?_
         refine pw_ 14 36 (tl_ 27 32767) rfl rfl ?_
         refine pw_ 15 37 (tl_ 27 65535) rfl rfl ?_
         refine pw_ 16 38 (tl_ 27 131071) rfl rfl ?_
         refine pw_ 17 39 (tl_ 27 262143) rfl rfl ?_
         refine pw_ 19 41 (tl_ 27 786431) rfl rfl ?_
         refine pw_ 20 42 (tl_ 27 1835007) rfl rfl ?_
         refine pw_ 21 43 (tl_ 27 3932159) rfl rfl ?_
         refine tk3_ 18 40 (tl_ 27 4194303) rfl rfl hHeld ?_
         refine tk3_ 22 44 (tl_ 27 8388607) rfl rfl hHeld ?_
         refine pw_ 23 45 (tl_ 27 16777215) rfl rfl ?_
         refine one_ (i := 24) (N := some 46) (tl_ 27 33554431) rfl rfl (one_of HT_.out (g0_)) (by decide) (fun K hK => ?_)
         refine goes_ Try.func75 (g0_) rfl #[.agg #[.int .i64 ((rd_T36 l1 x6_1).f0), .int .i64 ((rd_T36 l1 x6_1).f1)], .agg #[.int .i64 (rd t203 x6_1), .int .i64 1]] (by rfl) rfl rfl (g2_) ?_
         with_reducible refine (spec_BeforeOf.calls kj6 ((rd_T36 l1 x6_1).f0) ((rd_T36 l1 x6_1).f1) (rd t203 x6_1) 1 t212 _ A19.out).mono ?_
         rintro e w24 ⟨rfl, hb⟩
         have HS6_ := (hb.cell (World.block_lt_of_cell? _ _ (hHeld.2.2.2.2.2.2))).trans (hHeld.2.2.2.2.2.2)
         refine ⟨_, rfl, ?_⟩
         replace HO_5 := Aside0.mk (Kd.R_below (uf1_ HO_5) hb)
         replace BK202 := bb_ BK202 hb
         replace HB := Aside0.mk (below_step (spec_PaysOk.calls_q0) hb)
         (try clear hb)
         (try clear hk hi)
         refine hK.out _ _ ⟨((cl_ HB hw207_0).trans rfl), ((cl_ HB hw207_1).trans rfl), ((cl_ HB hw209_0).trans rfl), ((cl_ HB hw209_1).trans rfl), ((cl_ HB hw210_0).trans rfl), ((cl_ HB hw210_1).trans rfl), HS6_⟩ (fun hHeld => ?_)
         clear hK K
         refine nm_ ?_
         refine pw_ 25 47 (tl_ 27 67108863) rfl rfl ?_
         refine pw_ 26 48 (tl_ 27 134217727) rfl rfl ?_
         refine done_ (done_of HT_.out (g0_)) ?_
         try go_wp2
         go_ret
         exact ⟨g4_, spec_PaysOk.calls_q0⟩
        ·rw [if_neg c20] at H
         have c20b0 := decide_eq_false c20
         clear c20
         have H' := Aside0.mk H
         clear H
         try go_wp2
         replace HO_5 := Aside0.mk (Kd.R_drew HO_5.out)
         replace BK202 := Aside0.mk (blk_drew BK202.out)
         replace HB := Aside0.mk (below_drew1 HB.out)
         have p207 : 0 ≤ (x6_1 : Int) := of_decide_eq_true (g1_)
         have q207 : x6_1 < (l1.length : Int) := of_decide_eq_true (g1_)
         obtain ⟨ad207, e207, hx207_0, hx207_1⟩ := at_T36 HR1.out x6_1 p207 q207
         have hw207_1 := hx207_1
         have hw207_0 := hx207_0
         cases e207
         replace hx207_0 := cl_ HB hx207_0
         replace hx207_1 := cl_ HB hx207_1
         replace p207 := eq_true p207
         replace q207 := eq_true q207
         have p209 : 0 ≤ (x6_1 : Int) := of_decide_eq_true (g1_)
         have q209 : x6_1 < (l1.length : Int) := of_decide_eq_true (g1_)
         obtain ⟨ad209, e209, hx209_0, hx209_1⟩ := at_T36 HR1.out x6_1 p209 q209
         have hw209_1 := hx209_1
         have hw209_0 := hx209_0
         obtain rfl : ad207 = ad209 := (by injection e209)
         replace hx209_0 := cl_ HB hx209_0
         replace hx209_1 := cl_ HB hx209_1
         replace p209 := eq_true p209
         replace q209 := eq_true q209
         have p210 : 0 ≤ (x6_1 : Int) := of_decide_eq_true (g1_)
         have q210 : x6_1 < (l1.length : Int) := of_decide_eq_true (g1_)
         obtain ⟨ad210, e210, hx210_0, hx210_1⟩ := at_T36 HR1.out x6_1 p210 q210
         have hw210_1 := hx210_1
         have hw210_0 := hx210_0
         obtain rfl : ad207 = ad210 := (by injection e210)
         replace hx210_0 := cl_ HB hx210_0
         replace hx210_1 := cl_ HB hx210_1
         replace p210 := eq_true p210
         replace q210 := eq_true q210
         have p211 : 0 ≤ (x6_1 : Int) := of_decide_eq_true (g1_)
         have q211 : x6_1 < (t203.length : Int) := of_decide_eq_true (g1_)
         try (obtain ⟨Aoz, coz, eoz⟩ := Kd.R_slice HO_5.out; subst eoz)
         obtain ⟨ad211, e211, hx211_0⟩ := Kd.at_int (Kd.R_reads' HO_5.out).2.2 x6_1 p211 q211
         cases e211
         replace p211 := eq_true p211
         replace q211 := eq_true q211
         refine start_ (n := 27) (S := fun w' => w'.cell? (ad207.add ((x6_1).toNat * 2)) = some (.int .i64 ((rd_T36 l1 x6_1).f0)) ∧ w'.cell? ⟨(ad207.add ((x6_1).toNat * 2)).block, (ad207.add ((x6_1).toNat * 2)).off + 1, none⟩ = some (.int .i64 ((rd_T36 l1 x6_1).f1)) ∧ w'.cell? (ad207.add ((x6_1).toNat * 2)) = some (.int .i64 ((rd_T36 l1 x6_1).f0)) ∧ w'.cell? ⟨(ad207.add ((x6_1).toNat * 2)).block, (ad207.add ((x6_1).toNat * 2)).off + 1, none⟩ = some (.int .i64 ((rd_T36 l1 x6_1).f1)) ∧ w'.cell? (ad207.add ((x6_1).toNat * 2)) = some (.int .i64 ((rd_T36 l1 x6_1).f0)) ∧ w'.cell? ⟨(ad207.add ((x6_1).toNat * 2)).block, (ad207.add ((x6_1).toNat * 2)).off + 1, none⟩ = some (.int .i64 ((rd_T36 l1 x6_1).f1)) ∧ w'.cell? (ad211.add (x6_1).toNat) = some (.int .i64 (rd t203 x6_1))) (ds := []) (tl_ 27 0) (g0_) rfl (g0_) ⟨((cl_ HB hw207_0).trans rfl), ((cl_ HB hw207_1).trans rfl), ((cl_ HB hw209_0).trans rfl), ((cl_ HB hw209_1).trans rfl), ((cl_ HB hw210_0).trans rfl), ((cl_ HB hw210_1).trans rfl), hx211_0⟩ (fun hHeld => ?_); refine with_tabW spec_PaysOk.tab5 spec_PaysOk.bits5 (fun HT_ HW_ => ?_)
         generalize wc.drew = w25 at HO_5 BK202 HB hx207_0 hx207_1 hx209_0 hx209_1 hx210_0 hx210_1 hx211_0 hHeld ⊢
         refine pw_ 0 22 (tl_ 27 1) rfl rfl ?_
         refine pw_ 1 23 (tl_ 27 3) rfl rfl ?_
         refine pw_ 2 24 (tl_ 27 7) rfl rfl ?_
         refine tk3_ 3 25 (tl_ 27 15) rfl rfl hHeld ?_
         refine one_ (i := 4) (N := some 26) (tl_ 27 31) rfl rfl (one_of HT_.out (g0_)) (by decide) (fun K hK => ?_)
         refine goes_ Try.func88 (g0_) rfl #[.agg #[.int .i64 ((rd_T36 l1 x6_1).f0), .int .i64 ((rd_T36 l1 x6_1).f1)]] (by rfl) rfl rfl (g2_) ?_
         with_reducible refine (spec_FracOk.calls kj6 ((rd_T36 l1 x6_1).f0) ((rd_T36 l1 x6_1).f1) true _ A13.out).mono ?_
         rintro e w26 ⟨rfl, hb⟩
         have HS6_ := (hb.cell (World.block_lt_of_cell? _ _ (hHeld.2.2.2.2.2.2))).trans (hHeld.2.2.2.2.2.2)
         refine ⟨_, rfl, ?_⟩
         replace HO_5 := Aside0.mk (Kd.R_below (uf1_ HO_5) hb)
         replace BK202 := bb_ BK202 hb
         replace HB := Aside0.mk (below_step (spec_PaysOk.calls_q0) hb)
         (try clear hb)
         (try clear hk hi)
         obtain ⟨Ao27, co27, eo27⟩ := Kd.R_slice HO_5.out
         (first | subst eo27 | (injection eo27 with f1_ f2_ f3_; have f4_ := f1_.symm; have f5_ := f3_.symm; clear f1_ f2_ f3_; subst f4_; subst f5_))
         refine hK.out _ _ ⟨((cl_ HB hw207_0).trans rfl), ((cl_ HB hw207_1).trans rfl), ((cl_ HB hw209_0).trans rfl), ((cl_ HB hw209_1).trans rfl), ((cl_ HB hw210_0).trans rfl), ((cl_ HB hw210_1).trans rfl), HS6_⟩ (fun hHeld => ?_)
         clear hK K
         refine nm_ ?_
         refine pw_ 5 27 (tl_ 27 63) rfl rfl ?_
         refine pw_ 6 28 (tl_ 27 127) rfl rfl ?_
         refine pw_ 7 29 (tl_ 27 255) rfl rfl ?_
         refine pw_ 8 30 (tl_ 27 511) rfl rfl ?_
         refine pw_ 9 31 (tl_ 27 1023) rfl rfl ?_
         refine pw_ 10 32 (tl_ 27 2047) rfl rfl ?_
         refine tk3_ 11 33 (tl_ 27 4095) rfl rfl hHeld ?_
         refine pw_ 12 34 (tl_ 27 8191) rfl rfl ?_
         refine pw_ 13 35 (tl_ 27 16383) rfl rfl ?_
         refine pw_ 14 36 (tl_ 27 32767) rfl rfl ?_
         refine pw_ 15 37 (tl_ 27 65535) rfl rfl ?_
         refine pw_ 16 38 (tl_ 27 131071) rfl rfl ?_
         refine pw_ 17 39 (tl_ 27 262143) rfl rfl ?_
         refine pw_ 19 41 (tl_ 27 786431) rfl rfl ?_
         refine pw_ 20 42 (tl_ 27 1835007) rfl rfl ?_
         refine pw_ 21 43 (tl_ 27 3932159) rfl rfl ?_
         refine tk3_ 18 40 (tl_ 27 4194303) rfl rfl hHeld ?_
         refine tk3_ 22 44 (tl_ 27 8388607) rfl rfl hHeld ?_
         refine pw_ 23 45 (tl_ 27 16777215) rfl rfl ?_
         refine one_ (i := 24) (N := some 46) (tl_ 27 33554431) rfl rfl (one_of HT_.out (g0_)) (by decide) (fun K hK => ?_)
         refine goes_ Try.func75 (g0_) rfl #[.agg #[.int .i64 ((rd_T36 l1 x6_1).f0), .int .i64 ((rd_T36 l1 x6_1).f1)], .agg #[.int .i64 (rd t203 x6_1), .int .i64 1]] (by rfl) rfl rfl (g2_) ?_
         with_reducible refine (spec_BeforeOf.calls kj6 ((rd_T36 l1 x6_1).f0) ((rd_T36 l1 x6_1).f1) (rd t203 x6_1) 1 t212 _ A19.out).mono ?_
         rintro e w28 ⟨rfl, hb⟩
         have HS6_ := (hb.cell (World.block_lt_of_cell? _ _ (hHeld.2.2.2.2.2.2))).trans (hHeld.2.2.2.2.2.2)
         refine ⟨_, rfl, ?_⟩
         replace HO_5 := Aside0.mk (Kd.R_below (uf1_ HO_5) hb)
         replace BK202 := bb_ BK202 hb
         replace HB := Aside0.mk (below_step (spec_PaysOk.calls_q0) hb)
         (try clear hb)
         (try clear hk hi)
         refine hK.out _ _ ⟨((cl_ HB hw207_0).trans rfl), ((cl_ HB hw207_1).trans rfl), ((cl_ HB hw209_0).trans rfl), ((cl_ HB hw209_1).trans rfl), ((cl_ HB hw210_0).trans rfl), ((cl_ HB hw210_1).trans rfl), HS6_⟩ (fun hHeld => ?_)
         clear hK K
         refine nm_ ?_
         refine pw_ 25 47 (tl_ 27 67108863) rfl rfl ?_
         refine pw_ 26 48 (tl_ 27 134217727) rfl rfl ?_
         refine done_ (done_of HT_.out (g0_)) ?_
         try go_wp2
         go_roundg kj6
         case measure => have := HK1.out; have := HJ6.out; omega
         case rel => exact ⟨(wrap64 (x6_1 + 1)), (g3_), H', ⟨by have := HK1.out; have := HJ6.out; omega⟩, ⟨uf1_ HO_5⟩, ⟨uf3_ BK202⟩, ⟨spec_PaysOk.calls_q0⟩⟩
      ·replace c14 := Bool.eq_false_iff.mpr c14
       subst c14
       replace H := ifn_ H
       obtain rfl := Option.some.inj H
       try go_wp2
       replace HO_5 := Aside0.mk (Kd.R_drew HO_5.out)
       replace BK202 := Aside0.mk (blk_drew BK202.out)
       replace HB := Aside0.mk (below_drew1 HB.out)
       have p207 : 0 ≤ (x6_1 : Int) := of_decide_eq_true (g1_)
       have q207 : x6_1 < (l1.length : Int) := of_decide_eq_true (g1_)
       obtain ⟨ad207, e207, hx207_0, hx207_1⟩ := at_T36 HR1.out x6_1 p207 q207
       have hw207_1 := hx207_1
       have hw207_0 := hx207_0
       cases e207
       replace hx207_0 := cl_ HB hx207_0
       replace hx207_1 := cl_ HB hx207_1
       replace p207 := eq_true p207
       replace q207 := eq_true q207
       refine start_ (n := 27) (S := fun w' => w'.cell? (ad207.add ((x6_1).toNat * 2)) = some (.int .i64 ((rd_T36 l1 x6_1).f0)) ∧ w'.cell? ⟨(ad207.add ((x6_1).toNat * 2)).block, (ad207.add ((x6_1).toNat * 2)).off + 1, none⟩ = some (.int .i64 ((rd_T36 l1 x6_1).f1))) (ds := []) (tl_ 27 0) (g0_) rfl (g0_) ⟨((cl_ HB hw207_0).trans rfl), ((cl_ HB hw207_1).trans rfl)⟩ (fun hHeld => ?_); refine with_tabW spec_PaysOk.tab5 spec_PaysOk.bits5 (fun HT_ HW_ => ?_)
       generalize wc.drew = w29 at HO_5 BK202 HB hx207_0 hx207_1 hHeld ⊢
       refine pw_ 0 22 (tl_ 27 1) rfl rfl ?_
       refine pw_ 1 23 (tl_ 27 3) rfl rfl ?_
       refine pw_ 2 24 (tl_ 27 7) rfl rfl ?_
       refine tk4_ 3 25 (tl_ 27 15) rfl rfl hHeld ?_
       refine one_ (i := 4) (N := some 26) (tl_ 27 31) rfl rfl (one_of HT_.out (g0_)) (by decide) (fun K hK => ?_)
       refine goes_ Try.func88 (g0_) rfl #[.agg #[.int .i64 ((rd_T36 l1 x6_1).f0), .int .i64 ((rd_T36 l1 x6_1).f1)]] (by rfl) rfl rfl (g2_) ?_
       with_reducible refine (spec_FracOk.calls kj6 ((rd_T36 l1 x6_1).f0) ((rd_T36 l1 x6_1).f1) false _ A13.out).mono ?_
       rintro e w30 ⟨rfl, hb⟩
       refine ⟨_, rfl, ?_⟩
       replace HO_5 := Aside0.mk (Kd.R_below (uf1_ HO_5) hb)
       replace BK202 := bb_ BK202 hb
       replace HB := Aside0.mk (below_step (spec_PaysOk.calls_q0) hb)
       (try clear hb)
       (try clear hk hi)
       refine hK.out _ _ ⟨((cl_ HB hw207_0).trans rfl), ((cl_ HB hw207_1).trans rfl)⟩ (fun hHeld => ?_)
       clear hK K
       refine nm_ ?_
       refine pw_ 5 27 (tl_ 27 63) rfl rfl ?_
       refine pw_ 6 28 (tl_ 27 127) rfl rfl ?_
       refine pu_ 7 29 (tl_ 27 255) rfl rfl ?_
       refine pu_ 8 30 (tl_ 27 511) rfl rfl ?_
       refine pu_ 9 31 (tl_ 27 1023) rfl rfl ?_
       refine pu_ 10 32 (tl_ 27 2047) rfl rfl ?_
       refine pu_ 11 33 (tl_ 27 4095) rfl rfl ?_
       refine pu_ 12 34 (tl_ 27 8191) rfl rfl ?_
       refine pw_ 13 35 (tl_ 27 16383) rfl rfl ?_
       refine pw_ 14 36 (tl_ 27 32767) rfl rfl ?_
       refine pu_ 15 37 (tl_ 27 65535) rfl rfl ?_
       refine pu_ 16 38 (tl_ 27 131071) rfl rfl ?_
       refine pu_ 17 39 (tl_ 27 262143) rfl rfl ?_
       refine pu_ 18 40 (tl_ 27 524287) rfl rfl ?_
       refine pu_ 19 41 (tl_ 27 1048575) rfl rfl ?_
       refine pu_ 20 42 (tl_ 27 2097151) rfl rfl ?_
       refine pu_ 21 43 (tl_ 27 4194303) rfl rfl ?_
       refine pu_ 22 44 (tl_ 27 8388607) rfl rfl ?_
       refine pu_ 23 45 (tl_ 27 16777215) rfl rfl ?_
       refine pu_ 24 46 (tl_ 27 33554431) rfl rfl ?_
       refine pu_ 25 47 (tl_ 27 67108863) rfl rfl ?_
       refine pw_ 26 48 (tl_ 27 134217727) rfl rfl ?_
       refine done_ (done_of HT_.out (g0_)) ?_
       try go_wp2
       go_ret
       exact ⟨g4_, spec_PaysOk.calls_q0⟩
     ·replace c10 := Bool.eq_false_iff.mpr c10
      subst c10
      replace H := ifn_ H
      obtain ⟨t206, A31, H⟩ := bind_ H
      by_cases c32 : t206 = true
      ·subst c32
       replace H := ifp_ H
       obtain rfl := Option.some.inj H
       obtain ⟨hcz33_0, hcz33_1, hfz33_0, hfz33_1⟩ := blk2_ BK202
       go_wp2_with (first | ((with_reducible refine gate_callee (f := 84) rfl ?_); refine goesL_ (some 50) rfl rfl Try.func84 k_ rfl #[.agg #[.slice A0_0 l0_0.length c0_0, .slice A0_1 l0_1.length c0_1]] rfl (g2_) ?_; (with_reducible refine (spec_BookOk.calls kj6 _ _ l0_0 _ _ l0_1 true _ ?side1 ?side2 ?side3 ?side4 A31.out).mono ?_); (case side1 => exact uf0_ HR0_0); (case side2 => exact HC0_0.out); (case side3 => exact uf0_ HR0_1); (case side4 => exact HC0_1.out); rintro e w34 ⟨rfl, hb⟩; refine ⟨_, rfl, ?_⟩; replace HO_5 := Aside0.mk (Kd.R_below (uf1_ HO_5) hb); replace BK202 := bb_ BK202 hb; replace HB := Aside0.mk (below_step (spec_PaysOk.calls_q0) hb); (try clear hb); (try clear hk hi); obtain ⟨Ao35, co35, eo35⟩ := Kd.R_slice HO_5.out; subst eo35))
       go_ret
       exact ⟨g4_, spec_PaysOk.calls_q0⟩
      ·replace c32 := Bool.eq_false_iff.mpr c32
       subst c32
       replace H := ifn_ H
       obtain rfl := Option.some.inj H
       obtain ⟨hcz36_0, hcz36_1, hfz36_0, hfz36_1⟩ := blk2_ BK202
       go_wp2_with (first | ((with_reducible refine gate_callee (f := 84) rfl ?_); refine goesL_ (some 50) rfl rfl Try.func84 k_ rfl #[.agg #[.slice A0_0 l0_0.length c0_0, .slice A0_1 l0_1.length c0_1]] rfl (g2_) ?_; (with_reducible refine (spec_BookOk.calls kj6 _ _ l0_0 _ _ l0_1 false _ ?side1 ?side2 ?side3 ?side4 A31.out).mono ?_); (case side1 => exact uf0_ HR0_0); (case side2 => exact HC0_0.out); (case side3 => exact uf0_ HR0_1); (case side4 => exact HC0_1.out); rintro e w37 ⟨rfl, hb⟩; refine ⟨_, rfl, ?_⟩; replace HO_5 := Aside0.mk (Kd.R_below (uf1_ HO_5) hb); replace BK202 := bb_ BK202 hb; replace HB := Aside0.mk (below_step (spec_PaysOk.calls_q0) hb); (try clear hb); (try clear hk hi)))
       go_ret
       exact ⟨g4_, spec_PaysOk.calls_q0⟩
def spec_FracOf.f (k : Nat) (a0 : Int) (a1 : Int) : Option (Int × Int × Bool) := (spec_l1In.f a0 (-1000000000) 1000000000).bind fun t214 => (if t214 = true then ((spec_l1In.f a1 (-1000000000) 1000000000).bind fun t215 => (if t215 = true then (if a1 = 0 then (some (0, 0, false)) else ((spec_l1Low.f k a0 a1).bind fun bt216 => (some (bt216.1, bt216.2.1, bt216.2.2)))) else (some (0, 0, false)))) else (some (0, 0, false)))
theorem spec_FracOf.mq {p : Prop} (h : p := by
 repeat' first
 | (with_reducible exact spec_l1Low.mono _ _ _)
 | (with_reducible exact LeO.refl _)
 | (with_reducible exact LeO.none _)
 | (with_reducible refine LeO.ite ?_ ?_)
 | (with_reducible refine LeO.bind ?_ (fun _ => ?_))
 | exact spec_l1Low.mono _ _ _
 | exact LeO.none _
 | refine LeO.ite ?_ ?_
 | refine LeO.bind ?_ (fun _ => ?_)) : p := h
theorem spec_FracOf.mono : ∀ a0 a1 k, LeO (spec_FracOf.f k a0 a1) (spec_FracOf.f (k + 1) a0 a1) := by
 intro a0 a1 k
 unfold spec_FracOf.f
 exact spec_FracOf.mq
theorem spec_FracOf.calls_q0 {p : Prop} (h : p := by repeat (first | (with_reducible first | exact HB.out | apply below_alloc | apply pw_below_drewN | apply below_drew1 | refine below_set ?_ GE213.out) | exact HB.out)) : p := h
set_option maxHeartbeats 8000000 in
set_option maxRecDepth 100000 in
theorem spec_FracOf.calls (k : Nat) (a0 : Int) (a1 : Int) (r1 : Int) (r2 : Int) (r3 : Bool) (w : World) (h : spec_FracOf.f k a0 a1 = some (r1, r2, r3)) :
  Calls Try.prog 86 #[.int .i64 a0, .int .i64 a1] w fun e w' => e = .returned (.tuple #[.agg #[.int .i64 r1, .int .i64 r2], .bool r3]) ∧ Below w.heap.size w w' := by
 have hu36 := Try.underlying36
 have HB := Aside0.mk (Below.refl w.heap.size w)
 have H : ((spec_l1In.f a0 (-1000000000) 1000000000).bind fun t214 => (if t214 = true then ((spec_l1In.f a1 (-1000000000) 1000000000).bind fun t215 => (if t215 = true then (if a1 = 0 then (some (0, 0, false)) else ((spec_l1Low.f k a0 a1).bind fun bt216 => (some (bt216.1, bt216.2.1, bt216.2.2)))) else (some (0, 0, false)))) else (some (0, 0, false)))) = some (r1, r2, r3) := h
 clear h
 obtain ⟨t214, A3, H⟩ := bind_ H
 by_cases c4 : t214 = true
 ·subst c4
  replace H := ifp_ H
  obtain ⟨t215, A5, H⟩ := bind_ H
  by_cases c6 : t215 = true
  ·subst c6
   replace H := ifp_ H
   by_cases c7 : a1 = 0
   ·rw [if_pos c7] at H
    have c7b0 : (a1 == 0) = true := beq_iff_eq.mpr c7
    have c7b1 : (a1 != 0) = false := bne_eq_false_iff_eq.mpr c7
    clear c7
    simp only [Option.some.injEq, Prod.mk.injEq] at H
    obtain ⟨rfl, rfl, rfl⟩ := H
    go_enter Try.func86, Try.ntmps86
    go_wp2_with (first | ((with_reducible refine gate_dst (N := 4) rfl ?_); refine bx_ (N := 4) #[.int .i64 0, .int .i64 0] 36 ?_; intro gb213 hg w8 hbox hb; have BK213 := Aside0.mk (hbox); have GW213 := Aside0.mk ((g31_ : w.heap.size ≤ gb213)); have GE213 := Aside0.mk ((g31_ : w.heap.size ≤ gb213)); replace HB := Aside0.mk (below_step (spec_FracOf.calls_q0) hb); clear hb hbox hg) | ((with_reducible refine gate_callee (f := 93) rfl ?_); refine goesL_ (some 7) rfl rfl Try.func93 k_ rfl #[.int .i64 a0, .int .i64 (-1000000000), .int .i64 1000000000] rfl (g2_) ?_; (with_reducible refine (spec_l1In.calls a0 (-1000000000) 1000000000 true _ A3.out).mono ?_); rintro e w' ⟨rfl, ⟨nd, rfl⟩⟩; refine ⟨_, rfl, ?_⟩; (try (rw [drewN_self w8]; generalize hq_ : World.drewN w8 _ = w8; replace BK213 : Aside0 (w8.heap[gb213]? = some (.cells #[.int .i64 0, .int .i64 0] 36 (0, 0))) := ⟨g34_⟩; replace HB : Aside0 (Below w.heap.size w w8) := ⟨g35_⟩; clear hq_))) | (go_at_call 93; (with_reducible refine (spec_l1In.calls a1 (-1000000000) 1000000000 true _ A5.out).mono ?_); rintro e w' ⟨rfl, ⟨nd, rfl⟩⟩; (try (rw [drewN_self w8]; generalize hq_ : World.drewN w8 _ = w8; replace BK213 : Aside0 (w8.heap[gb213]? = some (.cells #[.int .i64 0, .int .i64 0] 36 (0, 0))) := ⟨g34_⟩; replace HB : Aside0 (Below w.heap.size w w8) := ⟨g35_⟩; clear hq_)); obtain ⟨hcz9_0, hcz9_1, hfz9_0, hfz9_1⟩ := blk2_ BK213))
    refine bodyPost_ret (results_ct rfl _ _ gb213 36 #[.int .i64 0, .int .i64 0] (0, 0) _ rfl (g79_) Try.underlying36 rfl (g0_)) rfl ?_
    exact ⟨g4_, spec_FracOf.calls_q0⟩
   ·rw [if_neg c7] at H
    have c7b0 : (a1 == 0) = false := beq_eq_false_iff_ne.mpr c7
    have c7b1 : (a1 != 0) = true := bne_iff_ne.mpr c7
    replace H := Option.bind_eq_some_iff.mp H
    obtain ⟨⟨t216, t217, t218⟩, A100, H⟩ := H
    replace H : (some (t216, t217, t218)) = some (r1, r2, r3) := H
    have A10 := Aside0.mk A100
    clear A100
    simp only [Option.some.injEq, Prod.mk.injEq] at H
    obtain ⟨rfl, rfl, rfl⟩ := H
    go_enter Try.func86, Try.ntmps86
    go_wp2_with (first | ((with_reducible refine gate_dst (N := 4) rfl ?_); refine bx_ (N := 4) #[.int .i64 0, .int .i64 0] 36 ?_; intro gb213 hg w11 hbox hb; have BK213 := Aside0.mk (hbox); have GW213 := Aside0.mk ((g31_ : w.heap.size ≤ gb213)); have GE213 := Aside0.mk ((g31_ : w.heap.size ≤ gb213)); replace HB := Aside0.mk (below_step (spec_FracOf.calls_q0) hb); clear hb hbox hg) | ((with_reducible refine gate_callee (f := 93) rfl ?_); refine goesL_ (some 7) rfl rfl Try.func93 k_ rfl #[.int .i64 a0, .int .i64 (-1000000000), .int .i64 1000000000] rfl (g2_) ?_; (with_reducible refine (spec_l1In.calls a0 (-1000000000) 1000000000 true _ A3.out).mono ?_); rintro e w' ⟨rfl, ⟨nd, rfl⟩⟩; refine ⟨_, rfl, ?_⟩; (try (rw [drewN_self w11]; generalize hq_ : World.drewN w11 _ = w11; replace BK213 : Aside0 (w11.heap[gb213]? = some (.cells #[.int .i64 0, .int .i64 0] 36 (0, 0))) := ⟨g34_⟩; replace HB : Aside0 (Below w.heap.size w w11) := ⟨g35_⟩; clear hq_))) | (go_at_call 93; (with_reducible refine (spec_l1In.calls a1 (-1000000000) 1000000000 true _ A5.out).mono ?_); rintro e w' ⟨rfl, ⟨nd, rfl⟩⟩; (try (rw [drewN_self w11]; generalize hq_ : World.drewN w11 _ = w11; replace BK213 : Aside0 (w11.heap[gb213]? = some (.cells #[.int .i64 0, .int .i64 0] 36 (0, 0))) := ⟨g34_⟩; replace HB : Aside0 (Below w.heap.size w w11) := ⟨g35_⟩; clear hq_))) | ((with_reducible refine gate_callee (f := 89) rfl ?_); refine goesL_ (some 21) rfl rfl Try.func89 k_ rfl #[.int .i64 a0, .int .i64 a1] rfl (g2_) ?_; (with_reducible refine (spec_l1Low.calls k a0 a1 t216 t217 t218 _ A10.out).mono ?_); rintro e w12 ⟨rfl, hb⟩; refine ⟨_, rfl, ?_⟩; replace BK213 := bb_ BK213 hb; replace HB := Aside0.mk (below_step (spec_FracOf.calls_q0) hb); (try clear hb); (try clear hk hi); obtain ⟨hcz13_0, hcz13_1, hfz13_0, hfz13_1⟩ := blk2_ BK213))
    refine bodyPost_ret (results_ct rfl _ _ gb213 36 #[.int .i64 t216, .int .i64 t217] (0, 0) _ rfl (by (with_reducible repeat (first | refine blk_drewN ?_ _ | refine blk_drew ?_ | refine blk_alloc ?_ _)); refine blk_put (cs := #[.int .i64 t216, .int .i64 0]) ?_ 1 _ rfl; (with_reducible repeat (first | refine blk_drewN ?_ _ | refine blk_drew ?_ | refine blk_alloc ?_ _)); refine blk_put (cs := #[.int .i64 0, .int .i64 0]) ?_ 0 _ rfl; (with_reducible repeat (first | refine blk_drewN ?_ _ | refine blk_drew ?_ | refine blk_alloc ?_ _)); exact BK213.out) Try.underlying36 rfl (g0_)) rfl ?_
    exact ⟨g4_, spec_FracOf.calls_q0⟩
  ·replace c6 := Bool.eq_false_iff.mpr c6
   subst c6
   replace H := ifn_ H
   simp only [Option.some.injEq, Prod.mk.injEq] at H
   obtain ⟨rfl, rfl, rfl⟩ := H
   go_enter Try.func86, Try.ntmps86
   go_wp2_with (first | ((with_reducible refine gate_dst (N := 4) rfl ?_); refine bx_ (N := 4) #[.int .i64 0, .int .i64 0] 36 ?_; intro gb213 hg w14 hbox hb; have BK213 := Aside0.mk (hbox); have GW213 := Aside0.mk ((g31_ : w.heap.size ≤ gb213)); have GE213 := Aside0.mk ((g31_ : w.heap.size ≤ gb213)); replace HB := Aside0.mk (below_step (spec_FracOf.calls_q0) hb); clear hb hbox hg) | ((with_reducible refine gate_callee (f := 93) rfl ?_); refine goesL_ (some 7) rfl rfl Try.func93 k_ rfl #[.int .i64 a0, .int .i64 (-1000000000), .int .i64 1000000000] rfl (g2_) ?_; (with_reducible refine (spec_l1In.calls a0 (-1000000000) 1000000000 true _ A3.out).mono ?_); rintro e w' ⟨rfl, ⟨nd, rfl⟩⟩; refine ⟨_, rfl, ?_⟩; (try (rw [drewN_self w14]; generalize hq_ : World.drewN w14 _ = w14; replace BK213 : Aside0 (w14.heap[gb213]? = some (.cells #[.int .i64 0, .int .i64 0] 36 (0, 0))) := ⟨g34_⟩; replace HB : Aside0 (Below w.heap.size w w14) := ⟨g35_⟩; clear hq_))) | (go_at_call 93; (with_reducible refine (spec_l1In.calls a1 (-1000000000) 1000000000 false _ A5.out).mono ?_); rintro e w' ⟨rfl, ⟨nd, rfl⟩⟩; (try (rw [drewN_self w14]; generalize hq_ : World.drewN w14 _ = w14; replace BK213 : Aside0 (w14.heap[gb213]? = some (.cells #[.int .i64 0, .int .i64 0] 36 (0, 0))) := ⟨g34_⟩; replace HB : Aside0 (Below w.heap.size w w14) := ⟨g35_⟩; clear hq_)); obtain ⟨hcz15_0, hcz15_1, hfz15_0, hfz15_1⟩ := blk2_ BK213))
   refine bodyPost_ret (results_ct rfl _ _ gb213 36 #[.int .i64 0, .int .i64 0] (0, 0) _ rfl (g79_) Try.underlying36 rfl (g0_)) rfl ?_
   exact ⟨g4_, spec_FracOf.calls_q0⟩
 ·replace c4 := Bool.eq_false_iff.mpr c4
  subst c4
  replace H := ifn_ H
  simp only [Option.some.injEq, Prod.mk.injEq] at H
  obtain ⟨rfl, rfl, rfl⟩ := H
  go_enter Try.func86, Try.ntmps86
  go_wp2_with (first | ((with_reducible refine gate_dst (N := 4) rfl ?_); refine bx_ (N := 4) #[.int .i64 0, .int .i64 0] 36 ?_; intro gb213 hg w16 hbox hb; have BK213 := Aside0.mk (hbox); have GW213 := Aside0.mk ((g31_ : w.heap.size ≤ gb213)); have GE213 := Aside0.mk ((g31_ : w.heap.size ≤ gb213)); replace HB := Aside0.mk (below_step (spec_FracOf.calls_q0) hb); clear hb hbox hg) | ((with_reducible refine gate_callee (f := 93) rfl ?_); refine goesL_ (some 7) rfl rfl Try.func93 k_ rfl #[.int .i64 a0, .int .i64 (-1000000000), .int .i64 1000000000] rfl (g2_) ?_; (with_reducible refine (spec_l1In.calls a0 (-1000000000) 1000000000 false _ A3.out).mono ?_); rintro e w' ⟨rfl, ⟨nd, rfl⟩⟩; refine ⟨_, rfl, ?_⟩; (try (rw [drewN_self w16]; generalize hq_ : World.drewN w16 _ = w16; replace BK213 : Aside0 (w16.heap[gb213]? = some (.cells #[.int .i64 0, .int .i64 0] 36 (0, 0))) := ⟨g34_⟩; replace HB : Aside0 (Below w.heap.size w w16) := ⟨g35_⟩; clear hq_)); obtain ⟨hcz17_0, hcz17_1, hfz17_0, hfz17_1⟩ := blk2_ BK213))
  refine bodyPost_ret (results_ct rfl _ _ gb213 36 #[.int .i64 0, .int .i64 0] (0, 0) _ rfl (g79_) Try.underlying36 rfl (g0_)) rfl ?_
  exact ⟨g4_, spec_FracOf.calls_q0⟩
def spec_TimesOf.f (k : Nat) (a0_0 : Int) (a0_1 : Int) (a1_0 : Int) (a1_1 : Int) : Option (Int × Int × Bool) := (spec_FracOk.f k a0_0 a0_1).bind fun t222 => (if t222 = true then ((spec_FracOk.f k a1_0 a1_1).bind fun t223 => (if t223 = true then ((spec_l1Low.f k (wrap64 (a0_0 * a1_0)) (wrap64 (a0_1 * a1_1))).bind fun bt224 => (some (bt224.1, bt224.2.1, bt224.2.2))) else (some (0, 0, false)))) else (some (0, 0, false)))
theorem spec_TimesOf.mq {p : Prop} (h : p := by
 repeat' first
 | (with_reducible exact spec_FracOk.mono _ _ _)
 | (with_reducible exact spec_l1Low.mono _ _ _)
 | (with_reducible exact LeO.refl _)
 | (with_reducible exact LeO.none _)
 | (with_reducible refine LeO.ite ?_ ?_)
 | (with_reducible refine LeO.bind ?_ (fun _ => ?_))
 | exact spec_FracOk.mono _ _ _
 | exact spec_l1Low.mono _ _ _
 | exact LeO.none _
 | refine LeO.ite ?_ ?_
 | refine LeO.bind ?_ (fun _ => ?_)) : p := h
theorem spec_TimesOf.mono : ∀ a0 a1 a2 a3 k, LeO (spec_TimesOf.f k a0 a1 a2 a3) (spec_TimesOf.f (k + 1) a0 a1 a2 a3) := by
 intro a0 a1 a2 a3 k
 unfold spec_TimesOf.f
 exact spec_TimesOf.mq
theorem spec_TimesOf.calls_q0 {p : Prop} (h : p := by repeat (first | (with_reducible first | exact HB.out | apply below_alloc | apply pw_below_drewN | apply below_drew1 | refine below_set ?_ GE219.out | refine below_set ?_ GE220.out | refine below_set ?_ GE221.out) | exact HB.out)) : p := h
set_option maxHeartbeats 8000000 in
set_option maxRecDepth 100000 in
theorem spec_TimesOf.calls (k : Nat) (a0_0 : Int) (a0_1 : Int) (a1_0 : Int) (a1_1 : Int) (r1 : Int) (r2 : Int) (r3 : Bool) (w : World) (h : spec_TimesOf.f k a0_0 a0_1 a1_0 a1_1 = some (r1, r2, r3)) :
  Calls Try.prog 87 #[.agg #[.int .i64 a0_0, .int .i64 a0_1], .agg #[.int .i64 a1_0, .int .i64 a1_1]] w fun e w' => e = .returned (.tuple #[.agg #[.int .i64 r1, .int .i64 r2], .bool r3]) ∧ Below w.heap.size w w' := by
 have hu36 := Try.underlying36
 have HB := Aside0.mk (Below.refl w.heap.size w)
 have H : ((spec_FracOk.f k a0_0 a0_1).bind fun t222 => (if t222 = true then ((spec_FracOk.f k a1_0 a1_1).bind fun t223 => (if t223 = true then ((spec_l1Low.f k (wrap64 (a0_0 * a1_0)) (wrap64 (a0_1 * a1_1))).bind fun bt224 => (some (bt224.1, bt224.2.1, bt224.2.2))) else (some (0, 0, false)))) else (some (0, 0, false)))) = some (r1, r2, r3) := h
 clear h
 obtain ⟨t222, A3, H⟩ := bind_ H
 by_cases c4 : t222 = true
 ·subst c4
  replace H := ifp_ H
  obtain ⟨t223, A5, H⟩ := bind_ H
  by_cases c6 : t223 = true
  ·subst c6
   replace H := ifp_ H
   replace H := Option.bind_eq_some_iff.mp H
   obtain ⟨⟨t224, t225, t226⟩, A70, H⟩ := H
   replace H : (some (t224, t225, t226)) = some (r1, r2, r3) := H
   have A7 := Aside0.mk A70
   clear A70
   simp only [Option.some.injEq, Prod.mk.injEq] at H
   obtain ⟨rfl, rfl, rfl⟩ := H
   go_enter Try.func87, Try.ntmps87
   go_wp2_with (first | ((with_reducible refine gate_dst (N := 2) rfl ?_); refine bx_ (N := 2) #[.int .i64 a0_0, .int .i64 a0_1] 36 ?_; intro gb219 hg w8 hbox hb; have BK219 := Aside0.mk (hbox); have GW219 := Aside0.mk ((g14_ : w.heap.size ≤ gb219)); have GE219 := Aside0.mk ((g14_ : w.heap.size ≤ gb219)); replace HB := Aside0.mk (below_step (spec_TimesOf.calls_q0) hb); clear hb hbox hg) | ((with_reducible refine gate_dst (N := 3) rfl ?_); refine bx_ (N := 3) #[.int .i64 a1_0, .int .i64 a1_1] 36 ?_; intro gb220 hg w9 hbox hb; have BK220 := Aside0.mk (hbox); have GW220 := Aside0.mk ((g14_ : w.heap.size ≤ gb220)); have GE220 := Aside0.mk ((g14_ : w.heap.size ≤ gb220)); replace HB := Aside0.mk (below_step (spec_TimesOf.calls_q0) hb); have NB219_220 := Aside0.mk ((g44_ : gb219 ≠ gb220)); have NB220_219 := Aside0.mk ((g45_ : gb220 ≠ gb219)); replace BK219 := bb_ BK219 hb; clear hb hbox hg) | ((with_reducible refine gate_dst (N := 4) rfl ?_); refine bx_ (N := 4) #[.int .i64 0, .int .i64 0] 36 ?_; intro gb221 hg w10 hbox hb; have BK221 := Aside0.mk (hbox); have GW221 := Aside0.mk ((g14_ : w.heap.size ≤ gb221)); have GE221 := Aside0.mk ((g14_ : w.heap.size ≤ gb221)); replace HB := Aside0.mk (below_step (spec_TimesOf.calls_q0) hb); have NB219_221 := Aside0.mk ((g44_ : gb219 ≠ gb221)); have NB221_219 := Aside0.mk ((g45_ : gb221 ≠ gb219)); replace BK219 := bb_ BK219 hb; have NB220_221 := Aside0.mk ((g80_ : gb220 ≠ gb221)); have NB221_220 := Aside0.mk ((g81_ : gb221 ≠ gb220)); replace BK220 := bb_ BK220 hb; clear hb hbox hg; have hnb11 := NB219_220.out; have hnc11 := NB220_219.out; have hnb12 := NB219_221.out; have hnc12 := NB221_219.out; obtain ⟨hcz13_0, hcz13_1, hfz13_0, hfz13_1⟩ := blk2_ BK219) | ((with_reducible refine gate_callee (f := 88) rfl ?_); refine goesL_ (some 7) rfl rfl Try.func88 k_ rfl #[.agg #[.int .i64 a0_0, .int .i64 a0_1]] rfl (g2_) ?_; (with_reducible refine (spec_FracOk.calls k a0_0 a0_1 true _ A3.out).mono ?_); rintro e w14 ⟨rfl, hb⟩; refine ⟨_, rfl, ?_⟩; replace BK219 := bb_ BK219 hb; replace BK220 := bb_ BK220 hb; replace BK221 := bb_ BK221 hb; replace HB := Aside0.mk (below_step (spec_TimesOf.calls_q0) hb); (try clear hb); (try clear hk hi); have hnb15 := NB220_221.out; have hnc15 := NB221_220.out; obtain ⟨hcz16_0, hcz16_1, hfz16_0, hfz16_1⟩ := blk2_ BK220) | (go_at_call 88; (with_reducible refine (spec_FracOk.calls k a1_0 a1_1 true _ A5.out).mono ?_); rintro e w17 ⟨rfl, hb⟩; replace BK219 := bb_ BK219 hb; replace BK220 := bb_ BK220 hb; replace BK221 := bb_ BK221 hb; replace HB := Aside0.mk (below_step (spec_TimesOf.calls_q0) hb); (try clear hb); (try clear hk hi); obtain ⟨hcz18_0, hcz18_1, hfz18_0, hfz18_1⟩ := blk2_ BK219; obtain ⟨hcz19_0, hcz19_1, hfz19_0, hfz19_1⟩ := blk2_ BK220) | ((with_reducible refine gate_callee (f := 89) rfl ?_); refine goesL_ (some 25) rfl rfl Try.func89 k_ rfl #[.int .i64 (wrap64 (a0_0 * a1_0)), .int .i64 (wrap64 (a0_1 * a1_1))] rfl (g2_) ?_; (with_reducible refine (spec_l1Low.calls k (wrap64 (a0_0 * a1_0)) (wrap64 (a0_1 * a1_1)) t224 t225 t226 _ A7.out).mono ?_); rintro e w20 ⟨rfl, hb⟩; refine ⟨_, rfl, ?_⟩; replace BK219 := bb_ BK219 hb; replace BK220 := bb_ BK220 hb; replace BK221 := bb_ BK221 hb; replace HB := Aside0.mk (below_step (spec_TimesOf.calls_q0) hb); (try clear hb); (try clear hk hi); obtain ⟨hcz21_0, hcz21_1, hfz21_0, hfz21_1⟩ := blk2_ BK221))
   refine bodyPost_ret (results_ct rfl _ _ gb221 36 #[.int .i64 t224, .int .i64 t225] (0, 0) _ rfl (by (with_reducible repeat (first | refine blk_drewN ?_ _ | refine blk_drew ?_ | refine blk_alloc ?_ _)); refine blk_put (cs := #[.int .i64 t224, .int .i64 0]) ?_ 1 _ rfl; (with_reducible repeat (first | refine blk_drewN ?_ _ | refine blk_drew ?_ | refine blk_alloc ?_ _)); refine blk_put (cs := #[.int .i64 0, .int .i64 0]) ?_ 0 _ rfl; (with_reducible repeat (first | refine blk_drewN ?_ _ | refine blk_drew ?_ | refine blk_alloc ?_ _)); exact BK221.out) Try.underlying36 rfl (g0_)) rfl ?_
   exact ⟨g4_, spec_TimesOf.calls_q0⟩
  ·replace c6 := Bool.eq_false_iff.mpr c6
   subst c6
   replace H := ifn_ H
   simp only [Option.some.injEq, Prod.mk.injEq] at H
   obtain ⟨rfl, rfl, rfl⟩ := H
   go_enter Try.func87, Try.ntmps87
   go_wp2_with (first | ((with_reducible refine gate_dst (N := 2) rfl ?_); refine bx_ (N := 2) #[.int .i64 a0_0, .int .i64 a0_1] 36 ?_; intro gb219 hg w22 hbox hb; have BK219 := Aside0.mk (hbox); have GW219 := Aside0.mk ((g14_ : w.heap.size ≤ gb219)); have GE219 := Aside0.mk ((g14_ : w.heap.size ≤ gb219)); replace HB := Aside0.mk (below_step (spec_TimesOf.calls_q0) hb); clear hb hbox hg) | ((with_reducible refine gate_dst (N := 3) rfl ?_); refine bx_ (N := 3) #[.int .i64 a1_0, .int .i64 a1_1] 36 ?_; intro gb220 hg w23 hbox hb; have BK220 := Aside0.mk (hbox); have GW220 := Aside0.mk ((g14_ : w.heap.size ≤ gb220)); have GE220 := Aside0.mk ((g14_ : w.heap.size ≤ gb220)); replace HB := Aside0.mk (below_step (spec_TimesOf.calls_q0) hb); have NB219_220 := Aside0.mk ((g44_ : gb219 ≠ gb220)); have NB220_219 := Aside0.mk ((g45_ : gb220 ≠ gb219)); replace BK219 := bb_ BK219 hb; clear hb hbox hg) | ((with_reducible refine gate_dst (N := 4) rfl ?_); refine bx_ (N := 4) #[.int .i64 0, .int .i64 0] 36 ?_; intro gb221 hg w24 hbox hb; have BK221 := Aside0.mk (hbox); have GW221 := Aside0.mk ((g14_ : w.heap.size ≤ gb221)); have GE221 := Aside0.mk ((g14_ : w.heap.size ≤ gb221)); replace HB := Aside0.mk (below_step (spec_TimesOf.calls_q0) hb); have NB219_221 := Aside0.mk ((g44_ : gb219 ≠ gb221)); have NB221_219 := Aside0.mk ((g45_ : gb221 ≠ gb219)); replace BK219 := bb_ BK219 hb; have NB220_221 := Aside0.mk ((g80_ : gb220 ≠ gb221)); have NB221_220 := Aside0.mk ((g81_ : gb221 ≠ gb220)); replace BK220 := bb_ BK220 hb; clear hb hbox hg; have hnb25 := NB219_220.out; have hnc25 := NB220_219.out; have hnb26 := NB219_221.out; have hnc26 := NB221_219.out; obtain ⟨hcz27_0, hcz27_1, hfz27_0, hfz27_1⟩ := blk2_ BK219) | ((with_reducible refine gate_callee (f := 88) rfl ?_); refine goesL_ (some 7) rfl rfl Try.func88 k_ rfl #[.agg #[.int .i64 a0_0, .int .i64 a0_1]] rfl (g2_) ?_; (with_reducible refine (spec_FracOk.calls k a0_0 a0_1 true _ A3.out).mono ?_); rintro e w28 ⟨rfl, hb⟩; refine ⟨_, rfl, ?_⟩; replace BK219 := bb_ BK219 hb; replace BK220 := bb_ BK220 hb; replace BK221 := bb_ BK221 hb; replace HB := Aside0.mk (below_step (spec_TimesOf.calls_q0) hb); (try clear hb); (try clear hk hi); have hnb29 := NB220_221.out; have hnc29 := NB221_220.out; obtain ⟨hcz30_0, hcz30_1, hfz30_0, hfz30_1⟩ := blk2_ BK220) | (go_at_call 88; (with_reducible refine (spec_FracOk.calls k a1_0 a1_1 false _ A5.out).mono ?_); rintro e w31 ⟨rfl, hb⟩; replace BK219 := bb_ BK219 hb; replace BK220 := bb_ BK220 hb; replace BK221 := bb_ BK221 hb; replace HB := Aside0.mk (below_step (spec_TimesOf.calls_q0) hb); (try clear hb); (try clear hk hi); obtain ⟨hcz32_0, hcz32_1, hfz32_0, hfz32_1⟩ := blk2_ BK221))
   refine bodyPost_ret (results_ct rfl _ _ gb221 36 #[.int .i64 0, .int .i64 0] (0, 0) _ rfl (by (with_reducible repeat (first | refine blk_drewN ?_ _ | refine blk_drew ?_ | refine blk_alloc ?_ _)); refine blk_put (cs := #[.int .i64 0, .int .i64 0]) ?_ 1 _ rfl; (with_reducible repeat (first | refine blk_drewN ?_ _ | refine blk_drew ?_ | refine blk_alloc ?_ _)); refine blk_put (cs := #[.int .i64 0, .int .i64 0]) ?_ 0 _ rfl; (with_reducible repeat (first | refine blk_drewN ?_ _ | refine blk_drew ?_ | refine blk_alloc ?_ _)); exact BK221.out) Try.underlying36 rfl (g0_)) rfl ?_
   exact ⟨g4_, spec_TimesOf.calls_q0⟩
 ·replace c4 := Bool.eq_false_iff.mpr c4
  subst c4
  replace H := ifn_ H
  simp only [Option.some.injEq, Prod.mk.injEq] at H
  obtain ⟨rfl, rfl, rfl⟩ := H
  go_enter Try.func87, Try.ntmps87
  go_wp2_with (first | ((with_reducible refine gate_dst (N := 2) rfl ?_); refine bx_ (N := 2) #[.int .i64 a0_0, .int .i64 a0_1] 36 ?_; intro gb219 hg w33 hbox hb; have BK219 := Aside0.mk (hbox); have GW219 := Aside0.mk ((g14_ : w.heap.size ≤ gb219)); have GE219 := Aside0.mk ((g14_ : w.heap.size ≤ gb219)); replace HB := Aside0.mk (below_step (spec_TimesOf.calls_q0) hb); clear hb hbox hg) | ((with_reducible refine gate_dst (N := 3) rfl ?_); refine bx_ (N := 3) #[.int .i64 a1_0, .int .i64 a1_1] 36 ?_; intro gb220 hg w34 hbox hb; have BK220 := Aside0.mk (hbox); have GW220 := Aside0.mk ((g14_ : w.heap.size ≤ gb220)); have GE220 := Aside0.mk ((g14_ : w.heap.size ≤ gb220)); replace HB := Aside0.mk (below_step (spec_TimesOf.calls_q0) hb); have NB219_220 := Aside0.mk ((g44_ : gb219 ≠ gb220)); have NB220_219 := Aside0.mk ((g45_ : gb220 ≠ gb219)); replace BK219 := bb_ BK219 hb; clear hb hbox hg) | ((with_reducible refine gate_dst (N := 4) rfl ?_); refine bx_ (N := 4) #[.int .i64 0, .int .i64 0] 36 ?_; intro gb221 hg w35 hbox hb; have BK221 := Aside0.mk (hbox); have GW221 := Aside0.mk ((g14_ : w.heap.size ≤ gb221)); have GE221 := Aside0.mk ((g14_ : w.heap.size ≤ gb221)); replace HB := Aside0.mk (below_step (spec_TimesOf.calls_q0) hb); have NB219_221 := Aside0.mk ((g44_ : gb219 ≠ gb221)); have NB221_219 := Aside0.mk ((g45_ : gb221 ≠ gb219)); replace BK219 := bb_ BK219 hb; have NB220_221 := Aside0.mk ((g80_ : gb220 ≠ gb221)); have NB221_220 := Aside0.mk ((g81_ : gb221 ≠ gb220)); replace BK220 := bb_ BK220 hb; clear hb hbox hg; have hnb36 := NB219_220.out; have hnc36 := NB220_219.out; have hnb37 := NB219_221.out; have hnc37 := NB221_219.out; obtain ⟨hcz38_0, hcz38_1, hfz38_0, hfz38_1⟩ := blk2_ BK219) | ((with_reducible refine gate_callee (f := 88) rfl ?_); refine goesL_ (some 7) rfl rfl Try.func88 k_ rfl #[.agg #[.int .i64 a0_0, .int .i64 a0_1]] rfl (g2_) ?_; (with_reducible refine (spec_FracOk.calls k a0_0 a0_1 false _ A3.out).mono ?_); rintro e w39 ⟨rfl, hb⟩; refine ⟨_, rfl, ?_⟩; replace BK219 := bb_ BK219 hb; replace BK220 := bb_ BK220 hb; replace BK221 := bb_ BK221 hb; replace HB := Aside0.mk (below_step (spec_TimesOf.calls_q0) hb); (try clear hb); (try clear hk hi); have hnb40 := NB221_220.out; have hnc40 := NB220_221.out; obtain ⟨hcz41_0, hcz41_1, hfz41_0, hfz41_1⟩ := blk2_ BK221))
  refine bodyPost_ret (results_ct rfl _ _ gb221 36 #[.int .i64 0, .int .i64 0] (0, 0) _ rfl (by (with_reducible repeat (first | refine blk_drewN ?_ _ | refine blk_drew ?_ | refine blk_alloc ?_ _)); refine blk_put (cs := #[.int .i64 0, .int .i64 0]) ?_ 1 _ rfl; (with_reducible repeat (first | refine blk_drewN ?_ _ | refine blk_drew ?_ | refine blk_alloc ?_ _)); refine blk_put (cs := #[.int .i64 0, .int .i64 0]) ?_ 0 _ rfl; (with_reducible repeat (first | refine blk_drewN ?_ _ | refine blk_drew ?_ | refine blk_alloc ?_ _)); exact BK221.out) Try.underlying36 rfl (g0_)) rfl ?_
  exact ⟨g4_, spec_TimesOf.calls_q0⟩
end Go.Proofs.Ytcjmpjiclnfjmaa.PU
