/- FnFallsWith: for every input the law holds. No condition. -/
import Derived.Test.YtigpmfoagkhaeaaZFnFallsWith1
import Derived.Test.YtigpmfoagkhaeaaZFnFallsWith2
import Derived.Test.YtigpmfoagkhaeaaZFnFallsWith3
import Derived.Test.YtigpmfoagkhaeaaZFnFallsWith4
import Derived.Test.YtigpmfoagkhaeaaZFnFallsWith5
import Derived.Below
import Derived.Deep.Draws
import Derived.Deep.AppendLies
import Derived.Maps.AppendAt
import Derived.OwnWalk
import Derived.Laws.BytesArg
import Derived.Laws.MakeOwn
import Derived.Laws.OwnMore
import Derived.Deep.OwnRows
import Derived.Tactics
import Derived.Lib.ConvBytes
import Derived.Laws.Slices
import Derived.WalkKit
import Derived.KernelRfl
import Derived.RowKit3
import Derived.Deep.LoopGhost
import Derived.Deep.QuietTactic
import Derived.BigQuiet
import Derived.WideLaws
import Derived.Deep.DeepCutAuto
import Derived.Deep.CutBlock
import Derived.Deep.RegionHeld3
import Derived.Laws.Rows
import Derived.Lib.AppendStr
import Derived.ArgAppend
import Derived.Laws.IdiomCopy
import Derived.RowKit
import Derived.OrdersHeld
import Derived.Laws.BitsLemmas
import Derived.Laws.StructEq
import Derived.Test.YtigpmfoagkhaeaaProg
import Derived.SizedLaws
import Derived.ChangeSlices
import Derived.Test.YtigpmfoagkhaeaaRows
import Derived.ProofKit
import Derived.OpenShut
import Derived.ShutString
import Derived.ChangeOld
namespace Go.Proofs.Ytigpmfoagkhaeaa.PU
open Go.RowKit Go.Proofs.YtigpmfoagkhaeaaW.PrintWords Go.Proofs.YtigpmfoagkhaeaaW.PrintLast Go.Proofs.YtigpmfoagkhaeaaW.PrintMore Go.Proofs.Ytigpmfoagkhaeaa.Qd
attribute [local go_sem] max2_int min2_int max_two min_two max_three min_three max_four min_four   -- for this text's walks alone
set_option linter.unusedVariables false
set_option linter.unusedSimpArgs false
def laws_FnFallsWith.l0 : Nat → List Int → List Int → Int → List Int → List (List Int) → Option (Bool)
 | 0, _, _, _, _, _ => none
 | k + 1, x5, x6, x7, x866000, x866001 => if x7 < (x5.length : Int) then (if x7 ≥ (x6.length : Int) then (some false) else (if 0 ≤ x7 then (if x7 < (x6.length : Int) then (if (rd x6 x7) > (rd x5 x7) then (some false) else (laws_FnFallsWith.l0 k x5 x6 (wrap64 (x7 + 1)) x866000 x866001)) else (none)) else (none))) else (some ((x5.length : Int) == (x866000.length : Int)))
def laws_FnFallsWith.f (k : Nat) (l0 : List Int) : Option (Bool) := if (l0.length : Int) > 1048576 then (some true) else ((spec_DrawFallsWith.f k l0).bind fun bt856 => ((impl_FallsWith.f k bt856.1 bt856.2.1 bt856.2.2).bind fun t866 => ((spec_FallsWith.f k bt856.1 bt856.2.1 bt856.2.2).bind fun t869 => ((laws_sameInts.f k t866 t869).bind fun t872 => (if t872 = true then (if (t866.length : Int) = 0 then ((laws_alive.f k).bind fun t873 => (some t873)) else ((impl_AllPaid.f k bt856.1 bt856.2.1).bind fun t874 => ((impl_FallsWith.f k bt856.1 bt856.2.1 t874).bind fun t877 => (laws_FnFallsWith.l0 k t866 t877 0 bt856.1 bt856.2.1)))) else (some false))))))
theorem laws_FnFallsWith.mono_l : ∀ k, (∀ y0 y1 y2 y3 y4, LeO (laws_FnFallsWith.l0 k y0 y1 y2 y3 y4) (laws_FnFallsWith.l0 (k + 1) y0 y1 y2 y3 y4))
 | 0 => fun _ _ _ _ _ r h => by simp [laws_FnFallsWith.l0] at h
 | k + 1 => by
  have ih0 := laws_FnFallsWith.mono_l k
  ·intro y0 y1 y2 y3 y4
   unfold laws_FnFallsWith.l0
   repeat' first
   | (with_reducible exact ih0 _ _ _ _ _)
   | (with_reducible exact impl_AllPaid.mono _ _ _)
   | (with_reducible exact impl_FallsWith.mono _ _ _ _)
   | (with_reducible exact laws_alive.mono _)
   | (with_reducible exact laws_sameInts.mono _ _ _)
   | (with_reducible exact spec_DrawFallsWith.mono _ _)
   | (with_reducible exact spec_FallsWith.mono _ _ _ _)
   | (with_reducible exact LeO.refl _)
   | (with_reducible exact LeO.none _)
   | (with_reducible refine LeO.ite ?_ ?_)
   | (with_reducible refine LeO.bind ?_ (fun _ => ?_))
   | exact ih0 _ _ _ _ _
   | exact impl_AllPaid.mono _ _ _
   | exact impl_FallsWith.mono _ _ _ _
   | exact laws_alive.mono _
   | exact laws_sameInts.mono _ _ _
   | exact spec_DrawFallsWith.mono _ _
   | exact spec_FallsWith.mono _ _ _ _
   | exact LeO.none _
   | refine LeO.ite ?_ ?_
   | refine LeO.bind ?_ (fun _ => ?_)
theorem laws_FnFallsWith.mono : ∀ a0 k, LeO (laws_FnFallsWith.f k a0) (laws_FnFallsWith.f (k + 1) a0) := by
 intro a0 k
 have ih0 := laws_FnFallsWith.mono_l k
 unfold laws_FnFallsWith.f
 repeat' first
   | (with_reducible exact ih0 _ _ _ _ _)
   | (with_reducible exact impl_AllPaid.mono _ _ _)
   | (with_reducible exact impl_FallsWith.mono _ _ _ _)
   | (with_reducible exact laws_alive.mono _)
   | (with_reducible exact laws_sameInts.mono _ _ _)
   | (with_reducible exact spec_DrawFallsWith.mono _ _)
   | (with_reducible exact spec_FallsWith.mono _ _ _ _)
   | (with_reducible exact LeO.refl _)
   | (with_reducible exact LeO.none _)
   | (with_reducible refine LeO.ite ?_ ?_)
   | (with_reducible refine LeO.bind ?_ (fun _ => ?_))
   | exact ih0 _ _ _ _ _
   | exact impl_AllPaid.mono _ _ _
   | exact impl_FallsWith.mono _ _ _ _
   | exact laws_alive.mono _
   | exact laws_sameInts.mono _ _ _
   | exact spec_DrawFallsWith.mono _ _
   | exact spec_FallsWith.mono _ _ _ _
   | exact LeO.none _
   | refine LeO.ite ?_ ?_
   | refine LeO.bind ?_ (fun _ => ?_)
def laws_FnFallsWith.T13 : Bool × List (List Nat × List Nat) := (true, [([], []), ([], []), ([1], [1]), ([0, 2], [0, 2]), ([3], [3]), ([4], [4]), ([4], [4]), ([5, 6, 4], [4, 5, 6]), ([7, 4], [4, 7]), ([4], [4]), ([4], [4]), ([9, 10, 4], [4, 9, 10]), ([11, 4], [4, 11]), ([8, 12, 4], [4, 8, 12]), ([4, 13], [4, 13])])
def laws_FnFallsWith.B13 : List Nat := [0, 0, 2, 7, 15, 31, 31, 127, 255, 31, 31, 1567, 3615, 8191, 16383]
theorem laws_FnFallsWith.tab13 : rtab .any (opsOf Try.f8 13) = laws_FnFallsWith.T13 := by kernel_rfl
theorem laws_FnFallsWith.bits13 : waitsOk laws_FnFallsWith.T13.2 laws_FnFallsWith.B13 = true := by kernel_rfl
theorem laws_FnFallsWith.calls_q0 {p : Prop} (h : p := by repeat (first | (with_reducible first | exact HB.out | apply below_alloc | apply pw_below_drewN | apply below_drew1 | refine below_set ?_ GE865.out) | exact HB.out)) : p := h
set_option maxHeartbeats 8000000 in
set_option maxRecDepth 100000 in
theorem laws_FnFallsWith.calls (k : Nat) (A0 : Option Addr) (c0 : Nat) (l0 : List Int) (r : Bool) (w : World) (hr0 : Kd.C (Kd.int .u8) w A0 l0.length l0) (hc0 : l0.length ≤ c0) (h : laws_FnFallsWith.f k l0 = some r) :
  Calls Try.prog 8 #[.slice A0 l0.length c0] w fun e w' => e = .returned (.bool r) ∧ Below w.heap.size w w' := by
 have hu26 := Try.underlying26
 have HR0 := Aside0.mk hr0
 have HC0 := Aside0.mk hc0
 clear hr0 hc0
 have HB := Aside0.mk (Below.refl w.heap.size w)
 have H : (if (l0.length : Int) > 1048576 then (some true) else ((spec_DrawFallsWith.f k l0).bind fun bt856 => ((impl_FallsWith.f k bt856.1 bt856.2.1 bt856.2.2).bind fun t866 => ((spec_FallsWith.f k bt856.1 bt856.2.1 bt856.2.2).bind fun t869 => ((laws_sameInts.f k t866 t869).bind fun t872 => (if t872 = true then (if (t866.length : Int) = 0 then ((laws_alive.f k).bind fun t873 => (some t873)) else ((impl_AllPaid.f k bt856.1 bt856.2.1).bind fun t874 => ((impl_FallsWith.f k bt856.1 bt856.2.1 t874).bind fun t877 => (laws_FnFallsWith.l0 k t866 t877 0 bt856.1 bt856.2.1)))) else (some false))))))) = some r := h
 clear h
 by_cases c2 : (l0.length : Int) > 1048576
 ·rw [if_pos c2] at H
  have c2b0 := decide_eq_true c2
  have c2b1 : decide (1048576 < l0.length) = true := decide_eq_true (by omega)
  clear c2
  obtain rfl := Option.some.inj H
  go_enter Try.func8, Try.ntmps8
  go_wp2
  go_ret
  exact ⟨g4_, laws_FnFallsWith.calls_q0⟩
 ·rw [if_neg c2] at H
  have c2b0 := decide_eq_false c2
  have c2b1 : decide (1048576 < l0.length) = false := decide_eq_false (by omega)
  clear c2
  replace H := Option.bind_eq_some_iff.mp H
  obtain ⟨⟨t856, t859, t862⟩, A30, H⟩ := H
  replace H : ((impl_FallsWith.f k t856 t859 t862).bind fun t866 => ((spec_FallsWith.f k t856 t859 t862).bind fun t869 => ((laws_sameInts.f k t866 t869).bind fun t872 => (if t872 = true then (if (t866.length : Int) = 0 then ((laws_alive.f k).bind fun t873 => (some t873)) else ((impl_AllPaid.f k t856 t859).bind fun t874 => ((impl_FallsWith.f k t856 t859 t874).bind fun t877 => (laws_FnFallsWith.l0 k t866 t877 0 t856 t859)))) else (some false))))) = some r := H
  have A3 := Aside0.mk A30
  clear A30
  obtain ⟨t866, A4, H⟩ := bind_ H
  obtain ⟨t869, A5, H⟩ := bind_ H
  obtain ⟨t872, A6, H⟩ := bind_ H
  by_cases c7 : t872 = true
  ·subst c7
   replace H := ifp_ H
   by_cases c8 : (t866.length : Int) = 0
   ·rw [if_pos c8] at H
    have c8b0 : ((t866.length : Int) == 0) = true := beq_iff_eq.mpr c8
    have c8b1 : ((t866.length : Int) != 0) = false := bne_eq_false_iff_eq.mpr c8
    clear c8
    obtain ⟨t873, A9, H⟩ := bind_ H
    obtain rfl := Option.some.inj H
    go_enter Try.func8, Try.ntmps8
    go_wp2_with (first | ((with_reducible refine gate_callee (f := 38) rfl ?_); refine goesL_ (some 13) rfl rfl Try.func38 k_ rfl #[.slice A0 l0.length c0] rfl (g2_) ?_; (with_reducible refine (spec_DrawFallsWith.calls k _ _ l0 t856 t859 t862 _ ?side1 ?side2 A3.out).mono ?_); (case side1 => repeat (first | exact HR0.out | (with_reducible refine Kd.C_alloc ?_ _) | (with_reducible refine Kd.C_drewN ?_ _) | (with_reducible refine Kd.C_drew ?_))); (case side2 => exact HC0.out); rintro e w10 ⟨v857, v860, v863, rfl, ho0, ho1, ho2, hb⟩; refine ⟨_, rfl, ?_⟩; have HO858 := Aside0.mk (Kd.R_lower (Kd.R_mono (ok' := fun k_ => True) ho0 (fun _ hk_ => trivial)) (below_size (laws_FnFallsWith.calls_q0))); have HO861 := Aside0.mk (Kd.V_lower (Kd.V_mono (ok' := fun k_ => some k_ ≠ (v857 : Value).ownBlock ∧ some k_ ≠ (v863 : Value).ownBlock) ho1 (fun k_ hk_ => ⟨hk_.2.1, hk_.2.2⟩)) (below_size (laws_FnFallsWith.calls_q0))); have HO864 := Aside0.mk (Kd.R_lower (Kd.R_mono (ok' := fun k_ => True) ho2 (fun _ hk_ => trivial)) (below_size (laws_FnFallsWith.calls_q0))); replace HB := Aside0.mk (below_step (laws_FnFallsWith.calls_q0) hb); (try clear hb); (try clear hk hi); (try clear ho0); (try clear ho1); (try clear ho2)) | ((with_reducible refine gate_dst (N := 3) rfl ?_); refine bx_ (N := 3) #[.slice none 0 0, .slice none 0 0] 26 ?_; intro gb865 hg w11 hbox hb; replace HO858 := Aside0.mk (Kd.R_below (uf1_ HO858) hb); replace HO861 := Aside0.mk (Kd.V_below (Kd.V_elderB (uf5_ HO861) gb865 (Nat.le_of_eq hg.symm)) hb); replace HO864 := Aside0.mk (Kd.R_below (uf1_ HO864) hb); have BK865 := Aside0.mk (hbox); have GW865 := Aside0.mk ((g80_ : w.heap.size ≤ gb865)); have GE865 := Aside0.mk ((g80_ : w.heap.size ≤ gb865)); replace HB := Aside0.mk (below_step (laws_FnFallsWith.calls_q0) hb); clear hb hbox hg; obtain ⟨Ao12, co12, eo12⟩ := Kd.R_slice HO858.out; subst eo12; obtain ⟨hcz13_0, hcz13_1, hfz13_0, hfz13_1⟩ := blk2_ BK865; obtain ⟨Ao14, co14, eo14⟩ := Kd.V_slice HO861.out; subst eo14; obtain ⟨Ao15, co15, eo15⟩ := Kd.R_slice HO864.out; subst eo15) | ((with_reducible refine gate_callee (f := 39) rfl ?_); refine goesL_ (some 18) rfl rfl Try.func39 k_ rfl #[.agg #[.slice Ao12 t856.length co12, .slice Ao14 t859.length co14], .slice Ao15 t862.length co15] rfl (g2_) ?_; (with_reducible refine (impl_FallsWith.calls k _ _ t856 _ _ t859 _ _ t862 t866 _ ?side1 ?side2 ?side3 ?side4 ?side5 ?side6 A4.out).mono ?_); (case side1 => refine (Kd.R_reads' (e := 3) (base := w.heap.size) (ok := fun k_ => True) (n := t856.length) (c := co12) ?_).2.2; exact (g177_)); (case side2 => exact (Kd.R_reads' HO858.out).2.1); (case side3 => refine (Kd.V_reads' (e := 23) (base := w.heap.size) (ok := fun k_ => ((some k_ ≠ (.slice Ao12 t856.length co12 : Value).ownBlock ∧ some k_ ≠ (.slice Ao15 t862.length co15 : Value).ownBlock) ∧ k_ ≠ gb865)) (n := t859.length) (c := co14) ?_).2.2; exact (by (with_reducible repeat (first | apply Kd.V_alloc | apply Kd.V_drewN | apply Kd.V_drew)); exact (Kd.V_mono (Kd.V_far (p := ⟨gb865, 1, none⟩) (Kd.V_far (p := ⟨gb865, 0, none⟩) (Kd.V_mono HO861.out (fun k_ hk => (⟨hk, hk.2⟩ : _ ∧ k_ ≠ gb865))) (fun _ hk => hk.2) (.slice Ao12 t856.length co12)) (fun _ hk => hk.2) (.slice Ao14 t859.length co14)) (fun _ h_ => h_.1)))); (case side4 => exact (Kd.V_reads' HO861.out).2.1); (case side5 => refine (Kd.R_reads' (e := 36) (base := w.heap.size) (ok := fun k_ => True) (n := t862.length) (c := co15) ?_).2.2; exact (by (with_reducible repeat (first | apply Kd.R_alloc | apply Kd.R_drewN | apply Kd.R_drew)); exact (Kd.R_mono (Kd.R_far (p := ⟨gb865, 1, none⟩) (Kd.R_far (p := ⟨gb865, 0, none⟩) (Kd.R_types HO864.out BK865.out (by decide)) (fun _ hk => hk.2) (.slice Ao12 t856.length co12)) (fun _ hk => hk.2) (.slice Ao14 t859.length co14)) (fun _ h_ => h_.1)))); (case side6 => exact (Kd.R_reads' HO864.out).2.1); rintro e w16 ⟨v867, rfl, ho0, hb⟩; refine ⟨_, rfl, ?_⟩; replace HO861 := Aside0.mk (Kd.V_elder' (by (with_reducible repeat (first | apply Kd.V_alloc | apply Kd.V_drewN | apply Kd.V_drew)); exact (Kd.V_mono (Kd.V_far (p := ⟨gb865, 1, none⟩) (Kd.V_far (p := ⟨gb865, 0, none⟩) (Kd.V_mono HO861.out (fun k_ hk => (⟨hk, hk.2⟩ : _ ∧ k_ ≠ gb865))) (fun _ hk => hk.2) (.slice Ao12 t856.length co12)) (fun _ hk => hk.2) (.slice Ao14 t859.length co14)) (fun _ h_ => h_.1))) (Kd.R_base ho0) hb); replace HO864 := Aside0.mk (Kd.R_below (by (with_reducible repeat (first | apply Kd.R_alloc | apply Kd.R_drewN | apply Kd.R_drew)); exact (Kd.R_mono (Kd.R_far (p := ⟨gb865, 1, none⟩) (Kd.R_far (p := ⟨gb865, 0, none⟩) (Kd.R_types HO864.out BK865.out (by decide)) (fun _ hk => hk.2) (.slice Ao12 t856.length co12)) (fun _ hk => hk.2) (.slice Ao14 t859.length co14)) (fun _ h_ => h_.1))) hb); have HO868 := Aside0.mk (Kd.R_lower (Kd.R_new' ho0 (Kd.R_lt (g177_))) (below_size (laws_FnFallsWith.calls_q0))); replace HO858 := Aside0.mk (Kd.R_elder' (g177_) (Kd.R_base ho0) hb); replace BK865 := Aside0.mk (blk_below (g := gb865) (o := .cells #[.slice Ao12 t856.length co12, .slice Ao14 t859.length co14] 26 (0, 0)) (by (with_reducible repeat (first | refine blk_drewN ?_ _ | refine blk_drew ?_ | refine blk_alloc ?_ _)); refine blk_put (cs := #[.slice Ao12 t856.length co12, .slice none 0 0]) ?_ 1 _ rfl; (with_reducible repeat (first | refine blk_drewN ?_ _ | refine blk_drew ?_ | refine blk_alloc ?_ _)); refine blk_put (cs := #[.slice none 0 0, .slice none 0 0]) ?_ 0 _ rfl; (with_reducible repeat (first | refine blk_drewN ?_ _ | refine blk_drew ?_ | refine blk_alloc ?_ _)); exact BK865.out) hb); replace HB := Aside0.mk (below_step (laws_FnFallsWith.calls_q0) hb); (try clear hb); (try clear hk hi); (try clear ho0); obtain ⟨hcz17_0, hcz17_1, hfz17_0, hfz17_1⟩ := blk2_ BK865) | ((with_reducible refine gate_callee (f := 41) rfl ?_); refine goesL_ (some 22) rfl rfl Try.func41 k_ rfl #[.agg #[.slice Ao12 t856.length co12, .slice Ao14 t859.length co14], .slice Ao15 t862.length co15] rfl (g2_) ?_; (with_reducible refine (spec_FallsWith.calls k _ _ t856 _ _ t859 _ _ t862 t869 _ ?side1 ?side2 ?side3 ?side4 ?side5 ?side6 A5.out).mono ?_); (case side1 => repeat (first | exact (Kd.R_reads' HO858.out).2.2 | (with_reducible refine Kd.C_alloc ?_ _) | (with_reducible refine Kd.C_drewN ?_ _) | (with_reducible refine Kd.C_drew ?_))); (case side2 => exact (Kd.R_reads' HO858.out).2.1); (case side3 => repeat (first | exact (Kd.V_reads' HO861.out).2.2 | (with_reducible refine Kd.C_alloc ?_ _) | (with_reducible refine Kd.C_drewN ?_ _) | (with_reducible refine Kd.C_drew ?_))); (case side4 => exact (Kd.V_reads' HO861.out).2.1); (case side5 => repeat (first | exact (Kd.R_reads' HO864.out).2.2 | (with_reducible refine Kd.C_alloc ?_ _) | (with_reducible refine Kd.C_drewN ?_ _) | (with_reducible refine Kd.C_drew ?_))); (case side6 => exact (Kd.R_reads' HO864.out).2.1); rintro e w18 ⟨v870, rfl, ho0, hb⟩; refine ⟨_, rfl, ?_⟩; replace HO861 := Aside0.mk (Kd.V_elder' (uf5_ HO861) (Kd.R_base ho0) hb); replace HO864 := Aside0.mk (Kd.R_below (uf1_ HO864) hb); have HO871 := Aside0.mk (Kd.R_lower (Kd.R_new' (Kd.R_new' ho0 (Kd.R_lt (uf1_ HO858))) (Kd.R_lt (uf1_ HO868))) (below_size (laws_FnFallsWith.calls_q0))); replace HO858 := Aside0.mk (Kd.R_elder' (uf1_ HO858) (Kd.R_base ho0) hb); replace HO868 := Aside0.mk (Kd.R_elder' (uf1_ HO868) (Kd.R_base ho0) hb); replace BK865 := Aside0.mk (blk_below (g := gb865) (o := .cells #[.slice Ao12 t856.length co12, .slice Ao14 t859.length co14] 26 (0, 0)) (uf0_ BK865) hb); replace HB := Aside0.mk (below_step (laws_FnFallsWith.calls_q0) hb); (try clear hb); (try clear hk hi); (try clear ho0); obtain ⟨Ao19, co19, eo19⟩ := Kd.R_slice HO868.out; subst eo19; obtain ⟨Ao20, co20, eo20⟩ := Kd.R_slice HO871.out; subst eo20) | ((with_reducible refine gate_callee (f := 40) rfl ?_); refine goesL_ (some 23) rfl rfl Try.func40 k_ rfl #[.slice Ao19 t866.length co19, .slice Ao20 t869.length co20] rfl (g2_) ?_; (with_reducible refine (laws_sameInts.calls k _ _ t866 _ _ t869 true _ ?side1 ?side2 ?side3 ?side4 A6.out).mono ?_); (case side1 => repeat (first | exact (Kd.R_reads' HO868.out).2.2 | (with_reducible refine Kd.C_alloc ?_ _) | (with_reducible refine Kd.C_drewN ?_ _) | (with_reducible refine Kd.C_drew ?_))); (case side2 => exact (Kd.R_reads' HO868.out).2.1); (case side3 => repeat (first | exact (Kd.R_reads' HO871.out).2.2 | (with_reducible refine Kd.C_alloc ?_ _) | (with_reducible refine Kd.C_drewN ?_ _) | (with_reducible refine Kd.C_drew ?_))); (case side4 => exact (Kd.R_reads' HO871.out).2.1); rintro e w' ⟨rfl, ⟨nd, rfl⟩⟩; refine ⟨_, rfl, ?_⟩) | ((with_reducible refine gate_callee (f := 17) rfl ?_); refine goesL_ (some 28) rfl rfl Try.func17 k_ rfl #[] rfl (g2_) ?_; (with_reducible refine (laws_alive.calls k  t873 _ A9.out).mono ?_); rintro e w21 ⟨rfl, hb⟩; refine ⟨_, rfl, ?_⟩; replace HO858 := Aside0.mk (Kd.R_below (uf1_ HO858) hb); replace HO861 := Aside0.mk (Kd.V_below (uf5_ HO861) hb); replace HO864 := Aside0.mk (Kd.R_below (uf1_ HO864) hb); replace HO868 := Aside0.mk (Kd.R_below (uf1_ HO868) hb); replace HO871 := Aside0.mk (Kd.R_below (uf1_ HO871) hb); replace BK865 := Aside0.mk (blk_below (g := gb865) (o := .cells #[.slice Ao12 t856.length co12, .slice Ao14 t859.length co14] 26 (0, 0)) (uf0_ BK865) hb); replace HB := Aside0.mk (below_step (laws_FnFallsWith.calls_q0) hb); (try clear hb); (try clear hk hi)))
    go_ret
    exact ⟨g4_, laws_FnFallsWith.calls_q0⟩
   ·rw [if_neg c8] at H
    have c8b0 : ((t866.length : Int) == 0) = false := beq_eq_false_iff_ne.mpr c8
    have c8b1 : ((t866.length : Int) != 0) = true := bne_iff_ne.mpr c8
    have c8b2 : ¬ (t866 = []) := fun h_ => c8 (g46_)
    obtain ⟨t874, A22, H⟩ := bind_ H
    obtain ⟨t877, A23, H⟩ := bind_ H
    have H' := Aside0.mk H
    clear H
    go_enter Try.func8, Try.ntmps8
    try go_wp2_with (first | ((with_reducible refine gate_callee (f := 38) rfl ?_); refine goesL_ (some 13) rfl rfl Try.func38 k_ rfl #[.slice A0 l0.length c0] rfl (g2_) ?_; (with_reducible refine (spec_DrawFallsWith.calls k _ _ l0 t856 t859 t862 _ ?side1 ?side2 A3.out).mono ?_); (case side1 => repeat (first | exact HR0.out | (with_reducible refine Kd.C_alloc ?_ _) | (with_reducible refine Kd.C_drewN ?_ _) | (with_reducible refine Kd.C_drew ?_))); (case side2 => exact HC0.out); rintro e w24 ⟨v857, v860, v863, rfl, ho0, ho1, ho2, hb⟩; refine ⟨_, rfl, ?_⟩; have HO858 := Aside0.mk (Kd.R_lower (Kd.R_mono (ok' := fun k_ => True) ho0 (fun _ hk_ => trivial)) (below_size (laws_FnFallsWith.calls_q0))); have HO861 := Aside0.mk (Kd.V_lower (Kd.V_mono (ok' := fun k_ => some k_ ≠ (v857 : Value).ownBlock ∧ some k_ ≠ (v863 : Value).ownBlock) ho1 (fun k_ hk_ => ⟨hk_.2.1, hk_.2.2⟩)) (below_size (laws_FnFallsWith.calls_q0))); have HO864 := Aside0.mk (Kd.R_lower (Kd.R_mono (ok' := fun k_ => True) ho2 (fun _ hk_ => trivial)) (below_size (laws_FnFallsWith.calls_q0))); replace HB := Aside0.mk (below_step (laws_FnFallsWith.calls_q0) hb); (try clear hb); (try clear hk hi); (try clear ho0); (try clear ho1); (try clear ho2)) | ((with_reducible refine gate_dst (N := 3) rfl ?_); refine bx_ (N := 3) #[.slice none 0 0, .slice none 0 0] 26 ?_; intro gb865 hg w25 hbox hb; replace HO858 := Aside0.mk (Kd.R_below (uf1_ HO858) hb); replace HO861 := Aside0.mk (Kd.V_below (Kd.V_elderB (uf5_ HO861) gb865 (Nat.le_of_eq hg.symm)) hb); replace HO864 := Aside0.mk (Kd.R_below (uf1_ HO864) hb); have BK865 := Aside0.mk (hbox); have GW865 := Aside0.mk ((g80_ : w.heap.size ≤ gb865)); have GE865 := Aside0.mk ((g80_ : w.heap.size ≤ gb865)); replace HB := Aside0.mk (below_step (laws_FnFallsWith.calls_q0) hb); clear hb hbox hg; obtain ⟨Ao26, co26, eo26⟩ := Kd.R_slice HO858.out; subst eo26; obtain ⟨hcz27_0, hcz27_1, hfz27_0, hfz27_1⟩ := blk2_ BK865; obtain ⟨Ao28, co28, eo28⟩ := Kd.V_slice HO861.out; subst eo28; obtain ⟨Ao29, co29, eo29⟩ := Kd.R_slice HO864.out; subst eo29) | ((with_reducible refine gate_callee (f := 39) rfl ?_); refine goesL_ (some 18) rfl rfl Try.func39 k_ rfl #[.agg #[.slice Ao26 t856.length co26, .slice Ao28 t859.length co28], .slice Ao29 t862.length co29] rfl (g2_) ?_; (with_reducible refine (impl_FallsWith.calls k _ _ t856 _ _ t859 _ _ t862 t866 _ ?side1 ?side2 ?side3 ?side4 ?side5 ?side6 A4.out).mono ?_); (case side1 => refine (Kd.R_reads' (e := 3) (base := w.heap.size) (ok := fun k_ => True) (n := t856.length) (c := co26) ?_).2.2; exact (g178_)); (case side2 => exact (Kd.R_reads' HO858.out).2.1); (case side3 => refine (Kd.V_reads' (e := 23) (base := w.heap.size) (ok := fun k_ => ((some k_ ≠ (.slice Ao26 t856.length co26 : Value).ownBlock ∧ some k_ ≠ (.slice Ao29 t862.length co29 : Value).ownBlock) ∧ k_ ≠ gb865)) (n := t859.length) (c := co28) ?_).2.2; exact (by (with_reducible repeat (first | apply Kd.V_alloc | apply Kd.V_drewN | apply Kd.V_drew)); exact (Kd.V_mono (Kd.V_far (p := ⟨gb865, 1, none⟩) (Kd.V_far (p := ⟨gb865, 0, none⟩) (Kd.V_mono HO861.out (fun k_ hk => (⟨hk, hk.2⟩ : _ ∧ k_ ≠ gb865))) (fun _ hk => hk.2) (.slice Ao26 t856.length co26)) (fun _ hk => hk.2) (.slice Ao28 t859.length co28)) (fun _ h_ => h_.1)))); (case side4 => exact (Kd.V_reads' HO861.out).2.1); (case side5 => refine (Kd.R_reads' (e := 36) (base := w.heap.size) (ok := fun k_ => True) (n := t862.length) (c := co29) ?_).2.2; exact (by (with_reducible repeat (first | apply Kd.R_alloc | apply Kd.R_drewN | apply Kd.R_drew)); exact (Kd.R_mono (Kd.R_far (p := ⟨gb865, 1, none⟩) (Kd.R_far (p := ⟨gb865, 0, none⟩) (Kd.R_types HO864.out BK865.out (by decide)) (fun _ hk => hk.2) (.slice Ao26 t856.length co26)) (fun _ hk => hk.2) (.slice Ao28 t859.length co28)) (fun _ h_ => h_.1)))); (case side6 => exact (Kd.R_reads' HO864.out).2.1); rintro e w30 ⟨v867, rfl, ho0, hb⟩; refine ⟨_, rfl, ?_⟩; replace HO861 := Aside0.mk (Kd.V_elder' (by (with_reducible repeat (first | apply Kd.V_alloc | apply Kd.V_drewN | apply Kd.V_drew)); exact (Kd.V_mono (Kd.V_far (p := ⟨gb865, 1, none⟩) (Kd.V_far (p := ⟨gb865, 0, none⟩) (Kd.V_mono HO861.out (fun k_ hk => (⟨hk, hk.2⟩ : _ ∧ k_ ≠ gb865))) (fun _ hk => hk.2) (.slice Ao26 t856.length co26)) (fun _ hk => hk.2) (.slice Ao28 t859.length co28)) (fun _ h_ => h_.1))) (Kd.R_base ho0) hb); replace HO864 := Aside0.mk (Kd.R_below (by (with_reducible repeat (first | apply Kd.R_alloc | apply Kd.R_drewN | apply Kd.R_drew)); exact (Kd.R_mono (Kd.R_far (p := ⟨gb865, 1, none⟩) (Kd.R_far (p := ⟨gb865, 0, none⟩) (Kd.R_types HO864.out BK865.out (by decide)) (fun _ hk => hk.2) (.slice Ao26 t856.length co26)) (fun _ hk => hk.2) (.slice Ao28 t859.length co28)) (fun _ h_ => h_.1))) hb); have HO868 := Aside0.mk (Kd.R_lower (Kd.R_new' ho0 (Kd.R_lt (g178_))) (below_size (laws_FnFallsWith.calls_q0))); replace HO858 := Aside0.mk (Kd.R_elder' (g178_) (Kd.R_base ho0) hb); replace BK865 := Aside0.mk (blk_below (g := gb865) (o := .cells #[.slice Ao26 t856.length co26, .slice Ao28 t859.length co28] 26 (0, 0)) (by (with_reducible repeat (first | refine blk_drewN ?_ _ | refine blk_drew ?_ | refine blk_alloc ?_ _)); refine blk_put (cs := #[.slice Ao26 t856.length co26, .slice none 0 0]) ?_ 1 _ rfl; (with_reducible repeat (first | refine blk_drewN ?_ _ | refine blk_drew ?_ | refine blk_alloc ?_ _)); refine blk_put (cs := #[.slice none 0 0, .slice none 0 0]) ?_ 0 _ rfl; (with_reducible repeat (first | refine blk_drewN ?_ _ | refine blk_drew ?_ | refine blk_alloc ?_ _)); exact BK865.out) hb); replace HB := Aside0.mk (below_step (laws_FnFallsWith.calls_q0) hb); (try clear hb); (try clear hk hi); (try clear ho0); obtain ⟨hcz31_0, hcz31_1, hfz31_0, hfz31_1⟩ := blk2_ BK865) | ((with_reducible refine gate_callee (f := 41) rfl ?_); refine goesL_ (some 22) rfl rfl Try.func41 k_ rfl #[.agg #[.slice Ao26 t856.length co26, .slice Ao28 t859.length co28], .slice Ao29 t862.length co29] rfl (g2_) ?_; (with_reducible refine (spec_FallsWith.calls k _ _ t856 _ _ t859 _ _ t862 t869 _ ?side1 ?side2 ?side3 ?side4 ?side5 ?side6 A5.out).mono ?_); (case side1 => repeat (first | exact (Kd.R_reads' HO858.out).2.2 | (with_reducible refine Kd.C_alloc ?_ _) | (with_reducible refine Kd.C_drewN ?_ _) | (with_reducible refine Kd.C_drew ?_))); (case side2 => exact (Kd.R_reads' HO858.out).2.1); (case side3 => repeat (first | exact (Kd.V_reads' HO861.out).2.2 | (with_reducible refine Kd.C_alloc ?_ _) | (with_reducible refine Kd.C_drewN ?_ _) | (with_reducible refine Kd.C_drew ?_))); (case side4 => exact (Kd.V_reads' HO861.out).2.1); (case side5 => repeat (first | exact (Kd.R_reads' HO864.out).2.2 | (with_reducible refine Kd.C_alloc ?_ _) | (with_reducible refine Kd.C_drewN ?_ _) | (with_reducible refine Kd.C_drew ?_))); (case side6 => exact (Kd.R_reads' HO864.out).2.1); rintro e w32 ⟨v870, rfl, ho0, hb⟩; refine ⟨_, rfl, ?_⟩; replace HO861 := Aside0.mk (Kd.V_elder' (uf5_ HO861) (Kd.R_base ho0) hb); replace HO864 := Aside0.mk (Kd.R_below (uf1_ HO864) hb); have HO871 := Aside0.mk (Kd.R_lower (Kd.R_new' (Kd.R_new' ho0 (Kd.R_lt (uf1_ HO858))) (Kd.R_lt (uf1_ HO868))) (below_size (laws_FnFallsWith.calls_q0))); replace HO858 := Aside0.mk (Kd.R_elder' (uf1_ HO858) (Kd.R_base ho0) hb); replace HO868 := Aside0.mk (Kd.R_elder' (uf1_ HO868) (Kd.R_base ho0) hb); replace BK865 := Aside0.mk (blk_below (g := gb865) (o := .cells #[.slice Ao26 t856.length co26, .slice Ao28 t859.length co28] 26 (0, 0)) (uf0_ BK865) hb); replace HB := Aside0.mk (below_step (laws_FnFallsWith.calls_q0) hb); (try clear hb); (try clear hk hi); (try clear ho0); obtain ⟨Ao33, co33, eo33⟩ := Kd.R_slice HO868.out; subst eo33; obtain ⟨Ao34, co34, eo34⟩ := Kd.R_slice HO871.out; subst eo34) | ((with_reducible refine gate_callee (f := 40) rfl ?_); refine goesL_ (some 23) rfl rfl Try.func40 k_ rfl #[.slice Ao33 t866.length co33, .slice Ao34 t869.length co34] rfl (g2_) ?_; (with_reducible refine (laws_sameInts.calls k _ _ t866 _ _ t869 true _ ?side1 ?side2 ?side3 ?side4 A6.out).mono ?_); (case side1 => repeat (first | exact (Kd.R_reads' HO868.out).2.2 | (with_reducible refine Kd.C_alloc ?_ _) | (with_reducible refine Kd.C_drewN ?_ _) | (with_reducible refine Kd.C_drew ?_))); (case side2 => exact (Kd.R_reads' HO868.out).2.1); (case side3 => repeat (first | exact (Kd.R_reads' HO871.out).2.2 | (with_reducible refine Kd.C_alloc ?_ _) | (with_reducible refine Kd.C_drewN ?_ _) | (with_reducible refine Kd.C_drew ?_))); (case side4 => exact (Kd.R_reads' HO871.out).2.1); rintro e w' ⟨rfl, ⟨nd, rfl⟩⟩; refine ⟨_, rfl, ?_⟩))
    (try (rw [drewN_self w32]; generalize hq_ : World.drewN w32 _ = w32; replace HO858 : Aside0 (Kd.R (Kd.int .i64) 3 w32 w.heap.size (fun k_ => some k_ ≠ (.slice Ao33 t866.length co33 : Value).ownBlock ∧ some k_ ≠ (.slice Ao34 t869.length co34 : Value).ownBlock) (.slice Ao26 t856.length co26) t856) := ⟨by rw [← hq_]; exact (by (with_reducible repeat (first | apply Kd.R_alloc | apply Kd.R_drewN | apply Kd.R_drew)); exact Kd.R_mono HO858.out (fun _ hk => ⟨hk.1.2, hk.2⟩))⟩; replace HO861 : Aside0 (Kd.V (Kd.slice 3 (Kd.int .i64)) 23 w32 w.heap.size (fun k_ => some k_ ≠ (.slice Ao26 t856.length co26 : Value).ownBlock ∧ some k_ ≠ (.slice Ao29 t862.length co29 : Value).ownBlock ∧ some k_ ≠ (.slice Ao33 t866.length co33 : Value).ownBlock ∧ some k_ ≠ (.slice Ao34 t869.length co34 : Value).ownBlock ∧ k_ ≠ gb865) (.slice Ao28 t859.length co28) t859) := ⟨by rw [← hq_]; exact (by (with_reducible repeat (first | apply Kd.V_alloc | apply Kd.V_drewN | apply Kd.V_drew)); exact Kd.V_mono HO861.out (fun _ hk => ⟨hk.1.1.1.1, ⟨hk.1.1.1.2, ⟨hk.1.2, ⟨hk.2, hk.1.1.2⟩⟩⟩⟩))⟩; replace HO864 : Aside0 (Kd.R k36 36 w32 w.heap.size (fun _ => True) (.slice Ao29 t862.length co29) t862) := ⟨by rw [← hq_]; exact (uf1_ HO864)⟩; replace HO868 : Aside0 (Kd.R (Kd.int .i64) 3 w32 w.heap.size (fun k_ => some k_ ≠ (.slice Ao26 t856.length co26 : Value).ownBlock ∧ some k_ ≠ (.slice Ao34 t869.length co34 : Value).ownBlock) (.slice Ao33 t866.length co33) t866) := ⟨by rw [← hq_]; exact (by (with_reducible repeat (first | apply Kd.R_alloc | apply Kd.R_drewN | apply Kd.R_drew)); exact Kd.R_mono HO868.out (fun _ hk => ⟨hk.1.2, hk.2⟩))⟩; replace HO871 : Aside0 (Kd.R (Kd.int .i64) 3 w32 w.heap.size (fun k_ => some k_ ≠ (.slice Ao26 t856.length co26 : Value).ownBlock ∧ some k_ ≠ (.slice Ao33 t866.length co33 : Value).ownBlock) (.slice Ao34 t869.length co34) t869) := ⟨by rw [← hq_]; exact (by (with_reducible repeat (first | apply Kd.R_alloc | apply Kd.R_drewN | apply Kd.R_drew)); exact Kd.R_mono HO871.out (fun _ hk => ⟨hk.1.2, hk.2⟩))⟩; replace BK865 : Aside0 (w32.heap[gb865]? = some (.cells #[.slice Ao26 t856.length co26, .slice Ao28 t859.length co28] 26 (0, 0))) := ⟨by rw [← hq_]; exact (uf0_ BK865)⟩; replace HB : Aside0 (Below w.heap.size w w32) := ⟨by rw [← hq_]; exact (laws_FnFallsWith.calls_q0)⟩; clear hq_))
    replace HO858 := Aside0.mk (Kd.R_drew HO858.out)
    replace HO861 := Aside0.mk (Kd.V_drew HO861.out)
    replace HO864 := Aside0.mk (Kd.R_drew HO864.out)
    replace HO868 := Aside0.mk (Kd.R_drew HO868.out)
    replace HO871 := Aside0.mk (Kd.R_drew HO871.out)
    replace BK865 := Aside0.mk (blk_drew BK865.out)
    replace HB := Aside0.mk (below_drew1 HB.out)
    refine start_ (n := 5) (S := fun w' => w'.cell? ⟨gb865, 0, none⟩ = some (.slice Ao26 t856.length co26) ∧ w'.cell? ⟨gb865, 1, none⟩ = some (.slice Ao28 t859.length co28)) (ds := []) (tl_ 5 0) (g0_) rfl (g0_) ⟨(blk_cell BK865.out 0).trans rfl, (blk_cell BK865.out 1).trans rfl⟩ (fun hHeld => ?_)
    generalize w32.drew = w35 at HO858 HO861 HO864 HO868 HO871 BK865 HB hHeld ⊢
    refine take_ (i := 0) (N := some 29) (v := ?_) (a' := ?_) (tl_ 5 1) rfl rfl (g0_) (fun _ _ _ h => h) (Or.inl ⟨by rfl, ?_⟩) hHeld ?_ ?_
    rotate_left
    ·rintro w' ⟨s0, s1⟩
     go_simp
     with_reducible rfl
    rotate_left
    ·simp only [Act.put, List.setIfInBounds_toArray, List.set_cons_zero, List.set_cons_succ, i64_w, i32_w]
     rfl
    refine take_ (i := 1) (N := some 30) (v := ?_) (a' := ?_) (tl_ 5 3) rfl rfl (g0_) (fun _ _ _ h => h) (Or.inl ⟨by rfl, ?_⟩) hHeld ?_ ?_
    rotate_left
    ·rintro w' ⟨s0, s1⟩
     go_simp
     with_reducible rfl
    rotate_left
    ·simp only [Act.put, List.setIfInBounds_toArray, List.set_cons_zero, List.set_cons_succ, i64_w, i32_w]
     rfl
    refine one_ (i := 2) (N := some 31) (tl_ 5 7) rfl rfl (g0_) (by decide) (fun K hK => ?_)
    refine goes_ Try.func28 (g0_) rfl #[.agg #[.slice Ao26 t856.length co26, .slice Ao28 t859.length co28]] (by rfl) rfl rfl (g2_) ?_
    with_reducible refine (impl_AllPaid.calls k _ _ t856 _ _ t859 t874 _ ?side1 ?side2 ?side3 ?side4 A22.out).mono ?_
    (case side1 => repeat (first | exact (Kd.R_reads' HO858.out).2.2 | (with_reducible refine Kd.C_alloc ?_ _) | (with_reducible refine Kd.C_drewN ?_ _) | (with_reducible refine Kd.C_drew ?_)))
    (case side2 => exact (Kd.R_reads' HO858.out).2.1)
    (case side3 => repeat (first | exact (Kd.V_reads' HO861.out).2.2 | (with_reducible refine Kd.C_alloc ?_ _) | (with_reducible refine Kd.C_drewN ?_ _) | (with_reducible refine Kd.C_drew ?_)))
    (case side4 => exact (Kd.V_reads' HO861.out).2.1)
    rintro e w36 ⟨v875, rfl, ho0, hb⟩
    refine ⟨_, rfl, ?_⟩
    replace HO858 := Aside0.mk (Kd.R_below (uf1_ HO858) hb)
    replace HO861 := Aside0.mk (Kd.V_elder' (uf5_ HO861) (Kd.R_base ho0) hb)
    replace HO868 := Aside0.mk (Kd.R_below (uf1_ HO868) hb)
    replace HO871 := Aside0.mk (Kd.R_below (uf1_ HO871) hb)
    have HO876 := Aside0.mk (Kd.R_lower (Kd.R_new' ho0 (Kd.R_lt (uf1_ HO864))) (below_size (laws_FnFallsWith.calls_q0)))
    replace HO864 := Aside0.mk (Kd.R_elder' (uf1_ HO864) (Kd.R_base ho0) hb)
    replace BK865 := Aside0.mk (blk_below (g := gb865) (o := .cells #[.slice Ao26 t856.length co26, .slice Ao28 t859.length co28] 26 (0, 0)) (uf0_ BK865) hb)
    replace HB := Aside0.mk (below_step (laws_FnFallsWith.calls_q0) hb)
    (try clear hb)
    (try clear hk hi)
    (try clear ho0)
    obtain ⟨Ao37, co37, eo37⟩ := Kd.R_slice HO876.out
    (first | subst eo37 | (injection eo37 with f1_ f2_ f3_; have f4_ := f1_.symm; have f5_ := f3_.symm; clear f1_ f2_ f3_; subst f4_; subst f5_))
    refine hK.out _ _ ⟨(blk_cell BK865.out 0).trans rfl, (blk_cell BK865.out 1).trans rfl⟩ (fun hHeld => ?_)
    clear hK K
    refine nm_ ?_
    refine one_ (i := 3) (N := some 32) (tl_ 5 15) rfl rfl (g0_) (by decide) (fun K hK => ?_)
    refine goes_ Try.func39 (g0_) rfl #[.agg #[.slice Ao26 t856.length co26, .slice Ao28 t859.length co28], .slice Ao37 t874.length co37] (by rfl) rfl rfl (g2_) ?_
    with_reducible refine (impl_FallsWith.calls k _ _ t856 _ _ t859 _ _ t874 t877 _ ?side1 ?side2 ?side3 ?side4 ?side5 ?side6 A23.out).mono ?_
    (case side1 => repeat (first | exact (Kd.R_reads' HO858.out).2.2 | (with_reducible refine Kd.C_alloc ?_ _) | (with_reducible refine Kd.C_drewN ?_ _) | (with_reducible refine Kd.C_drew ?_)))
    (case side2 => exact (Kd.R_reads' HO858.out).2.1)
    (case side3 => repeat (first | exact (Kd.V_reads' HO861.out).2.2 | (with_reducible refine Kd.C_alloc ?_ _) | (with_reducible refine Kd.C_drewN ?_ _) | (with_reducible refine Kd.C_drew ?_)))
    (case side4 => exact (Kd.V_reads' HO861.out).2.1)
    (case side5 => repeat (first | exact (Kd.R_reads' HO876.out).2.2 | (with_reducible refine Kd.C_alloc ?_ _) | (with_reducible refine Kd.C_drewN ?_ _) | (with_reducible refine Kd.C_drew ?_)))
    (case side6 => exact (Kd.R_reads' HO876.out).2.1)
    rintro e w38 ⟨v878, rfl, ho0, hb⟩
    refine ⟨_, rfl, ?_⟩
    replace HO861 := Aside0.mk (Kd.V_elder' (uf5_ HO861) (Kd.R_base ho0) hb)
    replace HO864 := Aside0.mk (Kd.R_below (uf1_ HO864) hb)
    replace HO876 := Aside0.mk (Kd.R_below (uf1_ HO876) hb)
    have HO879 := Aside0.mk (Kd.R_lower (Kd.R_new' (Kd.R_new' (Kd.R_new' ho0 (Kd.R_lt (uf1_ HO858))) (Kd.R_lt (uf1_ HO868))) (Kd.R_lt (uf1_ HO871))) (below_size (laws_FnFallsWith.calls_q0)))
    replace HO858 := Aside0.mk (Kd.R_elder' (uf1_ HO858) (Kd.R_base ho0) hb)
    replace HO868 := Aside0.mk (Kd.R_elder' (uf1_ HO868) (Kd.R_base ho0) hb)
    replace HO871 := Aside0.mk (Kd.R_elder' (uf1_ HO871) (Kd.R_base ho0) hb)
    replace BK865 := Aside0.mk (blk_below (g := gb865) (o := .cells #[.slice Ao26 t856.length co26, .slice Ao28 t859.length co28] 26 (0, 0)) (uf0_ BK865) hb)
    replace HB := Aside0.mk (below_step (laws_FnFallsWith.calls_q0) hb)
    (try clear hb)
    (try clear hk hi)
    (try clear ho0)
    refine hK.out _ _ ⟨(blk_cell BK865.out 0).trans rfl, (blk_cell BK865.out 1).trans rfl⟩ (fun hHeld => ?_)
    clear hK K
    refine nm_ ?_
    refine pure_ (i := 4) (N := some 6) (v := ?_) (a' := ?_) (tl_ 5 31) rfl rfl (g0_) (fun _ _ _ h => h) (Or.inl ⟨by rfl, ?_⟩) ?_ ?_
    rotate_left
    ·intro w'
     go_simp
     with_reducible rfl
    rotate_left
    ·simp only [Act.put, List.setIfInBounds_toArray, List.set_cons_zero, List.set_cons_succ, i64_w, i32_w]
     rfl
    refine done_ (g0_) ?_
    try go_wp2
    go_loopg [7] k (fun kq v7 w' => ∃ (x7_1 : Int), v7 = .int .i64 x7_1 ∧ Aside0 (laws_FnFallsWith.l0 kq t866 t877 x7_1 t856 t859 = some r) ∧ Aside0 (kq ≤ k) ∧ Aside0 (Kd.R (Kd.int .i64) 3 w' w.heap.size (fun k_ => some k_ ≠ (v878 : Value).ownBlock ∧ some k_ ≠ ((.slice Ao26 t856.length co26) : Value).ownBlock) (.slice Ao33 t866.length co33) t866) ∧ Aside0 (Kd.R (Kd.int .i64) 3 w' w.heap.size (fun k_ => some k_ ≠ ((.slice Ao33 t866.length co33) : Value).ownBlock ∧ some k_ ≠ ((.slice Ao26 t856.length co26) : Value).ownBlock) v878 t877) ∧ Aside0 (Kd.R (Kd.int .i64) 3 w' w.heap.size (fun k_ => some k_ ≠ ((.slice Ao33 t866.length co33) : Value).ownBlock ∧ some k_ ≠ (v878 : Value).ownBlock) (.slice Ao26 t856.length co26) t856) ∧ Aside0 (Kd.V (Kd.slice 3 (Kd.int .i64)) 23 w' w.heap.size (fun k_ => some k_ ≠ ((.slice Ao33 t866.length co33) : Value).ownBlock ∧ some k_ ≠ (v878 : Value).ownBlock ∧ some k_ ≠ ((.slice Ao26 t856.length co26) : Value).ownBlock ∧ k_ ≠ gb865) (.slice Ao28 t859.length co28) t859) ∧ Aside0 (w'.heap[gb865]? = some (.cells #[(.slice Ao26 t856.length co26), (.slice Ao28 t859.length co28)] 26 (0, 0))) ∧ Aside0 (Below w.heap.size w w'))
    case atStart => exact ⟨(0), (g3_), H', ⟨Nat.le_refl _⟩, ⟨by (with_reducible repeat (first | apply Kd.R_alloc | apply Kd.R_drewN | apply Kd.R_drew)); exact Kd.R_mono HO868.out (fun _ hk => by grind)⟩, ⟨by (with_reducible repeat (first | apply Kd.R_alloc | apply Kd.R_drewN | apply Kd.R_drew)); exact Kd.R_mono HO879.out (fun _ hk => by grind)⟩, ⟨by (with_reducible repeat (first | apply Kd.R_alloc | apply Kd.R_drewN | apply Kd.R_drew)); exact Kd.R_mono HO858.out (fun _ hk => by grind)⟩, ⟨by (with_reducible repeat (first | apply Kd.V_alloc | apply Kd.V_drewN | apply Kd.V_drew)); exact Kd.V_mono HO861.out (fun _ hk => by grind)⟩, ⟨uf0_ BK865⟩, ⟨laws_FnFallsWith.calls_q0⟩⟩
    case round =>
     clear H'
     try clear c1
     try clear c2
     try clear c2b0
     try clear c2b1
     try clear p2
     try clear c3
     try clear c4
     try clear c7
     try clear c8
     try clear c8b0
     try clear c8b1
     try clear c8b2
     try clear c17
     try clear c28
     try clear c38
     try clear hcz13_0
     try clear hcz13_1
     try clear hcz17_0
     try clear hcz17_1
     try clear hcz27_0
     try clear hcz27_1
     try clear hcz31_0
     try clear hcz31_1
     try clear hfz13_0
     try clear hfz13_1
     try clear hfz17_0
     try clear hfz17_1
     try clear hfz27_0
     try clear hfz27_1
     try clear hfz31_0
     try clear hfz31_1
     obtain ⟨x7_1, rfl, HA, HK1, HO_5, HO_6, HO_866000, HO_866001, BK865, HB⟩ := hrel
     cases gk with
     | zero => exact absurd HA.out (by simp [laws_FnFallsWith.l0])
     | succ k1 =>
      have H := HA.out
      clear HA
      simp only [laws_FnFallsWith.l0] at H
      by_cases c39 : x7_1 < (t866.length : Int)
      ·rw [if_pos c39] at H
       have c39b0 := decide_eq_true c39
       clear c39
       by_cases c40 : x7_1 ≥ (t877.length : Int)
       ·rw [if_pos c40] at H
        have c40b0 := decide_eq_true c40
        clear c40
        obtain rfl := Option.some.inj H
        try go_wp2
        replace HO_5 := Aside0.mk (Kd.R_drew HO_5.out)
        replace HO_6 := Aside0.mk (Kd.R_drew HO_6.out)
        replace HO_866000 := Aside0.mk (Kd.R_drew HO_866000.out)
        replace HO_866001 := Aside0.mk (Kd.V_drew HO_866001.out)
        replace BK865 := Aside0.mk (blk_drew BK865.out)
        replace HB := Aside0.mk (below_drew1 HB.out)
        obtain ⟨Ao42, co42, eo42⟩ := Kd.R_slice HO_6.out
        (first | subst eo42 | (injection eo42 with f1_ f2_ f3_; have f4_ := f1_.symm; have f5_ := f3_.symm; clear f1_ f2_ f3_; subst f4_; subst f5_))
        refine start_ (n := 15) (S := fun w' => True) (ds := []) (tl_ 15 0) (g0_) rfl (g0_) trivial (fun hHeld => ?_); refine with_tabW laws_FnFallsWith.tab13 laws_FnFallsWith.bits13 (fun HT_ HW_ => ?_)
        generalize wr.drew = w41 at HO_5 HO_6 HO_866000 HO_866001 BK865 HB hHeld ⊢
        refine pw_ 0 39 (tl_ 15 1) rfl rfl ?_
        refine pw_ 1 40 (tl_ 15 3) rfl rfl ?_
        refine pw_ 2 41 (tl_ 15 7) rfl rfl ?_
        refine pw_ 3 42 (tl_ 15 15) rfl rfl ?_
        refine pw_ 4 43 (tl_ 15 31) rfl rfl ?_
        refine pure_ (i := 5) (N := some 44) (v := undef) (a' := ?_) (tl_ 15 63) rfl rfl (any_of HT_.out (g0_)) (fun _ _ _ h => h) (Or.inr ⟨by rfl, rfl⟩) ?_ ?_
        rotate_left
        ·simp only [Act.put, List.setIfInBounds_toArray, List.set_cons_zero, List.set_cons_succ, i64_w, i32_w]
         rfl
        refine pure_ (i := 6) (N := some 45) (v := undef) (a' := ?_) (tl_ 15 127) rfl rfl (any_of HT_.out (g0_)) (fun _ _ _ h => h) (Or.inr ⟨by rfl, rfl⟩) ?_ ?_
        rotate_left
        ·simp only [Act.put, List.setIfInBounds_toArray, List.set_cons_zero, List.set_cons_succ, i64_w, i32_w]
         rfl
        refine pure_ (i := 7) (N := some 46) (v := undef) (a' := ?_) (tl_ 15 255) rfl rfl (any_of HT_.out (g0_)) (fun _ _ _ h => h) (Or.inr ⟨by rfl, rfl⟩) ?_ ?_
        rotate_left
        ·simp only [Act.put, List.setIfInBounds_toArray, List.set_cons_zero, List.set_cons_succ, i64_w, i32_w]
         rfl
        refine pure_ (i := 8) (N := some 47) (v := undef) (a' := ?_) (tl_ 15 511) rfl rfl (any_of HT_.out (g0_)) (fun _ _ _ h => h) (Or.inr ⟨by rfl, rfl⟩) ?_ ?_
        rotate_left
        ·simp only [Act.put, List.setIfInBounds_toArray, List.set_cons_zero, List.set_cons_succ, i64_w, i32_w]
         rfl
        refine pure_ (i := 9) (N := some 48) (v := undef) (a' := ?_) (tl_ 15 1023) rfl rfl (any_of HT_.out (g0_)) (fun _ _ _ h => h) (Or.inr ⟨by rfl, rfl⟩) ?_ ?_
        rotate_left
        ·simp only [Act.put, List.setIfInBounds_toArray, List.set_cons_zero, List.set_cons_succ, i64_w, i32_w]
         rfl
        refine pure_ (i := 10) (N := some 49) (v := undef) (a' := ?_) (tl_ 15 2047) rfl rfl (any_of HT_.out (g0_)) (fun _ _ _ h => h) (Or.inr ⟨by rfl, rfl⟩) ?_ ?_
        rotate_left
        ·simp only [Act.put, List.setIfInBounds_toArray, List.set_cons_zero, List.set_cons_succ, i64_w, i32_w]
         rfl
        refine pure_ (i := 11) (N := some 50) (v := undef) (a' := ?_) (tl_ 15 4095) rfl rfl (any_of HT_.out (g0_)) (fun _ _ _ h => h) (Or.inr ⟨by rfl, rfl⟩) ?_ ?_
        rotate_left
        ·simp only [Act.put, List.setIfInBounds_toArray, List.set_cons_zero, List.set_cons_succ, i64_w, i32_w]
         rfl
        refine pure_ (i := 12) (N := some 51) (v := undef) (a' := ?_) (tl_ 15 8191) rfl rfl (any_of HT_.out (g0_)) (fun _ _ _ h => h) (Or.inr ⟨by rfl, rfl⟩) ?_ ?_
        rotate_left
        ·simp only [Act.put, List.setIfInBounds_toArray, List.set_cons_zero, List.set_cons_succ, i64_w, i32_w]
         rfl
        refine pure_ (i := 13) (N := some 52) (v := undef) (a' := ?_) (tl_ 15 16383) rfl rfl (any_of HT_.out (g0_)) (fun _ _ _ h => h) (Or.inr ⟨by rfl, rfl⟩) ?_ ?_
        rotate_left
        ·simp only [Act.put, List.setIfInBounds_toArray, List.set_cons_zero, List.set_cons_succ, i64_w, i32_w]
         rfl
        refine pw_ 14 53 (tl_ 15 32767) rfl rfl ?_
        refine done_ (done_of HT_.out (g0_)) ?_
        try go_wp2
        go_ret
        exact ⟨g4_, laws_FnFallsWith.calls_q0⟩
       ·rw [if_neg c40] at H
        have c40b0 := decide_eq_false c40
        clear c40
        by_cases c43 : 0 ≤ x7_1
        ·rw [if_pos c43] at H
         have c43b0 := decide_eq_true c43
         clear c43
         by_cases c44 : x7_1 < (t877.length : Int)
         ·rw [if_pos c44] at H
          have c44b0 := decide_eq_true c44
          clear c44
          by_cases c45 : (rd t877 x7_1) > (rd t866 x7_1)
          ·rw [if_pos c45] at H
           have c45b0 := decide_eq_true c45
           clear c45
           obtain rfl := Option.some.inj H
           try go_wp2
           replace HO_5 := Aside0.mk (Kd.R_drew HO_5.out)
           replace HO_6 := Aside0.mk (Kd.R_drew HO_6.out)
           replace HO_866000 := Aside0.mk (Kd.R_drew HO_866000.out)
           replace HO_866001 := Aside0.mk (Kd.V_drew HO_866001.out)
           replace BK865 := Aside0.mk (blk_drew BK865.out)
           replace HB := Aside0.mk (below_drew1 HB.out)
           obtain ⟨Ao47, co47, eo47⟩ := Kd.R_slice HO_6.out
           (first | subst eo47 | (injection eo47 with f1_ f2_ f3_; have f4_ := f1_.symm; have f5_ := f3_.symm; clear f1_ f2_ f3_; subst f4_; subst f5_))
           have p880 : 0 ≤ (x7_1 : Int) := of_decide_eq_true (g1_)
           have q880 : x7_1 < (t877.length : Int) := of_decide_eq_true (g1_)
           obtain ⟨ad880, e880, hx880_0⟩ := Kd.at_int (Kd.R_reads' HO_6.out).2.2 x7_1 p880 q880
           cases e880
           replace p880 := eq_true p880
           replace q880 := eq_true q880
           have p881 : 0 ≤ (x7_1 : Int) := of_decide_eq_true (g1_)
           have q881 : x7_1 < (t866.length : Int) := of_decide_eq_true (g1_)
           obtain ⟨ad881, e881, hx881_0⟩ := Kd.at_int (Kd.R_reads' HO_5.out).2.2 x7_1 p881 q881
           cases e881
           replace p881 := eq_true p881
           replace q881 := eq_true q881
           refine start_ (n := 15) (S := fun w' => w'.cell? (ad880.add (x7_1).toNat) = some (.int .i64 (rd t877 x7_1)) ∧ w'.cell? (ad881.add (x7_1).toNat) = some (.int .i64 (rd t866 x7_1))) (ds := []) (tl_ 15 0) (g0_) rfl (g0_) ⟨hx880_0, hx881_0⟩ (fun hHeld => ?_); refine with_tabW laws_FnFallsWith.tab13 laws_FnFallsWith.bits13 (fun HT_ HW_ => ?_)
           generalize wr.drew = w46 at HO_5 HO_6 HO_866000 HO_866001 BK865 HB hx880_0 hx881_0 hHeld ⊢
           refine pw_ 0 39 (tl_ 15 1) rfl rfl ?_
           refine pw_ 1 40 (tl_ 15 3) rfl rfl ?_
           refine pw_ 2 41 (tl_ 15 7) rfl rfl ?_
           refine pw_ 3 42 (tl_ 15 15) rfl rfl ?_
           refine pw_ 4 43 (tl_ 15 31) rfl rfl ?_
           refine pw_ 5 44 (tl_ 15 63) rfl rfl ?_
           refine pw_ 6 45 (tl_ 15 127) rfl rfl ?_
           refine pw_ 7 46 (tl_ 15 255) rfl rfl ?_
           refine pw_ 9 48 (tl_ 15 767) rfl rfl ?_
           refine pw_ 10 49 (tl_ 15 1791) rfl rfl ?_
           refine pw_ 11 50 (tl_ 15 3839) rfl rfl ?_
           refine tk0_ 8 47 (tl_ 15 4095) rfl rfl hHeld ?_
           refine tk0_ 12 51 (tl_ 15 8191) rfl rfl hHeld ?_
           refine pw_ 13 52 (tl_ 15 16383) rfl rfl ?_
           refine pw_ 14 53 (tl_ 15 32767) rfl rfl ?_
           refine done_ (done_of HT_.out (g0_)) ?_
           try go_wp2
           go_ret
           exact ⟨g4_, laws_FnFallsWith.calls_q0⟩
          ·rw [if_neg c45] at H
           have c45b0 := decide_eq_false c45
           clear c45
           have H' := Aside0.mk H
           clear H
           try go_wp2
           replace HO_5 := Aside0.mk (Kd.R_drew HO_5.out)
           replace HO_6 := Aside0.mk (Kd.R_drew HO_6.out)
           replace HO_866000 := Aside0.mk (Kd.R_drew HO_866000.out)
           replace HO_866001 := Aside0.mk (Kd.V_drew HO_866001.out)
           replace BK865 := Aside0.mk (blk_drew BK865.out)
           replace HB := Aside0.mk (below_drew1 HB.out)
           obtain ⟨Ao49, co49, eo49⟩ := Kd.R_slice HO_6.out
           (first | subst eo49 | (injection eo49 with f1_ f2_ f3_; have f4_ := f1_.symm; have f5_ := f3_.symm; clear f1_ f2_ f3_; subst f4_; subst f5_))
           have p880 : 0 ≤ (x7_1 : Int) := of_decide_eq_true (g1_)
           have q880 : x7_1 < (t877.length : Int) := of_decide_eq_true (g1_)
           obtain ⟨ad880, e880, hx880_0⟩ := Kd.at_int (Kd.R_reads' HO_6.out).2.2 x7_1 p880 q880
           cases e880
           replace p880 := eq_true p880
           replace q880 := eq_true q880
           have p881 : 0 ≤ (x7_1 : Int) := of_decide_eq_true (g1_)
           have q881 : x7_1 < (t866.length : Int) := of_decide_eq_true (g1_)
           obtain ⟨ad881, e881, hx881_0⟩ := Kd.at_int (Kd.R_reads' HO_5.out).2.2 x7_1 p881 q881
           cases e881
           replace p881 := eq_true p881
           replace q881 := eq_true q881
           refine start_ (n := 15) (S := fun w' => w'.cell? (ad880.add (x7_1).toNat) = some (.int .i64 (rd t877 x7_1)) ∧ w'.cell? (ad881.add (x7_1).toNat) = some (.int .i64 (rd t866 x7_1))) (ds := []) (tl_ 15 0) (g0_) rfl (g0_) ⟨hx880_0, hx881_0⟩ (fun hHeld => ?_); refine with_tabW laws_FnFallsWith.tab13 laws_FnFallsWith.bits13 (fun HT_ HW_ => ?_)
           generalize wr.drew = w48 at HO_5 HO_6 HO_866000 HO_866001 BK865 HB hx880_0 hx881_0 hHeld ⊢
           refine pw_ 0 39 (tl_ 15 1) rfl rfl ?_
           refine pw_ 1 40 (tl_ 15 3) rfl rfl ?_
           refine pw_ 2 41 (tl_ 15 7) rfl rfl ?_
           refine pw_ 3 42 (tl_ 15 15) rfl rfl ?_
           refine pw_ 4 43 (tl_ 15 31) rfl rfl ?_
           refine pw_ 5 44 (tl_ 15 63) rfl rfl ?_
           refine pw_ 6 45 (tl_ 15 127) rfl rfl ?_
           refine pw_ 7 46 (tl_ 15 255) rfl rfl ?_
           refine pw_ 9 48 (tl_ 15 767) rfl rfl ?_
           refine pw_ 10 49 (tl_ 15 1791) rfl rfl ?_
           refine pw_ 11 50 (tl_ 15 3839) rfl rfl ?_
           refine tk0_ 8 47 (tl_ 15 4095) rfl rfl hHeld ?_
           refine tk0_ 12 51 (tl_ 15 8191) rfl rfl hHeld ?_
           refine pw_ 13 52 (tl_ 15 16383) rfl rfl ?_
           refine pw_ 14 53 (tl_ 15 32767) rfl rfl ?_
           refine done_ (done_of HT_.out (g0_)) ?_
           try go_wp2
           go_roundg k1
           case measure => have := HK1.out; omega
           case rel => exact ⟨(wrap64 (x7_1 + 1)), (g3_), H', ⟨g9_⟩, ⟨uf1_ HO_5⟩, ⟨uf1_ HO_6⟩, ⟨uf1_ HO_866000⟩, ⟨uf5_ HO_866001⟩, ⟨uf0_ BK865⟩, ⟨laws_FnFallsWith.calls_q0⟩⟩
         ·rw [if_neg c44] at H
          exact absurd H (by simp)
        ·rw [if_neg c43] at H
         exact absurd H (by simp)
      ·rw [if_neg c39] at H
       have c39b0 := decide_eq_false c39
       clear c39
       obtain rfl := Option.some.inj H
       obtain ⟨hcz50_0, hcz50_1, hfz50_0, hfz50_1⟩ := blk2_ BK865
       go_wp2
       go_ret
       exact ⟨g4_, laws_FnFallsWith.calls_q0⟩
  ·replace c7 := Bool.eq_false_iff.mpr c7
   subst c7
   replace H := ifn_ H
   obtain rfl := Option.some.inj H
   go_enter Try.func8, Try.ntmps8
   go_wp2_with (first | ((with_reducible refine gate_callee (f := 38) rfl ?_); refine goesL_ (some 13) rfl rfl Try.func38 k_ rfl #[.slice A0 l0.length c0] rfl (g2_) ?_; (with_reducible refine (spec_DrawFallsWith.calls k _ _ l0 t856 t859 t862 _ ?side1 ?side2 A3.out).mono ?_); (case side1 => repeat (first | exact HR0.out | (with_reducible refine Kd.C_alloc ?_ _) | (with_reducible refine Kd.C_drewN ?_ _) | (with_reducible refine Kd.C_drew ?_))); (case side2 => exact HC0.out); rintro e w51 ⟨v857, v860, v863, rfl, ho0, ho1, ho2, hb⟩; refine ⟨_, rfl, ?_⟩; have HO858 := Aside0.mk (Kd.R_lower (Kd.R_mono (ok' := fun k_ => True) ho0 (fun _ hk_ => trivial)) (below_size (laws_FnFallsWith.calls_q0))); have HO861 := Aside0.mk (Kd.V_lower (Kd.V_mono (ok' := fun k_ => some k_ ≠ (v857 : Value).ownBlock ∧ some k_ ≠ (v863 : Value).ownBlock) ho1 (fun k_ hk_ => ⟨hk_.2.1, hk_.2.2⟩)) (below_size (laws_FnFallsWith.calls_q0))); have HO864 := Aside0.mk (Kd.R_lower (Kd.R_mono (ok' := fun k_ => True) ho2 (fun _ hk_ => trivial)) (below_size (laws_FnFallsWith.calls_q0))); replace HB := Aside0.mk (below_step (laws_FnFallsWith.calls_q0) hb); (try clear hb); (try clear hk hi); (try clear ho0); (try clear ho1); (try clear ho2)) | ((with_reducible refine gate_dst (N := 3) rfl ?_); refine bx_ (N := 3) #[.slice none 0 0, .slice none 0 0] 26 ?_; intro gb865 hg w52 hbox hb; replace HO858 := Aside0.mk (Kd.R_below (uf1_ HO858) hb); replace HO861 := Aside0.mk (Kd.V_below (Kd.V_elderB (uf5_ HO861) gb865 (Nat.le_of_eq hg.symm)) hb); replace HO864 := Aside0.mk (Kd.R_below (uf1_ HO864) hb); have BK865 := Aside0.mk (hbox); have GW865 := Aside0.mk ((g80_ : w.heap.size ≤ gb865)); have GE865 := Aside0.mk ((g80_ : w.heap.size ≤ gb865)); replace HB := Aside0.mk (below_step (laws_FnFallsWith.calls_q0) hb); clear hb hbox hg; obtain ⟨Ao53, co53, eo53⟩ := Kd.R_slice HO858.out; subst eo53; obtain ⟨hcz54_0, hcz54_1, hfz54_0, hfz54_1⟩ := blk2_ BK865; obtain ⟨Ao55, co55, eo55⟩ := Kd.V_slice HO861.out; subst eo55; obtain ⟨Ao56, co56, eo56⟩ := Kd.R_slice HO864.out; subst eo56) | ((with_reducible refine gate_callee (f := 39) rfl ?_); refine goesL_ (some 18) rfl rfl Try.func39 k_ rfl #[.agg #[.slice Ao53 t856.length co53, .slice Ao55 t859.length co55], .slice Ao56 t862.length co56] rfl (g2_) ?_; (with_reducible refine (impl_FallsWith.calls k _ _ t856 _ _ t859 _ _ t862 t866 _ ?side1 ?side2 ?side3 ?side4 ?side5 ?side6 A4.out).mono ?_); (case side1 => refine (Kd.R_reads' (e := 3) (base := w.heap.size) (ok := fun k_ => True) (n := t856.length) (c := co53) ?_).2.2; exact (g179_)); (case side2 => exact (Kd.R_reads' HO858.out).2.1); (case side3 => refine (Kd.V_reads' (e := 23) (base := w.heap.size) (ok := fun k_ => ((some k_ ≠ (.slice Ao53 t856.length co53 : Value).ownBlock ∧ some k_ ≠ (.slice Ao56 t862.length co56 : Value).ownBlock) ∧ k_ ≠ gb865)) (n := t859.length) (c := co55) ?_).2.2; exact (by (with_reducible repeat (first | apply Kd.V_alloc | apply Kd.V_drewN | apply Kd.V_drew)); exact (Kd.V_mono (Kd.V_far (p := ⟨gb865, 1, none⟩) (Kd.V_far (p := ⟨gb865, 0, none⟩) (Kd.V_mono HO861.out (fun k_ hk => (⟨hk, hk.2⟩ : _ ∧ k_ ≠ gb865))) (fun _ hk => hk.2) (.slice Ao53 t856.length co53)) (fun _ hk => hk.2) (.slice Ao55 t859.length co55)) (fun _ h_ => h_.1)))); (case side4 => exact (Kd.V_reads' HO861.out).2.1); (case side5 => refine (Kd.R_reads' (e := 36) (base := w.heap.size) (ok := fun k_ => True) (n := t862.length) (c := co56) ?_).2.2; exact (by (with_reducible repeat (first | apply Kd.R_alloc | apply Kd.R_drewN | apply Kd.R_drew)); exact (Kd.R_mono (Kd.R_far (p := ⟨gb865, 1, none⟩) (Kd.R_far (p := ⟨gb865, 0, none⟩) (Kd.R_types HO864.out BK865.out (by decide)) (fun _ hk => hk.2) (.slice Ao53 t856.length co53)) (fun _ hk => hk.2) (.slice Ao55 t859.length co55)) (fun _ h_ => h_.1)))); (case side6 => exact (Kd.R_reads' HO864.out).2.1); rintro e w57 ⟨v867, rfl, ho0, hb⟩; refine ⟨_, rfl, ?_⟩; replace HO861 := Aside0.mk (Kd.V_elder' (by (with_reducible repeat (first | apply Kd.V_alloc | apply Kd.V_drewN | apply Kd.V_drew)); exact (Kd.V_mono (Kd.V_far (p := ⟨gb865, 1, none⟩) (Kd.V_far (p := ⟨gb865, 0, none⟩) (Kd.V_mono HO861.out (fun k_ hk => (⟨hk, hk.2⟩ : _ ∧ k_ ≠ gb865))) (fun _ hk => hk.2) (.slice Ao53 t856.length co53)) (fun _ hk => hk.2) (.slice Ao55 t859.length co55)) (fun _ h_ => h_.1))) (Kd.R_base ho0) hb); replace HO864 := Aside0.mk (Kd.R_below (by (with_reducible repeat (first | apply Kd.R_alloc | apply Kd.R_drewN | apply Kd.R_drew)); exact (Kd.R_mono (Kd.R_far (p := ⟨gb865, 1, none⟩) (Kd.R_far (p := ⟨gb865, 0, none⟩) (Kd.R_types HO864.out BK865.out (by decide)) (fun _ hk => hk.2) (.slice Ao53 t856.length co53)) (fun _ hk => hk.2) (.slice Ao55 t859.length co55)) (fun _ h_ => h_.1))) hb); have HO868 := Aside0.mk (Kd.R_lower (Kd.R_new' ho0 (Kd.R_lt (g179_))) (below_size (laws_FnFallsWith.calls_q0))); replace HO858 := Aside0.mk (Kd.R_elder' (g179_) (Kd.R_base ho0) hb); replace BK865 := Aside0.mk (blk_below (g := gb865) (o := .cells #[.slice Ao53 t856.length co53, .slice Ao55 t859.length co55] 26 (0, 0)) (by (with_reducible repeat (first | refine blk_drewN ?_ _ | refine blk_drew ?_ | refine blk_alloc ?_ _)); refine blk_put (cs := #[.slice Ao53 t856.length co53, .slice none 0 0]) ?_ 1 _ rfl; (with_reducible repeat (first | refine blk_drewN ?_ _ | refine blk_drew ?_ | refine blk_alloc ?_ _)); refine blk_put (cs := #[.slice none 0 0, .slice none 0 0]) ?_ 0 _ rfl; (with_reducible repeat (first | refine blk_drewN ?_ _ | refine blk_drew ?_ | refine blk_alloc ?_ _)); exact BK865.out) hb); replace HB := Aside0.mk (below_step (laws_FnFallsWith.calls_q0) hb); (try clear hb); (try clear hk hi); (try clear ho0); obtain ⟨hcz58_0, hcz58_1, hfz58_0, hfz58_1⟩ := blk2_ BK865) | ((with_reducible refine gate_callee (f := 41) rfl ?_); refine goesL_ (some 22) rfl rfl Try.func41 k_ rfl #[.agg #[.slice Ao53 t856.length co53, .slice Ao55 t859.length co55], .slice Ao56 t862.length co56] rfl (g2_) ?_; (with_reducible refine (spec_FallsWith.calls k _ _ t856 _ _ t859 _ _ t862 t869 _ ?side1 ?side2 ?side3 ?side4 ?side5 ?side6 A5.out).mono ?_); (case side1 => repeat (first | exact (Kd.R_reads' HO858.out).2.2 | (with_reducible refine Kd.C_alloc ?_ _) | (with_reducible refine Kd.C_drewN ?_ _) | (with_reducible refine Kd.C_drew ?_))); (case side2 => exact (Kd.R_reads' HO858.out).2.1); (case side3 => repeat (first | exact (Kd.V_reads' HO861.out).2.2 | (with_reducible refine Kd.C_alloc ?_ _) | (with_reducible refine Kd.C_drewN ?_ _) | (with_reducible refine Kd.C_drew ?_))); (case side4 => exact (Kd.V_reads' HO861.out).2.1); (case side5 => repeat (first | exact (Kd.R_reads' HO864.out).2.2 | (with_reducible refine Kd.C_alloc ?_ _) | (with_reducible refine Kd.C_drewN ?_ _) | (with_reducible refine Kd.C_drew ?_))); (case side6 => exact (Kd.R_reads' HO864.out).2.1); rintro e w59 ⟨v870, rfl, ho0, hb⟩; refine ⟨_, rfl, ?_⟩; replace HO861 := Aside0.mk (Kd.V_elder' (uf5_ HO861) (Kd.R_base ho0) hb); replace HO864 := Aside0.mk (Kd.R_below (uf1_ HO864) hb); have HO871 := Aside0.mk (Kd.R_lower (Kd.R_new' (Kd.R_new' ho0 (Kd.R_lt (uf1_ HO858))) (Kd.R_lt (uf1_ HO868))) (below_size (laws_FnFallsWith.calls_q0))); replace HO858 := Aside0.mk (Kd.R_elder' (uf1_ HO858) (Kd.R_base ho0) hb); replace HO868 := Aside0.mk (Kd.R_elder' (uf1_ HO868) (Kd.R_base ho0) hb); replace BK865 := Aside0.mk (blk_below (g := gb865) (o := .cells #[.slice Ao53 t856.length co53, .slice Ao55 t859.length co55] 26 (0, 0)) (uf0_ BK865) hb); replace HB := Aside0.mk (below_step (laws_FnFallsWith.calls_q0) hb); (try clear hb); (try clear hk hi); (try clear ho0); obtain ⟨Ao60, co60, eo60⟩ := Kd.R_slice HO868.out; subst eo60; obtain ⟨Ao61, co61, eo61⟩ := Kd.R_slice HO871.out; subst eo61) | ((with_reducible refine gate_callee (f := 40) rfl ?_); refine goesL_ (some 23) rfl rfl Try.func40 k_ rfl #[.slice Ao60 t866.length co60, .slice Ao61 t869.length co61] rfl (g2_) ?_; (with_reducible refine (laws_sameInts.calls k _ _ t866 _ _ t869 false _ ?side1 ?side2 ?side3 ?side4 A6.out).mono ?_); (case side1 => repeat (first | exact (Kd.R_reads' HO868.out).2.2 | (with_reducible refine Kd.C_alloc ?_ _) | (with_reducible refine Kd.C_drewN ?_ _) | (with_reducible refine Kd.C_drew ?_))); (case side2 => exact (Kd.R_reads' HO868.out).2.1); (case side3 => repeat (first | exact (Kd.R_reads' HO871.out).2.2 | (with_reducible refine Kd.C_alloc ?_ _) | (with_reducible refine Kd.C_drewN ?_ _) | (with_reducible refine Kd.C_drew ?_))); (case side4 => exact (Kd.R_reads' HO871.out).2.1); rintro e w' ⟨rfl, ⟨nd, rfl⟩⟩; refine ⟨_, rfl, ?_⟩))
   go_ret
   exact ⟨g4_, laws_FnFallsWith.calls_q0⟩
def laws_FnFallsWith.Pure : Prop := ∀ (l0 : List Int), l0.length ≤ maxLen → l0.length * 1 ≤ 140737488351232 → (∀ x ∈ l0, (Lit.int .u8 x).wf = true) → ∃ k, laws_FnFallsWith.f k l0 = some true
theorem laws_FnFallsWith.walk (P : laws_FnFallsWith.Pure) (a0 : Option Addr) (len0 cap0 : Nat) (z0 : List Int) (w : World) (w0 : (a0 = none ∧ len0 = 0 ∧ cap0 = 0 ∧ z0 = []) ∨ ∃ x, a0 = some x ∧ len0 ≤ cap0 ∧ cap0 ≤ maxLen ∧ z0.length = cap0 ∧ (∀ i, i < z0.length → w.cell? (x.add i) = some (.int .u8 (z0.getD i 0))) ∧ ∀ n ∈ z0, (Lit.int .u8 n).wf = true) (y0 : len0 * 1 ≤ 140737488351232) :
  Calls Try.prog 8 #[.slice a0 len0 cap0] w fun e w' => e = .returned (.bool true) ∧ Below w.heap.size w w' := by
 obtain ⟨l0, rfl, hr0, hm0, hw0, hc0⟩ := ReadsInt.ofRowC w0
 obtain ⟨k, h⟩ := P l0 hm0 y0 hw0
 refine (laws_FnFallsWith.calls k _ _ l0 true w (Kd.C_of_reads (d := (0 : Int)) (h1 := fun _ => rfl) hr0) hc0 h).mono ?_
 rintro e w' ⟨rfl, hd⟩
 exact ⟨rfl, hd⟩
end Go.Proofs.Ytigpmfoagkhaeaa.PU

namespace Go.Proofs.Ytigpmfoagkhaeaa.Qh
open Go.RowKit Go.Proofs.YtigpmfoagkhaeaaW.PrintWords Go.Proofs.YtigpmfoagkhaeaaW.PrintMore
set_option linter.unusedVariables false
set_option linter.unusedSimpArgs false
theorem w64 {n : Int} (h1 : -9223372036854775808 ≤ n) (h2 : n ≤ 9223372036854775807) : wrap64 n = n := by unfold wrap64; omega
theorem wsucc {i n : Nat} (h : i < n) (hn : n ≤ 4611686018427387904) : wrap64 ((i : Int) + 1) = ((i + 1 : Nat) : Int) := by unfold wrap64; omega
section
variable {α β : Type} {r : α}
theorem evPos {c : Prop} [Decidable c] {g f : Nat → Option α} (h : c) (k : Ev g r) : Ev (fun n => if c then g n else f n) r := by
  simp only [if_pos h]; exact k
theorem evNeg {c : Prop} [Decidable c] {g f : Nat → Option α} (h : ¬ c) (k : Ev f r) : Ev (fun n => if c then g n else f n) r := by
  simp only [if_neg h]; exact k
theorem evBind0 {g : Option β} {f : Nat → β → Option α} {a : β} (h : g = some a) (k : Ev (fun n => f n a) r) : Ev (fun n => g.bind (f n)) r := by
  subst h; exact k
theorem evEq {g : Nat → Option α} {q : α} (h : Ev g q) (e : q = r) : Ev g r := e ▸ h
end
theorem rd_get (xs : List Int) (i : Nat) (h : i < xs.length) : rd xs (i : Int) = xs[i] := by
  simp [rd, List.getD_eq_getElem?_getD, List.getElem?_eq_getElem h]
theorem getD_set {α : Type} (xs : List α) (d v : α) (i j : Nat) (h : i < xs.length) : (xs.set i v).getD j d = if i = j then v else xs.getD j d := by
  simp only [List.getD_eq_getElem?_getD, List.getElem?_set]
  by_cases e : i = j
  · subst e; simp [h]
  · simp [e]
theorem getD_mem {α : Type} (d : α) (xs : List α) (i : Nat) (h : i < xs.length) : xs.getD i d ∈ xs := by
  simp [List.getD_eq_getElem?_getD, List.getElem?_eq_getElem h]
def EvB (g : Nat → Option Bool) (p : Prop) : Prop := ∃ b, (b = true ↔ p) ∧ Ev g b
section
variable {g f : Nat → Option Bool} {p q : Prop}
theorem EvB.congr (h : EvB g p) (e : p ↔ q) : EvB g q := by obtain ⟨b, h1, h2⟩ := h; exact ⟨b, h1.trans e, h2⟩
theorem EvB.tt (h : p) : EvB (fun _ => some true) p := ⟨true, by simp [h], Ev.now _⟩
theorem EvB.ff (h : ¬ p) : EvB (fun _ => some false) p := ⟨false, by simp [h], Ev.now _⟩
theorem EvB.pos {c : Prop} [Decidable c] (h : c) (k : EvB g p) : EvB (fun n => if c then g n else f n) p := by obtain ⟨b, h1, h2⟩ := k; exact ⟨b, h1, evPos h h2⟩
theorem EvB.neg {c : Prop} [Decidable c] (h : ¬ c) (k : EvB f p) : EvB (fun n => if c then g n else f n) p := by obtain ⟨b, h1, h2⟩ := k; exact ⟨b, h1, evNeg h h2⟩
theorem EvB.step {g f : Nat → Option Bool} (h : ∀ k, g (k + 1) = f k) (k : EvB f p) : EvB g p := by obtain ⟨b, h1, h2⟩ := k; exact ⟨b, h1, Ev.step h h2⟩
theorem EvB.bind {β : Type} {g : Nat → Option β} {f : Nat → β → Option Bool} {a : β} (h : Ev g a) (k : EvB (fun n => f n a) p) : EvB (fun n => (g n).bind (f n)) p := by obtain ⟨b, h1, h2⟩ := k; exact ⟨b, h1, Ev.bind h h2⟩
theorem EvB.bind0 {β : Type} {g : Option β} {f : Nat → β → Option Bool} {a : β} (h : g = some a) (k : EvB (fun n => f n a) p) : EvB (fun n => g.bind (f n)) p := by obtain ⟨b, h1, h2⟩ := k; exact ⟨b, h1, evBind0 h h2⟩
theorem EvB.yes (h : EvB g p) (hp : p) : Ev g true := by obtain ⟨b, h1, h2⟩ := h; rw [h1.2 hp] at h2; exact h2
theorem EvB.no (h : EvB g p) (hp : ¬ p) : Ev g false := by
  obtain ⟨b, h1, h2⟩ := h
  have : b = false := by cases b with
    | true => exact absurd (h1.1 rfl) hp
    | false => rfl
  rw [this] at h2; exact h2
end
end Go.Proofs.Ytigpmfoagkhaeaa.Qh

namespace Go.Proofs.Ytigpmfoagkhaeaa.Dr
open Go.RowKit Go.Proofs.Ytigpmfoagkhaeaa.PU Go.Proofs.Ytigpmfoagkhaeaa.Qh Go.Proofs.YtigpmfoagkhaeaaW.PrintWords Go.Proofs.YtigpmfoagkhaeaaW.PrintMore
set_option linter.unusedVariables false
set_option linter.unusedSimpArgs false
theorem xor_nonneg (a b : Int) (ha : 0 ≤ a) (ha2 : a < 4611686018427387904) (hb : 0 ≤ b) (hb2 : b < 4611686018427387904) : 0 ≤ Go.bits .xor .i64 a b := by
  obtain ⟨m, rfl⟩ := Int.eq_ofNat_of_zero_le ha
  obtain ⟨n, rfl⟩ := Int.eq_ofNat_of_zero_le hb
  have hm : m < 2 ^ 62 := by omega
  have hn : n < 2 ^ 62 := by omega
  have hx : m ^^^ n < 2 ^ 62 := Nat.xor_lt_two_pow hm hn
  have e1 : m % 2 ^ 64 = m := Nat.mod_eq_of_lt (by omega)
  have e2 : n % 2 ^ 64 = n := Nat.mod_eq_of_lt (by omega)
  have : Go.bits .xor .i64 (m : Int) (n : Int) = ((m ^^^ n : Nat) : Int) := by
    simp only [Go.bits, BitVec.ofInt_natCast, BitVec.toNat_xor, BitVec.toNat_ofNat]
    show IntKind.i64.wrap (((m % 2 ^ 64) ^^^ (n % 2 ^ 64) : Nat) : Int) = _
    rw [e1, e2, IntKind.wrap_i64]
    omega
  rw [this]
  omega
def Bytes (b : List Int) : Prop := b.length ≤ 2000 ∧ ∀ x ∈ b, 0 ≤ x ∧ x ≤ 255
theorem rd_byte {b : List Int} (h : Bytes b) (i : Int) : 0 ≤ rd b i ∧ rd b i ≤ 255 := by
  unfold rd
  by_cases hi : i.toNat < b.length
  · exact h.2 _ (getD_mem 0 b _ hi)
  · simp [List.getD_eq_getElem?_getD, List.getElem?_eq_none (by omega : b.length ≤ i.toNat)]
theorem pick {b : List Int} (hb : Bytes b) (p n : Int) (h0 : 0 ≤ p) (h1 : p ≤ 1000000000) :
    ∃ v, 0 ≤ v ∧ (1 ≤ n → v < n) ∧ (n < 1 → v = 0) ∧ Ev (fun k => spec_l20Rd_pick.f k b p n) (v, p + 1) := by
  have hp : wrap64 (p + 1) = p + 1 := w64 (by omega) (by omega)
  have hp1 : wrap64 (p + 1 - 1) = p := by rw [w64 (by omega) (by omega)]; omega
  unfold spec_l20Rd_pick.f
  rw [hp]
  by_cases hn : n < 1
  · refine ⟨0, by omega, by omega, fun _ => rfl, evPos hn ?_⟩
    refine Ev.step (fun k => by rw [spec_l20Rd_pick.j0]) ?_
    exact evPos rfl (Ev.now _)
  by_cases hz : b.length = 0
  · refine ⟨0, by omega, by omega, fun h => absurd h hn, evNeg hn ?_⟩
    refine Ev.step (fun k => by rw [spec_l20Rd_pick.j0]) ?_
    exact evPos (by simp [hz]) (Ev.now _)
  have hlen : 0 < (b.length : Int) := by omega
  by_cases hlt : p < (b.length : Int)
  · have hr := rd_byte hb p
    refine ⟨Int.tmod (rd b p) n, Int.tmod_nonneg _ hr.1, fun _ => Int.tmod_lt_of_pos _ (by omega), fun h => absurd h hn, evNeg hn ?_⟩
    refine Ev.step (fun k => by rw [spec_l20Rd_pick.j0]) ?_
    rw [hp1]
    refine evNeg (fun h => by have := beq_iff_eq.mp h; omega) (evPos hlt (evPos h0 (evNeg (by omega) ?_)))
    rw [w64 (by omega) (by omega)]
    exact Ev.now _
  · have hp7 : wrap64 (p * 7) = p * 7 := w64 (by omega) (by omega)
    have hp73 : wrap64 (p * 7 + 3) = p * 7 + 3 := w64 (by omega) (by omega)
    have hp29 : wrap64 (p * 29) = p * 29 := w64 (by omega) (by omega)
    have i1 := Int.tmod_nonneg (b.length : Int) h0
    have i2 := Int.tmod_lt_of_pos p hlen
    have j1 := Int.tmod_nonneg (b.length : Int) (show 0 ≤ p * 7 + 3 by omega)
    have j2 := Int.tmod_lt_of_pos (p * 7 + 3) hlen
    have d1 : 0 ≤ Int.tdiv p (b.length : Int) := Int.tdiv_nonneg h0 (by omega)
    have d2 : Int.tdiv p (b.length : Int) ≤ p := Int.tdiv_le_self _ h0
    have r1 := rd_byte hb (Int.tmod p (b.length : Int))
    have r2 := rd_byte hb (Int.tmod (p * 7 + 3) (b.length : Int))
    have key : ∃ x, 0 ≤ x ∧ x < 4611686018427387904 ∧ wrap64 ((wrap64 ((wrap64 ((wrap64 ((wrap64 (rd b (Int.tmod p (b.length : Int)))) * 131)) + (wrap64 ((wrap64 (rd b (Int.tmod (p * 7 + 3) (b.length : Int)))) * 1117)))) + (p * 29))) + (wrap64 ((wrap64 (Int.tdiv p (b.length : Int))) * 53))) = x := by
      generalize rd b (Int.tmod p (b.length : Int)) = u at *
      generalize rd b (Int.tmod (p * 7 + 3) (b.length : Int)) = v at *
      generalize Int.tdiv p (b.length : Int) = d at *
      have e1 : wrap64 u = u := w64 (by omega) (by omega)
      have e2 : wrap64 v = v := w64 (by omega) (by omega)
      have e3 : wrap64 d = d := w64 (by omega) (by omega)
      have e4 : wrap64 (u * 131) = u * 131 := w64 (by omega) (by omega)
      have e5 : wrap64 (v * 1117) = v * 1117 := w64 (by omega) (by omega)
      have e6 : wrap64 (d * 53) = d * 53 := w64 (by omega) (by omega)
      have e7 : wrap64 (u * 131 + v * 1117) = u * 131 + v * 1117 := w64 (by omega) (by omega)
      have e8 : wrap64 (u * 131 + v * 1117 + p * 29) = u * 131 + v * 1117 + p * 29 := w64 (by omega) (by omega)
      refine ⟨u * 131 + v * 1117 + p * 29 + d * 53, by omega, by omega, ?_⟩
      rw [e1, e2, e3, e4, e5, e6, e7, e8]
      exact w64 (by omega) (by omega)
    obtain ⟨x, hx0, hx1, hx⟩ := key
    have t0 : 0 ≤ Int.tdiv x 64 := Int.tdiv_nonneg hx0 (by omega)
    have t1 : Int.tdiv x 64 ≤ x := Int.tdiv_le_self _ hx0
    have ht : wrap64 (Int.tdiv x 64) = Int.tdiv x 64 := w64 (by omega) (by omega)
    have hq := xor_nonneg x (Int.tdiv x 64) hx0 hx1 t0 (by omega)
    refine ⟨Int.tmod (Go.bits .xor .i64 x (Int.tdiv x 64)) n, Int.tmod_nonneg _ hq, fun _ => Int.tmod_lt_of_pos _ (by omega), fun h => absurd h hn, evNeg hn ?_⟩
    refine Ev.step (fun k => by rw [spec_l20Rd_pick.j0]) ?_
    rw [hp1, hp7, hp73, hp29, hx, ht]
    refine evNeg (fun h => by have := beq_iff_eq.mp h; omega) (evNeg hlt (evNeg (by omega) (evPos i1 (evPos i2 (evPos j1 (evPos j2 (evNeg (by omega) (Ev.now _))))))))
theorem open_ (l : List Int) (hu : ∀ x ∈ l, (Lit.int .u8 x).wf = true) : ∃ b, Bytes b ∧ spec_l20Open.f l = some (b, 0) := by
  have hb : ∀ x ∈ l, 0 ≤ x ∧ x ≤ 255 := fun x hx => by
    have := hu x hx
    simp [Lit.wf, IntKind.min, IntKind.max, IntKind.bits, IntKind.signed] at this
    omega
  unfold spec_l20Open.f
  by_cases h : (l.length : Int) > 2000
  · exact ⟨l.take 2000, ⟨by rw [List.length_take]; omega, fun x hx => hb x (List.mem_of_mem_take hx)⟩, by rw [if_pos h, if_pos (by omega)]⟩
  · exact ⟨l, ⟨by omega, hb⟩, by rw [if_neg h]⟩
end Go.Proofs.Ytigpmfoagkhaeaa.Dr

namespace Go.Proofs.Ytigpmfoagkhaeaa.Db
open Go.RowKit Go.Proofs.Ytigpmfoagkhaeaa.PU Go.Proofs.Ytigpmfoagkhaeaa.Qh Go.Proofs.Ytigpmfoagkhaeaa.Dr Go.Proofs.YtigpmfoagkhaeaaW.PrintWords Go.Proofs.YtigpmfoagkhaeaaW.PrintMore
set_option linter.unusedVariables false
set_option linter.unusedSimpArgs false
def EvX {α : Type} (g : Nat → Option α) (P : α → Prop) : Prop := ∃ r, P r ∧ Ev g r
section
variable {α β : Type} {P Q : α → Prop} {g f : Nat → Option α}
theorem EvX.imp (h : EvX g P) (k : ∀ r, P r → Q r) : EvX g Q := by obtain ⟨r, h1, h2⟩ := h; exact ⟨r, k r h1, h2⟩
theorem EvX.now {r : α} (h : P r) : EvX (fun _ => some r) P := ⟨r, h, Ev.now _⟩
theorem EvX.step {g f : Nat → Option α} (h : ∀ k, g (k + 1) = f k) (k : EvX f P) : EvX g P := by obtain ⟨r, h1, h2⟩ := k; exact ⟨r, h1, Ev.step h h2⟩
theorem EvX.pos {c : Prop} [Decidable c] (h : c) (k : EvX g P) : EvX (fun n => if c then g n else f n) P := by obtain ⟨r, h1, h2⟩ := k; exact ⟨r, h1, evPos h h2⟩
theorem EvX.neg {c : Prop} [Decidable c] (h : ¬ c) (k : EvX f P) : EvX (fun n => if c then g n else f n) P := by obtain ⟨r, h1, h2⟩ := k; exact ⟨r, h1, evNeg h h2⟩
theorem EvX.bind {g : Nat → Option β} {f : Nat → β → Option α} {a : β} (h : Ev g a) (k : EvX (fun n => f n a) P) : EvX (fun n => (g n).bind (f n)) P := by obtain ⟨r, h1, h2⟩ := k; exact ⟨r, h1, Ev.bind h h2⟩
theorem EvX.bind0 {g : Option β} {f : Nat → β → Option α} {a : β} (h : g = some a) (k : EvX (fun n => f n a) P) : EvX (fun n => g.bind (f n)) P := by obtain ⟨r, h1, h2⟩ := k; exact ⟨r, h1, evBind0 h h2⟩
end
theorem podd {b : List Int} (hb : Bytes b) (p n : Int) (hn : 1 ≤ n) (hn2 : n ≤ 1000) (h0 : 0 ≤ p) (h1 : p ≤ 1000000000) : ∃ v, Ev (fun k => spec_l20Rd_odd.f k b p n) (v, p + 1) := by
  obtain ⟨x, _, _, _, hx⟩ := pick hb p n h0 h1
  unfold spec_l20Rd_odd.f
  exact ⟨_, evPos (by omega) (Ev.bind hx (Ev.now _))⟩
def Sm (r : List Int × List (List Int) × Int) (p m : Int) : Prop := r.1.length ≤ 4 ∧ r.2.1.length ≤ 4 ∧ (∀ i : Nat, (rd_L2 r.2.1 (i : Int)).length ≤ 4) ∧ p ≤ r.2.2 ∧ r.2.2 ≤ p + m
theorem rL2 (xs : List (List Int)) (i : Nat) : rd_L2 xs (i : Int) = xs.getD i [] := rfl
theorem rows_set (ds : List (List Int)) (i : Nat) (v : List Int) (hv : v.length ≤ 4) (h : ∀ j : Nat, (rd_L2 ds (j : Int)).length ≤ 4) (j : Nat) : (rd_L2 (ds.set i v) (j : Int)).length ≤ 4 := by
  rw [rL2]
  by_cases hi : i < ds.length
  · rw [getD_set _ _ _ _ _ hi]
    by_cases e : i = j
    · rw [if_pos e]; exact hv
    · rw [if_neg e]; exact h j
  · rw [List.set_eq_of_length_le (by omega)]; exact h j
theorem rows_all (ds : List (List Int)) (m : Nat) (hm : m ≤ 4) (h : ∀ j : Nat, j < ds.length → (rd_L2 ds (j : Int)).length = m) (j : Nat) : (rd_L2 ds (j : Int)).length ≤ 4 := by
  by_cases hj : j < ds.length
  · rw [h j hj]; exact hm
  · rw [rL2]; simp [List.getD_eq_getElem?_getD, List.getElem?_eq_none (by omega : ds.length ≤ j)]
theorem bk_l1 {b : List Int} (hb : Bytes b) (n : Int) (m : Nat) (hm : m ≤ 4) (kind : Int) (i : Nat) (hi : i < m) (cs : List Int) (ds : List (List Int)) (hds : ds.length = i) (P : List Int × List (List Int) × Int → Prop) (p0 : Int) (hp0 : 0 ≤ p0) (hp1 : p0 ≤ 10000)
    (hR : ∀ (row : List Int) (p : Int), row.length = m → p0 ≤ p → p ≤ p0 + 2 * m → EvX (fun k => spec_l20Book.l0 k n (m : Int) kind ((i + 1 : Nat) : Int) b p cs (ds ++ [row])) P) :
    ∀ (e j : Nat) (row : List Int) (p : Int), m - j = e → j ≤ m → row.length = j → p0 ≤ p → p ≤ p0 + 2 * j →
    EvX (fun k => spec_l20Book.l1 k n (m : Int) kind (i : Int) row (j : Int) b p cs ds) P := by
  have hs : Aside0 (wrap64 ((i : Int) + 1) = ((i + 1 : Nat) : Int)) := ⟨wsucc hi (by omega)⟩
  intro e
  induction e with
  | zero =>
    intro j row p he hj hr h0 h1
    obtain rfl : j = m := by omega
    refine EvX.step (fun k => by rw [spec_l20Book.l1]) ?_
    rw [hs.out]
    exact EvX.neg (by omega) (EvX.pos (by omega) (hR row p hr h0 h1))
  | succ e ih =>
    intro j row p he hj hr h0 h1
    have hlt : j < m := by omega
    have hj1 : Aside0 (wrap64 ((j : Int) + 1) = ((j + 1 : Nat) : Int)) := ⟨wsucc hlt (by omega)⟩
    refine EvX.step (fun k => by rw [spec_l20Book.l1]) ?_
    rw [hj1.out]
    have hc : (j : Int) < (m : Int) := by clear ih hR; omega
    refine EvX.pos hc ?_
    have go : ∀ (v p' : Int), p0 ≤ p' → p' ≤ p0 + 2 * ((j + 1 : Nat) : Int) → EvX (fun k => if row.length < 17592186044416 then spec_l20Book.l1 k n (m : Int) kind (i : Int) (row ++ [v]) ((j + 1 : Nat) : Int) b p' cs ds else none) P := by
      intro v p' h2 h3
      have hl : row.length < 17592186044416 := by clear hj1 hs ih hR; omega
      have q1 : m - (j + 1) = e := by clear hj1 hs ih hR; omega
      have q2 : (row ++ [v]).length = j + 1 := by rw [List.length_append, hr]; rfl
      exact EvX.pos hl (ih (j + 1) (row ++ [v]) p' q1 hlt q2 h2 h3)
    by_cases hij : (i : Int) = (j : Int)
    · exact EvX.pos hij (go 0 p h0 (by omega))
    · refine EvX.neg hij ?_
      obtain ⟨v, _, _, _, hv⟩ := pick hb p 3 (by omega) (by omega)
      refine EvX.bind hv ?_
      by_cases h2 : v > 0
      · refine EvX.pos h2 ?_
        obtain ⟨v2, _, _, _, hv2⟩ := pick hb (p + 1) 10 (by omega) (by omega)
        exact EvX.bind hv2 (go v2 (p + 1 + 1) (by omega) (by omega))
      · exact EvX.neg h2 (go 0 (p + 1) (by omega) (by omega))
theorem bk_l0 {b : List Int} (hb : Bytes b) (n : Int) (hn : 1 ≤ n) (hn2 : n ≤ 1000) (m : Nat) (hm1 : 1 ≤ m) (hm : m ≤ 4) (kind : Int) (hk0 : 0 ≤ kind) (hk1 : kind < 3) : ∀ (e i : Nat) (cs : List Int) (ds : List (List Int)) (p : Int), m - i = e → i ≤ m →
    cs.length = i → ds.length = i → (∀ j : Nat, j < ds.length → (rd_L2 ds (j : Int)).length = m) → 0 ≤ p → p ≤ 100 + 10 * i →
    EvX (fun k => spec_l20Book.l0 k n (m : Int) kind (i : Int) b p cs ds) (fun r => Sm r p (10 * e + 2)) := by
  intro e
  induction e with
  | zero =>
    intro i cs ds p he hi hcs hds hrows h0 h1
    obtain rfl : i = m := by omega
    refine EvX.step (fun k => by rw [spec_l20Book.l0]) ?_
    refine EvX.neg (by omega) ?_
    obtain ⟨v, hv⟩ := podd hb p n hn hn2 h0 (by omega)
    refine EvX.bind hv ?_
    have hall := rows_all ds i hm hrows
    by_cases hvt : v = true
    · refine EvX.pos hvt ?_
      obtain ⟨w, hw0, hw1, _, hw⟩ := pick hb (p + 1) 4 (by omega) (by omega)
      refine EvX.bind hw ?_
      by_cases a : w = 0
      · exact EvX.pos a (EvX.now ⟨by simp, by simp, fun j => by simp [rL2], by show p ≤ p + 1 + 1; omega, by show p + 1 + 1 ≤ _; omega⟩)
      refine EvX.neg a ?_
      by_cases a1 : w = 1
      · refine EvX.pos a1 (EvX.pos (by omega) (EvX.now ⟨by simp; omega, by show ds.length ≤ 4; omega, hall, by show p ≤ p + 1 + 1; omega, by show p + 1 + 1 ≤ _; omega⟩))
      refine EvX.neg a1 ?_
      have r0 := hrows 0 (by omega)
      by_cases a2 : w = 2
      · refine EvX.pos a2 (EvX.pos (by omega) (EvX.pos (by rw [show (0 : Int) = ((0 : Nat) : Int) from rfl, r0]; omega) (EvX.now ⟨by show cs.length ≤ 4; omega, by simp; omega, ?_, by show p ≤ p + 1 + 1; omega, by show p + 1 + 1 ≤ _; omega⟩)))
        exact rows_set ds 0 _ (by rw [List.length_set]; exact hall 0) hall
      · have hw1 : Aside0 (wrap64 ((i : Int) - 1) = ((i - 1 : Nat) : Int)) := ⟨by rw [w64 (by omega) (by omega)]; omega⟩
        rw [hw1.out]
        have rl := hrows (i - 1) (by omega)
        refine EvX.neg a2 (EvX.pos (by omega) (EvX.pos (by omega) (EvX.pos (by rw [rl]; omega) (EvX.now ⟨by show cs.length ≤ 4; omega, by simp; omega, ?_, by show p ≤ p + 1 + 1; omega, by show p + 1 + 1 ≤ _; omega⟩))))
        rw [Int.toNat_natCast]
        exact rows_set ds (i - 1) _ (by rw [List.length_drop, rl]; omega) hall
    · exact EvX.neg hvt (EvX.now ⟨by show cs.length ≤ 4; omega, by show ds.length ≤ 4; omega, hall, by show p ≤ p + 1; omega, by show p + 1 ≤ _; omega⟩)
  | succ e ih =>
    intro i cs ds p he hi hcs hds hrows h0 h1
    have hlt : i < m := by omega
    refine EvX.step (fun k => by rw [spec_l20Book.l0]) ?_
    refine EvX.pos (by omega) ?_
    obtain ⟨v, _, _, _, hv⟩ := pick hb p 4 h0 (by omega)
    refine EvX.bind hv ?_
    obtain ⟨w, _, _, _, hw⟩ := pick hb (p + 1) 21 (by omega) (by omega)
    refine EvX.bind hw (EvX.bind0 rfl (EvX.pos hk0 (EvX.pos (by simp; omega) (EvX.pos (by omega) ?_))))
    refine bk_l1 hb n m hm kind i hlt _ ds hds _ (p + 1 + 1) (by omega) (by omega) ?_ _ 0 [] (p + 1 + 1) rfl (by omega) rfl (by omega) (by omega)
    intro row q hr hq0 hq1
    refine (ih (i + 1) _ (ds ++ [row]) q (by omega) (by omega) (by simp; omega) (by simp; omega) ?_ (by omega) (by omega)).imp ?_
    · intro j hj
      rw [rL2, List.getD_eq_getElem?_getD, List.getElem?_append]
      by_cases hjl : j < ds.length
      · rw [if_pos hjl]
        have := hrows j hjl
        rw [rL2, List.getD_eq_getElem?_getD] at this
        exact this
      · rw [if_neg hjl]
        have : j = ds.length := by simp at hj; omega
        subst this
        simpa using hr
    · intro r hr
      exact ⟨hr.1, hr.2.1, hr.2.2.1, by have := hr.2.2.2.1; omega, by have := hr.2.2.2.2; omega⟩
theorem book {b : List Int} (hb : Bytes b) (n : Int) (hn : 1 ≤ n) (hn2 : n ≤ 1000) (p : Int) (h0 : 0 ≤ p) (h1 : p ≤ 50) : EvX (fun k => spec_l20Book.f k b p n) (fun r => Sm r p 50) := by
  unfold spec_l20Book.f
  obtain ⟨v, hv0, hv1, _, hv⟩ := pick hb p 6 h0 (by omega)
  obtain ⟨w, hw0, hw1, _, hw⟩ := pick hb (p + 1) 3 (by omega) (by omega)
  have hv6 := hv1 (by omega)
  have hw3 := hw1 (by omega)
  refine EvX.bind0 rfl (EvX.bind hv (EvX.pos hv0 (EvX.pos (by simp; omega) (EvX.bind hw ?_))))
  obtain ⟨m, hm1, hm4, hm⟩ : ∃ m : Nat, 1 ≤ m ∧ m ≤ 4 ∧ rd ([1, 2, 3, 3, 4, 4] : List Int) v = (m : Int) := by
    rcases (by omega : v = 0 ∨ v = 1 ∨ v = 2 ∨ v = 3 ∨ v = 4 ∨ v = 5) with h | h | h | h | h | h <;> subst h
    · exact ⟨1, by omega, by omega, rfl⟩
    · exact ⟨2, by omega, by omega, rfl⟩
    · exact ⟨3, by omega, by omega, rfl⟩
    · exact ⟨3, by omega, by omega, rfl⟩
    · exact ⟨4, by omega, by omega, rfl⟩
    · exact ⟨4, by omega, by omega, rfl⟩
  rw [hm]
  refine (bk_l0 hb n hn hn2 m hm1 hm4 w hw0 hw3 m 0 [] [] (p + 1 + 1) (by omega) (by omega) rfl rfl (fun j hj => by simp at hj) (by omega) (by omega)).imp ?_
  intro r hr
  exact ⟨hr.1, hr.2.1, hr.2.2.1, by have := hr.2.2.2.1; omega, by have := hr.2.2.2.2; omega⟩
end Go.Proofs.Ytigpmfoagkhaeaa.Db

namespace Go.Proofs.Ytigpmfoagkhaeaa.Bk
open Go.RowKit Go.Proofs.Ytigpmfoagkhaeaa.PU Go.Proofs.Ytigpmfoagkhaeaa.Qh Go.Proofs.YtigpmfoagkhaeaaW.PrintWords Go.Proofs.YtigpmfoagkhaeaaW.PrintMore
set_option linter.unusedVariables false
set_option linter.unusedSimpArgs false
def RowP (c : List Int) (d : List (List Int)) (i : Nat) : Prop :=
  0 ≤ rd c (i : Int) ∧ rd c (i : Int) ≤ 20 ∧ (rd_L2 d (i : Int)).length = c.length ∧ rd (rd_L2 d (i : Int)) (i : Int) = 0 ∧ ∀ j : Nat, j < c.length → 0 ≤ rd (rd_L2 d (i : Int)) (j : Int) ∧ rd (rd_L2 d (i : Int)) (j : Int) ≤ 9
def BookP (c : List Int) (d : List (List Int)) : Prop := 1 ≤ c.length ∧ c.length ≤ 4 ∧ d.length = c.length ∧ ∀ i : Nat, i < c.length → RowP c d i
theorem ib_l1 (c : List Int) (d : List (List Int)) (row : List Int) (x3 : Int) (i : Nat) (hrow : row.length ≤ 4) (hi : i < d.length) (hd : d.length ≤ 4) {R : Prop}
    (hR : EvB (fun k => impl_isBook.l0 k x3 d (d.length : Int) ((i + 1 : Nat) : Int) c d) R) : ∀ (e j : Nat), row.length - j = e → j ≤ row.length →
    EvB (fun k => impl_isBook.l1 k x3 d (d.length : Int) (i : Int) row (row.length : Int) (j : Int) c d) ((∀ j' : Nat, j ≤ j' → j' < row.length → 0 ≤ rd row (j' : Int) ∧ rd row (j' : Int) ≤ 9) ∧ R) := by
  have hs : wrap64 ((i : Int) + 1) = ((i + 1 : Nat) : Int) := wsucc hi (by omega)
  intro e
  induction e with
  | zero =>
    intro j he hj
    refine EvB.step (fun k => by rw [impl_isBook.l1]) ?_
    rw [hs]
    exact EvB.neg (by omega) (hR.congr ⟨fun h => ⟨fun j' h1 h2 => by omega, h⟩, fun h => h.2⟩)
  | succ e ih =>
    intro j he hj
    have hlt : j < row.length := by omega
    have hj1 : wrap64 ((j : Int) + 1) = ((j + 1 : Nat) : Int) := wsucc hlt (by omega)
    refine EvB.step (fun k => by rw [impl_isBook.l1]) ?_
    refine EvB.pos (by omega) (EvB.pos (by omega) (EvB.pos (by omega) ?_))
    by_cases h1 : rd row (j : Int) < 0
    · exact EvB.pos h1 (EvB.ff (fun h => by have := h.1 j (Nat.le_refl _) hlt; omega))
    · refine EvB.neg h1 ?_
      by_cases h2 : rd row (j : Int) > 9
      · exact EvB.pos h2 (EvB.ff (fun h => by have := h.1 j (Nat.le_refl _) hlt; omega))
      · refine EvB.neg h2 ?_
        rw [hj1]
        refine (ih (j + 1) (by omega) (by omega)).congr ⟨fun h => ⟨fun j' h3 h4 => ?_, h.2⟩, fun h => ⟨fun j' h3 h4 => h.1 j' (by omega) h4, h.2⟩⟩
        by_cases e' : j' = j
        · subst e'; exact ⟨by omega, by omega⟩
        · exact h.1 j' (by omega) h4
theorem ib_l0 (c : List Int) (d : List (List Int)) (h4 : c.length ≤ 4) (hl : d.length = c.length) : ∀ (e i : Nat), c.length - i = e → i ≤ c.length →
    EvB (fun k => impl_isBook.l0 k (c.length : Int) d (d.length : Int) (i : Int) c d) (∀ i' : Nat, i ≤ i' → i' < c.length → RowP c d i') := by
  intro e
  induction e with
  | zero =>
    intro i he hi
    refine EvB.step (fun k => by rw [impl_isBook.l0]) ?_
    exact EvB.neg (by omega) (EvB.tt (fun i' h1 h2 => by omega))
  | succ e ih =>
    intro i he hi
    have hlt : i < c.length := by omega
    refine EvB.step (fun k => by rw [impl_isBook.l0]) ?_
    refine EvB.pos (by omega) (EvB.pos (by omega) (EvB.pos (by omega) (EvB.pos (by omega) ?_)))
    have bad : ∀ (P : Prop), (P → ¬ RowP c d i) → P → EvB (fun k => impl_isBook.j2 k (c.length : Int) (rd_L2 d (i : Int)) d (d.length : Int) (i : Int) true c d) (∀ i' : Nat, i ≤ i' → i' < c.length → RowP c d i') := by
      intro P hP p
      refine EvB.step (fun k => by rw [impl_isBook.j2]) ?_
      exact EvB.pos rfl (EvB.ff (fun h => hP p (h i (Nat.le_refl _) hlt)))
    by_cases h1 : rd c (i : Int) < 0
    · exact EvB.pos h1 (bad _ (fun p h => by have := h.1; omega) h1)
    refine EvB.neg h1 ?_
    by_cases h2 : rd c (i : Int) > 20
    · exact EvB.pos h2 (bad _ (fun p h => by have := h.2.1; omega) h2)
    refine EvB.neg h2 ?_
    by_cases h3 : ((rd_L2 d (i : Int)).length : Int) = (c.length : Int)
    · refine EvB.pos h3 (EvB.pos (by omega) ?_)
      by_cases h5 : rd (rd_L2 d (i : Int)) (i : Int) = 0
      · refine EvB.step (fun k => by rw [impl_isBook.j2]) ?_
        refine EvB.neg (by rw [h5]; decide) ?_
        refine (ib_l1 c d (rd_L2 d (i : Int)) (c.length : Int) i (by omega) (by omega) (by omega) (ih (i + 1) (by omega) (by omega)) _ 0 rfl (by omega)).congr ?_
        constructor
        · intro h i' h6 h7
          by_cases e' : i' = i
          · subst e'; exact ⟨by omega, by omega, by omega, h5, fun j hj => h.1 j (by omega) (by omega)⟩
          · exact h.2 i' (by omega) h7
        · intro h
          have hr := h i (Nat.le_refl _) hlt
          exact ⟨fun j' _ h7 => hr.2.2.2.2 j' (by omega), fun i' h6 h7 => h i' (by omega) h7⟩
      · have hb : (rd (rd_L2 d (i : Int)) (i : Int) != 0) = true := bne_iff_ne.mpr h5
        rw [hb]
        exact bad _ (fun p h => p h.2.2.2.1) h5
    · exact EvB.neg h3 (bad _ (fun p h => p (by rw [h.2.2.1])) h3)
theorem isBook (c : List Int) (d : List (List Int)) : EvB (fun k => impl_isBook.f k c d) (BookP c d) := by
  unfold impl_isBook.f
  by_cases h1 : (c.length : Int) < 1
  · refine EvB.pos h1 (EvB.step (fun k => by rw [impl_isBook.j0]) ?_)
    exact EvB.pos rfl (EvB.ff (fun h => by have := h.1; omega))
  refine EvB.neg h1 ?_
  by_cases h2 : (c.length : Int) > 4
  · refine EvB.pos h2 (EvB.step (fun k => by rw [impl_isBook.j0]) ?_)
    exact EvB.pos rfl (EvB.ff (fun h => by have := h.2.1; omega))
  refine EvB.neg h2 (EvB.step (fun k => by rw [impl_isBook.j0]) ?_)
  by_cases h3 : d.length = c.length
  · refine EvB.neg (by rw [h3]; simp) ?_
    refine (ib_l0 c d (by omega) h3 _ 0 rfl (by omega)).congr ⟨fun h => ⟨by omega, by omega, h3, fun i hi => h i (by omega) hi⟩, fun h i _ hi => h.2.2.2 i hi⟩
  · exact EvB.pos (bne_iff_ne.mpr (by omega)) (EvB.ff (fun h => h3 h.2.2.1))
theorem sIn (a lo hi : Int) : spec_l1In.f a lo hi = some (decide (lo ≤ a ∧ a ≤ hi)) := by
  unfold spec_l1In.f
  by_cases h : a ≥ lo
  · rw [if_pos h]; simp [h]
  · rw [if_neg h]; congr 1; symm; exact decide_eq_false (fun h' => h h'.1)
theorem sb_l1 (c : List Int) (d : List (List Int)) (i : Nat) (hrow : (rd_L2 d (i : Int)).length ≤ 4) (hi : i < d.length) (hd : d.length ≤ 4) {R : Prop}
    (hR : EvB (fun k => spec_BookOk.l0 k ((i + 1 : Nat) : Int) c d) R) : ∀ (e j : Nat), (rd_L2 d (i : Int)).length - j = e → j ≤ (rd_L2 d (i : Int)).length →
    EvB (fun k => spec_BookOk.l1 k (i : Int) (j : Int) c d) ((∀ j' : Nat, j ≤ j' → j' < (rd_L2 d (i : Int)).length → 0 ≤ rd (rd_L2 d (i : Int)) (j' : Int) ∧ rd (rd_L2 d (i : Int)) (j' : Int) ≤ 9) ∧ R) := by
  have hs : wrap64 ((i : Int) + 1) = ((i + 1 : Nat) : Int) := wsucc hi (by omega)
  intro e
  induction e with
  | zero =>
    intro j he hj
    refine EvB.step (fun k => by rw [spec_BookOk.l1]) ?_
    rw [hs]
    exact EvB.pos (by omega) (EvB.pos (by omega) (EvB.neg (by omega) (hR.congr ⟨fun h => ⟨fun j' h1 h2 => by omega, h⟩, fun h => h.2⟩)))
  | succ e ih =>
    intro j he hj
    have hlt : j < (rd_L2 d (i : Int)).length := by omega
    have hj1 : wrap64 ((j : Int) + 1) = ((j + 1 : Nat) : Int) := wsucc hlt (by omega)
    refine EvB.step (fun k => by rw [spec_BookOk.l1]) ?_
    refine EvB.pos (by omega) (EvB.pos (by omega) (EvB.pos (by omega) (EvB.pos (by omega) (EvB.bind0 (sIn _ _ _) ?_))))
    by_cases h1 : 0 ≤ rd (rd_L2 d (i : Int)) (j : Int) ∧ rd (rd_L2 d (i : Int)) (j : Int) ≤ 9
    · refine EvB.pos (decide_eq_true h1) ?_
      rw [hj1]
      refine (ih (j + 1) (by omega) (by omega)).congr ⟨fun h => ⟨fun j' h3 h4 => ?_, h.2⟩, fun h => ⟨fun j' h3 h4 => h.1 j' (by omega) h4, h.2⟩⟩
      by_cases e' : j' = j
      · subst e'; exact h1
      · exact h.1 j' (by omega) h4
    · exact EvB.neg (by simpa using h1) (EvB.ff (fun h => h1 (h.1 j (Nat.le_refl _) hlt)))
theorem sb_l0 (c : List Int) (d : List (List Int)) (h4 : c.length ≤ 4) (hl : d.length = c.length) : ∀ (e i : Nat), c.length - i = e → i ≤ c.length →
    EvB (fun k => spec_BookOk.l0 k (i : Int) c d) (∀ i' : Nat, i ≤ i' → i' < c.length → RowP c d i') := by
  intro e
  induction e with
  | zero =>
    intro i he hi
    refine EvB.step (fun k => by rw [spec_BookOk.l0]) ?_
    exact EvB.neg (by omega) (EvB.tt (fun i' h1 h2 => by omega))
  | succ e ih =>
    intro i he hi
    have hlt : i < c.length := by omega
    refine EvB.step (fun k => by rw [spec_BookOk.l0]) ?_
    refine EvB.pos (by omega) (EvB.pos (by omega) (EvB.bind0 (sIn _ _ _) ?_))
    have bad : ∀ (P : Prop), (P → ¬ RowP c d i) → P → EvB (fun k => spec_BookOk.j2 k (i : Int) true c d) (∀ i' : Nat, i ≤ i' → i' < c.length → RowP c d i') := by
      intro P hP p
      refine EvB.step (fun k => by rw [spec_BookOk.j2]) ?_
      exact EvB.pos rfl (EvB.ff (fun h => hP p (h i (Nat.le_refl _) hlt)))
    by_cases h1 : 0 ≤ rd c (i : Int) ∧ rd c (i : Int) ≤ 20
    · refine EvB.pos (decide_eq_true h1) (EvB.pos (by omega) ?_)
      by_cases h3 : ((rd_L2 d (i : Int)).length : Int) = (c.length : Int)
      · refine EvB.pos h3 (EvB.pos (by omega) ?_)
        by_cases h5 : rd (rd_L2 d (i : Int)) (i : Int) = 0
        · refine EvB.step (fun k => by rw [spec_BookOk.j2]) ?_
          refine EvB.neg (by rw [h5]; decide) ?_
          refine (sb_l1 c d i (by omega) (by omega) (by omega) (ih (i + 1) (by omega) (by omega)) _ 0 rfl (by omega)).congr ?_
          constructor
          · intro h i' h6 h7
            by_cases e' : i' = i
            · subst e'; exact ⟨h1.1, h1.2, by omega, h5, fun j hj => h.1 j (by omega) (by omega)⟩
            · exact h.2 i' (by omega) h7
          · intro h
            have hr := h i (Nat.le_refl _) hlt
            exact ⟨fun j' _ h7 => hr.2.2.2.2 j' (by omega), fun i' h6 h7 => h i' (by omega) h7⟩
        · have hb : (rd (rd_L2 d (i : Int)) (i : Int) != 0) = true := bne_iff_ne.mpr h5
          rw [hb]
          exact bad _ (fun p h => p h.2.2.2.1) h5
      · exact EvB.neg h3 (bad _ (fun p h => p (by rw [h.2.2.1])) h3)
    · exact EvB.neg (by simpa using h1) (bad _ (fun p h => p ⟨h.1, h.2.1⟩) h1)
theorem bookOk (c : List Int) (d : List (List Int)) : EvB (fun k => spec_BookOk.f k c d) (BookP c d) := by
  unfold spec_BookOk.f
  refine EvB.bind0 (sIn _ _ _) ?_
  by_cases h1 : 1 ≤ (c.length : Int) ∧ (c.length : Int) ≤ 4
  · refine EvB.pos (decide_eq_true h1) (EvB.step (fun k => by rw [spec_BookOk.j0]) ?_)
    by_cases h3 : d.length = c.length
    · refine EvB.neg (by rw [h3]; simp) ?_
      refine (sb_l0 c d (by omega) h3 _ 0 rfl (by omega)).congr ⟨fun h => ⟨by omega, by omega, h3, fun i hi => h i (by omega) hi⟩, fun h i _ hi => h.2.2.2 i hi⟩
    · exact EvB.pos (bne_iff_ne.mpr (by omega)) (EvB.ff (fun h => h3 h.2.2.1))
  · refine EvB.neg (by simpa using h1) (EvB.step (fun k => by rw [spec_BookOk.j0]) ?_)
    exact EvB.pos rfl (EvB.ff (fun h => h1 ⟨by have := h.1; omega, by have := h.2.1; omega⟩))
end Go.Proofs.Ytigpmfoagkhaeaa.Bk

namespace Go.Proofs.Ytigpmfoagkhaeaa.Ow
open Go.RowKit Go.Proofs.Ytigpmfoagkhaeaa.PU Go.Proofs.Ytigpmfoagkhaeaa.Qh Go.Proofs.Ytigpmfoagkhaeaa.Bk Go.Proofs.YtigpmfoagkhaeaaW.PrintWords Go.Proofs.YtigpmfoagkhaeaaW.PrintMore
set_option linter.unusedVariables false
set_option linter.unusedSimpArgs false
def sm (xs : List Int) : Nat → Int
  | 0 => 0
  | i + 1 => sm xs i + rd xs (i : Int)
def ow (c : List Int) (d : List (List Int)) (i : Nat) : Int := sm (rd_L2 d (i : Int)) c.length
def owes (c : List Int) (d : List (List Int)) : List Int := (List.range c.length).map (ow c d)
theorem owes_len (c : List Int) (d : List (List Int)) : (owes c d).length = c.length := by simp [owes]
theorem rd_owes {c : List Int} {d : List (List Int)} {i : Nat} (hi : i < c.length) : rd (owes c d) (i : Int) = ow c d i := by
  rw [rd_get _ _ (by rw [owes_len]; exact hi)]; simp [owes]
theorem sm_bd {c : List Int} {d : List (List Int)} (h : BookP c d) {i : Nat} (hi : i < c.length) : ∀ j : Nat, j ≤ c.length → 0 ≤ sm (rd_L2 d (i : Int)) j ∧ sm (rd_L2 d (i : Int)) j ≤ 9 * j
  | 0, _ => by simp [sm]
  | j + 1, hj => by
    have := sm_bd h hi j (by omega)
    have := (h.2.2.2 i hi).2.2.2.2 j (by omega)
    simp only [sm]; omega
theorem ow_bd {c : List Int} {d : List (List Int)} (h : BookP c d) {i : Nat} (hi : i < c.length) : 0 ≤ ow c d i ∧ ow c d i ≤ 36 := by
  have := sm_bd h hi c.length (Nat.le_refl _); have := h.2.1; unfold ow; omega
def mid (c : List Int) (d : List (List Int)) (i : Nat) (s : Int) : List Int := (List.range c.length).map (fun k => if k < i then ow c d k else if k = i then s else 0)
theorem mid_len (c : List Int) (d : List (List Int)) (i : Nat) (s : Int) : (mid c d i s).length = c.length := by simp [mid]
theorem mid_get {c : List Int} {d : List (List Int)} {i : Nat} {s : Int} (hi : i < c.length) : rd (mid c d i s) (i : Int) = s := by
  rw [rd_get _ _ (by rw [mid_len]; exact hi)]; simp [mid]
theorem mid_set {c : List Int} {d : List (List Int)} {i : Nat} {s v : Int} (hi : i < c.length) : (mid c d i s).set ((i : Int)).toNat v = mid c d i v := by
  apply List.ext_getElem (by simp [mid])
  intro k h1 h2
  simp only [mid, List.getElem_set, List.getElem_map, List.getElem_range, Int.toNat_natCast]
  by_cases e : i = k
  · subst e; simp
  · rw [if_neg e]
    by_cases e2 : k < i
    · simp [e2]
    · simp [e2, Ne.symm e, show ¬ k = i from fun h => e h.symm]
theorem mid_next {c : List Int} {d : List (List Int)} (i : Nat) : mid c d i (ow c d i) = mid c d (i + 1) 0 := by
  unfold mid
  apply List.map_congr_left
  intro k _
  by_cases e : k < i
  · simp [e, show k < i + 1 by omega]
  · by_cases e2 : k = i
    · subst e2; simp
    · simp [e, e2, show ¬ k < i + 1 by omega]
theorem mid_start (c : List Int) (d : List (List Int)) : List.replicate c.length (0 : Int) = mid c d 0 0 := by
  apply List.ext_getElem (by simp [mid])
  intro k h1 h2
  simp [mid]
theorem mid_end (c : List Int) (d : List (List Int)) : mid c d c.length 0 = owes c d := by
  unfold mid owes
  apply List.map_congr_left
  intro k hk
  simp [List.mem_range.mp hk]
theorem io_l1 {c : List Int} {d : List (List Int)} (h : BookP c d) {i : Nat} (hi : i < c.length) {r : List Int} (hR : Ev (fun k => impl_owes.l0 k (mid c d (i + 1) 0) d (d.length : Int) ((i + 1 : Nat) : Int)) r) :
    ∀ (e j : Nat), c.length - j = e → j ≤ c.length → Ev (fun k => impl_owes.l1 k (mid c d i (sm (rd_L2 d (i : Int)) j)) (i : Int) d (d.length : Int) (i : Int) (rd_L2 d (i : Int)) ((rd_L2 d (i : Int)).length : Int) (j : Int)) r := by
  have h4 := h.2.1
  have hdl := h.2.2.1
  have hrl := (h.2.2.2 i hi).2.2.1
  have hs : wrap64 ((i : Int) + 1) = ((i + 1 : Nat) : Int) := wsucc hi (by omega)
  intro e
  induction e with
  | zero =>
    intro j he hj
    obtain rfl : j = c.length := by omega
    refine Ev.step (fun k => by rw [impl_owes.l1]) ?_
    rw [hs]
    refine evNeg (by omega) ?_
    have : mid c d i (sm (rd_L2 d (i : Int)) c.length) = mid c d (i + 1) 0 := mid_next i
    rw [this]
    exact hR
  | succ e ih =>
    intro j he hj
    have hlt : j < c.length := by omega
    have hj1 : wrap64 ((j : Int) + 1) = ((j + 1 : Nat) : Int) := wsucc hlt (by omega)
    have hb := sm_bd h hi j (by omega)
    have hx := (h.2.2.2 i hi).2.2.2.2 j hlt
    have hw : wrap64 (sm (rd_L2 d (i : Int)) j + rd (rd_L2 d (i : Int)) (j : Int)) = sm (rd_L2 d (i : Int)) (j + 1) := by rw [w64 (by omega) (by omega)]; rfl
    have hml := mid_len c d i (sm (rd_L2 d (i : Int)) j)
    refine Ev.step (fun k => by rw [impl_owes.l1]) ?_
    refine evPos (by omega) (evPos (by omega) (evPos (by omega) (evPos (by omega) (evPos (by omega) ?_))))
    rw [mid_get hi, hw, hj1, mid_set hi]
    exact ih (j + 1) (by omega) (by omega)
theorem io_l0 {c : List Int} {d : List (List Int)} (h : BookP c d) : ∀ (e i : Nat), c.length - i = e → i ≤ c.length → Ev (fun k => impl_owes.l0 k (mid c d i 0) d (d.length : Int) (i : Int)) (owes c d) := by
  have hdl := h.2.2.1
  intro e
  induction e with
  | zero =>
    intro i he hi
    obtain rfl : i = c.length := by omega
    refine Ev.step (fun k => by rw [impl_owes.l0]) ?_
    exact evNeg (by omega) (evEq (Ev.now _) (mid_end c d))
  | succ e ih =>
    intro i he hi
    refine Ev.step (fun k => by rw [impl_owes.l0]) ?_
    refine evPos (by omega) (evPos (by omega) (evPos (by omega) ?_))
    exact io_l1 h (by omega) (ih (i + 1) (by omega) (by omega)) _ 0 rfl (by omega)
theorem iowes {c : List Int} {d : List (List Int)} (h : BookP c d) : Ev (fun k => impl_owes.f k c d) (owes c d) := by
  have h4 := h.2.1
  unfold impl_owes.f
  refine evPos (by omega) (evPos (by omega) ?_)
  rw [Int.toNat_natCast, mid_start c d]
  exact io_l0 h _ 0 rfl (by omega)
theorem so_l1 {c : List Int} {d : List (List Int)} (h : BookP c d) {i : Nat} (hi : i < c.length) {x : List Int} (hx : x.length ≤ 4) {r : List Int} (hR : Ev (fun k => spec_OwesOf.l0 k (x ++ [ow c d i]) ((i + 1 : Nat) : Int) c d) r) :
    ∀ (e j : Nat), c.length - j = e → j ≤ c.length → Ev (fun k => spec_OwesOf.l1 k x (i : Int) (sm (rd_L2 d (i : Int)) j) (j : Int) c d) r := by
  have h4 := h.2.1
  have hdl := h.2.2.1
  have hrl := (h.2.2.2 i hi).2.2.1
  have hs : wrap64 ((i : Int) + 1) = ((i + 1 : Nat) : Int) := wsucc hi (by omega)
  intro e
  induction e with
  | zero =>
    intro j he hj
    obtain rfl : j = c.length := by omega
    refine Ev.step (fun k => by rw [spec_OwesOf.l1]) ?_
    rw [hs]
    exact evNeg (by omega) (evPos (by omega) hR)
  | succ e ih =>
    intro j he hj
    have hlt : j < c.length := by omega
    have hj1 : wrap64 ((j : Int) + 1) = ((j + 1 : Nat) : Int) := wsucc hlt (by omega)
    have hb := sm_bd h hi j (by omega)
    have hx := (h.2.2.2 i hi).2.2.2.2 j hlt
    have hw : wrap64 (sm (rd_L2 d (i : Int)) j + rd (rd_L2 d (i : Int)) (j : Int)) = sm (rd_L2 d (i : Int)) (j + 1) := by rw [w64 (by omega) (by omega)]; rfl
    refine Ev.step (fun k => by rw [spec_OwesOf.l1]) ?_
    refine evPos (by omega) (evPos (by omega) (evPos (by omega) (evPos (by omega) (evPos (by omega) ?_))))
    rw [hw, hj1]
    exact ih (j + 1) (by omega) (by omega)
theorem so_l0 {c : List Int} {d : List (List Int)} (h : BookP c d) : ∀ (e i : Nat), c.length - i = e → i ≤ c.length → Ev (fun k => spec_OwesOf.l0 k ((List.range i).map (ow c d)) (i : Int) c d) (owes c d) := by
  have h4 := h.2.1
  intro e
  induction e with
  | zero =>
    intro i he hi
    obtain rfl : i = c.length := by omega
    refine Ev.step (fun k => by rw [spec_OwesOf.l0]) ?_
    refine evNeg (by omega) (Ev.step (fun k => by rw [spec_OwesOf.j1]) ?_)
    exact evNeg (by decide) (Ev.now _)
  | succ e ih =>
    intro i he hi
    refine Ev.step (fun k => by rw [spec_OwesOf.l0]) ?_
    refine evPos (by omega) (Ev.bind ((bookOk c d).yes h) (Ev.step (fun k => by rw [spec_OwesOf.j1]) ?_))
    refine evPos rfl ?_
    have hi' := ih (i + 1) (by omega) (by omega)
    rw [List.range_succ, List.map_append] at hi'
    exact so_l1 h (by omega) (by simp; omega) hi' _ 0 rfl (by omega)
theorem sowes {c : List Int} {d : List (List Int)} (h : BookP c d) : Ev (fun k => spec_OwesOf.f k c d) (owes c d) := by
  unfold spec_OwesOf.f
  exact so_l0 h _ 0 rfl (by omega)
theorem sowes_no {c : List Int} {d : List (List Int)} (h : ¬ BookP c d) : Ev (fun k => spec_OwesOf.f k c d) [] := by
  unfold spec_OwesOf.f
  refine Ev.step (fun k => by rw [spec_OwesOf.l0]) ?_
  by_cases h0 : (0 : Int) < (c.length : Int)
  · refine evPos h0 (Ev.bind ((bookOk c d).no h) (Ev.step (fun k => by rw [spec_OwesOf.j1]) ?_))
    exact evNeg (by decide) (Ev.now _)
  · refine evNeg h0 (Ev.step (fun k => by rw [spec_OwesOf.j1]) ?_)
    exact evNeg (by decide) (Ev.now _)
end Go.Proofs.Ytigpmfoagkhaeaa.Ow

namespace Go.Proofs.Ytigpmfoagkhaeaa.Fr
open Go.RowKit Go.Proofs.Ytigpmfoagkhaeaa.PU Go.Proofs.Ytigpmfoagkhaeaa.Qh Go.Proofs.YtigpmfoagkhaeaaW.PrintWords Go.Proofs.YtigpmfoagkhaeaaW.PrintMore
set_option linter.unusedVariables false
set_option linter.unusedSimpArgs false
def FracP (u d : Int) : Prop := -1000000000 ≤ u ∧ u ≤ 1000000000 ∧ 1 ≤ d ∧ d ≤ 1000000000 ∧ Int.gcd u d = 1
instance (u d : Int) : Decidable (FracP u d) := by unfold FracP; infer_instance
theorem gcd_tmod (a b : Int) : Int.gcd b (Int.tmod a b) = Int.gcd a b := by
  unfold Int.gcd
  rw [Int.natAbs_tmod, Nat.gcd_comm b.natAbs, ← Nat.gcd_rec b.natAbs a.natAbs, Nat.gcd_comm]
theorem tmod_lt (a b : Int) (hb : b ≠ 0) : (Int.tmod a b).natAbs < b.natAbs := by
  rw [Int.natAbs_tmod]; exact Nat.mod_lt _ (by omega)
theorem igcd_l : ∀ (n : Nat) (a b : Int), b.natAbs ≤ n → a.natAbs ≤ 9223372036854775807 → b.natAbs ≤ 9223372036854775807 → Ev (fun k => impl_gcd.l0 k a b) ((Int.gcd a b : Nat) : Int) := by
  intro n
  induction n with
  | zero =>
    intro a b hn ha hb
    obtain rfl : b = 0 := by omega
    refine Ev.step (fun k => by rw [impl_gcd.l0]) ?_
    refine evPos rfl ?_
    have e : mx a (wrap64 (-a)) = ((Int.gcd a 0 : Nat) : Int) := by
      rw [w64 (by omega) (by omega), Int.gcd_zero_right]
      unfold mx
      split <;> omega
    rw [e]
    exact Ev.now _
  | succ n ih =>
    intro a b hn ha hb
    by_cases h0 : b = 0
    · exact ih a b (by omega) ha hb
    · refine Ev.step (fun k => by rw [impl_gcd.l0]) ?_
      refine evNeg h0 ?_
      have hlt := tmod_lt a b h0
      rw [← gcd_tmod a b]
      exact ih b (Int.tmod a b) (by omega) hb (by omega)
theorem igcd (a b : Int) (ha : a.natAbs ≤ 9223372036854775807) (hb : b.natAbs ≤ 9223372036854775807) : Ev (fun k => impl_gcd.f k a b) ((Int.gcd a b : Nat) : Int) := by
  unfold impl_gcd.f
  exact igcd_l b.natAbs a b (Nat.le_refl _) ha hb
theorem sdiv_l : ∀ (n : Nat) (a b : Int), b.natAbs ≤ n → 0 ≤ a → 0 ≤ b → Ev (fun k => spec_l1Divisor.l0 k a b) ((Int.gcd a b : Nat) : Int) := by
  intro n
  induction n with
  | zero =>
    intro a b hn ha hb
    obtain rfl : b = 0 := by omega
    refine Ev.step (fun k => by rw [spec_l1Divisor.l0]) ?_
    refine evNeg (by omega) ?_
    refine evEq (Ev.now _) ?_
    rw [Int.gcd_zero_right]; omega
  | succ n ih =>
    intro a b hn ha hb
    by_cases h0 : b = 0
    · exact ih a b (by omega) ha hb
    · refine Ev.step (fun k => by rw [spec_l1Divisor.l0]) ?_
      refine evPos (by omega) (evNeg h0 ?_)
      have hlt := tmod_lt a b h0
      rw [← gcd_tmod a b]
      exact ih b (Int.tmod a b) (by omega) hb (Int.tmod_nonneg b ha)
theorem sabs (a : Int) (ha : a.natAbs ≤ 9223372036854775807) : spec_l1Abs.f a = some ((a.natAbs : Nat) : Int) := by
  unfold spec_l1Abs.f
  by_cases h : a < 0
  · rw [if_pos h, w64 (by omega) (by omega)]; congr 1; omega
  · rw [if_neg h]; congr 1; omega
theorem sdiv (a b : Int) (ha : a.natAbs ≤ 9223372036854775807) (hb : b.natAbs ≤ 9223372036854775807) : Ev (fun k => spec_l1Divisor.f k a b) ((Int.gcd a b : Nat) : Int) := by
  unfold spec_l1Divisor.f
  refine evBind0 (sabs a ha) (evBind0 (sabs b hb) ?_)
  have e : Int.gcd (a.natAbs : Int) (b.natAbs : Int) = Int.gcd a b := by unfold Int.gcd; simp
  rw [← e]
  exact sdiv_l _ _ _ (Nat.le_refl _) (by omega) (by omega)
theorem isFrac (u d : Int) : EvB (fun k => impl_isFrac.f k u d) (FracP u d) := by
  unfold impl_isFrac.f
  by_cases h1 : u ≥ -1000000000
  · by_cases h2 : u ≤ 1000000000
    · refine EvB.bind0 (a := true) (by unfold impl_isNumber.f; rw [if_pos h1]; simp [h2]) (EvB.pos rfl ?_)
      by_cases h3 : d ≥ 1
      · refine EvB.pos h3 ?_
        by_cases h4 : d ≤ 1000000000
        · refine EvB.pos h4 (EvB.bind (igcd u d (by omega) (by omega)) ⟨_, ?_, Ev.now _⟩)
          unfold FracP
          constructor
          · intro h; have := beq_iff_eq.mp h; exact ⟨h1, h2, h3, h4, by omega⟩
          · intro h; exact beq_iff_eq.mpr (by have := h.2.2.2.2; omega)
        · exact EvB.neg h4 (EvB.ff (fun h => h4 h.2.2.2.1))
      · exact EvB.neg h3 (EvB.ff (fun h => h3 h.2.2.1))
    · refine EvB.bind0 (a := false) (by unfold impl_isNumber.f; rw [if_pos h1]; simp [h2]) (EvB.neg (by decide) (EvB.ff (fun h => h2 h.2.1)))
  · refine EvB.bind0 (a := false) (by unfold impl_isNumber.f; rw [if_neg h1]) (EvB.neg (by decide) (EvB.ff (fun h => h1 h.1)))
theorem l1In (a lo hi : Int) : spec_l1In.f a lo hi = some (decide (lo ≤ a ∧ a ≤ hi)) := by
  unfold spec_l1In.f
  by_cases h : a ≥ lo
  · rw [if_pos h]; simp [h]
  · rw [if_neg h]; congr 1; symm; exact decide_eq_false (fun h' => h h'.1)
theorem fracOk (u d : Int) : EvB (fun k => spec_FracOk.f k u d) (FracP u d) := by
  unfold spec_FracOk.f
  refine EvB.bind0 (l1In _ _ _) ?_
  by_cases h1 : 1 ≤ d ∧ d ≤ 1000000000
  · refine EvB.pos (decide_eq_true h1) (EvB.bind0 (l1In _ _ _) ?_)
    by_cases h2 : -1000000000 ≤ u ∧ u ≤ 1000000000
    · refine EvB.pos (decide_eq_true h2) (EvB.bind (sdiv u d (by omega) (by omega)) ⟨_, ?_, Ev.now _⟩)
      unfold FracP
      constructor
      · intro h; have := beq_iff_eq.mp h; exact ⟨h2.1, h2.2, h1.1, h1.2, by omega⟩
      · intro h; exact beq_iff_eq.mpr (by have := h.2.2.2.2; omega)
    · exact EvB.neg (by simpa using h2) (EvB.ff (fun h => h2 ⟨h.1, h.2.1⟩))
  · exact EvB.neg (by simpa using h1) (EvB.ff (fun h => h1 ⟨h.2.2.1, h.2.2.2.1⟩))
def low (up down : Int) : Int × Int × Bool :=
  if FracP (Int.tdiv up (Int.gcd up down : Nat)) (Int.tdiv down (Int.gcd up down : Nat)) then (Int.tdiv up (Int.gcd up down : Nat), Int.tdiv down (Int.gcd up down : Nat), true) else (0, 0, false)
theorem gcd_pos {up down : Int} (hd : 0 < down) : 0 < Int.gcd up down := Nat.pos_of_ne_zero (fun h => by have := (Int.gcd_eq_zero_iff.mp h).2; omega)
theorem tdiv_natAbs (a : Int) (g : Nat) : (Int.tdiv a (g : Int)).natAbs ≤ a.natAbs := by
  rw [Int.natAbs_tdiv]; exact Nat.div_le_self _ _
theorem ilowest (up down : Int) (hd : 0 < down) (h1 : up.natAbs ≤ 4611686018427387904) (h2 : down.natAbs ≤ 4611686018427387904) : Ev (fun k => impl_lowest.f k up down) (low up down) := by
  unfold impl_lowest.f
  refine Ev.bind (igcd up down (by omega) (by omega)) ?_
  have hg := gcd_pos (up := up) hd
  have a1 := tdiv_natAbs up (Int.gcd up down)
  have a2 := tdiv_natAbs down (Int.gcd up down)
  have w1 : wrap64 (Int.tdiv up (Int.gcd up down : Nat)) = Int.tdiv up (Int.gcd up down : Nat) := w64 (by omega) (by omega)
  have w2 : wrap64 (Int.tdiv down (Int.gcd up down : Nat)) = Int.tdiv down (Int.gcd up down : Nat) := w64 (by omega) (by omega)
  refine evNeg (by omega) (evNeg (by omega) ?_)
  rw [w1, w2]
  obtain ⟨b, hb, he⟩ := isFrac (Int.tdiv up (Int.gcd up down : Nat)) (Int.tdiv down (Int.gcd up down : Nat))
  refine Ev.bind he ?_
  unfold low
  by_cases h : FracP (Int.tdiv up (Int.gcd up down : Nat)) (Int.tdiv down (Int.gcd up down : Nat))
  · rw [if_pos h]; exact evPos (hb.2 h) (Ev.now _)
  · rw [if_neg h]; exact evNeg (fun e => h (hb.1 e)) (Ev.now _)
theorem slow (up down : Int) (hd : 0 < down) (h1 : up.natAbs ≤ 4611686018427387904) (h2 : down.natAbs ≤ 4611686018427387904) : Ev (fun k => spec_l1Low.f k up down) (low up down) := by
  unfold spec_l1Low.f
  refine evNeg (by omega) ?_
  refine Ev.step (fun k => by rw [spec_l1Low.j0]) ?_
  refine Ev.bind (sdiv up down (by omega) (by omega)) ?_
  have hg := gcd_pos (up := up) hd
  have a1 := tdiv_natAbs up (Int.gcd up down)
  have a2 := tdiv_natAbs down (Int.gcd up down)
  have w1 : wrap64 (Int.tdiv up (Int.gcd up down : Nat)) = Int.tdiv up (Int.gcd up down : Nat) := w64 (by omega) (by omega)
  have w2 : wrap64 (Int.tdiv down (Int.gcd up down : Nat)) = Int.tdiv down (Int.gcd up down : Nat) := w64 (by omega) (by omega)
  refine evNeg (by omega) ?_
  rw [w1, w2]
  obtain ⟨b, hb, he⟩ := fracOk (Int.tdiv up (Int.gcd up down : Nat)) (Int.tdiv down (Int.gcd up down : Nat))
  refine Ev.bind he ?_
  unfold low
  by_cases h : FracP (Int.tdiv up (Int.gcd up down : Nat)) (Int.tdiv down (Int.gcd up down : Nat))
  · rw [if_pos h]; exact evPos (hb.2 h) (Ev.now _)
  · rw [if_neg h]; exact evNeg (fun e => h (hb.1 e)) (Ev.now _)
theorem low_val {up down p q : Int} (hd : 0 < down) (h : low up down = (p, q, true)) : FracP p q ∧ p * down = up * q := by
  unfold low at h
  split at h
  case isTrue hf =>
    simp only [Prod.mk.injEq, and_true] at h
    obtain ⟨rfl, rfl⟩ := h
    refine ⟨hf, ?_⟩
    have hg := gcd_pos (up := up) hd
    obtain ⟨s, hs⟩ : ((Int.gcd up down : Nat) : Int) ∣ up := Int.gcd_dvd_left ..
    obtain ⟨t, ht⟩ : ((Int.gcd up down : Nat) : Int) ∣ down := Int.gcd_dvd_right ..
    have hgi : ((Int.gcd up down : Nat) : Int) ≠ 0 := by omega
    have e1 : Int.tdiv up (Int.gcd up down : Nat) = s := by
      conv => lhs; arg 1; rw [hs]
      exact Int.mul_tdiv_cancel_left s hgi
    have e2 : Int.tdiv down (Int.gcd up down : Nat) = t := by
      conv => lhs; arg 1; rw [ht]
      exact Int.mul_tdiv_cancel_left t hgi
    rw [e1, e2]
    generalize ((Int.gcd up down : Nat) : Int) = g at hs ht
    subst hs; subst ht
    ac_rfl
  case isFalse => simp at h
theorem low_of {up down p q : Int} (hd : 0 < down) (hf : FracP p q) (e : p * down = up * q) : low up down = (p, q, true) := by
  have hq : 0 < q := by have := hf.2.2.1; omega
  have hdv : q ∣ down := by
    have h1 : q ∣ p * down := ⟨up, by rw [e, Int.mul_comm]⟩
    have h2 : q.natAbs ∣ p.natAbs * down.natAbs := by rw [← Int.natAbs_mul]; exact Int.natAbs_dvd_natAbs.mpr h1
    have hc : Nat.Coprime q.natAbs p.natAbs := by rw [Nat.coprime_comm]; exact hf.2.2.2.2
    exact Int.natAbs_dvd_natAbs.mp (Nat.Coprime.dvd_of_dvd_mul_left hc h2)
  obtain ⟨t, rfl⟩ := hdv
  have ht : 0 < t := by
    rcases Int.lt_or_le 0 t with h | h
    · exact h
    · have := Int.mul_nonpos_of_nonneg_of_nonpos (by omega : 0 ≤ q) h; omega
  have hu : up = p * t := by
    have : up * q = p * t * q := by rw [← e, Int.mul_comm q t, Int.mul_assoc]
    exact Int.eq_of_mul_eq_mul_right (by omega) this
  subst hu
  have hg : ((Int.gcd (p * t) (q * t) : Nat) : Int) = t := by
    rw [Int.gcd_mul_right, hf.2.2.2.2]; omega
  have h1 : Int.tdiv (p * t) (Int.gcd (p * t) (q * t) : Nat) = p := by rw [hg]; exact Int.mul_tdiv_cancel p (by omega)
  have h2 : Int.tdiv (q * t) (Int.gcd (p * t) (q * t) : Nat) = q := by rw [hg]; exact Int.mul_tdiv_cancel q (by omega)
  unfold low
  rw [h1, h2, if_pos hf]
end Go.Proofs.Ytigpmfoagkhaeaa.Fr

namespace Go.Proofs.Ytigpmfoagkhaeaa.PU
open Go.RowKit Go.Proofs.YtigpmfoagkhaeaaW.PrintWords Go.Proofs.YtigpmfoagkhaeaaW.PrintLast Go.Proofs.YtigpmfoagkhaeaaW.PrintMore Go.Proofs.Ytigpmfoagkhaeaa.Qd
attribute [local go_sem] max2_int min2_int max_two min_two max_three min_three max_four min_four   -- for this text's walks alone
set_option linter.unusedVariables false
set_option linter.unusedSimpArgs false
end Go.Proofs.Ytigpmfoagkhaeaa.PU

namespace Go.Proofs.Ytigpmfoagkhaeaa.Py
open Go.RowKit Go.Proofs.Ytigpmfoagkhaeaa.PU Go.Proofs.Ytigpmfoagkhaeaa.Qh Go.Proofs.Ytigpmfoagkhaeaa.Bk Go.Proofs.Ytigpmfoagkhaeaa.Ow Go.Proofs.Ytigpmfoagkhaeaa.Fr Go.Proofs.YtigpmfoagkhaeaaW.PrintWords Go.Proofs.YtigpmfoagkhaeaaW.PrintMore
set_option linter.unusedVariables false
set_option linter.unusedSimpArgs false
abbrev fu (ps : List S36) (i : Nat) : Int := (rd_T36 ps (i : Int)).f0
abbrev fd (ps : List S36) (i : Nat) : Int := (rd_T36 ps (i : Int)).f1
def PayP (c : List Int) (d : List (List Int)) (ps : List S36) (i : Nat) : Prop := FracP (fu ps i) (fd ps i) ∧ 0 ≤ fu ps i ∧ fu ps i ≤ ow c d i * fd ps i
def PaysP (c : List Int) (d : List (List Int)) (ps : List S36) : Prop := BookP c d ∧ ps.length = c.length ∧ ∀ i : Nat, i < c.length → PayP c d ps i
theorem mul_bd {a b : Int} {m n : Nat} (ha : a.natAbs ≤ m) (hb : b.natAbs ≤ n) : (a * b).natAbs ≤ m * n := by
  rw [Int.natAbs_mul]; exact Nat.mul_le_mul ha hb
theorem wmul {a b : Int} (m n : Nat) (ha : a.natAbs ≤ m) (hb : b.natAbs ≤ n) (h : m * n ≤ 9223372036854775807) : wrap64 (a * b) = a * b := by
  have := mul_bd ha hb
  exact w64 (by omega) (by omega)
theorem cmp (x y : Int) : cmp_Compare_int.f x y = some (if x < y then -1 else if x > y then 1 else 0) := by
  unfold cmp_Compare_int.f cmp_isNaN_int.f
  simp only [bne_self_eq_false, Option.bind_some, Bool.false_eq_true, if_false]
  by_cases h : x < y
  · simp [h]
  · by_cases h2 : x > y
    · simp [h, h2]
    · simp [h, h2]
theorem icmp {a b p q : Int} (ha : FracP a b) (hp : p.natAbs ≤ 1000000000) (hq : q.natAbs ≤ 1000000000) : impl_compare.f a b p q = some (if a * q < p * b then -1 else if a * q > p * b then 1 else 0) := by
  have h1 := ha.1; have h2 := ha.2.1; have h3 := ha.2.2.1; have h4 := ha.2.2.2.1
  unfold impl_compare.f
  rw [wmul 1000000000 1000000000 (by omega) (by omega) (by omega), wmul 1000000000 1000000000 (by omega) (by omega) (by omega), cmp]
  rfl
theorem sbefore {a b p q : Int} (ha : FracP a b) (hp : FracP p q) : Ev (fun k => spec_BeforeOf.f k a b p q) (if a * q < p * b then -1 else if a * q > p * b then 1 else 0) := by
  have h1 := ha.1; have h2 := ha.2.1; have h3 := ha.2.2.1; have h4 := ha.2.2.2.1
  have g1 := hp.1; have g2 := hp.2.1; have g3 := hp.2.2.1; have g4 := hp.2.2.2.1
  unfold spec_BeforeOf.f
  refine Ev.bind ((fracOk a b).yes ha) (evPos rfl (Ev.bind ((fracOk p q).yes hp) (Ev.step (fun k => by rw [spec_BeforeOf.j0]) ?_)))
  rw [wmul 1000000000 1000000000 (by omega) (by omega) (by omega), wmul 1000000000 1000000000 (by omega) (by omega) (by omega)]
  refine evNeg (by decide) ?_
  by_cases h : a * q < p * b
  · simp only [if_pos h]; exact Ev.now _
  · simp only [if_neg h]
    by_cases h5 : a * q > p * b
    · simp only [if_pos h5]; exact Ev.now _
    · simp only [if_neg h5]; exact Ev.now _
theorem whole_ok {n : Int} (h0 : 0 ≤ n) (h1 : n ≤ 1000000000) : FracP n 1 := ⟨by omega, by omega, by omega, by omega, by simp⟩
theorem cmp_gt (x y : Int) : ((if x < y then (-1 : Int) else if x > y then 1 else 0) > 0) ↔ x > y := by
  by_cases h : x < y
  · rw [if_pos h]; omega
  · rw [if_neg h]
    by_cases h2 : x > y
    · rw [if_pos h2]; omega
    · rw [if_neg h2]; omega
theorem ip_l0 {c : List Int} {d : List (List Int)} (h : BookP c d) (ps : List S36) (hp : ps.length = c.length) : ∀ (e i : Nat), c.length - i = e → i ≤ c.length →
    EvB (fun k => impl_arePays.l0 k ps (owes c d) ((owes c d).length : Int) (i : Int)) (∀ i' : Nat, i ≤ i' → i' < c.length → PayP c d ps i') := by
  have h4 := h.2.1
  have hol := owes_len c d
  intro e
  induction e with
  | zero =>
    intro i he hi
    refine EvB.step (fun k => by rw [impl_arePays.l0]) ?_
    exact EvB.neg (by omega) (EvB.tt (fun i' h1 h2 => by omega))
  | succ e ih =>
    intro i he hi
    have hlt : i < c.length := by omega
    have hs : wrap64 ((i : Int) + 1) = ((i + 1 : Nat) : Int) := wsucc hlt (by omega)
    have hob := ow_bd h hlt
    refine EvB.step (fun k => by rw [impl_arePays.l0]) ?_
    refine EvB.pos (by omega) (EvB.pos (by omega) (EvB.pos (by omega) (EvB.pos (by omega) ?_)))
    obtain ⟨b, hb, hbe⟩ := isFrac (fu ps i) (fd ps i)
    refine EvB.bind hbe ?_
    by_cases h1 : FracP (fu ps i) (fd ps i)
    · refine EvB.pos (hb.2 h1) ?_
      by_cases h2 : fu ps i < 0
      · exact EvB.pos h2 (EvB.ff (fun h => by have := (h i (Nat.le_refl _) hlt).2.1; omega))
      · refine EvB.neg h2 ?_
        rw [rd_owes hlt]
        refine EvB.bind0 (a := (ow c d i, 1)) rfl ?_
        refine EvB.bind0 (icmp (p := ow c d i) (q := 1) h1 (by omega) (by decide)) ?_
        rw [hs]
        by_cases h3 : fu ps i * 1 > ow c d i * fd ps i
        · exact EvB.pos ((cmp_gt _ _).2 h3) (EvB.ff (fun h => by have := (h i (Nat.le_refl _) hlt).2.2; omega))
        · refine EvB.neg (fun h' => h3 ((cmp_gt _ _).1 h')) ?_
          refine (ih (i + 1) (by omega) (by omega)).congr ⟨fun h' i' h5 h6 => ?_, fun h' i' h5 h6 => h' i' (by omega) h6⟩
          by_cases e' : i' = i
          · subst e'; exact ⟨h1, by omega, by omega⟩
          · exact h' i' (by omega) h6
    · exact EvB.neg (fun h' => h1 (hb.1 h')) (EvB.ff (fun h => h1 (h i (Nat.le_refl _) hlt).1))
theorem arePays (c : List Int) (d : List (List Int)) (ps : List S36) : EvB (fun k => impl_arePays.f k c d ps) (PaysP c d ps) := by
  unfold impl_arePays.f
  obtain ⟨b, hb, hbe⟩ := isBook c d
  refine EvB.bind hbe ?_
  by_cases h : BookP c d
  · refine EvB.pos (hb.2 h) (EvB.step (fun k => by rw [impl_arePays.j0]) ?_)
    by_cases hp : ps.length = c.length
    · refine EvB.neg (by rw [hp]; simp) (EvB.bind (iowes h) ?_)
      exact (ip_l0 h ps hp _ 0 rfl (by omega)).congr ⟨fun h' => ⟨h, hp, fun i hi => h' i (by omega) hi⟩, fun h' i _ hi => h'.2.2 i hi⟩
    · exact EvB.pos (bne_iff_ne.mpr (by omega)) (EvB.ff (fun h' => hp h'.2.1))
  · refine EvB.neg (fun h' => h (hb.1 h')) (EvB.step (fun k => by rw [impl_arePays.j0]) ?_)
    exact EvB.pos rfl (EvB.ff (fun h' => h h'.1))
theorem sp_l0 {c : List Int} {d : List (List Int)} (h : BookP c d) (ps : List S36) (hp : ps.length = c.length) : ∀ (e i : Nat), c.length - i = e → i ≤ c.length →
    EvB (fun k => spec_PaysOk.l0 k ps (owes c d) (i : Int) c d) (∀ i' : Nat, i ≤ i' → i' < c.length → PayP c d ps i') := by
  have h4 := h.2.1
  have hol := owes_len c d
  intro e
  induction e with
  | zero =>
    intro i he hi
    refine EvB.step (fun k => by rw [spec_PaysOk.l0]) ?_
    refine EvB.neg (by omega) (EvB.step (fun k => by rw [spec_PaysOk.j1]) ?_)
    refine EvB.neg (by decide) (EvB.bind ((bookOk c d).yes h) (EvB.pos rfl ?_))
    exact ⟨_, ⟨fun _ i' h1 h2 => by omega, fun _ => by rw [hp, hol]; simp⟩, Ev.now _⟩
  | succ e ih =>
    intro i he hi
    have hlt : i < c.length := by omega
    have hs : wrap64 ((i : Int) + 1) = ((i + 1 : Nat) : Int) := wsucc hlt (by omega)
    have hob := ow_bd h hlt
    refine EvB.step (fun k => by rw [spec_PaysOk.l0]) ?_
    refine EvB.pos (by omega) (EvB.step (fun k => by rw [spec_PaysOk.j1]) ?_)
    refine EvB.pos (by rw [hp, hol]; simp) (EvB.pos (by omega) (EvB.pos (by omega) ?_))
    obtain ⟨b, hb, hbe⟩ := fracOk (fu ps i) (fd ps i)
    refine EvB.bind hbe ?_
    by_cases h1 : FracP (fu ps i) (fd ps i)
    · refine EvB.pos (hb.2 h1) ?_
      by_cases h2 : fu ps i < 0
      · exact EvB.pos h2 (EvB.ff (fun h => by have := (h i (Nat.le_refl _) hlt).2.1; omega))
      · refine EvB.neg h2 (EvB.pos (by omega) ?_)
        rw [rd_owes hlt]
        refine EvB.bind (sbefore h1 (whole_ok hob.1 (by omega))) ?_
        rw [hs]
        by_cases h3 : fu ps i * 1 > ow c d i * fd ps i
        · exact EvB.pos ((cmp_gt _ _).2 h3) (EvB.ff (fun h => by have := (h i (Nat.le_refl _) hlt).2.2; omega))
        · refine EvB.neg (fun h' => h3 ((cmp_gt _ _).1 h')) ?_
          refine (ih (i + 1) (by omega) (by omega)).congr ⟨fun h' i' h5 h6 => ?_, fun h' i' h5 h6 => h' i' (by omega) h6⟩
          by_cases e' : i' = i
          · subst e'; exact ⟨h1, by omega, by omega⟩
          · exact h' i' (by omega) h6
    · exact EvB.neg (fun h' => h1 (hb.1 h')) (EvB.ff (fun h => h1 (h i (Nat.le_refl _) hlt).1))
theorem spays (c : List Int) (d : List (List Int)) (ps : List S36) (hps : ps.length ≤ 4611686018427387904) : EvB (fun k => spec_PaysOk.f k c d ps) (PaysP c d ps) := by
  unfold spec_PaysOk.f
  by_cases h : BookP c d
  · refine EvB.bind (sowes h) ?_
    by_cases hp : ps.length = c.length
    · exact (sp_l0 h ps hp _ 0 rfl (by omega)).congr ⟨fun h' => ⟨h, hp, fun i hi => h' i (by omega) hi⟩, fun h' i _ hi => h'.2.2 i hi⟩
    · have hol := owes_len c d
      have hn : ((ps.length : Int) == ((owes c d).length : Int)) = false := beq_eq_false_iff_ne.mpr (by omega)
      refine EvB.step (fun k => by rw [spec_PaysOk.l0]) ?_
      have fin : EvB (fun k => spec_PaysOk.j1 k ps (owes c d) 0 false c d) (PaysP c d ps) := by
        refine EvB.step (fun k => by rw [spec_PaysOk.j1]) ?_
        refine EvB.neg (by decide) (EvB.bind ((bookOk c d).yes h) (EvB.pos rfl ?_))
        exact ⟨_, ⟨fun h' => absurd h' (by rw [hn]; decide), fun h' => absurd h'.2.1 hp⟩, Ev.now _⟩
      rw [hn]
      by_cases h0 : (0 : Int) < (ps.length : Int)
      · exact EvB.pos h0 fin
      · exact EvB.neg h0 fin
  · refine EvB.bind (sowes_no h) ?_
    refine EvB.step (fun k => by rw [spec_PaysOk.l0]) ?_
    have fin : EvB (fun k => spec_PaysOk.j1 k ps [] 0 false c d) (PaysP c d ps) := by
      refine EvB.step (fun k => by rw [spec_PaysOk.j1]) ?_
      exact EvB.neg (by decide) (EvB.bind ((bookOk c d).no h) (EvB.neg (by decide) (EvB.ff (fun h' => h h'.1))))
    by_cases h0 : (0 : Int) < (ps.length : Int)
    · refine EvB.pos h0 ?_
      have hn : ((ps.length : Int) == (([] : List Int).length : Int)) = false := beq_eq_false_iff_ne.mpr (by show (ps.length : Int) ≠ ((0 : Nat) : Int); omega)
      rw [hn]
      exact fin
    · exact EvB.neg h0 fin
end Go.Proofs.Ytigpmfoagkhaeaa.Py

namespace Go.Proofs.Ytigpmfoagkhaeaa.Dp
open Go.RowKit Go.Proofs.Ytigpmfoagkhaeaa.PU Go.Proofs.Ytigpmfoagkhaeaa.Qh Go.Proofs.Ytigpmfoagkhaeaa.Dr Go.Proofs.Ytigpmfoagkhaeaa.Db Go.Proofs.Ytigpmfoagkhaeaa.Bk Go.Proofs.Ytigpmfoagkhaeaa.Ow Go.Proofs.Ytigpmfoagkhaeaa.Fr Go.Proofs.Ytigpmfoagkhaeaa.Py Go.Proofs.YtigpmfoagkhaeaaW.PrintWords Go.Proofs.YtigpmfoagkhaeaaW.PrintMore
set_option linter.unusedVariables false
set_option linter.unusedSimpArgs false
abbrev F := S36
def LowD (ps : List F) : Prop := ∀ x ∈ ps, 0 ≤ x.f1 ∧ x.f1 ≤ 6
theorem low_den (up down : Int) (hd : 0 < down) : 0 ≤ (low up down).2.1 ∧ (low up down).2.1 ≤ down := by
  unfold low
  have h1 := tdiv_natAbs down (Int.gcd up down)
  have h2 : 0 ≤ Int.tdiv down (Int.gcd up down : Nat) := Int.tdiv_nonneg (by omega) (Int.natCast_nonneg _)
  split
  · exact ⟨h2, by show Int.tdiv down (Int.gcd up down : Nat) ≤ down; omega⟩
  · exact ⟨by show (0 : Int) ≤ 0; omega, by show (0 : Int) ≤ down; omega⟩
theorem lowD_app {ps : List F} (h : LowD ps) (x : F) (h0 : 0 ≤ x.f1) (h1 : x.f1 ≤ 6) : LowD (ps ++ [x]) := by
  intro y hy
  rcases List.mem_append.mp hy with h2 | h2
  · exact h y h2
  · obtain rfl := List.mem_singleton.mp h2; exact ⟨h0, h1⟩
theorem lowD_set {ps : List F} (h : LowD ps) (i : Nat) (x : F) (h0 : 0 ≤ x.f1) (h1 : x.f1 ≤ 6) : LowD (ps.set i x) := by
  intro y hy
  rcases List.mem_or_eq_of_mem_set hy with h2 | rfl
  · exact h y h2
  · exact ⟨h0, h1⟩
def G (r : List F × Int) (p m : Int) : Prop := r.1.length ≤ 5 ∧ LowD r.1 ∧ p ≤ r.2 ∧ r.2 ≤ p + m
theorem py_l0 {b : List Int} (hb : Bytes b) (n : Int) (hn : 1 ≤ n) (hn2 : n ≤ 1000) (ow : List Int) (ho : ow.length ≤ 4) (hw : ∀ j : Nat, j < ow.length → 0 ≤ rd ow (j : Int) ∧ rd ow (j : Int) ≤ 36) : ∀ (e i : Nat) (ps : List F) (p : Int), ow.length - i = e → i ≤ ow.length →
    ps.length = i → LowD ps → 0 ≤ p → p ≤ 1000 + 10 * i → EvX (fun k => spec_l20Pays.l0 k n ps ow (i : Int) b p) (fun r => G r p (10 * e + 4)) := by
  intro e
  induction e with
  | zero =>
    intro i ps p he hi hps hl h0 h1
    refine EvX.step (fun k => by rw [spec_l20Pays.l0]) ?_
    refine EvX.neg (by omega) ?_
    obtain ⟨v, hv⟩ := podd hb p n hn hn2 h0 (by omega)
    refine EvX.bind hv ?_
    by_cases hvt : v = true
    · refine EvX.pos hvt ?_
      have app := lowD_app hl (⟨0, 1⟩ : F) (by show (0 : Int) ≤ 1; omega) (by show (1 : Int) ≤ 6; omega)
      by_cases hz : (ps.length : Int) = 0
      · exact EvX.pos hz (EvX.pos (by omega) (EvX.now ⟨by rw [List.length_append]; show ps.length + 1 ≤ 5; omega, app, by show p ≤ p + 1; omega, by show p + 1 ≤ _; omega⟩))
      refine EvX.neg hz ?_
      obtain ⟨w, _, _, _, hw2⟩ := pick hb (p + 1) 2 (by omega) (by omega)
      refine EvX.bind hw2 ?_
      by_cases hz2 : w = 0
      · exact EvX.pos hz2 (EvX.pos (by omega) (EvX.now ⟨by rw [List.length_append]; show ps.length + 1 ≤ 5; omega, app, by show p ≤ p + 1 + 1; omega, by show p + 1 + 1 ≤ _; omega⟩))
      refine EvX.neg hz2 (EvX.bind0 rfl ?_)
      obtain ⟨x, hx0, hx1, _, hx⟩ := pick hb (p + 1 + 1) 3 (by omega) (by omega)
      have hx3 := hx1 (by omega)
      refine EvX.bind hx (EvX.pos hx0 (EvX.pos (by simp; omega) (EvX.pos (by omega) (EvX.now ⟨by rw [List.length_set]; show ps.length ≤ 5; omega, ?_, by show p ≤ p + 1 + 1 + 1; omega, by show p + 1 + 1 + 1 ≤ _; omega⟩))))
      rcases (by omega : x = 0 ∨ x = 1 ∨ x = 2) with h | h | h <;> subst h
      · exact lowD_set hl _ _ (by show (0 : Int) ≤ 0; omega) (by show (0 : Int) ≤ 6; omega)
      · exact lowD_set hl _ _ (by show (0 : Int) ≤ 1; omega) (by show (1 : Int) ≤ 6; omega)
      · exact lowD_set hl _ _ (by show (0 : Int) ≤ 1; omega) (by show (1 : Int) ≤ 6; omega)
    · exact EvX.neg hvt (EvX.now ⟨by show ps.length ≤ 5; omega, hl, by show p ≤ p + 1; omega, by show p + 1 ≤ _; omega⟩)
  | succ e ih =>
    intro i ps p he hi hps hl h0 h1
    have hlt : i < ow.length := by omega
    have hs : Aside0 (wrap64 ((i : Int) + 1) = ((i + 1 : Nat) : Int)) := ⟨wsucc hlt (by omega)⟩
    have hb6 := hw i hlt
    have hm : Aside0 (wrap64 (wrap64 (rd ow (i : Int) * 6) + 1) = rd ow (i : Int) * 6 + 1) := ⟨by rw [w64 (n := rd ow (i : Int) * 6) (by omega) (by omega), w64 (by omega) (by omega)]⟩
    have hm1 : Aside0 (wrap64 (rd ow (i : Int) + 1) = rd ow (i : Int) + 1) := ⟨w64 (by omega) (by omega)⟩
    refine EvX.step (fun k => by rw [spec_l20Pays.l0]) ?_
    rw [hs.out, hm.out, hm1.out]
    refine EvX.pos (by omega) (EvX.pos (by omega) ?_)
    obtain ⟨v, hv0, hv1, _, hv⟩ := pick hb p (rd ow (i : Int) * 6 + 1) h0 (by omega)
    have hv2 := hv1 (by omega)
    refine EvX.bind hv (EvX.bind (slow v 6 (by omega) (by omega) (by omega)) ?_)
    obtain ⟨w, _, _, _, hw2⟩ := pick hb (p + 1) 4 (by omega) (by omega)
    refine EvX.bind hw2 ?_
    have go : ∀ (x : F) (p' : Int), 0 ≤ x.f1 → x.f1 ≤ 6 → p ≤ p' → p' ≤ p + 5 → EvX (fun k => if ps.length < 8796093022208 then spec_l20Pays.l0 k n (ps ++ [x]) ow ((i + 1 : Nat) : Int) b p' else none) (fun r => G r p (10 * ((e + 1 : Nat) : Int) + 4)) := by
      intro x p' a0 a1 a2 a3
      refine EvX.pos (by omega) ((ih (i + 1) (ps ++ [x]) p' (by omega) (by omega) (by rw [List.length_append, hps]; rfl) (lowD_app hl x a0 a1) (by omega) (by omega)).imp ?_)
      intro r hr
      exact ⟨hr.1, hr.2.1, by have := hr.2.2.1; omega, by have := hr.2.2.2; omega⟩
    by_cases c0 : w = 0
    · exact EvX.pos c0 (go _ _ (by show (0 : Int) ≤ 1; omega) (by show (1 : Int) ≤ 6; omega) (by omega) (by omega))
    refine EvX.neg c0 ?_
    by_cases c1 : w = 1
    · refine EvX.pos c1 ?_
      obtain ⟨x, _, _, _, hx⟩ := pick hb (p + 1 + 1) (rd ow (i : Int) + 1) (by omega) (by omega)
      exact EvX.bind hx (go _ _ (by show (0 : Int) ≤ 1; omega) (by show (1 : Int) ≤ 6; omega) (by omega) (by omega))
    · have hd := low_den v 6 (by omega)
      exact EvX.neg c1 (go _ _ hd.1 hd.2 (by omega) (by omega))
theorem pays {b : List Int} (hb : Bytes b) (n : Int) (hn : 1 ≤ n) (hn2 : n ≤ 1000) (c : List Int) (d : List (List Int)) (p : Int) (h0 : 0 ≤ p) (h1 : p ≤ 1000) : EvX (fun k => spec_l20Pays.f k b p c d n) (fun r => G r p 50) := by
  unfold spec_l20Pays.f
  by_cases h : BookP c d
  · refine EvX.bind (sowes h) ?_
    have hol := owes_len c d
    have h4 := h.2.1
    refine (py_l0 hb n hn hn2 (owes c d) (by omega) (fun j hj => ?_) _ 0 [] p rfl (by omega) rfl (fun x hx => by cases hx) h0 (by omega)).imp ?_
    · rw [rd_owes (by omega)]; exact ow_bd h (by omega)
    · intro r hr; exact ⟨hr.1, hr.2.1, hr.2.2.1, by have := hr.2.2.2; omega⟩
  · refine EvX.bind (sowes_no h) ?_
    refine (py_l0 hb n hn hn2 [] (by simp) (fun j hj => by simp at hj) _ 0 [] p rfl (by omega) rfl (fun x hx => by cases hx) h0 (by omega)).imp ?_
    intro r hr; exact ⟨hr.1, hr.2.1, hr.2.2.1, by have := hr.2.2.2; simp at this; omega⟩
end Go.Proofs.Ytigpmfoagkhaeaa.Dp

namespace Go.Proofs.Ytigpmfoagkhaeaa.Gt
open Go.RowKit Go.Proofs.Ytigpmfoagkhaeaa.PU Go.Proofs.Ytigpmfoagkhaeaa.Qh Go.Proofs.Ytigpmfoagkhaeaa.Bk Go.Proofs.Ytigpmfoagkhaeaa.Ow Go.Proofs.Ytigpmfoagkhaeaa.Fr Go.Proofs.Ytigpmfoagkhaeaa.Py Go.Proofs.YtigpmfoagkhaeaaW.PrintWords Go.Proofs.YtigpmfoagkhaeaaW.PrintMore
set_option linter.unusedVariables false
set_option linter.unusedSimpArgs false
def plusL (a b p q : Int) : Int × Int × Bool := low (a * q + p * b) (b * q)
def timesL (a b p q : Int) : Int × Int × Bool := low (a * p) (b * q)
theorem mpos {b q : Int} (hb : 1 ≤ b) (hq : 1 ≤ q) : 0 < b * q := Int.mul_pos (by omega) (by omega)
theorem iplus {a b p q : Int} (h : FracP a b) (k : FracP p q) : Ev (fun n => impl_plus.f n a b p q) (plusL a b p q) := by
  have h1 := h.1; have h2 := h.2.1; have h3 := h.2.2.1; have h4 := h.2.2.2.1
  have k1 := k.1; have k2 := k.2.1; have k3 := k.2.2.1; have k4 := k.2.2.2.1
  have m1 := mul_bd (a := a) (b := q) (m := 1000000000) (n := 1000000000) (by omega) (by omega)
  have m2 := mul_bd (a := p) (b := b) (m := 1000000000) (n := 1000000000) (by omega) (by omega)
  have m3 := mul_bd (a := b) (b := q) (m := 1000000000) (n := 1000000000) (by omega) (by omega)
  have mp := mpos h3 k3
  unfold impl_plus.f plusL
  rw [w64 (n := a * q) (by omega) (by omega), w64 (n := p * b) (by omega) (by omega), w64 (n := b * q) (by omega) (by omega), w64 (by omega) (by omega)]
  exact Ev.bind (ilowest _ _ mp (by omega) (by omega)) (Ev.now _)
theorem itimes {a b p q : Int} (h : FracP a b) (k : FracP p q) : Ev (fun n => impl_times.f n a b p q) (timesL a b p q) := by
  have h1 := h.1; have h2 := h.2.1; have h3 := h.2.2.1; have h4 := h.2.2.2.1
  have k1 := k.1; have k2 := k.2.1; have k3 := k.2.2.1; have k4 := k.2.2.2.1
  have m1 := mul_bd (a := a) (b := p) (m := 1000000000) (n := 1000000000) (by omega) (by omega)
  have m3 := mul_bd (a := b) (b := q) (m := 1000000000) (n := 1000000000) (by omega) (by omega)
  have mp := mpos h3 k3
  unfold impl_times.f timesL
  rw [w64 (n := a * p) (by omega) (by omega), w64 (n := b * q) (by omega) (by omega)]
  exact Ev.bind (ilowest _ _ mp (by omega) (by omega)) (Ev.now _)
theorem splus {a b p q : Int} (h : FracP a b) (k : FracP p q) : Ev (fun n => spec_PlusOf.f n a b p q) (plusL a b p q) := by
  have h1 := h.1; have h2 := h.2.1; have h3 := h.2.2.1; have h4 := h.2.2.2.1
  have k1 := k.1; have k2 := k.2.1; have k3 := k.2.2.1; have k4 := k.2.2.2.1
  have m1 := mul_bd (a := a) (b := q) (m := 1000000000) (n := 1000000000) (by omega) (by omega)
  have m2 := mul_bd (a := p) (b := b) (m := 1000000000) (n := 1000000000) (by omega) (by omega)
  have m3 := mul_bd (a := b) (b := q) (m := 1000000000) (n := 1000000000) (by omega) (by omega)
  have mp := mpos h3 k3
  unfold spec_PlusOf.f plusL
  rw [w64 (n := a * q) (by omega) (by omega), w64 (n := p * b) (by omega) (by omega), w64 (n := b * q) (by omega) (by omega), w64 (by omega) (by omega)]
  refine Ev.bind ((fracOk a b).yes h) (evPos rfl (Ev.bind ((fracOk p q).yes k) (evPos rfl ?_)))
  exact Ev.bind (slow _ _ mp (by omega) (by omega)) (Ev.now _)
theorem stimes {a b p q : Int} (h : FracP a b) (k : FracP p q) : Ev (fun n => spec_TimesOf.f n a b p q) (timesL a b p q) := by
  have h1 := h.1; have h2 := h.2.1; have h3 := h.2.2.1; have h4 := h.2.2.2.1
  have k1 := k.1; have k2 := k.2.1; have k3 := k.2.2.1; have k4 := k.2.2.2.1
  have m1 := mul_bd (a := a) (b := p) (m := 1000000000) (n := 1000000000) (by omega) (by omega)
  have m3 := mul_bd (a := b) (b := q) (m := 1000000000) (n := 1000000000) (by omega) (by omega)
  have mp := mpos h3 k3
  unfold spec_TimesOf.f timesL
  rw [w64 (n := a * p) (by omega) (by omega), w64 (n := b * q) (by omega) (by omega)]
  refine Ev.bind ((fracOk a b).yes h) (evPos rfl (Ev.bind ((fracOk p q).yes k) (evPos rfl ?_)))
  exact Ev.bind (slow _ _ mp (by omega) (by omega)) (Ev.now _)
theorem sfrac {x y : Int} (hx : -1000000000 ≤ x ∧ x ≤ 1000000000) (hy : 0 < y) (hy2 : y ≤ 1000000000) : Ev (fun n => spec_FracOf.f n x y) (low x y) := by
  unfold spec_FracOf.f
  refine evBind0 (Fr.l1In _ _ _) (evPos (decide_eq_true hx) (evBind0 (Fr.l1In _ _ _) (evPos (decide_eq_true ⟨by omega, hy2⟩) (evNeg (by omega) ?_))))
  exact Ev.bind (slow x y hy (by omega) (by omega)) (Ev.now _)
theorem low_fits {x y : Int} (hx : -1000000000 ≤ x ∧ x ≤ 1000000000) (hy : 0 < y) (hy2 : y ≤ 1000000000) : ∃ p q, low x y = (p, q, true) ∧ FracP p q ∧ q ≤ y := by
  have hg := gcd_pos (up := x) hy
  obtain ⟨s, hs⟩ : ((Int.gcd x y : Nat) : Int) ∣ x := Int.gcd_dvd_left ..
  obtain ⟨t, ht⟩ : ((Int.gcd x y : Nat) : Int) ∣ y := Int.gcd_dvd_right ..
  have hgi : ((Int.gcd x y : Nat) : Int) ≠ 0 := by omega
  have e1 : Int.tdiv x (Int.gcd x y : Nat) = s := by
    conv => lhs; arg 1; rw [hs]
    exact Int.mul_tdiv_cancel_left s hgi
  have e2 : Int.tdiv y (Int.gcd x y : Nat) = t := by
    conv => lhs; arg 1; rw [ht]
    exact Int.mul_tdiv_cancel_left t hgi
  have b1 := tdiv_natAbs x (Int.gcd x y)
  have b2 := tdiv_natAbs y (Int.gcd x y)
  rw [e1] at b1
  rw [e2] at b2
  have ht0 : 0 < t := by
    rcases Int.lt_or_le 0 t with h | h
    · exact h
    · have := Int.mul_nonpos_of_nonneg_of_nonpos (a := ((Int.gcd x y : Nat) : Int)) (by omega) h; omega
  have hgst : Int.gcd s t = 1 := by
    have h1 := Int.gcd_mul_left ((Int.gcd x y : Nat) : Int) s t
    rw [← hs, ← ht] at h1
    have h2 : Int.gcd x y * 1 = Int.gcd x y * Int.gcd s t := by simpa using h1
    exact (Nat.eq_of_mul_eq_mul_left hg h2).symm
  have hf : FracP s t := ⟨by omega, by omega, by omega, by omega, hgst⟩
  refine ⟨s, t, ?_, hf, by omega⟩
  unfold low
  rw [e1, e2, if_pos hf]
end Go.Proofs.Ytigpmfoagkhaeaa.Gt

namespace Go.Proofs.Ytigpmfoagkhaeaa.PU
open Go.RowKit Go.Proofs.YtigpmfoagkhaeaaW.PrintWords Go.Proofs.YtigpmfoagkhaeaaW.PrintLast Go.Proofs.YtigpmfoagkhaeaaW.PrintMore Go.Proofs.Ytigpmfoagkhaeaa.Qd
attribute [local go_sem] max2_int min2_int max_two min_two max_three min_three max_four min_four   -- for this text's walks alone
set_option linter.unusedVariables false
set_option linter.unusedSimpArgs false
end Go.Proofs.Ytigpmfoagkhaeaa.PU

namespace Go.Proofs.Ytigpmfoagkhaeaa.Gv
open Go.RowKit Go.Proofs.Ytigpmfoagkhaeaa.PU Go.Proofs.Ytigpmfoagkhaeaa.Qh Go.Proofs.Ytigpmfoagkhaeaa.Bk Go.Proofs.Ytigpmfoagkhaeaa.Ow Go.Proofs.Ytigpmfoagkhaeaa.Fr Go.Proofs.Ytigpmfoagkhaeaa.Py Go.Proofs.Ytigpmfoagkhaeaa.Gt Go.Proofs.YtigpmfoagkhaeaaW.PrintWords Go.Proofs.YtigpmfoagkhaeaaW.PrintMore
set_option linter.unusedVariables false
set_option linter.unusedSimpArgs false
abbrev F := S36
section
variable (c : List Int) (d : List (List Int)) (ps : List F)
def pt (i k : Nat) : Int × Int × Bool := low (rd (rd_L2 d (k : Int)) (i : Int)) (ow c d k)
def tm (i k : Nat) : Int × Int × Bool := timesL (fu ps k) (fd ps k) (pt c d i k).1 (pt c d i k).2.1
def acc (i : Nat) : Nat → Nat → Int → Int → Option (Int × Int)
  | 0, _, a, b => some (a, b)
  | m + 1, k, a, b => if ow c d k = 0 then acc i m (k + 1) a b else if (plusL a b (tm c d ps i k).1 (tm c d ps i k).2.1).2.2 = true then acc i m (k + 1) (plusL a b (tm c d ps i k).1 (tm c d ps i k).2.1).1 (plusL a b (tm c d ps i k).1 (tm c d ps i k).2.1).2.1 else none
def gv : Nat → Nat → List F → List F × Bool
  | 0, _, out => (out, true)
  | m + 1, i, out => match acc c d ps i c.length 0 (rd c (i : Int)) 1 with
    | some r => gv m (i + 1) (out ++ [(⟨r.1, r.2⟩ : F)])
    | none => ([], false)
def getsV : List F × Bool := gv c d ps c.length 0 []
def Fits : Prop := ∀ i k : Nat, i < c.length → k < c.length → ow c d k ≠ 0 → (tm c d ps i k).2.2 = true
end
variable {c : List Int} {d : List (List Int)} {ps : List F}
theorem low_true {up down : Int} (hd : 0 < down) (h : (low up down).2.2 = true) : FracP (low up down).1 (low up down).2.1 := by
  have e : low up down = ((low up down).1, (low up down).2.1, true) := by rw [← h]
  exact (low_val hd e).1
theorem pt_ok (h : BookP c d) {i k : Nat} (hi : i < c.length) (hk : k < c.length) (h0 : ow c d k ≠ 0) : (pt c d i k).2.2 = true ∧ FracP (pt c d i k).1 (pt c d i k).2.1 := by
  have ho := ow_bd h hk
  have hx := (h.2.2.2 k hk).2.2.2.2 i hi
  obtain ⟨p, q, e, hf, _⟩ := low_fits (x := rd (rd_L2 d (k : Int)) (i : Int)) (y := ow c d k) ⟨by omega, by omega⟩ (by omega) (by omega)
  unfold pt
  rw [e]
  exact ⟨rfl, hf⟩
theorem tm_ok (h : PaysP c d ps) (hfit : Fits c d ps) {i k : Nat} (hi : i < c.length) (hk : k < c.length) (h0 : ow c d k ≠ 0) : FracP (tm c d ps i k).1 (tm c d ps i k).2.1 := by
  have hp := (pt_ok h.1 hi hk h0).2
  have hy := (h.2.2 k hk).1
  exact low_true (mpos hy.2.2.1 hp.2.2.1) (hfit i k hi hk h0)
theorem plus_ok {a b p q : Int} (h : FracP a b) (k : FracP p q) (e : (plusL a b p q).2.2 = true) : FracP (plusL a b p q).1 (plusL a b p q).2.1 := low_true (mpos h.2.2.1 k.2.2.1) e
theorem one_ok {n : Int} (h0 : 0 ≤ n) (h1 : n ≤ 1000000000) : FracP n 1 := whole_ok h0 h1
theorem own (h : PaysP c d ps) {i : Nat} (hi : i < c.length) (h0 : ow c d i ≠ 0) {a b : Int} (hab : FracP a b) : plusL a b (tm c d ps i i).1 (tm c d ps i i).2.1 = (a, b, true) := by
  have ho := ow_bd h.1 hi
  have hz := (h.1.2.2.2 i hi).2.2.2.1
  have hy := (h.2.2 i hi).1
  have e1 : pt c d i i = (0, 1, true) := by
    unfold pt; rw [hz]
    exact low_of (by omega) (one_ok (by omega) (by omega)) (by omega)
  have e2 : tm c d ps i i = (0, 1, true) := by
    unfold tm timesL; rw [e1]
    exact low_of (by have := hy.2.2.1; show 0 < fd ps i * 1; omega) (one_ok (by omega) (by omega)) (by show 0 * (fd ps i * 1) = fu ps i * 0 * 1; omega)
  rw [e2]
  unfold plusL
  exact low_of (by have := hab.2.2.1; show 0 < b * 1; omega) hab (by show a * (b * 1) = (a * 1 + 0 * b) * b; rw [Int.mul_one, Int.mul_one, Int.zero_mul, Int.add_zero])
theorem ig_l1 (h : PaysP c d ps) (hfit : Fits c d ps) {i : Nat} (hi : i < c.length) (out : List F) (ho : out.length ≤ 4) {r : List F × Bool}
    (hR : ∀ a b : Int, acc c d ps i c.length 0 (rd c (i : Int)) 1 = some (a, b) → Ev (fun n => impl_gets.l0 n ps (owes c d) (out ++ [(⟨a, b⟩ : F)]) c (c.length : Int) ((i + 1 : Nat) : Int) c d) r)
    (hN : acc c d ps i c.length 0 (rd c (i : Int)) 1 = none → r = ([], false)) : ∀ (e k : Nat) (a b : Int), c.length - k = e → k ≤ c.length → FracP a b → acc c d ps i e k a b = acc c d ps i c.length 0 (rd c (i : Int)) 1 →
    Ev (fun n => impl_gets.l1 n ps (owes c d) out (i : Int) c (c.length : Int) (i : Int) d (d.length : Int) (k : Int) c d a b) r := by
  have h4 := h.1.2.1
  have hdl := h.1.2.2.1
  have hs : Aside0 (wrap64 ((i : Int) + 1) = ((i + 1 : Nat) : Int)) := ⟨wsucc hi (by omega)⟩
  have hol := owes_len c d
  intro e
  induction e with
  | zero =>
    intro k a b he hk hab hacc
    refine Ev.step (fun n => by rw [impl_gets.l1]) ?_
    rw [hs.out]
    refine evNeg (by omega) (evPos (by omega) (hR a b ?_))
    rw [← hacc]; rfl
  | succ e ih =>
    intro k a b he hk hab hacc
    have hlt : k < c.length := by omega
    have hk1 : Aside0 (wrap64 ((k : Int) + 1) = ((k + 1 : Nat) : Int)) := ⟨wsucc hlt (by omega)⟩
    refine Ev.step (fun n => by rw [impl_gets.l1]) ?_
    refine evPos (by omega) (evPos (by omega) (evPos (by omega) ?_))
    have skip : (acc c d ps i (e + 1) k a b = acc c d ps i e (k + 1) a b) → Ev (fun n => impl_gets.j2 n ps (owes c d) out (i : Int) (k : Int) (rd_L2 d (k : Int)) c (c.length : Int) (i : Int) d (d.length : Int) (k : Int) true c d a b) r := by
      intro hh
      refine Ev.step (fun n => by rw [impl_gets.j2]) ?_
      refine evPos rfl ?_
      rw [hk1.out]
      exact ih (k + 1) a b (by omega) (by omega) hab (by rw [← hh]; exact hacc)
    by_cases hki : (k : Int) = (i : Int)
    · refine evPos hki (skip ?_)
      obtain rfl : k = i := by omega
      simp only [acc]
      by_cases hz : ow c d k = 0
      · rw [if_pos hz]
      · rw [if_neg hz, own h hlt hz hab, if_pos rfl]
    · refine evNeg hki (evPos (by omega) ?_)
      rw [rd_owes hlt]
      by_cases hz : ow c d k = 0
      · have hb : (ow c d k == 0) = true := beq_iff_eq.mpr hz
        rw [hb]
        exact skip (by simp only [acc]; rw [if_pos hz])
      · have hb : (ow c d k == 0) = false := beq_eq_false_iff_ne.mpr hz
        rw [hb]
        have hrow := (h.1.2.2.2 k hlt)
        have hob := ow_bd h.1 hlt
        have hx := hrow.2.2.2.2 i hi
        have hrl := hrow.2.2.1
        refine Ev.step (fun n => by rw [impl_gets.j2]) ?_
        refine evNeg (by decide) (evPos (by omega) (evPos (by omega) (evPos (by omega) (evPos (by omega) ?_))))
        rw [rd_owes hlt]
        have hpt := pt_ok h.1 hi hlt hz
        have htm := tm_ok h hfit hi hlt hz
        have htt := hfit i k hi hlt hz
        refine Ev.bind (a := pt c d i k) (ilowest _ _ (by omega) (by omega) (by omega)) (evPos (by rw [h.2.1]; omega) ?_)
        refine Ev.bind (a := tm c d ps i k) (itimes (h.2.2 k hlt).1 hpt.2) ?_
        refine Ev.bind (a := plusL a b (tm c d ps i k).1 (tm c d ps i k).2.1) (iplus hab htm) ?_
        refine evPos htt ?_
        simp only [acc] at hacc
        rw [if_neg hz] at hacc
        rw [hk1.out]
        by_cases hp : (plusL a b (tm c d ps i k).1 (tm c d ps i k).2.1).2.2 = true
        · rw [if_pos hp] at hacc
          refine evPos hp ?_
          exact ih (k + 1) _ _ (by omega) (by omega) (plus_ok hab htm hp) hacc
        · rw [if_neg hp] at hacc
          refine evNeg hp (evEq (Ev.now _) (hN hacc.symm).symm)
theorem ig_l0 (h : PaysP c d ps) (hfit : Fits c d ps) : ∀ (e i : Nat) (out : List F), c.length - i = e → i ≤ c.length → out.length = i →
    Ev (fun n => impl_gets.l0 n ps (owes c d) out c (c.length : Int) (i : Int) c d) (gv c d ps e i out) := by
  have h4 := h.1.2.1
  intro e
  induction e with
  | zero =>
    intro i out he hi hout
    refine Ev.step (fun n => by rw [impl_gets.l0]) ?_
    exact evNeg (by omega) (Ev.now _)
  | succ e ih =>
    intro i out he hi hout
    have hlt : i < c.length := by omega
    have hc := h.1.2.2.2 i hlt
    refine Ev.step (fun n => by rw [impl_gets.l0]) ?_
    refine evPos (by omega) (evPos (by omega) (evPos (by omega) (evBind0 (a := (rd c (i : Int), 1)) rfl ?_)))
    refine ig_l1 h hfit hlt out (by omega) ?_ ?_ c.length 0 (rd c (i : Int)) 1 rfl (by omega) (one_ok hc.1 (by have := hc.2.1; omega)) rfl
    · intro a b hab
      have := ih (i + 1) (out ++ [(⟨a, b⟩ : F)]) (by omega) (by omega) (by rw [List.length_append, hout]; rfl)
      simp only [gv, hab]
      exact this
    · intro hn
      simp only [gv, hn]
theorem igets (h : PaysP c d ps) (hfit : Fits c d ps) : Ev (fun n => impl_gets.f n c d ps) (getsV c d ps) := by
  unfold impl_gets.f
  exact Ev.bind (iowes h.1) (ig_l0 h hfit c.length 0 [] rfl (by omega) rfl)
theorem sg_l1 (h : PaysP c d ps) (hfit : Fits c d ps) {i : Nat} (hi : i < c.length) (out : List F) (ho : out.length ≤ 4) {r : List F × Bool}
    (hR : ∀ a b : Int, acc c d ps i c.length 0 (rd c (i : Int)) 1 = some (a, b) → Ev (fun n => spec_GetsOf.l0 n ps (out ++ [(⟨a, b⟩ : F)]) (owes c d) ((i + 1 : Nat) : Int) c d) r)
    (hN : acc c d ps i c.length 0 (rd c (i : Int)) 1 = none → r = ([], false)) : ∀ (e k : Nat) (a b : Int), c.length - k = e → k ≤ c.length → FracP a b → acc c d ps i e k a b = acc c d ps i c.length 0 (rd c (i : Int)) 1 →
    Ev (fun n => spec_GetsOf.l1 n ps out (owes c d) (i : Int) (k : Int) c d a b) r := by
  have h4 := h.1.2.1
  have hdl := h.1.2.2.1
  have hpl := h.2.1
  have hs : Aside0 (wrap64 ((i : Int) + 1) = ((i + 1 : Nat) : Int)) := ⟨wsucc hi (by omega)⟩
  have hol := owes_len c d
  intro e
  induction e with
  | zero =>
    intro k a b he hk hab hacc
    refine Ev.step (fun n => by rw [spec_GetsOf.l1]) ?_
    rw [hs.out]
    refine evNeg (by omega) (evPos (by omega) (hR a b ?_))
    rw [← hacc]; rfl
  | succ e ih =>
    intro k a b he hk hab hacc
    have hlt : k < c.length := by omega
    have hk1 : Aside0 (wrap64 ((k : Int) + 1) = ((k + 1 : Nat) : Int)) := ⟨wsucc hlt (by omega)⟩
    refine Ev.step (fun n => by rw [spec_GetsOf.l1]) ?_
    refine evPos (by omega) (evPos (by omega) (evPos (by omega) ?_))
    rw [rd_owes hlt, hk1.out]
    simp only [acc] at hacc
    by_cases hz : ow c d k = 0
    · rw [if_pos hz] at hacc
      exact evPos hz (ih (k + 1) a b (by omega) (by omega) hab hacc)
    · rw [if_neg hz] at hacc
      have hrow := (h.1.2.2.2 k hlt)
      have hob := ow_bd h.1 hlt
      have hx := hrow.2.2.2.2 i hi
      have hrl := hrow.2.2.1
      refine evNeg hz (evPos (by omega) (evPos (by omega) (evPos (by omega) ?_)))
      have hpt := pt_ok h.1 hi hlt hz
      have htm := tm_ok h hfit hi hlt hz
      have htt := hfit i k hi hlt hz
      refine Ev.bind (a := pt c d i k) (sfrac ⟨by omega, by omega⟩ (by omega) (by omega)) ?_
      refine Ev.bind (a := tm c d ps i k) (stimes (h.2.2 k hlt).1 hpt.2) ?_
      refine Ev.bind (a := plusL a b (tm c d ps i k).1 (tm c d ps i k).2.1) (splus hab htm) ?_
      refine evPos htt ?_
      by_cases hp : (plusL a b (tm c d ps i k).1 (tm c d ps i k).2.1).2.2 = true
      · rw [if_pos hp] at hacc
        refine evPos hp ?_
        exact ih (k + 1) _ _ (by omega) (by omega) (plus_ok hab htm hp) hacc
      · rw [if_neg hp] at hacc
        refine evNeg hp (evEq (Ev.now _) (hN hacc.symm).symm)
theorem sg_l0 (h : PaysP c d ps) (hfit : Fits c d ps) : ∀ (e i : Nat) (out : List F), c.length - i = e → i ≤ c.length → out.length = i →
    Ev (fun n => spec_GetsOf.l0 n ps out (owes c d) (i : Int) c d) (gv c d ps e i out) := by
  have h4 := h.1.2.1
  have hpl := h.2.1
  intro e
  induction e with
  | zero =>
    intro i out he hi hout
    refine Ev.step (fun n => by rw [spec_GetsOf.l0]) ?_
    exact evNeg (by omega) (Ev.now _)
  | succ e ih =>
    intro i out he hi hout
    have hlt : i < c.length := by omega
    have hc := h.1.2.2.2 i hlt
    refine Ev.step (fun n => by rw [spec_GetsOf.l0]) ?_
    refine evPos (by omega) (evPos (by omega) (evPos (by omega) ?_))
    refine sg_l1 h hfit hlt out (by omega) ?_ ?_ c.length 0 (rd c (i : Int)) 1 rfl (by omega) (one_ok hc.1 (by have := hc.2.1; omega)) rfl
    · intro a b hab
      have := ih (i + 1) (out ++ [(⟨a, b⟩ : F)]) (by omega) (by omega) (by rw [List.length_append, hout]; rfl)
      simp only [gv, hab]
      exact this
    · intro hn
      simp only [gv, hn]
theorem sgetsOf (h : PaysP c d ps) (hfit : Fits c d ps) : Ev (fun n => spec_GetsOf.f n c d ps) (getsV c d ps) := by
  have := h.1.2.1
  unfold spec_GetsOf.f
  exact evBind0 rfl (Ev.bind ((spays c d ps (by rw [h.2.1]; omega)).yes h) (evPos rfl (Ev.bind (sowes h.1) (sg_l0 h hfit c.length 0 [] rfl (by omega) rfl))))
theorem sgetsOf_no (hl : ps.length ≤ 4611686018427387904) (h : ¬ PaysP c d ps) : Ev (fun n => spec_GetsOf.f n c d ps) ([], false) := by
  unfold spec_GetsOf.f
  exact evBind0 rfl (Ev.bind ((spays c d ps hl).no h) (evNeg (by decide) (Ev.now _)))
end Go.Proofs.Ytigpmfoagkhaeaa.Gv

namespace Go.Proofs.Ytigpmfoagkhaeaa.PU
open Go.RowKit Go.Proofs.YtigpmfoagkhaeaaW.PrintWords Go.Proofs.YtigpmfoagkhaeaaW.PrintLast Go.Proofs.YtigpmfoagkhaeaaW.PrintMore Go.Proofs.Ytigpmfoagkhaeaa.Qd
attribute [local go_sem] max2_int min2_int max_two min_two max_three min_three max_four min_four   -- for this text's walks alone
set_option linter.unusedVariables false
set_option linter.unusedSimpArgs false
end Go.Proofs.Ytigpmfoagkhaeaa.PU

namespace Go.Proofs.Ytigpmfoagkhaeaa.PU
open Go.RowKit Go.Proofs.YtigpmfoagkhaeaaW.PrintWords Go.Proofs.YtigpmfoagkhaeaaW.PrintLast Go.Proofs.YtigpmfoagkhaeaaW.PrintMore Go.Proofs.Ytigpmfoagkhaeaa.Qd
attribute [local go_sem] max2_int min2_int max_two min_two max_three min_three max_four min_four   -- for this text's walks alone
set_option linter.unusedVariables false
set_option linter.unusedSimpArgs false
end Go.Proofs.Ytigpmfoagkhaeaa.PU

namespace Go.Proofs.Ytigpmfoagkhaeaa.Np
open Go.RowKit Go.Proofs.Ytigpmfoagkhaeaa.PU Go.Proofs.Ytigpmfoagkhaeaa.Qh Go.Proofs.Ytigpmfoagkhaeaa.Bk Go.Proofs.Ytigpmfoagkhaeaa.Ow Go.Proofs.Ytigpmfoagkhaeaa.Fr Go.Proofs.Ytigpmfoagkhaeaa.Py Go.Proofs.YtigpmfoagkhaeaaW.PrintWords Go.Proofs.YtigpmfoagkhaeaaW.PrintMore
set_option linter.unusedVariables false
set_option linter.unusedSimpArgs false
abbrev F := S36
def none_ (n : Nat) : List F := List.replicate n (⟨0, 1⟩ : F)
def all_ (c : List Int) (d : List (List Int)) : List F := (List.range c.length).map (fun i => (⟨ow c d i, 1⟩ : F))
theorem rF (xs : List F) (i : Nat) : rd_T36 xs (i : Int) = xs.getD i z36 := rfl
theorem none_get {n i : Nat} (h : i < n) : rd_T36 (none_ n) (i : Int) = (⟨0, 1⟩ : F) := by
  rw [rF, List.getD_eq_getElem?_getD, none_, List.getElem?_replicate, if_pos h]; rfl
theorem all_len (c : List Int) (d : List (List Int)) : (all_ c d).length = c.length := by simp [all_]
theorem all_get {c : List Int} {d : List (List Int)} {i : Nat} (h : i < c.length) : rd_T36 (all_ c d) (i : Int) = (⟨ow c d i, 1⟩ : F) := by
  rw [rF, List.getD_eq_getElem?_getD, List.getElem?_eq_getElem (by rw [all_len]; exact h)]; simp [all_]
theorem none_ok {c : List Int} {d : List (List Int)} (h : BookP c d) : PaysP c d (none_ c.length) := by
  refine ⟨h, by simp [none_], fun i hi => ?_⟩
  have ho := ow_bd h hi
  unfold PayP fu fd
  rw [none_get hi]
  exact ⟨whole_ok (n := 0) (by omega) (by omega), by show (0 : Int) ≤ 0; omega, by show (0 : Int) ≤ ow c d i * 1; omega⟩
theorem all_ok {c : List Int} {d : List (List Int)} (h : BookP c d) : PaysP c d (all_ c d) := by
  refine ⟨h, all_len c d, fun i hi => ?_⟩
  have ho := ow_bd h hi
  unfold PayP fu fd
  rw [all_get hi]
  exact ⟨whole_ok (n := ow c d i) ho.1 (by omega), ho.1, by show ow c d i ≤ ow c d i * 1; omega⟩
theorem iall_l {c : List Int} {d : List (List Int)} (h : BookP c d) : ∀ (e i : Nat), c.length - i = e → i ≤ c.length → Ev (fun k => impl_allPaid.l0 k ((List.range i).map (fun i => (⟨ow c d i, 1⟩ : F))) (owes c d) ((owes c d).length : Int) (i : Int)) (all_ c d) := by
  have h4 := h.2.1
  have hol := owes_len c d
  intro e
  induction e with
  | zero =>
    intro i he hi
    obtain rfl : i = c.length := by omega
    refine Ev.step (fun k => by rw [impl_allPaid.l0]) ?_
    exact evNeg (by omega) (Ev.now _)
  | succ e ih =>
    intro i he hi
    have hlt : i < c.length := by omega
    have hs : Aside0 (wrap64 ((i : Int) + 1) = ((i + 1 : Nat) : Int)) := ⟨wsucc hlt (by omega)⟩
    have hl : ((List.range i).map (fun i => (⟨ow c d i, 1⟩ : F))).length = i := by simp
    refine Ev.step (fun k => by rw [impl_allPaid.l0]) ?_
    refine evPos (by omega) (evPos (by omega) (evPos (by omega) ?_))
    rw [rd_owes hlt]
    refine evBind0 (a := (ow c d i, 1)) rfl (evPos (by omega) ?_)
    rw [hs.out]
    have := ih (i + 1) (by omega) (by omega)
    rwa [List.range_succ, List.map_append] at this
theorem iall (c : List Int) (d : List (List Int)) : Ev (fun k => impl_AllPaid.f k c d) (@ite _ (BookP c d) (Classical.propDecidable _) (all_ c d) []) := by
  unfold impl_AllPaid.f
  by_cases h : BookP c d
  · refine Ev.bind ((isBook c d).yes h) (evPos rfl (Ev.bind (a := all_ c d) ?_ ?_))
    · unfold impl_allPaid.f
      exact Ev.bind (iowes h) (iall_l h _ 0 rfl (by omega))
    · rw [if_pos h]; exact Ev.now _
  · refine Ev.bind ((isBook c d).no h) (evNeg (by decide) ?_)
    rw [if_neg h]; exact Ev.now _
end Go.Proofs.Ytigpmfoagkhaeaa.Np

namespace Go.Proofs.Ytigpmfoagkhaeaa.Vl
open Go.RowKit Go.Proofs.Ytigpmfoagkhaeaa.PU Go.Proofs.Ytigpmfoagkhaeaa.Qh Go.Proofs.Ytigpmfoagkhaeaa.Bk Go.Proofs.Ytigpmfoagkhaeaa.Ow Go.Proofs.Ytigpmfoagkhaeaa.Fr Go.Proofs.Ytigpmfoagkhaeaa.Py Go.Proofs.Ytigpmfoagkhaeaa.Gt Go.Proofs.Ytigpmfoagkhaeaa.Gv Go.Proofs.Ytigpmfoagkhaeaa.Np Go.Proofs.YtigpmfoagkhaeaaW.PrintWords Go.Proofs.YtigpmfoagkhaeaaW.PrintMore
set_option linter.unusedVariables false
set_option linter.unusedSimpArgs false
abbrev F := S36
def Is (D X a b : Int) : Prop := 0 < b ∧ a * D = X * b
def sumF (f : Nat → Int) : Nat → Int
  | 0 => 0
  | n + 1 => sumF f n + f n
theorem one_is (n : Int) (D : Int) : Is D (n * D) n 1 := ⟨by omega, by rw [Int.mul_one]⟩
theorem plus_is {D X Y a b p q s t : Int} (h : Is D X a b) (k : Is D Y p q) (e : plusL a b p q = (s, t, true)) : Is D (X + Y) s t := by
  have hb := h.1; have hq := k.1; have h2 := h.2; have k2 := k.2
  have m : 0 < b * q := Int.mul_pos hb hq
  obtain ⟨hf, hv⟩ := low_val m e
  refine ⟨by have := hf.2.2.1; omega, ?_⟩
  apply Int.eq_of_mul_eq_mul_right (a := b * q) (by omega)
  have e1 : s * D * (b * q) = (s * (b * q)) * D := by grind
  have e2 : (a * q + p * b) * t * D = (a * D) * q * t + (p * D) * b * t := by grind
  rw [e1, hv, e2, h2, k2]
  grind
variable {c : List Int} {d : List (List Int)} {ps : List F}
abbrev db (d : List (List Int)) (k i : Nat) : Int := rd (rd_L2 d (k : Int)) (i : Int)
def Rep (c : List Int) (d : List (List Int)) (ps : List F) (D : Int) (T : Nat → Int) (i : Nat) : Prop := ∀ k, k < c.length → k ≠ i → fu ps k * D = T k * ow c d k * fd ps k
theorem tm_is (h : PaysP c d ps) {D : Int} {T : Nat → Int} {i k : Nat} (hr : Rep c d ps D T i) (hki : k ≠ i) (hi : i < c.length) (hk : k < c.length) (h0 : ow c d k ≠ 0) (hfit : Fits c d ps) : Is D (T k * db d k i) (tm c d ps i k).1 (tm c d ps i k).2.1 := by
  have ho := ow_bd h.1 hk
  have hp := pt_ok h.1 hi hk h0
  have hy := (h.2.2 k hk).1
  have ht := hfit i k hi hk h0
  have hfd : 0 < fd ps k := by have := hy.2.2.1; omega
  have e1 : pt c d i k = ((pt c d i k).1, (pt c d i k).2.1, true) := by rw [← hp.1]
  have e2 : tm c d ps i k = ((tm c d ps i k).1, (tm c d ps i k).2.1, true) := by rw [← ht]
  have hpq : 0 < (pt c d i k).2.1 := by have := hp.2.2.2.1; omega
  have v1 := (low_val (up := db d k i) (down := ow c d k) (by omega) e1).2
  have v2 := low_val (up := fu ps k * (pt c d i k).1) (down := fd ps k * (pt c d i k).2.1) (Int.mul_pos hfd hpq) e2
  have hR := hr k hk hki
  refine ⟨by have := v2.1.2.2.1; omega, ?_⟩
  generalize (tm c d ps i k).1 = s at v2 ⊢
  generalize (tm c d ps i k).2.1 = t at v2 ⊢
  generalize (pt c d i k).1 = x at v1 v2
  generalize (pt c d i k).2.1 = y at v1 v2 hpq
  have w2 := v2.2
  generalize fu ps k = u at w2 hR
  generalize fd ps k = f at w2 hR hfd
  generalize ow c d k = o at v1 hR h0 ho
  generalize T k = τ at hR ⊢
  generalize db d k i = z at v1 ⊢
  have m : 0 < f * y * o := Int.mul_pos (Int.mul_pos hfd hpq) (by omega)
  apply Int.eq_of_mul_eq_mul_right (a := f * y * o) (by omega)
  have a1 : s * D * (f * y * o) = (s * (f * y)) * D * o := by grind
  have a2 : u * x * t * D * o = (u * D) * (x * o) * t := by grind
  rw [a1, w2, a2, hR, v1]
  grind
theorem db_zero (h : BookP c d) {i k : Nat} (hi : i < c.length) (hk : k < c.length) (h0 : ow c d k = 0) : db d k i = 0 := by
  have hx := fun j hj => (h.2.2.2 k hk).2.2.2.2 j hj
  have key : ∀ m : Nat, m ≤ c.length → (∀ j : Nat, j < m → db d k j ≤ sm (rd_L2 d (k : Int)) m) := by
    intro m
    induction m with
    | zero => intro _ j hj; omega
    | succ m ih =>
      intro hm j hj
      have h1 := sm_bd h hk m (by omega)
      have h2 := hx m (by omega)
      simp only [sm]
      by_cases e : j = m
      · subst e; show db d k j ≤ _; unfold db at *; omega
      · have := ih (by omega) j (by omega); unfold db at *; omega
  have := key c.length (Nat.le_refl _) i hi
  have h2 := hx i hi
  unfold ow at h0
  unfold db at *
  omega
theorem acc_is (h : PaysP c d ps) (hfit : Fits c d ps) {D : Int} {T : Nat → Int} {i : Nat} (hr : Rep c d ps D T i) (hi : i < c.length) : ∀ (e k : Nat) (a b s t : Int) (X : Int), c.length - k = e → k ≤ c.length → FracP a b → Is D X a b → acc c d ps i e k a b = some (s, t) →
    FracP s t ∧ Is D (X + (sumF (fun k => T k * db d k i) (k + e) - sumF (fun k => T k * db d k i) k)) s t := by
  intro e
  induction e with
  | zero =>
    intro k a b s t X he hk hf hX hacc
    simp only [acc, Option.some.injEq, Prod.mk.injEq] at hacc
    obtain ⟨rfl, rfl⟩ := hacc
    refine ⟨hf, ?_⟩
    rw [Nat.add_zero, Int.sub_self, Int.add_zero]
    exact hX
  | succ e ih =>
    intro k a b s t X he hk hf hX hacc
    have hlt : k < c.length := by omega
    have hs : sumF (fun k => T k * db d k i) (k + (e + 1)) = sumF (fun k => T k * db d k i) (k + 1 + e) := by rw [show k + (e + 1) = k + 1 + e by omega]
    have hs2 : sumF (fun k => T k * db d k i) (k + 1) = sumF (fun k => T k * db d k i) k + T k * db d k i := rfl
    simp only [acc] at hacc
    by_cases hz : ow c d k = 0
    · rw [if_pos hz] at hacc
      have := ih (k + 1) a b s t X (by omega) (by omega) hf hX hacc
      rw [hs2, db_zero h.1 hi hlt hz, Int.mul_zero, Int.add_zero] at this
      rw [hs]; exact this
    · rw [if_neg hz] at hacc
      by_cases hki : k = i
      · subst hki
        rw [own h hlt hz hf] at hacc
        simp only [if_pos] at hacc
        have := ih (k + 1) a b s t X (by omega) (by omega) hf hX hacc
        have hd : db d k k = 0 := (h.1.2.2.2 k hlt).2.2.2.1
        rw [hs2, hd, Int.mul_zero, Int.add_zero] at this
        rw [hs]; exact this
      by_cases hp : (plusL a b (tm c d ps i k).1 (tm c d ps i k).2.1).2.2 = true
      · rw [if_pos hp] at hacc
        have ht := tm_is h hr hki hi hlt hz hfit
        have htf := tm_ok h hfit hi hlt hz
        have e1 : plusL a b (tm c d ps i k).1 (tm c d ps i k).2.1 = ((plusL a b (tm c d ps i k).1 (tm c d ps i k).2.1).1, (plusL a b (tm c d ps i k).1 (tm c d ps i k).2.1).2.1, true) := by rw [← hp]
        have := ih (k + 1) _ _ s t (X + T k * db d k i) (by omega) (by omega) (plus_ok hf htf hp) (plus_is hX ht e1) hacc
        rw [hs2] at this
        rw [hs]
        refine ⟨this.1, ?_⟩
        have e2 : X + (sumF (fun k => T k * db d k i) (k + 1 + e) - sumF (fun k => T k * db d k i) k) = X + T k * db d k i + (sumF (fun k => T k * db d k i) (k + 1 + e) - (sumF (fun k => T k * db d k i) k + T k * db d k i)) := by omega
        rw [e2]
        exact this.2
      · rw [if_neg hp] at hacc; simp at hacc
def val (c : List Int) (d : List (List Int)) (D : Int) (T : Nat → Int) (i : Nat) : Int := rd c (i : Int) * D + sumF (fun k => T k * db d k i) c.length
theorem rF (xs : List F) (i : Nat) : rd_T36 xs (i : Int) = xs.getD i z36 := rfl
theorem fr_app (xs : List F) (x : F) (j : Nat) : rd_T36 (xs ++ [x]) (j : Int) = if j < xs.length then rd_T36 xs (j : Int) else if j = xs.length then x else z36 := by
  rw [rF, rF, List.getD_eq_getElem?_getD, List.getD_eq_getElem?_getD, List.getElem?_append]
  by_cases h : j < xs.length
  · simp [h]
  · by_cases e : j = xs.length
    · subst e; simp
    · rw [if_neg h, if_neg h, if_neg e, List.getElem?_eq_none (by simp; omega)]; rfl
theorem gv_is (h : PaysP c d ps) (hfit : Fits c d ps) {D : Nat → Int} {T : Nat → Nat → Int} (hr : ∀ i, i < c.length → Rep c d ps (D i) (T i) i) : ∀ (e i : Nat) (out res : List F), c.length - i = e → i ≤ c.length → out.length = i → (∀ j : Nat, j < i → FracP (fu out j) (fd out j) ∧ Is (D j) (val c d (D j) (T j) j) (fu out j) (fd out j)) → gv c d ps e i out = (res, true) →
    res.length = c.length ∧ ∀ j : Nat, j < c.length → FracP (fu res j) (fd res j) ∧ Is (D j) (val c d (D j) (T j) j) (fu res j) (fd res j) := by
  intro e
  induction e with
  | zero =>
    intro i out res he hi hl hj hg
    simp only [gv, Prod.mk.injEq, and_true] at hg
    subst hg
    exact ⟨by omega, fun j h2 => hj j (by omega)⟩
  | succ e ih =>
    intro i out res he hi hl hj hg
    have hlt : i < c.length := by omega
    have hc := h.1.2.2.2 i hlt
    simp only [gv] at hg
    cases ha : acc c d ps i c.length 0 (rd c (i : Int)) 1 with
    | none => rw [ha] at hg; simp at hg
    | some r =>
      rw [ha] at hg
      obtain ⟨s, t⟩ := r
      have hv := acc_is h hfit (hr i hlt) hlt c.length 0 _ _ s t _ rfl (by omega) (one_ok hc.1 (by have := hc.2.1; omega)) (one_is _ (D i)) ha
      refine ih (i + 1) _ res (by omega) (by omega) (by rw [List.length_append, hl]; rfl) ?_ hg
      intro j hj2
      unfold fu fd
      rw [fr_app, hl]
      by_cases e2 : j < i
      · rw [if_pos e2]; exact hj j e2
      · obtain rfl : j = i := by omega
        rw [if_neg e2, if_pos rfl]
        refine ⟨hv.1, ?_⟩
        have := hv.2
        rw [Nat.zero_add, show sumF (fun k => T j k * db d k j) 0 = 0 from rfl, Int.sub_zero] at this
        exact this
theorem gv_no : ∀ {e i : Nat} {out : List F}, (gv c d ps e i out).2 = true ∨ gv c d ps e i out = ([], false) := by
  intro e
  induction e with
  | zero => intro i out; left; rfl
  | succ e ih =>
    intro i out
    simp only [gv]
    cases acc c d ps i c.length 0 (rd c (i : Int)) 1 with
    | none => right; rfl
    | some r => exact ih
theorem gets_cases (h : PaysP c d ps) (hfit : Fits c d ps) : getsV c d ps = ([], false) ∨ ∃ res : List F, getsV c d ps = (res, true) ∧ res.length = c.length ∧ (∀ j : Nat, j < c.length → FracP (fu res j) (fd res j)) ∧ ∀ (D : Nat → Int) (T : Nat → Nat → Int), (∀ i, i < c.length → Rep c d ps (D i) (T i) i) → ∀ j : Nat, j < c.length → Is (D j) (val c d (D j) (T j) j) (fu res j) (fd res j) := by
  rcases gv_no (c := c) (d := d) (ps := ps) (e := c.length) (i := 0) (out := []) with h1 | h1
  · right
    have z := gv_is (D := fun _ => 0) (T := fun _ _ => 0) h hfit (fun i _ k _ _ => by simp) c.length 0 [] (getsV c d ps).1 rfl (by omega) rfl (fun j hj => by omega) (by rw [← h1]; rfl)
    refine ⟨(getsV c d ps).1, by rw [← h1]; rfl, z.1, fun j hj => (z.2 j hj).1, ?_⟩
    intro D T hr j hj
    exact ((gv_is h hfit hr c.length 0 [] _ rfl (by omega) rfl (fun j hj => by omega) (by rw [← h1]; rfl)).2 j hj).2
  · left; exact h1
theorem is_lt {D X Y a b p q : Int} (hD : 0 < D) (h : Is D X a b) (k : Is D Y p q) : (a * q < p * b) ↔ X < Y := by
  have hb := h.1; have hq := k.1; have h2 := h.2; have k2 := k.2
  have m : 0 < b * q := Int.mul_pos hb hq
  have e1 : a * q * D = X * (b * q) := by
    have : a * q * D = (a * D) * q := by grind
    rw [this, h2]; grind
  have e2 : p * b * D = Y * (b * q) := by
    have : p * b * D = (p * D) * b := by grind
    rw [this, k2]; grind
  constructor
  · intro hl
    have := Int.mul_lt_mul_of_pos_right hl hD
    rw [e1, e2] at this
    exact Int.lt_of_mul_lt_mul_right this (by omega)
  · intro hl
    have := Int.mul_lt_mul_of_pos_right hl m
    rw [← e1, ← e2] at this
    exact Int.lt_of_mul_lt_mul_right this (by omega)
end Go.Proofs.Ytigpmfoagkhaeaa.Vl

namespace Go.Proofs.Ytigpmfoagkhaeaa.Vf
open Go.RowKit Go.Proofs.Ytigpmfoagkhaeaa.PU Go.Proofs.Ytigpmfoagkhaeaa.Qh Go.Proofs.Ytigpmfoagkhaeaa.Bk Go.Proofs.Ytigpmfoagkhaeaa.Ow Go.Proofs.Ytigpmfoagkhaeaa.Fr Go.Proofs.Ytigpmfoagkhaeaa.Py Go.Proofs.Ytigpmfoagkhaeaa.Gt Go.Proofs.Ytigpmfoagkhaeaa.Gv Go.Proofs.Ytigpmfoagkhaeaa.Np Go.Proofs.Ytigpmfoagkhaeaa.Vl Go.Proofs.YtigpmfoagkhaeaaW.PrintWords Go.Proofs.YtigpmfoagkhaeaaW.PrintMore
set_option linter.unusedVariables false
set_option linter.unusedSimpArgs false
abbrev F := S36
variable {c : List Int} {d : List (List Int)} {ps : List F}
theorem fits_of (h : PaysP c d ps) (hM : ∀ k, k < c.length → fd ps k ≤ 3000000) : Fits c d ps := by
  intro i k hi hk h0
  have ho := ow_bd h.1 hk
  have hx := (h.1.2.2.2 k hk).2.2.2.2 i hi
  have hy := h.2.2 k hk
  have hf := hy.1
  have hfM := hM k hk
  have f3 := hf.2.2.1
  obtain ⟨p, q, e, hpf, hq⟩ := low_fits (x := rd (rd_L2 d (k : Int)) (i : Int)) (y := ow c d k) ⟨by omega, by omega⟩ (by omega) (by omega)
  have hv := (low_val (by omega) e).2
  have q1 := hpf.2.2.1
  have hp0 : 0 ≤ p := by
    rcases Int.lt_or_le p 0 with hn | hn
    · have h1 := Int.mul_lt_mul_of_pos_right hn (show 0 < ow c d k by omega)
      rw [Int.zero_mul, hv] at h1
      have h2 := Int.mul_nonneg hx.1 (show 0 ≤ q by omega)
      omega
    · exact hn
  have hp9 : p ≤ 9 := by
    rcases Int.lt_or_le 9 p with hn | hn
    · have h1 := Int.mul_lt_mul_of_pos_right hn (show 0 < ow c d k by omega)
      rw [hv] at h1
      have h2 := Int.mul_le_mul_of_nonneg_right hx.2 (show 0 ≤ q by omega)
      omega
    · exact hn
  have hu0 := hy.2.1
  have hu1 : fu ps k ≤ 36 * 3000000 := by
    have h1 := Int.mul_le_mul_of_nonneg_right (show ow c d k ≤ 36 by omega) (show 0 ≤ fd ps k by omega)
    have := hy.2.2
    omega
  have m0 := Int.mul_nonneg hu0 hp0
  have m1 : fu ps k * p ≤ fu ps k * 9 := Int.mul_le_mul_of_nonneg_left hp9 hu0
  have m2 : fd ps k * q ≤ fd ps k * 36 := Int.mul_le_mul_of_nonneg_left (by omega) (by omega)
  have m3 : 0 < fd ps k * q := Int.mul_pos (by omega) (by omega)
  unfold tm timesL pt
  rw [e]
  obtain ⟨s, t, e2, _, _⟩ := low_fits (x := fu ps k * p) (y := fd ps k * q) ⟨by omega, by omega⟩ m3 (by omega)
  show (low (fu ps k * p) (fd ps k * q)).2.2 = true
  rw [e2]
def prodF (f : Nat → Int) : Nat → Int
  | 0 => 1
  | n + 1 => prodF f n * f n
theorem prodF_pos {f : Nat → Int} : ∀ {n : Nat}, (∀ k, k < n → 0 < f k) → 0 < prodF f n
  | 0, _ => by show (0 : Int) < 1; omega
  | n + 1, h => Int.mul_pos (prodF_pos (fun k hk => h k (by omega))) (h n (by omega))
theorem prodF_dvd {f : Nat → Int} : ∀ {n k : Nat}, k < n → f k ∣ prodF f n
  | 0, _, h => by omega
  | n + 1, k, h => by
    by_cases e : k = n
    · subst e; exact ⟨prodF f k, by rw [prodF, Int.mul_comm]⟩
    · obtain ⟨z, hz⟩ := prodF_dvd (f := f) (n := n) (k := k) (by omega)
      exact ⟨z * f n, by rw [prodF, hz, Int.mul_assoc]⟩
theorem rep_ex (h : PaysP c d ps) : ∃ D T, 0 < D ∧ (∀ k, k < c.length → 0 ≤ T k) ∧ ∀ i, Rep c d ps D T i := by
  let m : Nat → Int := fun k => if ow c d k = 0 then 1 else fd ps k * ow c d k
  have hm : ∀ k, k < c.length → 0 < m k := by
    intro k hk
    have ho := ow_bd h.1 hk
    have := (h.2.2 k hk).1.2.2.1
    show 0 < (if ow c d k = 0 then (1 : Int) else fd ps k * ow c d k)
    split
    · omega
    · exact Int.mul_pos (by omega) (by omega)
  have hD := prodF_pos (f := m) (n := c.length) hm
  refine ⟨prodF m c.length, fun k => if ow c d k = 0 then 0 else fu ps k * (prodF m c.length / m k), hD, ?_, ?_⟩
  · intro k hk
    show 0 ≤ (if ow c d k = 0 then (0 : Int) else fu ps k * (prodF m c.length / m k))
    split
    · omega
    · exact Int.mul_nonneg (h.2.2 k hk).2.1 (Int.ediv_nonneg (by omega) (by have := hm k hk; omega))
  · intro i k hk _
    show fu ps k * prodF m c.length = (if ow c d k = 0 then (0 : Int) else fu ps k * (prodF m c.length / m k)) * ow c d k * fd ps k
    by_cases hz : ow c d k = 0
    · have h1 := (h.2.2 k hk).2.1
      have h2 := (h.2.2 k hk).2.2
      rw [hz, Int.zero_mul] at h2
      have h3 : fu ps k = 0 := by omega
      rw [if_pos hz, h3]; simp
    · rw [if_neg hz]
      have e : prodF m c.length / m k * m k = prodF m c.length := Int.ediv_mul_cancel (prodF_dvd (f := m) hk)
      have e2 : m k = fd ps k * ow c d k := if_neg hz
      generalize prodF m c.length / m k = z at e ⊢
      rw [← e, e2]
      grind
theorem sumF_nonneg {f : Nat → Int} : ∀ {n : Nat}, (∀ k, k < n → 0 ≤ f k) → 0 ≤ sumF f n
  | 0, _ => by show (0 : Int) ≤ 0; omega
  | n + 1, h => by
    have h1 := sumF_nonneg (f := f) (n := n) (fun k hk => h k (by omega))
    have h2 := h n (by omega)
    show 0 ≤ sumF f n + f n
    omega
theorem sumF_le {f g : Nat → Int} : ∀ {n : Nat}, (∀ k, k < n → f k ≤ g k) → sumF f n ≤ sumF g n
  | 0, _ => by show (0 : Int) ≤ 0; omega
  | n + 1, h => by
    have h1 := sumF_le (f := f) (g := g) (n := n) (fun k hk => h k (by omega))
    have h2 := h n (by omega)
    show sumF f n + f n ≤ sumF g n + g n
    omega
theorem db_bd (h : BookP c d) {i k : Nat} (hi : i < c.length) (hk : k < c.length) : 0 ≤ db d k i ∧ db d k i ≤ 9 := (h.2.2.2 k hk).2.2.2.2 i hi
theorem rep_le (h : PaysP c d ps) : ∃ D T, 0 < D ∧ (∀ k, k < c.length → 0 ≤ T k) ∧ (∀ k, k < c.length → ow c d k ≠ 0 → T k ≤ D) ∧ ∀ i, Rep c d ps D T i := by
  obtain ⟨D, T, hD, hT, hR⟩ := rep_ex h
  refine ⟨D, T, hD, hT, ?_, hR⟩
  intro k hk h0
  have ho := ow_bd h.1 hk
  have hy := h.2.2 k hk
  have hf := hy.1.2.2.1
  have e := hR (k + 1) k hk (by omega)
  have m : 0 < ow c d k * fd ps k := Int.mul_pos (by omega) (by omega)
  have h1 := Int.mul_le_mul_of_nonneg_right hy.2.2 (show 0 ≤ D by omega)
  rw [e] at h1
  have h2 : T k * (ow c d k * fd ps k) ≤ D * (ow c d k * fd ps k) := by
    rw [Int.mul_comm D, ← Int.mul_assoc]; exact h1
  exact Int.le_of_mul_le_mul_right h2 m
theorem val_mono (h : BookP c d) {D : Int} {T U : Nat → Int} (hT : ∀ k, k < c.length → ow c d k ≠ 0 → T k ≤ U k) {i : Nat} (hi : i < c.length) : val c d D T i ≤ val c d D U i := by
  have : sumF (fun k => T k * db d k i) c.length ≤ sumF (fun k => U k * db d k i) c.length := by
    refine sumF_le (fun k hk => ?_)
    by_cases hz : ow c d k = 0
    · rw [db_zero h hi hk hz]; simp
    · exact Int.mul_le_mul_of_nonneg_right (hT k hk hz) (db_bd h hi hk).1
  unfold val
  omega
theorem val_all (c : List Int) (d : List (List Int)) (D : Int) (i : Nat) : val c d D (fun _ => D) i = (rd c (i : Int) + sumF (fun k => db d k i) c.length) * D := by
  have key : ∀ n : Nat, sumF (fun k => D * db d k i) n = sumF (fun k => db d k i) n * D := by
    intro n
    induction n with
    | zero => show (0 : Int) = 0 * D; simp
    | succ n ih => show sumF (fun k => D * db d k i) n + D * db d n i = (sumF (fun k => db d k i) n + db d n i) * D; rw [ih, Int.add_mul, Int.mul_comm D]
  unfold val
  rw [key, Int.add_mul]
theorem val_le (h : BookP c d) {D : Int} {T : Nat → Int} (hT : ∀ k, k < c.length → ow c d k ≠ 0 → T k ≤ D) {i : Nat} (hi : i < c.length) : val c d D T i ≤ (rd c (i : Int) + sumF (fun k => db d k i) c.length) * D := by
  rw [← val_all]; exact val_mono h hT hi
theorem none_fits (h : BookP c d) : Fits c d (none_ c.length) := fits_of (none_ok h) (fun k hk => by unfold fd; rw [none_get hk]; show (1 : Int) ≤ 3000000; omega)
theorem all_fits (h : BookP c d) : Fits c d (all_ c d) := fits_of (all_ok h) (fun k hk => by unfold fd; rw [all_get hk]; show (1 : Int) ≤ 3000000; omega)
theorem none_tm (h : BookP c d) {i k : Nat} (hi : i < c.length) (hk : k < c.length) (h0 : ow c d k ≠ 0) : tm c d (none_ c.length) i k = (0, 1, true) := by
  have hp := (pt_ok h hi hk h0).2
  unfold tm timesL fu fd
  rw [none_get hk]
  have := hp.2.2.1
  exact low_of (show 0 < 1 * (pt c d i k).2.1 by omega) (one_ok (by omega) (by omega)) (by show 0 * (1 * (pt c d i k).2.1) = 0 * (pt c d i k).1 * 1; simp)
theorem none_acc (h : BookP c d) {i : Nat} (hi : i < c.length) : ∀ (e k : Nat) (a b : Int), c.length - k = e → k ≤ c.length → FracP a b → acc c d (none_ c.length) i e k a b = some (a, b) := by
  intro e
  induction e with
  | zero => intro k a b _ _ _; rfl
  | succ e ih =>
    intro k a b he hk hf
    simp only [acc]
    by_cases hz : ow c d k = 0
    · rw [if_pos hz]; exact ih (k + 1) a b (by omega) (by omega) hf
    · have hpl : plusL a b 0 1 = (a, b, true) := by
        unfold plusL
        exact low_of (by have := hf.2.2.1; omega) hf (by grind)
      rw [if_neg hz, none_tm h hi (by omega) hz, hpl, if_pos rfl]
      exact ih (k + 1) a b (by omega) (by omega) hf
def wholes (f : Nat → Int) (n : Nat) : List F := (List.range n).map (fun i => (⟨f i, 1⟩ : F))
theorem wholes_len (f : Nat → Int) (n : Nat) : (wholes f n).length = n := by simp [wholes]
theorem wholes_get {f : Nat → Int} {n i : Nat} (h : i < n) : rd_T36 (wholes f n) (i : Int) = (⟨f i, 1⟩ : F) := by
  rw [Vl.rF, List.getD_eq_getElem?_getD, List.getElem?_eq_getElem (by rw [wholes_len]; exact h)]; simp [wholes]
theorem gv_whole {f : Nat → Int} (hf : ∀ i, i < c.length → acc c d ps i c.length 0 (rd c (i : Int)) 1 = some (f i, 1)) : ∀ (e i : Nat), c.length - i = e → i ≤ c.length → gv c d ps e i (wholes f i) = (wholes f c.length, true) := by
  intro e
  induction e with
  | zero =>
    intro i he hi
    obtain rfl : i = c.length := by omega
    rfl
  | succ e ih =>
    intro i he hi
    simp only [gv]
    rw [hf i (by omega)]
    have := ih (i + 1) (by omega) (by omega)
    rw [← this, wholes, wholes, List.range_succ, List.map_append]
    rfl
theorem none_gets (h : BookP c d) : getsV c d (none_ c.length) = (wholes (fun i => rd c (i : Int)) c.length, true) := by
  refine gv_whole (f := fun i => rd c (i : Int)) (fun i hi => ?_) c.length 0 rfl (by omega)
  have hc := h.2.2.2 i hi
  exact none_acc h hi c.length 0 _ _ rfl (by omega) (one_ok hc.1 (by have := hc.2.1; omega))
theorem all_tm (h : BookP c d) {i k : Nat} (hi : i < c.length) (hk : k < c.length) (h0 : ow c d k ≠ 0) : tm c d (all_ c d) i k = (db d k i, 1, true) := by
  have ho := ow_bd h hk
  have hb := db_bd h hi hk
  obtain ⟨p, q, e, hpf, hq⟩ := low_fits (x := db d k i) (y := ow c d k) ⟨by omega, by omega⟩ (by omega) (by omega)
  have hv := (low_val (by omega) e).2
  have q1 := hpf.2.2.1
  unfold tm timesL fu fd
  rw [all_get hk]
  have e2 : pt c d i k = (p, q, true) := e
  rw [e2]
  exact low_of (show 0 < 1 * q by omega) (one_ok hb.1 (by omega)) (by show db d k i * (1 * q) = ow c d k * p * 1; grind)
theorem all_acc (h : BookP c d) {i : Nat} (hi : i < c.length) : ∀ (e k : Nat) (a : Int), c.length - k = e → k ≤ c.length → 0 ≤ a → a ≤ 100 + 9 * k → acc c d (all_ c d) i e k a 1 = some (a + (sumF (fun k => db d k i) (k + e) - sumF (fun k => db d k i) k), 1) := by
  have h4 := h.2.1
  intro e
  induction e with
  | zero => intro k a _ _ _ _; simp [acc]
  | succ e ih =>
    intro k a he hk h0 h1
    have hlt : k < c.length := by omega
    have hb := db_bd h hi hlt
    have hs : sumF (fun k => db d k i) (k + (e + 1)) = sumF (fun k => db d k i) (k + 1 + e) := by rw [show k + (e + 1) = k + 1 + e by omega]
    have hs2 : sumF (fun k => db d k i) (k + 1) = sumF (fun k => db d k i) k + db d k i := rfl
    simp only [acc]
    by_cases hz : ow c d k = 0
    · rw [if_pos hz, ih (k + 1) a (by omega) (by omega) h0 (by omega), hs, hs2, db_zero h hi hlt hz]; simp
    · have hpl : plusL a 1 (db d k i) 1 = (a + db d k i, 1, true) := by
        unfold plusL
        exact low_of (by decide) (one_ok (by omega) (by omega)) (by simp)
      rw [if_neg hz, all_tm h hi hlt hz, hpl, if_pos rfl, ih (k + 1) (a + db d k i) (by omega) (by omega) (by omega) (by omega), hs, hs2]
      congr 1; congr 1; omega
theorem all_gets (h : BookP c d) : getsV c d (all_ c d) = (wholes (fun i => rd c (i : Int) + sumF (fun k => db d k i) c.length) c.length, true) := by
  refine gv_whole (f := fun i => rd c (i : Int) + sumF (fun k => db d k i) c.length) (fun i hi => ?_) c.length 0 rfl (by omega)
  have hc := h.2.2.2 i hi
  rw [all_acc h hi c.length 0 _ rfl (by omega) hc.1 (by have := hc.2.1; omega), Nat.zero_add, show sumF (fun k => db d k i) 0 = 0 from rfl, Int.sub_zero]
end Go.Proofs.Ytigpmfoagkhaeaa.Vf

namespace Go.Proofs.Ytigpmfoagkhaeaa.Pd
open Go.RowKit Go.Proofs.Ytigpmfoagkhaeaa.PU Go.Proofs.Ytigpmfoagkhaeaa.Qh Go.Proofs.Ytigpmfoagkhaeaa.Dr Go.Proofs.Ytigpmfoagkhaeaa.Db Go.Proofs.Ytigpmfoagkhaeaa.Bk Go.Proofs.Ytigpmfoagkhaeaa.Ow Go.Proofs.Ytigpmfoagkhaeaa.Fr Go.Proofs.Ytigpmfoagkhaeaa.Py Go.Proofs.Ytigpmfoagkhaeaa.Dp Go.Proofs.Ytigpmfoagkhaeaa.Gv Go.Proofs.Ytigpmfoagkhaeaa.Vl Go.Proofs.Ytigpmfoagkhaeaa.Vf Go.Proofs.YtigpmfoagkhaeaaW.PrintWords Go.Proofs.YtigpmfoagkhaeaaW.PrintMore
set_option linter.unusedVariables false
set_option linter.unusedSimpArgs false
abbrev F := S36
theorem paid {b : List Int} (hb : Bytes b) : ∃ (c : List Int) (d : List (List Int)) (ps : List F) (q : Int), ps.length ≤ 5 ∧ LowD ps ∧ Ev (fun k => spec_l20Paid.f k b 0) (c, d, ps, q) := by
  obtain ⟨⟨c, d, q⟩, hr, hbk⟩ := book hb 20 (by omega) (by omega) 0 (by omega) (by omega)
  have hq0 : 0 ≤ q := hr.2.2.2.1
  have hq1 : q ≤ 0 + 50 := hr.2.2.2.2
  obtain ⟨⟨ps, q2⟩, hg, hps⟩ := Dp.pays hb 14 (by omega) (by omega) c d q hq0 (by omega)
  refine ⟨c, d, ps, q2, hg.1, hg.2.1, ?_⟩
  unfold spec_l20Paid.f
  exact Ev.bind hbk (Ev.bind hps (Ev.now _))
theorem low_fits {c : List Int} {d : List (List Int)} {ps : List F} (h : PaysP c d ps) (hl : LowD ps) : Fits c d ps := by
  refine fits_of h (fun k hk => ?_)
  have hm : rd_T36 ps (k : Int) ∈ ps := by
    rw [Vl.rF]; exact getD_mem _ ps k (by rw [h.2.1]; exact hk)
  have := (hl _ hm).2
  unfold fd
  omega
end Go.Proofs.Ytigpmfoagkhaeaa.Pd

namespace Go.Proofs.Ytigpmfoagkhaeaa.PU
open Go.RowKit Go.Proofs.YtigpmfoagkhaeaaW.PrintWords Go.Proofs.YtigpmfoagkhaeaaW.PrintLast Go.Proofs.YtigpmfoagkhaeaaW.PrintMore Go.Proofs.Ytigpmfoagkhaeaa.Qd
attribute [local go_sem] max2_int min2_int max_two min_two max_three min_three max_four min_four   -- for this text's walks alone
set_option linter.unusedVariables false
set_option linter.unusedSimpArgs false
end Go.Proofs.Ytigpmfoagkhaeaa.PU

namespace Go.Proofs.Ytigpmfoagkhaeaa.PU
open Go.RowKit Go.Proofs.YtigpmfoagkhaeaaW.PrintWords Go.Proofs.YtigpmfoagkhaeaaW.PrintLast Go.Proofs.YtigpmfoagkhaeaaW.PrintMore Go.Proofs.Ytigpmfoagkhaeaa.Qd
attribute [local go_sem] max2_int min2_int max_two min_two max_three min_three max_four min_four   -- for this text's walks alone
set_option linter.unusedVariables false
set_option linter.unusedSimpArgs false
end Go.Proofs.Ytigpmfoagkhaeaa.PU

namespace Go.Proofs.Ytigpmfoagkhaeaa.Bf
open Go.RowKit Go.Proofs.Ytigpmfoagkhaeaa.PU Go.Proofs.Ytigpmfoagkhaeaa.Qh Go.Proofs.Ytigpmfoagkhaeaa.Bk Go.Proofs.Ytigpmfoagkhaeaa.Ow Go.Proofs.Ytigpmfoagkhaeaa.Fr Go.Proofs.Ytigpmfoagkhaeaa.Py Go.Proofs.Ytigpmfoagkhaeaa.Vl Go.Proofs.Ytigpmfoagkhaeaa.Vf Go.Proofs.YtigpmfoagkhaeaaW.PrintWords Go.Proofs.YtigpmfoagkhaeaaW.PrintMore
set_option linter.unusedVariables false
set_option linter.unusedSimpArgs false
theorem cmp_lt (x y : Int) : ((if x < y then (-1 : Int) else if x > y then 1 else 0) < 0) ↔ x < y := by
  by_cases h : x < y
  · rw [if_pos h]; omega
  · rw [if_neg h]
    by_cases h2 : x > y
    · rw [if_pos h2]; omega
    · rw [if_neg h2]; omega
def od (c : List Int) (d : List (List Int)) (j : Nat) : Int := sumF (fun k => db d k j) c.length
theorem sumF_bd {c : List Int} {d : List (List Int)} (h : BookP c d) {j : Nat} (hj : j < c.length) : ∀ n : Nat, n ≤ c.length → 0 ≤ sumF (fun k => db d k j) n ∧ sumF (fun k => db d k j) n ≤ 9 * n
  | 0, _ => by simp [sumF]
  | n + 1, hn => by
    have h1 := sumF_bd h hj n (by omega)
    have h2 := db_bd h hj (show n < c.length by omega)
    show 0 ≤ sumF (fun k => db d k j) n + db d n j ∧ sumF (fun k => db d k j) n + db d n j ≤ 9 * ((n + 1 : Nat) : Int)
    omega
theorem od_bd {c : List Int} {d : List (List Int)} (h : BookP c d) {j : Nat} (hj : j < c.length) : 0 ≤ od c d j ∧ od c d j ≤ 36 := by
  have := sumF_bd h hj c.length (Nat.le_refl _); have := h.2.1; unfold od; omega
end Go.Proofs.Ytigpmfoagkhaeaa.Bf

namespace Go.Proofs.Ytigpmfoagkhaeaa.Li
open Go.RowKit Go.Proofs.Ytigpmfoagkhaeaa.PU Go.Proofs.Ytigpmfoagkhaeaa.Qh Go.Proofs.Ytigpmfoagkhaeaa.Bk Go.Proofs.Ytigpmfoagkhaeaa.Ow Go.Proofs.Ytigpmfoagkhaeaa.Fr Go.Proofs.Ytigpmfoagkhaeaa.Py Go.Proofs.Ytigpmfoagkhaeaa.Gt Go.Proofs.Ytigpmfoagkhaeaa.Gv Go.Proofs.Ytigpmfoagkhaeaa.Np Go.Proofs.Ytigpmfoagkhaeaa.Vl Go.Proofs.Ytigpmfoagkhaeaa.Vf Go.Proofs.Ytigpmfoagkhaeaa.Bf Go.Proofs.YtigpmfoagkhaeaaW.PrintWords Go.Proofs.YtigpmfoagkhaeaaW.PrintMore
set_option linter.unusedVariables false
set_option linter.unusedSimpArgs false
abbrev F := S36
variable {c : List Int} {d : List (List Int)} {ps : List F}
theorem take_set {α : Type} {out res : List α} {v : α} {i : Nat} (hl : out.length = i) (hi : i < res.length) : (out ++ res.drop i).set i v = out ++ [v] ++ res.drop (i + 1) := by
  rw [List.set_append, if_neg (by omega), hl, Nat.sub_self, List.drop_eq_getElem_cons hi, List.set_cons_zero, List.append_assoc]
  rfl
end Go.Proofs.Ytigpmfoagkhaeaa.Li

namespace Go.Proofs.Ytigpmfoagkhaeaa.Al
open Go.RowKit Go.Proofs.Ytigpmfoagkhaeaa.PU Go.Proofs.Ytigpmfoagkhaeaa.Qh Go.Proofs.YtigpmfoagkhaeaaW.PrintWords Go.Proofs.YtigpmfoagkhaeaaW.PrintMore
set_option linter.unusedVariables false
set_option linter.unusedSimpArgs false
theorem alive : Ev (fun k => laws_alive.f k) true := Ev.of (fun k => laws_alive.mono k) (k := 12) (by decide +kernel)
end Go.Proofs.Ytigpmfoagkhaeaa.Al

namespace Go.Proofs.Ytigpmfoagkhaeaa.Ffw
open Go.RowKit Go.Proofs.Ytigpmfoagkhaeaa.PU Go.Proofs.Ytigpmfoagkhaeaa.Qh Go.Proofs.Ytigpmfoagkhaeaa.Dr Go.Proofs.Ytigpmfoagkhaeaa.Db Go.Proofs.Ytigpmfoagkhaeaa.Bk Go.Proofs.Ytigpmfoagkhaeaa.Ow Go.Proofs.Ytigpmfoagkhaeaa.Fr Go.Proofs.Ytigpmfoagkhaeaa.Py Go.Proofs.Ytigpmfoagkhaeaa.Dp Go.Proofs.Ytigpmfoagkhaeaa.Gt Go.Proofs.Ytigpmfoagkhaeaa.Gv Go.Proofs.Ytigpmfoagkhaeaa.Np Go.Proofs.Ytigpmfoagkhaeaa.Vl Go.Proofs.Ytigpmfoagkhaeaa.Vf Go.Proofs.Ytigpmfoagkhaeaa.Li Go.Proofs.Ytigpmfoagkhaeaa.Pd Go.Proofs.Ytigpmfoagkhaeaa.Bf Go.Proofs.YtigpmfoagkhaeaaW.PrintWords Go.Proofs.YtigpmfoagkhaeaaW.PrintMore
set_option linter.unusedVariables false
set_option linter.unusedSimpArgs false
abbrev F := S36
variable {c : List Int} {d : List (List Int)} {ps res : List F}
def fl (c : List Int) (d : List (List Int)) (res : List F) (i : Nat) : Int := if fu res i * 1 < ow c d i * fd res i then 1 else 0
def fallsL (c : List Int) (d : List (List Int)) (res : List F) : List Int := (List.range c.length).map (fl c d res)
theorem fallsL_len (res : List F) : (fallsL c d res).length = c.length := by simp [fallsL]
theorem rd_falls {res : List F} {i : Nat} (hi : i < c.length) : rd (fallsL c d res) (i : Int) = fl c d res i := by
  rw [rd_get _ _ (by rw [fallsL_len]; exact hi)]; simp [fallsL]
theorem ifa_l0 (h : BookP c d) (hrl : res.length = c.length) (hr : ∀ j : Nat, j < c.length → FracP (fu res j) (fd res j)) : ∀ (e i : Nat), c.length - i = e → i ≤ c.length →
    Ev (fun k => impl_fallsWith.l0 k res ((List.range i).map (fl c d res)) (owes c d) ((owes c d).length : Int) (i : Int)) (fallsL c d res, true) := by
  have h4 := h.2.1
  have hol := owes_len c d
  intro e
  induction e with
  | zero =>
    intro i he hi
    obtain rfl : i = c.length := by omega
    refine Ev.step (fun k => by rw [impl_fallsWith.l0]) ?_
    exact evNeg (by omega) (Ev.now _)
  | succ e ih =>
    intro i he hi
    have hlt : i < c.length := by omega
    have hs : Aside0 (wrap64 ((i : Int) + 1) = ((i + 1 : Nat) : Int)) := ⟨wsucc hlt (by omega)⟩
    have hob := ow_bd h hlt
    have hll : ((List.range i).map (fl c d res)).length = i := by simp
    have hi' := ih (i + 1) (by omega) (by omega)
    rw [List.range_succ, List.map_append] at hi'
    refine Ev.step (fun k => by rw [impl_fallsWith.l0]) ?_
    rw [hs.out, rd_owes hlt]
    refine evPos (by omega) (evPos (by omega) (evPos (by omega) (evPos (by omega) ?_)))
    refine evBind0 (a := (ow c d i, 1)) rfl ?_
    refine evBind0 (icmp (p := ow c d i) (q := 1) (hr i hlt) (by omega) (by decide)) ?_
    by_cases hc : fu res i * 1 < ow c d i * fd res i
    · refine evPos ((cmp_lt _ _).2 hc) (evPos (by omega) ?_)
      have e2 : [fl c d res i] = [1] := by unfold fl; rw [if_pos hc]
      simp only [List.map_cons, List.map_nil, e2] at hi'
      exact hi'
    · refine evNeg (fun z => hc ((cmp_lt _ _).1 z)) (evPos (by omega) ?_)
      have e2 : [fl c d res i] = [0] := by unfold fl; rw [if_neg hc]
      simp only [List.map_cons, List.map_nil, e2] at hi'
      exact hi'
theorem sall_l {c : List Int} {d : List (List Int)} (h : BookP c d) : ∀ (e i : Nat), c.length - i = e → i ≤ c.length → Ev (fun k => spec_AllPaid.l0 k (owes c d) ((List.range i).map (fun i => (⟨ow c d i, 1⟩ : F))) (i : Int)) (all_ c d) := by
  have h4 := h.2.1
  have hol := owes_len c d
  intro e
  induction e with
  | zero =>
    intro i he hi
    obtain rfl : i = c.length := by omega
    refine Ev.step (fun k => by rw [spec_AllPaid.l0]) ?_
    exact evNeg (by omega) (Ev.now _)
  | succ e ih =>
    intro i he hi
    have hlt : i < c.length := by omega
    have hs : Aside0 (wrap64 ((i : Int) + 1) = ((i + 1 : Nat) : Int)) := ⟨wsucc hlt (by omega)⟩
    have hl : ((List.range i).map (fun i => (⟨ow c d i, 1⟩ : F))).length = i := by simp
    refine Ev.step (fun k => by rw [spec_AllPaid.l0]) ?_
    refine evPos (by omega) (evPos (by omega) (evPos (by omega) ?_))
    rw [rd_owes hlt, hs.out]
    have := ih (i + 1) (by omega) (by omega)
    rwa [List.range_succ, List.map_append] at this
theorem sall {c : List Int} {d : List (List Int)} (h : BookP c d) : Ev (fun k => spec_AllPaid.f k c d) (all_ c d) := by
  unfold spec_AllPaid.f
  exact Ev.bind (sowes h) (sall_l h _ 0 rfl (by omega))
theorem sall_no {c : List Int} {d : List (List Int)} (h : ¬ BookP c d) : Ev (fun k => spec_AllPaid.f k c d) [] := by
  unfold spec_AllPaid.f
  exact Ev.bind (sowes_no h) (Ev.step (fun k => by rw [spec_AllPaid.l0]) (evNeg (by simp) (Ev.now _)))
theorem sfa_l0 (h : BookP c d) (hrl : res.length = c.length) (hr : ∀ j : Nat, j < c.length → FracP (fu res j) (fd res j)) : ∀ (e i : Nat), c.length - i = e → i ≤ c.length →
    Ev (fun k => spec_FallsWith.l0 k res true (all_ c d) ((List.range i).map (fl c d res)) (i : Int)) (fallsL c d res) := by
  have h4 := h.2.1
  have hal := all_len c d
  intro e
  induction e with
  | zero =>
    intro i he hi
    obtain rfl : i = c.length := by omega
    refine Ev.step (fun k => by rw [spec_FallsWith.l0]) ?_
    refine evNeg (by omega) (Ev.step (fun k => by rw [spec_FallsWith.j1]) ?_)
    exact evNeg (by decide) (Ev.now _)
  | succ e ih =>
    intro i he hi
    have hlt : i < c.length := by omega
    have hs : Aside0 (wrap64 ((i : Int) + 1) = ((i + 1 : Nat) : Int)) := ⟨wsucc hlt (by omega)⟩
    have hob := ow_bd h hlt
    have hll : ((List.range i).map (fl c d res)).length = i := by simp
    have hi' := ih (i + 1) (by omega) (by omega)
    rw [List.range_succ, List.map_append] at hi'
    refine Ev.step (fun k => by rw [spec_FallsWith.l0]) ?_
    refine evPos (by omega) (Ev.step (fun k => by rw [spec_FallsWith.j1]) ?_)
    rw [hs.out, all_get hlt]
    refine evPos rfl (evPos (by omega) (evPos (by omega) (evPos (by omega) ?_)))
    refine Ev.bind (sbefore (p := ow c d i) (q := 1) (hr i hlt) (one_ok hob.1 (by omega))) ?_
    by_cases hc : fu res i * 1 < ow c d i * fd res i
    · refine evPos ((cmp_lt _ _).2 hc) (evPos (by omega) ?_)
      have e2 : [fl c d res i] = [1] := by unfold fl; rw [if_pos hc]
      simp only [List.map_cons, List.map_nil, e2] at hi'
      exact hi'
    · refine evNeg (fun z => hc ((cmp_lt _ _).1 z)) (evPos (by omega) ?_)
      have e2 : [fl c d res i] = [0] := by unfold fl; rw [if_neg hc]
      simp only [List.map_cons, List.map_nil, e2] at hi'
      exact hi'
theorem ifalls (h : PaysP c d ps) (hf : Fits c d ps) {res : List F} (e : getsV c d ps = (res, true)) (hrl : res.length = c.length) (hr : ∀ j : Nat, j < c.length → FracP (fu res j) (fd res j)) : Ev (fun k => impl_FallsWith.f k c d ps) (fallsL c d res) := by
  have h1 := igets h hf
  rw [e] at h1
  have h2 : Ev (fun k => impl_fallsWith.f k c d ps) (fallsL c d res, true) := by
    unfold impl_fallsWith.f
    exact Ev.bind h1 (evPos rfl (Ev.bind (iowes h.1) (ifa_l0 h.1 hrl hr _ 0 rfl (by omega))))
  unfold impl_FallsWith.f
  exact Ev.bind ((arePays c d ps).yes h) (evPos rfl (Ev.bind h2 (Ev.now _)))
theorem falls_both (hl : ps.length ≤ 5) (hlow : LowD ps) :
    (Ev (fun n => impl_FallsWith.f n c d ps) [] ∧ Ev (fun n => spec_FallsWith.f n c d ps) []) ∨
    ∃ res : List F, Ev (fun n => impl_FallsWith.f n c d ps) (fallsL c d res) ∧ Ev (fun n => spec_FallsWith.f n c d ps) (fallsL c d res) ∧ PaysP c d ps ∧ res.length = c.length ∧ (∀ j : Nat, j < c.length → FracP (fu res j) (fd res j)) ∧
      ∀ (D : Nat → Int) (T : Nat → Nat → Int), (∀ i, i < c.length → Rep c d ps (D i) (T i) i) → ∀ j : Nat, j < c.length → Is (D j) (val c d (D j) (T j) j) (fu res j) (fd res j) := by
  have none_ : ∀ (h2 : Ev (fun n => spec_GetsOf.f n c d ps) ([], false)), Ev (fun n => spec_FallsWith.f n c d ps) [] := by
    intro h2
    unfold spec_FallsWith.f
    have fin : ∀ al : List F, Ev (fun k => spec_FallsWith.l0 k [] false al [] 0) [] := fun al =>
      Ev.step (fun k => by rw [spec_FallsWith.l0]) (evNeg (by simp) (Ev.step (fun k => by rw [spec_FallsWith.j1]) (evNeg (by decide) (Ev.now _))))
    by_cases hb : BookP c d
    · exact Ev.bind h2 (Ev.bind (sall hb) (fin _))
    · exact Ev.bind h2 (Ev.bind (sall_no hb) (fin _))
  by_cases h : PaysP c d ps
  · have hf := Pd.low_fits h hlow
    have h1 := igets h hf
    have h2 := sgetsOf h hf
    rcases gets_cases h hf with e | ⟨res, e, hrl, hrf, hri⟩
    · rw [e] at h1 h2
      refine .inl ⟨?_, none_ h2⟩
      have h3 : Ev (fun k => impl_fallsWith.f k c d ps) ([], false) := by
        unfold impl_fallsWith.f
        exact Ev.bind h1 (evNeg (by decide) (Ev.now _))
      unfold impl_FallsWith.f
      exact Ev.bind ((arePays c d ps).yes h) (evPos rfl (Ev.bind h3 (Ev.now _)))
    · rw [e] at h2
      refine .inr ⟨res, ifalls h hf e hrl hrf, ?_, h, hrl, hrf, hri⟩
      unfold spec_FallsWith.f
      exact Ev.bind h2 (Ev.bind (sall h.1) (sfa_l0 h.1 hrl hrf _ 0 rfl (by omega)))
  · refine .inl ⟨?_, none_ (sgetsOf_no (by omega) h)⟩
    unfold impl_FallsWith.f
    exact Ev.bind ((arePays c d ps).no h) (evNeg (by decide) (Ev.now _))
theorem same_l (l : List Int) (hl : l.length ≤ 4611686018427387904) : ∀ (e i : Nat), l.length - i = e → i ≤ l.length → Ev (fun k => laws_sameInts.l0 k l l (i : Int)) true := by
  intro e
  induction e with
  | zero =>
    intro i he hi
    refine Ev.step (fun k => by rw [laws_sameInts.l0]) ?_
    exact evNeg (by omega) (Ev.now _)
  | succ e ih =>
    intro i he hi
    have hlt : i < l.length := by omega
    have hs : wrap64 ((i : Int) + 1) = ((i + 1 : Nat) : Int) := wsucc hlt hl
    refine Ev.step (fun k => by rw [laws_sameInts.l0]) ?_
    refine evPos (by omega) (evPos (by omega) (evPos (by omega) (evPos rfl ?_)))
    rw [hs]
    exact ih (i + 1) (by omega) (by omega)
theorem same (l : List Int) (hl : l.length ≤ 4611686018427387904) : Ev (fun k => laws_sameInts.f k l l) true := by
  unfold laws_sameInts.f
  exact evPos rfl (same_l l hl _ 0 rfl (by omega))
theorem loop (h : BookP c d) {r1 r2 : List F} (hle : ∀ i : Nat, i < c.length → ¬ fl c d r2 i > fl c d r1 i) : ∀ (e i : Nat), c.length - i = e → i ≤ c.length → Ev (fun k => laws_FnFallsWith.l0 k (fallsL c d r1) (fallsL c d r2) (i : Int) c d) true := by
  have h4 := h.2.1
  have h5 := fallsL_len (c := c) (d := d) r1
  have h6 := fallsL_len (c := c) (d := d) r2
  intro e
  induction e with
  | zero =>
    intro i he hi
    refine Ev.step (fun k => by rw [laws_FnFallsWith.l0]) ?_
    refine evNeg (by omega) (evEq (Ev.now _) ?_)
    rw [h5]; simp
  | succ e ih =>
    intro i he hi
    have hlt : i < c.length := by omega
    have hs : Aside0 (wrap64 ((i : Int) + 1) = ((i + 1 : Nat) : Int)) := ⟨wsucc hlt (by omega)⟩
    refine Ev.step (fun k => by rw [laws_FnFallsWith.l0]) ?_
    rw [hs.out, rd_falls hlt, rd_falls hlt]
    exact evPos (by omega) (evNeg (by omega) (evPos (by omega) (evPos (by omega) (evNeg (hle i hlt) (ih (i + 1) (by omega) (by omega))))))
theorem holds : laws_FnFallsWith.Pure := by
  intro l0 _ _ hu
  refine Ev.rounds (g := fun k => laws_FnFallsWith.f k l0) ?_
  unfold laws_FnFallsWith.f
  by_cases a : (l0.length : Int) > 1048576
  · exact evPos a (Ev.now _)
  refine evNeg a ?_
  obtain ⟨b, hb, ho⟩ := Dr.open_ l0 hu
  obtain ⟨c, d, ps, q, hpl, hlow, hpd⟩ := paid hb
  have hd : Ev (fun k => spec_DrawFallsWith.f k l0) (c, d, ps) := by
    unfold spec_DrawFallsWith.f
    exact evBind0 ho (Ev.bind hpd (Ev.now _))
  refine Ev.bind hd ?_
  rcases falls_both (c := c) (d := d) hpl hlow with ⟨h1, h2⟩ | ⟨res, h1, h2, hp, hrl, hrf, hri⟩
  · refine Ev.bind h1 (Ev.bind h2 (Ev.bind (same _ (by simp)) (evPos rfl ?_)))
    exact evPos (by simp) (Ev.bind Al.alive (Ev.now _))
  · have h := hp.1
    have h1c := h.1; have h4 := h.2.1
    have hl := fallsL_len (c := c) (d := d) res
    refine Ev.bind h1 (Ev.bind h2 (Ev.bind (same (fallsL c d res) (by omega)) (evPos rfl (evNeg (by omega) (Ev.bind (iall c d) ?_)))))
    rw [if_pos h]
    have wl := wholes_len (fun i => rd c (i : Int) + sumF (fun k => db d k i) c.length) c.length
    have wf : ∀ j : Nat, j < c.length → FracP (fu (wholes (fun i => rd c (i : Int) + sumF (fun k => db d k i) c.length) c.length) j) (fd (wholes (fun i => rd c (i : Int) + sumF (fun k => db d k i) c.length) c.length) j) := by
      intro j hj
      unfold fu fd
      rw [wholes_get hj]
      have hc := h.2.2.2 j hj
      have ho := od_bd h hj
      unfold od at ho
      exact one_ok (n := rd c (j : Int) + sumF (fun k => db d k j) c.length) (by have := hc.1; omega) (by have := hc.2.1; omega)
    refine Ev.bind (ifalls (all_ok h) (all_fits h) (all_gets h) wl wf) ?_
    refine loop h ?_ _ 0 rfl (by omega)
    intro i hi hgt
    obtain ⟨D, T, hD, hT, hTD, hR⟩ := rep_le hp
    have hI := hri (fun _ => D) (fun _ => T) (fun i _ => hR i) i hi
    have hv := val_le h hTD hi (D := D)
    have hn : ¬ fu res i * 1 < ow c d i * fd res i := by
      intro hc
      unfold fl at hgt
      rw [if_pos hc] at hgt
      split at hgt <;> omega
    have hw : fu (wholes (fun i => rd c (i : Int) + sumF (fun k => db d k i) c.length) c.length) i * 1 < ow c d i * fd (wholes (fun i => rd c (i : Int) + sumF (fun k => db d k i) c.length) c.length) i := by
      rcases Decidable.em (fu (wholes (fun i => rd c (i : Int) + sumF (fun k => db d k i) c.length) c.length) i * 1 < ow c d i * fd (wholes (fun i => rd c (i : Int) + sumF (fun k => db d k i) c.length) c.length) i) with hc | hc
      · exact hc
      · unfold fl at hgt
        rw [if_neg hc] at hgt
        split at hgt <;> omega
    unfold fu fd at hw
    rw [wholes_get hi] at hw
    have hw2 : rd c (i : Int) + sumF (fun k => db d k i) c.length < ow c d i := by
      have : (rd c (i : Int) + sumF (fun k => db d k i) c.length) * 1 < ow c d i * 1 := hw
      omega
    have hw3 := Int.mul_lt_mul_of_pos_right hw2 hD
    have := mt (is_lt hD hI (one_is (ow c d i) D)).2 (by omega)
    omega
end Go.Proofs.Ytigpmfoagkhaeaa.Ffw

namespace Go.Proofs.Ytigpmfoagkhaeaa.Pure
open Go.RowKit Go.Proofs.Ytigpmfoagkhaeaa.PU
theorem FnFallsWith : laws_FnFallsWith.Pure := Go.Proofs.Ytigpmfoagkhaeaa.Ffw.holds
end Go.Proofs.Ytigpmfoagkhaeaa.Pure

namespace Go.Proofs.YtigpmfoagkhaeaaW.PrintWords
open Go.ChangeShapes Go.WideShapes
theorem sized_ints {H : Type} {enc : TypeId × Value → H} {P : Program} {W : World} {base : Nat} {spare : Nat → Bool} {held : Bool} {t e : TypeId} {k : IntKind} {a : Option Addr} {len cap : Nat} {d : DataW H} {ps : List MemPlace} {ts : List TypeId} {ds : List (DataW H)} {j : Nat}
    (hsz : (DataW.weightsEach P ts ds).all (· ≤ reachBytes) = true) (ht : ts[j]? = some t) (hd : ds[j]? = some d) (hu : P.underlying t = some (.slice e)) (he : P.underlying e = some (.int k)) (hc : P.cellsOf e = 1) {B : Nat} (hB : P.bytesOf e = B)
    (h : DataW.Trod enc P W base spare held t (.slice a len cap) d ps) : len * B ≤ 140737488351232 := by
  obtain ⟨fuel, hf⟩ := h
  rcases open_ints hu he hc hf with ⟨hcs, _⟩ | ⟨x, l, c, zs, hcs, _, hl, _, hz, hx, _, _⟩
  · simp [Value.cells] at hcs
    obtain ⟨rfl, rfl, rfl⟩ := hcs
    simp
  · simp [Value.cells] at hcs
    obtain ⟨rfl, rfl, rfl⟩ := hcs
    obtain ⟨hx, _⟩ := Prod.mk.inj hx
    subst hx
    have z := sized_slice hsz ht hd hu
    rw [hB] at z
    have hl2 : len ≤ zs.length := by
      rw [hz]
      split
      · exact hl
      · exact Nat.le_refl _
    have h1 : (lits (H := H) k (zs.take len)).length + (lits (H := H) k (zs.drop len)).length = zs.length := by
      simp [lits]
      omega
    rw [h1] at z
    exact Nat.le_trans (Nat.mul_le_mul_right _ hl2) z
end Go.Proofs.YtigpmfoagkhaeaaW.PrintWords

namespace Go.Proofs.Ytigpmfoagkhaeaa.fnFallsWith
open Go.ChangeShapes Go.WideShapes Go.ChangeAt Go.RowKit
open Go.ChangeMaps (open_string shut_string)
set_option linter.unusedVariables false
theorem own : ownKnob Try.prog.godebug = none := by kernel_rfl
theorem laidOut : laidOutB Try.prog = true := by kernel_rfl
def IsRow (k : IntKind) (w : World) (a : Option Addr) (len cap : Nat) (zs : List Int) : Prop :=
  (a = none ∧ len = 0 ∧ cap = 0 ∧ zs = []) ∨
  ∃ x, a = some x ∧ len ≤ cap ∧ cap ≤ maxLen ∧ zs.length = cap ∧ (∀ i, i < zs.length → w.cell? (x.add i) = some (.int k (zs.getD i 0))) ∧ ∀ n ∈ zs, (Lit.int k n).wf = true
set_option maxRecDepth 100000 in
theorem lifted (os : Os) (started : os.Started) (H : Type) (enc : TypeId × Value → H) :
    ReturnsInHanded {} Try.checked os 8 .any (Rows.fnFallsWithSpec.pre6 enc Try.prog Try.f8 Rows.fnFallsWithRow.domain false) (Rows.fnFallsWithSpec.post enc Try.prog Try.f8 false true false false) := by
  refine returnsInHanded_of_change_sized (C := Try.checked) own started (by kernel_rfl) Try.func8
    (ChangeSpec.witness6 (enc := enc) (C := Try.checked) false ⟨#[], #[.slice none 0 0], []⟩ 8 (by kernel_rfl) (by kernel_rfl) (by kernel_rfl) (by kernel_rfl)) ?_
  intro W base args ds gs before hval0 hW hcnd hsz0 _
  have hsz : (DataW.weightsEach Try.prog (Try.f8.params.toList ++ Rows.fnFallsWithSpec.plain.varTypes Try.prog) (ds ++ gs)).all (· ≤ reachBytes) = true := hsz0
  have hval : ∀ (j : Nat) t v, Try.f8.params[j]? = some t → args[j]? = some v → Value.okWide Try.prog W .any base t v := hval0
  have hW' := hW
  obtain ⟨p, q, hA0, hV, rfl, hfz, hnd⟩ := hW
  have hA : DataW.TrodAll enc Try.prog W 0 (fun _ => true) true Try.f8.params.toList args.toList ds p := hA0
  rw [Try.params8] at hA hval hsz
  obtain ⟨v0, vs0, d0, ds0, p0, q0, hargs, rfl, rfl, h0, r0⟩ := trodAll_cons hA
  obtain ⟨rfl, rfl, rfl⟩ := trodAll_nil r0
  obtain rfl : args = #[v0] := by cases args; simp_all
  obtain ⟨rfl, rfl⟩ := trodVars_none hV
  obtain ⟨a0, len0, cap0, rfl⟩ := okWide_slice Try.underlying22 (hval 0 22 v0 rfl rfl)
  have k0 := h0
  have lt0 : ∀ x ∈ p0, x.block < W.heap.size := by obtain ⟨m, hm⟩ := k0; exact DataW.trod_lt m _ _ _ hm
  obtain ⟨z0, w0⟩ : ∃ zs, IsRow .u8 W a0 len0 cap0 zs := by
    obtain ⟨fuel, hf⟩ := h0
    rcases open_ints Try.underlying22 Try.underlying5 (by kernel_rfl) hf with ⟨hcs, _⟩ | ⟨x, l, c, zs, hcs, _, hl, hm, hz, _, hcell, hwz⟩
    · simp [Value.cells] at hcs
      obtain ⟨rfl, rfl, rfl⟩ := hcs
      exact ⟨[], .inl ⟨rfl, rfl, rfl, rfl⟩⟩
    · simp [Value.cells] at hcs
      obtain ⟨rfl, rfl, rfl⟩ := hcs
      exact ⟨zs, .inr ⟨_, rfl, hl, hm, by simpa using hz, hcell, hwz⟩⟩
  have y0 : len0 * 1 ≤ 140737488351232 := Go.Proofs.YtigpmfoagkhaeaaW.PrintWords.sized_ints hsz (j := 0) (t := 22) rfl rfl Try.underlying22 Try.underlying5 (by kernel_rfl) (by kernel_rfl) h0
  clear hA0 hval0 hsz0 hsz
  refine (PU.laws_FnFallsWith.walk Pure.FnFallsWith a0 len0 cap0 z0 W w0 y0).mono fun e W' ⟨he, bel⟩ => ?_
  subst he
  exact ⟨_, rfl, _, _, _, [], _, [], hW', trodAll_mk1 (shut_bool Try.underlying4 _), (trodAll_cons_mk (Below.trod laidOut (by kernel_rfl) (of_decide_eq_true (by kernel_rfl)) k0 bel lt0) trodAll_mk0), rfl, bel.frame _, fun h => by cases h⟩
theorem over : Rows.fnFallsWithRow.holds Try.pinned (OpenSpec.ofChange Rows.fnFallsWithSpec) :=
  OpenClaim.holds_of_wide 8 Try.f8 rfl rfl rfl rfl rfl rfl rfl ⟨rfl, rfl, rfl, rfl, rfl⟩ rfl rfl rfl rfl rfl (by kernel_rfl) Try.func8 (by kernel_rfl)
    (of_decide_eq_true (by kernel_rfl)) (by unfold Func.isWrapper; first | (rw [if_pos (by decide +kernel)]; kernel_rfl) | (rw [if_neg (by decide +kernel)]; exact ⟨rfl, rfl⟩))
    (fun os started H enc _ => lifted os started H enc)
theorem proved : Rows.FnFallsWithSaid := over
end Go.Proofs.Ytigpmfoagkhaeaa.fnFallsWith
namespace Go.Proofs.Ytigpmfoagkhaeaa
theorem fnFallsWith_holds : Rows.FnFallsWithSaid := fnFallsWith.proved
end Go.Proofs.Ytigpmfoagkhaeaa
