/- FnNonePaid: for every input the law holds. No condition. -/
import Derived.Test.YtigpmfoagkhaeaaZFnNonePaid1
import Derived.Test.YtigpmfoagkhaeaaZFnNonePaid2
import Derived.Test.YtigpmfoagkhaeaaZFnNonePaid3
import Derived.Below
import Derived.Deep.Draws
import Derived.Deep.AppendLies
import Derived.Maps.AppendAt
import Derived.OwnWalk
import Derived.Laws.BytesArg
import Derived.Laws.MakeOwn
import Derived.Laws.OwnMore
import Derived.Deep.OwnRows
import Derived.Tactics
import Derived.Lib.ConvBytes
import Derived.Laws.Slices
import Derived.WalkKit
import Derived.KernelRfl
import Derived.RowKit3
import Derived.Deep.LoopGhost
import Derived.Deep.QuietTactic
import Derived.BigQuiet
import Derived.WideLaws
import Derived.Deep.DeepCutAuto
import Derived.Deep.CutBlock
import Derived.Deep.RegionHeld3
import Derived.Laws.Rows
import Derived.Lib.AppendStr
import Derived.ArgAppend
import Derived.Laws.IdiomCopy
import Derived.RowKit
import Derived.OrdersHeld
import Derived.Laws.BitsLemmas
import Derived.Laws.StructEq
import Derived.Test.YtigpmfoagkhaeaaProg
import Derived.SizedLaws
import Derived.ChangeSlices
import Derived.Test.YtigpmfoagkhaeaaRows
import Derived.ProofKit
import Derived.OpenShut
import Derived.ShutString
import Derived.ChangeOld
namespace Go.Proofs.Ytigpmfoagkhaeaa.PU
open Go.RowKit Go.Proofs.YtigpmfoagkhaeaaW.PrintWords Go.Proofs.YtigpmfoagkhaeaaW.PrintLast Go.Proofs.YtigpmfoagkhaeaaW.PrintMore Go.Proofs.Ytigpmfoagkhaeaa.Qd
attribute [local go_sem] max2_int min2_int max_two min_two max_three min_three max_four min_four   -- for this text's walks alone
set_option linter.unusedVariables false
set_option linter.unusedSimpArgs false
def laws_FnNonePaid.l0 : Nat → List (S36) → Bool → Int → List Int → List (List Int) → Option (Bool)
 | 0, _, _, _, _, _ => none
 | k + 1, x5, x6, x7, x309000, x309001 => if x7 < (x5.length : Int) then (if x7 ≥ (x309000.length : Int) then (some false) else (if 0 ≤ x7 then (if x7 < (x309000.length : Int) then (if ((rd_T36 x5 x7).f0) = (rd x309000 x7) then (if ((rd_T36 x5 x7).f1) = 1 then (laws_FnNonePaid.l0 k x5 x6 (wrap64 (x7 + 1)) x309000 x309001) else (some false)) else (some false)) else (none)) else (none))) else (if x6 = true then (some ((x5.length : Int) == (x309000.length : Int))) else (some false))
def laws_FnNonePaid.f (k : Nat) (l0 : List Int) : Option (Bool) := if (l0.length : Int) > 1048576 then (some true) else ((spec_DrawNonePaid.f k l0).bind fun bt302 => ((impl_NonePaid.f k bt302.1 bt302.2).bind fun t309 => ((spec_NonePaid.f k bt302.1 bt302.2).bind fun t312 => ((laws_samePays.f k t309 t312).bind fun t315 => (if t315 = true then (if (t309.length : Int) = 0 then ((impl_BookOk.f k bt302.1 bt302.2).bind fun t316 => (if t316 = true then (some false) else ((laws_alive.f k).bind fun t317 => (some t317)))) else ((impl_GetsOf.f k bt302.1 bt302.2 t309).bind fun bt318 => (laws_FnNonePaid.l0 k bt318.1 bt318.2 0 bt302.1 bt302.2))) else (some false))))))
theorem laws_FnNonePaid.mono_l : ∀ k, (∀ y0 y1 y2 y3 y4, LeO (laws_FnNonePaid.l0 k y0 y1 y2 y3 y4) (laws_FnNonePaid.l0 (k + 1) y0 y1 y2 y3 y4))
 | 0 => fun _ _ _ _ _ r h => by simp [laws_FnNonePaid.l0] at h
 | k + 1 => by
  have ih0 := laws_FnNonePaid.mono_l k
  ·intro y0 y1 y2 y3 y4
   unfold laws_FnNonePaid.l0
   repeat' first
   | (with_reducible exact ih0 _ _ _ _ _)
   | (with_reducible exact impl_BookOk.mono _ _ _)
   | (with_reducible exact impl_GetsOf.mono _ _ _ _)
   | (with_reducible exact impl_NonePaid.mono _ _ _)
   | (with_reducible exact laws_alive.mono _)
   | (with_reducible exact laws_samePays.mono _ _ _)
   | (with_reducible exact spec_DrawNonePaid.mono _ _)
   | (with_reducible exact spec_NonePaid.mono _ _ _)
   | (with_reducible exact LeO.refl _)
   | (with_reducible exact LeO.none _)
   | (with_reducible refine LeO.ite ?_ ?_)
   | (with_reducible refine LeO.bind ?_ (fun _ => ?_))
   | exact ih0 _ _ _ _ _
   | exact impl_BookOk.mono _ _ _
   | exact impl_GetsOf.mono _ _ _ _
   | exact impl_NonePaid.mono _ _ _
   | exact laws_alive.mono _
   | exact laws_samePays.mono _ _ _
   | exact spec_DrawNonePaid.mono _ _
   | exact spec_NonePaid.mono _ _ _
   | exact LeO.none _
   | refine LeO.ite ?_ ?_
   | refine LeO.bind ?_ (fun _ => ?_)
theorem laws_FnNonePaid.mono : ∀ a0 k, LeO (laws_FnNonePaid.f k a0) (laws_FnNonePaid.f (k + 1) a0) := by
 intro a0 k
 have ih0 := laws_FnNonePaid.mono_l k
 unfold laws_FnNonePaid.f
 repeat' first
   | (with_reducible exact ih0 _ _ _ _ _)
   | (with_reducible exact impl_BookOk.mono _ _ _)
   | (with_reducible exact impl_GetsOf.mono _ _ _ _)
   | (with_reducible exact impl_NonePaid.mono _ _ _)
   | (with_reducible exact laws_alive.mono _)
   | (with_reducible exact laws_samePays.mono _ _ _)
   | (with_reducible exact spec_DrawNonePaid.mono _ _)
   | (with_reducible exact spec_NonePaid.mono _ _ _)
   | (with_reducible exact LeO.refl _)
   | (with_reducible exact LeO.none _)
   | (with_reducible refine LeO.ite ?_ ?_)
   | (with_reducible refine LeO.bind ?_ (fun _ => ?_))
   | exact ih0 _ _ _ _ _
   | exact impl_BookOk.mono _ _ _
   | exact impl_GetsOf.mono _ _ _ _
   | exact impl_NonePaid.mono _ _ _
   | exact laws_alive.mono _
   | exact laws_samePays.mono _ _ _
   | exact spec_DrawNonePaid.mono _ _
   | exact spec_NonePaid.mono _ _ _
   | exact LeO.none _
   | refine LeO.ite ?_ ?_
   | refine LeO.bind ?_ (fun _ => ?_)
theorem laws_FnNonePaid.calls_q0 {p : Prop} (h : p := by repeat (first | (with_reducible first | exact HB.out | apply below_alloc | apply pw_below_drewN | apply below_drew1 | refine below_set ?_ GE308.out) | exact HB.out)) : p := h
set_option maxHeartbeats 8000000 in
set_option maxRecDepth 100000 in
theorem laws_FnNonePaid.calls (k : Nat) (A0 : Option Addr) (c0 : Nat) (l0 : List Int) (r : Bool) (w : World) (hr0 : Kd.C (Kd.int .u8) w A0 l0.length l0) (hc0 : l0.length ≤ c0) (h : laws_FnNonePaid.f k l0 = some r) :
  Calls Try.prog 3 #[.slice A0 l0.length c0] w fun e w' => e = .returned (.bool r) ∧ Below w.heap.size w w' := by
 have hu26 := Try.underlying26
 have HR0 := Aside0.mk hr0
 have HC0 := Aside0.mk hc0
 clear hr0 hc0
 have HB := Aside0.mk (Below.refl w.heap.size w)
 have H : (if (l0.length : Int) > 1048576 then (some true) else ((spec_DrawNonePaid.f k l0).bind fun bt302 => ((impl_NonePaid.f k bt302.1 bt302.2).bind fun t309 => ((spec_NonePaid.f k bt302.1 bt302.2).bind fun t312 => ((laws_samePays.f k t309 t312).bind fun t315 => (if t315 = true then (if (t309.length : Int) = 0 then ((impl_BookOk.f k bt302.1 bt302.2).bind fun t316 => (if t316 = true then (some false) else ((laws_alive.f k).bind fun t317 => (some t317)))) else ((impl_GetsOf.f k bt302.1 bt302.2 t309).bind fun bt318 => (laws_FnNonePaid.l0 k bt318.1 bt318.2 0 bt302.1 bt302.2))) else (some false))))))) = some r := h
 clear h
 by_cases c2 : (l0.length : Int) > 1048576
 ·rw [if_pos c2] at H
  have c2b0 := decide_eq_true c2
  have c2b1 : decide (1048576 < l0.length) = true := decide_eq_true (by omega)
  clear c2
  obtain rfl := Option.some.inj H
  go_enter Try.func3, Try.ntmps3
  go_wp2
  repeat (go_quiet (fail); try go_wp2)
  go_ret
  exact ⟨g4_, laws_FnNonePaid.calls_q0⟩
 ·rw [if_neg c2] at H
  have c2b0 := decide_eq_false c2
  have c2b1 : decide (1048576 < l0.length) = false := decide_eq_false (by omega)
  clear c2
  replace H := Option.bind_eq_some_iff.mp H
  obtain ⟨⟨t302, t305⟩, A30, H⟩ := H
  replace H : ((impl_NonePaid.f k t302 t305).bind fun t309 => ((spec_NonePaid.f k t302 t305).bind fun t312 => ((laws_samePays.f k t309 t312).bind fun t315 => (if t315 = true then (if (t309.length : Int) = 0 then ((impl_BookOk.f k t302 t305).bind fun t316 => (if t316 = true then (some false) else ((laws_alive.f k).bind fun t317 => (some t317)))) else ((impl_GetsOf.f k t302 t305 t309).bind fun bt318 => (laws_FnNonePaid.l0 k bt318.1 bt318.2 0 t302 t305))) else (some false))))) = some r := H
  have A3 := Aside0.mk A30
  clear A30
  obtain ⟨t309, A4, H⟩ := bind_ H
  obtain ⟨t312, A5, H⟩ := bind_ H
  obtain ⟨t315, A6, H⟩ := bind_ H
  by_cases c7 : t315 = true
  ·subst c7
   replace H := ifp_ H
   by_cases c8 : (t309.length : Int) = 0
   ·rw [if_pos c8] at H
    have c8b0 : ((t309.length : Int) == 0) = true := beq_iff_eq.mpr c8
    have c8b1 : ((t309.length : Int) != 0) = false := bne_eq_false_iff_eq.mpr c8
    clear c8
    obtain ⟨t316, A9, H⟩ := bind_ H
    by_cases c10 : t316 = true
    ·subst c10
     replace H := ifp_ H
     obtain rfl := Option.some.inj H
     go_enter Try.func3, Try.ntmps3
     go_wp2_with (first | (go_at_call 12; (with_reducible refine (spec_DrawNonePaid.calls k _ _ l0 t302 t305 _ ?side1 ?side2 A3.out).mono ?_); (case side1 => repeat (first | exact HR0.out | (with_reducible refine Kd.C_alloc ?_ _) | (with_reducible refine Kd.C_drewN ?_ _) | (with_reducible refine Kd.C_drew ?_))); (case side2 => exact HC0.out); rintro e w11 ⟨v303, v306, rfl, ho0, ho1, hb⟩; have HO304 := Aside0.mk (Kd.R_lower (Kd.R_mono (ok' := fun k_ => True) ho0 (fun _ hk_ => trivial)) (below_size (laws_FnNonePaid.calls_q0))); have HO307 := Aside0.mk (Kd.V_lower (Kd.V_mono (ok' := fun k_ => some k_ ≠ (v303 : Value).ownBlock) ho1 (fun k_ hk_ => hk_.2)) (below_size (laws_FnNonePaid.calls_q0))); replace HB := Aside0.mk (below_step (laws_FnNonePaid.calls_q0) hb); (try clear hb); (try clear hk hi); (try clear ho0); (try clear ho1)) | ((with_reducible refine gate_dst (N := 3) rfl ?_); (try (refine gate_guard (by rfl) ?_; dsimp only)); refine bx_ (N := 3) #[.slice none 0 0, .slice none 0 0] 26 ?_; intro gb308 hg w12 hbox hb; replace HO304 := Aside0.mk (Kd.R_below (uf1_ HO304) hb); replace HO307 := Aside0.mk (Kd.V_below (Kd.V_elderB (uf5_ HO307) gb308 (Nat.le_of_eq hg.symm)) hb); have BK308 := Aside0.mk (hbox); have GW308 := Aside0.mk ((g10_ : w.heap.size ≤ gb308)); have GE308 := Aside0.mk ((g10_ : w.heap.size ≤ gb308)); replace HB := Aside0.mk (below_step (laws_FnNonePaid.calls_q0) hb); clear hb hbox hg; obtain ⟨Ao13, co13, eo13⟩ := Kd.R_slice HO304.out; subst eo13; obtain ⟨hcz14_0, hcz14_1, hfz14_0, hfz14_1⟩ := blk2_ BK308; obtain ⟨Ao15, co15, eo15⟩ := Kd.V_slice HO307.out; subst eo15) | (go_at_call 13; (with_reducible refine (impl_NonePaid.calls k _ _ t302 _ _ t305 t309 _ ?side1 ?side2 ?side3 ?side4 A4.out).mono ?_); (case side1 => refine (Kd.R_reads' (e := 3) (base := w.heap.size) (ok := fun k_ => True) (n := t302.length) (c := co13) ?_).2.2; exact (g54_)); (case side2 => exact (Kd.R_reads' HO304.out).2.1); (case side3 => refine (Kd.V_reads' (e := 23) (base := w.heap.size) (ok := fun k_ => (some k_ ≠ (.slice Ao13 t302.length co13 : Value).ownBlock ∧ k_ ≠ gb308)) (n := t305.length) (c := co15) ?_).2.2; exact (g55_)); (case side4 => exact (Kd.V_reads' HO307.out).2.1); rintro e w16 ⟨v310, rfl, ho0, hb⟩; replace HO304 := Aside0.mk (Kd.R_below (g54_) hb); replace HO307 := Aside0.mk (Kd.V_elder' (g55_) (Kd.R_base ho0) hb); have HO311 := Aside0.mk (Kd.R_lower ho0 (below_size (laws_FnNonePaid.calls_q0))); replace BK308 := Aside0.mk (blk_below (g := gb308) (o := .cells #[.slice Ao13 t302.length co13, .slice Ao15 t305.length co15] 26 (0, 0)) (g139_) hb); replace HB := Aside0.mk (below_step (laws_FnNonePaid.calls_q0) hb); (try clear hb); (try clear hk hi); (try clear ho0); obtain ⟨hcz17_0, hcz17_1, hfz17_0, hfz17_1⟩ := blk2_ BK308) | (go_at_call 15; (with_reducible refine (spec_NonePaid.calls k _ _ t302 _ _ t305 t312 _ ?side1 ?side2 ?side3 ?side4 A5.out).mono ?_); (case side1 => repeat (first | exact (Kd.R_reads' HO304.out).2.2 | (with_reducible refine Kd.C_alloc ?_ _) | (with_reducible refine Kd.C_drewN ?_ _) | (with_reducible refine Kd.C_drew ?_))); (case side2 => exact (Kd.R_reads' HO304.out).2.1); (case side3 => repeat (first | exact (Kd.V_reads' HO307.out).2.2 | (with_reducible refine Kd.C_alloc ?_ _) | (with_reducible refine Kd.C_drewN ?_ _) | (with_reducible refine Kd.C_drew ?_))); (case side4 => exact (Kd.V_reads' HO307.out).2.1); rintro e w18 ⟨v313, rfl, ho0, hb⟩; replace HO304 := Aside0.mk (Kd.R_below (uf1_ HO304) hb); replace HO307 := Aside0.mk (Kd.V_elder' (uf5_ HO307) (Kd.R_base ho0) hb); have HO314 := Aside0.mk (Kd.R_lower (Kd.R_new' ho0 (Kd.R_lt (uf1_ HO311))) (below_size (laws_FnNonePaid.calls_q0))); replace HO311 := Aside0.mk (Kd.R_elder' (uf1_ HO311) (Kd.R_base ho0) hb); replace BK308 := Aside0.mk (blk_below (g := gb308) (o := .cells #[.slice Ao13 t302.length co13, .slice Ao15 t305.length co15] 26 (0, 0)) (uf0_ BK308) hb); replace HB := Aside0.mk (below_step (laws_FnNonePaid.calls_q0) hb); (try clear hb); (try clear hk hi); (try clear ho0); obtain ⟨Ao19, co19, eo19⟩ := Kd.R_slice HO311.out; subst eo19; obtain ⟨Ao20, co20, eo20⟩ := Kd.R_slice HO314.out; subst eo20) | (go_at_call 14; (with_reducible refine (laws_samePays.calls k _ _ t309 _ _ t312 true _ ?side1 ?side2 ?side3 ?side4 A6.out).mono ?_); (case side1 => repeat (first | exact (Kd.R_reads' HO311.out).2.2 | (with_reducible refine Kd.C_alloc ?_ _) | (with_reducible refine Kd.C_drewN ?_ _) | (with_reducible refine Kd.C_drew ?_))); (case side2 => exact (Kd.R_reads' HO311.out).2.1); (case side3 => repeat (first | exact (Kd.R_reads' HO314.out).2.2 | (with_reducible refine Kd.C_alloc ?_ _) | (with_reducible refine Kd.C_drewN ?_ _) | (with_reducible refine Kd.C_drew ?_))); (case side4 => exact (Kd.R_reads' HO314.out).2.1); rintro e w' ⟨rfl, ⟨nd, rfl⟩⟩; (try first | exact ⟨rfl, _, World.drewN_drewN _ _ _⟩ | exact ⟨rfl, _, Eq.trans (World.drewN_drewN _ _ _) (congrArg (World.drewN _) (Nat.add_assoc _ _ _))⟩); obtain ⟨hcz21_0, hcz21_1, hfz21_0, hfz21_1⟩ := blk2_ BK308) | (go_at_call 16; (with_reducible refine (impl_BookOk.calls k _ _ t302 _ _ t305 true _ ?side1 ?side2 ?side3 ?side4 A9.out).mono ?_); (case side1 => repeat (first | exact (Kd.R_reads' HO304.out).2.2 | (with_reducible refine Kd.C_alloc ?_ _) | (with_reducible refine Kd.C_drewN ?_ _) | (with_reducible refine Kd.C_drew ?_))); (case side2 => exact (Kd.R_reads' HO304.out).2.1); (case side3 => repeat (first | exact (Kd.V_reads' HO307.out).2.2 | (with_reducible refine Kd.C_alloc ?_ _) | (with_reducible refine Kd.C_drewN ?_ _) | (with_reducible refine Kd.C_drew ?_))); (case side4 => exact (Kd.V_reads' HO307.out).2.1); rintro e w22 ⟨rfl, hb⟩; replace HO304 := Aside0.mk (Kd.R_below (uf1_ HO304) hb); replace HO307 := Aside0.mk (Kd.V_below (uf5_ HO307) hb); replace HO311 := Aside0.mk (Kd.R_below (uf1_ HO311) hb); replace HO314 := Aside0.mk (Kd.R_below (uf1_ HO314) hb); replace BK308 := Aside0.mk (blk_below (g := gb308) (o := .cells #[.slice Ao13 t302.length co13, .slice Ao15 t305.length co15] 26 (0, 0)) (uf0_ BK308) hb); replace HB := Aside0.mk (below_step (laws_FnNonePaid.calls_q0) hb); (try clear hb); (try clear hk hi)))
     repeat (go_quiet (first | (go_at_call 12; (with_reducible refine (spec_DrawNonePaid.calls k _ _ l0 t302 t305 _ ?side1 ?side2 A3.out).mono ?_); (case side1 => repeat (first | exact HR0.out | (with_reducible refine Kd.C_alloc ?_ _) | (with_reducible refine Kd.C_drewN ?_ _) | (with_reducible refine Kd.C_drew ?_))); (case side2 => exact HC0.out); rintro e w11 ⟨v303, v306, rfl, ho0, ho1, hb⟩; have HO304 := Aside0.mk (Kd.R_lower (Kd.R_mono (ok' := fun k_ => True) ho0 (fun _ hk_ => trivial)) (below_size (laws_FnNonePaid.calls_q0))); have HO307 := Aside0.mk (Kd.V_lower (Kd.V_mono (ok' := fun k_ => some k_ ≠ (v303 : Value).ownBlock) ho1 (fun k_ hk_ => hk_.2)) (below_size (laws_FnNonePaid.calls_q0))); replace HB := Aside0.mk (below_step (laws_FnNonePaid.calls_q0) hb); (try clear hb); (try clear hk hi); (try clear ho0); (try clear ho1)) | ((with_reducible refine gate_dst (N := 3) rfl ?_); (try (refine gate_guard (by rfl) ?_; dsimp only)); refine bx_ (N := 3) #[.slice none 0 0, .slice none 0 0] 26 ?_; intro gb308 hg w12 hbox hb; replace HO304 := Aside0.mk (Kd.R_below (uf1_ HO304) hb); replace HO307 := Aside0.mk (Kd.V_below (Kd.V_elderB (uf5_ HO307) gb308 (Nat.le_of_eq hg.symm)) hb); have BK308 := Aside0.mk (hbox); have GW308 := Aside0.mk ((g10_ : w.heap.size ≤ gb308)); have GE308 := Aside0.mk ((g10_ : w.heap.size ≤ gb308)); replace HB := Aside0.mk (below_step (laws_FnNonePaid.calls_q0) hb); clear hb hbox hg; obtain ⟨Ao13, co13, eo13⟩ := Kd.R_slice HO304.out; subst eo13; obtain ⟨hcz14_0, hcz14_1, hfz14_0, hfz14_1⟩ := blk2_ BK308; obtain ⟨Ao15, co15, eo15⟩ := Kd.V_slice HO307.out; subst eo15) | (go_at_call 13; (with_reducible refine (impl_NonePaid.calls k _ _ t302 _ _ t305 t309 _ ?side1 ?side2 ?side3 ?side4 A4.out).mono ?_); (case side1 => refine (Kd.R_reads' (e := 3) (base := w.heap.size) (ok := fun k_ => True) (n := t302.length) (c := co13) ?_).2.2; exact (g54_)); (case side2 => exact (Kd.R_reads' HO304.out).2.1); (case side3 => refine (Kd.V_reads' (e := 23) (base := w.heap.size) (ok := fun k_ => (some k_ ≠ (.slice Ao13 t302.length co13 : Value).ownBlock ∧ k_ ≠ gb308)) (n := t305.length) (c := co15) ?_).2.2; exact (g55_)); (case side4 => exact (Kd.V_reads' HO307.out).2.1); rintro e w16 ⟨v310, rfl, ho0, hb⟩; replace HO304 := Aside0.mk (Kd.R_below (g54_) hb); replace HO307 := Aside0.mk (Kd.V_elder' (g55_) (Kd.R_base ho0) hb); have HO311 := Aside0.mk (Kd.R_lower ho0 (below_size (laws_FnNonePaid.calls_q0))); replace BK308 := Aside0.mk (blk_below (g := gb308) (o := .cells #[.slice Ao13 t302.length co13, .slice Ao15 t305.length co15] 26 (0, 0)) (g139_) hb); replace HB := Aside0.mk (below_step (laws_FnNonePaid.calls_q0) hb); (try clear hb); (try clear hk hi); (try clear ho0); obtain ⟨hcz17_0, hcz17_1, hfz17_0, hfz17_1⟩ := blk2_ BK308) | (go_at_call 15; (with_reducible refine (spec_NonePaid.calls k _ _ t302 _ _ t305 t312 _ ?side1 ?side2 ?side3 ?side4 A5.out).mono ?_); (case side1 => repeat (first | exact (Kd.R_reads' HO304.out).2.2 | (with_reducible refine Kd.C_alloc ?_ _) | (with_reducible refine Kd.C_drewN ?_ _) | (with_reducible refine Kd.C_drew ?_))); (case side2 => exact (Kd.R_reads' HO304.out).2.1); (case side3 => repeat (first | exact (Kd.V_reads' HO307.out).2.2 | (with_reducible refine Kd.C_alloc ?_ _) | (with_reducible refine Kd.C_drewN ?_ _) | (with_reducible refine Kd.C_drew ?_))); (case side4 => exact (Kd.V_reads' HO307.out).2.1); rintro e w18 ⟨v313, rfl, ho0, hb⟩; replace HO304 := Aside0.mk (Kd.R_below (uf1_ HO304) hb); replace HO307 := Aside0.mk (Kd.V_elder' (uf5_ HO307) (Kd.R_base ho0) hb); have HO314 := Aside0.mk (Kd.R_lower (Kd.R_new' ho0 (Kd.R_lt (uf1_ HO311))) (below_size (laws_FnNonePaid.calls_q0))); replace HO311 := Aside0.mk (Kd.R_elder' (uf1_ HO311) (Kd.R_base ho0) hb); replace BK308 := Aside0.mk (blk_below (g := gb308) (o := .cells #[.slice Ao13 t302.length co13, .slice Ao15 t305.length co15] 26 (0, 0)) (uf0_ BK308) hb); replace HB := Aside0.mk (below_step (laws_FnNonePaid.calls_q0) hb); (try clear hb); (try clear hk hi); (try clear ho0); obtain ⟨Ao19, co19, eo19⟩ := Kd.R_slice HO311.out; subst eo19; obtain ⟨Ao20, co20, eo20⟩ := Kd.R_slice HO314.out; subst eo20) | (go_at_call 14; (with_reducible refine (laws_samePays.calls k _ _ t309 _ _ t312 true _ ?side1 ?side2 ?side3 ?side4 A6.out).mono ?_); (case side1 => repeat (first | exact (Kd.R_reads' HO311.out).2.2 | (with_reducible refine Kd.C_alloc ?_ _) | (with_reducible refine Kd.C_drewN ?_ _) | (with_reducible refine Kd.C_drew ?_))); (case side2 => exact (Kd.R_reads' HO311.out).2.1); (case side3 => repeat (first | exact (Kd.R_reads' HO314.out).2.2 | (with_reducible refine Kd.C_alloc ?_ _) | (with_reducible refine Kd.C_drewN ?_ _) | (with_reducible refine Kd.C_drew ?_))); (case side4 => exact (Kd.R_reads' HO314.out).2.1); rintro e w' ⟨rfl, ⟨nd, rfl⟩⟩; (try first | exact ⟨rfl, _, World.drewN_drewN _ _ _⟩ | exact ⟨rfl, _, Eq.trans (World.drewN_drewN _ _ _) (congrArg (World.drewN _) (Nat.add_assoc _ _ _))⟩); obtain ⟨hcz21_0, hcz21_1, hfz21_0, hfz21_1⟩ := blk2_ BK308) | (go_at_call 16; (with_reducible refine (impl_BookOk.calls k _ _ t302 _ _ t305 true _ ?side1 ?side2 ?side3 ?side4 A9.out).mono ?_); (case side1 => repeat (first | exact (Kd.R_reads' HO304.out).2.2 | (with_reducible refine Kd.C_alloc ?_ _) | (with_reducible refine Kd.C_drewN ?_ _) | (with_reducible refine Kd.C_drew ?_))); (case side2 => exact (Kd.R_reads' HO304.out).2.1); (case side3 => repeat (first | exact (Kd.V_reads' HO307.out).2.2 | (with_reducible refine Kd.C_alloc ?_ _) | (with_reducible refine Kd.C_drewN ?_ _) | (with_reducible refine Kd.C_drew ?_))); (case side4 => exact (Kd.V_reads' HO307.out).2.1); rintro e w22 ⟨rfl, hb⟩; replace HO304 := Aside0.mk (Kd.R_below (uf1_ HO304) hb); replace HO307 := Aside0.mk (Kd.V_below (uf5_ HO307) hb); replace HO311 := Aside0.mk (Kd.R_below (uf1_ HO311) hb); replace HO314 := Aside0.mk (Kd.R_below (uf1_ HO314) hb); replace BK308 := Aside0.mk (blk_below (g := gb308) (o := .cells #[.slice Ao13 t302.length co13, .slice Ao15 t305.length co15] 26 (0, 0)) (uf0_ BK308) hb); replace HB := Aside0.mk (below_step (laws_FnNonePaid.calls_q0) hb); (try clear hb); (try clear hk hi))); try go_wp2_with (first | (go_at_call 12; (with_reducible refine (spec_DrawNonePaid.calls k _ _ l0 t302 t305 _ ?side1 ?side2 A3.out).mono ?_); (case side1 => repeat (first | exact HR0.out | (with_reducible refine Kd.C_alloc ?_ _) | (with_reducible refine Kd.C_drewN ?_ _) | (with_reducible refine Kd.C_drew ?_))); (case side2 => exact HC0.out); rintro e w11 ⟨v303, v306, rfl, ho0, ho1, hb⟩; have HO304 := Aside0.mk (Kd.R_lower (Kd.R_mono (ok' := fun k_ => True) ho0 (fun _ hk_ => trivial)) (below_size (laws_FnNonePaid.calls_q0))); have HO307 := Aside0.mk (Kd.V_lower (Kd.V_mono (ok' := fun k_ => some k_ ≠ (v303 : Value).ownBlock) ho1 (fun k_ hk_ => hk_.2)) (below_size (laws_FnNonePaid.calls_q0))); replace HB := Aside0.mk (below_step (laws_FnNonePaid.calls_q0) hb); (try clear hb); (try clear hk hi); (try clear ho0); (try clear ho1)) | ((with_reducible refine gate_dst (N := 3) rfl ?_); (try (refine gate_guard (by rfl) ?_; dsimp only)); refine bx_ (N := 3) #[.slice none 0 0, .slice none 0 0] 26 ?_; intro gb308 hg w12 hbox hb; replace HO304 := Aside0.mk (Kd.R_below (uf1_ HO304) hb); replace HO307 := Aside0.mk (Kd.V_below (Kd.V_elderB (uf5_ HO307) gb308 (Nat.le_of_eq hg.symm)) hb); have BK308 := Aside0.mk (hbox); have GW308 := Aside0.mk ((g10_ : w.heap.size ≤ gb308)); have GE308 := Aside0.mk ((g10_ : w.heap.size ≤ gb308)); replace HB := Aside0.mk (below_step (laws_FnNonePaid.calls_q0) hb); clear hb hbox hg; obtain ⟨Ao13, co13, eo13⟩ := Kd.R_slice HO304.out; subst eo13; obtain ⟨hcz14_0, hcz14_1, hfz14_0, hfz14_1⟩ := blk2_ BK308; obtain ⟨Ao15, co15, eo15⟩ := Kd.V_slice HO307.out; subst eo15) | (go_at_call 13; (with_reducible refine (impl_NonePaid.calls k _ _ t302 _ _ t305 t309 _ ?side1 ?side2 ?side3 ?side4 A4.out).mono ?_); (case side1 => refine (Kd.R_reads' (e := 3) (base := w.heap.size) (ok := fun k_ => True) (n := t302.length) (c := co13) ?_).2.2; exact (g54_)); (case side2 => exact (Kd.R_reads' HO304.out).2.1); (case side3 => refine (Kd.V_reads' (e := 23) (base := w.heap.size) (ok := fun k_ => (some k_ ≠ (.slice Ao13 t302.length co13 : Value).ownBlock ∧ k_ ≠ gb308)) (n := t305.length) (c := co15) ?_).2.2; exact (g55_)); (case side4 => exact (Kd.V_reads' HO307.out).2.1); rintro e w16 ⟨v310, rfl, ho0, hb⟩; replace HO304 := Aside0.mk (Kd.R_below (g54_) hb); replace HO307 := Aside0.mk (Kd.V_elder' (g55_) (Kd.R_base ho0) hb); have HO311 := Aside0.mk (Kd.R_lower ho0 (below_size (laws_FnNonePaid.calls_q0))); replace BK308 := Aside0.mk (blk_below (g := gb308) (o := .cells #[.slice Ao13 t302.length co13, .slice Ao15 t305.length co15] 26 (0, 0)) (g139_) hb); replace HB := Aside0.mk (below_step (laws_FnNonePaid.calls_q0) hb); (try clear hb); (try clear hk hi); (try clear ho0); obtain ⟨hcz17_0, hcz17_1, hfz17_0, hfz17_1⟩ := blk2_ BK308) | (go_at_call 15; (with_reducible refine (spec_NonePaid.calls k _ _ t302 _ _ t305 t312 _ ?side1 ?side2 ?side3 ?side4 A5.out).mono ?_); (case side1 => repeat (first | exact (Kd.R_reads' HO304.out).2.2 | (with_reducible refine Kd.C_alloc ?_ _) | (with_reducible refine Kd.C_drewN ?_ _) | (with_reducible refine Kd.C_drew ?_))); (case side2 => exact (Kd.R_reads' HO304.out).2.1); (case side3 => repeat (first | exact (Kd.V_reads' HO307.out).2.2 | (with_reducible refine Kd.C_alloc ?_ _) | (with_reducible refine Kd.C_drewN ?_ _) | (with_reducible refine Kd.C_drew ?_))); (case side4 => exact (Kd.V_reads' HO307.out).2.1); rintro e w18 ⟨v313, rfl, ho0, hb⟩; replace HO304 := Aside0.mk (Kd.R_below (uf1_ HO304) hb); replace HO307 := Aside0.mk (Kd.V_elder' (uf5_ HO307) (Kd.R_base ho0) hb); have HO314 := Aside0.mk (Kd.R_lower (Kd.R_new' ho0 (Kd.R_lt (uf1_ HO311))) (below_size (laws_FnNonePaid.calls_q0))); replace HO311 := Aside0.mk (Kd.R_elder' (uf1_ HO311) (Kd.R_base ho0) hb); replace BK308 := Aside0.mk (blk_below (g := gb308) (o := .cells #[.slice Ao13 t302.length co13, .slice Ao15 t305.length co15] 26 (0, 0)) (uf0_ BK308) hb); replace HB := Aside0.mk (below_step (laws_FnNonePaid.calls_q0) hb); (try clear hb); (try clear hk hi); (try clear ho0); obtain ⟨Ao19, co19, eo19⟩ := Kd.R_slice HO311.out; subst eo19; obtain ⟨Ao20, co20, eo20⟩ := Kd.R_slice HO314.out; subst eo20) | (go_at_call 14; (with_reducible refine (laws_samePays.calls k _ _ t309 _ _ t312 true _ ?side1 ?side2 ?side3 ?side4 A6.out).mono ?_); (case side1 => repeat (first | exact (Kd.R_reads' HO311.out).2.2 | (with_reducible refine Kd.C_alloc ?_ _) | (with_reducible refine Kd.C_drewN ?_ _) | (with_reducible refine Kd.C_drew ?_))); (case side2 => exact (Kd.R_reads' HO311.out).2.1); (case side3 => repeat (first | exact (Kd.R_reads' HO314.out).2.2 | (with_reducible refine Kd.C_alloc ?_ _) | (with_reducible refine Kd.C_drewN ?_ _) | (with_reducible refine Kd.C_drew ?_))); (case side4 => exact (Kd.R_reads' HO314.out).2.1); rintro e w' ⟨rfl, ⟨nd, rfl⟩⟩; (try first | exact ⟨rfl, _, World.drewN_drewN _ _ _⟩ | exact ⟨rfl, _, Eq.trans (World.drewN_drewN _ _ _) (congrArg (World.drewN _) (Nat.add_assoc _ _ _))⟩); obtain ⟨hcz21_0, hcz21_1, hfz21_0, hfz21_1⟩ := blk2_ BK308) | (go_at_call 16; (with_reducible refine (impl_BookOk.calls k _ _ t302 _ _ t305 true _ ?side1 ?side2 ?side3 ?side4 A9.out).mono ?_); (case side1 => repeat (first | exact (Kd.R_reads' HO304.out).2.2 | (with_reducible refine Kd.C_alloc ?_ _) | (with_reducible refine Kd.C_drewN ?_ _) | (with_reducible refine Kd.C_drew ?_))); (case side2 => exact (Kd.R_reads' HO304.out).2.1); (case side3 => repeat (first | exact (Kd.V_reads' HO307.out).2.2 | (with_reducible refine Kd.C_alloc ?_ _) | (with_reducible refine Kd.C_drewN ?_ _) | (with_reducible refine Kd.C_drew ?_))); (case side4 => exact (Kd.V_reads' HO307.out).2.1); rintro e w22 ⟨rfl, hb⟩; replace HO304 := Aside0.mk (Kd.R_below (uf1_ HO304) hb); replace HO307 := Aside0.mk (Kd.V_below (uf5_ HO307) hb); replace HO311 := Aside0.mk (Kd.R_below (uf1_ HO311) hb); replace HO314 := Aside0.mk (Kd.R_below (uf1_ HO314) hb); replace BK308 := Aside0.mk (blk_below (g := gb308) (o := .cells #[.slice Ao13 t302.length co13, .slice Ao15 t305.length co15] 26 (0, 0)) (uf0_ BK308) hb); replace HB := Aside0.mk (below_step (laws_FnNonePaid.calls_q0) hb); (try clear hb); (try clear hk hi))))
     go_ret
     exact ⟨g4_, laws_FnNonePaid.calls_q0⟩
    ·replace c10 := Bool.eq_false_iff.mpr c10
     subst c10
     replace H := ifn_ H
     obtain ⟨t317, A23, H⟩ := bind_ H
     obtain rfl := Option.some.inj H
     go_enter Try.func3, Try.ntmps3
     go_wp2_with (first | (go_at_call 12; (with_reducible refine (spec_DrawNonePaid.calls k _ _ l0 t302 t305 _ ?side1 ?side2 A3.out).mono ?_); (case side1 => repeat (first | exact HR0.out | (with_reducible refine Kd.C_alloc ?_ _) | (with_reducible refine Kd.C_drewN ?_ _) | (with_reducible refine Kd.C_drew ?_))); (case side2 => exact HC0.out); rintro e w24 ⟨v303, v306, rfl, ho0, ho1, hb⟩; have HO304 := Aside0.mk (Kd.R_lower (Kd.R_mono (ok' := fun k_ => True) ho0 (fun _ hk_ => trivial)) (below_size (laws_FnNonePaid.calls_q0))); have HO307 := Aside0.mk (Kd.V_lower (Kd.V_mono (ok' := fun k_ => some k_ ≠ (v303 : Value).ownBlock) ho1 (fun k_ hk_ => hk_.2)) (below_size (laws_FnNonePaid.calls_q0))); replace HB := Aside0.mk (below_step (laws_FnNonePaid.calls_q0) hb); (try clear hb); (try clear hk hi); (try clear ho0); (try clear ho1)) | ((with_reducible refine gate_dst (N := 3) rfl ?_); (try (refine gate_guard (by rfl) ?_; dsimp only)); refine bx_ (N := 3) #[.slice none 0 0, .slice none 0 0] 26 ?_; intro gb308 hg w25 hbox hb; replace HO304 := Aside0.mk (Kd.R_below (uf1_ HO304) hb); replace HO307 := Aside0.mk (Kd.V_below (Kd.V_elderB (uf5_ HO307) gb308 (Nat.le_of_eq hg.symm)) hb); have BK308 := Aside0.mk (hbox); have GW308 := Aside0.mk ((g10_ : w.heap.size ≤ gb308)); have GE308 := Aside0.mk ((g10_ : w.heap.size ≤ gb308)); replace HB := Aside0.mk (below_step (laws_FnNonePaid.calls_q0) hb); clear hb hbox hg; obtain ⟨Ao26, co26, eo26⟩ := Kd.R_slice HO304.out; subst eo26; obtain ⟨hcz27_0, hcz27_1, hfz27_0, hfz27_1⟩ := blk2_ BK308; obtain ⟨Ao28, co28, eo28⟩ := Kd.V_slice HO307.out; subst eo28) | (go_at_call 13; (with_reducible refine (impl_NonePaid.calls k _ _ t302 _ _ t305 t309 _ ?side1 ?side2 ?side3 ?side4 A4.out).mono ?_); (case side1 => refine (Kd.R_reads' (e := 3) (base := w.heap.size) (ok := fun k_ => True) (n := t302.length) (c := co26) ?_).2.2; exact (g56_)); (case side2 => exact (Kd.R_reads' HO304.out).2.1); (case side3 => refine (Kd.V_reads' (e := 23) (base := w.heap.size) (ok := fun k_ => (some k_ ≠ (.slice Ao26 t302.length co26 : Value).ownBlock ∧ k_ ≠ gb308)) (n := t305.length) (c := co28) ?_).2.2; exact (g57_)); (case side4 => exact (Kd.V_reads' HO307.out).2.1); rintro e w29 ⟨v310, rfl, ho0, hb⟩; replace HO304 := Aside0.mk (Kd.R_below (g56_) hb); replace HO307 := Aside0.mk (Kd.V_elder' (g57_) (Kd.R_base ho0) hb); have HO311 := Aside0.mk (Kd.R_lower ho0 (below_size (laws_FnNonePaid.calls_q0))); replace BK308 := Aside0.mk (blk_below (g := gb308) (o := .cells #[.slice Ao26 t302.length co26, .slice Ao28 t305.length co28] 26 (0, 0)) (g140_) hb); replace HB := Aside0.mk (below_step (laws_FnNonePaid.calls_q0) hb); (try clear hb); (try clear hk hi); (try clear ho0); obtain ⟨hcz30_0, hcz30_1, hfz30_0, hfz30_1⟩ := blk2_ BK308) | (go_at_call 15; (with_reducible refine (spec_NonePaid.calls k _ _ t302 _ _ t305 t312 _ ?side1 ?side2 ?side3 ?side4 A5.out).mono ?_); (case side1 => repeat (first | exact (Kd.R_reads' HO304.out).2.2 | (with_reducible refine Kd.C_alloc ?_ _) | (with_reducible refine Kd.C_drewN ?_ _) | (with_reducible refine Kd.C_drew ?_))); (case side2 => exact (Kd.R_reads' HO304.out).2.1); (case side3 => repeat (first | exact (Kd.V_reads' HO307.out).2.2 | (with_reducible refine Kd.C_alloc ?_ _) | (with_reducible refine Kd.C_drewN ?_ _) | (with_reducible refine Kd.C_drew ?_))); (case side4 => exact (Kd.V_reads' HO307.out).2.1); rintro e w31 ⟨v313, rfl, ho0, hb⟩; replace HO304 := Aside0.mk (Kd.R_below (uf1_ HO304) hb); replace HO307 := Aside0.mk (Kd.V_elder' (uf5_ HO307) (Kd.R_base ho0) hb); have HO314 := Aside0.mk (Kd.R_lower (Kd.R_new' ho0 (Kd.R_lt (uf1_ HO311))) (below_size (laws_FnNonePaid.calls_q0))); replace HO311 := Aside0.mk (Kd.R_elder' (uf1_ HO311) (Kd.R_base ho0) hb); replace BK308 := Aside0.mk (blk_below (g := gb308) (o := .cells #[.slice Ao26 t302.length co26, .slice Ao28 t305.length co28] 26 (0, 0)) (uf0_ BK308) hb); replace HB := Aside0.mk (below_step (laws_FnNonePaid.calls_q0) hb); (try clear hb); (try clear hk hi); (try clear ho0); obtain ⟨Ao32, co32, eo32⟩ := Kd.R_slice HO311.out; subst eo32; obtain ⟨Ao33, co33, eo33⟩ := Kd.R_slice HO314.out; subst eo33) | (go_at_call 14; (with_reducible refine (laws_samePays.calls k _ _ t309 _ _ t312 true _ ?side1 ?side2 ?side3 ?side4 A6.out).mono ?_); (case side1 => repeat (first | exact (Kd.R_reads' HO311.out).2.2 | (with_reducible refine Kd.C_alloc ?_ _) | (with_reducible refine Kd.C_drewN ?_ _) | (with_reducible refine Kd.C_drew ?_))); (case side2 => exact (Kd.R_reads' HO311.out).2.1); (case side3 => repeat (first | exact (Kd.R_reads' HO314.out).2.2 | (with_reducible refine Kd.C_alloc ?_ _) | (with_reducible refine Kd.C_drewN ?_ _) | (with_reducible refine Kd.C_drew ?_))); (case side4 => exact (Kd.R_reads' HO314.out).2.1); rintro e w' ⟨rfl, ⟨nd, rfl⟩⟩; (try first | exact ⟨rfl, _, World.drewN_drewN _ _ _⟩ | exact ⟨rfl, _, Eq.trans (World.drewN_drewN _ _ _) (congrArg (World.drewN _) (Nat.add_assoc _ _ _))⟩); obtain ⟨hcz34_0, hcz34_1, hfz34_0, hfz34_1⟩ := blk2_ BK308) | (go_at_call 16; (with_reducible refine (impl_BookOk.calls k _ _ t302 _ _ t305 false _ ?side1 ?side2 ?side3 ?side4 A9.out).mono ?_); (case side1 => repeat (first | exact (Kd.R_reads' HO304.out).2.2 | (with_reducible refine Kd.C_alloc ?_ _) | (with_reducible refine Kd.C_drewN ?_ _) | (with_reducible refine Kd.C_drew ?_))); (case side2 => exact (Kd.R_reads' HO304.out).2.1); (case side3 => repeat (first | exact (Kd.V_reads' HO307.out).2.2 | (with_reducible refine Kd.C_alloc ?_ _) | (with_reducible refine Kd.C_drewN ?_ _) | (with_reducible refine Kd.C_drew ?_))); (case side4 => exact (Kd.V_reads' HO307.out).2.1); rintro e w35 ⟨rfl, hb⟩; replace HO304 := Aside0.mk (Kd.R_below (uf1_ HO304) hb); replace HO307 := Aside0.mk (Kd.V_below (uf5_ HO307) hb); replace HO311 := Aside0.mk (Kd.R_below (uf1_ HO311) hb); replace HO314 := Aside0.mk (Kd.R_below (uf1_ HO314) hb); replace BK308 := Aside0.mk (blk_below (g := gb308) (o := .cells #[.slice Ao26 t302.length co26, .slice Ao28 t305.length co28] 26 (0, 0)) (uf0_ BK308) hb); replace HB := Aside0.mk (below_step (laws_FnNonePaid.calls_q0) hb); (try clear hb); (try clear hk hi)) | (go_at_call 17; (with_reducible refine (laws_alive.calls k  t317 _ A23.out).mono ?_); rintro e w36 ⟨rfl, hb⟩; replace HO304 := Aside0.mk (Kd.R_below (uf1_ HO304) hb); replace HO307 := Aside0.mk (Kd.V_below (uf5_ HO307) hb); replace HO311 := Aside0.mk (Kd.R_below (uf1_ HO311) hb); replace HO314 := Aside0.mk (Kd.R_below (uf1_ HO314) hb); replace BK308 := Aside0.mk (blk_below (g := gb308) (o := .cells #[.slice Ao26 t302.length co26, .slice Ao28 t305.length co28] 26 (0, 0)) (uf0_ BK308) hb); replace HB := Aside0.mk (below_step (laws_FnNonePaid.calls_q0) hb); (try clear hb); (try clear hk hi)))
     repeat (go_quiet (first | (go_at_call 12; (with_reducible refine (spec_DrawNonePaid.calls k _ _ l0 t302 t305 _ ?side1 ?side2 A3.out).mono ?_); (case side1 => repeat (first | exact HR0.out | (with_reducible refine Kd.C_alloc ?_ _) | (with_reducible refine Kd.C_drewN ?_ _) | (with_reducible refine Kd.C_drew ?_))); (case side2 => exact HC0.out); rintro e w24 ⟨v303, v306, rfl, ho0, ho1, hb⟩; have HO304 := Aside0.mk (Kd.R_lower (Kd.R_mono (ok' := fun k_ => True) ho0 (fun _ hk_ => trivial)) (below_size (laws_FnNonePaid.calls_q0))); have HO307 := Aside0.mk (Kd.V_lower (Kd.V_mono (ok' := fun k_ => some k_ ≠ (v303 : Value).ownBlock) ho1 (fun k_ hk_ => hk_.2)) (below_size (laws_FnNonePaid.calls_q0))); replace HB := Aside0.mk (below_step (laws_FnNonePaid.calls_q0) hb); (try clear hb); (try clear hk hi); (try clear ho0); (try clear ho1)) | ((with_reducible refine gate_dst (N := 3) rfl ?_); (try (refine gate_guard (by rfl) ?_; dsimp only)); refine bx_ (N := 3) #[.slice none 0 0, .slice none 0 0] 26 ?_; intro gb308 hg w25 hbox hb; replace HO304 := Aside0.mk (Kd.R_below (uf1_ HO304) hb); replace HO307 := Aside0.mk (Kd.V_below (Kd.V_elderB (uf5_ HO307) gb308 (Nat.le_of_eq hg.symm)) hb); have BK308 := Aside0.mk (hbox); have GW308 := Aside0.mk ((g10_ : w.heap.size ≤ gb308)); have GE308 := Aside0.mk ((g10_ : w.heap.size ≤ gb308)); replace HB := Aside0.mk (below_step (laws_FnNonePaid.calls_q0) hb); clear hb hbox hg; obtain ⟨Ao26, co26, eo26⟩ := Kd.R_slice HO304.out; subst eo26; obtain ⟨hcz27_0, hcz27_1, hfz27_0, hfz27_1⟩ := blk2_ BK308; obtain ⟨Ao28, co28, eo28⟩ := Kd.V_slice HO307.out; subst eo28) | (go_at_call 13; (with_reducible refine (impl_NonePaid.calls k _ _ t302 _ _ t305 t309 _ ?side1 ?side2 ?side3 ?side4 A4.out).mono ?_); (case side1 => refine (Kd.R_reads' (e := 3) (base := w.heap.size) (ok := fun k_ => True) (n := t302.length) (c := co26) ?_).2.2; exact (g56_)); (case side2 => exact (Kd.R_reads' HO304.out).2.1); (case side3 => refine (Kd.V_reads' (e := 23) (base := w.heap.size) (ok := fun k_ => (some k_ ≠ (.slice Ao26 t302.length co26 : Value).ownBlock ∧ k_ ≠ gb308)) (n := t305.length) (c := co28) ?_).2.2; exact (g57_)); (case side4 => exact (Kd.V_reads' HO307.out).2.1); rintro e w29 ⟨v310, rfl, ho0, hb⟩; replace HO304 := Aside0.mk (Kd.R_below (g56_) hb); replace HO307 := Aside0.mk (Kd.V_elder' (g57_) (Kd.R_base ho0) hb); have HO311 := Aside0.mk (Kd.R_lower ho0 (below_size (laws_FnNonePaid.calls_q0))); replace BK308 := Aside0.mk (blk_below (g := gb308) (o := .cells #[.slice Ao26 t302.length co26, .slice Ao28 t305.length co28] 26 (0, 0)) (g140_) hb); replace HB := Aside0.mk (below_step (laws_FnNonePaid.calls_q0) hb); (try clear hb); (try clear hk hi); (try clear ho0); obtain ⟨hcz30_0, hcz30_1, hfz30_0, hfz30_1⟩ := blk2_ BK308) | (go_at_call 15; (with_reducible refine (spec_NonePaid.calls k _ _ t302 _ _ t305 t312 _ ?side1 ?side2 ?side3 ?side4 A5.out).mono ?_); (case side1 => repeat (first | exact (Kd.R_reads' HO304.out).2.2 | (with_reducible refine Kd.C_alloc ?_ _) | (with_reducible refine Kd.C_drewN ?_ _) | (with_reducible refine Kd.C_drew ?_))); (case side2 => exact (Kd.R_reads' HO304.out).2.1); (case side3 => repeat (first | exact (Kd.V_reads' HO307.out).2.2 | (with_reducible refine Kd.C_alloc ?_ _) | (with_reducible refine Kd.C_drewN ?_ _) | (with_reducible refine Kd.C_drew ?_))); (case side4 => exact (Kd.V_reads' HO307.out).2.1); rintro e w31 ⟨v313, rfl, ho0, hb⟩; replace HO304 := Aside0.mk (Kd.R_below (uf1_ HO304) hb); replace HO307 := Aside0.mk (Kd.V_elder' (uf5_ HO307) (Kd.R_base ho0) hb); have HO314 := Aside0.mk (Kd.R_lower (Kd.R_new' ho0 (Kd.R_lt (uf1_ HO311))) (below_size (laws_FnNonePaid.calls_q0))); replace HO311 := Aside0.mk (Kd.R_elder' (uf1_ HO311) (Kd.R_base ho0) hb); replace BK308 := Aside0.mk (blk_below (g := gb308) (o := .cells #[.slice Ao26 t302.length co26, .slice Ao28 t305.length co28] 26 (0, 0)) (uf0_ BK308) hb); replace HB := Aside0.mk (below_step (laws_FnNonePaid.calls_q0) hb); (try clear hb); (try clear hk hi); (try clear ho0); obtain ⟨Ao32, co32, eo32⟩ := Kd.R_slice HO311.out; subst eo32; obtain ⟨Ao33, co33, eo33⟩ := Kd.R_slice HO314.out; subst eo33) | (go_at_call 14; (with_reducible refine (laws_samePays.calls k _ _ t309 _ _ t312 true _ ?side1 ?side2 ?side3 ?side4 A6.out).mono ?_); (case side1 => repeat (first | exact (Kd.R_reads' HO311.out).2.2 | (with_reducible refine Kd.C_alloc ?_ _) | (with_reducible refine Kd.C_drewN ?_ _) | (with_reducible refine Kd.C_drew ?_))); (case side2 => exact (Kd.R_reads' HO311.out).2.1); (case side3 => repeat (first | exact (Kd.R_reads' HO314.out).2.2 | (with_reducible refine Kd.C_alloc ?_ _) | (with_reducible refine Kd.C_drewN ?_ _) | (with_reducible refine Kd.C_drew ?_))); (case side4 => exact (Kd.R_reads' HO314.out).2.1); rintro e w' ⟨rfl, ⟨nd, rfl⟩⟩; (try first | exact ⟨rfl, _, World.drewN_drewN _ _ _⟩ | exact ⟨rfl, _, Eq.trans (World.drewN_drewN _ _ _) (congrArg (World.drewN _) (Nat.add_assoc _ _ _))⟩); obtain ⟨hcz34_0, hcz34_1, hfz34_0, hfz34_1⟩ := blk2_ BK308) | (go_at_call 16; (with_reducible refine (impl_BookOk.calls k _ _ t302 _ _ t305 false _ ?side1 ?side2 ?side3 ?side4 A9.out).mono ?_); (case side1 => repeat (first | exact (Kd.R_reads' HO304.out).2.2 | (with_reducible refine Kd.C_alloc ?_ _) | (with_reducible refine Kd.C_drewN ?_ _) | (with_reducible refine Kd.C_drew ?_))); (case side2 => exact (Kd.R_reads' HO304.out).2.1); (case side3 => repeat (first | exact (Kd.V_reads' HO307.out).2.2 | (with_reducible refine Kd.C_alloc ?_ _) | (with_reducible refine Kd.C_drewN ?_ _) | (with_reducible refine Kd.C_drew ?_))); (case side4 => exact (Kd.V_reads' HO307.out).2.1); rintro e w35 ⟨rfl, hb⟩; replace HO304 := Aside0.mk (Kd.R_below (uf1_ HO304) hb); replace HO307 := Aside0.mk (Kd.V_below (uf5_ HO307) hb); replace HO311 := Aside0.mk (Kd.R_below (uf1_ HO311) hb); replace HO314 := Aside0.mk (Kd.R_below (uf1_ HO314) hb); replace BK308 := Aside0.mk (blk_below (g := gb308) (o := .cells #[.slice Ao26 t302.length co26, .slice Ao28 t305.length co28] 26 (0, 0)) (uf0_ BK308) hb); replace HB := Aside0.mk (below_step (laws_FnNonePaid.calls_q0) hb); (try clear hb); (try clear hk hi)) | (go_at_call 17; (with_reducible refine (laws_alive.calls k  t317 _ A23.out).mono ?_); rintro e w36 ⟨rfl, hb⟩; replace HO304 := Aside0.mk (Kd.R_below (uf1_ HO304) hb); replace HO307 := Aside0.mk (Kd.V_below (uf5_ HO307) hb); replace HO311 := Aside0.mk (Kd.R_below (uf1_ HO311) hb); replace HO314 := Aside0.mk (Kd.R_below (uf1_ HO314) hb); replace BK308 := Aside0.mk (blk_below (g := gb308) (o := .cells #[.slice Ao26 t302.length co26, .slice Ao28 t305.length co28] 26 (0, 0)) (uf0_ BK308) hb); replace HB := Aside0.mk (below_step (laws_FnNonePaid.calls_q0) hb); (try clear hb); (try clear hk hi))); try go_wp2_with (first | (go_at_call 12; (with_reducible refine (spec_DrawNonePaid.calls k _ _ l0 t302 t305 _ ?side1 ?side2 A3.out).mono ?_); (case side1 => repeat (first | exact HR0.out | (with_reducible refine Kd.C_alloc ?_ _) | (with_reducible refine Kd.C_drewN ?_ _) | (with_reducible refine Kd.C_drew ?_))); (case side2 => exact HC0.out); rintro e w24 ⟨v303, v306, rfl, ho0, ho1, hb⟩; have HO304 := Aside0.mk (Kd.R_lower (Kd.R_mono (ok' := fun k_ => True) ho0 (fun _ hk_ => trivial)) (below_size (laws_FnNonePaid.calls_q0))); have HO307 := Aside0.mk (Kd.V_lower (Kd.V_mono (ok' := fun k_ => some k_ ≠ (v303 : Value).ownBlock) ho1 (fun k_ hk_ => hk_.2)) (below_size (laws_FnNonePaid.calls_q0))); replace HB := Aside0.mk (below_step (laws_FnNonePaid.calls_q0) hb); (try clear hb); (try clear hk hi); (try clear ho0); (try clear ho1)) | ((with_reducible refine gate_dst (N := 3) rfl ?_); (try (refine gate_guard (by rfl) ?_; dsimp only)); refine bx_ (N := 3) #[.slice none 0 0, .slice none 0 0] 26 ?_; intro gb308 hg w25 hbox hb; replace HO304 := Aside0.mk (Kd.R_below (uf1_ HO304) hb); replace HO307 := Aside0.mk (Kd.V_below (Kd.V_elderB (uf5_ HO307) gb308 (Nat.le_of_eq hg.symm)) hb); have BK308 := Aside0.mk (hbox); have GW308 := Aside0.mk ((g10_ : w.heap.size ≤ gb308)); have GE308 := Aside0.mk ((g10_ : w.heap.size ≤ gb308)); replace HB := Aside0.mk (below_step (laws_FnNonePaid.calls_q0) hb); clear hb hbox hg; obtain ⟨Ao26, co26, eo26⟩ := Kd.R_slice HO304.out; subst eo26; obtain ⟨hcz27_0, hcz27_1, hfz27_0, hfz27_1⟩ := blk2_ BK308; obtain ⟨Ao28, co28, eo28⟩ := Kd.V_slice HO307.out; subst eo28) | (go_at_call 13; (with_reducible refine (impl_NonePaid.calls k _ _ t302 _ _ t305 t309 _ ?side1 ?side2 ?side3 ?side4 A4.out).mono ?_); (case side1 => refine (Kd.R_reads' (e := 3) (base := w.heap.size) (ok := fun k_ => True) (n := t302.length) (c := co26) ?_).2.2; exact (g56_)); (case side2 => exact (Kd.R_reads' HO304.out).2.1); (case side3 => refine (Kd.V_reads' (e := 23) (base := w.heap.size) (ok := fun k_ => (some k_ ≠ (.slice Ao26 t302.length co26 : Value).ownBlock ∧ k_ ≠ gb308)) (n := t305.length) (c := co28) ?_).2.2; exact (g57_)); (case side4 => exact (Kd.V_reads' HO307.out).2.1); rintro e w29 ⟨v310, rfl, ho0, hb⟩; replace HO304 := Aside0.mk (Kd.R_below (g56_) hb); replace HO307 := Aside0.mk (Kd.V_elder' (g57_) (Kd.R_base ho0) hb); have HO311 := Aside0.mk (Kd.R_lower ho0 (below_size (laws_FnNonePaid.calls_q0))); replace BK308 := Aside0.mk (blk_below (g := gb308) (o := .cells #[.slice Ao26 t302.length co26, .slice Ao28 t305.length co28] 26 (0, 0)) (g140_) hb); replace HB := Aside0.mk (below_step (laws_FnNonePaid.calls_q0) hb); (try clear hb); (try clear hk hi); (try clear ho0); obtain ⟨hcz30_0, hcz30_1, hfz30_0, hfz30_1⟩ := blk2_ BK308) | (go_at_call 15; (with_reducible refine (spec_NonePaid.calls k _ _ t302 _ _ t305 t312 _ ?side1 ?side2 ?side3 ?side4 A5.out).mono ?_); (case side1 => repeat (first | exact (Kd.R_reads' HO304.out).2.2 | (with_reducible refine Kd.C_alloc ?_ _) | (with_reducible refine Kd.C_drewN ?_ _) | (with_reducible refine Kd.C_drew ?_))); (case side2 => exact (Kd.R_reads' HO304.out).2.1); (case side3 => repeat (first | exact (Kd.V_reads' HO307.out).2.2 | (with_reducible refine Kd.C_alloc ?_ _) | (with_reducible refine Kd.C_drewN ?_ _) | (with_reducible refine Kd.C_drew ?_))); (case side4 => exact (Kd.V_reads' HO307.out).2.1); rintro e w31 ⟨v313, rfl, ho0, hb⟩; replace HO304 := Aside0.mk (Kd.R_below (uf1_ HO304) hb); replace HO307 := Aside0.mk (Kd.V_elder' (uf5_ HO307) (Kd.R_base ho0) hb); have HO314 := Aside0.mk (Kd.R_lower (Kd.R_new' ho0 (Kd.R_lt (uf1_ HO311))) (below_size (laws_FnNonePaid.calls_q0))); replace HO311 := Aside0.mk (Kd.R_elder' (uf1_ HO311) (Kd.R_base ho0) hb); replace BK308 := Aside0.mk (blk_below (g := gb308) (o := .cells #[.slice Ao26 t302.length co26, .slice Ao28 t305.length co28] 26 (0, 0)) (uf0_ BK308) hb); replace HB := Aside0.mk (below_step (laws_FnNonePaid.calls_q0) hb); (try clear hb); (try clear hk hi); (try clear ho0); obtain ⟨Ao32, co32, eo32⟩ := Kd.R_slice HO311.out; subst eo32; obtain ⟨Ao33, co33, eo33⟩ := Kd.R_slice HO314.out; subst eo33) | (go_at_call 14; (with_reducible refine (laws_samePays.calls k _ _ t309 _ _ t312 true _ ?side1 ?side2 ?side3 ?side4 A6.out).mono ?_); (case side1 => repeat (first | exact (Kd.R_reads' HO311.out).2.2 | (with_reducible refine Kd.C_alloc ?_ _) | (with_reducible refine Kd.C_drewN ?_ _) | (with_reducible refine Kd.C_drew ?_))); (case side2 => exact (Kd.R_reads' HO311.out).2.1); (case side3 => repeat (first | exact (Kd.R_reads' HO314.out).2.2 | (with_reducible refine Kd.C_alloc ?_ _) | (with_reducible refine Kd.C_drewN ?_ _) | (with_reducible refine Kd.C_drew ?_))); (case side4 => exact (Kd.R_reads' HO314.out).2.1); rintro e w' ⟨rfl, ⟨nd, rfl⟩⟩; (try first | exact ⟨rfl, _, World.drewN_drewN _ _ _⟩ | exact ⟨rfl, _, Eq.trans (World.drewN_drewN _ _ _) (congrArg (World.drewN _) (Nat.add_assoc _ _ _))⟩); obtain ⟨hcz34_0, hcz34_1, hfz34_0, hfz34_1⟩ := blk2_ BK308) | (go_at_call 16; (with_reducible refine (impl_BookOk.calls k _ _ t302 _ _ t305 false _ ?side1 ?side2 ?side3 ?side4 A9.out).mono ?_); (case side1 => repeat (first | exact (Kd.R_reads' HO304.out).2.2 | (with_reducible refine Kd.C_alloc ?_ _) | (with_reducible refine Kd.C_drewN ?_ _) | (with_reducible refine Kd.C_drew ?_))); (case side2 => exact (Kd.R_reads' HO304.out).2.1); (case side3 => repeat (first | exact (Kd.V_reads' HO307.out).2.2 | (with_reducible refine Kd.C_alloc ?_ _) | (with_reducible refine Kd.C_drewN ?_ _) | (with_reducible refine Kd.C_drew ?_))); (case side4 => exact (Kd.V_reads' HO307.out).2.1); rintro e w35 ⟨rfl, hb⟩; replace HO304 := Aside0.mk (Kd.R_below (uf1_ HO304) hb); replace HO307 := Aside0.mk (Kd.V_below (uf5_ HO307) hb); replace HO311 := Aside0.mk (Kd.R_below (uf1_ HO311) hb); replace HO314 := Aside0.mk (Kd.R_below (uf1_ HO314) hb); replace BK308 := Aside0.mk (blk_below (g := gb308) (o := .cells #[.slice Ao26 t302.length co26, .slice Ao28 t305.length co28] 26 (0, 0)) (uf0_ BK308) hb); replace HB := Aside0.mk (below_step (laws_FnNonePaid.calls_q0) hb); (try clear hb); (try clear hk hi)) | (go_at_call 17; (with_reducible refine (laws_alive.calls k  t317 _ A23.out).mono ?_); rintro e w36 ⟨rfl, hb⟩; replace HO304 := Aside0.mk (Kd.R_below (uf1_ HO304) hb); replace HO307 := Aside0.mk (Kd.V_below (uf5_ HO307) hb); replace HO311 := Aside0.mk (Kd.R_below (uf1_ HO311) hb); replace HO314 := Aside0.mk (Kd.R_below (uf1_ HO314) hb); replace BK308 := Aside0.mk (blk_below (g := gb308) (o := .cells #[.slice Ao26 t302.length co26, .slice Ao28 t305.length co28] 26 (0, 0)) (uf0_ BK308) hb); replace HB := Aside0.mk (below_step (laws_FnNonePaid.calls_q0) hb); (try clear hb); (try clear hk hi))))
     go_ret
     exact ⟨g4_, laws_FnNonePaid.calls_q0⟩
   ·rw [if_neg c8] at H
    have c8b0 : ((t309.length : Int) == 0) = false := beq_eq_false_iff_ne.mpr c8
    have c8b1 : ((t309.length : Int) != 0) = true := bne_iff_ne.mpr c8
    have c8b2 : ¬ (t309 = []) := fun h_ => c8 (g46_)
    replace H := Option.bind_eq_some_iff.mp H
    obtain ⟨⟨t318, t321⟩, A370, H⟩ := H
    replace H : (laws_FnNonePaid.l0 k t318 t321 0 t302 t305) = some r := H
    have A37 := Aside0.mk A370
    clear A370
    have H' := Aside0.mk H
    clear H
    go_enter Try.func3, Try.ntmps3
    go_wp2_with (first | (go_at_call 12; (with_reducible refine (spec_DrawNonePaid.calls k _ _ l0 t302 t305 _ ?side1 ?side2 A3.out).mono ?_); (case side1 => repeat (first | exact HR0.out | (with_reducible refine Kd.C_alloc ?_ _) | (with_reducible refine Kd.C_drewN ?_ _) | (with_reducible refine Kd.C_drew ?_))); (case side2 => exact HC0.out); rintro e w38 ⟨v303, v306, rfl, ho0, ho1, hb⟩; have HO304 := Aside0.mk (Kd.R_lower (Kd.R_mono (ok' := fun k_ => True) ho0 (fun _ hk_ => trivial)) (below_size (laws_FnNonePaid.calls_q0))); have HO307 := Aside0.mk (Kd.V_lower (Kd.V_mono (ok' := fun k_ => some k_ ≠ (v303 : Value).ownBlock) ho1 (fun k_ hk_ => hk_.2)) (below_size (laws_FnNonePaid.calls_q0))); replace HB := Aside0.mk (below_step (laws_FnNonePaid.calls_q0) hb); (try clear hb); (try clear hk hi); (try clear ho0); (try clear ho1)) | ((with_reducible refine gate_dst (N := 3) rfl ?_); (try (refine gate_guard (by rfl) ?_; dsimp only)); refine bx_ (N := 3) #[.slice none 0 0, .slice none 0 0] 26 ?_; intro gb308 hg w39 hbox hb; replace HO304 := Aside0.mk (Kd.R_below (uf1_ HO304) hb); replace HO307 := Aside0.mk (Kd.V_below (Kd.V_elderB (uf5_ HO307) gb308 (Nat.le_of_eq hg.symm)) hb); have BK308 := Aside0.mk (hbox); have GW308 := Aside0.mk ((g10_ : w.heap.size ≤ gb308)); have GE308 := Aside0.mk ((g10_ : w.heap.size ≤ gb308)); replace HB := Aside0.mk (below_step (laws_FnNonePaid.calls_q0) hb); clear hb hbox hg; obtain ⟨Ao40, co40, eo40⟩ := Kd.R_slice HO304.out; subst eo40; obtain ⟨hcz41_0, hcz41_1, hfz41_0, hfz41_1⟩ := blk2_ BK308; obtain ⟨Ao42, co42, eo42⟩ := Kd.V_slice HO307.out; subst eo42) | (go_at_call 13; (with_reducible refine (impl_NonePaid.calls k _ _ t302 _ _ t305 t309 _ ?side1 ?side2 ?side3 ?side4 A4.out).mono ?_); (case side1 => refine (Kd.R_reads' (e := 3) (base := w.heap.size) (ok := fun k_ => True) (n := t302.length) (c := co40) ?_).2.2; exact (g58_)); (case side2 => exact (Kd.R_reads' HO304.out).2.1); (case side3 => refine (Kd.V_reads' (e := 23) (base := w.heap.size) (ok := fun k_ => (some k_ ≠ (.slice Ao40 t302.length co40 : Value).ownBlock ∧ k_ ≠ gb308)) (n := t305.length) (c := co42) ?_).2.2; exact (g59_)); (case side4 => exact (Kd.V_reads' HO307.out).2.1); rintro e w43 ⟨v310, rfl, ho0, hb⟩; replace HO304 := Aside0.mk (Kd.R_below (g58_) hb); replace HO307 := Aside0.mk (Kd.V_elder' (g59_) (Kd.R_base ho0) hb); have HO311 := Aside0.mk (Kd.R_lower ho0 (below_size (laws_FnNonePaid.calls_q0))); replace BK308 := Aside0.mk (blk_below (g := gb308) (o := .cells #[.slice Ao40 t302.length co40, .slice Ao42 t305.length co42] 26 (0, 0)) (g141_) hb); replace HB := Aside0.mk (below_step (laws_FnNonePaid.calls_q0) hb); (try clear hb); (try clear hk hi); (try clear ho0); obtain ⟨hcz44_0, hcz44_1, hfz44_0, hfz44_1⟩ := blk2_ BK308) | (go_at_call 15; (with_reducible refine (spec_NonePaid.calls k _ _ t302 _ _ t305 t312 _ ?side1 ?side2 ?side3 ?side4 A5.out).mono ?_); (case side1 => repeat (first | exact (Kd.R_reads' HO304.out).2.2 | (with_reducible refine Kd.C_alloc ?_ _) | (with_reducible refine Kd.C_drewN ?_ _) | (with_reducible refine Kd.C_drew ?_))); (case side2 => exact (Kd.R_reads' HO304.out).2.1); (case side3 => repeat (first | exact (Kd.V_reads' HO307.out).2.2 | (with_reducible refine Kd.C_alloc ?_ _) | (with_reducible refine Kd.C_drewN ?_ _) | (with_reducible refine Kd.C_drew ?_))); (case side4 => exact (Kd.V_reads' HO307.out).2.1); rintro e w45 ⟨v313, rfl, ho0, hb⟩; replace HO304 := Aside0.mk (Kd.R_below (uf1_ HO304) hb); replace HO307 := Aside0.mk (Kd.V_elder' (uf5_ HO307) (Kd.R_base ho0) hb); have HO314 := Aside0.mk (Kd.R_lower (Kd.R_new' ho0 (Kd.R_lt (uf1_ HO311))) (below_size (laws_FnNonePaid.calls_q0))); replace HO311 := Aside0.mk (Kd.R_elder' (uf1_ HO311) (Kd.R_base ho0) hb); replace BK308 := Aside0.mk (blk_below (g := gb308) (o := .cells #[.slice Ao40 t302.length co40, .slice Ao42 t305.length co42] 26 (0, 0)) (uf0_ BK308) hb); replace HB := Aside0.mk (below_step (laws_FnNonePaid.calls_q0) hb); (try clear hb); (try clear hk hi); (try clear ho0); obtain ⟨Ao46, co46, eo46⟩ := Kd.R_slice HO311.out; subst eo46; obtain ⟨Ao47, co47, eo47⟩ := Kd.R_slice HO314.out; subst eo47) | (go_at_call 14; (with_reducible refine (laws_samePays.calls k _ _ t309 _ _ t312 true _ ?side1 ?side2 ?side3 ?side4 A6.out).mono ?_); (case side1 => repeat (first | exact (Kd.R_reads' HO311.out).2.2 | (with_reducible refine Kd.C_alloc ?_ _) | (with_reducible refine Kd.C_drewN ?_ _) | (with_reducible refine Kd.C_drew ?_))); (case side2 => exact (Kd.R_reads' HO311.out).2.1); (case side3 => repeat (first | exact (Kd.R_reads' HO314.out).2.2 | (with_reducible refine Kd.C_alloc ?_ _) | (with_reducible refine Kd.C_drewN ?_ _) | (with_reducible refine Kd.C_drew ?_))); (case side4 => exact (Kd.R_reads' HO314.out).2.1); rintro e w' ⟨rfl, ⟨nd, rfl⟩⟩; (try first | exact ⟨rfl, _, World.drewN_drewN _ _ _⟩ | exact ⟨rfl, _, Eq.trans (World.drewN_drewN _ _ _) (congrArg (World.drewN _) (Nat.add_assoc _ _ _))⟩); obtain ⟨hcz48_0, hcz48_1, hfz48_0, hfz48_1⟩ := blk2_ BK308) | (go_at_call 18; (with_reducible refine (impl_GetsOf.calls k _ _ t302 _ _ t305 _ _ t309 t318 t321 _ ?side1 ?side2 ?side3 ?side4 ?side5 ?side6 A37.out).mono ?_); (case side1 => repeat (first | exact (Kd.R_reads' HO304.out).2.2 | (with_reducible refine Kd.C_alloc ?_ _) | (with_reducible refine Kd.C_drewN ?_ _) | (with_reducible refine Kd.C_drew ?_))); (case side2 => exact (Kd.R_reads' HO304.out).2.1); (case side3 => repeat (first | exact (Kd.V_reads' HO307.out).2.2 | (with_reducible refine Kd.C_alloc ?_ _) | (with_reducible refine Kd.C_drewN ?_ _) | (with_reducible refine Kd.C_drew ?_))); (case side4 => exact (Kd.V_reads' HO307.out).2.1); (case side5 => repeat (first | exact (Kd.R_reads' HO311.out).2.2 | (with_reducible refine Kd.C_alloc ?_ _) | (with_reducible refine Kd.C_drewN ?_ _) | (with_reducible refine Kd.C_drew ?_))); (case side6 => exact (Kd.R_reads' HO311.out).2.1); rintro e w49 ⟨v319, rfl, ho0, hb⟩; replace HO304 := Aside0.mk (Kd.R_below (uf1_ HO304) hb); replace HO307 := Aside0.mk (Kd.V_elder' (uf5_ HO307) (Kd.R_base ho0) hb); have HO320 := Aside0.mk (Kd.R_lower (Kd.R_new' (Kd.R_new' ho0 (Kd.R_lt (uf1_ HO311))) (Kd.R_lt (uf1_ HO314))) (below_size (laws_FnNonePaid.calls_q0))); replace HO311 := Aside0.mk (Kd.R_elder' (uf1_ HO311) (Kd.R_base ho0) hb); replace HO314 := Aside0.mk (Kd.R_elder' (uf1_ HO314) (Kd.R_base ho0) hb); replace BK308 := Aside0.mk (blk_below (g := gb308) (o := .cells #[.slice Ao40 t302.length co40, .slice Ao42 t305.length co42] 26 (0, 0)) (uf0_ BK308) hb); replace HB := Aside0.mk (below_step (laws_FnNonePaid.calls_q0) hb); (try clear hb); (try clear hk hi); (try clear ho0)))
    repeat (go_quiet (first | (go_at_call 12; (with_reducible refine (spec_DrawNonePaid.calls k _ _ l0 t302 t305 _ ?side1 ?side2 A3.out).mono ?_); (case side1 => repeat (first | exact HR0.out | (with_reducible refine Kd.C_alloc ?_ _) | (with_reducible refine Kd.C_drewN ?_ _) | (with_reducible refine Kd.C_drew ?_))); (case side2 => exact HC0.out); rintro e w38 ⟨v303, v306, rfl, ho0, ho1, hb⟩; have HO304 := Aside0.mk (Kd.R_lower (Kd.R_mono (ok' := fun k_ => True) ho0 (fun _ hk_ => trivial)) (below_size (laws_FnNonePaid.calls_q0))); have HO307 := Aside0.mk (Kd.V_lower (Kd.V_mono (ok' := fun k_ => some k_ ≠ (v303 : Value).ownBlock) ho1 (fun k_ hk_ => hk_.2)) (below_size (laws_FnNonePaid.calls_q0))); replace HB := Aside0.mk (below_step (laws_FnNonePaid.calls_q0) hb); (try clear hb); (try clear hk hi); (try clear ho0); (try clear ho1)) | ((with_reducible refine gate_dst (N := 3) rfl ?_); (try (refine gate_guard (by rfl) ?_; dsimp only)); refine bx_ (N := 3) #[.slice none 0 0, .slice none 0 0] 26 ?_; intro gb308 hg w39 hbox hb; replace HO304 := Aside0.mk (Kd.R_below (uf1_ HO304) hb); replace HO307 := Aside0.mk (Kd.V_below (Kd.V_elderB (uf5_ HO307) gb308 (Nat.le_of_eq hg.symm)) hb); have BK308 := Aside0.mk (hbox); have GW308 := Aside0.mk ((g10_ : w.heap.size ≤ gb308)); have GE308 := Aside0.mk ((g10_ : w.heap.size ≤ gb308)); replace HB := Aside0.mk (below_step (laws_FnNonePaid.calls_q0) hb); clear hb hbox hg; obtain ⟨Ao40, co40, eo40⟩ := Kd.R_slice HO304.out; subst eo40; obtain ⟨hcz41_0, hcz41_1, hfz41_0, hfz41_1⟩ := blk2_ BK308; obtain ⟨Ao42, co42, eo42⟩ := Kd.V_slice HO307.out; subst eo42) | (go_at_call 13; (with_reducible refine (impl_NonePaid.calls k _ _ t302 _ _ t305 t309 _ ?side1 ?side2 ?side3 ?side4 A4.out).mono ?_); (case side1 => refine (Kd.R_reads' (e := 3) (base := w.heap.size) (ok := fun k_ => True) (n := t302.length) (c := co40) ?_).2.2; exact (g58_)); (case side2 => exact (Kd.R_reads' HO304.out).2.1); (case side3 => refine (Kd.V_reads' (e := 23) (base := w.heap.size) (ok := fun k_ => (some k_ ≠ (.slice Ao40 t302.length co40 : Value).ownBlock ∧ k_ ≠ gb308)) (n := t305.length) (c := co42) ?_).2.2; exact (g59_)); (case side4 => exact (Kd.V_reads' HO307.out).2.1); rintro e w43 ⟨v310, rfl, ho0, hb⟩; replace HO304 := Aside0.mk (Kd.R_below (g58_) hb); replace HO307 := Aside0.mk (Kd.V_elder' (g59_) (Kd.R_base ho0) hb); have HO311 := Aside0.mk (Kd.R_lower ho0 (below_size (laws_FnNonePaid.calls_q0))); replace BK308 := Aside0.mk (blk_below (g := gb308) (o := .cells #[.slice Ao40 t302.length co40, .slice Ao42 t305.length co42] 26 (0, 0)) (g141_) hb); replace HB := Aside0.mk (below_step (laws_FnNonePaid.calls_q0) hb); (try clear hb); (try clear hk hi); (try clear ho0); obtain ⟨hcz44_0, hcz44_1, hfz44_0, hfz44_1⟩ := blk2_ BK308) | (go_at_call 15; (with_reducible refine (spec_NonePaid.calls k _ _ t302 _ _ t305 t312 _ ?side1 ?side2 ?side3 ?side4 A5.out).mono ?_); (case side1 => repeat (first | exact (Kd.R_reads' HO304.out).2.2 | (with_reducible refine Kd.C_alloc ?_ _) | (with_reducible refine Kd.C_drewN ?_ _) | (with_reducible refine Kd.C_drew ?_))); (case side2 => exact (Kd.R_reads' HO304.out).2.1); (case side3 => repeat (first | exact (Kd.V_reads' HO307.out).2.2 | (with_reducible refine Kd.C_alloc ?_ _) | (with_reducible refine Kd.C_drewN ?_ _) | (with_reducible refine Kd.C_drew ?_))); (case side4 => exact (Kd.V_reads' HO307.out).2.1); rintro e w45 ⟨v313, rfl, ho0, hb⟩; replace HO304 := Aside0.mk (Kd.R_below (uf1_ HO304) hb); replace HO307 := Aside0.mk (Kd.V_elder' (uf5_ HO307) (Kd.R_base ho0) hb); have HO314 := Aside0.mk (Kd.R_lower (Kd.R_new' ho0 (Kd.R_lt (uf1_ HO311))) (below_size (laws_FnNonePaid.calls_q0))); replace HO311 := Aside0.mk (Kd.R_elder' (uf1_ HO311) (Kd.R_base ho0) hb); replace BK308 := Aside0.mk (blk_below (g := gb308) (o := .cells #[.slice Ao40 t302.length co40, .slice Ao42 t305.length co42] 26 (0, 0)) (uf0_ BK308) hb); replace HB := Aside0.mk (below_step (laws_FnNonePaid.calls_q0) hb); (try clear hb); (try clear hk hi); (try clear ho0); obtain ⟨Ao46, co46, eo46⟩ := Kd.R_slice HO311.out; subst eo46; obtain ⟨Ao47, co47, eo47⟩ := Kd.R_slice HO314.out; subst eo47) | (go_at_call 14; (with_reducible refine (laws_samePays.calls k _ _ t309 _ _ t312 true _ ?side1 ?side2 ?side3 ?side4 A6.out).mono ?_); (case side1 => repeat (first | exact (Kd.R_reads' HO311.out).2.2 | (with_reducible refine Kd.C_alloc ?_ _) | (with_reducible refine Kd.C_drewN ?_ _) | (with_reducible refine Kd.C_drew ?_))); (case side2 => exact (Kd.R_reads' HO311.out).2.1); (case side3 => repeat (first | exact (Kd.R_reads' HO314.out).2.2 | (with_reducible refine Kd.C_alloc ?_ _) | (with_reducible refine Kd.C_drewN ?_ _) | (with_reducible refine Kd.C_drew ?_))); (case side4 => exact (Kd.R_reads' HO314.out).2.1); rintro e w' ⟨rfl, ⟨nd, rfl⟩⟩; (try first | exact ⟨rfl, _, World.drewN_drewN _ _ _⟩ | exact ⟨rfl, _, Eq.trans (World.drewN_drewN _ _ _) (congrArg (World.drewN _) (Nat.add_assoc _ _ _))⟩); obtain ⟨hcz48_0, hcz48_1, hfz48_0, hfz48_1⟩ := blk2_ BK308) | (go_at_call 18; (with_reducible refine (impl_GetsOf.calls k _ _ t302 _ _ t305 _ _ t309 t318 t321 _ ?side1 ?side2 ?side3 ?side4 ?side5 ?side6 A37.out).mono ?_); (case side1 => repeat (first | exact (Kd.R_reads' HO304.out).2.2 | (with_reducible refine Kd.C_alloc ?_ _) | (with_reducible refine Kd.C_drewN ?_ _) | (with_reducible refine Kd.C_drew ?_))); (case side2 => exact (Kd.R_reads' HO304.out).2.1); (case side3 => repeat (first | exact (Kd.V_reads' HO307.out).2.2 | (with_reducible refine Kd.C_alloc ?_ _) | (with_reducible refine Kd.C_drewN ?_ _) | (with_reducible refine Kd.C_drew ?_))); (case side4 => exact (Kd.V_reads' HO307.out).2.1); (case side5 => repeat (first | exact (Kd.R_reads' HO311.out).2.2 | (with_reducible refine Kd.C_alloc ?_ _) | (with_reducible refine Kd.C_drewN ?_ _) | (with_reducible refine Kd.C_drew ?_))); (case side6 => exact (Kd.R_reads' HO311.out).2.1); rintro e w49 ⟨v319, rfl, ho0, hb⟩; replace HO304 := Aside0.mk (Kd.R_below (uf1_ HO304) hb); replace HO307 := Aside0.mk (Kd.V_elder' (uf5_ HO307) (Kd.R_base ho0) hb); have HO320 := Aside0.mk (Kd.R_lower (Kd.R_new' (Kd.R_new' ho0 (Kd.R_lt (uf1_ HO311))) (Kd.R_lt (uf1_ HO314))) (below_size (laws_FnNonePaid.calls_q0))); replace HO311 := Aside0.mk (Kd.R_elder' (uf1_ HO311) (Kd.R_base ho0) hb); replace HO314 := Aside0.mk (Kd.R_elder' (uf1_ HO314) (Kd.R_base ho0) hb); replace BK308 := Aside0.mk (blk_below (g := gb308) (o := .cells #[.slice Ao40 t302.length co40, .slice Ao42 t305.length co42] 26 (0, 0)) (uf0_ BK308) hb); replace HB := Aside0.mk (below_step (laws_FnNonePaid.calls_q0) hb); (try clear hb); (try clear hk hi); (try clear ho0))); try go_wp2_with (first | (go_at_call 12; (with_reducible refine (spec_DrawNonePaid.calls k _ _ l0 t302 t305 _ ?side1 ?side2 A3.out).mono ?_); (case side1 => repeat (first | exact HR0.out | (with_reducible refine Kd.C_alloc ?_ _) | (with_reducible refine Kd.C_drewN ?_ _) | (with_reducible refine Kd.C_drew ?_))); (case side2 => exact HC0.out); rintro e w38 ⟨v303, v306, rfl, ho0, ho1, hb⟩; have HO304 := Aside0.mk (Kd.R_lower (Kd.R_mono (ok' := fun k_ => True) ho0 (fun _ hk_ => trivial)) (below_size (laws_FnNonePaid.calls_q0))); have HO307 := Aside0.mk (Kd.V_lower (Kd.V_mono (ok' := fun k_ => some k_ ≠ (v303 : Value).ownBlock) ho1 (fun k_ hk_ => hk_.2)) (below_size (laws_FnNonePaid.calls_q0))); replace HB := Aside0.mk (below_step (laws_FnNonePaid.calls_q0) hb); (try clear hb); (try clear hk hi); (try clear ho0); (try clear ho1)) | ((with_reducible refine gate_dst (N := 3) rfl ?_); (try (refine gate_guard (by rfl) ?_; dsimp only)); refine bx_ (N := 3) #[.slice none 0 0, .slice none 0 0] 26 ?_; intro gb308 hg w39 hbox hb; replace HO304 := Aside0.mk (Kd.R_below (uf1_ HO304) hb); replace HO307 := Aside0.mk (Kd.V_below (Kd.V_elderB (uf5_ HO307) gb308 (Nat.le_of_eq hg.symm)) hb); have BK308 := Aside0.mk (hbox); have GW308 := Aside0.mk ((g10_ : w.heap.size ≤ gb308)); have GE308 := Aside0.mk ((g10_ : w.heap.size ≤ gb308)); replace HB := Aside0.mk (below_step (laws_FnNonePaid.calls_q0) hb); clear hb hbox hg; obtain ⟨Ao40, co40, eo40⟩ := Kd.R_slice HO304.out; subst eo40; obtain ⟨hcz41_0, hcz41_1, hfz41_0, hfz41_1⟩ := blk2_ BK308; obtain ⟨Ao42, co42, eo42⟩ := Kd.V_slice HO307.out; subst eo42) | (go_at_call 13; (with_reducible refine (impl_NonePaid.calls k _ _ t302 _ _ t305 t309 _ ?side1 ?side2 ?side3 ?side4 A4.out).mono ?_); (case side1 => refine (Kd.R_reads' (e := 3) (base := w.heap.size) (ok := fun k_ => True) (n := t302.length) (c := co40) ?_).2.2; exact (g58_)); (case side2 => exact (Kd.R_reads' HO304.out).2.1); (case side3 => refine (Kd.V_reads' (e := 23) (base := w.heap.size) (ok := fun k_ => (some k_ ≠ (.slice Ao40 t302.length co40 : Value).ownBlock ∧ k_ ≠ gb308)) (n := t305.length) (c := co42) ?_).2.2; exact (g59_)); (case side4 => exact (Kd.V_reads' HO307.out).2.1); rintro e w43 ⟨v310, rfl, ho0, hb⟩; replace HO304 := Aside0.mk (Kd.R_below (g58_) hb); replace HO307 := Aside0.mk (Kd.V_elder' (g59_) (Kd.R_base ho0) hb); have HO311 := Aside0.mk (Kd.R_lower ho0 (below_size (laws_FnNonePaid.calls_q0))); replace BK308 := Aside0.mk (blk_below (g := gb308) (o := .cells #[.slice Ao40 t302.length co40, .slice Ao42 t305.length co42] 26 (0, 0)) (g141_) hb); replace HB := Aside0.mk (below_step (laws_FnNonePaid.calls_q0) hb); (try clear hb); (try clear hk hi); (try clear ho0); obtain ⟨hcz44_0, hcz44_1, hfz44_0, hfz44_1⟩ := blk2_ BK308) | (go_at_call 15; (with_reducible refine (spec_NonePaid.calls k _ _ t302 _ _ t305 t312 _ ?side1 ?side2 ?side3 ?side4 A5.out).mono ?_); (case side1 => repeat (first | exact (Kd.R_reads' HO304.out).2.2 | (with_reducible refine Kd.C_alloc ?_ _) | (with_reducible refine Kd.C_drewN ?_ _) | (with_reducible refine Kd.C_drew ?_))); (case side2 => exact (Kd.R_reads' HO304.out).2.1); (case side3 => repeat (first | exact (Kd.V_reads' HO307.out).2.2 | (with_reducible refine Kd.C_alloc ?_ _) | (with_reducible refine Kd.C_drewN ?_ _) | (with_reducible refine Kd.C_drew ?_))); (case side4 => exact (Kd.V_reads' HO307.out).2.1); rintro e w45 ⟨v313, rfl, ho0, hb⟩; replace HO304 := Aside0.mk (Kd.R_below (uf1_ HO304) hb); replace HO307 := Aside0.mk (Kd.V_elder' (uf5_ HO307) (Kd.R_base ho0) hb); have HO314 := Aside0.mk (Kd.R_lower (Kd.R_new' ho0 (Kd.R_lt (uf1_ HO311))) (below_size (laws_FnNonePaid.calls_q0))); replace HO311 := Aside0.mk (Kd.R_elder' (uf1_ HO311) (Kd.R_base ho0) hb); replace BK308 := Aside0.mk (blk_below (g := gb308) (o := .cells #[.slice Ao40 t302.length co40, .slice Ao42 t305.length co42] 26 (0, 0)) (uf0_ BK308) hb); replace HB := Aside0.mk (below_step (laws_FnNonePaid.calls_q0) hb); (try clear hb); (try clear hk hi); (try clear ho0); obtain ⟨Ao46, co46, eo46⟩ := Kd.R_slice HO311.out; subst eo46; obtain ⟨Ao47, co47, eo47⟩ := Kd.R_slice HO314.out; subst eo47) | (go_at_call 14; (with_reducible refine (laws_samePays.calls k _ _ t309 _ _ t312 true _ ?side1 ?side2 ?side3 ?side4 A6.out).mono ?_); (case side1 => repeat (first | exact (Kd.R_reads' HO311.out).2.2 | (with_reducible refine Kd.C_alloc ?_ _) | (with_reducible refine Kd.C_drewN ?_ _) | (with_reducible refine Kd.C_drew ?_))); (case side2 => exact (Kd.R_reads' HO311.out).2.1); (case side3 => repeat (first | exact (Kd.R_reads' HO314.out).2.2 | (with_reducible refine Kd.C_alloc ?_ _) | (with_reducible refine Kd.C_drewN ?_ _) | (with_reducible refine Kd.C_drew ?_))); (case side4 => exact (Kd.R_reads' HO314.out).2.1); rintro e w' ⟨rfl, ⟨nd, rfl⟩⟩; (try first | exact ⟨rfl, _, World.drewN_drewN _ _ _⟩ | exact ⟨rfl, _, Eq.trans (World.drewN_drewN _ _ _) (congrArg (World.drewN _) (Nat.add_assoc _ _ _))⟩); obtain ⟨hcz48_0, hcz48_1, hfz48_0, hfz48_1⟩ := blk2_ BK308) | (go_at_call 18; (with_reducible refine (impl_GetsOf.calls k _ _ t302 _ _ t305 _ _ t309 t318 t321 _ ?side1 ?side2 ?side3 ?side4 ?side5 ?side6 A37.out).mono ?_); (case side1 => repeat (first | exact (Kd.R_reads' HO304.out).2.2 | (with_reducible refine Kd.C_alloc ?_ _) | (with_reducible refine Kd.C_drewN ?_ _) | (with_reducible refine Kd.C_drew ?_))); (case side2 => exact (Kd.R_reads' HO304.out).2.1); (case side3 => repeat (first | exact (Kd.V_reads' HO307.out).2.2 | (with_reducible refine Kd.C_alloc ?_ _) | (with_reducible refine Kd.C_drewN ?_ _) | (with_reducible refine Kd.C_drew ?_))); (case side4 => exact (Kd.V_reads' HO307.out).2.1); (case side5 => repeat (first | exact (Kd.R_reads' HO311.out).2.2 | (with_reducible refine Kd.C_alloc ?_ _) | (with_reducible refine Kd.C_drewN ?_ _) | (with_reducible refine Kd.C_drew ?_))); (case side6 => exact (Kd.R_reads' HO311.out).2.1); rintro e w49 ⟨v319, rfl, ho0, hb⟩; replace HO304 := Aside0.mk (Kd.R_below (uf1_ HO304) hb); replace HO307 := Aside0.mk (Kd.V_elder' (uf5_ HO307) (Kd.R_base ho0) hb); have HO320 := Aside0.mk (Kd.R_lower (Kd.R_new' (Kd.R_new' ho0 (Kd.R_lt (uf1_ HO311))) (Kd.R_lt (uf1_ HO314))) (below_size (laws_FnNonePaid.calls_q0))); replace HO311 := Aside0.mk (Kd.R_elder' (uf1_ HO311) (Kd.R_base ho0) hb); replace HO314 := Aside0.mk (Kd.R_elder' (uf1_ HO314) (Kd.R_base ho0) hb); replace BK308 := Aside0.mk (blk_below (g := gb308) (o := .cells #[.slice Ao40 t302.length co40, .slice Ao42 t305.length co42] 26 (0, 0)) (uf0_ BK308) hb); replace HB := Aside0.mk (below_step (laws_FnNonePaid.calls_q0) hb); (try clear hb); (try clear hk hi); (try clear ho0))))
    go_loopg [7] k (fun kq v7 w' => ∃ (x7_1 : Int), v7 = .int .i64 x7_1 ∧ Aside0 (laws_FnNonePaid.l0 kq t318 t321 x7_1 t302 t305 = some r) ∧ Aside0 (kq ≤ k) ∧ Aside0 (Kd.R k36 36 w' w.heap.size (fun _ => True) v319 t318) ∧ Aside0 (Kd.R (Kd.int .i64) 3 w' w.heap.size (fun _ => True) (.slice Ao40 t302.length co40) t302) ∧ Aside0 (Kd.V (Kd.slice 3 (Kd.int .i64)) 23 w' w.heap.size (fun k_ => some k_ ≠ (v319 : Value).ownBlock ∧ some k_ ≠ ((.slice Ao40 t302.length co40) : Value).ownBlock ∧ k_ ≠ gb308) (.slice Ao42 t305.length co42) t305) ∧ Aside0 (w'.heap[gb308]? = some (.cells #[(.slice Ao40 t302.length co40), (.slice Ao42 t305.length co42)] 26 (0, 0))) ∧ Aside0 (Below w.heap.size w w'))
    case atStart => exact ⟨(0), (g3_), H', ⟨Nat.le_refl _⟩, ⟨by (with_reducible repeat (first | apply Kd.R_alloc | apply Kd.R_drewN | apply Kd.R_drew)); exact Kd.R_mono HO320.out (fun _ hk => trivial)⟩, ⟨uf1_ HO304⟩, ⟨by (with_reducible repeat (first | apply Kd.V_alloc | apply Kd.V_drewN | apply Kd.V_drew)); exact Kd.V_mono HO307.out (fun _ hk => ⟨hk.2, ⟨hk.1.1.1.1, hk.1.1.1.2⟩⟩)⟩, ⟨uf0_ BK308⟩, ⟨laws_FnNonePaid.calls_q0⟩⟩
    case round =>
     clear H'
     try clear c1
     try clear c2
     try clear c2b0
     try clear c2b1
     try clear p2
     try clear c3
     try clear c7
     try clear c8
     try clear c8b0
     try clear c8b1
     try clear c8b2
     try clear c10
     try clear hcz14_0
     try clear hcz14_1
     try clear hcz17_0
     try clear hcz17_1
     try clear hcz21_0
     try clear hcz21_1
     try clear hcz27_0
     try clear hcz27_1
     try clear hcz30_0
     try clear hcz30_1
     try clear hcz34_0
     try clear hcz34_1
     try clear hcz41_0
     try clear hcz41_1
     try clear hcz44_0
     try clear hcz44_1
     try clear hcz48_0
     try clear hcz48_1
     try clear hfz14_0
     try clear hfz14_1
     try clear hfz17_0
     try clear hfz17_1
     try clear hfz21_0
     try clear hfz21_1
     try clear hfz27_0
     try clear hfz27_1
     try clear hfz30_0
     try clear hfz30_1
     try clear hfz34_0
     try clear hfz34_1
     try clear hfz41_0
     try clear hfz41_1
     try clear hfz44_0
     try clear hfz44_1
     try clear hfz48_0
     try clear hfz48_1
     obtain ⟨x7_1, rfl, HA, HK1, HO_5, HO_309000, HO_309001, BK308, HB⟩ := hrel
     cases gk with
     | zero => exact absurd HA.out (by simp [laws_FnNonePaid.l0])
     | succ k1 =>
      have H := HA.out
      clear HA
      simp only [laws_FnNonePaid.l0] at H
      by_cases c50 : x7_1 < (t318.length : Int)
      ·rw [if_pos c50] at H
       have c50b0 := decide_eq_true c50
       clear c50
       by_cases c51 : x7_1 ≥ (t302.length : Int)
       ·rw [if_pos c51] at H
        have c51b0 := decide_eq_true c51
        clear c51
        obtain rfl := Option.some.inj H
        obtain ⟨Ao52, co52, eo52⟩ := Kd.R_slice HO_5.out
        subst eo52
        obtain ⟨hcz53_0, hcz53_1, hfz53_0, hfz53_1⟩ := blk2_ BK308
        go_wp2
        repeat (go_quiet (fail); try go_wp2)
        go_ret
        exact ⟨g4_, laws_FnNonePaid.calls_q0⟩
       ·rw [if_neg c51] at H
        have c51b0 := decide_eq_false c51
        clear c51
        by_cases c54 : 0 ≤ x7_1
        ·rw [if_pos c54] at H
         have c54b0 := decide_eq_true c54
         clear c54
         by_cases c55 : x7_1 < (t302.length : Int)
         ·rw [if_pos c55] at H
          have c55b0 := decide_eq_true c55
          clear c55
          by_cases c56 : ((rd_T36 t318 x7_1).f0) = (rd t302 x7_1)
          ·rw [if_pos c56] at H
           have c56b0 : (((rd_T36 t318 x7_1).f0) == (rd t302 x7_1)) = true := beq_iff_eq.mpr c56
           have c56b1 : (((rd_T36 t318 x7_1).f0) != (rd t302 x7_1)) = false := bne_eq_false_iff_eq.mpr c56
           clear c56
           by_cases c57 : ((rd_T36 t318 x7_1).f1) = 1
           ·rw [if_pos c57] at H
            have c57b0 : (((rd_T36 t318 x7_1).f1) == 1) = true := beq_iff_eq.mpr c57
            have c57b1 : (((rd_T36 t318 x7_1).f1) != 1) = false := bne_eq_false_iff_eq.mpr c57
            clear c57
            have H' := Aside0.mk H
            clear H
            obtain ⟨Ao58, co58, eo58⟩ := Kd.R_slice HO_5.out
            subst eo58
            obtain ⟨hcz59_0, hcz59_1, hfz59_0, hfz59_1⟩ := blk2_ BK308
            have p322 : 0 ≤ (x7_1 : Int) := of_decide_eq_true (g1_)
            have q322 : x7_1 < (t318.length : Int) := of_decide_eq_true (g1_)
            obtain ⟨ad322, e322, hx322_0, hx322_1⟩ := at_T36 (Kd.R_reads' HO_5.out).2.2 x7_1 p322 q322
            cases e322
            replace p322 := eq_true p322
            replace q322 := eq_true q322
            have p323 : 0 ≤ (x7_1 : Int) := of_decide_eq_true (g1_)
            have q323 : x7_1 < (t302.length : Int) := of_decide_eq_true (g1_)
            obtain ⟨ad323, e323, hx323_0⟩ := Kd.at_int (Kd.R_reads' HO_309000.out).2.2 x7_1 p323 q323
            cases e323
            replace p323 := eq_true p323
            replace q323 := eq_true q323
            have p324 : 0 ≤ (x7_1 : Int) := of_decide_eq_true (g1_)
            have q324 : x7_1 < (t318.length : Int) := of_decide_eq_true (g1_)
            obtain ⟨ad324, e324, hx324_0, hx324_1⟩ := at_T36 (Kd.R_reads' HO_5.out).2.2 x7_1 p324 q324
            obtain rfl : ad322 = ad324 := (by injection e324)
            replace p324 := eq_true p324
            replace q324 := eq_true q324
            go_wp2
            repeat (go_quiet (fail); try go_wp2)
            go_roundg k1
            case measure => have := HK1.out; omega
            case rel => exact ⟨(wrap64 (x7_1 + 1)), (g3_), H', ⟨g9_⟩, ⟨uf1_ HO_5⟩, ⟨uf1_ HO_309000⟩, ⟨uf5_ HO_309001⟩, ⟨uf0_ BK308⟩, ⟨laws_FnNonePaid.calls_q0⟩⟩
           ·rw [if_neg c57] at H
            have c57b0 : (((rd_T36 t318 x7_1).f1) == 1) = false := beq_eq_false_iff_ne.mpr c57
            have c57b1 : (((rd_T36 t318 x7_1).f1) != 1) = true := bne_iff_ne.mpr c57
            obtain rfl := Option.some.inj H
            obtain ⟨Ao60, co60, eo60⟩ := Kd.R_slice HO_5.out
            subst eo60
            obtain ⟨hcz61_0, hcz61_1, hfz61_0, hfz61_1⟩ := blk2_ BK308
            have p322 : 0 ≤ (x7_1 : Int) := of_decide_eq_true (g1_)
            have q322 : x7_1 < (t318.length : Int) := of_decide_eq_true (g1_)
            obtain ⟨ad322, e322, hx322_0, hx322_1⟩ := at_T36 (Kd.R_reads' HO_5.out).2.2 x7_1 p322 q322
            cases e322
            replace p322 := eq_true p322
            replace q322 := eq_true q322
            have p323 : 0 ≤ (x7_1 : Int) := of_decide_eq_true (g1_)
            have q323 : x7_1 < (t302.length : Int) := of_decide_eq_true (g1_)
            obtain ⟨ad323, e323, hx323_0⟩ := Kd.at_int (Kd.R_reads' HO_309000.out).2.2 x7_1 p323 q323
            cases e323
            replace p323 := eq_true p323
            replace q323 := eq_true q323
            have p324 : 0 ≤ (x7_1 : Int) := of_decide_eq_true (g1_)
            have q324 : x7_1 < (t318.length : Int) := of_decide_eq_true (g1_)
            obtain ⟨ad324, e324, hx324_0, hx324_1⟩ := at_T36 (Kd.R_reads' HO_5.out).2.2 x7_1 p324 q324
            obtain rfl : ad322 = ad324 := (by injection e324)
            replace p324 := eq_true p324
            replace q324 := eq_true q324
            go_wp2
            repeat (go_quiet (fail); try go_wp2)
            go_ret
            exact ⟨g4_, laws_FnNonePaid.calls_q0⟩
          ·rw [if_neg c56] at H
           have c56b0 : (((rd_T36 t318 x7_1).f0) == (rd t302 x7_1)) = false := beq_eq_false_iff_ne.mpr c56
           have c56b1 : (((rd_T36 t318 x7_1).f0) != (rd t302 x7_1)) = true := bne_iff_ne.mpr c56
           obtain rfl := Option.some.inj H
           obtain ⟨Ao62, co62, eo62⟩ := Kd.R_slice HO_5.out
           subst eo62
           obtain ⟨hcz63_0, hcz63_1, hfz63_0, hfz63_1⟩ := blk2_ BK308
           have p322 : 0 ≤ (x7_1 : Int) := of_decide_eq_true (g1_)
           have q322 : x7_1 < (t318.length : Int) := of_decide_eq_true (g1_)
           obtain ⟨ad322, e322, hx322_0, hx322_1⟩ := at_T36 (Kd.R_reads' HO_5.out).2.2 x7_1 p322 q322
           cases e322
           replace p322 := eq_true p322
           replace q322 := eq_true q322
           have p323 : 0 ≤ (x7_1 : Int) := of_decide_eq_true (g1_)
           have q323 : x7_1 < (t302.length : Int) := of_decide_eq_true (g1_)
           obtain ⟨ad323, e323, hx323_0⟩ := Kd.at_int (Kd.R_reads' HO_309000.out).2.2 x7_1 p323 q323
           cases e323
           replace p323 := eq_true p323
           replace q323 := eq_true q323
           go_wp2
           repeat (go_quiet (fail); try go_wp2)
           go_ret
           exact ⟨g4_, laws_FnNonePaid.calls_q0⟩
         ·rw [if_neg c55] at H
          exact absurd H (by simp)
        ·rw [if_neg c54] at H
         exact absurd H (by simp)
      ·rw [if_neg c50] at H
       have c50b0 := decide_eq_false c50
       clear c50
       by_cases c64 : t321 = true
       ·subst c64
        replace H := ifp_ H
        obtain rfl := Option.some.inj H
        obtain ⟨Ao65, co65, eo65⟩ := Kd.R_slice HO_5.out
        subst eo65
        obtain ⟨hcz66_0, hcz66_1, hfz66_0, hfz66_1⟩ := blk2_ BK308
        go_wp2
        repeat (go_quiet (fail); try go_wp2)
        go_ret
        exact ⟨g4_, laws_FnNonePaid.calls_q0⟩
       ·replace c64 := Bool.eq_false_iff.mpr c64
        subst c64
        replace H := ifn_ H
        obtain rfl := Option.some.inj H
        obtain ⟨Ao67, co67, eo67⟩ := Kd.R_slice HO_5.out
        subst eo67
        go_wp2
        repeat (go_quiet (fail); try go_wp2)
        go_ret
        exact ⟨g4_, laws_FnNonePaid.calls_q0⟩
  ·replace c7 := Bool.eq_false_iff.mpr c7
   subst c7
   replace H := ifn_ H
   obtain rfl := Option.some.inj H
   go_enter Try.func3, Try.ntmps3
   go_wp2_with (first | (go_at_call 12; (with_reducible refine (spec_DrawNonePaid.calls k _ _ l0 t302 t305 _ ?side1 ?side2 A3.out).mono ?_); (case side1 => repeat (first | exact HR0.out | (with_reducible refine Kd.C_alloc ?_ _) | (with_reducible refine Kd.C_drewN ?_ _) | (with_reducible refine Kd.C_drew ?_))); (case side2 => exact HC0.out); rintro e w68 ⟨v303, v306, rfl, ho0, ho1, hb⟩; have HO304 := Aside0.mk (Kd.R_lower (Kd.R_mono (ok' := fun k_ => True) ho0 (fun _ hk_ => trivial)) (below_size (laws_FnNonePaid.calls_q0))); have HO307 := Aside0.mk (Kd.V_lower (Kd.V_mono (ok' := fun k_ => some k_ ≠ (v303 : Value).ownBlock) ho1 (fun k_ hk_ => hk_.2)) (below_size (laws_FnNonePaid.calls_q0))); replace HB := Aside0.mk (below_step (laws_FnNonePaid.calls_q0) hb); (try clear hb); (try clear hk hi); (try clear ho0); (try clear ho1)) | ((with_reducible refine gate_dst (N := 3) rfl ?_); (try (refine gate_guard (by rfl) ?_; dsimp only)); refine bx_ (N := 3) #[.slice none 0 0, .slice none 0 0] 26 ?_; intro gb308 hg w69 hbox hb; replace HO304 := Aside0.mk (Kd.R_below (uf1_ HO304) hb); replace HO307 := Aside0.mk (Kd.V_below (Kd.V_elderB (uf5_ HO307) gb308 (Nat.le_of_eq hg.symm)) hb); have BK308 := Aside0.mk (hbox); have GW308 := Aside0.mk ((g10_ : w.heap.size ≤ gb308)); have GE308 := Aside0.mk ((g10_ : w.heap.size ≤ gb308)); replace HB := Aside0.mk (below_step (laws_FnNonePaid.calls_q0) hb); clear hb hbox hg; obtain ⟨Ao70, co70, eo70⟩ := Kd.R_slice HO304.out; subst eo70; obtain ⟨hcz71_0, hcz71_1, hfz71_0, hfz71_1⟩ := blk2_ BK308; obtain ⟨Ao72, co72, eo72⟩ := Kd.V_slice HO307.out; subst eo72) | (go_at_call 13; (with_reducible refine (impl_NonePaid.calls k _ _ t302 _ _ t305 t309 _ ?side1 ?side2 ?side3 ?side4 A4.out).mono ?_); (case side1 => refine (Kd.R_reads' (e := 3) (base := w.heap.size) (ok := fun k_ => True) (n := t302.length) (c := co70) ?_).2.2; exact (g60_)); (case side2 => exact (Kd.R_reads' HO304.out).2.1); (case side3 => refine (Kd.V_reads' (e := 23) (base := w.heap.size) (ok := fun k_ => (some k_ ≠ (.slice Ao70 t302.length co70 : Value).ownBlock ∧ k_ ≠ gb308)) (n := t305.length) (c := co72) ?_).2.2; exact (g61_)); (case side4 => exact (Kd.V_reads' HO307.out).2.1); rintro e w73 ⟨v310, rfl, ho0, hb⟩; replace HO304 := Aside0.mk (Kd.R_below (g60_) hb); replace HO307 := Aside0.mk (Kd.V_elder' (g61_) (Kd.R_base ho0) hb); have HO311 := Aside0.mk (Kd.R_lower ho0 (below_size (laws_FnNonePaid.calls_q0))); replace BK308 := Aside0.mk (blk_below (g := gb308) (o := .cells #[.slice Ao70 t302.length co70, .slice Ao72 t305.length co72] 26 (0, 0)) (g142_) hb); replace HB := Aside0.mk (below_step (laws_FnNonePaid.calls_q0) hb); (try clear hb); (try clear hk hi); (try clear ho0); obtain ⟨hcz74_0, hcz74_1, hfz74_0, hfz74_1⟩ := blk2_ BK308) | (go_at_call 15; (with_reducible refine (spec_NonePaid.calls k _ _ t302 _ _ t305 t312 _ ?side1 ?side2 ?side3 ?side4 A5.out).mono ?_); (case side1 => repeat (first | exact (Kd.R_reads' HO304.out).2.2 | (with_reducible refine Kd.C_alloc ?_ _) | (with_reducible refine Kd.C_drewN ?_ _) | (with_reducible refine Kd.C_drew ?_))); (case side2 => exact (Kd.R_reads' HO304.out).2.1); (case side3 => repeat (first | exact (Kd.V_reads' HO307.out).2.2 | (with_reducible refine Kd.C_alloc ?_ _) | (with_reducible refine Kd.C_drewN ?_ _) | (with_reducible refine Kd.C_drew ?_))); (case side4 => exact (Kd.V_reads' HO307.out).2.1); rintro e w75 ⟨v313, rfl, ho0, hb⟩; replace HO304 := Aside0.mk (Kd.R_below (uf1_ HO304) hb); replace HO307 := Aside0.mk (Kd.V_elder' (uf5_ HO307) (Kd.R_base ho0) hb); have HO314 := Aside0.mk (Kd.R_lower (Kd.R_new' ho0 (Kd.R_lt (uf1_ HO311))) (below_size (laws_FnNonePaid.calls_q0))); replace HO311 := Aside0.mk (Kd.R_elder' (uf1_ HO311) (Kd.R_base ho0) hb); replace BK308 := Aside0.mk (blk_below (g := gb308) (o := .cells #[.slice Ao70 t302.length co70, .slice Ao72 t305.length co72] 26 (0, 0)) (uf0_ BK308) hb); replace HB := Aside0.mk (below_step (laws_FnNonePaid.calls_q0) hb); (try clear hb); (try clear hk hi); (try clear ho0); obtain ⟨Ao76, co76, eo76⟩ := Kd.R_slice HO311.out; subst eo76; obtain ⟨Ao77, co77, eo77⟩ := Kd.R_slice HO314.out; subst eo77) | (go_at_call 14; (with_reducible refine (laws_samePays.calls k _ _ t309 _ _ t312 false _ ?side1 ?side2 ?side3 ?side4 A6.out).mono ?_); (case side1 => repeat (first | exact (Kd.R_reads' HO311.out).2.2 | (with_reducible refine Kd.C_alloc ?_ _) | (with_reducible refine Kd.C_drewN ?_ _) | (with_reducible refine Kd.C_drew ?_))); (case side2 => exact (Kd.R_reads' HO311.out).2.1); (case side3 => repeat (first | exact (Kd.R_reads' HO314.out).2.2 | (with_reducible refine Kd.C_alloc ?_ _) | (with_reducible refine Kd.C_drewN ?_ _) | (with_reducible refine Kd.C_drew ?_))); (case side4 => exact (Kd.R_reads' HO314.out).2.1); rintro e w' ⟨rfl, ⟨nd, rfl⟩⟩; (try first | exact ⟨rfl, _, World.drewN_drewN _ _ _⟩ | exact ⟨rfl, _, Eq.trans (World.drewN_drewN _ _ _) (congrArg (World.drewN _) (Nat.add_assoc _ _ _))⟩)))
   repeat (go_quiet (first | (go_at_call 12; (with_reducible refine (spec_DrawNonePaid.calls k _ _ l0 t302 t305 _ ?side1 ?side2 A3.out).mono ?_); (case side1 => repeat (first | exact HR0.out | (with_reducible refine Kd.C_alloc ?_ _) | (with_reducible refine Kd.C_drewN ?_ _) | (with_reducible refine Kd.C_drew ?_))); (case side2 => exact HC0.out); rintro e w68 ⟨v303, v306, rfl, ho0, ho1, hb⟩; have HO304 := Aside0.mk (Kd.R_lower (Kd.R_mono (ok' := fun k_ => True) ho0 (fun _ hk_ => trivial)) (below_size (laws_FnNonePaid.calls_q0))); have HO307 := Aside0.mk (Kd.V_lower (Kd.V_mono (ok' := fun k_ => some k_ ≠ (v303 : Value).ownBlock) ho1 (fun k_ hk_ => hk_.2)) (below_size (laws_FnNonePaid.calls_q0))); replace HB := Aside0.mk (below_step (laws_FnNonePaid.calls_q0) hb); (try clear hb); (try clear hk hi); (try clear ho0); (try clear ho1)) | ((with_reducible refine gate_dst (N := 3) rfl ?_); (try (refine gate_guard (by rfl) ?_; dsimp only)); refine bx_ (N := 3) #[.slice none 0 0, .slice none 0 0] 26 ?_; intro gb308 hg w69 hbox hb; replace HO304 := Aside0.mk (Kd.R_below (uf1_ HO304) hb); replace HO307 := Aside0.mk (Kd.V_below (Kd.V_elderB (uf5_ HO307) gb308 (Nat.le_of_eq hg.symm)) hb); have BK308 := Aside0.mk (hbox); have GW308 := Aside0.mk ((g10_ : w.heap.size ≤ gb308)); have GE308 := Aside0.mk ((g10_ : w.heap.size ≤ gb308)); replace HB := Aside0.mk (below_step (laws_FnNonePaid.calls_q0) hb); clear hb hbox hg; obtain ⟨Ao70, co70, eo70⟩ := Kd.R_slice HO304.out; subst eo70; obtain ⟨hcz71_0, hcz71_1, hfz71_0, hfz71_1⟩ := blk2_ BK308; obtain ⟨Ao72, co72, eo72⟩ := Kd.V_slice HO307.out; subst eo72) | (go_at_call 13; (with_reducible refine (impl_NonePaid.calls k _ _ t302 _ _ t305 t309 _ ?side1 ?side2 ?side3 ?side4 A4.out).mono ?_); (case side1 => refine (Kd.R_reads' (e := 3) (base := w.heap.size) (ok := fun k_ => True) (n := t302.length) (c := co70) ?_).2.2; exact (g60_)); (case side2 => exact (Kd.R_reads' HO304.out).2.1); (case side3 => refine (Kd.V_reads' (e := 23) (base := w.heap.size) (ok := fun k_ => (some k_ ≠ (.slice Ao70 t302.length co70 : Value).ownBlock ∧ k_ ≠ gb308)) (n := t305.length) (c := co72) ?_).2.2; exact (g61_)); (case side4 => exact (Kd.V_reads' HO307.out).2.1); rintro e w73 ⟨v310, rfl, ho0, hb⟩; replace HO304 := Aside0.mk (Kd.R_below (g60_) hb); replace HO307 := Aside0.mk (Kd.V_elder' (g61_) (Kd.R_base ho0) hb); have HO311 := Aside0.mk (Kd.R_lower ho0 (below_size (laws_FnNonePaid.calls_q0))); replace BK308 := Aside0.mk (blk_below (g := gb308) (o := .cells #[.slice Ao70 t302.length co70, .slice Ao72 t305.length co72] 26 (0, 0)) (g142_) hb); replace HB := Aside0.mk (below_step (laws_FnNonePaid.calls_q0) hb); (try clear hb); (try clear hk hi); (try clear ho0); obtain ⟨hcz74_0, hcz74_1, hfz74_0, hfz74_1⟩ := blk2_ BK308) | (go_at_call 15; (with_reducible refine (spec_NonePaid.calls k _ _ t302 _ _ t305 t312 _ ?side1 ?side2 ?side3 ?side4 A5.out).mono ?_); (case side1 => repeat (first | exact (Kd.R_reads' HO304.out).2.2 | (with_reducible refine Kd.C_alloc ?_ _) | (with_reducible refine Kd.C_drewN ?_ _) | (with_reducible refine Kd.C_drew ?_))); (case side2 => exact (Kd.R_reads' HO304.out).2.1); (case side3 => repeat (first | exact (Kd.V_reads' HO307.out).2.2 | (with_reducible refine Kd.C_alloc ?_ _) | (with_reducible refine Kd.C_drewN ?_ _) | (with_reducible refine Kd.C_drew ?_))); (case side4 => exact (Kd.V_reads' HO307.out).2.1); rintro e w75 ⟨v313, rfl, ho0, hb⟩; replace HO304 := Aside0.mk (Kd.R_below (uf1_ HO304) hb); replace HO307 := Aside0.mk (Kd.V_elder' (uf5_ HO307) (Kd.R_base ho0) hb); have HO314 := Aside0.mk (Kd.R_lower (Kd.R_new' ho0 (Kd.R_lt (uf1_ HO311))) (below_size (laws_FnNonePaid.calls_q0))); replace HO311 := Aside0.mk (Kd.R_elder' (uf1_ HO311) (Kd.R_base ho0) hb); replace BK308 := Aside0.mk (blk_below (g := gb308) (o := .cells #[.slice Ao70 t302.length co70, .slice Ao72 t305.length co72] 26 (0, 0)) (uf0_ BK308) hb); replace HB := Aside0.mk (below_step (laws_FnNonePaid.calls_q0) hb); (try clear hb); (try clear hk hi); (try clear ho0); obtain ⟨Ao76, co76, eo76⟩ := Kd.R_slice HO311.out; subst eo76; obtain ⟨Ao77, co77, eo77⟩ := Kd.R_slice HO314.out; subst eo77) | (go_at_call 14; (with_reducible refine (laws_samePays.calls k _ _ t309 _ _ t312 false _ ?side1 ?side2 ?side3 ?side4 A6.out).mono ?_); (case side1 => repeat (first | exact (Kd.R_reads' HO311.out).2.2 | (with_reducible refine Kd.C_alloc ?_ _) | (with_reducible refine Kd.C_drewN ?_ _) | (with_reducible refine Kd.C_drew ?_))); (case side2 => exact (Kd.R_reads' HO311.out).2.1); (case side3 => repeat (first | exact (Kd.R_reads' HO314.out).2.2 | (with_reducible refine Kd.C_alloc ?_ _) | (with_reducible refine Kd.C_drewN ?_ _) | (with_reducible refine Kd.C_drew ?_))); (case side4 => exact (Kd.R_reads' HO314.out).2.1); rintro e w' ⟨rfl, ⟨nd, rfl⟩⟩; (try first | exact ⟨rfl, _, World.drewN_drewN _ _ _⟩ | exact ⟨rfl, _, Eq.trans (World.drewN_drewN _ _ _) (congrArg (World.drewN _) (Nat.add_assoc _ _ _))⟩))); try go_wp2_with (first | (go_at_call 12; (with_reducible refine (spec_DrawNonePaid.calls k _ _ l0 t302 t305 _ ?side1 ?side2 A3.out).mono ?_); (case side1 => repeat (first | exact HR0.out | (with_reducible refine Kd.C_alloc ?_ _) | (with_reducible refine Kd.C_drewN ?_ _) | (with_reducible refine Kd.C_drew ?_))); (case side2 => exact HC0.out); rintro e w68 ⟨v303, v306, rfl, ho0, ho1, hb⟩; have HO304 := Aside0.mk (Kd.R_lower (Kd.R_mono (ok' := fun k_ => True) ho0 (fun _ hk_ => trivial)) (below_size (laws_FnNonePaid.calls_q0))); have HO307 := Aside0.mk (Kd.V_lower (Kd.V_mono (ok' := fun k_ => some k_ ≠ (v303 : Value).ownBlock) ho1 (fun k_ hk_ => hk_.2)) (below_size (laws_FnNonePaid.calls_q0))); replace HB := Aside0.mk (below_step (laws_FnNonePaid.calls_q0) hb); (try clear hb); (try clear hk hi); (try clear ho0); (try clear ho1)) | ((with_reducible refine gate_dst (N := 3) rfl ?_); (try (refine gate_guard (by rfl) ?_; dsimp only)); refine bx_ (N := 3) #[.slice none 0 0, .slice none 0 0] 26 ?_; intro gb308 hg w69 hbox hb; replace HO304 := Aside0.mk (Kd.R_below (uf1_ HO304) hb); replace HO307 := Aside0.mk (Kd.V_below (Kd.V_elderB (uf5_ HO307) gb308 (Nat.le_of_eq hg.symm)) hb); have BK308 := Aside0.mk (hbox); have GW308 := Aside0.mk ((g10_ : w.heap.size ≤ gb308)); have GE308 := Aside0.mk ((g10_ : w.heap.size ≤ gb308)); replace HB := Aside0.mk (below_step (laws_FnNonePaid.calls_q0) hb); clear hb hbox hg; obtain ⟨Ao70, co70, eo70⟩ := Kd.R_slice HO304.out; subst eo70; obtain ⟨hcz71_0, hcz71_1, hfz71_0, hfz71_1⟩ := blk2_ BK308; obtain ⟨Ao72, co72, eo72⟩ := Kd.V_slice HO307.out; subst eo72) | (go_at_call 13; (with_reducible refine (impl_NonePaid.calls k _ _ t302 _ _ t305 t309 _ ?side1 ?side2 ?side3 ?side4 A4.out).mono ?_); (case side1 => refine (Kd.R_reads' (e := 3) (base := w.heap.size) (ok := fun k_ => True) (n := t302.length) (c := co70) ?_).2.2; exact (g60_)); (case side2 => exact (Kd.R_reads' HO304.out).2.1); (case side3 => refine (Kd.V_reads' (e := 23) (base := w.heap.size) (ok := fun k_ => (some k_ ≠ (.slice Ao70 t302.length co70 : Value).ownBlock ∧ k_ ≠ gb308)) (n := t305.length) (c := co72) ?_).2.2; exact (g61_)); (case side4 => exact (Kd.V_reads' HO307.out).2.1); rintro e w73 ⟨v310, rfl, ho0, hb⟩; replace HO304 := Aside0.mk (Kd.R_below (g60_) hb); replace HO307 := Aside0.mk (Kd.V_elder' (g61_) (Kd.R_base ho0) hb); have HO311 := Aside0.mk (Kd.R_lower ho0 (below_size (laws_FnNonePaid.calls_q0))); replace BK308 := Aside0.mk (blk_below (g := gb308) (o := .cells #[.slice Ao70 t302.length co70, .slice Ao72 t305.length co72] 26 (0, 0)) (g142_) hb); replace HB := Aside0.mk (below_step (laws_FnNonePaid.calls_q0) hb); (try clear hb); (try clear hk hi); (try clear ho0); obtain ⟨hcz74_0, hcz74_1, hfz74_0, hfz74_1⟩ := blk2_ BK308) | (go_at_call 15; (with_reducible refine (spec_NonePaid.calls k _ _ t302 _ _ t305 t312 _ ?side1 ?side2 ?side3 ?side4 A5.out).mono ?_); (case side1 => repeat (first | exact (Kd.R_reads' HO304.out).2.2 | (with_reducible refine Kd.C_alloc ?_ _) | (with_reducible refine Kd.C_drewN ?_ _) | (with_reducible refine Kd.C_drew ?_))); (case side2 => exact (Kd.R_reads' HO304.out).2.1); (case side3 => repeat (first | exact (Kd.V_reads' HO307.out).2.2 | (with_reducible refine Kd.C_alloc ?_ _) | (with_reducible refine Kd.C_drewN ?_ _) | (with_reducible refine Kd.C_drew ?_))); (case side4 => exact (Kd.V_reads' HO307.out).2.1); rintro e w75 ⟨v313, rfl, ho0, hb⟩; replace HO304 := Aside0.mk (Kd.R_below (uf1_ HO304) hb); replace HO307 := Aside0.mk (Kd.V_elder' (uf5_ HO307) (Kd.R_base ho0) hb); have HO314 := Aside0.mk (Kd.R_lower (Kd.R_new' ho0 (Kd.R_lt (uf1_ HO311))) (below_size (laws_FnNonePaid.calls_q0))); replace HO311 := Aside0.mk (Kd.R_elder' (uf1_ HO311) (Kd.R_base ho0) hb); replace BK308 := Aside0.mk (blk_below (g := gb308) (o := .cells #[.slice Ao70 t302.length co70, .slice Ao72 t305.length co72] 26 (0, 0)) (uf0_ BK308) hb); replace HB := Aside0.mk (below_step (laws_FnNonePaid.calls_q0) hb); (try clear hb); (try clear hk hi); (try clear ho0); obtain ⟨Ao76, co76, eo76⟩ := Kd.R_slice HO311.out; subst eo76; obtain ⟨Ao77, co77, eo77⟩ := Kd.R_slice HO314.out; subst eo77) | (go_at_call 14; (with_reducible refine (laws_samePays.calls k _ _ t309 _ _ t312 false _ ?side1 ?side2 ?side3 ?side4 A6.out).mono ?_); (case side1 => repeat (first | exact (Kd.R_reads' HO311.out).2.2 | (with_reducible refine Kd.C_alloc ?_ _) | (with_reducible refine Kd.C_drewN ?_ _) | (with_reducible refine Kd.C_drew ?_))); (case side2 => exact (Kd.R_reads' HO311.out).2.1); (case side3 => repeat (first | exact (Kd.R_reads' HO314.out).2.2 | (with_reducible refine Kd.C_alloc ?_ _) | (with_reducible refine Kd.C_drewN ?_ _) | (with_reducible refine Kd.C_drew ?_))); (case side4 => exact (Kd.R_reads' HO314.out).2.1); rintro e w' ⟨rfl, ⟨nd, rfl⟩⟩; (try first | exact ⟨rfl, _, World.drewN_drewN _ _ _⟩ | exact ⟨rfl, _, Eq.trans (World.drewN_drewN _ _ _) (congrArg (World.drewN _) (Nat.add_assoc _ _ _))⟩))))
   go_ret
   exact ⟨g4_, laws_FnNonePaid.calls_q0⟩
def laws_FnNonePaid.Pure : Prop := ∀ (l0 : List Int), l0.length ≤ maxLen → l0.length * 1 ≤ 140737488351232 → (∀ x ∈ l0, (Lit.int .u8 x).wf = true) → ∃ k, laws_FnNonePaid.f k l0 = some true
theorem laws_FnNonePaid.walk (P : laws_FnNonePaid.Pure) (a0 : Option Addr) (len0 cap0 : Nat) (z0 : List Int) (w : World) (w0 : (a0 = none ∧ len0 = 0 ∧ cap0 = 0 ∧ z0 = []) ∨ ∃ x, a0 = some x ∧ len0 ≤ cap0 ∧ cap0 ≤ maxLen ∧ z0.length = cap0 ∧ (∀ i, i < z0.length → w.cell? (x.add i) = some (.int .u8 (z0.getD i 0))) ∧ ∀ n ∈ z0, (Lit.int .u8 n).wf = true) (y0 : len0 * 1 ≤ 140737488351232) :
  Calls Try.prog 3 #[.slice a0 len0 cap0] w fun e w' => e = .returned (.bool true) ∧ Below w.heap.size w w' := by
 obtain ⟨l0, rfl, hr0, hm0, hw0, hc0⟩ := ReadsInt.ofRowC w0
 obtain ⟨k, h⟩ := P l0 hm0 y0 hw0
 refine (laws_FnNonePaid.calls k _ _ l0 true w (Kd.C_of_reads (d := (0 : Int)) (h1 := fun _ => rfl) hr0) hc0 h).mono ?_
 rintro e w' ⟨rfl, hd⟩
 exact ⟨rfl, hd⟩
end Go.Proofs.Ytigpmfoagkhaeaa.PU

namespace Go.Proofs.Ytigpmfoagkhaeaa.Qh
open Go.RowKit Go.Proofs.YtigpmfoagkhaeaaW.PrintWords Go.Proofs.YtigpmfoagkhaeaaW.PrintMore
set_option linter.unusedVariables false
set_option linter.unusedSimpArgs false
theorem w64 {n : Int} (h1 : -9223372036854775808 ≤ n) (h2 : n ≤ 9223372036854775807) : wrap64 n = n := by unfold wrap64; omega
theorem wsucc {i n : Nat} (h : i < n) (hn : n ≤ 4611686018427387904) : wrap64 ((i : Int) + 1) = ((i + 1 : Nat) : Int) := by unfold wrap64; omega
section
variable {α β : Type} {r : α}
theorem evPos {c : Prop} [Decidable c] {g f : Nat → Option α} (h : c) (k : Ev g r) : Ev (fun n => if c then g n else f n) r := by
  simp only [if_pos h]; exact k
theorem evNeg {c : Prop} [Decidable c] {g f : Nat → Option α} (h : ¬ c) (k : Ev f r) : Ev (fun n => if c then g n else f n) r := by
  simp only [if_neg h]; exact k
theorem evBind0 {g : Option β} {f : Nat → β → Option α} {a : β} (h : g = some a) (k : Ev (fun n => f n a) r) : Ev (fun n => g.bind (f n)) r := by
  subst h; exact k
theorem evEq {g : Nat → Option α} {q : α} (h : Ev g q) (e : q = r) : Ev g r := e ▸ h
end
theorem rd_get (xs : List Int) (i : Nat) (h : i < xs.length) : rd xs (i : Int) = xs[i] := by
  simp [rd, List.getD_eq_getElem?_getD, List.getElem?_eq_getElem h]
theorem getD_set {α : Type} (xs : List α) (d v : α) (i j : Nat) (h : i < xs.length) : (xs.set i v).getD j d = if i = j then v else xs.getD j d := by
  simp only [List.getD_eq_getElem?_getD, List.getElem?_set]
  by_cases e : i = j
  · subst e; simp [h]
  · simp [e]
theorem getD_mem {α : Type} (d : α) (xs : List α) (i : Nat) (h : i < xs.length) : xs.getD i d ∈ xs := by
  simp [List.getD_eq_getElem?_getD, List.getElem?_eq_getElem h]
def EvB (g : Nat → Option Bool) (p : Prop) : Prop := ∃ b, (b = true ↔ p) ∧ Ev g b
section
variable {g f : Nat → Option Bool} {p q : Prop}
theorem EvB.congr (h : EvB g p) (e : p ↔ q) : EvB g q := by obtain ⟨b, h1, h2⟩ := h; exact ⟨b, h1.trans e, h2⟩
theorem EvB.tt (h : p) : EvB (fun _ => some true) p := ⟨true, by simp [h], Ev.now _⟩
theorem EvB.ff (h : ¬ p) : EvB (fun _ => some false) p := ⟨false, by simp [h], Ev.now _⟩
theorem EvB.pos {c : Prop} [Decidable c] (h : c) (k : EvB g p) : EvB (fun n => if c then g n else f n) p := by obtain ⟨b, h1, h2⟩ := k; exact ⟨b, h1, evPos h h2⟩
theorem EvB.neg {c : Prop} [Decidable c] (h : ¬ c) (k : EvB f p) : EvB (fun n => if c then g n else f n) p := by obtain ⟨b, h1, h2⟩ := k; exact ⟨b, h1, evNeg h h2⟩
theorem EvB.step {g f : Nat → Option Bool} (h : ∀ k, g (k + 1) = f k) (k : EvB f p) : EvB g p := by obtain ⟨b, h1, h2⟩ := k; exact ⟨b, h1, Ev.step h h2⟩
theorem EvB.bind {β : Type} {g : Nat → Option β} {f : Nat → β → Option Bool} {a : β} (h : Ev g a) (k : EvB (fun n => f n a) p) : EvB (fun n => (g n).bind (f n)) p := by obtain ⟨b, h1, h2⟩ := k; exact ⟨b, h1, Ev.bind h h2⟩
theorem EvB.bind0 {β : Type} {g : Option β} {f : Nat → β → Option Bool} {a : β} (h : g = some a) (k : EvB (fun n => f n a) p) : EvB (fun n => g.bind (f n)) p := by obtain ⟨b, h1, h2⟩ := k; exact ⟨b, h1, evBind0 h h2⟩
theorem EvB.yes (h : EvB g p) (hp : p) : Ev g true := by obtain ⟨b, h1, h2⟩ := h; rw [h1.2 hp] at h2; exact h2
theorem EvB.no (h : EvB g p) (hp : ¬ p) : Ev g false := by
  obtain ⟨b, h1, h2⟩ := h
  have : b = false := by cases b with
    | true => exact absurd (h1.1 rfl) hp
    | false => rfl
  rw [this] at h2; exact h2
end
end Go.Proofs.Ytigpmfoagkhaeaa.Qh

namespace Go.Proofs.Ytigpmfoagkhaeaa.Dr
open Go.RowKit Go.Proofs.Ytigpmfoagkhaeaa.PU Go.Proofs.Ytigpmfoagkhaeaa.Qh Go.Proofs.YtigpmfoagkhaeaaW.PrintWords Go.Proofs.YtigpmfoagkhaeaaW.PrintMore
set_option linter.unusedVariables false
set_option linter.unusedSimpArgs false
theorem xor_nonneg (a b : Int) (ha : 0 ≤ a) (ha2 : a < 4611686018427387904) (hb : 0 ≤ b) (hb2 : b < 4611686018427387904) : 0 ≤ Go.bits .xor .i64 a b := by
  obtain ⟨m, rfl⟩ := Int.eq_ofNat_of_zero_le ha
  obtain ⟨n, rfl⟩ := Int.eq_ofNat_of_zero_le hb
  have hm : m < 2 ^ 62 := by omega
  have hn : n < 2 ^ 62 := by omega
  have hx : m ^^^ n < 2 ^ 62 := Nat.xor_lt_two_pow hm hn
  have e1 : m % 2 ^ 64 = m := Nat.mod_eq_of_lt (by omega)
  have e2 : n % 2 ^ 64 = n := Nat.mod_eq_of_lt (by omega)
  have : Go.bits .xor .i64 (m : Int) (n : Int) = ((m ^^^ n : Nat) : Int) := by
    simp only [Go.bits, BitVec.ofInt_natCast, BitVec.toNat_xor, BitVec.toNat_ofNat]
    show IntKind.i64.wrap (((m % 2 ^ 64) ^^^ (n % 2 ^ 64) : Nat) : Int) = _
    rw [e1, e2, IntKind.wrap_i64]
    omega
  rw [this]
  omega
def Bytes (b : List Int) : Prop := b.length ≤ 2000 ∧ ∀ x ∈ b, 0 ≤ x ∧ x ≤ 255
theorem rd_byte {b : List Int} (h : Bytes b) (i : Int) : 0 ≤ rd b i ∧ rd b i ≤ 255 := by
  unfold rd
  by_cases hi : i.toNat < b.length
  · exact h.2 _ (getD_mem 0 b _ hi)
  · simp [List.getD_eq_getElem?_getD, List.getElem?_eq_none (by omega : b.length ≤ i.toNat)]
theorem pick {b : List Int} (hb : Bytes b) (p n : Int) (h0 : 0 ≤ p) (h1 : p ≤ 1000000000) :
    ∃ v, 0 ≤ v ∧ (1 ≤ n → v < n) ∧ (n < 1 → v = 0) ∧ Ev (fun k => spec_l20Rd_pick.f k b p n) (v, p + 1) := by
  have hp : wrap64 (p + 1) = p + 1 := w64 (by omega) (by omega)
  have hp1 : wrap64 (p + 1 - 1) = p := by rw [w64 (by omega) (by omega)]; omega
  unfold spec_l20Rd_pick.f
  rw [hp]
  by_cases hn : n < 1
  · refine ⟨0, by omega, by omega, fun _ => rfl, evPos hn ?_⟩
    refine Ev.step (fun k => by rw [spec_l20Rd_pick.j0]) ?_
    exact evPos rfl (Ev.now _)
  by_cases hz : b.length = 0
  · refine ⟨0, by omega, by omega, fun h => absurd h hn, evNeg hn ?_⟩
    refine Ev.step (fun k => by rw [spec_l20Rd_pick.j0]) ?_
    exact evPos (by simp [hz]) (Ev.now _)
  have hlen : 0 < (b.length : Int) := by omega
  by_cases hlt : p < (b.length : Int)
  · have hr := rd_byte hb p
    refine ⟨Int.tmod (rd b p) n, Int.tmod_nonneg _ hr.1, fun _ => Int.tmod_lt_of_pos _ (by omega), fun h => absurd h hn, evNeg hn ?_⟩
    refine Ev.step (fun k => by rw [spec_l20Rd_pick.j0]) ?_
    rw [hp1]
    refine evNeg (fun h => by have := beq_iff_eq.mp h; omega) (evPos hlt (evPos h0 (evNeg (by omega) ?_)))
    rw [w64 (by omega) (by omega)]
    exact Ev.now _
  · have hp7 : wrap64 (p * 7) = p * 7 := w64 (by omega) (by omega)
    have hp73 : wrap64 (p * 7 + 3) = p * 7 + 3 := w64 (by omega) (by omega)
    have hp29 : wrap64 (p * 29) = p * 29 := w64 (by omega) (by omega)
    have i1 := Int.tmod_nonneg (b.length : Int) h0
    have i2 := Int.tmod_lt_of_pos p hlen
    have j1 := Int.tmod_nonneg (b.length : Int) (show 0 ≤ p * 7 + 3 by omega)
    have j2 := Int.tmod_lt_of_pos (p * 7 + 3) hlen
    have d1 : 0 ≤ Int.tdiv p (b.length : Int) := Int.tdiv_nonneg h0 (by omega)
    have d2 : Int.tdiv p (b.length : Int) ≤ p := Int.tdiv_le_self _ h0
    have r1 := rd_byte hb (Int.tmod p (b.length : Int))
    have r2 := rd_byte hb (Int.tmod (p * 7 + 3) (b.length : Int))
    have key : ∃ x, 0 ≤ x ∧ x < 4611686018427387904 ∧ wrap64 ((wrap64 ((wrap64 ((wrap64 ((wrap64 (rd b (Int.tmod p (b.length : Int)))) * 131)) + (wrap64 ((wrap64 (rd b (Int.tmod (p * 7 + 3) (b.length : Int)))) * 1117)))) + (p * 29))) + (wrap64 ((wrap64 (Int.tdiv p (b.length : Int))) * 53))) = x := by
      generalize rd b (Int.tmod p (b.length : Int)) = u at *
      generalize rd b (Int.tmod (p * 7 + 3) (b.length : Int)) = v at *
      generalize Int.tdiv p (b.length : Int) = d at *
      have e1 : wrap64 u = u := w64 (by omega) (by omega)
      have e2 : wrap64 v = v := w64 (by omega) (by omega)
      have e3 : wrap64 d = d := w64 (by omega) (by omega)
      have e4 : wrap64 (u * 131) = u * 131 := w64 (by omega) (by omega)
      have e5 : wrap64 (v * 1117) = v * 1117 := w64 (by omega) (by omega)
      have e6 : wrap64 (d * 53) = d * 53 := w64 (by omega) (by omega)
      have e7 : wrap64 (u * 131 + v * 1117) = u * 131 + v * 1117 := w64 (by omega) (by omega)
      have e8 : wrap64 (u * 131 + v * 1117 + p * 29) = u * 131 + v * 1117 + p * 29 := w64 (by omega) (by omega)
      refine ⟨u * 131 + v * 1117 + p * 29 + d * 53, by omega, by omega, ?_⟩
      rw [e1, e2, e3, e4, e5, e6, e7, e8]
      exact w64 (by omega) (by omega)
    obtain ⟨x, hx0, hx1, hx⟩ := key
    have t0 : 0 ≤ Int.tdiv x 64 := Int.tdiv_nonneg hx0 (by omega)
    have t1 : Int.tdiv x 64 ≤ x := Int.tdiv_le_self _ hx0
    have ht : wrap64 (Int.tdiv x 64) = Int.tdiv x 64 := w64 (by omega) (by omega)
    have hq := xor_nonneg x (Int.tdiv x 64) hx0 hx1 t0 (by omega)
    refine ⟨Int.tmod (Go.bits .xor .i64 x (Int.tdiv x 64)) n, Int.tmod_nonneg _ hq, fun _ => Int.tmod_lt_of_pos _ (by omega), fun h => absurd h hn, evNeg hn ?_⟩
    refine Ev.step (fun k => by rw [spec_l20Rd_pick.j0]) ?_
    rw [hp1, hp7, hp73, hp29, hx, ht]
    refine evNeg (fun h => by have := beq_iff_eq.mp h; omega) (evNeg hlt (evNeg (by omega) (evPos i1 (evPos i2 (evPos j1 (evPos j2 (evNeg (by omega) (Ev.now _))))))))
theorem open_ (l : List Int) (hu : ∀ x ∈ l, (Lit.int .u8 x).wf = true) : ∃ b, Bytes b ∧ spec_l20Open.f l = some (b, 0) := by
  have hb : ∀ x ∈ l, 0 ≤ x ∧ x ≤ 255 := fun x hx => by
    have := hu x hx
    simp [Lit.wf, IntKind.min, IntKind.max, IntKind.bits, IntKind.signed] at this
    omega
  unfold spec_l20Open.f
  by_cases h : (l.length : Int) > 2000
  · exact ⟨l.take 2000, ⟨by rw [List.length_take]; omega, fun x hx => hb x (List.mem_of_mem_take hx)⟩, by rw [if_pos h, if_pos (by omega)]⟩
  · exact ⟨l, ⟨by omega, hb⟩, by rw [if_neg h]⟩
end Go.Proofs.Ytigpmfoagkhaeaa.Dr

namespace Go.Proofs.Ytigpmfoagkhaeaa.Db
open Go.RowKit Go.Proofs.Ytigpmfoagkhaeaa.PU Go.Proofs.Ytigpmfoagkhaeaa.Qh Go.Proofs.Ytigpmfoagkhaeaa.Dr Go.Proofs.YtigpmfoagkhaeaaW.PrintWords Go.Proofs.YtigpmfoagkhaeaaW.PrintMore
set_option linter.unusedVariables false
set_option linter.unusedSimpArgs false
def EvX {α : Type} (g : Nat → Option α) (P : α → Prop) : Prop := ∃ r, P r ∧ Ev g r
section
variable {α β : Type} {P Q : α → Prop} {g f : Nat → Option α}
theorem EvX.imp (h : EvX g P) (k : ∀ r, P r → Q r) : EvX g Q := by obtain ⟨r, h1, h2⟩ := h; exact ⟨r, k r h1, h2⟩
theorem EvX.now {r : α} (h : P r) : EvX (fun _ => some r) P := ⟨r, h, Ev.now _⟩
theorem EvX.step {g f : Nat → Option α} (h : ∀ k, g (k + 1) = f k) (k : EvX f P) : EvX g P := by obtain ⟨r, h1, h2⟩ := k; exact ⟨r, h1, Ev.step h h2⟩
theorem EvX.pos {c : Prop} [Decidable c] (h : c) (k : EvX g P) : EvX (fun n => if c then g n else f n) P := by obtain ⟨r, h1, h2⟩ := k; exact ⟨r, h1, evPos h h2⟩
theorem EvX.neg {c : Prop} [Decidable c] (h : ¬ c) (k : EvX f P) : EvX (fun n => if c then g n else f n) P := by obtain ⟨r, h1, h2⟩ := k; exact ⟨r, h1, evNeg h h2⟩
theorem EvX.bind {g : Nat → Option β} {f : Nat → β → Option α} {a : β} (h : Ev g a) (k : EvX (fun n => f n a) P) : EvX (fun n => (g n).bind (f n)) P := by obtain ⟨r, h1, h2⟩ := k; exact ⟨r, h1, Ev.bind h h2⟩
theorem EvX.bind0 {g : Option β} {f : Nat → β → Option α} {a : β} (h : g = some a) (k : EvX (fun n => f n a) P) : EvX (fun n => g.bind (f n)) P := by obtain ⟨r, h1, h2⟩ := k; exact ⟨r, h1, evBind0 h h2⟩
end
theorem podd {b : List Int} (hb : Bytes b) (p n : Int) (hn : 1 ≤ n) (hn2 : n ≤ 1000) (h0 : 0 ≤ p) (h1 : p ≤ 1000000000) : ∃ v, Ev (fun k => spec_l20Rd_odd.f k b p n) (v, p + 1) := by
  obtain ⟨x, _, _, _, hx⟩ := pick hb p n h0 h1
  unfold spec_l20Rd_odd.f
  exact ⟨_, evPos (by omega) (Ev.bind hx (Ev.now _))⟩
def Sm (r : List Int × List (List Int) × Int) (p m : Int) : Prop := r.1.length ≤ 4 ∧ r.2.1.length ≤ 4 ∧ (∀ i : Nat, (rd_L2 r.2.1 (i : Int)).length ≤ 4) ∧ p ≤ r.2.2 ∧ r.2.2 ≤ p + m
theorem rL2 (xs : List (List Int)) (i : Nat) : rd_L2 xs (i : Int) = xs.getD i [] := rfl
theorem rows_set (ds : List (List Int)) (i : Nat) (v : List Int) (hv : v.length ≤ 4) (h : ∀ j : Nat, (rd_L2 ds (j : Int)).length ≤ 4) (j : Nat) : (rd_L2 (ds.set i v) (j : Int)).length ≤ 4 := by
  rw [rL2]
  by_cases hi : i < ds.length
  · rw [getD_set _ _ _ _ _ hi]
    by_cases e : i = j
    · rw [if_pos e]; exact hv
    · rw [if_neg e]; exact h j
  · rw [List.set_eq_of_length_le (by omega)]; exact h j
theorem rows_all (ds : List (List Int)) (m : Nat) (hm : m ≤ 4) (h : ∀ j : Nat, j < ds.length → (rd_L2 ds (j : Int)).length = m) (j : Nat) : (rd_L2 ds (j : Int)).length ≤ 4 := by
  by_cases hj : j < ds.length
  · rw [h j hj]; exact hm
  · rw [rL2]; simp [List.getD_eq_getElem?_getD, List.getElem?_eq_none (by omega : ds.length ≤ j)]
theorem bk_l1 {b : List Int} (hb : Bytes b) (n : Int) (m : Nat) (hm : m ≤ 4) (kind : Int) (i : Nat) (hi : i < m) (cs : List Int) (ds : List (List Int)) (hds : ds.length = i) (P : List Int × List (List Int) × Int → Prop) (p0 : Int) (hp0 : 0 ≤ p0) (hp1 : p0 ≤ 10000)
    (hR : ∀ (row : List Int) (p : Int), row.length = m → p0 ≤ p → p ≤ p0 + 2 * m → EvX (fun k => spec_l20Book.l0 k n (m : Int) kind ((i + 1 : Nat) : Int) b p cs (ds ++ [row])) P) :
    ∀ (e j : Nat) (row : List Int) (p : Int), m - j = e → j ≤ m → row.length = j → p0 ≤ p → p ≤ p0 + 2 * j →
    EvX (fun k => spec_l20Book.l1 k n (m : Int) kind (i : Int) row (j : Int) b p cs ds) P := by
  have hs : Aside0 (wrap64 ((i : Int) + 1) = ((i + 1 : Nat) : Int)) := ⟨wsucc hi (by omega)⟩
  intro e
  induction e with
  | zero =>
    intro j row p he hj hr h0 h1
    obtain rfl : j = m := by omega
    refine EvX.step (fun k => by rw [spec_l20Book.l1]) ?_
    rw [hs.out]
    exact EvX.neg (by omega) (EvX.pos (by omega) (hR row p hr h0 h1))
  | succ e ih =>
    intro j row p he hj hr h0 h1
    have hlt : j < m := by omega
    have hj1 : Aside0 (wrap64 ((j : Int) + 1) = ((j + 1 : Nat) : Int)) := ⟨wsucc hlt (by omega)⟩
    refine EvX.step (fun k => by rw [spec_l20Book.l1]) ?_
    rw [hj1.out]
    have hc : (j : Int) < (m : Int) := by clear ih hR; omega
    refine EvX.pos hc ?_
    have go : ∀ (v p' : Int), p0 ≤ p' → p' ≤ p0 + 2 * ((j + 1 : Nat) : Int) → EvX (fun k => if row.length < 17592186044416 then spec_l20Book.l1 k n (m : Int) kind (i : Int) (row ++ [v]) ((j + 1 : Nat) : Int) b p' cs ds else none) P := by
      intro v p' h2 h3
      have hl : row.length < 17592186044416 := by clear hj1 hs ih hR; omega
      have q1 : m - (j + 1) = e := by clear hj1 hs ih hR; omega
      have q2 : (row ++ [v]).length = j + 1 := by rw [List.length_append, hr]; rfl
      exact EvX.pos hl (ih (j + 1) (row ++ [v]) p' q1 hlt q2 h2 h3)
    by_cases hij : (i : Int) = (j : Int)
    · exact EvX.pos hij (go 0 p h0 (by omega))
    · refine EvX.neg hij ?_
      obtain ⟨v, _, _, _, hv⟩ := pick hb p 3 (by omega) (by omega)
      refine EvX.bind hv ?_
      by_cases h2 : v > 0
      · refine EvX.pos h2 ?_
        obtain ⟨v2, _, _, _, hv2⟩ := pick hb (p + 1) 10 (by omega) (by omega)
        exact EvX.bind hv2 (go v2 (p + 1 + 1) (by omega) (by omega))
      · exact EvX.neg h2 (go 0 (p + 1) (by omega) (by omega))
theorem bk_l0 {b : List Int} (hb : Bytes b) (n : Int) (hn : 1 ≤ n) (hn2 : n ≤ 1000) (m : Nat) (hm1 : 1 ≤ m) (hm : m ≤ 4) (kind : Int) (hk0 : 0 ≤ kind) (hk1 : kind < 3) : ∀ (e i : Nat) (cs : List Int) (ds : List (List Int)) (p : Int), m - i = e → i ≤ m →
    cs.length = i → ds.length = i → (∀ j : Nat, j < ds.length → (rd_L2 ds (j : Int)).length = m) → 0 ≤ p → p ≤ 100 + 10 * i →
    EvX (fun k => spec_l20Book.l0 k n (m : Int) kind (i : Int) b p cs ds) (fun r => Sm r p (10 * e + 2)) := by
  intro e
  induction e with
  | zero =>
    intro i cs ds p he hi hcs hds hrows h0 h1
    obtain rfl : i = m := by omega
    refine EvX.step (fun k => by rw [spec_l20Book.l0]) ?_
    refine EvX.neg (by omega) ?_
    obtain ⟨v, hv⟩ := podd hb p n hn hn2 h0 (by omega)
    refine EvX.bind hv ?_
    have hall := rows_all ds i hm hrows
    by_cases hvt : v = true
    · refine EvX.pos hvt ?_
      obtain ⟨w, hw0, hw1, _, hw⟩ := pick hb (p + 1) 4 (by omega) (by omega)
      refine EvX.bind hw ?_
      by_cases a : w = 0
      · exact EvX.pos a (EvX.now ⟨by simp, by simp, fun j => by simp [rL2], by show p ≤ p + 1 + 1; omega, by show p + 1 + 1 ≤ _; omega⟩)
      refine EvX.neg a ?_
      by_cases a1 : w = 1
      · refine EvX.pos a1 (EvX.pos (by omega) (EvX.now ⟨by simp; omega, by show ds.length ≤ 4; omega, hall, by show p ≤ p + 1 + 1; omega, by show p + 1 + 1 ≤ _; omega⟩))
      refine EvX.neg a1 ?_
      have r0 := hrows 0 (by omega)
      by_cases a2 : w = 2
      · refine EvX.pos a2 (EvX.pos (by omega) (EvX.pos (by rw [show (0 : Int) = ((0 : Nat) : Int) from rfl, r0]; omega) (EvX.now ⟨by show cs.length ≤ 4; omega, by simp; omega, ?_, by show p ≤ p + 1 + 1; omega, by show p + 1 + 1 ≤ _; omega⟩)))
        exact rows_set ds 0 _ (by rw [List.length_set]; exact hall 0) hall
      · have hw1 : Aside0 (wrap64 ((i : Int) - 1) = ((i - 1 : Nat) : Int)) := ⟨by rw [w64 (by omega) (by omega)]; omega⟩
        rw [hw1.out]
        have rl := hrows (i - 1) (by omega)
        refine EvX.neg a2 (EvX.pos (by omega) (EvX.pos (by omega) (EvX.pos (by rw [rl]; omega) (EvX.now ⟨by show cs.length ≤ 4; omega, by simp; omega, ?_, by show p ≤ p + 1 + 1; omega, by show p + 1 + 1 ≤ _; omega⟩))))
        rw [Int.toNat_natCast]
        exact rows_set ds (i - 1) _ (by rw [List.length_drop, rl]; omega) hall
    · exact EvX.neg hvt (EvX.now ⟨by show cs.length ≤ 4; omega, by show ds.length ≤ 4; omega, hall, by show p ≤ p + 1; omega, by show p + 1 ≤ _; omega⟩)
  | succ e ih =>
    intro i cs ds p he hi hcs hds hrows h0 h1
    have hlt : i < m := by omega
    refine EvX.step (fun k => by rw [spec_l20Book.l0]) ?_
    refine EvX.pos (by omega) ?_
    obtain ⟨v, _, _, _, hv⟩ := pick hb p 4 h0 (by omega)
    refine EvX.bind hv ?_
    obtain ⟨w, _, _, _, hw⟩ := pick hb (p + 1) 21 (by omega) (by omega)
    refine EvX.bind hw (EvX.bind0 rfl (EvX.pos hk0 (EvX.pos (by simp; omega) (EvX.pos (by omega) ?_))))
    refine bk_l1 hb n m hm kind i hlt _ ds hds _ (p + 1 + 1) (by omega) (by omega) ?_ _ 0 [] (p + 1 + 1) rfl (by omega) rfl (by omega) (by omega)
    intro row q hr hq0 hq1
    refine (ih (i + 1) _ (ds ++ [row]) q (by omega) (by omega) (by simp; omega) (by simp; omega) ?_ (by omega) (by omega)).imp ?_
    · intro j hj
      rw [rL2, List.getD_eq_getElem?_getD, List.getElem?_append]
      by_cases hjl : j < ds.length
      · rw [if_pos hjl]
        have := hrows j hjl
        rw [rL2, List.getD_eq_getElem?_getD] at this
        exact this
      · rw [if_neg hjl]
        have : j = ds.length := by simp at hj; omega
        subst this
        simpa using hr
    · intro r hr
      exact ⟨hr.1, hr.2.1, hr.2.2.1, by have := hr.2.2.2.1; omega, by have := hr.2.2.2.2; omega⟩
theorem book {b : List Int} (hb : Bytes b) (n : Int) (hn : 1 ≤ n) (hn2 : n ≤ 1000) (p : Int) (h0 : 0 ≤ p) (h1 : p ≤ 50) : EvX (fun k => spec_l20Book.f k b p n) (fun r => Sm r p 50) := by
  unfold spec_l20Book.f
  obtain ⟨v, hv0, hv1, _, hv⟩ := pick hb p 6 h0 (by omega)
  obtain ⟨w, hw0, hw1, _, hw⟩ := pick hb (p + 1) 3 (by omega) (by omega)
  have hv6 := hv1 (by omega)
  have hw3 := hw1 (by omega)
  refine EvX.bind0 rfl (EvX.bind hv (EvX.pos hv0 (EvX.pos (by simp; omega) (EvX.bind hw ?_))))
  obtain ⟨m, hm1, hm4, hm⟩ : ∃ m : Nat, 1 ≤ m ∧ m ≤ 4 ∧ rd ([1, 2, 3, 3, 4, 4] : List Int) v = (m : Int) := by
    rcases (by omega : v = 0 ∨ v = 1 ∨ v = 2 ∨ v = 3 ∨ v = 4 ∨ v = 5) with h | h | h | h | h | h <;> subst h
    · exact ⟨1, by omega, by omega, rfl⟩
    · exact ⟨2, by omega, by omega, rfl⟩
    · exact ⟨3, by omega, by omega, rfl⟩
    · exact ⟨3, by omega, by omega, rfl⟩
    · exact ⟨4, by omega, by omega, rfl⟩
    · exact ⟨4, by omega, by omega, rfl⟩
  rw [hm]
  refine (bk_l0 hb n hn hn2 m hm1 hm4 w hw0 hw3 m 0 [] [] (p + 1 + 1) (by omega) (by omega) rfl rfl (fun j hj => by simp at hj) (by omega) (by omega)).imp ?_
  intro r hr
  exact ⟨hr.1, hr.2.1, hr.2.2.1, by have := hr.2.2.2.1; omega, by have := hr.2.2.2.2; omega⟩
end Go.Proofs.Ytigpmfoagkhaeaa.Db

namespace Go.Proofs.Ytigpmfoagkhaeaa.Bk
open Go.RowKit Go.Proofs.Ytigpmfoagkhaeaa.PU Go.Proofs.Ytigpmfoagkhaeaa.Qh Go.Proofs.YtigpmfoagkhaeaaW.PrintWords Go.Proofs.YtigpmfoagkhaeaaW.PrintMore
set_option linter.unusedVariables false
set_option linter.unusedSimpArgs false
def RowP (c : List Int) (d : List (List Int)) (i : Nat) : Prop :=
  0 ≤ rd c (i : Int) ∧ rd c (i : Int) ≤ 20 ∧ (rd_L2 d (i : Int)).length = c.length ∧ rd (rd_L2 d (i : Int)) (i : Int) = 0 ∧ ∀ j : Nat, j < c.length → 0 ≤ rd (rd_L2 d (i : Int)) (j : Int) ∧ rd (rd_L2 d (i : Int)) (j : Int) ≤ 9
def BookP (c : List Int) (d : List (List Int)) : Prop := 1 ≤ c.length ∧ c.length ≤ 4 ∧ d.length = c.length ∧ ∀ i : Nat, i < c.length → RowP c d i
theorem ib_l1 (c : List Int) (d : List (List Int)) (row : List Int) (x3 : Int) (i : Nat) (hrow : row.length ≤ 4) (hi : i < d.length) (hd : d.length ≤ 4) {R : Prop}
    (hR : EvB (fun k => impl_isBook.l0 k x3 d (d.length : Int) ((i + 1 : Nat) : Int) c d) R) : ∀ (e j : Nat), row.length - j = e → j ≤ row.length →
    EvB (fun k => impl_isBook.l1 k x3 d (d.length : Int) (i : Int) row (row.length : Int) (j : Int) c d) ((∀ j' : Nat, j ≤ j' → j' < row.length → 0 ≤ rd row (j' : Int) ∧ rd row (j' : Int) ≤ 9) ∧ R) := by
  have hs : wrap64 ((i : Int) + 1) = ((i + 1 : Nat) : Int) := wsucc hi (by omega)
  intro e
  induction e with
  | zero =>
    intro j he hj
    refine EvB.step (fun k => by rw [impl_isBook.l1]) ?_
    rw [hs]
    exact EvB.neg (by omega) (hR.congr ⟨fun h => ⟨fun j' h1 h2 => by omega, h⟩, fun h => h.2⟩)
  | succ e ih =>
    intro j he hj
    have hlt : j < row.length := by omega
    have hj1 : wrap64 ((j : Int) + 1) = ((j + 1 : Nat) : Int) := wsucc hlt (by omega)
    refine EvB.step (fun k => by rw [impl_isBook.l1]) ?_
    refine EvB.pos (by omega) (EvB.pos (by omega) (EvB.pos (by omega) ?_))
    by_cases h1 : rd row (j : Int) < 0
    · exact EvB.pos h1 (EvB.ff (fun h => by have := h.1 j (Nat.le_refl _) hlt; omega))
    · refine EvB.neg h1 ?_
      by_cases h2 : rd row (j : Int) > 9
      · exact EvB.pos h2 (EvB.ff (fun h => by have := h.1 j (Nat.le_refl _) hlt; omega))
      · refine EvB.neg h2 ?_
        rw [hj1]
        refine (ih (j + 1) (by omega) (by omega)).congr ⟨fun h => ⟨fun j' h3 h4 => ?_, h.2⟩, fun h => ⟨fun j' h3 h4 => h.1 j' (by omega) h4, h.2⟩⟩
        by_cases e' : j' = j
        · subst e'; exact ⟨by omega, by omega⟩
        · exact h.1 j' (by omega) h4
theorem ib_l0 (c : List Int) (d : List (List Int)) (h4 : c.length ≤ 4) (hl : d.length = c.length) : ∀ (e i : Nat), c.length - i = e → i ≤ c.length →
    EvB (fun k => impl_isBook.l0 k (c.length : Int) d (d.length : Int) (i : Int) c d) (∀ i' : Nat, i ≤ i' → i' < c.length → RowP c d i') := by
  intro e
  induction e with
  | zero =>
    intro i he hi
    refine EvB.step (fun k => by rw [impl_isBook.l0]) ?_
    exact EvB.neg (by omega) (EvB.tt (fun i' h1 h2 => by omega))
  | succ e ih =>
    intro i he hi
    have hlt : i < c.length := by omega
    refine EvB.step (fun k => by rw [impl_isBook.l0]) ?_
    refine EvB.pos (by omega) (EvB.pos (by omega) (EvB.pos (by omega) (EvB.pos (by omega) ?_)))
    have bad : ∀ (P : Prop), (P → ¬ RowP c d i) → P → EvB (fun k => impl_isBook.j2 k (c.length : Int) (rd_L2 d (i : Int)) d (d.length : Int) (i : Int) true c d) (∀ i' : Nat, i ≤ i' → i' < c.length → RowP c d i') := by
      intro P hP p
      refine EvB.step (fun k => by rw [impl_isBook.j2]) ?_
      exact EvB.pos rfl (EvB.ff (fun h => hP p (h i (Nat.le_refl _) hlt)))
    by_cases h1 : rd c (i : Int) < 0
    · exact EvB.pos h1 (bad _ (fun p h => by have := h.1; omega) h1)
    refine EvB.neg h1 ?_
    by_cases h2 : rd c (i : Int) > 20
    · exact EvB.pos h2 (bad _ (fun p h => by have := h.2.1; omega) h2)
    refine EvB.neg h2 ?_
    by_cases h3 : ((rd_L2 d (i : Int)).length : Int) = (c.length : Int)
    · refine EvB.pos h3 (EvB.pos (by omega) ?_)
      by_cases h5 : rd (rd_L2 d (i : Int)) (i : Int) = 0
      · refine EvB.step (fun k => by rw [impl_isBook.j2]) ?_
        refine EvB.neg (by rw [h5]; decide) ?_
        refine (ib_l1 c d (rd_L2 d (i : Int)) (c.length : Int) i (by omega) (by omega) (by omega) (ih (i + 1) (by omega) (by omega)) _ 0 rfl (by omega)).congr ?_
        constructor
        · intro h i' h6 h7
          by_cases e' : i' = i
          · subst e'; exact ⟨by omega, by omega, by omega, h5, fun j hj => h.1 j (by omega) (by omega)⟩
          · exact h.2 i' (by omega) h7
        · intro h
          have hr := h i (Nat.le_refl _) hlt
          exact ⟨fun j' _ h7 => hr.2.2.2.2 j' (by omega), fun i' h6 h7 => h i' (by omega) h7⟩
      · have hb : (rd (rd_L2 d (i : Int)) (i : Int) != 0) = true := bne_iff_ne.mpr h5
        rw [hb]
        exact bad _ (fun p h => p h.2.2.2.1) h5
    · exact EvB.neg h3 (bad _ (fun p h => p (by rw [h.2.2.1])) h3)
theorem isBook (c : List Int) (d : List (List Int)) : EvB (fun k => impl_isBook.f k c d) (BookP c d) := by
  unfold impl_isBook.f
  by_cases h1 : (c.length : Int) < 1
  · refine EvB.pos h1 (EvB.step (fun k => by rw [impl_isBook.j0]) ?_)
    exact EvB.pos rfl (EvB.ff (fun h => by have := h.1; omega))
  refine EvB.neg h1 ?_
  by_cases h2 : (c.length : Int) > 4
  · refine EvB.pos h2 (EvB.step (fun k => by rw [impl_isBook.j0]) ?_)
    exact EvB.pos rfl (EvB.ff (fun h => by have := h.2.1; omega))
  refine EvB.neg h2 (EvB.step (fun k => by rw [impl_isBook.j0]) ?_)
  by_cases h3 : d.length = c.length
  · refine EvB.neg (by rw [h3]; simp) ?_
    refine (ib_l0 c d (by omega) h3 _ 0 rfl (by omega)).congr ⟨fun h => ⟨by omega, by omega, h3, fun i hi => h i (by omega) hi⟩, fun h i _ hi => h.2.2.2 i hi⟩
  · exact EvB.pos (bne_iff_ne.mpr (by omega)) (EvB.ff (fun h => h3 h.2.2.1))
theorem sIn (a lo hi : Int) : spec_l1In.f a lo hi = some (decide (lo ≤ a ∧ a ≤ hi)) := by
  unfold spec_l1In.f
  by_cases h : a ≥ lo
  · rw [if_pos h]; simp [h]
  · rw [if_neg h]; congr 1; symm; exact decide_eq_false (fun h' => h h'.1)
theorem sb_l1 (c : List Int) (d : List (List Int)) (i : Nat) (hrow : (rd_L2 d (i : Int)).length ≤ 4) (hi : i < d.length) (hd : d.length ≤ 4) {R : Prop}
    (hR : EvB (fun k => spec_BookOk.l0 k ((i + 1 : Nat) : Int) c d) R) : ∀ (e j : Nat), (rd_L2 d (i : Int)).length - j = e → j ≤ (rd_L2 d (i : Int)).length →
    EvB (fun k => spec_BookOk.l1 k (i : Int) (j : Int) c d) ((∀ j' : Nat, j ≤ j' → j' < (rd_L2 d (i : Int)).length → 0 ≤ rd (rd_L2 d (i : Int)) (j' : Int) ∧ rd (rd_L2 d (i : Int)) (j' : Int) ≤ 9) ∧ R) := by
  have hs : wrap64 ((i : Int) + 1) = ((i + 1 : Nat) : Int) := wsucc hi (by omega)
  intro e
  induction e with
  | zero =>
    intro j he hj
    refine EvB.step (fun k => by rw [spec_BookOk.l1]) ?_
    rw [hs]
    exact EvB.pos (by omega) (EvB.pos (by omega) (EvB.neg (by omega) (hR.congr ⟨fun h => ⟨fun j' h1 h2 => by omega, h⟩, fun h => h.2⟩)))
  | succ e ih =>
    intro j he hj
    have hlt : j < (rd_L2 d (i : Int)).length := by omega
    have hj1 : wrap64 ((j : Int) + 1) = ((j + 1 : Nat) : Int) := wsucc hlt (by omega)
    refine EvB.step (fun k => by rw [spec_BookOk.l1]) ?_
    refine EvB.pos (by omega) (EvB.pos (by omega) (EvB.pos (by omega) (EvB.pos (by omega) (EvB.bind0 (sIn _ _ _) ?_))))
    by_cases h1 : 0 ≤ rd (rd_L2 d (i : Int)) (j : Int) ∧ rd (rd_L2 d (i : Int)) (j : Int) ≤ 9
    · refine EvB.pos (decide_eq_true h1) ?_
      rw [hj1]
      refine (ih (j + 1) (by omega) (by omega)).congr ⟨fun h => ⟨fun j' h3 h4 => ?_, h.2⟩, fun h => ⟨fun j' h3 h4 => h.1 j' (by omega) h4, h.2⟩⟩
      by_cases e' : j' = j
      · subst e'; exact h1
      · exact h.1 j' (by omega) h4
    · exact EvB.neg (by simpa using h1) (EvB.ff (fun h => h1 (h.1 j (Nat.le_refl _) hlt)))
theorem sb_l0 (c : List Int) (d : List (List Int)) (h4 : c.length ≤ 4) (hl : d.length = c.length) : ∀ (e i : Nat), c.length - i = e → i ≤ c.length →
    EvB (fun k => spec_BookOk.l0 k (i : Int) c d) (∀ i' : Nat, i ≤ i' → i' < c.length → RowP c d i') := by
  intro e
  induction e with
  | zero =>
    intro i he hi
    refine EvB.step (fun k => by rw [spec_BookOk.l0]) ?_
    exact EvB.neg (by omega) (EvB.tt (fun i' h1 h2 => by omega))
  | succ e ih =>
    intro i he hi
    have hlt : i < c.length := by omega
    refine EvB.step (fun k => by rw [spec_BookOk.l0]) ?_
    refine EvB.pos (by omega) (EvB.pos (by omega) (EvB.bind0 (sIn _ _ _) ?_))
    have bad : ∀ (P : Prop), (P → ¬ RowP c d i) → P → EvB (fun k => spec_BookOk.j2 k (i : Int) true c d) (∀ i' : Nat, i ≤ i' → i' < c.length → RowP c d i') := by
      intro P hP p
      refine EvB.step (fun k => by rw [spec_BookOk.j2]) ?_
      exact EvB.pos rfl (EvB.ff (fun h => hP p (h i (Nat.le_refl _) hlt)))
    by_cases h1 : 0 ≤ rd c (i : Int) ∧ rd c (i : Int) ≤ 20
    · refine EvB.pos (decide_eq_true h1) (EvB.pos (by omega) ?_)
      by_cases h3 : ((rd_L2 d (i : Int)).length : Int) = (c.length : Int)
      · refine EvB.pos h3 (EvB.pos (by omega) ?_)
        by_cases h5 : rd (rd_L2 d (i : Int)) (i : Int) = 0
        · refine EvB.step (fun k => by rw [spec_BookOk.j2]) ?_
          refine EvB.neg (by rw [h5]; decide) ?_
          refine (sb_l1 c d i (by omega) (by omega) (by omega) (ih (i + 1) (by omega) (by omega)) _ 0 rfl (by omega)).congr ?_
          constructor
          · intro h i' h6 h7
            by_cases e' : i' = i
            · subst e'; exact ⟨h1.1, h1.2, by omega, h5, fun j hj => h.1 j (by omega) (by omega)⟩
            · exact h.2 i' (by omega) h7
          · intro h
            have hr := h i (Nat.le_refl _) hlt
            exact ⟨fun j' _ h7 => hr.2.2.2.2 j' (by omega), fun i' h6 h7 => h i' (by omega) h7⟩
        · have hb : (rd (rd_L2 d (i : Int)) (i : Int) != 0) = true := bne_iff_ne.mpr h5
          rw [hb]
          exact bad _ (fun p h => p h.2.2.2.1) h5
      · exact EvB.neg h3 (bad _ (fun p h => p (by rw [h.2.2.1])) h3)
    · exact EvB.neg (by simpa using h1) (bad _ (fun p h => p ⟨h.1, h.2.1⟩) h1)
theorem bookOk (c : List Int) (d : List (List Int)) : EvB (fun k => spec_BookOk.f k c d) (BookP c d) := by
  unfold spec_BookOk.f
  refine EvB.bind0 (sIn _ _ _) ?_
  by_cases h1 : 1 ≤ (c.length : Int) ∧ (c.length : Int) ≤ 4
  · refine EvB.pos (decide_eq_true h1) (EvB.step (fun k => by rw [spec_BookOk.j0]) ?_)
    by_cases h3 : d.length = c.length
    · refine EvB.neg (by rw [h3]; simp) ?_
      refine (sb_l0 c d (by omega) h3 _ 0 rfl (by omega)).congr ⟨fun h => ⟨by omega, by omega, h3, fun i hi => h i (by omega) hi⟩, fun h i _ hi => h.2.2.2 i hi⟩
    · exact EvB.pos (bne_iff_ne.mpr (by omega)) (EvB.ff (fun h => h3 h.2.2.1))
  · refine EvB.neg (by simpa using h1) (EvB.step (fun k => by rw [spec_BookOk.j0]) ?_)
    exact EvB.pos rfl (EvB.ff (fun h => h1 ⟨by have := h.1; omega, by have := h.2.1; omega⟩))
end Go.Proofs.Ytigpmfoagkhaeaa.Bk

namespace Go.Proofs.Ytigpmfoagkhaeaa.PU
open Go.RowKit Go.Proofs.YtigpmfoagkhaeaaW.PrintWords Go.Proofs.YtigpmfoagkhaeaaW.PrintLast Go.Proofs.YtigpmfoagkhaeaaW.PrintMore Go.Proofs.Ytigpmfoagkhaeaa.Qd
attribute [local go_sem] max2_int min2_int max_two min_two max_three min_three max_four min_four   -- for this text's walks alone
set_option linter.unusedVariables false
set_option linter.unusedSimpArgs false
end Go.Proofs.Ytigpmfoagkhaeaa.PU

namespace Go.Proofs.Ytigpmfoagkhaeaa.Ow
open Go.RowKit Go.Proofs.Ytigpmfoagkhaeaa.PU Go.Proofs.Ytigpmfoagkhaeaa.Qh Go.Proofs.Ytigpmfoagkhaeaa.Bk Go.Proofs.YtigpmfoagkhaeaaW.PrintWords Go.Proofs.YtigpmfoagkhaeaaW.PrintMore
set_option linter.unusedVariables false
set_option linter.unusedSimpArgs false
def sm (xs : List Int) : Nat → Int
  | 0 => 0
  | i + 1 => sm xs i + rd xs (i : Int)
def ow (c : List Int) (d : List (List Int)) (i : Nat) : Int := sm (rd_L2 d (i : Int)) c.length
def owes (c : List Int) (d : List (List Int)) : List Int := (List.range c.length).map (ow c d)
theorem owes_len (c : List Int) (d : List (List Int)) : (owes c d).length = c.length := by simp [owes]
theorem rd_owes {c : List Int} {d : List (List Int)} {i : Nat} (hi : i < c.length) : rd (owes c d) (i : Int) = ow c d i := by
  rw [rd_get _ _ (by rw [owes_len]; exact hi)]; simp [owes]
theorem sm_bd {c : List Int} {d : List (List Int)} (h : BookP c d) {i : Nat} (hi : i < c.length) : ∀ j : Nat, j ≤ c.length → 0 ≤ sm (rd_L2 d (i : Int)) j ∧ sm (rd_L2 d (i : Int)) j ≤ 9 * j
  | 0, _ => by simp [sm]
  | j + 1, hj => by
    have := sm_bd h hi j (by omega)
    have := (h.2.2.2 i hi).2.2.2.2 j (by omega)
    simp only [sm]; omega
theorem ow_bd {c : List Int} {d : List (List Int)} (h : BookP c d) {i : Nat} (hi : i < c.length) : 0 ≤ ow c d i ∧ ow c d i ≤ 36 := by
  have := sm_bd h hi c.length (Nat.le_refl _); have := h.2.1; unfold ow; omega
def mid (c : List Int) (d : List (List Int)) (i : Nat) (s : Int) : List Int := (List.range c.length).map (fun k => if k < i then ow c d k else if k = i then s else 0)
theorem mid_len (c : List Int) (d : List (List Int)) (i : Nat) (s : Int) : (mid c d i s).length = c.length := by simp [mid]
theorem mid_get {c : List Int} {d : List (List Int)} {i : Nat} {s : Int} (hi : i < c.length) : rd (mid c d i s) (i : Int) = s := by
  rw [rd_get _ _ (by rw [mid_len]; exact hi)]; simp [mid]
theorem mid_set {c : List Int} {d : List (List Int)} {i : Nat} {s v : Int} (hi : i < c.length) : (mid c d i s).set ((i : Int)).toNat v = mid c d i v := by
  apply List.ext_getElem (by simp [mid])
  intro k h1 h2
  simp only [mid, List.getElem_set, List.getElem_map, List.getElem_range, Int.toNat_natCast]
  by_cases e : i = k
  · subst e; simp
  · rw [if_neg e]
    by_cases e2 : k < i
    · simp [e2]
    · simp [e2, Ne.symm e, show ¬ k = i from fun h => e h.symm]
theorem mid_next {c : List Int} {d : List (List Int)} (i : Nat) : mid c d i (ow c d i) = mid c d (i + 1) 0 := by
  unfold mid
  apply List.map_congr_left
  intro k _
  by_cases e : k < i
  · simp [e, show k < i + 1 by omega]
  · by_cases e2 : k = i
    · subst e2; simp
    · simp [e, e2, show ¬ k < i + 1 by omega]
theorem mid_start (c : List Int) (d : List (List Int)) : List.replicate c.length (0 : Int) = mid c d 0 0 := by
  apply List.ext_getElem (by simp [mid])
  intro k h1 h2
  simp [mid]
theorem mid_end (c : List Int) (d : List (List Int)) : mid c d c.length 0 = owes c d := by
  unfold mid owes
  apply List.map_congr_left
  intro k hk
  simp [List.mem_range.mp hk]
theorem io_l1 {c : List Int} {d : List (List Int)} (h : BookP c d) {i : Nat} (hi : i < c.length) {r : List Int} (hR : Ev (fun k => impl_owes.l0 k (mid c d (i + 1) 0) d (d.length : Int) ((i + 1 : Nat) : Int)) r) :
    ∀ (e j : Nat), c.length - j = e → j ≤ c.length → Ev (fun k => impl_owes.l1 k (mid c d i (sm (rd_L2 d (i : Int)) j)) (i : Int) d (d.length : Int) (i : Int) (rd_L2 d (i : Int)) ((rd_L2 d (i : Int)).length : Int) (j : Int)) r := by
  have h4 := h.2.1
  have hdl := h.2.2.1
  have hrl := (h.2.2.2 i hi).2.2.1
  have hs : wrap64 ((i : Int) + 1) = ((i + 1 : Nat) : Int) := wsucc hi (by omega)
  intro e
  induction e with
  | zero =>
    intro j he hj
    obtain rfl : j = c.length := by omega
    refine Ev.step (fun k => by rw [impl_owes.l1]) ?_
    rw [hs]
    refine evNeg (by omega) ?_
    have : mid c d i (sm (rd_L2 d (i : Int)) c.length) = mid c d (i + 1) 0 := mid_next i
    rw [this]
    exact hR
  | succ e ih =>
    intro j he hj
    have hlt : j < c.length := by omega
    have hj1 : wrap64 ((j : Int) + 1) = ((j + 1 : Nat) : Int) := wsucc hlt (by omega)
    have hb := sm_bd h hi j (by omega)
    have hx := (h.2.2.2 i hi).2.2.2.2 j hlt
    have hw : wrap64 (sm (rd_L2 d (i : Int)) j + rd (rd_L2 d (i : Int)) (j : Int)) = sm (rd_L2 d (i : Int)) (j + 1) := by rw [w64 (by omega) (by omega)]; rfl
    have hml := mid_len c d i (sm (rd_L2 d (i : Int)) j)
    refine Ev.step (fun k => by rw [impl_owes.l1]) ?_
    refine evPos (by omega) (evPos (by omega) (evPos (by omega) (evPos (by omega) (evPos (by omega) ?_))))
    rw [mid_get hi, hw, hj1, mid_set hi]
    exact ih (j + 1) (by omega) (by omega)
theorem io_l0 {c : List Int} {d : List (List Int)} (h : BookP c d) : ∀ (e i : Nat), c.length - i = e → i ≤ c.length → Ev (fun k => impl_owes.l0 k (mid c d i 0) d (d.length : Int) (i : Int)) (owes c d) := by
  have hdl := h.2.2.1
  intro e
  induction e with
  | zero =>
    intro i he hi
    obtain rfl : i = c.length := by omega
    refine Ev.step (fun k => by rw [impl_owes.l0]) ?_
    exact evNeg (by omega) (evEq (Ev.now _) (mid_end c d))
  | succ e ih =>
    intro i he hi
    refine Ev.step (fun k => by rw [impl_owes.l0]) ?_
    refine evPos (by omega) (evPos (by omega) (evPos (by omega) ?_))
    exact io_l1 h (by omega) (ih (i + 1) (by omega) (by omega)) _ 0 rfl (by omega)
theorem iowes {c : List Int} {d : List (List Int)} (h : BookP c d) : Ev (fun k => impl_owes.f k c d) (owes c d) := by
  have h4 := h.2.1
  unfold impl_owes.f
  refine evPos (by omega) (evPos (by omega) ?_)
  rw [Int.toNat_natCast, mid_start c d]
  exact io_l0 h _ 0 rfl (by omega)
end Go.Proofs.Ytigpmfoagkhaeaa.Ow

namespace Go.Proofs.Ytigpmfoagkhaeaa.PU
open Go.RowKit Go.Proofs.YtigpmfoagkhaeaaW.PrintWords Go.Proofs.YtigpmfoagkhaeaaW.PrintLast Go.Proofs.YtigpmfoagkhaeaaW.PrintMore Go.Proofs.Ytigpmfoagkhaeaa.Qd
attribute [local go_sem] max2_int min2_int max_two min_two max_three min_three max_four min_four   -- for this text's walks alone
set_option linter.unusedVariables false
set_option linter.unusedSimpArgs false
end Go.Proofs.Ytigpmfoagkhaeaa.PU

namespace Go.Proofs.Ytigpmfoagkhaeaa.PU
open Go.RowKit Go.Proofs.YtigpmfoagkhaeaaW.PrintWords Go.Proofs.YtigpmfoagkhaeaaW.PrintLast Go.Proofs.YtigpmfoagkhaeaaW.PrintMore Go.Proofs.Ytigpmfoagkhaeaa.Qd
attribute [local go_sem] max2_int min2_int max_two min_two max_three min_three max_four min_four   -- for this text's walks alone
set_option linter.unusedVariables false
set_option linter.unusedSimpArgs false
end Go.Proofs.Ytigpmfoagkhaeaa.PU

namespace Go.Proofs.Ytigpmfoagkhaeaa.PU
open Go.RowKit Go.Proofs.YtigpmfoagkhaeaaW.PrintWords Go.Proofs.YtigpmfoagkhaeaaW.PrintLast Go.Proofs.YtigpmfoagkhaeaaW.PrintMore Go.Proofs.Ytigpmfoagkhaeaa.Qd
attribute [local go_sem] max2_int min2_int max_two min_two max_three min_three max_four min_four   -- for this text's walks alone
set_option linter.unusedVariables false
set_option linter.unusedSimpArgs false
end Go.Proofs.Ytigpmfoagkhaeaa.PU

namespace Go.Proofs.Ytigpmfoagkhaeaa.PU
open Go.RowKit Go.Proofs.YtigpmfoagkhaeaaW.PrintWords Go.Proofs.YtigpmfoagkhaeaaW.PrintLast Go.Proofs.YtigpmfoagkhaeaaW.PrintMore Go.Proofs.Ytigpmfoagkhaeaa.Qd
attribute [local go_sem] max2_int min2_int max_two min_two max_three min_three max_four min_four   -- for this text's walks alone
set_option linter.unusedVariables false
set_option linter.unusedSimpArgs false
end Go.Proofs.Ytigpmfoagkhaeaa.PU

namespace Go.Proofs.Ytigpmfoagkhaeaa.Fr
open Go.RowKit Go.Proofs.Ytigpmfoagkhaeaa.PU Go.Proofs.Ytigpmfoagkhaeaa.Qh Go.Proofs.YtigpmfoagkhaeaaW.PrintWords Go.Proofs.YtigpmfoagkhaeaaW.PrintMore
set_option linter.unusedVariables false
set_option linter.unusedSimpArgs false
def FracP (u d : Int) : Prop := -1000000000 ≤ u ∧ u ≤ 1000000000 ∧ 1 ≤ d ∧ d ≤ 1000000000 ∧ Int.gcd u d = 1
instance (u d : Int) : Decidable (FracP u d) := by unfold FracP; infer_instance
theorem gcd_tmod (a b : Int) : Int.gcd b (Int.tmod a b) = Int.gcd a b := by
  unfold Int.gcd
  rw [Int.natAbs_tmod, Nat.gcd_comm b.natAbs, ← Nat.gcd_rec b.natAbs a.natAbs, Nat.gcd_comm]
theorem tmod_lt (a b : Int) (hb : b ≠ 0) : (Int.tmod a b).natAbs < b.natAbs := by
  rw [Int.natAbs_tmod]; exact Nat.mod_lt _ (by omega)
theorem igcd_l : ∀ (n : Nat) (a b : Int), b.natAbs ≤ n → a.natAbs ≤ 9223372036854775807 → b.natAbs ≤ 9223372036854775807 → Ev (fun k => impl_gcd.l0 k a b) ((Int.gcd a b : Nat) : Int) := by
  intro n
  induction n with
  | zero =>
    intro a b hn ha hb
    obtain rfl : b = 0 := by omega
    refine Ev.step (fun k => by rw [impl_gcd.l0]) ?_
    refine evPos rfl ?_
    have e : mx a (wrap64 (-a)) = ((Int.gcd a 0 : Nat) : Int) := by
      rw [w64 (by omega) (by omega), Int.gcd_zero_right]
      unfold mx
      split <;> omega
    rw [e]
    exact Ev.now _
  | succ n ih =>
    intro a b hn ha hb
    by_cases h0 : b = 0
    · exact ih a b (by omega) ha hb
    · refine Ev.step (fun k => by rw [impl_gcd.l0]) ?_
      refine evNeg h0 ?_
      have hlt := tmod_lt a b h0
      rw [← gcd_tmod a b]
      exact ih b (Int.tmod a b) (by omega) hb (by omega)
theorem igcd (a b : Int) (ha : a.natAbs ≤ 9223372036854775807) (hb : b.natAbs ≤ 9223372036854775807) : Ev (fun k => impl_gcd.f k a b) ((Int.gcd a b : Nat) : Int) := by
  unfold impl_gcd.f
  exact igcd_l b.natAbs a b (Nat.le_refl _) ha hb
theorem isFrac (u d : Int) : EvB (fun k => impl_isFrac.f k u d) (FracP u d) := by
  unfold impl_isFrac.f
  by_cases h1 : u ≥ -1000000000
  · by_cases h2 : u ≤ 1000000000
    · refine EvB.bind0 (a := true) (by unfold impl_isNumber.f; rw [if_pos h1]; simp [h2]) (EvB.pos rfl ?_)
      by_cases h3 : d ≥ 1
      · refine EvB.pos h3 ?_
        by_cases h4 : d ≤ 1000000000
        · refine EvB.pos h4 (EvB.bind (igcd u d (by omega) (by omega)) ⟨_, ?_, Ev.now _⟩)
          unfold FracP
          constructor
          · intro h; have := beq_iff_eq.mp h; exact ⟨h1, h2, h3, h4, by omega⟩
          · intro h; exact beq_iff_eq.mpr (by have := h.2.2.2.2; omega)
        · exact EvB.neg h4 (EvB.ff (fun h => h4 h.2.2.2.1))
      · exact EvB.neg h3 (EvB.ff (fun h => h3 h.2.2.1))
    · refine EvB.bind0 (a := false) (by unfold impl_isNumber.f; rw [if_pos h1]; simp [h2]) (EvB.neg (by decide) (EvB.ff (fun h => h2 h.2.1)))
  · refine EvB.bind0 (a := false) (by unfold impl_isNumber.f; rw [if_neg h1]) (EvB.neg (by decide) (EvB.ff (fun h => h1 h.1)))
def low (up down : Int) : Int × Int × Bool :=
  if FracP (Int.tdiv up (Int.gcd up down : Nat)) (Int.tdiv down (Int.gcd up down : Nat)) then (Int.tdiv up (Int.gcd up down : Nat), Int.tdiv down (Int.gcd up down : Nat), true) else (0, 0, false)
theorem gcd_pos {up down : Int} (hd : 0 < down) : 0 < Int.gcd up down := Nat.pos_of_ne_zero (fun h => by have := (Int.gcd_eq_zero_iff.mp h).2; omega)
theorem tdiv_natAbs (a : Int) (g : Nat) : (Int.tdiv a (g : Int)).natAbs ≤ a.natAbs := by
  rw [Int.natAbs_tdiv]; exact Nat.div_le_self _ _
theorem ilowest (up down : Int) (hd : 0 < down) (h1 : up.natAbs ≤ 4611686018427387904) (h2 : down.natAbs ≤ 4611686018427387904) : Ev (fun k => impl_lowest.f k up down) (low up down) := by
  unfold impl_lowest.f
  refine Ev.bind (igcd up down (by omega) (by omega)) ?_
  have hg := gcd_pos (up := up) hd
  have a1 := tdiv_natAbs up (Int.gcd up down)
  have a2 := tdiv_natAbs down (Int.gcd up down)
  have w1 : wrap64 (Int.tdiv up (Int.gcd up down : Nat)) = Int.tdiv up (Int.gcd up down : Nat) := w64 (by omega) (by omega)
  have w2 : wrap64 (Int.tdiv down (Int.gcd up down : Nat)) = Int.tdiv down (Int.gcd up down : Nat) := w64 (by omega) (by omega)
  refine evNeg (by omega) (evNeg (by omega) ?_)
  rw [w1, w2]
  obtain ⟨b, hb, he⟩ := isFrac (Int.tdiv up (Int.gcd up down : Nat)) (Int.tdiv down (Int.gcd up down : Nat))
  refine Ev.bind he ?_
  unfold low
  by_cases h : FracP (Int.tdiv up (Int.gcd up down : Nat)) (Int.tdiv down (Int.gcd up down : Nat))
  · rw [if_pos h]; exact evPos (hb.2 h) (Ev.now _)
  · rw [if_neg h]; exact evNeg (fun e => h (hb.1 e)) (Ev.now _)
theorem low_val {up down p q : Int} (hd : 0 < down) (h : low up down = (p, q, true)) : FracP p q ∧ p * down = up * q := by
  unfold low at h
  split at h
  case isTrue hf =>
    simp only [Prod.mk.injEq, and_true] at h
    obtain ⟨rfl, rfl⟩ := h
    refine ⟨hf, ?_⟩
    have hg := gcd_pos (up := up) hd
    obtain ⟨s, hs⟩ : ((Int.gcd up down : Nat) : Int) ∣ up := Int.gcd_dvd_left ..
    obtain ⟨t, ht⟩ : ((Int.gcd up down : Nat) : Int) ∣ down := Int.gcd_dvd_right ..
    have hgi : ((Int.gcd up down : Nat) : Int) ≠ 0 := by omega
    have e1 : Int.tdiv up (Int.gcd up down : Nat) = s := by
      conv => lhs; arg 1; rw [hs]
      exact Int.mul_tdiv_cancel_left s hgi
    have e2 : Int.tdiv down (Int.gcd up down : Nat) = t := by
      conv => lhs; arg 1; rw [ht]
      exact Int.mul_tdiv_cancel_left t hgi
    rw [e1, e2]
    generalize ((Int.gcd up down : Nat) : Int) = g at hs ht
    subst hs; subst ht
    ac_rfl
  case isFalse => simp at h
theorem low_of {up down p q : Int} (hd : 0 < down) (hf : FracP p q) (e : p * down = up * q) : low up down = (p, q, true) := by
  have hq : 0 < q := by have := hf.2.2.1; omega
  have hdv : q ∣ down := by
    have h1 : q ∣ p * down := ⟨up, by rw [e, Int.mul_comm]⟩
    have h2 : q.natAbs ∣ p.natAbs * down.natAbs := by rw [← Int.natAbs_mul]; exact Int.natAbs_dvd_natAbs.mpr h1
    have hc : Nat.Coprime q.natAbs p.natAbs := by rw [Nat.coprime_comm]; exact hf.2.2.2.2
    exact Int.natAbs_dvd_natAbs.mp (Nat.Coprime.dvd_of_dvd_mul_left hc h2)
  obtain ⟨t, rfl⟩ := hdv
  have ht : 0 < t := by
    rcases Int.lt_or_le 0 t with h | h
    · exact h
    · have := Int.mul_nonpos_of_nonneg_of_nonpos (by omega : 0 ≤ q) h; omega
  have hu : up = p * t := by
    have : up * q = p * t * q := by rw [← e, Int.mul_comm q t, Int.mul_assoc]
    exact Int.eq_of_mul_eq_mul_right (by omega) this
  subst hu
  have hg : ((Int.gcd (p * t) (q * t) : Nat) : Int) = t := by
    rw [Int.gcd_mul_right, hf.2.2.2.2]; omega
  have h1 : Int.tdiv (p * t) (Int.gcd (p * t) (q * t) : Nat) = p := by rw [hg]; exact Int.mul_tdiv_cancel p (by omega)
  have h2 : Int.tdiv (q * t) (Int.gcd (p * t) (q * t) : Nat) = q := by rw [hg]; exact Int.mul_tdiv_cancel q (by omega)
  unfold low
  rw [h1, h2, if_pos hf]
end Go.Proofs.Ytigpmfoagkhaeaa.Fr

namespace Go.Proofs.Ytigpmfoagkhaeaa.PU
open Go.RowKit Go.Proofs.YtigpmfoagkhaeaaW.PrintWords Go.Proofs.YtigpmfoagkhaeaaW.PrintLast Go.Proofs.YtigpmfoagkhaeaaW.PrintMore Go.Proofs.Ytigpmfoagkhaeaa.Qd
attribute [local go_sem] max2_int min2_int max_two min_two max_three min_three max_four min_four   -- for this text's walks alone
set_option linter.unusedVariables false
set_option linter.unusedSimpArgs false
end Go.Proofs.Ytigpmfoagkhaeaa.PU

namespace Go.Proofs.Ytigpmfoagkhaeaa.PU
open Go.RowKit Go.Proofs.YtigpmfoagkhaeaaW.PrintWords Go.Proofs.YtigpmfoagkhaeaaW.PrintLast Go.Proofs.YtigpmfoagkhaeaaW.PrintMore Go.Proofs.Ytigpmfoagkhaeaa.Qd
attribute [local go_sem] max2_int min2_int max_two min_two max_three min_three max_four min_four   -- for this text's walks alone
set_option linter.unusedVariables false
set_option linter.unusedSimpArgs false
end Go.Proofs.Ytigpmfoagkhaeaa.PU

namespace Go.Proofs.Ytigpmfoagkhaeaa.PU
open Go.RowKit Go.Proofs.YtigpmfoagkhaeaaW.PrintWords Go.Proofs.YtigpmfoagkhaeaaW.PrintLast Go.Proofs.YtigpmfoagkhaeaaW.PrintMore Go.Proofs.Ytigpmfoagkhaeaa.Qd
attribute [local go_sem] max2_int min2_int max_two min_two max_three min_three max_four min_four   -- for this text's walks alone
set_option linter.unusedVariables false
set_option linter.unusedSimpArgs false
end Go.Proofs.Ytigpmfoagkhaeaa.PU

namespace Go.Proofs.Ytigpmfoagkhaeaa.Py
open Go.RowKit Go.Proofs.Ytigpmfoagkhaeaa.PU Go.Proofs.Ytigpmfoagkhaeaa.Qh Go.Proofs.Ytigpmfoagkhaeaa.Bk Go.Proofs.Ytigpmfoagkhaeaa.Ow Go.Proofs.Ytigpmfoagkhaeaa.Fr Go.Proofs.YtigpmfoagkhaeaaW.PrintWords Go.Proofs.YtigpmfoagkhaeaaW.PrintMore
set_option linter.unusedVariables false
set_option linter.unusedSimpArgs false
abbrev fu (ps : List S36) (i : Nat) : Int := (rd_T36 ps (i : Int)).f0
abbrev fd (ps : List S36) (i : Nat) : Int := (rd_T36 ps (i : Int)).f1
def PayP (c : List Int) (d : List (List Int)) (ps : List S36) (i : Nat) : Prop := FracP (fu ps i) (fd ps i) ∧ 0 ≤ fu ps i ∧ fu ps i ≤ ow c d i * fd ps i
def PaysP (c : List Int) (d : List (List Int)) (ps : List S36) : Prop := BookP c d ∧ ps.length = c.length ∧ ∀ i : Nat, i < c.length → PayP c d ps i
theorem mul_bd {a b : Int} {m n : Nat} (ha : a.natAbs ≤ m) (hb : b.natAbs ≤ n) : (a * b).natAbs ≤ m * n := by
  rw [Int.natAbs_mul]; exact Nat.mul_le_mul ha hb
theorem wmul {a b : Int} (m n : Nat) (ha : a.natAbs ≤ m) (hb : b.natAbs ≤ n) (h : m * n ≤ 9223372036854775807) : wrap64 (a * b) = a * b := by
  have := mul_bd ha hb
  exact w64 (by omega) (by omega)
theorem cmp (x y : Int) : cmp_Compare_int.f x y = some (if x < y then -1 else if x > y then 1 else 0) := by
  unfold cmp_Compare_int.f cmp_isNaN_int.f
  simp only [bne_self_eq_false, Option.bind_some, Bool.false_eq_true, if_false]
  by_cases h : x < y
  · simp [h]
  · by_cases h2 : x > y
    · simp [h, h2]
    · simp [h, h2]
theorem icmp {a b p q : Int} (ha : FracP a b) (hp : p.natAbs ≤ 1000000000) (hq : q.natAbs ≤ 1000000000) : impl_compare.f a b p q = some (if a * q < p * b then -1 else if a * q > p * b then 1 else 0) := by
  have h1 := ha.1; have h2 := ha.2.1; have h3 := ha.2.2.1; have h4 := ha.2.2.2.1
  unfold impl_compare.f
  rw [wmul 1000000000 1000000000 (by omega) (by omega) (by omega), wmul 1000000000 1000000000 (by omega) (by omega) (by omega), cmp]
  rfl
theorem whole_ok {n : Int} (h0 : 0 ≤ n) (h1 : n ≤ 1000000000) : FracP n 1 := ⟨by omega, by omega, by omega, by omega, by simp⟩
theorem cmp_gt (x y : Int) : ((if x < y then (-1 : Int) else if x > y then 1 else 0) > 0) ↔ x > y := by
  by_cases h : x < y
  · rw [if_pos h]; omega
  · rw [if_neg h]
    by_cases h2 : x > y
    · rw [if_pos h2]; omega
    · rw [if_neg h2]; omega
theorem ip_l0 {c : List Int} {d : List (List Int)} (h : BookP c d) (ps : List S36) (hp : ps.length = c.length) : ∀ (e i : Nat), c.length - i = e → i ≤ c.length →
    EvB (fun k => impl_arePays.l0 k ps (owes c d) ((owes c d).length : Int) (i : Int)) (∀ i' : Nat, i ≤ i' → i' < c.length → PayP c d ps i') := by
  have h4 := h.2.1
  have hol := owes_len c d
  intro e
  induction e with
  | zero =>
    intro i he hi
    refine EvB.step (fun k => by rw [impl_arePays.l0]) ?_
    exact EvB.neg (by omega) (EvB.tt (fun i' h1 h2 => by omega))
  | succ e ih =>
    intro i he hi
    have hlt : i < c.length := by omega
    have hs : wrap64 ((i : Int) + 1) = ((i + 1 : Nat) : Int) := wsucc hlt (by omega)
    have hob := ow_bd h hlt
    refine EvB.step (fun k => by rw [impl_arePays.l0]) ?_
    refine EvB.pos (by omega) (EvB.pos (by omega) (EvB.pos (by omega) (EvB.pos (by omega) ?_)))
    obtain ⟨b, hb, hbe⟩ := isFrac (fu ps i) (fd ps i)
    refine EvB.bind hbe ?_
    by_cases h1 : FracP (fu ps i) (fd ps i)
    · refine EvB.pos (hb.2 h1) ?_
      by_cases h2 : fu ps i < 0
      · exact EvB.pos h2 (EvB.ff (fun h => by have := (h i (Nat.le_refl _) hlt).2.1; omega))
      · refine EvB.neg h2 ?_
        rw [rd_owes hlt]
        refine EvB.bind0 (a := (ow c d i, 1)) rfl ?_
        refine EvB.bind0 (icmp (p := ow c d i) (q := 1) h1 (by omega) (by decide)) ?_
        rw [hs]
        by_cases h3 : fu ps i * 1 > ow c d i * fd ps i
        · exact EvB.pos ((cmp_gt _ _).2 h3) (EvB.ff (fun h => by have := (h i (Nat.le_refl _) hlt).2.2; omega))
        · refine EvB.neg (fun h' => h3 ((cmp_gt _ _).1 h')) ?_
          refine (ih (i + 1) (by omega) (by omega)).congr ⟨fun h' i' h5 h6 => ?_, fun h' i' h5 h6 => h' i' (by omega) h6⟩
          by_cases e' : i' = i
          · subst e'; exact ⟨h1, by omega, by omega⟩
          · exact h' i' (by omega) h6
    · exact EvB.neg (fun h' => h1 (hb.1 h')) (EvB.ff (fun h => h1 (h i (Nat.le_refl _) hlt).1))
theorem arePays (c : List Int) (d : List (List Int)) (ps : List S36) : EvB (fun k => impl_arePays.f k c d ps) (PaysP c d ps) := by
  unfold impl_arePays.f
  obtain ⟨b, hb, hbe⟩ := isBook c d
  refine EvB.bind hbe ?_
  by_cases h : BookP c d
  · refine EvB.pos (hb.2 h) (EvB.step (fun k => by rw [impl_arePays.j0]) ?_)
    by_cases hp : ps.length = c.length
    · refine EvB.neg (by rw [hp]; simp) (EvB.bind (iowes h) ?_)
      exact (ip_l0 h ps hp _ 0 rfl (by omega)).congr ⟨fun h' => ⟨h, hp, fun i hi => h' i (by omega) hi⟩, fun h' i _ hi => h'.2.2 i hi⟩
    · exact EvB.pos (bne_iff_ne.mpr (by omega)) (EvB.ff (fun h' => hp h'.2.1))
  · refine EvB.neg (fun h' => h (hb.1 h')) (EvB.step (fun k => by rw [impl_arePays.j0]) ?_)
    exact EvB.pos rfl (EvB.ff (fun h' => h h'.1))
end Go.Proofs.Ytigpmfoagkhaeaa.Py

namespace Go.Proofs.Ytigpmfoagkhaeaa.PU
open Go.RowKit Go.Proofs.YtigpmfoagkhaeaaW.PrintWords Go.Proofs.YtigpmfoagkhaeaaW.PrintLast Go.Proofs.YtigpmfoagkhaeaaW.PrintMore Go.Proofs.Ytigpmfoagkhaeaa.Qd
attribute [local go_sem] max2_int min2_int max_two min_two max_three min_three max_four min_four   -- for this text's walks alone
set_option linter.unusedVariables false
set_option linter.unusedSimpArgs false
end Go.Proofs.Ytigpmfoagkhaeaa.PU

namespace Go.Proofs.Ytigpmfoagkhaeaa.PU
open Go.RowKit Go.Proofs.YtigpmfoagkhaeaaW.PrintWords Go.Proofs.YtigpmfoagkhaeaaW.PrintLast Go.Proofs.YtigpmfoagkhaeaaW.PrintMore Go.Proofs.Ytigpmfoagkhaeaa.Qd
attribute [local go_sem] max2_int min2_int max_two min_two max_three min_three max_four min_four   -- for this text's walks alone
set_option linter.unusedVariables false
set_option linter.unusedSimpArgs false
end Go.Proofs.Ytigpmfoagkhaeaa.PU

namespace Go.Proofs.Ytigpmfoagkhaeaa.Np
open Go.RowKit Go.Proofs.Ytigpmfoagkhaeaa.PU Go.Proofs.Ytigpmfoagkhaeaa.Qh Go.Proofs.Ytigpmfoagkhaeaa.Bk Go.Proofs.Ytigpmfoagkhaeaa.Ow Go.Proofs.Ytigpmfoagkhaeaa.Fr Go.Proofs.Ytigpmfoagkhaeaa.Py Go.Proofs.YtigpmfoagkhaeaaW.PrintWords Go.Proofs.YtigpmfoagkhaeaaW.PrintMore
set_option linter.unusedVariables false
set_option linter.unusedSimpArgs false
abbrev F := S36
def none_ (n : Nat) : List F := List.replicate n (⟨0, 1⟩ : F)
theorem rF (xs : List F) (i : Nat) : rd_T36 xs (i : Int) = xs.getD i z36 := rfl
theorem none_get {n i : Nat} (h : i < n) : rd_T36 (none_ n) (i : Int) = (⟨0, 1⟩ : F) := by
  rw [rF, List.getD_eq_getElem?_getD, none_, List.getElem?_replicate, if_pos h]; rfl
theorem none_ok {c : List Int} {d : List (List Int)} (h : BookP c d) : PaysP c d (none_ c.length) := by
  refine ⟨h, by simp [none_], fun i hi => ?_⟩
  have ho := ow_bd h hi
  unfold PayP fu fd
  rw [none_get hi]
  exact ⟨whole_ok (n := 0) (by omega) (by omega), by show (0 : Int) ≤ 0; omega, by show (0 : Int) ≤ ow c d i * 1; omega⟩
theorem inone_l (n : Nat) (hn : n ≤ 4) : ∀ (e i : Nat), n - i = e → i ≤ n → Ev (fun k => impl_nonePaid.l0 k (none_ i) (n : Int) (i : Int)) (none_ n) := by
  intro e
  induction e with
  | zero =>
    intro i he hi
    obtain rfl : i = n := by omega
    refine Ev.step (fun k => by rw [impl_nonePaid.l0]) ?_
    exact evNeg (by omega) (Ev.now _)
  | succ e ih =>
    intro i he hi
    have hlt : i < n := by omega
    have hs : Aside0 (wrap64 ((i : Int) + 1) = ((i + 1 : Nat) : Int)) := ⟨wsucc hlt (by omega)⟩
    have hl : (none_ i).length = i := by simp [none_]
    refine Ev.step (fun k => by rw [impl_nonePaid.l0]) ?_
    refine evPos (by omega) (evBind0 (a := (0, 1)) rfl (evPos (by omega) ?_))
    rw [hs.out]
    have := ih (i + 1) (by omega) (by omega)
    rwa [none_, List.replicate_succ'] at this
theorem inone (c : List Int) (d : List (List Int)) : Ev (fun k => impl_NonePaid.f k c d) (@ite _ (BookP c d) (Classical.propDecidable _) (none_ c.length) []) := by
  unfold impl_NonePaid.f
  by_cases h : BookP c d
  · have h4 := h.2.1
    refine Ev.bind ((isBook c d).yes h) (evPos rfl (Ev.bind (a := none_ c.length) ?_ ?_))
    · unfold impl_nonePaid.f
      exact inone_l c.length h4 _ 0 rfl (by omega)
    · rw [if_pos h]; exact Ev.now _
  · refine Ev.bind ((isBook c d).no h) (evNeg (by decide) ?_)
    rw [if_neg h]; exact Ev.now _
end Go.Proofs.Ytigpmfoagkhaeaa.Np

namespace Go.Proofs.Ytigpmfoagkhaeaa.Sp
open Go.RowKit Go.Proofs.Ytigpmfoagkhaeaa.PU Go.Proofs.Ytigpmfoagkhaeaa.Qh Go.Proofs.Ytigpmfoagkhaeaa.Bk Go.Proofs.Ytigpmfoagkhaeaa.Ow Go.Proofs.Ytigpmfoagkhaeaa.Fr Go.Proofs.Ytigpmfoagkhaeaa.Py Go.Proofs.YtigpmfoagkhaeaaW.PrintWords Go.Proofs.YtigpmfoagkhaeaaW.PrintMore
set_option linter.unusedVariables false
set_option linter.unusedSimpArgs false
abbrev F := S36
theorem same_l (l : List F) (hl : l.length ≤ 4611686018427387904) : ∀ (e i : Nat), l.length - i = e → i ≤ l.length → Ev (fun k => laws_samePays.l0 k l l (i : Int)) true := by
  intro e
  induction e with
  | zero =>
    intro i he hi
    refine Ev.step (fun k => by rw [laws_samePays.l0]) ?_
    exact evNeg (by omega) (Ev.now _)
  | succ e ih =>
    intro i he hi
    have hlt : i < l.length := by omega
    have hs : wrap64 ((i : Int) + 1) = ((i + 1 : Nat) : Int) := wsucc hlt hl
    refine Ev.step (fun k => by rw [laws_samePays.l0]) ?_
    refine evPos (by omega) (evPos (by omega) (evPos (by omega) (evNeg (by simp) ?_)))
    rw [hs]
    exact ih (i + 1) (by omega) (by omega)
theorem same (l : List F) (hl : l.length ≤ 4611686018427387904) : Ev (fun k => laws_samePays.f k l l) true := by
  unfold laws_samePays.f
  exact evPos rfl (same_l l hl _ 0 rfl (by omega))
theorem isOk (c : List Int) (d : List (List Int)) : EvB (fun k => impl_BookOk.f k c d) (BookP c d) := by
  unfold impl_BookOk.f
  obtain ⟨b, hb, hbe⟩ := isBook c d
  exact EvB.bind hbe ⟨b, hb, Ev.now _⟩
end Go.Proofs.Ytigpmfoagkhaeaa.Sp

namespace Go.Proofs.Ytigpmfoagkhaeaa.PU
open Go.RowKit Go.Proofs.YtigpmfoagkhaeaaW.PrintWords Go.Proofs.YtigpmfoagkhaeaaW.PrintLast Go.Proofs.YtigpmfoagkhaeaaW.PrintMore Go.Proofs.Ytigpmfoagkhaeaa.Qd
attribute [local go_sem] max2_int min2_int max_two min_two max_three min_three max_four min_four   -- for this text's walks alone
set_option linter.unusedVariables false
set_option linter.unusedSimpArgs false
end Go.Proofs.Ytigpmfoagkhaeaa.PU

namespace Go.Proofs.Ytigpmfoagkhaeaa.PU
open Go.RowKit Go.Proofs.YtigpmfoagkhaeaaW.PrintWords Go.Proofs.YtigpmfoagkhaeaaW.PrintLast Go.Proofs.YtigpmfoagkhaeaaW.PrintMore Go.Proofs.Ytigpmfoagkhaeaa.Qd
attribute [local go_sem] max2_int min2_int max_two min_two max_three min_three max_four min_four   -- for this text's walks alone
set_option linter.unusedVariables false
set_option linter.unusedSimpArgs false
end Go.Proofs.Ytigpmfoagkhaeaa.PU

namespace Go.Proofs.Ytigpmfoagkhaeaa.PU
open Go.RowKit Go.Proofs.YtigpmfoagkhaeaaW.PrintWords Go.Proofs.YtigpmfoagkhaeaaW.PrintLast Go.Proofs.YtigpmfoagkhaeaaW.PrintMore Go.Proofs.Ytigpmfoagkhaeaa.Qd
attribute [local go_sem] max2_int min2_int max_two min_two max_three min_three max_four min_four   -- for this text's walks alone
set_option linter.unusedVariables false
set_option linter.unusedSimpArgs false
end Go.Proofs.Ytigpmfoagkhaeaa.PU

namespace Go.Proofs.Ytigpmfoagkhaeaa.Gt
open Go.RowKit Go.Proofs.Ytigpmfoagkhaeaa.PU Go.Proofs.Ytigpmfoagkhaeaa.Qh Go.Proofs.Ytigpmfoagkhaeaa.Bk Go.Proofs.Ytigpmfoagkhaeaa.Ow Go.Proofs.Ytigpmfoagkhaeaa.Fr Go.Proofs.Ytigpmfoagkhaeaa.Py Go.Proofs.YtigpmfoagkhaeaaW.PrintWords Go.Proofs.YtigpmfoagkhaeaaW.PrintMore
set_option linter.unusedVariables false
set_option linter.unusedSimpArgs false
def plusL (a b p q : Int) : Int × Int × Bool := low (a * q + p * b) (b * q)
def timesL (a b p q : Int) : Int × Int × Bool := low (a * p) (b * q)
theorem mpos {b q : Int} (hb : 1 ≤ b) (hq : 1 ≤ q) : 0 < b * q := Int.mul_pos (by omega) (by omega)
theorem iplus {a b p q : Int} (h : FracP a b) (k : FracP p q) : Ev (fun n => impl_plus.f n a b p q) (plusL a b p q) := by
  have h1 := h.1; have h2 := h.2.1; have h3 := h.2.2.1; have h4 := h.2.2.2.1
  have k1 := k.1; have k2 := k.2.1; have k3 := k.2.2.1; have k4 := k.2.2.2.1
  have m1 := mul_bd (a := a) (b := q) (m := 1000000000) (n := 1000000000) (by omega) (by omega)
  have m2 := mul_bd (a := p) (b := b) (m := 1000000000) (n := 1000000000) (by omega) (by omega)
  have m3 := mul_bd (a := b) (b := q) (m := 1000000000) (n := 1000000000) (by omega) (by omega)
  have mp := mpos h3 k3
  unfold impl_plus.f plusL
  rw [w64 (n := a * q) (by omega) (by omega), w64 (n := p * b) (by omega) (by omega), w64 (n := b * q) (by omega) (by omega), w64 (by omega) (by omega)]
  exact Ev.bind (ilowest _ _ mp (by omega) (by omega)) (Ev.now _)
theorem itimes {a b p q : Int} (h : FracP a b) (k : FracP p q) : Ev (fun n => impl_times.f n a b p q) (timesL a b p q) := by
  have h1 := h.1; have h2 := h.2.1; have h3 := h.2.2.1; have h4 := h.2.2.2.1
  have k1 := k.1; have k2 := k.2.1; have k3 := k.2.2.1; have k4 := k.2.2.2.1
  have m1 := mul_bd (a := a) (b := p) (m := 1000000000) (n := 1000000000) (by omega) (by omega)
  have m3 := mul_bd (a := b) (b := q) (m := 1000000000) (n := 1000000000) (by omega) (by omega)
  have mp := mpos h3 k3
  unfold impl_times.f timesL
  rw [w64 (n := a * p) (by omega) (by omega), w64 (n := b * q) (by omega) (by omega)]
  exact Ev.bind (ilowest _ _ mp (by omega) (by omega)) (Ev.now _)
theorem low_fits {x y : Int} (hx : -1000000000 ≤ x ∧ x ≤ 1000000000) (hy : 0 < y) (hy2 : y ≤ 1000000000) : ∃ p q, low x y = (p, q, true) ∧ FracP p q ∧ q ≤ y := by
  have hg := gcd_pos (up := x) hy
  obtain ⟨s, hs⟩ : ((Int.gcd x y : Nat) : Int) ∣ x := Int.gcd_dvd_left ..
  obtain ⟨t, ht⟩ : ((Int.gcd x y : Nat) : Int) ∣ y := Int.gcd_dvd_right ..
  have hgi : ((Int.gcd x y : Nat) : Int) ≠ 0 := by omega
  have e1 : Int.tdiv x (Int.gcd x y : Nat) = s := by
    conv => lhs; arg 1; rw [hs]
    exact Int.mul_tdiv_cancel_left s hgi
  have e2 : Int.tdiv y (Int.gcd x y : Nat) = t := by
    conv => lhs; arg 1; rw [ht]
    exact Int.mul_tdiv_cancel_left t hgi
  have b1 := tdiv_natAbs x (Int.gcd x y)
  have b2 := tdiv_natAbs y (Int.gcd x y)
  rw [e1] at b1
  rw [e2] at b2
  have ht0 : 0 < t := by
    rcases Int.lt_or_le 0 t with h | h
    · exact h
    · have := Int.mul_nonpos_of_nonneg_of_nonpos (a := ((Int.gcd x y : Nat) : Int)) (by omega) h; omega
  have hgst : Int.gcd s t = 1 := by
    have h1 := Int.gcd_mul_left ((Int.gcd x y : Nat) : Int) s t
    rw [← hs, ← ht] at h1
    have h2 : Int.gcd x y * 1 = Int.gcd x y * Int.gcd s t := by simpa using h1
    exact (Nat.eq_of_mul_eq_mul_left hg h2).symm
  have hf : FracP s t := ⟨by omega, by omega, by omega, by omega, hgst⟩
  refine ⟨s, t, ?_, hf, by omega⟩
  unfold low
  rw [e1, e2, if_pos hf]
end Go.Proofs.Ytigpmfoagkhaeaa.Gt

namespace Go.Proofs.Ytigpmfoagkhaeaa.PU
open Go.RowKit Go.Proofs.YtigpmfoagkhaeaaW.PrintWords Go.Proofs.YtigpmfoagkhaeaaW.PrintLast Go.Proofs.YtigpmfoagkhaeaaW.PrintMore Go.Proofs.Ytigpmfoagkhaeaa.Qd
attribute [local go_sem] max2_int min2_int max_two min_two max_three min_three max_four min_four   -- for this text's walks alone
set_option linter.unusedVariables false
set_option linter.unusedSimpArgs false
end Go.Proofs.Ytigpmfoagkhaeaa.PU

namespace Go.Proofs.Ytigpmfoagkhaeaa.Gv
open Go.RowKit Go.Proofs.Ytigpmfoagkhaeaa.PU Go.Proofs.Ytigpmfoagkhaeaa.Qh Go.Proofs.Ytigpmfoagkhaeaa.Bk Go.Proofs.Ytigpmfoagkhaeaa.Ow Go.Proofs.Ytigpmfoagkhaeaa.Fr Go.Proofs.Ytigpmfoagkhaeaa.Py Go.Proofs.Ytigpmfoagkhaeaa.Gt Go.Proofs.YtigpmfoagkhaeaaW.PrintWords Go.Proofs.YtigpmfoagkhaeaaW.PrintMore
set_option linter.unusedVariables false
set_option linter.unusedSimpArgs false
abbrev F := S36
section
variable (c : List Int) (d : List (List Int)) (ps : List F)
def pt (i k : Nat) : Int × Int × Bool := low (rd (rd_L2 d (k : Int)) (i : Int)) (ow c d k)
def tm (i k : Nat) : Int × Int × Bool := timesL (fu ps k) (fd ps k) (pt c d i k).1 (pt c d i k).2.1
def acc (i : Nat) : Nat → Nat → Int → Int → Option (Int × Int)
  | 0, _, a, b => some (a, b)
  | m + 1, k, a, b => if ow c d k = 0 then acc i m (k + 1) a b else if (plusL a b (tm c d ps i k).1 (tm c d ps i k).2.1).2.2 = true then acc i m (k + 1) (plusL a b (tm c d ps i k).1 (tm c d ps i k).2.1).1 (plusL a b (tm c d ps i k).1 (tm c d ps i k).2.1).2.1 else none
def gv : Nat → Nat → List F → List F × Bool
  | 0, _, out => (out, true)
  | m + 1, i, out => match acc c d ps i c.length 0 (rd c (i : Int)) 1 with
    | some r => gv m (i + 1) (out ++ [(⟨r.1, r.2⟩ : F)])
    | none => ([], false)
def getsV : List F × Bool := gv c d ps c.length 0 []
def Fits : Prop := ∀ i k : Nat, i < c.length → k < c.length → ow c d k ≠ 0 → (tm c d ps i k).2.2 = true
end
variable {c : List Int} {d : List (List Int)} {ps : List F}
theorem low_true {up down : Int} (hd : 0 < down) (h : (low up down).2.2 = true) : FracP (low up down).1 (low up down).2.1 := by
  have e : low up down = ((low up down).1, (low up down).2.1, true) := by rw [← h]
  exact (low_val hd e).1
theorem pt_ok (h : BookP c d) {i k : Nat} (hi : i < c.length) (hk : k < c.length) (h0 : ow c d k ≠ 0) : (pt c d i k).2.2 = true ∧ FracP (pt c d i k).1 (pt c d i k).2.1 := by
  have ho := ow_bd h hk
  have hx := (h.2.2.2 k hk).2.2.2.2 i hi
  obtain ⟨p, q, e, hf, _⟩ := low_fits (x := rd (rd_L2 d (k : Int)) (i : Int)) (y := ow c d k) ⟨by omega, by omega⟩ (by omega) (by omega)
  unfold pt
  rw [e]
  exact ⟨rfl, hf⟩
theorem tm_ok (h : PaysP c d ps) (hfit : Fits c d ps) {i k : Nat} (hi : i < c.length) (hk : k < c.length) (h0 : ow c d k ≠ 0) : FracP (tm c d ps i k).1 (tm c d ps i k).2.1 := by
  have hp := (pt_ok h.1 hi hk h0).2
  have hy := (h.2.2 k hk).1
  exact low_true (mpos hy.2.2.1 hp.2.2.1) (hfit i k hi hk h0)
theorem plus_ok {a b p q : Int} (h : FracP a b) (k : FracP p q) (e : (plusL a b p q).2.2 = true) : FracP (plusL a b p q).1 (plusL a b p q).2.1 := low_true (mpos h.2.2.1 k.2.2.1) e
theorem one_ok {n : Int} (h0 : 0 ≤ n) (h1 : n ≤ 1000000000) : FracP n 1 := whole_ok h0 h1
theorem own (h : PaysP c d ps) {i : Nat} (hi : i < c.length) (h0 : ow c d i ≠ 0) {a b : Int} (hab : FracP a b) : plusL a b (tm c d ps i i).1 (tm c d ps i i).2.1 = (a, b, true) := by
  have ho := ow_bd h.1 hi
  have hz := (h.1.2.2.2 i hi).2.2.2.1
  have hy := (h.2.2 i hi).1
  have e1 : pt c d i i = (0, 1, true) := by
    unfold pt; rw [hz]
    exact low_of (by omega) (one_ok (by omega) (by omega)) (by omega)
  have e2 : tm c d ps i i = (0, 1, true) := by
    unfold tm timesL; rw [e1]
    exact low_of (by have := hy.2.2.1; show 0 < fd ps i * 1; omega) (one_ok (by omega) (by omega)) (by show 0 * (fd ps i * 1) = fu ps i * 0 * 1; omega)
  rw [e2]
  unfold plusL
  exact low_of (by have := hab.2.2.1; show 0 < b * 1; omega) hab (by show a * (b * 1) = (a * 1 + 0 * b) * b; rw [Int.mul_one, Int.mul_one, Int.zero_mul, Int.add_zero])
theorem ig_l1 (h : PaysP c d ps) (hfit : Fits c d ps) {i : Nat} (hi : i < c.length) (out : List F) (ho : out.length ≤ 4) {r : List F × Bool}
    (hR : ∀ a b : Int, acc c d ps i c.length 0 (rd c (i : Int)) 1 = some (a, b) → Ev (fun n => impl_gets.l0 n ps (owes c d) (out ++ [(⟨a, b⟩ : F)]) c (c.length : Int) ((i + 1 : Nat) : Int) c d) r)
    (hN : acc c d ps i c.length 0 (rd c (i : Int)) 1 = none → r = ([], false)) : ∀ (e k : Nat) (a b : Int), c.length - k = e → k ≤ c.length → FracP a b → acc c d ps i e k a b = acc c d ps i c.length 0 (rd c (i : Int)) 1 →
    Ev (fun n => impl_gets.l1 n ps (owes c d) out (i : Int) c (c.length : Int) (i : Int) d (d.length : Int) (k : Int) c d a b) r := by
  have h4 := h.1.2.1
  have hdl := h.1.2.2.1
  have hs : Aside0 (wrap64 ((i : Int) + 1) = ((i + 1 : Nat) : Int)) := ⟨wsucc hi (by omega)⟩
  have hol := owes_len c d
  intro e
  induction e with
  | zero =>
    intro k a b he hk hab hacc
    refine Ev.step (fun n => by rw [impl_gets.l1]) ?_
    rw [hs.out]
    refine evNeg (by omega) (evPos (by omega) (hR a b ?_))
    rw [← hacc]; rfl
  | succ e ih =>
    intro k a b he hk hab hacc
    have hlt : k < c.length := by omega
    have hk1 : Aside0 (wrap64 ((k : Int) + 1) = ((k + 1 : Nat) : Int)) := ⟨wsucc hlt (by omega)⟩
    refine Ev.step (fun n => by rw [impl_gets.l1]) ?_
    refine evPos (by omega) (evPos (by omega) (evPos (by omega) ?_))
    have skip : (acc c d ps i (e + 1) k a b = acc c d ps i e (k + 1) a b) → Ev (fun n => impl_gets.j2 n ps (owes c d) out (i : Int) (k : Int) (rd_L2 d (k : Int)) c (c.length : Int) (i : Int) d (d.length : Int) (k : Int) true c d a b) r := by
      intro hh
      refine Ev.step (fun n => by rw [impl_gets.j2]) ?_
      refine evPos rfl ?_
      rw [hk1.out]
      exact ih (k + 1) a b (by omega) (by omega) hab (by rw [← hh]; exact hacc)
    by_cases hki : (k : Int) = (i : Int)
    · refine evPos hki (skip ?_)
      obtain rfl : k = i := by omega
      simp only [acc]
      by_cases hz : ow c d k = 0
      · rw [if_pos hz]
      · rw [if_neg hz, own h hlt hz hab, if_pos rfl]
    · refine evNeg hki (evPos (by omega) ?_)
      rw [rd_owes hlt]
      by_cases hz : ow c d k = 0
      · have hb : (ow c d k == 0) = true := beq_iff_eq.mpr hz
        rw [hb]
        exact skip (by simp only [acc]; rw [if_pos hz])
      · have hb : (ow c d k == 0) = false := beq_eq_false_iff_ne.mpr hz
        rw [hb]
        have hrow := (h.1.2.2.2 k hlt)
        have hob := ow_bd h.1 hlt
        have hx := hrow.2.2.2.2 i hi
        have hrl := hrow.2.2.1
        refine Ev.step (fun n => by rw [impl_gets.j2]) ?_
        refine evNeg (by decide) (evPos (by omega) (evPos (by omega) (evPos (by omega) (evPos (by omega) ?_))))
        rw [rd_owes hlt]
        have hpt := pt_ok h.1 hi hlt hz
        have htm := tm_ok h hfit hi hlt hz
        have htt := hfit i k hi hlt hz
        refine Ev.bind (a := pt c d i k) (ilowest _ _ (by omega) (by omega) (by omega)) (evPos (by rw [h.2.1]; omega) ?_)
        refine Ev.bind (a := tm c d ps i k) (itimes (h.2.2 k hlt).1 hpt.2) ?_
        refine Ev.bind (a := plusL a b (tm c d ps i k).1 (tm c d ps i k).2.1) (iplus hab htm) ?_
        refine evPos htt ?_
        simp only [acc] at hacc
        rw [if_neg hz] at hacc
        rw [hk1.out]
        by_cases hp : (plusL a b (tm c d ps i k).1 (tm c d ps i k).2.1).2.2 = true
        · rw [if_pos hp] at hacc
          refine evPos hp ?_
          exact ih (k + 1) _ _ (by omega) (by omega) (plus_ok hab htm hp) hacc
        · rw [if_neg hp] at hacc
          refine evNeg hp (evEq (Ev.now _) (hN hacc.symm).symm)
theorem ig_l0 (h : PaysP c d ps) (hfit : Fits c d ps) : ∀ (e i : Nat) (out : List F), c.length - i = e → i ≤ c.length → out.length = i →
    Ev (fun n => impl_gets.l0 n ps (owes c d) out c (c.length : Int) (i : Int) c d) (gv c d ps e i out) := by
  have h4 := h.1.2.1
  intro e
  induction e with
  | zero =>
    intro i out he hi hout
    refine Ev.step (fun n => by rw [impl_gets.l0]) ?_
    exact evNeg (by omega) (Ev.now _)
  | succ e ih =>
    intro i out he hi hout
    have hlt : i < c.length := by omega
    have hc := h.1.2.2.2 i hlt
    refine Ev.step (fun n => by rw [impl_gets.l0]) ?_
    refine evPos (by omega) (evPos (by omega) (evPos (by omega) (evBind0 (a := (rd c (i : Int), 1)) rfl ?_)))
    refine ig_l1 h hfit hlt out (by omega) ?_ ?_ c.length 0 (rd c (i : Int)) 1 rfl (by omega) (one_ok hc.1 (by have := hc.2.1; omega)) rfl
    · intro a b hab
      have := ih (i + 1) (out ++ [(⟨a, b⟩ : F)]) (by omega) (by omega) (by rw [List.length_append, hout]; rfl)
      simp only [gv, hab]
      exact this
    · intro hn
      simp only [gv, hn]
theorem igets (h : PaysP c d ps) (hfit : Fits c d ps) : Ev (fun n => impl_gets.f n c d ps) (getsV c d ps) := by
  unfold impl_gets.f
  exact Ev.bind (iowes h.1) (ig_l0 h hfit c.length 0 [] rfl (by omega) rfl)
theorem igetsOf (h : PaysP c d ps) (hfit : Fits c d ps) : Ev (fun n => impl_GetsOf.f n c d ps) (getsV c d ps) := by
  unfold impl_GetsOf.f
  exact Ev.bind ((arePays c d ps).yes h) (evPos rfl (Ev.bind (igets h hfit) (Ev.now _)))
end Go.Proofs.Ytigpmfoagkhaeaa.Gv

namespace Go.Proofs.Ytigpmfoagkhaeaa.Vl
open Go.RowKit Go.Proofs.Ytigpmfoagkhaeaa.PU Go.Proofs.Ytigpmfoagkhaeaa.Qh Go.Proofs.Ytigpmfoagkhaeaa.Bk Go.Proofs.Ytigpmfoagkhaeaa.Ow Go.Proofs.Ytigpmfoagkhaeaa.Fr Go.Proofs.Ytigpmfoagkhaeaa.Py Go.Proofs.Ytigpmfoagkhaeaa.Gt Go.Proofs.Ytigpmfoagkhaeaa.Gv Go.Proofs.Ytigpmfoagkhaeaa.Np Go.Proofs.YtigpmfoagkhaeaaW.PrintWords Go.Proofs.YtigpmfoagkhaeaaW.PrintMore
set_option linter.unusedVariables false
set_option linter.unusedSimpArgs false
abbrev F := S36
variable {c : List Int} {d : List (List Int)} {ps : List F}
theorem rF (xs : List F) (i : Nat) : rd_T36 xs (i : Int) = xs.getD i z36 := rfl
end Go.Proofs.Ytigpmfoagkhaeaa.Vl

namespace Go.Proofs.Ytigpmfoagkhaeaa.Vf
open Go.RowKit Go.Proofs.Ytigpmfoagkhaeaa.PU Go.Proofs.Ytigpmfoagkhaeaa.Qh Go.Proofs.Ytigpmfoagkhaeaa.Bk Go.Proofs.Ytigpmfoagkhaeaa.Ow Go.Proofs.Ytigpmfoagkhaeaa.Fr Go.Proofs.Ytigpmfoagkhaeaa.Py Go.Proofs.Ytigpmfoagkhaeaa.Gt Go.Proofs.Ytigpmfoagkhaeaa.Gv Go.Proofs.Ytigpmfoagkhaeaa.Np Go.Proofs.Ytigpmfoagkhaeaa.Vl Go.Proofs.YtigpmfoagkhaeaaW.PrintWords Go.Proofs.YtigpmfoagkhaeaaW.PrintMore
set_option linter.unusedVariables false
set_option linter.unusedSimpArgs false
abbrev F := S36
variable {c : List Int} {d : List (List Int)} {ps : List F}
theorem fits_of (h : PaysP c d ps) (hM : ∀ k, k < c.length → fd ps k ≤ 3000000) : Fits c d ps := by
  intro i k hi hk h0
  have ho := ow_bd h.1 hk
  have hx := (h.1.2.2.2 k hk).2.2.2.2 i hi
  have hy := h.2.2 k hk
  have hf := hy.1
  have hfM := hM k hk
  have f3 := hf.2.2.1
  obtain ⟨p, q, e, hpf, hq⟩ := low_fits (x := rd (rd_L2 d (k : Int)) (i : Int)) (y := ow c d k) ⟨by omega, by omega⟩ (by omega) (by omega)
  have hv := (low_val (by omega) e).2
  have q1 := hpf.2.2.1
  have hp0 : 0 ≤ p := by
    rcases Int.lt_or_le p 0 with hn | hn
    · have h1 := Int.mul_lt_mul_of_pos_right hn (show 0 < ow c d k by omega)
      rw [Int.zero_mul, hv] at h1
      have h2 := Int.mul_nonneg hx.1 (show 0 ≤ q by omega)
      omega
    · exact hn
  have hp9 : p ≤ 9 := by
    rcases Int.lt_or_le 9 p with hn | hn
    · have h1 := Int.mul_lt_mul_of_pos_right hn (show 0 < ow c d k by omega)
      rw [hv] at h1
      have h2 := Int.mul_le_mul_of_nonneg_right hx.2 (show 0 ≤ q by omega)
      omega
    · exact hn
  have hu0 := hy.2.1
  have hu1 : fu ps k ≤ 36 * 3000000 := by
    have h1 := Int.mul_le_mul_of_nonneg_right (show ow c d k ≤ 36 by omega) (show 0 ≤ fd ps k by omega)
    have := hy.2.2
    omega
  have m0 := Int.mul_nonneg hu0 hp0
  have m1 : fu ps k * p ≤ fu ps k * 9 := Int.mul_le_mul_of_nonneg_left hp9 hu0
  have m2 : fd ps k * q ≤ fd ps k * 36 := Int.mul_le_mul_of_nonneg_left (by omega) (by omega)
  have m3 : 0 < fd ps k * q := Int.mul_pos (by omega) (by omega)
  unfold tm timesL pt
  rw [e]
  obtain ⟨s, t, e2, _, _⟩ := low_fits (x := fu ps k * p) (y := fd ps k * q) ⟨by omega, by omega⟩ m3 (by omega)
  show (low (fu ps k * p) (fd ps k * q)).2.2 = true
  rw [e2]
theorem none_fits (h : BookP c d) : Fits c d (none_ c.length) := fits_of (none_ok h) (fun k hk => by unfold fd; rw [none_get hk]; show (1 : Int) ≤ 3000000; omega)
theorem none_tm (h : BookP c d) {i k : Nat} (hi : i < c.length) (hk : k < c.length) (h0 : ow c d k ≠ 0) : tm c d (none_ c.length) i k = (0, 1, true) := by
  have hp := (pt_ok h hi hk h0).2
  unfold tm timesL fu fd
  rw [none_get hk]
  have := hp.2.2.1
  exact low_of (show 0 < 1 * (pt c d i k).2.1 by omega) (one_ok (by omega) (by omega)) (by show 0 * (1 * (pt c d i k).2.1) = 0 * (pt c d i k).1 * 1; simp)
theorem none_acc (h : BookP c d) {i : Nat} (hi : i < c.length) : ∀ (e k : Nat) (a b : Int), c.length - k = e → k ≤ c.length → FracP a b → acc c d (none_ c.length) i e k a b = some (a, b) := by
  intro e
  induction e with
  | zero => intro k a b _ _ _; rfl
  | succ e ih =>
    intro k a b he hk hf
    simp only [acc]
    by_cases hz : ow c d k = 0
    · rw [if_pos hz]; exact ih (k + 1) a b (by omega) (by omega) hf
    · have hpl : plusL a b 0 1 = (a, b, true) := by
        unfold plusL
        exact low_of (by have := hf.2.2.1; omega) hf (by grind)
      rw [if_neg hz, none_tm h hi (by omega) hz, hpl, if_pos rfl]
      exact ih (k + 1) a b (by omega) (by omega) hf
def wholes (f : Nat → Int) (n : Nat) : List F := (List.range n).map (fun i => (⟨f i, 1⟩ : F))
theorem wholes_len (f : Nat → Int) (n : Nat) : (wholes f n).length = n := by simp [wholes]
theorem wholes_get {f : Nat → Int} {n i : Nat} (h : i < n) : rd_T36 (wholes f n) (i : Int) = (⟨f i, 1⟩ : F) := by
  rw [Vl.rF, List.getD_eq_getElem?_getD, List.getElem?_eq_getElem (by rw [wholes_len]; exact h)]; simp [wholes]
theorem gv_whole {f : Nat → Int} (hf : ∀ i, i < c.length → acc c d ps i c.length 0 (rd c (i : Int)) 1 = some (f i, 1)) : ∀ (e i : Nat), c.length - i = e → i ≤ c.length → gv c d ps e i (wholes f i) = (wholes f c.length, true) := by
  intro e
  induction e with
  | zero =>
    intro i he hi
    obtain rfl : i = c.length := by omega
    rfl
  | succ e ih =>
    intro i he hi
    simp only [gv]
    rw [hf i (by omega)]
    have := ih (i + 1) (by omega) (by omega)
    rw [← this, wholes, wholes, List.range_succ, List.map_append]
    rfl
theorem none_gets (h : BookP c d) : getsV c d (none_ c.length) = (wholes (fun i => rd c (i : Int)) c.length, true) := by
  refine gv_whole (f := fun i => rd c (i : Int)) (fun i hi => ?_) c.length 0 rfl (by omega)
  have hc := h.2.2.2 i hi
  exact none_acc h hi c.length 0 _ _ rfl (by omega) (one_ok hc.1 (by have := hc.2.1; omega))
end Go.Proofs.Ytigpmfoagkhaeaa.Vf

namespace Go.Proofs.Ytigpmfoagkhaeaa.Al
open Go.RowKit Go.Proofs.Ytigpmfoagkhaeaa.PU Go.Proofs.Ytigpmfoagkhaeaa.Qh Go.Proofs.YtigpmfoagkhaeaaW.PrintWords Go.Proofs.YtigpmfoagkhaeaaW.PrintMore
set_option linter.unusedVariables false
set_option linter.unusedSimpArgs false
theorem alive : Ev (fun k => laws_alive.f k) true := Ev.of (fun k => laws_alive.mono k) (k := 12) (by decide +kernel)
end Go.Proofs.Ytigpmfoagkhaeaa.Al

namespace Go.Proofs.Ytigpmfoagkhaeaa.Fnp
open Go.RowKit Go.Proofs.Ytigpmfoagkhaeaa.PU Go.Proofs.Ytigpmfoagkhaeaa.Qh Go.Proofs.Ytigpmfoagkhaeaa.Dr Go.Proofs.Ytigpmfoagkhaeaa.Db Go.Proofs.Ytigpmfoagkhaeaa.Bk Go.Proofs.Ytigpmfoagkhaeaa.Py Go.Proofs.Ytigpmfoagkhaeaa.Np Go.Proofs.Ytigpmfoagkhaeaa.Vl Go.Proofs.Ytigpmfoagkhaeaa.Vf Go.Proofs.Ytigpmfoagkhaeaa.Sp Go.Proofs.Ytigpmfoagkhaeaa.Gv Go.Proofs.YtigpmfoagkhaeaaW.PrintWords Go.Proofs.YtigpmfoagkhaeaaW.PrintMore
set_option linter.unusedVariables false
set_option linter.unusedSimpArgs false
abbrev F := S36
theorem snone_l {c : List Int} {d : List (List Int)} (h : BookP c d) : ∀ (e i : Nat), c.length - i = e → i ≤ c.length → Ev (fun k => spec_NonePaid.l0 k (none_ i) (i : Int) c d) (none_ c.length) := by
  have h4 := h.2.1
  intro e
  induction e with
  | zero =>
    intro i he hi
    obtain rfl : i = c.length := by omega
    refine Ev.step (fun k => by rw [spec_NonePaid.l0]) ?_
    exact evNeg (by omega) (Ev.now _)
  | succ e ih =>
    intro i he hi
    have hlt : i < c.length := by omega
    have hs : Aside0 (wrap64 ((i : Int) + 1) = ((i + 1 : Nat) : Int)) := ⟨wsucc hlt (by omega)⟩
    have hl : (none_ i).length = i := by simp [none_]
    refine Ev.step (fun k => by rw [spec_NonePaid.l0]) ?_
    refine evPos (by omega) (Ev.bind ((bookOk c d).yes h) (evPos rfl (evPos (by omega) ?_)))
    rw [hs.out]
    have := ih (i + 1) (by omega) (by omega)
    rwa [none_, List.replicate_succ'] at this
theorem snone (c : List Int) (d : List (List Int)) : Ev (fun k => spec_NonePaid.f k c d) (@ite _ (BookP c d) (Classical.propDecidable _) (none_ c.length) []) := by
  unfold spec_NonePaid.f
  by_cases h : BookP c d
  · rw [if_pos h]; exact snone_l h _ 0 rfl (by omega)
  · rw [if_neg h]
    refine Ev.step (fun k => by rw [spec_NonePaid.l0]) ?_
    by_cases h0 : (0 : Int) < (c.length : Int)
    · exact evPos h0 (Ev.bind ((bookOk c d).no h) (evNeg (by decide) (Ev.now _)))
    · exact evNeg h0 (Ev.now _)
theorem loop {c : List Int} {d : List (List Int)} (h : BookP c d) : ∀ (e i : Nat), c.length - i = e → i ≤ c.length → Ev (fun k => laws_FnNonePaid.l0 k (wholes (fun i => rd c (i : Int)) c.length) true (i : Int) c d) true := by
  have h4 := h.2.1
  have hwl := wholes_len (fun i => rd c (i : Int)) c.length
  intro e
  induction e with
  | zero =>
    intro i he hi
    refine Ev.step (fun k => by rw [laws_FnNonePaid.l0]) ?_
    refine evNeg (by omega) (evPos rfl (evEq (Ev.now _) ?_))
    rw [hwl]; simp
  | succ e ih =>
    intro i he hi
    have hlt : i < c.length := by omega
    have hs : Aside0 (wrap64 ((i : Int) + 1) = ((i + 1 : Nat) : Int)) := ⟨wsucc hlt (by omega)⟩
    refine Ev.step (fun k => by rw [laws_FnNonePaid.l0]) ?_
    rw [wholes_get hlt, hs.out]
    exact evPos (by omega) (evNeg (by omega) (evPos (by omega) (evPos (by omega) (evPos rfl (evPos rfl (ih (i + 1) (by omega) (by omega)))))))
theorem holds : laws_FnNonePaid.Pure := by
  intro l0 _ _ hu
  refine Ev.rounds (g := fun k => laws_FnNonePaid.f k l0) ?_
  unfold laws_FnNonePaid.f
  by_cases a : (l0.length : Int) > 1048576
  · exact evPos a (Ev.now _)
  refine evNeg a ?_
  obtain ⟨b, hb, ho⟩ := Dr.open_ l0 hu
  obtain ⟨⟨c, d, q⟩, hr, hbk⟩ := book hb 9 (by omega) (by omega) 0 (by omega) (by omega)
  have hd : Ev (fun k => spec_DrawNonePaid.f k l0) (c, d) := by
    unfold spec_DrawNonePaid.f
    exact evBind0 ho (Ev.bind hbk (Ev.now _))
  refine Ev.bind hd (Ev.bind (inone c d) (Ev.bind (snone c d) ?_))
  by_cases h : BookP c d
  · have h1 := h.1; have h4 := h.2.1
    have hnl : (none_ c.length).length = c.length := by simp [none_]
    simp only [if_pos h]
    refine Ev.bind (same _ (by omega)) (evPos rfl (evNeg (by omega) ?_))
    refine Ev.bind (igetsOf (none_ok h) (none_fits h)) ?_
    rw [none_gets h]
    exact loop h _ 0 rfl (by omega)
  · simp only [if_neg h]
    refine Ev.bind (same _ (by simp)) (evPos rfl (evPos (by simp) ?_))
    exact Ev.bind ((isOk c d).no h) (evNeg (by decide) (Ev.bind Al.alive (Ev.now _)))
end Go.Proofs.Ytigpmfoagkhaeaa.Fnp

namespace Go.Proofs.Ytigpmfoagkhaeaa.Pure
open Go.RowKit Go.Proofs.Ytigpmfoagkhaeaa.PU
theorem FnNonePaid : laws_FnNonePaid.Pure := Go.Proofs.Ytigpmfoagkhaeaa.Fnp.holds
end Go.Proofs.Ytigpmfoagkhaeaa.Pure

namespace Go.Proofs.YtigpmfoagkhaeaaW.PrintWords
open Go.ChangeShapes Go.WideShapes
theorem sized_ints {H : Type} {enc : TypeId × Value → H} {P : Program} {W : World} {base : Nat} {spare : Nat → Bool} {held : Bool} {t e : TypeId} {k : IntKind} {a : Option Addr} {len cap : Nat} {d : DataW H} {ps : List MemPlace} {ts : List TypeId} {ds : List (DataW H)} {j : Nat}
    (hsz : (DataW.weightsEach P ts ds).all (· ≤ reachBytes) = true) (ht : ts[j]? = some t) (hd : ds[j]? = some d) (hu : P.underlying t = some (.slice e)) (he : P.underlying e = some (.int k)) (hc : P.cellsOf e = 1) {B : Nat} (hB : P.bytesOf e = B)
    (h : DataW.Trod enc P W base spare held t (.slice a len cap) d ps) : len * B ≤ 140737488351232 := by
  obtain ⟨fuel, hf⟩ := h
  rcases open_ints hu he hc hf with ⟨hcs, _⟩ | ⟨x, l, c, zs, hcs, _, hl, _, hz, hx, _, _⟩
  · simp [Value.cells] at hcs
    obtain ⟨rfl, rfl, rfl⟩ := hcs
    simp
  · simp [Value.cells] at hcs
    obtain ⟨rfl, rfl, rfl⟩ := hcs
    obtain ⟨hx, _⟩ := Prod.mk.inj hx
    subst hx
    have z := sized_slice hsz ht hd hu
    rw [hB] at z
    have hl2 : len ≤ zs.length := by
      rw [hz]
      split
      · exact hl
      · exact Nat.le_refl _
    have h1 : (lits (H := H) k (zs.take len)).length + (lits (H := H) k (zs.drop len)).length = zs.length := by
      simp [lits]
      omega
    rw [h1] at z
    exact Nat.le_trans (Nat.mul_le_mul_right _ hl2) z
end Go.Proofs.YtigpmfoagkhaeaaW.PrintWords

namespace Go.Proofs.Ytigpmfoagkhaeaa.fnNonePaid
open Go.ChangeShapes Go.WideShapes Go.ChangeAt Go.RowKit
open Go.ChangeMaps (open_string shut_string)
set_option linter.unusedVariables false
theorem own : ownKnob Try.prog.godebug = none := by kernel_rfl
theorem laidOut : laidOutB Try.prog = true := by kernel_rfl
def IsRow (k : IntKind) (w : World) (a : Option Addr) (len cap : Nat) (zs : List Int) : Prop :=
  (a = none ∧ len = 0 ∧ cap = 0 ∧ zs = []) ∨
  ∃ x, a = some x ∧ len ≤ cap ∧ cap ≤ maxLen ∧ zs.length = cap ∧ (∀ i, i < zs.length → w.cell? (x.add i) = some (.int k (zs.getD i 0))) ∧ ∀ n ∈ zs, (Lit.int k n).wf = true
set_option maxRecDepth 100000 in
theorem lifted (os : Os) (started : os.Started) (H : Type) (enc : TypeId × Value → H) :
    ReturnsInHanded {} Try.checked os 3 .any (Rows.fnNonePaidSpec.pre6 enc Try.prog Try.f3 Rows.fnNonePaidRow.domain false) (Rows.fnNonePaidSpec.post enc Try.prog Try.f3 false true false false) := by
  refine returnsInHanded_of_change_sized (C := Try.checked) own started (by kernel_rfl) Try.func3
    (ChangeSpec.witness6 (enc := enc) (C := Try.checked) false ⟨#[], #[.slice none 0 0], []⟩ 8 (by kernel_rfl) (by kernel_rfl) (by kernel_rfl) (by kernel_rfl)) ?_
  intro W base args ds gs before hval0 hW hcnd hsz0 _
  have hsz : (DataW.weightsEach Try.prog (Try.f3.params.toList ++ Rows.fnNonePaidSpec.plain.varTypes Try.prog) (ds ++ gs)).all (· ≤ reachBytes) = true := hsz0
  have hval : ∀ (j : Nat) t v, Try.f3.params[j]? = some t → args[j]? = some v → Value.okWide Try.prog W .any base t v := hval0
  have hW' := hW
  obtain ⟨p, q, hA0, hV, rfl, hfz, hnd⟩ := hW
  have hA : DataW.TrodAll enc Try.prog W 0 (fun _ => true) true Try.f3.params.toList args.toList ds p := hA0
  rw [Try.params3] at hA hval hsz
  obtain ⟨v0, vs0, d0, ds0, p0, q0, hargs, rfl, rfl, h0, r0⟩ := trodAll_cons hA
  obtain ⟨rfl, rfl, rfl⟩ := trodAll_nil r0
  obtain rfl : args = #[v0] := by cases args; simp_all
  obtain ⟨rfl, rfl⟩ := trodVars_none hV
  obtain ⟨a0, len0, cap0, rfl⟩ := okWide_slice Try.underlying22 (hval 0 22 v0 rfl rfl)
  have k0 := h0
  have lt0 : ∀ x ∈ p0, x.block < W.heap.size := by obtain ⟨m, hm⟩ := k0; exact DataW.trod_lt m _ _ _ hm
  obtain ⟨z0, w0⟩ : ∃ zs, IsRow .u8 W a0 len0 cap0 zs := by
    obtain ⟨fuel, hf⟩ := h0
    rcases open_ints Try.underlying22 Try.underlying5 (by kernel_rfl) hf with ⟨hcs, _⟩ | ⟨x, l, c, zs, hcs, _, hl, hm, hz, _, hcell, hwz⟩
    · simp [Value.cells] at hcs
      obtain ⟨rfl, rfl, rfl⟩ := hcs
      exact ⟨[], .inl ⟨rfl, rfl, rfl, rfl⟩⟩
    · simp [Value.cells] at hcs
      obtain ⟨rfl, rfl, rfl⟩ := hcs
      exact ⟨zs, .inr ⟨_, rfl, hl, hm, by simpa using hz, hcell, hwz⟩⟩
  have y0 : len0 * 1 ≤ 140737488351232 := Go.Proofs.YtigpmfoagkhaeaaW.PrintWords.sized_ints hsz (j := 0) (t := 22) rfl rfl Try.underlying22 Try.underlying5 (by kernel_rfl) (by kernel_rfl) h0
  clear hA0 hval0 hsz0 hsz
  refine (PU.laws_FnNonePaid.walk Pure.FnNonePaid a0 len0 cap0 z0 W w0 y0).mono fun e W' ⟨he, bel⟩ => ?_
  subst he
  exact ⟨_, rfl, _, _, _, [], _, [], hW', trodAll_mk1 (shut_bool Try.underlying4 _), (trodAll_cons_mk (Below.trod laidOut (by kernel_rfl) (of_decide_eq_true (by kernel_rfl)) k0 bel lt0) trodAll_mk0), rfl, bel.frame _, fun h => by cases h⟩
theorem over : Rows.fnNonePaidRow.holds Try.pinned (OpenSpec.ofChange Rows.fnNonePaidSpec) :=
  OpenClaim.holds_of_wide 3 Try.f3 rfl rfl rfl rfl rfl rfl rfl ⟨rfl, rfl, rfl, rfl, rfl⟩ rfl rfl rfl rfl rfl (by kernel_rfl) Try.func3 (by kernel_rfl)
    (of_decide_eq_true (by kernel_rfl)) (by unfold Func.isWrapper; first | (rw [if_pos (by decide +kernel)]; kernel_rfl) | (rw [if_neg (by decide +kernel)]; exact ⟨rfl, rfl⟩))
    (fun os started H enc _ => lifted os started H enc)
theorem proved : Rows.FnNonePaidSaid := over
end Go.Proofs.Ytigpmfoagkhaeaa.fnNonePaid
namespace Go.Proofs.Ytigpmfoagkhaeaa
theorem fnNonePaid_holds : Rows.FnNonePaidSaid := fnNonePaid.proved
end Go.Proofs.Ytigpmfoagkhaeaa
