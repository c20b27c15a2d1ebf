/- FnNetted: for every input the law holds. No condition. -/
import Derived.Test.YtfooakkhkehpiaaZFnNetted1
import Derived.Test.YtfooakkhkehpiaaZFnNetted2
import Derived.Test.YtfooakkhkehpiaaZFnNetted3
import Derived.SizedLaws
import Derived.ChangeSlices
import Derived.Test.YtfooakkhkehpiaaRows
import Derived.ProofKit
import Derived.OpenShut
import Derived.ShutString
import Derived.ChangeOld
namespace Go.Proofs.Ytfooakkhkehpiaa.PU
open Go.RowKit Go.Proofs.YtfooakkhkehpiaaW.PrintWords Go.Proofs.YtfooakkhkehpiaaW.PrintLast Go.Proofs.YtfooakkhkehpiaaW.PrintMore Go.Proofs.Ytfooakkhkehpiaa.Qd
attribute [local go_sem] max2_int min2_int max_two min_two max_three min_three max_four min_four
set_option linter.unusedVariables false
set_option linter.unusedSimpArgs false
mutual
def laws_FnNetted.l0 : Nat → Int → List Int → List (List Int) → List Int → List (List Int) → Option (Bool)
 | 0, _, _, _, _, _ => none
 | k + 1, x5, x515000, x515001, x522000, x522001 => if x5 < (x522001.length : Int) then (laws_FnNetted.l1 k x5 0 x515000 x515001 x522000 x522001) else ((impl_BookOk.f k x522000 x522001).bind fun t537 => (if t537 = true then ((impl_NetsOf.f k x522000 x522001).bind fun t538 => ((impl_NetsOf.f k x515000 x515001).bind fun t541 => ((laws_sameInts.f k t538 t541).bind fun t544 => (if t544 = true then ((impl_Netted.f k x522000 x522001).bind fun bt545 => ((laws_sameBook.f k bt545.1 bt545.2 x522000 x522001).bind fun t551 => (if t551 = true then ((impl_AllDebts.f k x522000 x522001).bind fun t552 => ((impl_AllDebts.f k x515000 x515001).bind fun t553 => (if t552 ≤ t553 then ((laws_sameInts.f k x522000 x515000).bind fun t554 => (some t554)) else (some false)))) else (some false)))) else (some false))))) else (some false)))
def laws_FnNetted.l1 : Nat → Int → Int → List Int → List (List Int) → List Int → List (List Int) → Option (Bool)
 | 0, _, _, _, _, _, _ => none
 | k + 1, x5, x6, x515000, x515001, x522000, x522001 => if x6 < x5 then (if 0 ≤ x5 then (if x5 < (x522001.length : Int) then (laws_FnNetted.j2 k x5 x6 (decide (x6 < ((rd_L1 x522001 x5).length : Int))) x515000 x515001 x522000 x522001) else (none)) else (none)) else (laws_FnNetted.j2 k x5 x6 false x515000 x515001 x522000 x522001)
def laws_FnNetted.j2 : Nat → Int → Int → Bool → List Int → List (List Int) → List Int → List (List Int) → Option (Bool)
 | 0, _, _, _, _, _, _, _ => none
 | k + 1, x5, x6, x46, x515000, x515001, x522000, x522001 => if x46 = true then (if 0 ≤ x5 then (if x5 < (x522001.length : Int) then (if 0 ≤ x6 then (if x6 < ((rd_L1 x522001 x5).length : Int) then (if (rd (rd_L1 x522001 x5) x6) > 0 then (if x6 < (x522001.length : Int) then (if x5 < ((rd_L1 x522001 x6).length : Int) then (if (rd (rd_L1 x522001 x6) x5) > 0 then (some false) else (laws_FnNetted.l1 k x5 (wrap64 (x6 + 1)) x515000 x515001 x522000 x522001)) else (none)) else (none)) else (laws_FnNetted.l1 k x5 (wrap64 (x6 + 1)) x515000 x515001 x522000 x522001)) else (none)) else (none)) else (none)) else (none)) else (laws_FnNetted.l0 k (wrap64 (x5 + 1)) x515000 x515001 x522000 x522001)
end
def laws_FnNetted.f (k : Nat) (l0 : List Int) : Option (Bool) := if (l0.length : Int) > 1048576 then (some true) else ((spec_DrawNetted.f k l0).bind fun bt508 => ((impl_Netted.f k bt508.1 bt508.2).bind fun bt515 => ((spec_Netted.f k bt508.1 bt508.2).bind fun bt522 => ((laws_sameBook.f k bt515.1 bt515.2 bt522.1 bt522.2).bind fun t528 => (if t528 = true then ((spec_BookOk.f k bt508.1 bt508.2).bind fun t529 => (if t529 = true then (laws_FnNetted.l0 k 0 bt508.1 bt508.2 bt515.1 bt515.2) else ((laws_noBook.f k bt515.1 bt515.2).bind fun t530 => (if t530 = true then ((laws_alive.f k).bind fun t531 => (some t531)) else (some false))))) else (some false))))))
theorem laws_FnNetted.mq {p : Prop} (h : p := by
 repeat' first
 | (with_reducible exact ih0 _ _ _ _ _)
 | (with_reducible exact ih1 _ _ _ _ _ _)
 | (with_reducible exact ih2 _ _ _ _ _ _ _)
 | (with_reducible exact impl_AllDebts.mono _ _ _)
 | (with_reducible exact impl_BookOk.mono _ _ _)
 | (with_reducible exact impl_NetsOf.mono _ _ _)
 | (with_reducible exact impl_Netted.mono _ _ _)
 | (with_reducible exact laws_alive.mono _)
 | (with_reducible exact laws_noBook.mono _ _ _)
 | (with_reducible exact laws_sameBook.mono _ _ _ _ _)
 | (with_reducible exact laws_sameInts.mono _ _ _)
 | (with_reducible exact spec_BookOk.mono _ _ _)
 | (with_reducible exact spec_DrawNetted.mono _ _)
 | (with_reducible exact spec_Netted.mono _ _ _)
 | (with_reducible exact LeO.refl _)
 | (with_reducible exact LeO.none _)
 | (with_reducible refine LeO.ite ?_ ?_)
 | (with_reducible refine LeO.bind ?_ (fun _ => ?_))
 | exact ih0 _ _ _ _ _
 | exact ih1 _ _ _ _ _ _
 | exact ih2 _ _ _ _ _ _ _
 | exact impl_AllDebts.mono _ _ _
 | exact impl_BookOk.mono _ _ _
 | exact impl_NetsOf.mono _ _ _
 | exact impl_Netted.mono _ _ _
 | exact laws_alive.mono _
 | exact laws_noBook.mono _ _ _
 | exact laws_sameBook.mono _ _ _ _ _
 | exact laws_sameInts.mono _ _ _
 | exact spec_BookOk.mono _ _ _
 | exact spec_DrawNetted.mono _ _
 | exact spec_Netted.mono _ _ _
 | exact LeO.none _
 | refine LeO.ite ?_ ?_
 | refine LeO.bind ?_ (fun _ => ?_)) : p := h
theorem laws_FnNetted.mono_l : ∀ k, (∀ y0 y1 y2 y3 y4, LeO (laws_FnNetted.l0 k y0 y1 y2 y3 y4) (laws_FnNetted.l0 (k + 1) y0 y1 y2 y3 y4)) ∧ (∀ y0 y1 y2 y3 y4 y5, LeO (laws_FnNetted.l1 k y0 y1 y2 y3 y4 y5) (laws_FnNetted.l1 (k + 1) y0 y1 y2 y3 y4 y5)) ∧ (∀ y0 y1 y2 y3 y4 y5 y6, LeO (laws_FnNetted.j2 k y0 y1 y2 y3 y4 y5 y6) (laws_FnNetted.j2 (k + 1) y0 y1 y2 y3 y4 y5 y6))
 | 0 => ⟨fun _ _ _ _ _ r h => by simp [laws_FnNetted.l0] at h, fun _ _ _ _ _ _ r h => by simp [laws_FnNetted.l1] at h, fun _ _ _ _ _ _ _ r h => by simp [laws_FnNetted.j2] at h⟩
 | k + 1 => by
  obtain ⟨ih0, ih1, ih2⟩ := laws_FnNetted.mono_l k
  refine ⟨?_, ?_, ?_⟩
  ·intro y0 y1 y2 y3 y4
   unfold laws_FnNetted.l0
   exact laws_FnNetted.mq
  ·intro y0 y1 y2 y3 y4 y5
   unfold laws_FnNetted.l1
   exact laws_FnNetted.mq
  ·intro y0 y1 y2 y3 y4 y5 y6
   unfold laws_FnNetted.j2
   exact laws_FnNetted.mq
theorem laws_FnNetted.mono : ∀ a0 k, LeO (laws_FnNetted.f k a0) (laws_FnNetted.f (k + 1) a0) := by
 intro a0 k
 obtain ⟨ih0, ih1, ih2⟩ := laws_FnNetted.mono_l k
 unfold laws_FnNetted.f
 exact laws_FnNetted.mq
def laws_FnNetted.T17 : Bool × List (List Nat × List Nat) := (true, [([], []), ([0], [0]), ([1, 1], [1]), ([2], [2]), ([3, 2, 2], [2, 3]), ([2], [2]), ([5, 4, 2], [2, 5]), ([4, 6, 6, 2], [2, 4, 6]), ([2, 7], [2, 7]), ([8, 7], [8]), ([9], [9]), ([10, 9, 9], [9, 10]), ([9], [9]), ([11, 12, 11, 9], [9, 11, 12]), ([9, 13], [9, 13]), ([14, 13], [14]), ([15], [15]), ([16, 15, 15], [15, 16]), ([15], [15]), ([18, 17, 15], [15, 18]), ([17, 19, 15], [15, 17, 19]), ([15, 20], [15, 20]), ([21, 19], [21]), ([22], [22]), ([23, 22], [22, 23]), ([22], [22]), ([25, 22], [22, 25]), ([24, 26, 22, 22], [22, 24, 26]), ([22, 27], [22, 27]), ([28, 27, 0, 1, 2, 3, 4, 5, 6, 7, 8, 9, 10, 11, 12, 13, 14, 15, 16, 17, 18, 19, 20, 21, 22, 23, 24, 25, 26, 27, 28], [28])])
def laws_FnNetted.B17 : List Nat := [0, 1, 3, 7, 15, 7, 63, 127, 255, 511, 1023, 2047, 1023, 8191, 16383, 32767, 65535, 131071, 65535, 524287, 1048575, 2097151, 4194303, 8388607, 16777215, 8388607, 41943039, 134217727, 268435455, 536870911]
theorem laws_FnNetted.tab17 : rtab .any (opsOf Try.f8 17) = laws_FnNetted.T17 := by kernel_rfl
theorem laws_FnNetted.bits17 : waitsOk laws_FnNetted.T17.2 laws_FnNetted.B17 = true := by kernel_rfl
theorem qz0_ {p : Prop} (h : p := by repeat (first | (with_reducible first | exact HB.out | apply below_alloc | apply pw_below_drewN | apply below_drew1 | refine below_set ?_ GE514.out | refine below_set ?_ GE521.out) | exact HB.out)) : p := h
set_option maxHeartbeats 8000000 in
set_option maxRecDepth 100000 in
theorem laws_FnNetted.calls (k : Nat) (A0 : Option Addr) (c0 : Nat) (l0 : List Int) (r : Bool) (w : World) (hr0 : Kd.C (Kd.int .u8) w A0 l0.length l0) (hc0 : l0.length ≤ c0) (h : laws_FnNetted.f k l0 = some r) :
  Calls Try.prog 8 #[.slice A0 l0.length c0] w fun e w' => e = .returned (.bool r) ∧ Below w.heap.size w w' := by
 have hu25 := Try.underlying25
 have HR0 := Aside0.mk hr0
 have HC0 := Aside0.mk hc0
 clear hr0 hc0
 have HB := Aside0.mk (Below.refl w.heap.size w)
 have H : (if (l0.length : Int) > 1048576 then (some true) else ((spec_DrawNetted.f k l0).bind fun bt508 => ((impl_Netted.f k bt508.1 bt508.2).bind fun bt515 => ((spec_Netted.f k bt508.1 bt508.2).bind fun bt522 => ((laws_sameBook.f k bt515.1 bt515.2 bt522.1 bt522.2).bind fun t528 => (if t528 = true then ((spec_BookOk.f k bt508.1 bt508.2).bind fun t529 => (if t529 = true then (laws_FnNetted.l0 k 0 bt508.1 bt508.2 bt515.1 bt515.2) else ((laws_noBook.f k bt515.1 bt515.2).bind fun t530 => (if t530 = true then ((laws_alive.f k).bind fun t531 => (some t531)) else (some false))))) else (some false))))))) = some r := h
 clear h
 by_cases c2 : (l0.length : Int) > 1048576
 ·rw [if_pos c2] at H
  have c2b0 := decide_eq_true c2
  have c2b1 : decide (1048576 < l0.length) = true := decide_eq_true (by omega)
  clear c2
  obtain rfl := Option.some.inj H
  go_enter Try.func8, Try.ntmps8
  go_wp2
  go_ret
  exact ⟨g4_, qz0_⟩
 ·rw [if_neg c2] at H
  have c2b0 := decide_eq_false c2
  have c2b1 : decide (1048576 < l0.length) = false := decide_eq_false (by omega)
  clear c2
  replace H := Option.bind_eq_some_iff.mp H
  obtain ⟨⟨t508, t511⟩, A30, H⟩ := H
  replace H : ((impl_Netted.f k t508 t511).bind fun bt515 => ((spec_Netted.f k t508 t511).bind fun bt522 => ((laws_sameBook.f k bt515.1 bt515.2 bt522.1 bt522.2).bind fun t528 => (if t528 = true then ((spec_BookOk.f k t508 t511).bind fun t529 => (if t529 = true then (laws_FnNetted.l0 k 0 t508 t511 bt515.1 bt515.2) else ((laws_noBook.f k bt515.1 bt515.2).bind fun t530 => (if t530 = true then ((laws_alive.f k).bind fun t531 => (some t531)) else (some false))))) else (some false))))) = some r := H
  have A3 := Aside0.mk A30
  clear A30
  replace H := Option.bind_eq_some_iff.mp H
  obtain ⟨⟨t515, t518⟩, A40, H⟩ := H
  replace H : ((spec_Netted.f k t508 t511).bind fun bt522 => ((laws_sameBook.f k t515 t518 bt522.1 bt522.2).bind fun t528 => (if t528 = true then ((spec_BookOk.f k t508 t511).bind fun t529 => (if t529 = true then (laws_FnNetted.l0 k 0 t508 t511 t515 t518) else ((laws_noBook.f k t515 t518).bind fun t530 => (if t530 = true then ((laws_alive.f k).bind fun t531 => (some t531)) else (some false))))) else (some false)))) = some r := H
  have A4 := Aside0.mk A40
  clear A40
  replace H := Option.bind_eq_some_iff.mp H
  obtain ⟨⟨t522, t525⟩, A50, H⟩ := H
  replace H : ((laws_sameBook.f k t515 t518 t522 t525).bind fun t528 => (if t528 = true then ((spec_BookOk.f k t508 t511).bind fun t529 => (if t529 = true then (laws_FnNetted.l0 k 0 t508 t511 t515 t518) else ((laws_noBook.f k t515 t518).bind fun t530 => (if t530 = true then ((laws_alive.f k).bind fun t531 => (some t531)) else (some false))))) else (some false))) = some r := H
  have A5 := Aside0.mk A50
  clear A50
  obtain ⟨t528, A6, H⟩ := bind_ H
  by_cases c7 : t528 = true
  ·subst c7
   replace H := ifp_ H
   obtain ⟨t529, A8, H⟩ := bind_ H
   by_cases c9 : t529 = true
   ·subst c9
    replace H := ifp_ H
    have H' := Aside0.mk H
    clear H
    go_enter Try.func8, Try.ntmps8
    try go_wp2_with (first | ((with_reducible refine gate_callee (f := 38) rfl ?_); refine goesL_ (some 11) rfl rfl Try.func38 k_ rfl #[.slice A0 l0.length c0] rfl (g2_) ?_; (with_reducible refine (spec_DrawNetted.calls k _ _ l0 t508 t511 _ ?side1 ?side2 A3.out).mono ?_); (case side1 => repeat (first | exact HR0.out | (with_reducible refine Kd.C_alloc ?_ _) | (with_reducible refine Kd.C_drewN ?_ _) | (with_reducible refine Kd.C_drew ?_))); (case side2 => exact HC0.out); rintro e w10 ⟨v509, v512, rfl, ho0, ho1, hb⟩; refine ⟨_, rfl, ?_⟩; have HO510 := Aside0.mk (Kd.R_lower (Kd.R_mono (ok' := fun k_ => True) ho0 (fun _ hk_ => trivial)) (below_size (qz0_))); have HO513 := Aside0.mk (Kd.V_lower (Kd.V_mono (ok' := fun k_ => some k_ ≠ (v509 : Value).ownBlock) ho1 (fun k_ hk_ => hk_.2)) (below_size (qz0_))); replace HB := Aside0.mk (below_step (qz0_) hb); (try clear hb); (try clear hk hi); (try clear ho0); (try clear ho1)) | ((with_reducible refine gate_dst (N := 3) rfl ?_); (try (refine gate_guard (by rfl) ?_; dsimp only)); refine bx_ (N := 3) #[.slice none 0 0, .slice none 0 0] 25 ?_; intro gb514 hg w11 hbox hb; replace HO510 := Aside0.mk (Kd.R_below (uf1_ HO510) hb); replace HO513 := Aside0.mk (Kd.V_below (Kd.V_elderB (uf5_ HO513) gb514 (Nat.le_of_eq hg.symm)) hb); have BK514 := Aside0.mk (hbox); have GW514 := Aside0.mk ((g9_ : w.heap.size ≤ gb514)); have GE514 := Aside0.mk ((g9_ : w.heap.size ≤ gb514)); replace HB := Aside0.mk (below_step (qz0_) hb); clear hb hbox hg; obtain ⟨Ao12, co12, eo12⟩ := Kd.R_slice HO510.out; subst eo12; obtain ⟨hcz13_0, hcz13_1, hfz13_0, hfz13_1⟩ := blk2_ BK514; obtain ⟨Ao14, co14, eo14⟩ := Kd.V_slice HO513.out; subst eo14) | ((with_reducible refine gate_callee (f := 39) rfl ?_); refine goesL_ (some 13) rfl rfl Try.func39 k_ rfl #[.agg #[.slice Ao12 t508.length co12, .slice Ao14 t511.length co14]] rfl (g2_) ?_; (with_reducible refine (impl_Netted.calls k _ _ t508 _ _ t511 t515 t518 _ ?side1 ?side2 ?side3 ?side4 A4.out).mono ?_); (case side1 => refine (Kd.R_reads' (e := 3) (base := w.heap.size) (ok := fun k_ => True) (n := t508.length) (c := co12) ?_).2.2; exact (g38_)); (case side2 => exact (Kd.R_reads' HO510.out).2.1); (case side3 => refine (Kd.V_reads' (e := 22) (base := w.heap.size) (ok := fun k_ => (some k_ ≠ (.slice Ao12 t508.length co12 : Value).ownBlock ∧ k_ ≠ gb514)) (n := t511.length) (c := co14) ?_).2.2; exact (by (with_reducible repeat (first | apply Kd.V_alloc | apply Kd.V_drewN | apply Kd.V_drew)); exact (Kd.V_mono (Kd.V_far (p := ⟨gb514, 1, none⟩) (Kd.V_far (p := ⟨gb514, 0, none⟩) (Kd.V_mono HO513.out (fun k_ hk => (⟨hk, hk.2⟩ : _ ∧ k_ ≠ gb514))) (fun _ hk => hk.2) (.slice Ao12 t508.length co12)) (fun _ hk => hk.2) (.slice Ao14 t511.length co14)) (fun _ h_ => h_.1)))); (case side4 => exact (Kd.V_reads' HO513.out).2.1); rintro e w15 ⟨v516, v519, rfl, ho0, ho1, hb⟩; refine ⟨_, rfl, ?_⟩; replace HO513 := Aside0.mk (Kd.V_mono (Kd.V_told (Kd.V_told (Kd.V_old (by (with_reducible repeat (first | apply Kd.V_alloc | apply Kd.V_drewN | apply Kd.V_drew)); exact (Kd.V_mono (Kd.V_far (p := ⟨gb514, 1, none⟩) (Kd.V_far (p := ⟨gb514, 0, none⟩) (Kd.V_mono HO513.out (fun k_ hk => (⟨hk, hk.2⟩ : _ ∧ k_ ≠ gb514))) (fun _ hk => hk.2) (.slice Ao12 t508.length co12)) (fun _ hk => hk.2) (.slice Ao14 t511.length co14)) (fun _ h_ => h_.1))) hb) (Kd.R_base ho0)) (Kd.S_base ho1)) (fun _ h_ => h_.1)); have HO517 := Aside0.mk (Kd.R_lower (Kd.R_new' ho0 (Kd.R_lt (g38_))) (below_size (qz0_))); have HO520 := Aside0.mk (Kd.S_lower (Kd.S_new' ho1 (Kd.R_lt (g38_))) (below_size (qz0_))); replace HO510 := Aside0.mk (Kd.R_elder' (g38_) (Kd.R_base ho0) hb); replace BK514 := Aside0.mk (blk_below (g := gb514) (o := .cells #[.slice Ao12 t508.length co12, .slice Ao14 t511.length co14] 25 (0, 0)) (by (with_reducible repeat (first | refine blk_drewN ?_ _ | refine blk_drew ?_ | refine blk_alloc ?_ _)); refine blk_put (cs := #[.slice Ao12 t508.length co12, .slice none 0 0]) ?_ 1 _ rfl; (with_reducible repeat (first | refine blk_drewN ?_ _ | refine blk_drew ?_ | refine blk_alloc ?_ _)); refine blk_put (cs := #[.slice none 0 0, .slice none 0 0]) ?_ 0 _ rfl; (with_reducible repeat (first | refine blk_drewN ?_ _ | refine blk_drew ?_ | refine blk_alloc ?_ _)); exact BK514.out) hb); replace HB := Aside0.mk (below_step (qz0_) hb); (try clear hb); (try clear hk hi); (try clear ho0); (try clear ho1)) | ((with_reducible refine gate_dst (N := 4) rfl ?_); (try (refine gate_guard (by rfl) ?_; dsimp only)); refine bx_ (N := 4) #[.slice none 0 0, .slice none 0 0] 25 ?_; intro gb521 hg w16 hbox hb; replace HO510 := Aside0.mk (Kd.R_below (uf1_ HO510) hb); replace HO513 := Aside0.mk (Kd.V_below (Kd.V_elderB (uf5_ HO513) gb521 (Nat.le_of_eq hg.symm)) hb); replace HO517 := Aside0.mk (Kd.R_below (uf1_ HO517) hb); replace HO520 := Aside0.mk (Kd.S_below (uf2_ HO520) hb); have BK521 := Aside0.mk (hbox); have GW521 := Aside0.mk ((g9_ : w.heap.size ≤ gb521)); have GE521 := Aside0.mk ((g9_ : w.heap.size ≤ gb521)); replace HB := Aside0.mk (below_step (qz0_) hb); have NB514_521 := Aside0.mk ((by rw [hg]; exact Nat.ne_of_lt (blk_lt (g := gb514) (o := .cells #[.slice Ao12 t508.length co12, .slice Ao14 t511.length co14] 25 (0, 0)) (uf0_ BK514)) : gb514 ≠ gb521)); have NB521_514 := Aside0.mk ((by rw [hg]; exact Nat.ne_of_gt (blk_lt (g := gb514) (o := .cells #[.slice Ao12 t508.length co12, .slice Ao14 t511.length co14] 25 (0, 0)) (uf0_ BK514)) : gb521 ≠ gb514)); replace BK514 := bb_ BK514 hb; clear hb hbox hg; obtain ⟨Ao17, co17, eo17⟩ := Kd.R_slice HO517.out; subst eo17; have hnb18 := NB521_514.out; have hnc18 := NB514_521.out; obtain ⟨hcz19_0, hcz19_1, hfz19_0, hfz19_1⟩ := blk2_ BK521; obtain ⟨Ao20, co20, eo20⟩ := Kd.S_slice HO520.out; subst eo20))
    have n0_ : Aside0 (Kd.R (Kd.int .i64) 3 ((w16.setCell ⟨gb521, 0, none⟩ (.slice Ao17 t515.length co17)).setCell ⟨gb521, 1, none⟩ (.slice Ao20 t518.length co20)) w.heap.size (fun k_ => some k_ ≠ (.slice Ao17 t515.length co17 : Value).ownBlock) (.slice Ao12 t508.length co12) t508) := ⟨by (with_reducible repeat (first | apply Kd.R_alloc | apply Kd.R_drewN | apply Kd.R_drew)); exact Kd.R_mono (Kd.R_far (p := ⟨gb521, 1, none⟩) (Kd.R_far (p := ⟨gb521, 0, none⟩) (Kd.R_types HO510.out BK521.out (by decide)) (fun _ hk => hk.2) (.slice Ao17 t515.length co17)) (fun _ hk => hk.2) (.slice Ao20 t518.length co20)) (fun _ hk => hk.1.2)⟩
    have n1_ : Aside0 (Kd.V (Kd.slice 3 (Kd.int .i64)) 22 ((w16.setCell ⟨gb521, 0, none⟩ (.slice Ao17 t515.length co17)).setCell ⟨gb521, 1, none⟩ (.slice Ao20 t518.length co20)) w.heap.size (fun k_ => some k_ ≠ (.slice Ao12 t508.length co12 : Value).ownBlock ∧ some k_ ≠ (.slice Ao17 t515.length co17 : Value).ownBlock ∧ some k_ ≠ (.slice Ao20 t518.length co20 : Value).ownBlock ∧ k_ ≠ gb514 ∧ k_ ≠ gb521) (.slice Ao14 t511.length co14) t511) := ⟨by (with_reducible repeat (first | apply Kd.V_alloc | apply Kd.V_drewN | apply Kd.V_drew)); exact Kd.V_mono (Kd.V_far (p := ⟨gb521, 1, none⟩) (Kd.V_far (p := ⟨gb521, 0, none⟩) (Kd.V_mono HO513.out (fun k_ hk => (⟨hk, hk.2⟩ : _ ∧ k_ ≠ gb521))) (fun _ hk => hk.2) (.slice Ao17 t515.length co17)) (fun _ hk => hk.2) (.slice Ao20 t518.length co20)) (fun _ hk => ⟨hk.1.1.1.1.1, ⟨hk.1.1.1.2, ⟨hk.1.1.2, ⟨hk.1.1.1.1.2, hk.1.2⟩⟩⟩⟩)⟩
    have n2_ : Aside0 (Kd.R (Kd.int .i64) 3 ((w16.setCell ⟨gb521, 0, none⟩ (.slice Ao17 t515.length co17)).setCell ⟨gb521, 1, none⟩ (.slice Ao20 t518.length co20)) w.heap.size (fun k_ => some k_ ≠ (.slice Ao12 t508.length co12 : Value).ownBlock) (.slice Ao17 t515.length co17) t515) := ⟨by (with_reducible repeat (first | apply Kd.R_alloc | apply Kd.R_drewN | apply Kd.R_drew)); exact Kd.R_mono (Kd.R_far (p := ⟨gb521, 1, none⟩) (Kd.R_far (p := ⟨gb521, 0, none⟩) (Kd.R_types HO517.out BK521.out (by decide)) (fun _ hk => hk.2) (.slice Ao17 t515.length co17)) (fun _ hk => hk.2) (.slice Ao20 t518.length co20)) (fun _ hk => hk.1.2)⟩
    have n3_ : Aside0 (Kd.S (Kd.slice 3 (Kd.int .i64)) 22 ((w16.setCell ⟨gb521, 0, none⟩ (.slice Ao17 t515.length co17)).setCell ⟨gb521, 1, none⟩ (.slice Ao20 t518.length co20)) w.heap.size (fun k_ => some k_ ≠ (.slice Ao12 t508.length co12 : Value).ownBlock ∧ some k_ ≠ (.slice Ao17 t515.length co17 : Value).ownBlock) (.slice Ao20 t518.length co20) t518) := ⟨by (with_reducible repeat (first | apply Kd.S_alloc | apply Kd.S_drewN | apply Kd.S_drew)); exact Kd.S_mono (Kd.S_far (p := ⟨gb521, 1, none⟩) (Kd.S_far (p := ⟨gb521, 0, none⟩) (Kd.S_types HO520.out BK521.out (by decide)) (fun _ hk => hk.2) (.slice Ao17 t515.length co17)) (fun _ hk => hk.2) (.slice Ao20 t518.length co20)) (fun _ hk => ⟨hk.1.2, hk.1.1⟩)⟩
    have n4_ : Aside0 (((w16.setCell ⟨gb521, 0, none⟩ (.slice Ao17 t515.length co17)).setCell ⟨gb521, 1, none⟩ (.slice Ao20 t518.length co20)).heap[gb514]? = some (.cells #[.slice Ao12 t508.length co12, .slice Ao14 t511.length co14] 25 (0, 0))) := ⟨g39_⟩
    have n5_ : Aside0 (((w16.setCell ⟨gb521, 0, none⟩ (.slice Ao17 t515.length co17)).setCell ⟨gb521, 1, none⟩ (.slice Ao20 t518.length co20)).heap[gb521]? = some (.cells #[.slice Ao17 t515.length co17, .slice Ao20 t518.length co20] 25 (0, 0))) := ⟨by (with_reducible repeat (first | refine blk_drewN ?_ _ | refine blk_drew ?_ | refine blk_alloc ?_ _)); refine blk_put (cs := #[.slice Ao17 t515.length co17, .slice none 0 0]) ?_ 1 _ rfl; (with_reducible repeat (first | refine blk_drewN ?_ _ | refine blk_drew ?_ | refine blk_alloc ?_ _)); refine blk_put (cs := #[.slice none 0 0, .slice none 0 0]) ?_ 0 _ rfl; (with_reducible repeat (first | refine blk_drewN ?_ _ | refine blk_drew ?_ | refine blk_alloc ?_ _)); exact BK521.out⟩
    have n6_ : Aside0 (Below w.heap.size w ((w16.setCell ⟨gb521, 0, none⟩ (.slice Ao17 t515.length co17)).setCell ⟨gb521, 1, none⟩ (.slice Ao20 t518.length co20))) := ⟨qz0_⟩
    (try clear HO510)
    (try clear HO513)
    (try clear HO517)
    (try clear HO520)
    (try clear BK514)
    (try clear BK521)
    (try clear HB)
    generalize ((w16.setCell ⟨gb521, 0, none⟩ (.slice Ao17 t515.length co17)).setCell ⟨gb521, 1, none⟩ (.slice Ao20 t518.length co20)) = w21 at n0_ n1_ n2_ n3_ n4_ n5_ n6_ ⊢
    have HO510 := n0_
    have HO513 := n1_
    have HO517 := n2_
    have HO520 := n3_
    have BK514 := n4_
    have BK521 := n5_
    have HB := n6_
    clear n0_ n1_ n2_ n3_ n4_ n5_ n6_
    replace HO510 := Aside0.mk (Kd.R_drew HO510.out)
    replace HO513 := Aside0.mk (Kd.V_drew HO513.out)
    replace HO517 := Aside0.mk (Kd.R_drew HO517.out)
    replace HO520 := Aside0.mk (Kd.S_drew HO520.out)
    replace BK514 := Aside0.mk (blk_drew BK514.out)
    replace BK521 := Aside0.mk (blk_drew BK521.out)
    replace HB := Aside0.mk (below_drew1 HB.out)
    refine start_ (n := 5) (S := fun w' => w'.cell? ⟨gb521, 0, none⟩ = some (.slice Ao17 t515.length co17) ∧ w'.cell? ⟨gb521, 1, none⟩ = some (.slice Ao20 t518.length co20) ∧ w'.cell? ⟨gb514, 0, none⟩ = some (.slice Ao12 t508.length co12) ∧ w'.cell? ⟨gb514, 1, none⟩ = some (.slice Ao14 t511.length co14)) (ds := []) (tl_ 5 0) (g1_) rfl (g1_) ⟨(blk_cell BK521.out 0).trans rfl, (blk_cell BK521.out 1).trans rfl, (blk_cell BK514.out 0).trans rfl, (blk_cell BK514.out 1).trans rfl⟩ (fun hHeld => ?_)
    generalize w21.drew = w22 at HO510 HO513 HO517 HO520 BK514 BK521 HB hHeld ⊢
    refine take_ (i := 0) (N := some 14) (v := ?_) (a' := ?_) (tl_ 5 1) rfl rfl (g1_) (fun _ _ _ h => h) (Or.inl ⟨by rfl, ?_⟩) hHeld ?_ ?_
    rotate_left
    ·rintro w' ⟨s0, s1, s2, s3⟩
     go_simp
     with_reducible rfl
    rotate_left
    ·simp only [Act.put, List.setIfInBounds_toArray, List.set_cons_zero, List.set_cons_succ, i64_w, i32_w]
     rfl
    refine take_ (i := 1) (N := some 15) (v := ?_) (a' := ?_) (tl_ 5 3) rfl rfl (g1_) (fun _ _ _ h => h) (Or.inl ⟨by rfl, ?_⟩) hHeld ?_ ?_
    rotate_left
    ·rintro w' ⟨s0, s1, s2, s3⟩
     go_simp
     with_reducible rfl
    rotate_left
    ·simp only [Act.put, List.setIfInBounds_toArray, List.set_cons_zero, List.set_cons_succ, i64_w, i32_w]
     rfl
    refine one_ (i := 2) (N := some 16) (tl_ 5 7) rfl rfl (g1_) (by decide) (fun K hK => ?_)
    refine goes_ Try.func41 (g1_) rfl #[.agg #[.slice Ao12 t508.length co12, .slice Ao14 t511.length co14]] (by rfl) rfl rfl (g2_) ?_
    with_reducible refine (spec_Netted.calls k _ _ t508 _ _ t511 t522 t525 _ ?side1 ?side2 ?side3 ?side4 A5.out).mono ?_
    (case side1 => repeat (first | exact (Kd.R_reads' HO510.out).2.2 | (with_reducible refine Kd.C_alloc ?_ _) | (with_reducible refine Kd.C_drewN ?_ _) | (with_reducible refine Kd.C_drew ?_)))
    (case side2 => exact (Kd.R_reads' HO510.out).2.1)
    (case side3 => repeat (first | exact (Kd.V_reads' HO513.out).2.2 | (with_reducible refine Kd.C_alloc ?_ _) | (with_reducible refine Kd.C_drewN ?_ _) | (with_reducible refine Kd.C_drew ?_)))
    (case side4 => exact (Kd.V_reads' HO513.out).2.1)
    rintro e w23 ⟨v523, v526, rfl, ho0, ho1, hb⟩
    refine ⟨_, rfl, ?_⟩
    replace HO513 := Aside0.mk (Kd.V_mono (Kd.V_told (Kd.V_told (Kd.V_old (uf5_ HO513) hb) (Kd.R_base ho0)) (Kd.S_base ho1)) (fun _ h_ => h_.1))
    have HO524 := Aside0.mk (Kd.R_lower (Kd.R_new' (Kd.R_new' ho0 (Kd.R_lt (uf1_ HO510))) (Kd.R_lt (uf1_ HO517))) (below_size (qz0_)))
    have HO527 := Aside0.mk (Kd.S_lower (Kd.S_new' (Kd.S_new' (Kd.S_new' ho1 (Kd.R_lt (uf1_ HO510))) (Kd.R_lt (uf1_ HO517))) (Kd.S_lt (uf2_ HO520))) (below_size (qz0_)))
    replace HO510 := Aside0.mk (Kd.R_elder' (uf1_ HO510) (Kd.R_base ho0) hb)
    replace HO517 := Aside0.mk (Kd.R_elder' (uf1_ HO517) (Kd.R_base ho0) hb)
    replace HO520 := Aside0.mk (Kd.S_mono (Kd.S_told (Kd.S_told (Kd.S_old (uf2_ HO520) hb) (Kd.R_base ho0)) (Kd.S_base ho1)) (fun _ h_ => h_.1))
    replace BK514 := bb_ BK514 hb
    replace BK521 := bb_ BK521 hb
    replace HB := Aside0.mk (below_step (qz0_) hb)
    (try clear hb)
    (try clear hk hi)
    (try clear ho0)
    (try clear ho1)
    obtain ⟨Ao24, co24, eo24⟩ := Kd.R_slice HO524.out
    (first | subst eo24 | (injection eo24 with f1_ f2_ f3_; have f4_ := f1_.symm; have f5_ := f3_.symm; clear f1_ f2_ f3_; subst f4_; subst f5_))
    obtain ⟨Ao25, co25, eo25⟩ := Kd.S_slice HO527.out
    (first | subst eo25 | (injection eo25 with f1_ f2_ f3_; have f4_ := f1_.symm; have f5_ := f3_.symm; clear f1_ f2_ f3_; subst f4_; subst f5_))
    refine hK.out _ _ ⟨(blk_cell BK521.out 0).trans rfl, (blk_cell BK521.out 1).trans rfl, (blk_cell BK514.out 0).trans rfl, (blk_cell BK514.out 1).trans rfl⟩ (fun hHeld => ?_)
    clear hK K
    refine nm_ ?_
    refine one_ (i := 3) (N := some 17) (tl_ 5 15) rfl rfl (g1_) (by decide) (fun K hK => ?_)
    refine goes_ Try.func40 (g1_) rfl #[.agg #[.slice Ao17 t515.length co17, .slice Ao20 t518.length co20], .agg #[.slice Ao24 t522.length co24, .slice Ao25 t525.length co25]] (by rfl) rfl rfl (g2_) ?_
    with_reducible refine (laws_sameBook.calls k _ _ t515 _ _ t518 _ _ t522 _ _ t525 true _ ?side1 ?side2 ?side3 ?side4 ?side5 ?side6 ?side7 ?side8 A6.out).mono ?_
    (case side1 => repeat (first | exact (Kd.R_reads' HO517.out).2.2 | (with_reducible refine Kd.C_alloc ?_ _) | (with_reducible refine Kd.C_drewN ?_ _) | (with_reducible refine Kd.C_drew ?_)))
    (case side2 => exact (Kd.R_reads' HO517.out).2.1)
    (case side3 => repeat (first | exact (Kd.S_reads' HO520.out).2.2 | (with_reducible refine Kd.C_alloc ?_ _) | (with_reducible refine Kd.C_drewN ?_ _) | (with_reducible refine Kd.C_drew ?_)))
    (case side4 => exact (Kd.S_reads' HO520.out).2.1)
    (case side5 => repeat (first | exact (Kd.R_reads' HO524.out).2.2 | (with_reducible refine Kd.C_alloc ?_ _) | (with_reducible refine Kd.C_drewN ?_ _) | (with_reducible refine Kd.C_drew ?_)))
    (case side6 => exact (Kd.R_reads' HO524.out).2.1)
    (case side7 => repeat (first | exact (Kd.S_reads' HO527.out).2.2 | (with_reducible refine Kd.C_alloc ?_ _) | (with_reducible refine Kd.C_drewN ?_ _) | (with_reducible refine Kd.C_drew ?_)))
    (case side8 => exact (Kd.S_reads' HO527.out).2.1)
    rintro e w26 ⟨rfl, hb⟩
    refine ⟨_, rfl, ?_⟩
    replace HO510 := Aside0.mk (Kd.R_below (uf1_ HO510) hb)
    replace HO513 := Aside0.mk (Kd.V_below (uf5_ HO513) hb)
    replace HO517 := Aside0.mk (Kd.R_below (uf1_ HO517) hb)
    replace HO520 := Aside0.mk (Kd.S_below (uf2_ HO520) hb)
    replace HO524 := Aside0.mk (Kd.R_below (uf1_ HO524) hb)
    replace HO527 := Aside0.mk (Kd.S_below (uf2_ HO527) hb)
    replace BK514 := bb_ BK514 hb
    replace BK521 := bb_ BK521 hb
    replace HB := Aside0.mk (below_step (qz0_) hb)
    (try clear hb)
    (try clear hk hi)
    refine hK.out _ _ ⟨(blk_cell BK521.out 0).trans rfl, (blk_cell BK521.out 1).trans rfl, (blk_cell BK514.out 0).trans rfl, (blk_cell BK514.out 1).trans rfl⟩ (fun hHeld => ?_)
    clear hK K
    refine nm_ ?_
    refine pure_ (i := 4) (N := some 18) (v := ?_) (a' := ?_) (tl_ 5 31) rfl rfl (g1_) (fun _ _ _ h => h) (Or.inl ⟨by rfl, ?_⟩) ?_ ?_
    rotate_left
    ·intro w'
     go_simp
     with_reducible rfl
    rotate_left
    ·simp only [Act.put, List.setIfInBounds_toArray, List.set_cons_zero, List.set_cons_succ, i64_w, i32_w]
     rfl
    refine done_ (g1_) ?_
    obtain ⟨hcz27_0, hcz27_1, hfz27_0, hfz27_1⟩ := blk2_ BK514
    try go_wp2_with (first | ((with_reducible refine gate_callee (f := 42) rfl ?_); refine goesL_ (some 20) rfl rfl Try.func42 k_ rfl #[.agg #[.slice Ao12 t508.length co12, .slice Ao14 t511.length co14]] rfl (g2_) ?_; (with_reducible refine (spec_BookOk.calls k _ _ t508 _ _ t511 true _ ?side1 ?side2 ?side3 ?side4 A8.out).mono ?_); (case side1 => repeat (first | exact (Kd.R_reads' HO510.out).2.2 | (with_reducible refine Kd.C_alloc ?_ _) | (with_reducible refine Kd.C_drewN ?_ _) | (with_reducible refine Kd.C_drew ?_))); (case side2 => exact (Kd.R_reads' HO510.out).2.1); (case side3 => repeat (first | exact (Kd.V_reads' HO513.out).2.2 | (with_reducible refine Kd.C_alloc ?_ _) | (with_reducible refine Kd.C_drewN ?_ _) | (with_reducible refine Kd.C_drew ?_))); (case side4 => exact (Kd.V_reads' HO513.out).2.1); rintro e w28 ⟨rfl, hb⟩; refine ⟨_, rfl, ?_⟩; replace HO510 := Aside0.mk (Kd.R_below (uf1_ HO510) hb); replace HO513 := Aside0.mk (Kd.V_below (uf5_ HO513) hb); replace HO517 := Aside0.mk (Kd.R_below (uf1_ HO517) hb); replace HO520 := Aside0.mk (Kd.S_below (uf2_ HO520) hb); replace HO524 := Aside0.mk (Kd.R_below (uf1_ HO524) hb); replace HO527 := Aside0.mk (Kd.S_below (uf2_ HO527) hb); replace BK514 := bb_ BK514 hb; replace BK521 := bb_ BK521 hb; replace HB := Aside0.mk (below_step (qz0_) hb); (try clear hb); (try clear hk hi)))
    go_loopg [5] k (fun kq v5 w' => ∃ (x5_1 : Int), v5 = .int .i64 x5_1 ∧ Aside0 (laws_FnNetted.l0 kq x5_1 t508 t511 t515 t518 = some r) ∧ Aside0 (kq ≤ k) ∧ Aside0 (Kd.R (Kd.int .i64) 3 w' w.heap.size (fun k_ => some k_ ≠ ((.slice Ao17 t515.length co17) : Value).ownBlock) (.slice Ao12 t508.length co12) t508) ∧ Aside0 (Kd.V (Kd.slice 3 (Kd.int .i64)) 22 w' w.heap.size (fun k_ => some k_ ≠ ((.slice Ao12 t508.length co12) : Value).ownBlock ∧ some k_ ≠ ((.slice Ao17 t515.length co17) : Value).ownBlock ∧ some k_ ≠ ((.slice Ao20 t518.length co20) : Value).ownBlock ∧ k_ ≠ gb514 ∧ k_ ≠ gb521) (.slice Ao14 t511.length co14) t511) ∧ Aside0 (Kd.R (Kd.int .i64) 3 w' w.heap.size (fun k_ => some k_ ≠ ((.slice Ao12 t508.length co12) : Value).ownBlock) (.slice Ao17 t515.length co17) t515) ∧ Aside0 (Kd.S (Kd.slice 3 (Kd.int .i64)) 22 w' w.heap.size (fun k_ => some k_ ≠ ((.slice Ao12 t508.length co12) : Value).ownBlock ∧ some k_ ≠ ((.slice Ao17 t515.length co17) : Value).ownBlock) (.slice Ao20 t518.length co20) t518) ∧ Aside0 (w'.heap[gb514]? = some (.cells #[(.slice Ao12 t508.length co12), (.slice Ao14 t511.length co14)] 25 (0, 0))) ∧ Aside0 (w'.heap[gb521]? = some (.cells #[(.slice Ao17 t515.length co17), (.slice Ao20 t518.length co20)] 25 (0, 0))) ∧ Aside0 (Below w.heap.size w w'))
    case atStart => exact ⟨(0), (g3_), H', ⟨Nat.le_refl _⟩, ⟨by (with_reducible repeat (first | apply Kd.R_alloc | apply Kd.R_drewN | apply Kd.R_drew)); exact Kd.R_mono HO510.out (fun _ hk => hk.1)⟩, ⟨by (with_reducible repeat (first | apply Kd.V_alloc | apply Kd.V_drewN | apply Kd.V_drew)); exact Kd.V_mono HO513.out (fun _ hk => ⟨hk.1.1.1, ⟨hk.1.1.2.1, ⟨hk.1.1.2.2.1, ⟨hk.1.1.2.2.2.1, hk.1.1.2.2.2.2⟩⟩⟩⟩)⟩, ⟨by (with_reducible repeat (first | apply Kd.R_alloc | apply Kd.R_drewN | apply Kd.R_drew)); exact Kd.R_mono HO517.out (fun _ hk => hk.1)⟩, ⟨by (with_reducible repeat (first | apply Kd.S_alloc | apply Kd.S_drewN | apply Kd.S_drew)); exact Kd.S_mono HO520.out (fun _ hk => ⟨hk.1.1.1, hk.1.1.2⟩)⟩, ⟨uf0_ BK514⟩, ⟨uf0_ BK521⟩, ⟨qz0_⟩⟩
    case round =>
     clear H'
     try clear c1
     try clear c2
     try clear c2b0
     try clear c2b1
     try clear p2
     try clear c3
     try clear c4
     try clear c7
     try clear c8
     try clear c9
     try clear c18
     try clear hcz13_0
     try clear hcz13_1
     try clear hcz19_0
     try clear hcz19_1
     try clear hcz27_0
     try clear hcz27_1
     try clear hfz13_0
     try clear hfz13_1
     try clear hfz19_0
     try clear hfz19_1
     try clear hfz27_0
     try clear hfz27_1
     obtain ⟨x5_1, rfl, HA, HK1, HO_515000, HO_515001, HO_522000, HO_522001, BK514, BK521, HB⟩ := hrel
     cases gk with
     | zero => exact absurd HA.out (by simp [laws_FnNetted.l0])
     | succ k1 =>
      have H := HA.out
      clear HA
      simp only [laws_FnNetted.l0] at H
      by_cases c29 : x5_1 < (t518.length : Int)
      ·rw [if_pos c29] at H
       have c29b0 := decide_eq_true c29
       clear c29
       have H' := Aside0.mk H
       clear H
       have hnb30 := NB521_514.out
       have hnc30 := NB514_521.out
       obtain ⟨hcz31_0, hcz31_1, hfz31_0, hfz31_1⟩ := blk2_ BK521
       go_wp2
       go_loopg [6] k1 (fun kq v6 w' => ∃ (x6_2 : Int), v6 = .int .i64 x6_2 ∧ Aside0 (laws_FnNetted.l1 kq x5_1 x6_2 t508 t511 t515 t518 = some r) ∧ Aside0 (kq ≤ k1) ∧ Aside0 (Kd.R (Kd.int .i64) 3 w' w.heap.size (fun k_ => some k_ ≠ ((.slice Ao17 t515.length co17) : Value).ownBlock) (.slice Ao12 t508.length co12) t508) ∧ Aside0 (Kd.V (Kd.slice 3 (Kd.int .i64)) 22 w' w.heap.size (fun k_ => some k_ ≠ ((.slice Ao12 t508.length co12) : Value).ownBlock ∧ some k_ ≠ ((.slice Ao17 t515.length co17) : Value).ownBlock ∧ some k_ ≠ ((.slice Ao20 t518.length co20) : Value).ownBlock ∧ k_ ≠ gb514 ∧ k_ ≠ gb521) (.slice Ao14 t511.length co14) t511) ∧ Aside0 (Kd.R (Kd.int .i64) 3 w' w.heap.size (fun k_ => some k_ ≠ ((.slice Ao12 t508.length co12) : Value).ownBlock) (.slice Ao17 t515.length co17) t515) ∧ Aside0 (Kd.S (Kd.slice 3 (Kd.int .i64)) 22 w' w.heap.size (fun k_ => some k_ ≠ ((.slice Ao12 t508.length co12) : Value).ownBlock ∧ some k_ ≠ ((.slice Ao17 t515.length co17) : Value).ownBlock) (.slice Ao20 t518.length co20) t518) ∧ Aside0 (w'.heap[gb514]? = some (.cells #[(.slice Ao12 t508.length co12), (.slice Ao14 t511.length co14)] 25 (0, 0))) ∧ Aside0 (w'.heap[gb521]? = some (.cells #[(.slice Ao17 t515.length co17), (.slice Ao20 t518.length co20)] 25 (0, 0))) ∧ Aside0 (Below w.heap.size w w'))
       case atStart => exact ⟨(0), (g3_), H', ⟨Nat.le_refl _⟩, ⟨uf1_ HO_515000⟩, ⟨uf5_ HO_515001⟩, ⟨uf1_ HO_522000⟩, ⟨uf2_ HO_522001⟩, ⟨uf0_ BK514⟩, ⟨uf0_ BK521⟩, ⟨qz0_⟩⟩
       case round =>
        clear H'
        try clear c1
        try clear c2
        try clear c2b0
        try clear c2b1
        try clear p2
        try clear c3
        try clear c4
        try clear c7
        try clear c8
        try clear c9
        try clear c18
        try clear c29
        try clear c29b0
        try clear c30
        try clear hcz13_0
        try clear hcz13_1
        try clear hcz19_0
        try clear hcz19_1
        try clear hcz27_0
        try clear hcz27_1
        try clear hcz31_0
        try clear hcz31_1
        try clear hfz13_0
        try clear hfz13_1
        try clear hfz19_0
        try clear hfz19_1
        try clear hfz27_0
        try clear hfz27_1
        try clear hfz31_0
        try clear hfz31_1
        try clear p2
        obtain ⟨x6_2, rfl, HA, HK2, HO_515000, HO_515001, HO_522000, HO_522001, BK514, BK521, HB⟩ := hrel
        cases gk with
        | zero => exact absurd HA.out (by simp [laws_FnNetted.l1])
        | succ k2 =>
         have H := HA.out
         clear HA
         simp only [laws_FnNetted.l1] at H
         have HC32 := Aside0.mk H
         clear H
         go_upto_region 13 with (fail)
         go_cut [46] (fun v46 wc => ∃ (kq : Nat) (x46_31 : Bool), v46 = .bool x46_31 ∧ Aside0 (laws_FnNetted.j2 kq x5_1 x6_2 x46_31 t508 t511 t515 t518 = some r) ∧ Aside0 (kq ≤ k2) ∧ Aside0 (Kd.R (Kd.int .i64) 3 wc w.heap.size (fun k_ => some k_ ≠ ((.slice Ao17 t515.length co17) : Value).ownBlock) (.slice Ao12 t508.length co12) t508) ∧ Aside0 (Kd.V (Kd.slice 3 (Kd.int .i64)) 22 wc w.heap.size (fun k_ => some k_ ≠ ((.slice Ao12 t508.length co12) : Value).ownBlock ∧ some k_ ≠ ((.slice Ao17 t515.length co17) : Value).ownBlock ∧ some k_ ≠ ((.slice Ao20 t518.length co20) : Value).ownBlock ∧ k_ ≠ gb514 ∧ k_ ≠ gb521) (.slice Ao14 t511.length co14) t511) ∧ Aside0 (Kd.R (Kd.int .i64) 3 wc w.heap.size (fun k_ => some k_ ≠ ((.slice Ao12 t508.length co12) : Value).ownBlock) (.slice Ao17 t515.length co17) t515) ∧ Aside0 (Kd.S (Kd.slice 3 (Kd.int .i64)) 22 wc w.heap.size (fun k_ => some k_ ≠ ((.slice Ao12 t508.length co12) : Value).ownBlock ∧ some k_ ≠ ((.slice Ao17 t515.length co17) : Value).ownBlock) (.slice Ao20 t518.length co20) t518) ∧ Aside0 (wc.heap[gb514]? = some (.cells #[(.slice Ao12 t508.length co12), (.slice Ao14 t511.length co14)] 25 (0, 0))) ∧ Aside0 (wc.heap[gb521]? = some (.cells #[(.slice Ao17 t515.length co17), (.slice Ao20 t518.length co20)] 25 (0, 0))) ∧ Aside0 (Below w.heap.size w wc))
         case first =>
          have H := HC32.out
          clear HC32
          by_cases c33 : x6_2 < x5_1
          ·rw [if_pos c33] at H
           have c33b0 := decide_eq_true c33
           clear c33
           (first | rw [c33b0] | (simp only [i64_w, i32_w]; rw [c33b0]) | skip)
           obtain ⟨c34, H⟩ := pos_ H
           have c34b0 := decide_eq_true c34
           clear c34
           obtain ⟨c35, H⟩ := pos_ H
           have c35b0 := decide_eq_true c35
           clear c35
           have H' := Aside0.mk H
           clear H
           have hnb36 := NB521_514.out
           have hnc36 := NB514_521.out
           obtain ⟨hcz37_0, hcz37_1, hfz37_0, hfz37_1⟩ := blk2_ BK521
           have p532 : 0 ≤ (x5_1 : Int) := of_decide_eq_true (g0_)
           have q532 : x5_1 < (t518.length : Int) := of_decide_eq_true (g0_)
           obtain ⟨ad532, A532_0, c532_0, e532, hx532_0, hl532_0, hi532_0⟩ := at_L1 (Kd.S_reads' HO_522001.out).2.2 x5_1 p532 q532
           cases e532
           obtain ⟨ce532, hce532, hMe532, hcc532⟩ := Kd.S_get HO_522001.out [] x5_1 p532 (by first | exact q532 | exact of_decide_eq_true (g0_) | (have e_ := (Kd.S_reads' HO_522001.out).1; omega))
           obtain ⟨ve532_0, rfl, ge532_0⟩ := hMe532
           have hv532_0 := hcc532 0 _ rfl
           rw [Nat.add_zero, show ((Kd.slice 3 (Kd.int .i64))).sz = 1 from rfl, Nat.mul_one] at hv532_0
           replace hv532_0 := Option.some.inj (hv532_0.symm.trans hx532_0)
           rw [hv532_0] at ge532_0
           have HL532_0 := Aside0.mk (show Kd.R (Kd.int .i64) 3 _ _ _ _ (rd_L1 t518 x5_1) from ge532_0)
           clear hv532_0 ge532_0
           clear hcc532 hce532
           have HR532_0 := Aside0.mk hi532_0
           have HC532_0 := Aside0.mk hl532_0
           clear hi532_0 hl532_0
           replace p532 := eq_true p532
           replace q532 := eq_true q532
           go_wp2
           go_meet
           case rel => exact ⟨_, (decide (x6_2 < ((rd_L1 t518 x5_1).length : Int))), (g3_), H', ⟨by have := HK1.out; have := HK2.out; first | omega | exact Nat.le_refl _⟩, ⟨uf1_ HO_515000⟩, ⟨uf5_ HO_515001⟩, ⟨uf1_ HO_522000⟩, ⟨uf2_ HO_522001⟩, ⟨uf0_ BK514⟩, ⟨uf0_ BK521⟩, ⟨qz0_⟩⟩
          ·rw [if_neg c33] at H
           have c33b0 := decide_eq_false c33
           clear c33
           (first | rw [c33b0] | (simp only [i64_w, i32_w]; rw [c33b0]) | skip)
           have H' := Aside0.mk H
           clear H
           go_wp2
           go_meet
           case rel => exact ⟨_, (false), (g3_), H', ⟨by have := HK1.out; have := HK2.out; first | omega | exact Nat.le_refl _⟩, ⟨uf1_ HO_515000⟩, ⟨uf5_ HO_515001⟩, ⟨uf1_ HO_522000⟩, ⟨uf2_ HO_522001⟩, ⟨uf0_ BK514⟩, ⟨uf0_ BK521⟩, ⟨qz0_⟩⟩
         case rest =>
          clear HC32
          try clear c1
          try clear c2
          try clear c2b0
          try clear c2b1
          try clear p2
          try clear c3
          try clear c4
          try clear c5
          try clear p5
          try clear q5
          try clear hx5
          try clear c7
          try clear c8
          try clear c9
          try clear c18
          try clear c29
          try clear c29b0
          try clear c30
          try clear c33
          try clear c33b0
          try clear c34
          try clear c34b0
          try clear c35
          try clear c35b0
          try clear c36
          try clear hcz13_0
          try clear hcz13_1
          try clear hcz19_0
          try clear hcz19_1
          try clear hcz27_0
          try clear hcz27_1
          try clear hcz31_0
          try clear hcz31_1
          try clear hcz37_0
          try clear hcz37_1
          try clear hfz13_0
          try clear hfz13_1
          try clear hfz19_0
          try clear hfz19_1
          try clear hfz27_0
          try clear hfz27_1
          try clear hfz31_0
          try clear hfz31_1
          try clear hfz37_0
          try clear hfz37_1
          try clear hx532_0
          try clear p2
          try clear p532
          try clear q532
          obtain ⟨kq, x46_31, rfl, HA, HJ31, HO_515000, HO_515001, HO_522000, HO_522001, BK514, BK521, HB⟩ := hcut
          cases kq with
          | zero => exact absurd HA.out (by simp [laws_FnNetted.j2])
          | succ kj31 =>
           have H := HA.out
           clear HA
           simp only [laws_FnNetted.j2] at H
           by_cases c38 : x46_31 = true
           ·subst c38
            replace H := ifp_ H
            obtain ⟨c39, H⟩ := pos_ H
            have c39b0 := decide_eq_true c39
            clear c39
            obtain ⟨c40, H⟩ := pos_ H
            have c40b0 := decide_eq_true c40
            clear c40
            obtain ⟨c41, H⟩ := pos_ H
            have c41b0 := decide_eq_true c41
            clear c41
            obtain ⟨c42, H⟩ := pos_ H
            have c42b0 := decide_eq_true c42
            clear c42
            by_cases c43 : (rd (rd_L1 t518 x5_1) x6_2) > 0
            ·rw [if_pos c43] at H
             have c43b0 := decide_eq_true c43
             clear c43
             obtain ⟨c44, H⟩ := pos_ H
             have c44b0 := decide_eq_true c44
             clear c44
             obtain ⟨c45, H⟩ := pos_ H
             have c45b0 := decide_eq_true c45
             clear c45
             by_cases c46 : (rd (rd_L1 t518 x6_2) x5_1) > 0
             ·rw [if_pos c46] at H
              have c46b0 := decide_eq_true c46
              clear c46
              obtain rfl := Option.some.inj H
              have hnb47 := NB521_514.out
              have hnc47 := NB514_521.out
              obtain ⟨hcz48_0, hcz48_1, hfz48_0, hfz48_1⟩ := blk2_ BK521
              have p533 : 0 ≤ (x5_1 : Int) := of_decide_eq_true (g0_)
              have q533 : x5_1 < (t518.length : Int) := of_decide_eq_true (g0_)
              obtain ⟨ad533, A533_0, c533_0, e533, hx533_0, hl533_0, hi533_0⟩ := at_L1 (Kd.S_reads' HO_522001.out).2.2 x5_1 p533 q533
              cases e533
              obtain ⟨ce533, hce533, hMe533, hcc533⟩ := Kd.S_get HO_522001.out [] x5_1 p533 (g55_)
              obtain ⟨ve533_0, rfl, ge533_0⟩ := hMe533
              have hv533_0 := hcc533 0 _ rfl
              rw [Nat.add_zero, show ((Kd.slice 3 (Kd.int .i64))).sz = 1 from rfl, Nat.mul_one] at hv533_0
              replace hv533_0 := Option.some.inj (hv533_0.symm.trans hx533_0)
              rw [hv533_0] at ge533_0
              have HL533_0 := Aside0.mk (show Kd.R (Kd.int .i64) 3 _ _ _ _ (rd_L1 t518 x5_1) from ge533_0)
              clear hv533_0 ge533_0
              clear hcc533 hce533
              have HR533_0 := Aside0.mk hi533_0
              have HC533_0 := Aside0.mk hl533_0
              clear hi533_0 hl533_0
              replace p533 := eq_true p533
              replace q533 := eq_true q533
              have p534 : 0 ≤ (x6_2 : Int) := of_decide_eq_true (g0_)
              have q534 : x6_2 < ((rd_L1 t518 x5_1).length : Int) := of_decide_eq_true (g0_)
              obtain ⟨ad534, e534, hx534_0⟩ := Kd.at_int (g56_) x6_2 p534 q534
              cases e534
              replace p534 := eq_true p534
              replace q534 := eq_true q534
              have p535 : 0 ≤ (x6_2 : Int) := of_decide_eq_true (g0_)
              have q535 : x6_2 < (t518.length : Int) := of_decide_eq_true (g0_)
              obtain ⟨ad535, A535_0, c535_0, e535, hx535_0, hl535_0, hi535_0⟩ := at_L1 (Kd.S_reads' HO_522001.out).2.2 x6_2 p535 q535
              obtain rfl : ad533 = ad535 := (by injection e535)
              obtain ⟨ce535, hce535, hMe535, hcc535⟩ := Kd.S_get HO_522001.out [] x6_2 p535 (by first | exact q535 | exact of_decide_eq_true (g0_) | (have e_ := (Kd.S_reads' HO_522001.out).1; omega))
              obtain ⟨ve535_0, rfl, ge535_0⟩ := hMe535
              have hv535_0 := hcc535 0 _ rfl
              rw [Nat.add_zero, show ((Kd.slice 3 (Kd.int .i64))).sz = 1 from rfl, Nat.mul_one] at hv535_0
              replace hv535_0 := Option.some.inj (hv535_0.symm.trans hx535_0)
              rw [hv535_0] at ge535_0
              have HL535_0 := Aside0.mk (show Kd.R (Kd.int .i64) 3 _ _ _ _ (rd_L1 t518 x6_2) from ge535_0)
              clear hv535_0 ge535_0
              clear hcc535 hce535
              have HR535_0 := Aside0.mk hi535_0
              have HC535_0 := Aside0.mk hl535_0
              clear hi535_0 hl535_0
              replace p535 := eq_true p535
              replace q535 := eq_true q535
              have p536 : 0 ≤ (x5_1 : Int) := of_decide_eq_true (g0_)
              have q536 : x5_1 < ((rd_L1 t518 x6_2).length : Int) := of_decide_eq_true (g0_)
              obtain ⟨ad536, e536, hx536_0⟩ := Kd.at_int (by repeat (first | (with_reducible exact HR535_0.out) | (with_reducible refine Kd.C_alloc ?_ _) | (with_reducible refine Kd.C_drewN ?_ _) | (with_reducible refine Kd.C_drew ?_) | exact HR535_0.out)) x5_1 p536 q536
              cases e536
              replace p536 := eq_true p536
              replace q536 := eq_true q536
              go_wp2
              go_ret
              exact ⟨g4_, qz0_⟩
             ·rw [if_neg c46] at H
              have c46b0 := decide_eq_false c46
              clear c46
              have H' := Aside0.mk H
              clear H
              have hnb49 := NB521_514.out
              have hnc49 := NB514_521.out
              obtain ⟨hcz50_0, hcz50_1, hfz50_0, hfz50_1⟩ := blk2_ BK521
              have p533 : 0 ≤ (x5_1 : Int) := of_decide_eq_true (g0_)
              have q533 : x5_1 < (t518.length : Int) := of_decide_eq_true (g0_)
              obtain ⟨ad533, A533_0, c533_0, e533, hx533_0, hl533_0, hi533_0⟩ := at_L1 (Kd.S_reads' HO_522001.out).2.2 x5_1 p533 q533
              cases e533
              obtain ⟨ce533, hce533, hMe533, hcc533⟩ := Kd.S_get HO_522001.out [] x5_1 p533 (g55_)
              obtain ⟨ve533_0, rfl, ge533_0⟩ := hMe533
              have hv533_0 := hcc533 0 _ rfl
              rw [Nat.add_zero, show ((Kd.slice 3 (Kd.int .i64))).sz = 1 from rfl, Nat.mul_one] at hv533_0
              replace hv533_0 := Option.some.inj (hv533_0.symm.trans hx533_0)
              rw [hv533_0] at ge533_0
              have HL533_0 := Aside0.mk (show Kd.R (Kd.int .i64) 3 _ _ _ _ (rd_L1 t518 x5_1) from ge533_0)
              clear hv533_0 ge533_0
              clear hcc533 hce533
              have HR533_0 := Aside0.mk hi533_0
              have HC533_0 := Aside0.mk hl533_0
              clear hi533_0 hl533_0
              replace p533 := eq_true p533
              replace q533 := eq_true q533
              have p534 : 0 ≤ (x6_2 : Int) := of_decide_eq_true (g0_)
              have q534 : x6_2 < ((rd_L1 t518 x5_1).length : Int) := of_decide_eq_true (g0_)
              obtain ⟨ad534, e534, hx534_0⟩ := Kd.at_int (g56_) x6_2 p534 q534
              cases e534
              replace p534 := eq_true p534
              replace q534 := eq_true q534
              have p535 : 0 ≤ (x6_2 : Int) := of_decide_eq_true (g0_)
              have q535 : x6_2 < (t518.length : Int) := of_decide_eq_true (g0_)
              obtain ⟨ad535, A535_0, c535_0, e535, hx535_0, hl535_0, hi535_0⟩ := at_L1 (Kd.S_reads' HO_522001.out).2.2 x6_2 p535 q535
              obtain rfl : ad533 = ad535 := (by injection e535)
              obtain ⟨ce535, hce535, hMe535, hcc535⟩ := Kd.S_get HO_522001.out [] x6_2 p535 (by first | exact q535 | exact of_decide_eq_true (g0_) | (have e_ := (Kd.S_reads' HO_522001.out).1; omega))
              obtain ⟨ve535_0, rfl, ge535_0⟩ := hMe535
              have hv535_0 := hcc535 0 _ rfl
              rw [Nat.add_zero, show ((Kd.slice 3 (Kd.int .i64))).sz = 1 from rfl, Nat.mul_one] at hv535_0
              replace hv535_0 := Option.some.inj (hv535_0.symm.trans hx535_0)
              rw [hv535_0] at ge535_0
              have HL535_0 := Aside0.mk (show Kd.R (Kd.int .i64) 3 _ _ _ _ (rd_L1 t518 x6_2) from ge535_0)
              clear hv535_0 ge535_0
              clear hcc535 hce535
              have HR535_0 := Aside0.mk hi535_0
              have HC535_0 := Aside0.mk hl535_0
              clear hi535_0 hl535_0
              replace p535 := eq_true p535
              replace q535 := eq_true q535
              have p536 : 0 ≤ (x5_1 : Int) := of_decide_eq_true (g0_)
              have q536 : x5_1 < ((rd_L1 t518 x6_2).length : Int) := of_decide_eq_true (g0_)
              obtain ⟨ad536, e536, hx536_0⟩ := Kd.at_int (by repeat (first | (with_reducible exact HR535_0.out) | (with_reducible refine Kd.C_alloc ?_ _) | (with_reducible refine Kd.C_drewN ?_ _) | (with_reducible refine Kd.C_drew ?_) | exact HR535_0.out)) x5_1 p536 q536
              cases e536
              replace p536 := eq_true p536
              replace q536 := eq_true q536
              go_wp2
              go_roundg kj31
              case measure => have := HK1.out; have := HK2.out; have := HJ31.out; omega
              case rel => exact ⟨(wrap64 (x6_2 + 1)), (g3_), H', ⟨g57_⟩, ⟨uf1_ HO_515000⟩, ⟨uf5_ HO_515001⟩, ⟨uf1_ HO_522000⟩, ⟨uf2_ HO_522001⟩, ⟨uf0_ BK514⟩, ⟨uf0_ BK521⟩, ⟨qz0_⟩⟩
            ·rw [if_neg c43] at H
             have c43b0 := decide_eq_false c43
             clear c43
             have H' := Aside0.mk H
             clear H
             have hnb51 := NB521_514.out
             have hnc51 := NB514_521.out
             obtain ⟨hcz52_0, hcz52_1, hfz52_0, hfz52_1⟩ := blk2_ BK521
             have p533 : 0 ≤ (x5_1 : Int) := of_decide_eq_true (g0_)
             have q533 : x5_1 < (t518.length : Int) := of_decide_eq_true (g0_)
             obtain ⟨ad533, A533_0, c533_0, e533, hx533_0, hl533_0, hi533_0⟩ := at_L1 (Kd.S_reads' HO_522001.out).2.2 x5_1 p533 q533
             cases e533
             obtain ⟨ce533, hce533, hMe533, hcc533⟩ := Kd.S_get HO_522001.out [] x5_1 p533 (g55_)
             obtain ⟨ve533_0, rfl, ge533_0⟩ := hMe533
             have hv533_0 := hcc533 0 _ rfl
             rw [Nat.add_zero, show ((Kd.slice 3 (Kd.int .i64))).sz = 1 from rfl, Nat.mul_one] at hv533_0
             replace hv533_0 := Option.some.inj (hv533_0.symm.trans hx533_0)
             rw [hv533_0] at ge533_0
             have HL533_0 := Aside0.mk (show Kd.R (Kd.int .i64) 3 _ _ _ _ (rd_L1 t518 x5_1) from ge533_0)
             clear hv533_0 ge533_0
             clear hcc533 hce533
             have HR533_0 := Aside0.mk hi533_0
             have HC533_0 := Aside0.mk hl533_0
             clear hi533_0 hl533_0
             replace p533 := eq_true p533
             replace q533 := eq_true q533
             have p534 : 0 ≤ (x6_2 : Int) := of_decide_eq_true (g0_)
             have q534 : x6_2 < ((rd_L1 t518 x5_1).length : Int) := of_decide_eq_true (g0_)
             obtain ⟨ad534, e534, hx534_0⟩ := Kd.at_int (g56_) x6_2 p534 q534
             cases e534
             replace p534 := eq_true p534
             replace q534 := eq_true q534
             go_wp2
             go_roundg kj31
             case measure => have := HK1.out; have := HK2.out; have := HJ31.out; omega
             case rel => exact ⟨(wrap64 (x6_2 + 1)), (g3_), H', ⟨g57_⟩, ⟨uf1_ HO_515000⟩, ⟨uf5_ HO_515001⟩, ⟨uf1_ HO_522000⟩, ⟨uf2_ HO_522001⟩, ⟨uf0_ BK514⟩, ⟨uf0_ BK521⟩, ⟨qz0_⟩⟩
           ·replace c38 := Bool.eq_false_iff.mpr c38
            subst c38
            replace H := ifn_ H
            have H' := Aside0.mk H
            clear H
            go_wp2
            go_roundg kj31
            case measure => have := HK1.out; have := HK2.out; have := HJ31.out; omega
            case rel => exact ⟨(wrap64 (x5_1 + 1)), (g3_), H', ⟨g57_⟩, ⟨uf1_ HO_515000⟩, ⟨uf5_ HO_515001⟩, ⟨uf1_ HO_522000⟩, ⟨uf2_ HO_522001⟩, ⟨uf0_ BK514⟩, ⟨uf0_ BK521⟩, ⟨qz0_⟩⟩
      ·rw [if_neg c29] at H
       have c29b0 := decide_eq_false c29
       clear c29
       obtain ⟨t537, A53, H⟩ := bind_ H
       by_cases c54 : t537 = true
       ·subst c54
        replace H := ifp_ H
        obtain ⟨t538, A55, H⟩ := bind_ H
        obtain ⟨t541, A56, H⟩ := bind_ H
        obtain ⟨t544, A57, H⟩ := bind_ H
        by_cases c58 : t544 = true
        ·subst c58
         replace H := ifp_ H
         replace H := Option.bind_eq_some_iff.mp H
         obtain ⟨⟨t545, t548⟩, A590, H⟩ := H
         replace H : ((laws_sameBook.f k1 t545 t548 t515 t518).bind fun t551 => (if t551 = true then ((impl_AllDebts.f k1 t515 t518).bind fun t552 => ((impl_AllDebts.f k1 t508 t511).bind fun t553 => (if t552 ≤ t553 then ((laws_sameInts.f k1 t515 t508).bind fun t554 => (some t554)) else (some false)))) else (some false))) = some r := H
         have A59 := Aside0.mk A590
         clear A590
         obtain ⟨t551, A60, H⟩ := bind_ H
         by_cases c61 : t551 = true
         ·subst c61
          replace H := ifp_ H
          obtain ⟨t552, A62, H⟩ := bind_ H
          obtain ⟨t553, A63, H⟩ := bind_ H
          by_cases c64 : t552 ≤ t553
          ·rw [if_pos c64] at H
           have c64b0 := decide_eq_true c64
           clear c64
           obtain ⟨t554, A65, H⟩ := bind_ H
           obtain rfl := Option.some.inj H
           have hnb66 := NB521_514.out
           have hnc66 := NB514_521.out
           obtain ⟨hcz67_0, hcz67_1, hfz67_0, hfz67_1⟩ := blk2_ BK521
           try go_wp2
           replace HO_515000 := Aside0.mk (Kd.R_drew HO_515000.out)
           replace HO_515001 := Aside0.mk (Kd.V_drew HO_515001.out)
           replace HO_522000 := Aside0.mk (Kd.R_drew HO_522000.out)
           replace HO_522001 := Aside0.mk (Kd.S_drew HO_522001.out)
           replace BK514 := Aside0.mk (blk_drew BK514.out)
           replace BK521 := Aside0.mk (blk_drew BK521.out)
           replace HB := Aside0.mk (below_drew1 HB.out)
           refine start_ (n := 30) (S := fun w' => w'.cell? ⟨gb521, 0, none⟩ = some (.slice Ao17 t515.length co17) ∧ w'.cell? ⟨gb521, 1, none⟩ = some (.slice Ao20 t518.length co20) ∧ w'.cell? ⟨gb514, 0, none⟩ = some (.slice Ao12 t508.length co12) ∧ w'.cell? ⟨gb514, 1, none⟩ = some (.slice Ao14 t511.length co14)) (ds := []) (tl_ 30 0) (g1_) rfl (g1_) ⟨(blk_cell BK521.out 0).trans rfl, (blk_cell BK521.out 1).trans rfl, (blk_cell BK514.out 0).trans rfl, (blk_cell BK514.out 1).trans rfl⟩ (fun hHeld => ?_); refine with_tabW laws_FnNetted.tab17 laws_FnNetted.bits17 (fun HT_ HW_ => ?_)
           generalize wr.drew = w68 at HO_515000 HO_515001 HO_522000 HO_522001 BK514 BK521 HB hHeld ⊢
           refine tk2_ 0 69 (tl_ 30 1) rfl rfl hHeld ?_
           refine one_ (i := 1) (N := some 70) (tl_ 30 3) rfl rfl (one_of HT_.out (g1_)) (by decide) (fun K hK => ?_)
           refine goes_ Try.func44 (g1_) rfl #[.agg #[.slice Ao17 t515.length co17, .slice Ao20 t518.length co20]] (by rfl) rfl rfl (g2_) ?_
           with_reducible refine (impl_BookOk.calls k1 _ _ t515 _ _ t518 true _ ?side1 ?side2 ?side3 ?side4 A53.out).mono ?_
           (case side1 => repeat (first | exact (Kd.R_reads' HO_522000.out).2.2 | (with_reducible refine Kd.C_alloc ?_ _) | (with_reducible refine Kd.C_drewN ?_ _) | (with_reducible refine Kd.C_drew ?_)))
           (case side2 => exact (Kd.R_reads' HO_522000.out).2.1)
           (case side3 => repeat (first | exact (Kd.S_reads' HO_522001.out).2.2 | (with_reducible refine Kd.C_alloc ?_ _) | (with_reducible refine Kd.C_drewN ?_ _) | (with_reducible refine Kd.C_drew ?_)))
           (case side4 => exact (Kd.S_reads' HO_522001.out).2.1)
           rintro e w69 ⟨rfl, hb⟩
           refine ⟨_, rfl, ?_⟩
           replace HO_515000 := Aside0.mk (Kd.R_below (uf1_ HO_515000) hb)
           replace HO_515001 := Aside0.mk (Kd.V_below (uf5_ HO_515001) hb)
           replace HO_522000 := Aside0.mk (Kd.R_below (uf1_ HO_522000) hb)
           replace HO_522001 := Aside0.mk (Kd.S_below (uf2_ HO_522001) hb)
           replace BK514 := bb_ BK514 hb
           replace BK521 := bb_ BK521 hb
           replace HB := Aside0.mk (below_step (qz0_) hb)
           (try clear hb)
           (try clear hk hi)
           refine hK.out _ _ ⟨(blk_cell BK521.out 0).trans rfl, (blk_cell BK521.out 1).trans rfl, (blk_cell BK514.out 0).trans rfl, (blk_cell BK514.out 1).trans rfl⟩ (fun hHeld => ?_)
           clear hK K
           refine nm_ ?_
           refine pw_ 2 71 (tl_ 30 7) rfl rfl ?_
           refine tk2_ 3 72 (tl_ 30 15) rfl rfl hHeld ?_
           refine tk2_ 5 74 (tl_ 30 47) rfl rfl hHeld ?_
           refine one_ (i := 4) (N := some 73) (tl_ 30 63) rfl rfl (one_of HT_.out (g1_)) (by decide) (fun K hK => ?_)
           refine goes_ Try.func46 (g1_) rfl #[.agg #[.slice Ao17 t515.length co17, .slice Ao20 t518.length co20]] (by rfl) rfl rfl (g2_) ?_
           with_reducible refine (impl_NetsOf.calls k1 _ _ t515 _ _ t518 t538 _ ?side1 ?side2 ?side3 ?side4 A55.out).mono ?_
           (case side1 => repeat (first | exact (Kd.R_reads' HO_522000.out).2.2 | (with_reducible refine Kd.C_alloc ?_ _) | (with_reducible refine Kd.C_drewN ?_ _) | (with_reducible refine Kd.C_drew ?_)))
           (case side2 => exact (Kd.R_reads' HO_522000.out).2.1)
           (case side3 => repeat (first | exact (Kd.S_reads' HO_522001.out).2.2 | (with_reducible refine Kd.C_alloc ?_ _) | (with_reducible refine Kd.C_drewN ?_ _) | (with_reducible refine Kd.C_drew ?_)))
           (case side4 => exact (Kd.S_reads' HO_522001.out).2.1)
           rintro e w70 ⟨v539, rfl, ho0, hb⟩
           refine ⟨_, rfl, ?_⟩
           replace HO_515001 := Aside0.mk (Kd.V_elder' (uf5_ HO_515001) (Kd.R_base ho0) hb)
           replace HO_522001 := Aside0.mk (Kd.S_elder' (uf2_ HO_522001) (Kd.R_base ho0) hb)
           have HO540 := Aside0.mk (Kd.R_lower (Kd.R_new' (Kd.R_new' ho0 (Kd.R_lt (uf1_ HO_515000))) (Kd.R_lt (uf1_ HO_522000))) (below_size (qz0_)))
           replace HO_515000 := Aside0.mk (Kd.R_elder' (uf1_ HO_515000) (Kd.R_base ho0) hb)
           replace HO_522000 := Aside0.mk (Kd.R_elder' (uf1_ HO_522000) (Kd.R_base ho0) hb)
           replace BK514 := bb_ BK514 hb
           replace BK521 := bb_ BK521 hb
           replace HB := Aside0.mk (below_step (qz0_) hb)
           (try clear hb)
           (try clear hk hi)
           (try clear ho0)
           refine hK.out _ _ ⟨(blk_cell BK521.out 0).trans rfl, (blk_cell BK521.out 1).trans rfl, (blk_cell BK514.out 0).trans rfl, (blk_cell BK514.out 1).trans rfl⟩ (fun hHeld => ?_)
           clear hK K
           refine nm_ ?_
           refine one_ (i := 6) (N := some 75) (tl_ 30 127) rfl rfl (one_of HT_.out (g1_)) (by decide) (fun K hK => ?_)
           refine goes_ Try.func46 (g1_) rfl #[.agg #[.slice Ao12 t508.length co12, .slice Ao14 t511.length co14]] (by rfl) rfl rfl (g2_) ?_
           with_reducible refine (impl_NetsOf.calls k1 _ _ t508 _ _ t511 t541 _ ?side1 ?side2 ?side3 ?side4 A56.out).mono ?_
           (case side1 => repeat (first | exact (Kd.R_reads' HO_515000.out).2.2 | (with_reducible refine Kd.C_alloc ?_ _) | (with_reducible refine Kd.C_drewN ?_ _) | (with_reducible refine Kd.C_drew ?_)))
           (case side2 => exact (Kd.R_reads' HO_515000.out).2.1)
           (case side3 => repeat (first | exact (Kd.V_reads' HO_515001.out).2.2 | (with_reducible refine Kd.C_alloc ?_ _) | (with_reducible refine Kd.C_drewN ?_ _) | (with_reducible refine Kd.C_drew ?_)))
           (case side4 => exact (Kd.V_reads' HO_515001.out).2.1)
           rintro e w71 ⟨v542, rfl, ho0, hb⟩
           refine ⟨_, rfl, ?_⟩
           replace HO_515001 := Aside0.mk (Kd.V_elder' (uf5_ HO_515001) (Kd.R_base ho0) hb)
           replace HO_522001 := Aside0.mk (Kd.S_elder' (uf2_ HO_522001) (Kd.R_base ho0) hb)
           have HO543 := Aside0.mk (Kd.R_lower (Kd.R_new' (Kd.R_new' (Kd.R_new' ho0 (Kd.R_lt (uf1_ HO_515000))) (Kd.R_lt (uf1_ HO_522000))) (Kd.R_lt (uf1_ HO540))) (below_size (qz0_)))
           replace HO_515000 := Aside0.mk (Kd.R_elder' (uf1_ HO_515000) (Kd.R_base ho0) hb)
           replace HO_522000 := Aside0.mk (Kd.R_elder' (uf1_ HO_522000) (Kd.R_base ho0) hb)
           replace HO540 := Aside0.mk (Kd.R_elder' (uf1_ HO540) (Kd.R_base ho0) hb)
           replace BK514 := bb_ BK514 hb
           replace BK521 := bb_ BK521 hb
           replace HB := Aside0.mk (below_step (qz0_) hb)
           (try clear hb)
           (try clear hk hi)
           (try clear ho0)
           obtain ⟨Ao72, co72, eo72⟩ := Kd.R_slice HO540.out
           (first | subst eo72 | (injection eo72 with f1_ f2_ f3_; have f4_ := f1_.symm; have f5_ := f3_.symm; clear f1_ f2_ f3_; subst f4_; subst f5_))
           obtain ⟨Ao73, co73, eo73⟩ := Kd.R_slice HO543.out
           (first | subst eo73 | (injection eo73 with f1_ f2_ f3_; have f4_ := f1_.symm; have f5_ := f3_.symm; clear f1_ f2_ f3_; subst f4_; subst f5_))
           refine hK.out _ _ ⟨(blk_cell BK521.out 0).trans rfl, (blk_cell BK521.out 1).trans rfl, (blk_cell BK514.out 0).trans rfl, (blk_cell BK514.out 1).trans rfl⟩ (fun hHeld => ?_)
           clear hK K
           refine nm_ ?_
           refine one_ (i := 7) (N := some 76) (tl_ 30 255) rfl rfl (one_of HT_.out (g1_)) (by decide) (fun K hK => ?_)
           refine goes_ Try.func45 (g1_) rfl #[.slice Ao72 t538.length co72, .slice Ao73 t541.length co73] (by rfl) rfl rfl (g2_) ?_
           with_reducible refine (laws_sameInts.calls k1 _ _ t538 _ _ t541 true _ ?side1 ?side2 ?side3 ?side4 A57.out).mono ?_
           (case side1 => repeat (first | exact (Kd.R_reads' HO540.out).2.2 | (with_reducible refine Kd.C_alloc ?_ _) | (with_reducible refine Kd.C_drewN ?_ _) | (with_reducible refine Kd.C_drew ?_)))
           (case side2 => exact (Kd.R_reads' HO540.out).2.1)
           (case side3 => repeat (first | exact (Kd.R_reads' HO543.out).2.2 | (with_reducible refine Kd.C_alloc ?_ _) | (with_reducible refine Kd.C_drewN ?_ _) | (with_reducible refine Kd.C_drew ?_)))
           (case side4 => exact (Kd.R_reads' HO543.out).2.1)
           rintro e w' ⟨rfl, ⟨nd, rfl⟩⟩
           refine ⟨_, rfl, ?_⟩
           refine hK.out _ _ ⟨(blk_cell BK521.out 0).trans rfl, (blk_cell BK521.out 1).trans rfl, (blk_cell BK514.out 0).trans rfl, (blk_cell BK514.out 1).trans rfl⟩ (fun hHeld => ?_)
           clear hK K
           refine nm_ ?_
           refine pw_ 8 77 (tl_ 30 511) rfl rfl ?_
           refine pw_ 9 78 (tl_ 30 1023) rfl rfl ?_
           refine tk2_ 10 79 (tl_ 30 2047) rfl rfl hHeld ?_
           refine tk2_ 12 81 (tl_ 30 6143) rfl rfl hHeld ?_
           refine one_ (i := 11) (N := some 80) (tl_ 30 8191) rfl rfl (one_of HT_.out (g1_)) (by decide) (fun K hK => ?_)
           refine goes_ Try.func39 (g1_) rfl #[.agg #[.slice Ao17 t515.length co17, .slice Ao20 t518.length co20]] (by rfl) rfl rfl (g2_) ?_
           with_reducible refine (impl_Netted.calls k1 _ _ t515 _ _ t518 t545 t548 _ ?side1 ?side2 ?side3 ?side4 A59.out).mono ?_
           (case side1 => repeat (first | exact (Kd.R_reads' HO_522000.out).2.2 | (with_reducible refine Kd.C_alloc ?_ _) | (with_reducible refine Kd.C_drewN ?_ _) | (with_reducible refine Kd.C_drew ?_)))
           (case side2 => exact (Kd.R_reads' HO_522000.out).2.1)
           (case side3 => repeat (first | exact (Kd.S_reads' HO_522001.out).2.2 | (with_reducible refine Kd.C_alloc ?_ _) | (with_reducible refine Kd.C_drewN ?_ _) | (with_reducible refine Kd.C_drew ?_)))
           (case side4 => exact (Kd.S_reads' HO_522001.out).2.1)
           rintro e w74 ⟨v546, v549, rfl, ho0, ho1, hb⟩
           refine ⟨_, rfl, ?_⟩
           replace HO_515001 := Aside0.mk (Kd.V_mono (Kd.V_told (Kd.V_told (Kd.V_old (uf5_ HO_515001) hb) (Kd.R_base ho0)) (Kd.S_base ho1)) (fun _ h_ => h_.1))
           have HO547 := Aside0.mk (Kd.R_lower (Kd.R_new' (Kd.R_new' (Kd.R_new' (Kd.R_new' ho0 (Kd.R_lt (uf1_ HO_515000))) (Kd.R_lt (uf1_ HO_522000))) (Kd.R_lt (uf1_ HO540))) (Kd.R_lt (uf1_ HO543))) (below_size (qz0_)))
           have HO550 := Aside0.mk (Kd.S_lower (Kd.S_new' (Kd.S_new' (Kd.S_new' (Kd.S_new' (Kd.S_new' ho1 (Kd.R_lt (uf1_ HO_515000))) (Kd.R_lt (uf1_ HO_522000))) (Kd.S_lt (uf2_ HO_522001))) (Kd.R_lt (uf1_ HO540))) (Kd.R_lt (uf1_ HO543))) (below_size (qz0_)))
           replace HO_515000 := Aside0.mk (Kd.R_elder' (uf1_ HO_515000) (Kd.R_base ho0) hb)
           replace HO_522000 := Aside0.mk (Kd.R_elder' (uf1_ HO_522000) (Kd.R_base ho0) hb)
           replace HO_522001 := Aside0.mk (Kd.S_mono (Kd.S_told (Kd.S_told (Kd.S_old (uf2_ HO_522001) hb) (Kd.R_base ho0)) (Kd.S_base ho1)) (fun _ h_ => h_.1))
           replace HO540 := Aside0.mk (Kd.R_elder' (uf1_ HO540) (Kd.R_base ho0) hb)
           replace HO543 := Aside0.mk (Kd.R_elder' (uf1_ HO543) (Kd.R_base ho0) hb)
           replace BK514 := bb_ BK514 hb
           replace BK521 := bb_ BK521 hb
           replace HB := Aside0.mk (below_step (qz0_) hb)
           (try clear hb)
           (try clear hk hi)
           (try clear ho0)
           (try clear ho1)
           obtain ⟨Ao75, co75, eo75⟩ := Kd.R_slice HO547.out
           (first | subst eo75 | (injection eo75 with f1_ f2_ f3_; have f4_ := f1_.symm; have f5_ := f3_.symm; clear f1_ f2_ f3_; subst f4_; subst f5_))
           obtain ⟨Ao76, co76, eo76⟩ := Kd.S_slice HO550.out
           (first | subst eo76 | (injection eo76 with f1_ f2_ f3_; have f4_ := f1_.symm; have f5_ := f3_.symm; clear f1_ f2_ f3_; subst f4_; subst f5_))
           refine hK.out _ _ ⟨(blk_cell BK521.out 0).trans rfl, (blk_cell BK521.out 1).trans rfl, (blk_cell BK514.out 0).trans rfl, (blk_cell BK514.out 1).trans rfl⟩ (fun hHeld => ?_)
           clear hK K
           refine nm_ ?_
           refine one_ (i := 13) (N := some 82) (tl_ 30 16383) rfl rfl (one_of HT_.out (g1_)) (by decide) (fun K hK => ?_)
           refine goes_ Try.func40 (g1_) rfl #[.agg #[.slice Ao75 t545.length co75, .slice Ao76 t548.length co76], .agg #[.slice Ao17 t515.length co17, .slice Ao20 t518.length co20]] (by rfl) rfl rfl (g2_) ?_
           with_reducible refine (laws_sameBook.calls k1 _ _ t545 _ _ t548 _ _ t515 _ _ t518 true _ ?side1 ?side2 ?side3 ?side4 ?side5 ?side6 ?side7 ?side8 A60.out).mono ?_
           (case side1 => repeat (first | exact (Kd.R_reads' HO547.out).2.2 | (with_reducible refine Kd.C_alloc ?_ _) | (with_reducible refine Kd.C_drewN ?_ _) | (with_reducible refine Kd.C_drew ?_)))
           (case side2 => exact (Kd.R_reads' HO547.out).2.1)
           (case side3 => repeat (first | exact (Kd.S_reads' HO550.out).2.2 | (with_reducible refine Kd.C_alloc ?_ _) | (with_reducible refine Kd.C_drewN ?_ _) | (with_reducible refine Kd.C_drew ?_)))
           (case side4 => exact (Kd.S_reads' HO550.out).2.1)
           (case side5 => repeat (first | exact (Kd.R_reads' HO_522000.out).2.2 | (with_reducible refine Kd.C_alloc ?_ _) | (with_reducible refine Kd.C_drewN ?_ _) | (with_reducible refine Kd.C_drew ?_)))
           (case side6 => exact (Kd.R_reads' HO_522000.out).2.1)
           (case side7 => repeat (first | exact (Kd.S_reads' HO_522001.out).2.2 | (with_reducible refine Kd.C_alloc ?_ _) | (with_reducible refine Kd.C_drewN ?_ _) | (with_reducible refine Kd.C_drew ?_)))
           (case side8 => exact (Kd.S_reads' HO_522001.out).2.1)
           rintro e w77 ⟨rfl, hb⟩
           refine ⟨_, rfl, ?_⟩
           replace HO_515000 := Aside0.mk (Kd.R_below (uf1_ HO_515000) hb)
           replace HO_515001 := Aside0.mk (Kd.V_below (uf5_ HO_515001) hb)
           replace HO_522000 := Aside0.mk (Kd.R_below (uf1_ HO_522000) hb)
           replace HO_522001 := Aside0.mk (Kd.S_below (uf2_ HO_522001) hb)
           replace HO540 := Aside0.mk (Kd.R_below (uf1_ HO540) hb)
           replace HO543 := Aside0.mk (Kd.R_below (uf1_ HO543) hb)
           replace HO547 := Aside0.mk (Kd.R_below (uf1_ HO547) hb)
           replace HO550 := Aside0.mk (Kd.S_below (uf2_ HO550) hb)
           replace BK514 := bb_ BK514 hb
           replace BK521 := bb_ BK521 hb
           replace HB := Aside0.mk (below_step (qz0_) hb)
           (try clear hb)
           (try clear hk hi)
           refine hK.out _ _ ⟨(blk_cell BK521.out 0).trans rfl, (blk_cell BK521.out 1).trans rfl, (blk_cell BK514.out 0).trans rfl, (blk_cell BK514.out 1).trans rfl⟩ (fun hHeld => ?_)
           clear hK K
           refine nm_ ?_
           refine pw_ 14 83 (tl_ 30 32767) rfl rfl ?_
           refine pw_ 15 84 (tl_ 30 65535) rfl rfl ?_
           refine tk2_ 16 85 (tl_ 30 131071) rfl rfl hHeld ?_
           refine tk2_ 18 87 (tl_ 30 393215) rfl rfl hHeld ?_
           refine one_ (i := 17) (N := some 86) (tl_ 30 524287) rfl rfl (one_of HT_.out (g1_)) (by decide) (fun K hK => ?_)
           refine goes_ Try.func25 (g1_) rfl #[.agg #[.slice Ao17 t515.length co17, .slice Ao20 t518.length co20]] (by rfl) rfl rfl (g2_) ?_
           with_reducible refine (impl_AllDebts.calls k1 _ _ t515 _ _ t518 t552 _ ?side1 ?side2 ?side3 ?side4 A62.out).mono ?_
           (case side1 => repeat (first | exact (Kd.R_reads' HO_522000.out).2.2 | (with_reducible refine Kd.C_alloc ?_ _) | (with_reducible refine Kd.C_drewN ?_ _) | (with_reducible refine Kd.C_drew ?_)))
           (case side2 => exact (Kd.R_reads' HO_522000.out).2.1)
           (case side3 => repeat (first | exact (Kd.S_reads' HO_522001.out).2.2 | (with_reducible refine Kd.C_alloc ?_ _) | (with_reducible refine Kd.C_drewN ?_ _) | (with_reducible refine Kd.C_drew ?_)))
           (case side4 => exact (Kd.S_reads' HO_522001.out).2.1)
           rintro e w78 ⟨rfl, hb⟩
           refine ⟨_, rfl, ?_⟩
           replace HO_515000 := Aside0.mk (Kd.R_below (uf1_ HO_515000) hb)
           replace HO_515001 := Aside0.mk (Kd.V_below (uf5_ HO_515001) hb)
           replace HO_522000 := Aside0.mk (Kd.R_below (uf1_ HO_522000) hb)
           replace HO_522001 := Aside0.mk (Kd.S_below (uf2_ HO_522001) hb)
           replace HO540 := Aside0.mk (Kd.R_below (uf1_ HO540) hb)
           replace HO543 := Aside0.mk (Kd.R_below (uf1_ HO543) hb)
           replace HO547 := Aside0.mk (Kd.R_below (uf1_ HO547) hb)
           replace HO550 := Aside0.mk (Kd.S_below (uf2_ HO550) hb)
           replace BK514 := bb_ BK514 hb
           replace BK521 := bb_ BK521 hb
           replace HB := Aside0.mk (below_step (qz0_) hb)
           (try clear hb)
           (try clear hk hi)
           refine hK.out _ _ ⟨(blk_cell BK521.out 0).trans rfl, (blk_cell BK521.out 1).trans rfl, (blk_cell BK514.out 0).trans rfl, (blk_cell BK514.out 1).trans rfl⟩ (fun hHeld => ?_)
           clear hK K
           refine nm_ ?_
           refine one_ (i := 19) (N := some 88) (tl_ 30 1048575) rfl rfl (one_of HT_.out (g1_)) (by decide) (fun K hK => ?_)
           refine goes_ Try.func25 (g1_) rfl #[.agg #[.slice Ao12 t508.length co12, .slice Ao14 t511.length co14]] (by rfl) rfl rfl (g2_) ?_
           with_reducible refine (impl_AllDebts.calls k1 _ _ t508 _ _ t511 t553 _ ?side1 ?side2 ?side3 ?side4 A63.out).mono ?_
           (case side1 => repeat (first | exact (Kd.R_reads' HO_515000.out).2.2 | (with_reducible refine Kd.C_alloc ?_ _) | (with_reducible refine Kd.C_drewN ?_ _) | (with_reducible refine Kd.C_drew ?_)))
           (case side2 => exact (Kd.R_reads' HO_515000.out).2.1)
           (case side3 => repeat (first | exact (Kd.V_reads' HO_515001.out).2.2 | (with_reducible refine Kd.C_alloc ?_ _) | (with_reducible refine Kd.C_drewN ?_ _) | (with_reducible refine Kd.C_drew ?_)))
           (case side4 => exact (Kd.V_reads' HO_515001.out).2.1)
           rintro e w79 ⟨rfl, hb⟩
           refine ⟨_, rfl, ?_⟩
           replace HO_515000 := Aside0.mk (Kd.R_below (uf1_ HO_515000) hb)
           replace HO_515001 := Aside0.mk (Kd.V_below (uf5_ HO_515001) hb)
           replace HO_522000 := Aside0.mk (Kd.R_below (uf1_ HO_522000) hb)
           replace HO_522001 := Aside0.mk (Kd.S_below (uf2_ HO_522001) hb)
           replace HO540 := Aside0.mk (Kd.R_below (uf1_ HO540) hb)
           replace HO543 := Aside0.mk (Kd.R_below (uf1_ HO543) hb)
           replace HO547 := Aside0.mk (Kd.R_below (uf1_ HO547) hb)
           replace HO550 := Aside0.mk (Kd.S_below (uf2_ HO550) hb)
           replace BK514 := bb_ BK514 hb
           replace BK521 := bb_ BK521 hb
           replace HB := Aside0.mk (below_step (qz0_) hb)
           (try clear hb)
           (try clear hk hi)
           refine hK.out _ _ ⟨(blk_cell BK521.out 0).trans rfl, (blk_cell BK521.out 1).trans rfl, (blk_cell BK514.out 0).trans rfl, (blk_cell BK514.out 1).trans rfl⟩ (fun hHeld => ?_)
           clear hK K
           refine nm_ ?_
           refine pw_ 20 89 (tl_ 30 2097151) rfl rfl ?_
           refine pw_ 21 90 (tl_ 30 4194303) rfl rfl ?_
           refine pw_ 22 91 (tl_ 30 8388607) rfl rfl ?_
           refine pw_ 23 92 (tl_ 30 16777215) rfl rfl ?_
           refine pw_ 25 94 (tl_ 30 50331647) rfl rfl ?_
           refine tk2_ 24 93 (tl_ 30 67108863) rfl rfl hHeld ?_
           refine tk2_ 26 95 (tl_ 30 134217727) rfl rfl hHeld ?_
           refine one_ (i := 27) (N := some 96) (tl_ 30 268435455) rfl rfl (one_of HT_.out (g1_)) (by decide) (fun K hK => ?_)
           refine goes_ Try.func45 (g1_) rfl #[.slice Ao17 t515.length co17, .slice Ao12 t508.length co12] (by rfl) rfl rfl (g2_) ?_
           with_reducible refine (laws_sameInts.calls k1 _ _ t515 _ _ t508 t554 _ ?side1 ?side2 ?side3 ?side4 A65.out).mono ?_
           (case side1 => repeat (first | exact (Kd.R_reads' HO_522000.out).2.2 | (with_reducible refine Kd.C_alloc ?_ _) | (with_reducible refine Kd.C_drewN ?_ _) | (with_reducible refine Kd.C_drew ?_)))
           (case side2 => exact (Kd.R_reads' HO_522000.out).2.1)
           (case side3 => repeat (first | exact (Kd.R_reads' HO_515000.out).2.2 | (with_reducible refine Kd.C_alloc ?_ _) | (with_reducible refine Kd.C_drewN ?_ _) | (with_reducible refine Kd.C_drew ?_)))
           (case side4 => exact (Kd.R_reads' HO_515000.out).2.1)
           rintro e w' ⟨rfl, ⟨nd, rfl⟩⟩
           refine ⟨_, rfl, ?_⟩
           refine hK.out _ _ ⟨(blk_cell BK521.out 0).trans rfl, (blk_cell BK521.out 1).trans rfl, (blk_cell BK514.out 0).trans rfl, (blk_cell BK514.out 1).trans rfl⟩ (fun hHeld => ?_)
           clear hK K
           refine nm_ ?_
           refine pw_ 28 97 (tl_ 30 536870911) rfl rfl ?_
           refine pw_ 29 2 (tl_ 30 1073741823) rfl rfl ?_
           refine done_ (done_of HT_.out (g1_)) ?_
           try go_wp2
           go_ret
           exact ⟨g4_, qz0_⟩
          ·rw [if_neg c64] at H
           have c64b0 := decide_eq_false c64
           clear c64
           obtain rfl := Option.some.inj H
           have hnb80 := NB521_514.out
           have hnc80 := NB514_521.out
           obtain ⟨hcz81_0, hcz81_1, hfz81_0, hfz81_1⟩ := blk2_ BK521
           try go_wp2
           replace HO_515000 := Aside0.mk (Kd.R_drew HO_515000.out)
           replace HO_515001 := Aside0.mk (Kd.V_drew HO_515001.out)
           replace HO_522000 := Aside0.mk (Kd.R_drew HO_522000.out)
           replace HO_522001 := Aside0.mk (Kd.S_drew HO_522001.out)
           replace BK514 := Aside0.mk (blk_drew BK514.out)
           replace BK521 := Aside0.mk (blk_drew BK521.out)
           replace HB := Aside0.mk (below_drew1 HB.out)
           refine start_ (n := 30) (S := fun w' => w'.cell? ⟨gb521, 0, none⟩ = some (.slice Ao17 t515.length co17) ∧ w'.cell? ⟨gb521, 1, none⟩ = some (.slice Ao20 t518.length co20) ∧ w'.cell? ⟨gb514, 0, none⟩ = some (.slice Ao12 t508.length co12) ∧ w'.cell? ⟨gb514, 1, none⟩ = some (.slice Ao14 t511.length co14)) (ds := []) (tl_ 30 0) (g1_) rfl (g1_) ⟨(blk_cell BK521.out 0).trans rfl, (blk_cell BK521.out 1).trans rfl, (blk_cell BK514.out 0).trans rfl, (blk_cell BK514.out 1).trans rfl⟩ (fun hHeld => ?_); refine with_tabW laws_FnNetted.tab17 laws_FnNetted.bits17 (fun HT_ HW_ => ?_)
           generalize wr.drew = w82 at HO_515000 HO_515001 HO_522000 HO_522001 BK514 BK521 HB hHeld ⊢
           refine tk2_ 0 69 (tl_ 30 1) rfl rfl hHeld ?_
           refine one_ (i := 1) (N := some 70) (tl_ 30 3) rfl rfl (one_of HT_.out (g1_)) (by decide) (fun K hK => ?_)
           refine goes_ Try.func44 (g1_) rfl #[.agg #[.slice Ao17 t515.length co17, .slice Ao20 t518.length co20]] (by rfl) rfl rfl (g2_) ?_
           with_reducible refine (impl_BookOk.calls k1 _ _ t515 _ _ t518 true _ ?side1 ?side2 ?side3 ?side4 A53.out).mono ?_
           (case side1 => repeat (first | exact (Kd.R_reads' HO_522000.out).2.2 | (with_reducible refine Kd.C_alloc ?_ _) | (with_reducible refine Kd.C_drewN ?_ _) | (with_reducible refine Kd.C_drew ?_)))
           (case side2 => exact (Kd.R_reads' HO_522000.out).2.1)
           (case side3 => repeat (first | exact (Kd.S_reads' HO_522001.out).2.2 | (with_reducible refine Kd.C_alloc ?_ _) | (with_reducible refine Kd.C_drewN ?_ _) | (with_reducible refine Kd.C_drew ?_)))
           (case side4 => exact (Kd.S_reads' HO_522001.out).2.1)
           rintro e w83 ⟨rfl, hb⟩
           refine ⟨_, rfl, ?_⟩
           replace HO_515000 := Aside0.mk (Kd.R_below (uf1_ HO_515000) hb)
           replace HO_515001 := Aside0.mk (Kd.V_below (uf5_ HO_515001) hb)
           replace HO_522000 := Aside0.mk (Kd.R_below (uf1_ HO_522000) hb)
           replace HO_522001 := Aside0.mk (Kd.S_below (uf2_ HO_522001) hb)
           replace BK514 := bb_ BK514 hb
           replace BK521 := bb_ BK521 hb
           replace HB := Aside0.mk (below_step (qz0_) hb)
           (try clear hb)
           (try clear hk hi)
           refine hK.out _ _ ⟨(blk_cell BK521.out 0).trans rfl, (blk_cell BK521.out 1).trans rfl, (blk_cell BK514.out 0).trans rfl, (blk_cell BK514.out 1).trans rfl⟩ (fun hHeld => ?_)
           clear hK K
           refine nm_ ?_
           refine pw_ 2 71 (tl_ 30 7) rfl rfl ?_
           refine tk2_ 3 72 (tl_ 30 15) rfl rfl hHeld ?_
           refine tk2_ 5 74 (tl_ 30 47) rfl rfl hHeld ?_
           refine one_ (i := 4) (N := some 73) (tl_ 30 63) rfl rfl (one_of HT_.out (g1_)) (by decide) (fun K hK => ?_)
           refine goes_ Try.func46 (g1_) rfl #[.agg #[.slice Ao17 t515.length co17, .slice Ao20 t518.length co20]] (by rfl) rfl rfl (g2_) ?_
           with_reducible refine (impl_NetsOf.calls k1 _ _ t515 _ _ t518 t538 _ ?side1 ?side2 ?side3 ?side4 A55.out).mono ?_
           (case side1 => repeat (first | exact (Kd.R_reads' HO_522000.out).2.2 | (with_reducible refine Kd.C_alloc ?_ _) | (with_reducible refine Kd.C_drewN ?_ _) | (with_reducible refine Kd.C_drew ?_)))
           (case side2 => exact (Kd.R_reads' HO_522000.out).2.1)
           (case side3 => repeat (first | exact (Kd.S_reads' HO_522001.out).2.2 | (with_reducible refine Kd.C_alloc ?_ _) | (with_reducible refine Kd.C_drewN ?_ _) | (with_reducible refine Kd.C_drew ?_)))
           (case side4 => exact (Kd.S_reads' HO_522001.out).2.1)
           rintro e w84 ⟨v539, rfl, ho0, hb⟩
           refine ⟨_, rfl, ?_⟩
           replace HO_515001 := Aside0.mk (Kd.V_elder' (uf5_ HO_515001) (Kd.R_base ho0) hb)
           replace HO_522001 := Aside0.mk (Kd.S_elder' (uf2_ HO_522001) (Kd.R_base ho0) hb)
           have HO540 := Aside0.mk (Kd.R_lower (Kd.R_new' (Kd.R_new' ho0 (Kd.R_lt (uf1_ HO_515000))) (Kd.R_lt (uf1_ HO_522000))) (below_size (qz0_)))
           replace HO_515000 := Aside0.mk (Kd.R_elder' (uf1_ HO_515000) (Kd.R_base ho0) hb)
           replace HO_522000 := Aside0.mk (Kd.R_elder' (uf1_ HO_522000) (Kd.R_base ho0) hb)
           replace BK514 := bb_ BK514 hb
           replace BK521 := bb_ BK521 hb
           replace HB := Aside0.mk (below_step (qz0_) hb)
           (try clear hb)
           (try clear hk hi)
           (try clear ho0)
           refine hK.out _ _ ⟨(blk_cell BK521.out 0).trans rfl, (blk_cell BK521.out 1).trans rfl, (blk_cell BK514.out 0).trans rfl, (blk_cell BK514.out 1).trans rfl⟩ (fun hHeld => ?_)
           clear hK K
           refine nm_ ?_
           refine one_ (i := 6) (N := some 75) (tl_ 30 127) rfl rfl (one_of HT_.out (g1_)) (by decide) (fun K hK => ?_)
           refine goes_ Try.func46 (g1_) rfl #[.agg #[.slice Ao12 t508.length co12, .slice Ao14 t511.length co14]] (by rfl) rfl rfl (g2_) ?_
           with_reducible refine (impl_NetsOf.calls k1 _ _ t508 _ _ t511 t541 _ ?side1 ?side2 ?side3 ?side4 A56.out).mono ?_
           (case side1 => repeat (first | exact (Kd.R_reads' HO_515000.out).2.2 | (with_reducible refine Kd.C_alloc ?_ _) | (with_reducible refine Kd.C_drewN ?_ _) | (with_reducible refine Kd.C_drew ?_)))
           (case side2 => exact (Kd.R_reads' HO_515000.out).2.1)
           (case side3 => repeat (first | exact (Kd.V_reads' HO_515001.out).2.2 | (with_reducible refine Kd.C_alloc ?_ _) | (with_reducible refine Kd.C_drewN ?_ _) | (with_reducible refine Kd.C_drew ?_)))
           (case side4 => exact (Kd.V_reads' HO_515001.out).2.1)
           rintro e w85 ⟨v542, rfl, ho0, hb⟩
           refine ⟨_, rfl, ?_⟩
           replace HO_515001 := Aside0.mk (Kd.V_elder' (uf5_ HO_515001) (Kd.R_base ho0) hb)
           replace HO_522001 := Aside0.mk (Kd.S_elder' (uf2_ HO_522001) (Kd.R_base ho0) hb)
           have HO543 := Aside0.mk (Kd.R_lower (Kd.R_new' (Kd.R_new' (Kd.R_new' ho0 (Kd.R_lt (uf1_ HO_515000))) (Kd.R_lt (uf1_ HO_522000))) (Kd.R_lt (uf1_ HO540))) (below_size (qz0_)))
           replace HO_515000 := Aside0.mk (Kd.R_elder' (uf1_ HO_515000) (Kd.R_base ho0) hb)
           replace HO_522000 := Aside0.mk (Kd.R_elder' (uf1_ HO_522000) (Kd.R_base ho0) hb)
           replace HO540 := Aside0.mk (Kd.R_elder' (uf1_ HO540) (Kd.R_base ho0) hb)
           replace BK514 := bb_ BK514 hb
           replace BK521 := bb_ BK521 hb
           replace HB := Aside0.mk (below_step (qz0_) hb)
           (try clear hb)
           (try clear hk hi)
           (try clear ho0)
           obtain ⟨Ao86, co86, eo86⟩ := Kd.R_slice HO540.out
           (first | subst eo86 | (injection eo86 with f1_ f2_ f3_; have f4_ := f1_.symm; have f5_ := f3_.symm; clear f1_ f2_ f3_; subst f4_; subst f5_))
           obtain ⟨Ao87, co87, eo87⟩ := Kd.R_slice HO543.out
           (first | subst eo87 | (injection eo87 with f1_ f2_ f3_; have f4_ := f1_.symm; have f5_ := f3_.symm; clear f1_ f2_ f3_; subst f4_; subst f5_))
           refine hK.out _ _ ⟨(blk_cell BK521.out 0).trans rfl, (blk_cell BK521.out 1).trans rfl, (blk_cell BK514.out 0).trans rfl, (blk_cell BK514.out 1).trans rfl⟩ (fun hHeld => ?_)
           clear hK K
           refine nm_ ?_
           refine one_ (i := 7) (N := some 76) (tl_ 30 255) rfl rfl (one_of HT_.out (g1_)) (by decide) (fun K hK => ?_)
           refine goes_ Try.func45 (g1_) rfl #[.slice Ao86 t538.length co86, .slice Ao87 t541.length co87] (by rfl) rfl rfl (g2_) ?_
           with_reducible refine (laws_sameInts.calls k1 _ _ t538 _ _ t541 true _ ?side1 ?side2 ?side3 ?side4 A57.out).mono ?_
           (case side1 => repeat (first | exact (Kd.R_reads' HO540.out).2.2 | (with_reducible refine Kd.C_alloc ?_ _) | (with_reducible refine Kd.C_drewN ?_ _) | (with_reducible refine Kd.C_drew ?_)))
           (case side2 => exact (Kd.R_reads' HO540.out).2.1)
           (case side3 => repeat (first | exact (Kd.R_reads' HO543.out).2.2 | (with_reducible refine Kd.C_alloc ?_ _) | (with_reducible refine Kd.C_drewN ?_ _) | (with_reducible refine Kd.C_drew ?_)))
           (case side4 => exact (Kd.R_reads' HO543.out).2.1)
           rintro e w' ⟨rfl, ⟨nd, rfl⟩⟩
           refine ⟨_, rfl, ?_⟩
           refine hK.out _ _ ⟨(blk_cell BK521.out 0).trans rfl, (blk_cell BK521.out 1).trans rfl, (blk_cell BK514.out 0).trans rfl, (blk_cell BK514.out 1).trans rfl⟩ (fun hHeld => ?_)
           clear hK K
           refine nm_ ?_
           refine pw_ 8 77 (tl_ 30 511) rfl rfl ?_
           refine pw_ 9 78 (tl_ 30 1023) rfl rfl ?_
           refine tk2_ 10 79 (tl_ 30 2047) rfl rfl hHeld ?_
           refine tk2_ 12 81 (tl_ 30 6143) rfl rfl hHeld ?_
           refine one_ (i := 11) (N := some 80) (tl_ 30 8191) rfl rfl (one_of HT_.out (g1_)) (by decide) (fun K hK => ?_)
           refine goes_ Try.func39 (g1_) rfl #[.agg #[.slice Ao17 t515.length co17, .slice Ao20 t518.length co20]] (by rfl) rfl rfl (g2_) ?_
           with_reducible refine (impl_Netted.calls k1 _ _ t515 _ _ t518 t545 t548 _ ?side1 ?side2 ?side3 ?side4 A59.out).mono ?_
           (case side1 => repeat (first | exact (Kd.R_reads' HO_522000.out).2.2 | (with_reducible refine Kd.C_alloc ?_ _) | (with_reducible refine Kd.C_drewN ?_ _) | (with_reducible refine Kd.C_drew ?_)))
           (case side2 => exact (Kd.R_reads' HO_522000.out).2.1)
           (case side3 => repeat (first | exact (Kd.S_reads' HO_522001.out).2.2 | (with_reducible refine Kd.C_alloc ?_ _) | (with_reducible refine Kd.C_drewN ?_ _) | (with_reducible refine Kd.C_drew ?_)))
           (case side4 => exact (Kd.S_reads' HO_522001.out).2.1)
           rintro e w88 ⟨v546, v549, rfl, ho0, ho1, hb⟩
           refine ⟨_, rfl, ?_⟩
           replace HO_515001 := Aside0.mk (Kd.V_mono (Kd.V_told (Kd.V_told (Kd.V_old (uf5_ HO_515001) hb) (Kd.R_base ho0)) (Kd.S_base ho1)) (fun _ h_ => h_.1))
           have HO547 := Aside0.mk (Kd.R_lower (Kd.R_new' (Kd.R_new' (Kd.R_new' (Kd.R_new' ho0 (Kd.R_lt (uf1_ HO_515000))) (Kd.R_lt (uf1_ HO_522000))) (Kd.R_lt (uf1_ HO540))) (Kd.R_lt (uf1_ HO543))) (below_size (qz0_)))
           have HO550 := Aside0.mk (Kd.S_lower (Kd.S_new' (Kd.S_new' (Kd.S_new' (Kd.S_new' (Kd.S_new' ho1 (Kd.R_lt (uf1_ HO_515000))) (Kd.R_lt (uf1_ HO_522000))) (Kd.S_lt (uf2_ HO_522001))) (Kd.R_lt (uf1_ HO540))) (Kd.R_lt (uf1_ HO543))) (below_size (qz0_)))
           replace HO_515000 := Aside0.mk (Kd.R_elder' (uf1_ HO_515000) (Kd.R_base ho0) hb)
           replace HO_522000 := Aside0.mk (Kd.R_elder' (uf1_ HO_522000) (Kd.R_base ho0) hb)
           replace HO_522001 := Aside0.mk (Kd.S_mono (Kd.S_told (Kd.S_told (Kd.S_old (uf2_ HO_522001) hb) (Kd.R_base ho0)) (Kd.S_base ho1)) (fun _ h_ => h_.1))
           replace HO540 := Aside0.mk (Kd.R_elder' (uf1_ HO540) (Kd.R_base ho0) hb)
           replace HO543 := Aside0.mk (Kd.R_elder' (uf1_ HO543) (Kd.R_base ho0) hb)
           replace BK514 := bb_ BK514 hb
           replace BK521 := bb_ BK521 hb
           replace HB := Aside0.mk (below_step (qz0_) hb)
           (try clear hb)
           (try clear hk hi)
           (try clear ho0)
           (try clear ho1)
           obtain ⟨Ao89, co89, eo89⟩ := Kd.R_slice HO547.out
           (first | subst eo89 | (injection eo89 with f1_ f2_ f3_; have f4_ := f1_.symm; have f5_ := f3_.symm; clear f1_ f2_ f3_; subst f4_; subst f5_))
           obtain ⟨Ao90, co90, eo90⟩ := Kd.S_slice HO550.out
           (first | subst eo90 | (injection eo90 with f1_ f2_ f3_; have f4_ := f1_.symm; have f5_ := f3_.symm; clear f1_ f2_ f3_; subst f4_; subst f5_))
           refine hK.out _ _ ⟨(blk_cell BK521.out 0).trans rfl, (blk_cell BK521.out 1).trans rfl, (blk_cell BK514.out 0).trans rfl, (blk_cell BK514.out 1).trans rfl⟩ (fun hHeld => ?_)
           clear hK K
           refine nm_ ?_
           refine one_ (i := 13) (N := some 82) (tl_ 30 16383) rfl rfl (one_of HT_.out (g1_)) (by decide) (fun K hK => ?_)
           refine goes_ Try.func40 (g1_) rfl #[.agg #[.slice Ao89 t545.length co89, .slice Ao90 t548.length co90], .agg #[.slice Ao17 t515.length co17, .slice Ao20 t518.length co20]] (by rfl) rfl rfl (g2_) ?_
           with_reducible refine (laws_sameBook.calls k1 _ _ t545 _ _ t548 _ _ t515 _ _ t518 true _ ?side1 ?side2 ?side3 ?side4 ?side5 ?side6 ?side7 ?side8 A60.out).mono ?_
           (case side1 => repeat (first | exact (Kd.R_reads' HO547.out).2.2 | (with_reducible refine Kd.C_alloc ?_ _) | (with_reducible refine Kd.C_drewN ?_ _) | (with_reducible refine Kd.C_drew ?_)))
           (case side2 => exact (Kd.R_reads' HO547.out).2.1)
           (case side3 => repeat (first | exact (Kd.S_reads' HO550.out).2.2 | (with_reducible refine Kd.C_alloc ?_ _) | (with_reducible refine Kd.C_drewN ?_ _) | (with_reducible refine Kd.C_drew ?_)))
           (case side4 => exact (Kd.S_reads' HO550.out).2.1)
           (case side5 => repeat (first | exact (Kd.R_reads' HO_522000.out).2.2 | (with_reducible refine Kd.C_alloc ?_ _) | (with_reducible refine Kd.C_drewN ?_ _) | (with_reducible refine Kd.C_drew ?_)))
           (case side6 => exact (Kd.R_reads' HO_522000.out).2.1)
           (case side7 => repeat (first | exact (Kd.S_reads' HO_522001.out).2.2 | (with_reducible refine Kd.C_alloc ?_ _) | (with_reducible refine Kd.C_drewN ?_ _) | (with_reducible refine Kd.C_drew ?_)))
           (case side8 => exact (Kd.S_reads' HO_522001.out).2.1)
           rintro e w91 ⟨rfl, hb⟩
           refine ⟨_, rfl, ?_⟩
           replace HO_515000 := Aside0.mk (Kd.R_below (uf1_ HO_515000) hb)
           replace HO_515001 := Aside0.mk (Kd.V_below (uf5_ HO_515001) hb)
           replace HO_522000 := Aside0.mk (Kd.R_below (uf1_ HO_522000) hb)
           replace HO_522001 := Aside0.mk (Kd.S_below (uf2_ HO_522001) hb)
           replace HO540 := Aside0.mk (Kd.R_below (uf1_ HO540) hb)
           replace HO543 := Aside0.mk (Kd.R_below (uf1_ HO543) hb)
           replace HO547 := Aside0.mk (Kd.R_below (uf1_ HO547) hb)
           replace HO550 := Aside0.mk (Kd.S_below (uf2_ HO550) hb)
           replace BK514 := bb_ BK514 hb
           replace BK521 := bb_ BK521 hb
           replace HB := Aside0.mk (below_step (qz0_) hb)
           (try clear hb)
           (try clear hk hi)
           refine hK.out _ _ ⟨(blk_cell BK521.out 0).trans rfl, (blk_cell BK521.out 1).trans rfl, (blk_cell BK514.out 0).trans rfl, (blk_cell BK514.out 1).trans rfl⟩ (fun hHeld => ?_)
           clear hK K
           refine nm_ ?_
           refine pw_ 14 83 (tl_ 30 32767) rfl rfl ?_
           refine pw_ 15 84 (tl_ 30 65535) rfl rfl ?_
           refine tk2_ 16 85 (tl_ 30 131071) rfl rfl hHeld ?_
           refine tk2_ 18 87 (tl_ 30 393215) rfl rfl hHeld ?_
           refine one_ (i := 17) (N := some 86) (tl_ 30 524287) rfl rfl (one_of HT_.out (g1_)) (by decide) (fun K hK => ?_)
           refine goes_ Try.func25 (g1_) rfl #[.agg #[.slice Ao17 t515.length co17, .slice Ao20 t518.length co20]] (by rfl) rfl rfl (g2_) ?_
           with_reducible refine (impl_AllDebts.calls k1 _ _ t515 _ _ t518 t552 _ ?side1 ?side2 ?side3 ?side4 A62.out).mono ?_
           (case side1 => repeat (first | exact (Kd.R_reads' HO_522000.out).2.2 | (with_reducible refine Kd.C_alloc ?_ _) | (with_reducible refine Kd.C_drewN ?_ _) | (with_reducible refine Kd.C_drew ?_)))
           (case side2 => exact (Kd.R_reads' HO_522000.out).2.1)
           (case side3 => repeat (first | exact (Kd.S_reads' HO_522001.out).2.2 | (with_reducible refine Kd.C_alloc ?_ _) | (with_reducible refine Kd.C_drewN ?_ _) | (with_reducible refine Kd.C_drew ?_)))
           (case side4 => exact (Kd.S_reads' HO_522001.out).2.1)
           rintro e w92 ⟨rfl, hb⟩
           refine ⟨_, rfl, ?_⟩
           replace HO_515000 := Aside0.mk (Kd.R_below (uf1_ HO_515000) hb)
           replace HO_515001 := Aside0.mk (Kd.V_below (uf5_ HO_515001) hb)
           replace HO_522000 := Aside0.mk (Kd.R_below (uf1_ HO_522000) hb)
           replace HO_522001 := Aside0.mk (Kd.S_below (uf2_ HO_522001) hb)
           replace HO540 := Aside0.mk (Kd.R_below (uf1_ HO540) hb)
           replace HO543 := Aside0.mk (Kd.R_below (uf1_ HO543) hb)
           replace HO547 := Aside0.mk (Kd.R_below (uf1_ HO547) hb)
           replace HO550 := Aside0.mk (Kd.S_below (uf2_ HO550) hb)
           replace BK514 := bb_ BK514 hb
           replace BK521 := bb_ BK521 hb
           replace HB := Aside0.mk (below_step (qz0_) hb)
           (try clear hb)
           (try clear hk hi)
           refine hK.out _ _ ⟨(blk_cell BK521.out 0).trans rfl, (blk_cell BK521.out 1).trans rfl, (blk_cell BK514.out 0).trans rfl, (blk_cell BK514.out 1).trans rfl⟩ (fun hHeld => ?_)
           clear hK K
           refine nm_ ?_
           refine one_ (i := 19) (N := some 88) (tl_ 30 1048575) rfl rfl (one_of HT_.out (g1_)) (by decide) (fun K hK => ?_)
           refine goes_ Try.func25 (g1_) rfl #[.agg #[.slice Ao12 t508.length co12, .slice Ao14 t511.length co14]] (by rfl) rfl rfl (g2_) ?_
           with_reducible refine (impl_AllDebts.calls k1 _ _ t508 _ _ t511 t553 _ ?side1 ?side2 ?side3 ?side4 A63.out).mono ?_
           (case side1 => repeat (first | exact (Kd.R_reads' HO_515000.out).2.2 | (with_reducible refine Kd.C_alloc ?_ _) | (with_reducible refine Kd.C_drewN ?_ _) | (with_reducible refine Kd.C_drew ?_)))
           (case side2 => exact (Kd.R_reads' HO_515000.out).2.1)
           (case side3 => repeat (first | exact (Kd.V_reads' HO_515001.out).2.2 | (with_reducible refine Kd.C_alloc ?_ _) | (with_reducible refine Kd.C_drewN ?_ _) | (with_reducible refine Kd.C_drew ?_)))
           (case side4 => exact (Kd.V_reads' HO_515001.out).2.1)
           rintro e w93 ⟨rfl, hb⟩
           refine ⟨_, rfl, ?_⟩
           replace HO_515000 := Aside0.mk (Kd.R_below (uf1_ HO_515000) hb)
           replace HO_515001 := Aside0.mk (Kd.V_below (uf5_ HO_515001) hb)
           replace HO_522000 := Aside0.mk (Kd.R_below (uf1_ HO_522000) hb)
           replace HO_522001 := Aside0.mk (Kd.S_below (uf2_ HO_522001) hb)
           replace HO540 := Aside0.mk (Kd.R_below (uf1_ HO540) hb)
           replace HO543 := Aside0.mk (Kd.R_below (uf1_ HO543) hb)
           replace HO547 := Aside0.mk (Kd.R_below (uf1_ HO547) hb)
           replace HO550 := Aside0.mk (Kd.S_below (uf2_ HO550) hb)
           replace BK514 := bb_ BK514 hb
           replace BK521 := bb_ BK521 hb
           replace HB := Aside0.mk (below_step (qz0_) hb)
           (try clear hb)
           (try clear hk hi)
           refine hK.out _ _ ⟨(blk_cell BK521.out 0).trans rfl, (blk_cell BK521.out 1).trans rfl, (blk_cell BK514.out 0).trans rfl, (blk_cell BK514.out 1).trans rfl⟩ (fun hHeld => ?_)
           clear hK K
           refine nm_ ?_
           refine pw_ 20 89 (tl_ 30 2097151) rfl rfl ?_
           refine pw_ 21 90 (tl_ 30 4194303) rfl rfl ?_
           refine pw_ 22 91 (tl_ 30 8388607) rfl rfl ?_
           refine pu_ 23 92 (tl_ 30 16777215) rfl rfl ?_
           refine pu_ 24 93 (tl_ 30 33554431) rfl rfl ?_
           refine pu_ 25 94 (tl_ 30 67108863) rfl rfl ?_
           refine pu_ 26 95 (tl_ 30 134217727) rfl rfl ?_
           refine pu_ 27 96 (tl_ 30 268435455) rfl rfl ?_
           refine pw_ 28 97 (tl_ 30 536870911) rfl rfl ?_
           refine pw_ 29 2 (tl_ 30 1073741823) rfl rfl ?_
           refine done_ (done_of HT_.out (g1_)) ?_
           try go_wp2
           go_ret
           exact ⟨g4_, qz0_⟩
         ·replace c61 := Bool.eq_false_iff.mpr c61
          subst c61
          replace H := ifn_ H
          obtain rfl := Option.some.inj H
          have hnb94 := NB521_514.out
          have hnc94 := NB514_521.out
          obtain ⟨hcz95_0, hcz95_1, hfz95_0, hfz95_1⟩ := blk2_ BK521
          try go_wp2
          replace HO_515000 := Aside0.mk (Kd.R_drew HO_515000.out)
          replace HO_515001 := Aside0.mk (Kd.V_drew HO_515001.out)
          replace HO_522000 := Aside0.mk (Kd.R_drew HO_522000.out)
          replace HO_522001 := Aside0.mk (Kd.S_drew HO_522001.out)
          replace BK514 := Aside0.mk (blk_drew BK514.out)
          replace BK521 := Aside0.mk (blk_drew BK521.out)
          replace HB := Aside0.mk (below_drew1 HB.out)
          refine start_ (n := 30) (S := fun w' => w'.cell? ⟨gb521, 0, none⟩ = some (.slice Ao17 t515.length co17) ∧ w'.cell? ⟨gb521, 1, none⟩ = some (.slice Ao20 t518.length co20) ∧ w'.cell? ⟨gb514, 0, none⟩ = some (.slice Ao12 t508.length co12) ∧ w'.cell? ⟨gb514, 1, none⟩ = some (.slice Ao14 t511.length co14)) (ds := []) (tl_ 30 0) (g1_) rfl (g1_) ⟨(blk_cell BK521.out 0).trans rfl, (blk_cell BK521.out 1).trans rfl, (blk_cell BK514.out 0).trans rfl, (blk_cell BK514.out 1).trans rfl⟩ (fun hHeld => ?_); refine with_tabW laws_FnNetted.tab17 laws_FnNetted.bits17 (fun HT_ HW_ => ?_)
          generalize wr.drew = w96 at HO_515000 HO_515001 HO_522000 HO_522001 BK514 BK521 HB hHeld ⊢
          refine tk2_ 0 69 (tl_ 30 1) rfl rfl hHeld ?_
          refine one_ (i := 1) (N := some 70) (tl_ 30 3) rfl rfl (one_of HT_.out (g1_)) (by decide) (fun K hK => ?_)
          refine goes_ Try.func44 (g1_) rfl #[.agg #[.slice Ao17 t515.length co17, .slice Ao20 t518.length co20]] (by rfl) rfl rfl (g2_) ?_
          with_reducible refine (impl_BookOk.calls k1 _ _ t515 _ _ t518 true _ ?side1 ?side2 ?side3 ?side4 A53.out).mono ?_
          (case side1 => repeat (first | exact (Kd.R_reads' HO_522000.out).2.2 | (with_reducible refine Kd.C_alloc ?_ _) | (with_reducible refine Kd.C_drewN ?_ _) | (with_reducible refine Kd.C_drew ?_)))
          (case side2 => exact (Kd.R_reads' HO_522000.out).2.1)
          (case side3 => repeat (first | exact (Kd.S_reads' HO_522001.out).2.2 | (with_reducible refine Kd.C_alloc ?_ _) | (with_reducible refine Kd.C_drewN ?_ _) | (with_reducible refine Kd.C_drew ?_)))
          (case side4 => exact (Kd.S_reads' HO_522001.out).2.1)
          rintro e w97 ⟨rfl, hb⟩
          refine ⟨_, rfl, ?_⟩
          replace HO_515000 := Aside0.mk (Kd.R_below (uf1_ HO_515000) hb)
          replace HO_515001 := Aside0.mk (Kd.V_below (uf5_ HO_515001) hb)
          replace HO_522000 := Aside0.mk (Kd.R_below (uf1_ HO_522000) hb)
          replace HO_522001 := Aside0.mk (Kd.S_below (uf2_ HO_522001) hb)
          replace BK514 := bb_ BK514 hb
          replace BK521 := bb_ BK521 hb
          replace HB := Aside0.mk (below_step (qz0_) hb)
          (try clear hb)
          (try clear hk hi)
          refine hK.out _ _ ⟨(blk_cell BK521.out 0).trans rfl, (blk_cell BK521.out 1).trans rfl, (blk_cell BK514.out 0).trans rfl, (blk_cell BK514.out 1).trans rfl⟩ (fun hHeld => ?_)
          clear hK K
          refine nm_ ?_
          refine pw_ 2 71 (tl_ 30 7) rfl rfl ?_
          refine tk2_ 3 72 (tl_ 30 15) rfl rfl hHeld ?_
          refine tk2_ 5 74 (tl_ 30 47) rfl rfl hHeld ?_
          refine one_ (i := 4) (N := some 73) (tl_ 30 63) rfl rfl (one_of HT_.out (g1_)) (by decide) (fun K hK => ?_)
          refine goes_ Try.func46 (g1_) rfl #[.agg #[.slice Ao17 t515.length co17, .slice Ao20 t518.length co20]] (by rfl) rfl rfl (g2_) ?_
          with_reducible refine (impl_NetsOf.calls k1 _ _ t515 _ _ t518 t538 _ ?side1 ?side2 ?side3 ?side4 A55.out).mono ?_
          (case side1 => repeat (first | exact (Kd.R_reads' HO_522000.out).2.2 | (with_reducible refine Kd.C_alloc ?_ _) | (with_reducible refine Kd.C_drewN ?_ _) | (with_reducible refine Kd.C_drew ?_)))
          (case side2 => exact (Kd.R_reads' HO_522000.out).2.1)
          (case side3 => repeat (first | exact (Kd.S_reads' HO_522001.out).2.2 | (with_reducible refine Kd.C_alloc ?_ _) | (with_reducible refine Kd.C_drewN ?_ _) | (with_reducible refine Kd.C_drew ?_)))
          (case side4 => exact (Kd.S_reads' HO_522001.out).2.1)
          rintro e w98 ⟨v539, rfl, ho0, hb⟩
          refine ⟨_, rfl, ?_⟩
          replace HO_515001 := Aside0.mk (Kd.V_elder' (uf5_ HO_515001) (Kd.R_base ho0) hb)
          replace HO_522001 := Aside0.mk (Kd.S_elder' (uf2_ HO_522001) (Kd.R_base ho0) hb)
          have HO540 := Aside0.mk (Kd.R_lower (Kd.R_new' (Kd.R_new' ho0 (Kd.R_lt (uf1_ HO_515000))) (Kd.R_lt (uf1_ HO_522000))) (below_size (qz0_)))
          replace HO_515000 := Aside0.mk (Kd.R_elder' (uf1_ HO_515000) (Kd.R_base ho0) hb)
          replace HO_522000 := Aside0.mk (Kd.R_elder' (uf1_ HO_522000) (Kd.R_base ho0) hb)
          replace BK514 := bb_ BK514 hb
          replace BK521 := bb_ BK521 hb
          replace HB := Aside0.mk (below_step (qz0_) hb)
          (try clear hb)
          (try clear hk hi)
          (try clear ho0)
          refine hK.out _ _ ⟨(blk_cell BK521.out 0).trans rfl, (blk_cell BK521.out 1).trans rfl, (blk_cell BK514.out 0).trans rfl, (blk_cell BK514.out 1).trans rfl⟩ (fun hHeld => ?_)
          clear hK K
          refine nm_ ?_
          refine one_ (i := 6) (N := some 75) (tl_ 30 127) rfl rfl (one_of HT_.out (g1_)) (by decide) (fun K hK => ?_)
          refine goes_ Try.func46 (g1_) rfl #[.agg #[.slice Ao12 t508.length co12, .slice Ao14 t511.length co14]] (by rfl) rfl rfl (g2_) ?_
          with_reducible refine (impl_NetsOf.calls k1 _ _ t508 _ _ t511 t541 _ ?side1 ?side2 ?side3 ?side4 A56.out).mono ?_
          (case side1 => repeat (first | exact (Kd.R_reads' HO_515000.out).2.2 | (with_reducible refine Kd.C_alloc ?_ _) | (with_reducible refine Kd.C_drewN ?_ _) | (with_reducible refine Kd.C_drew ?_)))
          (case side2 => exact (Kd.R_reads' HO_515000.out).2.1)
          (case side3 => repeat (first | exact (Kd.V_reads' HO_515001.out).2.2 | (with_reducible refine Kd.C_alloc ?_ _) | (with_reducible refine Kd.C_drewN ?_ _) | (with_reducible refine Kd.C_drew ?_)))
          (case side4 => exact (Kd.V_reads' HO_515001.out).2.1)
          rintro e w99 ⟨v542, rfl, ho0, hb⟩
          refine ⟨_, rfl, ?_⟩
          replace HO_515001 := Aside0.mk (Kd.V_elder' (uf5_ HO_515001) (Kd.R_base ho0) hb)
          replace HO_522001 := Aside0.mk (Kd.S_elder' (uf2_ HO_522001) (Kd.R_base ho0) hb)
          have HO543 := Aside0.mk (Kd.R_lower (Kd.R_new' (Kd.R_new' (Kd.R_new' ho0 (Kd.R_lt (uf1_ HO_515000))) (Kd.R_lt (uf1_ HO_522000))) (Kd.R_lt (uf1_ HO540))) (below_size (qz0_)))
          replace HO_515000 := Aside0.mk (Kd.R_elder' (uf1_ HO_515000) (Kd.R_base ho0) hb)
          replace HO_522000 := Aside0.mk (Kd.R_elder' (uf1_ HO_522000) (Kd.R_base ho0) hb)
          replace HO540 := Aside0.mk (Kd.R_elder' (uf1_ HO540) (Kd.R_base ho0) hb)
          replace BK514 := bb_ BK514 hb
          replace BK521 := bb_ BK521 hb
          replace HB := Aside0.mk (below_step (qz0_) hb)
          (try clear hb)
          (try clear hk hi)
          (try clear ho0)
          obtain ⟨Ao100, co100, eo100⟩ := Kd.R_slice HO540.out
          (first | subst eo100 | (injection eo100 with f1_ f2_ f3_; have f4_ := f1_.symm; have f5_ := f3_.symm; clear f1_ f2_ f3_; subst f4_; subst f5_))
          obtain ⟨Ao101, co101, eo101⟩ := Kd.R_slice HO543.out
          (first | subst eo101 | (injection eo101 with f1_ f2_ f3_; have f4_ := f1_.symm; have f5_ := f3_.symm; clear f1_ f2_ f3_; subst f4_; subst f5_))
          refine hK.out _ _ ⟨(blk_cell BK521.out 0).trans rfl, (blk_cell BK521.out 1).trans rfl, (blk_cell BK514.out 0).trans rfl, (blk_cell BK514.out 1).trans rfl⟩ (fun hHeld => ?_)
          clear hK K
          refine nm_ ?_
          refine one_ (i := 7) (N := some 76) (tl_ 30 255) rfl rfl (one_of HT_.out (g1_)) (by decide) (fun K hK => ?_)
          refine goes_ Try.func45 (g1_) rfl #[.slice Ao100 t538.length co100, .slice Ao101 t541.length co101] (by rfl) rfl rfl (g2_) ?_
          with_reducible refine (laws_sameInts.calls k1 _ _ t538 _ _ t541 true _ ?side1 ?side2 ?side3 ?side4 A57.out).mono ?_
          (case side1 => repeat (first | exact (Kd.R_reads' HO540.out).2.2 | (with_reducible refine Kd.C_alloc ?_ _) | (with_reducible refine Kd.C_drewN ?_ _) | (with_reducible refine Kd.C_drew ?_)))
          (case side2 => exact (Kd.R_reads' HO540.out).2.1)
          (case side3 => repeat (first | exact (Kd.R_reads' HO543.out).2.2 | (with_reducible refine Kd.C_alloc ?_ _) | (with_reducible refine Kd.C_drewN ?_ _) | (with_reducible refine Kd.C_drew ?_)))
          (case side4 => exact (Kd.R_reads' HO543.out).2.1)
          rintro e w' ⟨rfl, ⟨nd, rfl⟩⟩
          refine ⟨_, rfl, ?_⟩
          refine hK.out _ _ ⟨(blk_cell BK521.out 0).trans rfl, (blk_cell BK521.out 1).trans rfl, (blk_cell BK514.out 0).trans rfl, (blk_cell BK514.out 1).trans rfl⟩ (fun hHeld => ?_)
          clear hK K
          refine nm_ ?_
          refine pw_ 8 77 (tl_ 30 511) rfl rfl ?_
          refine pw_ 9 78 (tl_ 30 1023) rfl rfl ?_
          refine tk2_ 10 79 (tl_ 30 2047) rfl rfl hHeld ?_
          refine tk2_ 12 81 (tl_ 30 6143) rfl rfl hHeld ?_
          refine one_ (i := 11) (N := some 80) (tl_ 30 8191) rfl rfl (one_of HT_.out (g1_)) (by decide) (fun K hK => ?_)
          refine goes_ Try.func39 (g1_) rfl #[.agg #[.slice Ao17 t515.length co17, .slice Ao20 t518.length co20]] (by rfl) rfl rfl (g2_) ?_
          with_reducible refine (impl_Netted.calls k1 _ _ t515 _ _ t518 t545 t548 _ ?side1 ?side2 ?side3 ?side4 A59.out).mono ?_
          (case side1 => repeat (first | exact (Kd.R_reads' HO_522000.out).2.2 | (with_reducible refine Kd.C_alloc ?_ _) | (with_reducible refine Kd.C_drewN ?_ _) | (with_reducible refine Kd.C_drew ?_)))
          (case side2 => exact (Kd.R_reads' HO_522000.out).2.1)
          (case side3 => repeat (first | exact (Kd.S_reads' HO_522001.out).2.2 | (with_reducible refine Kd.C_alloc ?_ _) | (with_reducible refine Kd.C_drewN ?_ _) | (with_reducible refine Kd.C_drew ?_)))
          (case side4 => exact (Kd.S_reads' HO_522001.out).2.1)
          rintro e w102 ⟨v546, v549, rfl, ho0, ho1, hb⟩
          refine ⟨_, rfl, ?_⟩
          replace HO_515001 := Aside0.mk (Kd.V_mono (Kd.V_told (Kd.V_told (Kd.V_old (uf5_ HO_515001) hb) (Kd.R_base ho0)) (Kd.S_base ho1)) (fun _ h_ => h_.1))
          have HO547 := Aside0.mk (Kd.R_lower (Kd.R_new' (Kd.R_new' (Kd.R_new' (Kd.R_new' ho0 (Kd.R_lt (uf1_ HO_515000))) (Kd.R_lt (uf1_ HO_522000))) (Kd.R_lt (uf1_ HO540))) (Kd.R_lt (uf1_ HO543))) (below_size (qz0_)))
          have HO550 := Aside0.mk (Kd.S_lower (Kd.S_new' (Kd.S_new' (Kd.S_new' (Kd.S_new' (Kd.S_new' ho1 (Kd.R_lt (uf1_ HO_515000))) (Kd.R_lt (uf1_ HO_522000))) (Kd.S_lt (uf2_ HO_522001))) (Kd.R_lt (uf1_ HO540))) (Kd.R_lt (uf1_ HO543))) (below_size (qz0_)))
          replace HO_515000 := Aside0.mk (Kd.R_elder' (uf1_ HO_515000) (Kd.R_base ho0) hb)
          replace HO_522000 := Aside0.mk (Kd.R_elder' (uf1_ HO_522000) (Kd.R_base ho0) hb)
          replace HO_522001 := Aside0.mk (Kd.S_mono (Kd.S_told (Kd.S_told (Kd.S_old (uf2_ HO_522001) hb) (Kd.R_base ho0)) (Kd.S_base ho1)) (fun _ h_ => h_.1))
          replace HO540 := Aside0.mk (Kd.R_elder' (uf1_ HO540) (Kd.R_base ho0) hb)
          replace HO543 := Aside0.mk (Kd.R_elder' (uf1_ HO543) (Kd.R_base ho0) hb)
          replace BK514 := bb_ BK514 hb
          replace BK521 := bb_ BK521 hb
          replace HB := Aside0.mk (below_step (qz0_) hb)
          (try clear hb)
          (try clear hk hi)
          (try clear ho0)
          (try clear ho1)
          obtain ⟨Ao103, co103, eo103⟩ := Kd.R_slice HO547.out
          (first | subst eo103 | (injection eo103 with f1_ f2_ f3_; have f4_ := f1_.symm; have f5_ := f3_.symm; clear f1_ f2_ f3_; subst f4_; subst f5_))
          obtain ⟨Ao104, co104, eo104⟩ := Kd.S_slice HO550.out
          (first | subst eo104 | (injection eo104 with f1_ f2_ f3_; have f4_ := f1_.symm; have f5_ := f3_.symm; clear f1_ f2_ f3_; subst f4_; subst f5_))
          refine hK.out _ _ ⟨(blk_cell BK521.out 0).trans rfl, (blk_cell BK521.out 1).trans rfl, (blk_cell BK514.out 0).trans rfl, (blk_cell BK514.out 1).trans rfl⟩ (fun hHeld => ?_)
          clear hK K
          refine nm_ ?_
          refine one_ (i := 13) (N := some 82) (tl_ 30 16383) rfl rfl (one_of HT_.out (g1_)) (by decide) (fun K hK => ?_)
          refine goes_ Try.func40 (g1_) rfl #[.agg #[.slice Ao103 t545.length co103, .slice Ao104 t548.length co104], .agg #[.slice Ao17 t515.length co17, .slice Ao20 t518.length co20]] (by rfl) rfl rfl (g2_) ?_
          with_reducible refine (laws_sameBook.calls k1 _ _ t545 _ _ t548 _ _ t515 _ _ t518 false _ ?side1 ?side2 ?side3 ?side4 ?side5 ?side6 ?side7 ?side8 A60.out).mono ?_
          (case side1 => repeat (first | exact (Kd.R_reads' HO547.out).2.2 | (with_reducible refine Kd.C_alloc ?_ _) | (with_reducible refine Kd.C_drewN ?_ _) | (with_reducible refine Kd.C_drew ?_)))
          (case side2 => exact (Kd.R_reads' HO547.out).2.1)
          (case side3 => repeat (first | exact (Kd.S_reads' HO550.out).2.2 | (with_reducible refine Kd.C_alloc ?_ _) | (with_reducible refine Kd.C_drewN ?_ _) | (with_reducible refine Kd.C_drew ?_)))
          (case side4 => exact (Kd.S_reads' HO550.out).2.1)
          (case side5 => repeat (first | exact (Kd.R_reads' HO_522000.out).2.2 | (with_reducible refine Kd.C_alloc ?_ _) | (with_reducible refine Kd.C_drewN ?_ _) | (with_reducible refine Kd.C_drew ?_)))
          (case side6 => exact (Kd.R_reads' HO_522000.out).2.1)
          (case side7 => repeat (first | exact (Kd.S_reads' HO_522001.out).2.2 | (with_reducible refine Kd.C_alloc ?_ _) | (with_reducible refine Kd.C_drewN ?_ _) | (with_reducible refine Kd.C_drew ?_)))
          (case side8 => exact (Kd.S_reads' HO_522001.out).2.1)
          rintro e w105 ⟨rfl, hb⟩
          refine ⟨_, rfl, ?_⟩
          replace HO_515000 := Aside0.mk (Kd.R_below (uf1_ HO_515000) hb)
          replace HO_515001 := Aside0.mk (Kd.V_below (uf5_ HO_515001) hb)
          replace HO_522000 := Aside0.mk (Kd.R_below (uf1_ HO_522000) hb)
          replace HO_522001 := Aside0.mk (Kd.S_below (uf2_ HO_522001) hb)
          replace HO540 := Aside0.mk (Kd.R_below (uf1_ HO540) hb)
          replace HO543 := Aside0.mk (Kd.R_below (uf1_ HO543) hb)
          replace HO547 := Aside0.mk (Kd.R_below (uf1_ HO547) hb)
          replace HO550 := Aside0.mk (Kd.S_below (uf2_ HO550) hb)
          replace BK514 := bb_ BK514 hb
          replace BK521 := bb_ BK521 hb
          replace HB := Aside0.mk (below_step (qz0_) hb)
          (try clear hb)
          (try clear hk hi)
          refine hK.out _ _ ⟨(blk_cell BK521.out 0).trans rfl, (blk_cell BK521.out 1).trans rfl, (blk_cell BK514.out 0).trans rfl, (blk_cell BK514.out 1).trans rfl⟩ (fun hHeld => ?_)
          clear hK K
          refine nm_ ?_
          refine pw_ 14 83 (tl_ 30 32767) rfl rfl ?_
          refine pw_ 15 84 (tl_ 30 65535) rfl rfl ?_
          refine pu_ 16 85 (tl_ 30 131071) rfl rfl ?_
          refine pu_ 17 86 (tl_ 30 262143) rfl rfl ?_
          refine pu_ 18 87 (tl_ 30 524287) rfl rfl ?_
          refine pu_ 19 88 (tl_ 30 1048575) rfl rfl ?_
          refine pu_ 20 89 (tl_ 30 2097151) rfl rfl ?_
          refine pw_ 21 90 (tl_ 30 4194303) rfl rfl ?_
          refine pw_ 22 91 (tl_ 30 8388607) rfl rfl ?_
          refine pu_ 23 92 (tl_ 30 16777215) rfl rfl ?_
          refine pu_ 24 93 (tl_ 30 33554431) rfl rfl ?_
          refine pu_ 25 94 (tl_ 30 67108863) rfl rfl ?_
          refine pu_ 26 95 (tl_ 30 134217727) rfl rfl ?_
          refine pu_ 27 96 (tl_ 30 268435455) rfl rfl ?_
          refine pw_ 28 97 (tl_ 30 536870911) rfl rfl ?_
          refine pw_ 29 2 (tl_ 30 1073741823) rfl rfl ?_
          refine done_ (done_of HT_.out (g1_)) ?_
          try go_wp2
          go_ret
          exact ⟨g4_, qz0_⟩
        ·replace c58 := Bool.eq_false_iff.mpr c58
         subst c58
         replace H := ifn_ H
         obtain rfl := Option.some.inj H
         have hnb106 := NB521_514.out
         have hnc106 := NB514_521.out
         obtain ⟨hcz107_0, hcz107_1, hfz107_0, hfz107_1⟩ := blk2_ BK521
         try go_wp2
         replace HO_515000 := Aside0.mk (Kd.R_drew HO_515000.out)
         replace HO_515001 := Aside0.mk (Kd.V_drew HO_515001.out)
         replace HO_522000 := Aside0.mk (Kd.R_drew HO_522000.out)
         replace HO_522001 := Aside0.mk (Kd.S_drew HO_522001.out)
         replace BK514 := Aside0.mk (blk_drew BK514.out)
         replace BK521 := Aside0.mk (blk_drew BK521.out)
         replace HB := Aside0.mk (below_drew1 HB.out)
         refine start_ (n := 30) (S := fun w' => w'.cell? ⟨gb521, 0, none⟩ = some (.slice Ao17 t515.length co17) ∧ w'.cell? ⟨gb521, 1, none⟩ = some (.slice Ao20 t518.length co20) ∧ w'.cell? ⟨gb514, 0, none⟩ = some (.slice Ao12 t508.length co12) ∧ w'.cell? ⟨gb514, 1, none⟩ = some (.slice Ao14 t511.length co14)) (ds := []) (tl_ 30 0) (g1_) rfl (g1_) ⟨(blk_cell BK521.out 0).trans rfl, (blk_cell BK521.out 1).trans rfl, (blk_cell BK514.out 0).trans rfl, (blk_cell BK514.out 1).trans rfl⟩ (fun hHeld => ?_); refine with_tabW laws_FnNetted.tab17 laws_FnNetted.bits17 (fun HT_ HW_ => ?_)
         generalize wr.drew = w108 at HO_515000 HO_515001 HO_522000 HO_522001 BK514 BK521 HB hHeld ⊢
         refine tk2_ 0 69 (tl_ 30 1) rfl rfl hHeld ?_
         refine one_ (i := 1) (N := some 70) (tl_ 30 3) rfl rfl (one_of HT_.out (g1_)) (by decide) (fun K hK => ?_)
         refine goes_ Try.func44 (g1_) rfl #[.agg #[.slice Ao17 t515.length co17, .slice Ao20 t518.length co20]] (by rfl) rfl rfl (g2_) ?_
         with_reducible refine (impl_BookOk.calls k1 _ _ t515 _ _ t518 true _ ?side1 ?side2 ?side3 ?side4 A53.out).mono ?_
         (case side1 => repeat (first | exact (Kd.R_reads' HO_522000.out).2.2 | (with_reducible refine Kd.C_alloc ?_ _) | (with_reducible refine Kd.C_drewN ?_ _) | (with_reducible refine Kd.C_drew ?_)))
         (case side2 => exact (Kd.R_reads' HO_522000.out).2.1)
         (case side3 => repeat (first | exact (Kd.S_reads' HO_522001.out).2.2 | (with_reducible refine Kd.C_alloc ?_ _) | (with_reducible refine Kd.C_drewN ?_ _) | (with_reducible refine Kd.C_drew ?_)))
         (case side4 => exact (Kd.S_reads' HO_522001.out).2.1)
         rintro e w109 ⟨rfl, hb⟩
         refine ⟨_, rfl, ?_⟩
         replace HO_515000 := Aside0.mk (Kd.R_below (uf1_ HO_515000) hb)
         replace HO_515001 := Aside0.mk (Kd.V_below (uf5_ HO_515001) hb)
         replace HO_522000 := Aside0.mk (Kd.R_below (uf1_ HO_522000) hb)
         replace HO_522001 := Aside0.mk (Kd.S_below (uf2_ HO_522001) hb)
         replace BK514 := bb_ BK514 hb
         replace BK521 := bb_ BK521 hb
         replace HB := Aside0.mk (below_step (qz0_) hb)
         (try clear hb)
         (try clear hk hi)
         refine hK.out _ _ ⟨(blk_cell BK521.out 0).trans rfl, (blk_cell BK521.out 1).trans rfl, (blk_cell BK514.out 0).trans rfl, (blk_cell BK514.out 1).trans rfl⟩ (fun hHeld => ?_)
         clear hK K
         refine nm_ ?_
         refine pw_ 2 71 (tl_ 30 7) rfl rfl ?_
         refine tk2_ 3 72 (tl_ 30 15) rfl rfl hHeld ?_
         refine tk2_ 5 74 (tl_ 30 47) rfl rfl hHeld ?_
         refine one_ (i := 4) (N := some 73) (tl_ 30 63) rfl rfl (one_of HT_.out (g1_)) (by decide) (fun K hK => ?_)
         refine goes_ Try.func46 (g1_) rfl #[.agg #[.slice Ao17 t515.length co17, .slice Ao20 t518.length co20]] (by rfl) rfl rfl (g2_) ?_
         with_reducible refine (impl_NetsOf.calls k1 _ _ t515 _ _ t518 t538 _ ?side1 ?side2 ?side3 ?side4 A55.out).mono ?_
         (case side1 => repeat (first | exact (Kd.R_reads' HO_522000.out).2.2 | (with_reducible refine Kd.C_alloc ?_ _) | (with_reducible refine Kd.C_drewN ?_ _) | (with_reducible refine Kd.C_drew ?_)))
         (case side2 => exact (Kd.R_reads' HO_522000.out).2.1)
         (case side3 => repeat (first | exact (Kd.S_reads' HO_522001.out).2.2 | (with_reducible refine Kd.C_alloc ?_ _) | (with_reducible refine Kd.C_drewN ?_ _) | (with_reducible refine Kd.C_drew ?_)))
         (case side4 => exact (Kd.S_reads' HO_522001.out).2.1)
         rintro e w110 ⟨v539, rfl, ho0, hb⟩
         refine ⟨_, rfl, ?_⟩
         replace HO_515001 := Aside0.mk (Kd.V_elder' (uf5_ HO_515001) (Kd.R_base ho0) hb)
         replace HO_522001 := Aside0.mk (Kd.S_elder' (uf2_ HO_522001) (Kd.R_base ho0) hb)
         have HO540 := Aside0.mk (Kd.R_lower (Kd.R_new' (Kd.R_new' ho0 (Kd.R_lt (uf1_ HO_515000))) (Kd.R_lt (uf1_ HO_522000))) (below_size (qz0_)))
         replace HO_515000 := Aside0.mk (Kd.R_elder' (uf1_ HO_515000) (Kd.R_base ho0) hb)
         replace HO_522000 := Aside0.mk (Kd.R_elder' (uf1_ HO_522000) (Kd.R_base ho0) hb)
         replace BK514 := bb_ BK514 hb
         replace BK521 := bb_ BK521 hb
         replace HB := Aside0.mk (below_step (qz0_) hb)
         (try clear hb)
         (try clear hk hi)
         (try clear ho0)
         refine hK.out _ _ ⟨(blk_cell BK521.out 0).trans rfl, (blk_cell BK521.out 1).trans rfl, (blk_cell BK514.out 0).trans rfl, (blk_cell BK514.out 1).trans rfl⟩ (fun hHeld => ?_)
         clear hK K
         refine nm_ ?_
         refine one_ (i := 6) (N := some 75) (tl_ 30 127) rfl rfl (one_of HT_.out (g1_)) (by decide) (fun K hK => ?_)
         refine goes_ Try.func46 (g1_) rfl #[.agg #[.slice Ao12 t508.length co12, .slice Ao14 t511.length co14]] (by rfl) rfl rfl (g2_) ?_
         with_reducible refine (impl_NetsOf.calls k1 _ _ t508 _ _ t511 t541 _ ?side1 ?side2 ?side3 ?side4 A56.out).mono ?_
         (case side1 => repeat (first | exact (Kd.R_reads' HO_515000.out).2.2 | (with_reducible refine Kd.C_alloc ?_ _) | (with_reducible refine Kd.C_drewN ?_ _) | (with_reducible refine Kd.C_drew ?_)))
         (case side2 => exact (Kd.R_reads' HO_515000.out).2.1)
         (case side3 => repeat (first | exact (Kd.V_reads' HO_515001.out).2.2 | (with_reducible refine Kd.C_alloc ?_ _) | (with_reducible refine Kd.C_drewN ?_ _) | (with_reducible refine Kd.C_drew ?_)))
         (case side4 => exact (Kd.V_reads' HO_515001.out).2.1)
         rintro e w111 ⟨v542, rfl, ho0, hb⟩
         refine ⟨_, rfl, ?_⟩
         replace HO_515001 := Aside0.mk (Kd.V_elder' (uf5_ HO_515001) (Kd.R_base ho0) hb)
         replace HO_522001 := Aside0.mk (Kd.S_elder' (uf2_ HO_522001) (Kd.R_base ho0) hb)
         have HO543 := Aside0.mk (Kd.R_lower (Kd.R_new' (Kd.R_new' (Kd.R_new' ho0 (Kd.R_lt (uf1_ HO_515000))) (Kd.R_lt (uf1_ HO_522000))) (Kd.R_lt (uf1_ HO540))) (below_size (qz0_)))
         replace HO_515000 := Aside0.mk (Kd.R_elder' (uf1_ HO_515000) (Kd.R_base ho0) hb)
         replace HO_522000 := Aside0.mk (Kd.R_elder' (uf1_ HO_522000) (Kd.R_base ho0) hb)
         replace HO540 := Aside0.mk (Kd.R_elder' (uf1_ HO540) (Kd.R_base ho0) hb)
         replace BK514 := bb_ BK514 hb
         replace BK521 := bb_ BK521 hb
         replace HB := Aside0.mk (below_step (qz0_) hb)
         (try clear hb)
         (try clear hk hi)
         (try clear ho0)
         obtain ⟨Ao112, co112, eo112⟩ := Kd.R_slice HO540.out
         (first | subst eo112 | (injection eo112 with f1_ f2_ f3_; have f4_ := f1_.symm; have f5_ := f3_.symm; clear f1_ f2_ f3_; subst f4_; subst f5_))
         obtain ⟨Ao113, co113, eo113⟩ := Kd.R_slice HO543.out
         (first | subst eo113 | (injection eo113 with f1_ f2_ f3_; have f4_ := f1_.symm; have f5_ := f3_.symm; clear f1_ f2_ f3_; subst f4_; subst f5_))
         refine hK.out _ _ ⟨(blk_cell BK521.out 0).trans rfl, (blk_cell BK521.out 1).trans rfl, (blk_cell BK514.out 0).trans rfl, (blk_cell BK514.out 1).trans rfl⟩ (fun hHeld => ?_)
         clear hK K
         refine nm_ ?_
         refine one_ (i := 7) (N := some 76) (tl_ 30 255) rfl rfl (one_of HT_.out (g1_)) (by decide) (fun K hK => ?_)
         refine goes_ Try.func45 (g1_) rfl #[.slice Ao112 t538.length co112, .slice Ao113 t541.length co113] (by rfl) rfl rfl (g2_) ?_
         with_reducible refine (laws_sameInts.calls k1 _ _ t538 _ _ t541 false _ ?side1 ?side2 ?side3 ?side4 A57.out).mono ?_
         (case side1 => repeat (first | exact (Kd.R_reads' HO540.out).2.2 | (with_reducible refine Kd.C_alloc ?_ _) | (with_reducible refine Kd.C_drewN ?_ _) | (with_reducible refine Kd.C_drew ?_)))
         (case side2 => exact (Kd.R_reads' HO540.out).2.1)
         (case side3 => repeat (first | exact (Kd.R_reads' HO543.out).2.2 | (with_reducible refine Kd.C_alloc ?_ _) | (with_reducible refine Kd.C_drewN ?_ _) | (with_reducible refine Kd.C_drew ?_)))
         (case side4 => exact (Kd.R_reads' HO543.out).2.1)
         rintro e w' ⟨rfl, ⟨nd, rfl⟩⟩
         refine ⟨_, rfl, ?_⟩
         refine hK.out _ _ ⟨(blk_cell BK521.out 0).trans rfl, (blk_cell BK521.out 1).trans rfl, (blk_cell BK514.out 0).trans rfl, (blk_cell BK514.out 1).trans rfl⟩ (fun hHeld => ?_)
         clear hK K
         refine nm_ ?_
         refine pw_ 8 77 (tl_ 30 511) rfl rfl ?_
         refine pw_ 9 78 (tl_ 30 1023) rfl rfl ?_
         refine pu_ 10 79 (tl_ 30 2047) rfl rfl ?_
         refine pu_ 11 80 (tl_ 30 4095) rfl rfl ?_
         refine pu_ 12 81 (tl_ 30 8191) rfl rfl ?_
         refine pu_ 13 82 (tl_ 30 16383) rfl rfl ?_
         refine pw_ 14 83 (tl_ 30 32767) rfl rfl ?_
         refine pw_ 15 84 (tl_ 30 65535) rfl rfl ?_
         refine pu_ 16 85 (tl_ 30 131071) rfl rfl ?_
         refine pu_ 17 86 (tl_ 30 262143) rfl rfl ?_
         refine pu_ 18 87 (tl_ 30 524287) rfl rfl ?_
         refine pu_ 19 88 (tl_ 30 1048575) rfl rfl ?_
         refine pu_ 20 89 (tl_ 30 2097151) rfl rfl ?_
         refine pw_ 21 90 (tl_ 30 4194303) rfl rfl ?_
         refine pw_ 22 91 (tl_ 30 8388607) rfl rfl ?_
         refine pu_ 23 92 (tl_ 30 16777215) rfl rfl ?_
         refine pu_ 24 93 (tl_ 30 33554431) rfl rfl ?_
         refine pu_ 25 94 (tl_ 30 67108863) rfl rfl ?_
         refine pu_ 26 95 (tl_ 30 134217727) rfl rfl ?_
         refine pu_ 27 96 (tl_ 30 268435455) rfl rfl ?_
         refine pw_ 28 97 (tl_ 30 536870911) rfl rfl ?_
         refine pw_ 29 2 (tl_ 30 1073741823) rfl rfl ?_
         refine done_ (done_of HT_.out (g1_)) ?_
         try go_wp2
         go_ret
         exact ⟨g4_, qz0_⟩
       ·replace c54 := Bool.eq_false_iff.mpr c54
        subst c54
        replace H := ifn_ H
        obtain rfl := Option.some.inj H
        have hnb114 := NB521_514.out
        have hnc114 := NB514_521.out
        obtain ⟨hcz115_0, hcz115_1, hfz115_0, hfz115_1⟩ := blk2_ BK521
        try go_wp2
        replace HO_515000 := Aside0.mk (Kd.R_drew HO_515000.out)
        replace HO_515001 := Aside0.mk (Kd.V_drew HO_515001.out)
        replace HO_522000 := Aside0.mk (Kd.R_drew HO_522000.out)
        replace HO_522001 := Aside0.mk (Kd.S_drew HO_522001.out)
        replace BK514 := Aside0.mk (blk_drew BK514.out)
        replace BK521 := Aside0.mk (blk_drew BK521.out)
        replace HB := Aside0.mk (below_drew1 HB.out)
        refine start_ (n := 30) (S := fun w' => w'.cell? ⟨gb521, 0, none⟩ = some (.slice Ao17 t515.length co17) ∧ w'.cell? ⟨gb521, 1, none⟩ = some (.slice Ao20 t518.length co20)) (ds := []) (tl_ 30 0) (g1_) rfl (g1_) ⟨(blk_cell BK521.out 0).trans rfl, (blk_cell BK521.out 1).trans rfl⟩ (fun hHeld => ?_); refine with_tabW laws_FnNetted.tab17 laws_FnNetted.bits17 (fun HT_ HW_ => ?_)
        generalize wr.drew = w116 at HO_515000 HO_515001 HO_522000 HO_522001 BK514 BK521 HB hHeld ⊢
        refine tk0_ 0 69 (tl_ 30 1) rfl rfl hHeld ?_
        refine one_ (i := 1) (N := some 70) (tl_ 30 3) rfl rfl (one_of HT_.out (g1_)) (by decide) (fun K hK => ?_)
        refine goes_ Try.func44 (g1_) rfl #[.agg #[.slice Ao17 t515.length co17, .slice Ao20 t518.length co20]] (by rfl) rfl rfl (g2_) ?_
        with_reducible refine (impl_BookOk.calls k1 _ _ t515 _ _ t518 false _ ?side1 ?side2 ?side3 ?side4 A53.out).mono ?_
        (case side1 => repeat (first | exact (Kd.R_reads' HO_522000.out).2.2 | (with_reducible refine Kd.C_alloc ?_ _) | (with_reducible refine Kd.C_drewN ?_ _) | (with_reducible refine Kd.C_drew ?_)))
        (case side2 => exact (Kd.R_reads' HO_522000.out).2.1)
        (case side3 => repeat (first | exact (Kd.S_reads' HO_522001.out).2.2 | (with_reducible refine Kd.C_alloc ?_ _) | (with_reducible refine Kd.C_drewN ?_ _) | (with_reducible refine Kd.C_drew ?_)))
        (case side4 => exact (Kd.S_reads' HO_522001.out).2.1)
        rintro e w117 ⟨rfl, hb⟩
        refine ⟨_, rfl, ?_⟩
        replace HO_515000 := Aside0.mk (Kd.R_below (uf1_ HO_515000) hb)
        replace HO_515001 := Aside0.mk (Kd.V_below (uf5_ HO_515001) hb)
        replace HO_522000 := Aside0.mk (Kd.R_below (uf1_ HO_522000) hb)
        replace HO_522001 := Aside0.mk (Kd.S_below (uf2_ HO_522001) hb)
        replace BK514 := bb_ BK514 hb
        replace BK521 := bb_ BK521 hb
        replace HB := Aside0.mk (below_step (qz0_) hb)
        (try clear hb)
        (try clear hk hi)
        refine hK.out _ _ ⟨(blk_cell BK521.out 0).trans rfl, (blk_cell BK521.out 1).trans rfl⟩ (fun hHeld => ?_)
        clear hK K
        refine nm_ ?_
        refine pw_ 2 71 (tl_ 30 7) rfl rfl ?_
        refine pu_ 3 72 (tl_ 30 15) rfl rfl ?_
        refine pu_ 4 73 (tl_ 30 31) rfl rfl ?_
        refine pu_ 5 74 (tl_ 30 63) rfl rfl ?_
        refine pu_ 6 75 (tl_ 30 127) rfl rfl ?_
        refine pu_ 7 76 (tl_ 30 255) rfl rfl ?_
        refine pw_ 8 77 (tl_ 30 511) rfl rfl ?_
        refine pw_ 9 78 (tl_ 30 1023) rfl rfl ?_
        refine pu_ 10 79 (tl_ 30 2047) rfl rfl ?_
        refine pu_ 11 80 (tl_ 30 4095) rfl rfl ?_
        refine pu_ 12 81 (tl_ 30 8191) rfl rfl ?_
        refine pu_ 13 82 (tl_ 30 16383) rfl rfl ?_
        refine pw_ 14 83 (tl_ 30 32767) rfl rfl ?_
        refine pw_ 15 84 (tl_ 30 65535) rfl rfl ?_
        refine pu_ 16 85 (tl_ 30 131071) rfl rfl ?_
        refine pu_ 17 86 (tl_ 30 262143) rfl rfl ?_
        refine pu_ 18 87 (tl_ 30 524287) rfl rfl ?_
        refine pu_ 19 88 (tl_ 30 1048575) rfl rfl ?_
        refine pu_ 20 89 (tl_ 30 2097151) rfl rfl ?_
        refine pw_ 21 90 (tl_ 30 4194303) rfl rfl ?_
        refine pw_ 22 91 (tl_ 30 8388607) rfl rfl ?_
        refine pu_ 23 92 (tl_ 30 16777215) rfl rfl ?_
        refine pu_ 24 93 (tl_ 30 33554431) rfl rfl ?_
        refine pu_ 25 94 (tl_ 30 67108863) rfl rfl ?_
        refine pu_ 26 95 (tl_ 30 134217727) rfl rfl ?_
        refine pu_ 27 96 (tl_ 30 268435455) rfl rfl ?_
        refine pw_ 28 97 (tl_ 30 536870911) rfl rfl ?_
        refine pw_ 29 2 (tl_ 30 1073741823) rfl rfl ?_
        refine done_ (done_of HT_.out (g1_)) ?_
        try go_wp2
        go_ret
        exact ⟨g4_, qz0_⟩
   ·replace c9 := Bool.eq_false_iff.mpr c9
    subst c9
    replace H := ifn_ H
    obtain ⟨t530, A118, H⟩ := bind_ H
    by_cases c119 : t530 = true
    ·subst c119
     replace H := ifp_ H
     obtain ⟨t531, A120, H⟩ := bind_ H
     obtain rfl := Option.some.inj H
     go_enter Try.func8, Try.ntmps8
     try go_wp2_with (first | ((with_reducible refine gate_callee (f := 38) rfl ?_); refine goesL_ (some 11) rfl rfl Try.func38 k_ rfl #[.slice A0 l0.length c0] rfl (g2_) ?_; (with_reducible refine (spec_DrawNetted.calls k _ _ l0 t508 t511 _ ?side1 ?side2 A3.out).mono ?_); (case side1 => repeat (first | exact HR0.out | (with_reducible refine Kd.C_alloc ?_ _) | (with_reducible refine Kd.C_drewN ?_ _) | (with_reducible refine Kd.C_drew ?_))); (case side2 => exact HC0.out); rintro e w121 ⟨v509, v512, rfl, ho0, ho1, hb⟩; refine ⟨_, rfl, ?_⟩; have HO510 := Aside0.mk (Kd.R_lower (Kd.R_mono (ok' := fun k_ => True) ho0 (fun _ hk_ => trivial)) (below_size (qz0_))); have HO513 := Aside0.mk (Kd.V_lower (Kd.V_mono (ok' := fun k_ => some k_ ≠ (v509 : Value).ownBlock) ho1 (fun k_ hk_ => hk_.2)) (below_size (qz0_))); replace HB := Aside0.mk (below_step (qz0_) hb); (try clear hb); (try clear hk hi); (try clear ho0); (try clear ho1)) | ((with_reducible refine gate_dst (N := 3) rfl ?_); (try (refine gate_guard (by rfl) ?_; dsimp only)); refine bx_ (N := 3) #[.slice none 0 0, .slice none 0 0] 25 ?_; intro gb514 hg w122 hbox hb; replace HO510 := Aside0.mk (Kd.R_below (uf1_ HO510) hb); replace HO513 := Aside0.mk (Kd.V_below (Kd.V_elderB (uf5_ HO513) gb514 (Nat.le_of_eq hg.symm)) hb); have BK514 := Aside0.mk (hbox); have GW514 := Aside0.mk ((g9_ : w.heap.size ≤ gb514)); have GE514 := Aside0.mk ((g9_ : w.heap.size ≤ gb514)); replace HB := Aside0.mk (below_step (qz0_) hb); clear hb hbox hg; obtain ⟨Ao123, co123, eo123⟩ := Kd.R_slice HO510.out; subst eo123; obtain ⟨hcz124_0, hcz124_1, hfz124_0, hfz124_1⟩ := blk2_ BK514; obtain ⟨Ao125, co125, eo125⟩ := Kd.V_slice HO513.out; subst eo125) | ((with_reducible refine gate_callee (f := 39) rfl ?_); refine goesL_ (some 13) rfl rfl Try.func39 k_ rfl #[.agg #[.slice Ao123 t508.length co123, .slice Ao125 t511.length co125]] rfl (g2_) ?_; (with_reducible refine (impl_Netted.calls k _ _ t508 _ _ t511 t515 t518 _ ?side1 ?side2 ?side3 ?side4 A4.out).mono ?_); (case side1 => refine (Kd.R_reads' (e := 3) (base := w.heap.size) (ok := fun k_ => True) (n := t508.length) (c := co123) ?_).2.2; exact (g40_)); (case side2 => exact (Kd.R_reads' HO510.out).2.1); (case side3 => refine (Kd.V_reads' (e := 22) (base := w.heap.size) (ok := fun k_ => (some k_ ≠ (.slice Ao123 t508.length co123 : Value).ownBlock ∧ k_ ≠ gb514)) (n := t511.length) (c := co125) ?_).2.2; exact (by (with_reducible repeat (first | apply Kd.V_alloc | apply Kd.V_drewN | apply Kd.V_drew)); exact (Kd.V_mono (Kd.V_far (p := ⟨gb514, 1, none⟩) (Kd.V_far (p := ⟨gb514, 0, none⟩) (Kd.V_mono HO513.out (fun k_ hk => (⟨hk, hk.2⟩ : _ ∧ k_ ≠ gb514))) (fun _ hk => hk.2) (.slice Ao123 t508.length co123)) (fun _ hk => hk.2) (.slice Ao125 t511.length co125)) (fun _ h_ => h_.1)))); (case side4 => exact (Kd.V_reads' HO513.out).2.1); rintro e w126 ⟨v516, v519, rfl, ho0, ho1, hb⟩; refine ⟨_, rfl, ?_⟩; replace HO513 := Aside0.mk (Kd.V_mono (Kd.V_told (Kd.V_told (Kd.V_old (by (with_reducible repeat (first | apply Kd.V_alloc | apply Kd.V_drewN | apply Kd.V_drew)); exact (Kd.V_mono (Kd.V_far (p := ⟨gb514, 1, none⟩) (Kd.V_far (p := ⟨gb514, 0, none⟩) (Kd.V_mono HO513.out (fun k_ hk => (⟨hk, hk.2⟩ : _ ∧ k_ ≠ gb514))) (fun _ hk => hk.2) (.slice Ao123 t508.length co123)) (fun _ hk => hk.2) (.slice Ao125 t511.length co125)) (fun _ h_ => h_.1))) hb) (Kd.R_base ho0)) (Kd.S_base ho1)) (fun _ h_ => h_.1)); have HO517 := Aside0.mk (Kd.R_lower (Kd.R_new' ho0 (Kd.R_lt (g40_))) (below_size (qz0_))); have HO520 := Aside0.mk (Kd.S_lower (Kd.S_new' ho1 (Kd.R_lt (g40_))) (below_size (qz0_))); replace HO510 := Aside0.mk (Kd.R_elder' (g40_) (Kd.R_base ho0) hb); replace BK514 := Aside0.mk (blk_below (g := gb514) (o := .cells #[.slice Ao123 t508.length co123, .slice Ao125 t511.length co125] 25 (0, 0)) (by (with_reducible repeat (first | refine blk_drewN ?_ _ | refine blk_drew ?_ | refine blk_alloc ?_ _)); refine blk_put (cs := #[.slice Ao123 t508.length co123, .slice none 0 0]) ?_ 1 _ rfl; (with_reducible repeat (first | refine blk_drewN ?_ _ | refine blk_drew ?_ | refine blk_alloc ?_ _)); refine blk_put (cs := #[.slice none 0 0, .slice none 0 0]) ?_ 0 _ rfl; (with_reducible repeat (first | refine blk_drewN ?_ _ | refine blk_drew ?_ | refine blk_alloc ?_ _)); exact BK514.out) hb); replace HB := Aside0.mk (below_step (qz0_) hb); (try clear hb); (try clear hk hi); (try clear ho0); (try clear ho1)) | ((with_reducible refine gate_dst (N := 4) rfl ?_); (try (refine gate_guard (by rfl) ?_; dsimp only)); refine bx_ (N := 4) #[.slice none 0 0, .slice none 0 0] 25 ?_; intro gb521 hg w127 hbox hb; replace HO510 := Aside0.mk (Kd.R_below (uf1_ HO510) hb); replace HO513 := Aside0.mk (Kd.V_below (Kd.V_elderB (uf5_ HO513) gb521 (Nat.le_of_eq hg.symm)) hb); replace HO517 := Aside0.mk (Kd.R_below (uf1_ HO517) hb); replace HO520 := Aside0.mk (Kd.S_below (uf2_ HO520) hb); have BK521 := Aside0.mk (hbox); have GW521 := Aside0.mk ((g9_ : w.heap.size ≤ gb521)); have GE521 := Aside0.mk ((g9_ : w.heap.size ≤ gb521)); replace HB := Aside0.mk (below_step (qz0_) hb); have NB514_521 := Aside0.mk ((by rw [hg]; exact Nat.ne_of_lt (blk_lt (g := gb514) (o := .cells #[.slice Ao123 t508.length co123, .slice Ao125 t511.length co125] 25 (0, 0)) (uf0_ BK514)) : gb514 ≠ gb521)); have NB521_514 := Aside0.mk ((by rw [hg]; exact Nat.ne_of_gt (blk_lt (g := gb514) (o := .cells #[.slice Ao123 t508.length co123, .slice Ao125 t511.length co125] 25 (0, 0)) (uf0_ BK514)) : gb521 ≠ gb514)); replace BK514 := bb_ BK514 hb; clear hb hbox hg; obtain ⟨Ao128, co128, eo128⟩ := Kd.R_slice HO517.out; subst eo128; have hnb129 := NB521_514.out; have hnc129 := NB514_521.out; obtain ⟨hcz130_0, hcz130_1, hfz130_0, hfz130_1⟩ := blk2_ BK521; obtain ⟨Ao131, co131, eo131⟩ := Kd.S_slice HO520.out; subst eo131))
     have n0_ : Aside0 (Kd.R (Kd.int .i64) 3 ((w127.setCell ⟨gb521, 0, none⟩ (.slice Ao128 t515.length co128)).setCell ⟨gb521, 1, none⟩ (.slice Ao131 t518.length co131)) w.heap.size (fun k_ => some k_ ≠ (.slice Ao128 t515.length co128 : Value).ownBlock) (.slice Ao123 t508.length co123) t508) := ⟨by (with_reducible repeat (first | apply Kd.R_alloc | apply Kd.R_drewN | apply Kd.R_drew)); exact Kd.R_mono (Kd.R_far (p := ⟨gb521, 1, none⟩) (Kd.R_far (p := ⟨gb521, 0, none⟩) (Kd.R_types HO510.out BK521.out (by decide)) (fun _ hk => hk.2) (.slice Ao128 t515.length co128)) (fun _ hk => hk.2) (.slice Ao131 t518.length co131)) (fun _ hk => hk.1.2)⟩
     have n1_ : Aside0 (Kd.V (Kd.slice 3 (Kd.int .i64)) 22 ((w127.setCell ⟨gb521, 0, none⟩ (.slice Ao128 t515.length co128)).setCell ⟨gb521, 1, none⟩ (.slice Ao131 t518.length co131)) w.heap.size (fun k_ => some k_ ≠ (.slice Ao123 t508.length co123 : Value).ownBlock ∧ some k_ ≠ (.slice Ao128 t515.length co128 : Value).ownBlock ∧ some k_ ≠ (.slice Ao131 t518.length co131 : Value).ownBlock ∧ k_ ≠ gb514 ∧ k_ ≠ gb521) (.slice Ao125 t511.length co125) t511) := ⟨by (with_reducible repeat (first | apply Kd.V_alloc | apply Kd.V_drewN | apply Kd.V_drew)); exact Kd.V_mono (Kd.V_far (p := ⟨gb521, 1, none⟩) (Kd.V_far (p := ⟨gb521, 0, none⟩) (Kd.V_mono HO513.out (fun k_ hk => (⟨hk, hk.2⟩ : _ ∧ k_ ≠ gb521))) (fun _ hk => hk.2) (.slice Ao128 t515.length co128)) (fun _ hk => hk.2) (.slice Ao131 t518.length co131)) (fun _ hk => ⟨hk.1.1.1.1.1, ⟨hk.1.1.1.2, ⟨hk.1.1.2, ⟨hk.1.1.1.1.2, hk.1.2⟩⟩⟩⟩)⟩
     have n2_ : Aside0 (Kd.R (Kd.int .i64) 3 ((w127.setCell ⟨gb521, 0, none⟩ (.slice Ao128 t515.length co128)).setCell ⟨gb521, 1, none⟩ (.slice Ao131 t518.length co131)) w.heap.size (fun k_ => some k_ ≠ (.slice Ao123 t508.length co123 : Value).ownBlock) (.slice Ao128 t515.length co128) t515) := ⟨by (with_reducible repeat (first | apply Kd.R_alloc | apply Kd.R_drewN | apply Kd.R_drew)); exact Kd.R_mono (Kd.R_far (p := ⟨gb521, 1, none⟩) (Kd.R_far (p := ⟨gb521, 0, none⟩) (Kd.R_types HO517.out BK521.out (by decide)) (fun _ hk => hk.2) (.slice Ao128 t515.length co128)) (fun _ hk => hk.2) (.slice Ao131 t518.length co131)) (fun _ hk => hk.1.2)⟩
     have n3_ : Aside0 (Kd.S (Kd.slice 3 (Kd.int .i64)) 22 ((w127.setCell ⟨gb521, 0, none⟩ (.slice Ao128 t515.length co128)).setCell ⟨gb521, 1, none⟩ (.slice Ao131 t518.length co131)) w.heap.size (fun k_ => some k_ ≠ (.slice Ao123 t508.length co123 : Value).ownBlock ∧ some k_ ≠ (.slice Ao128 t515.length co128 : Value).ownBlock) (.slice Ao131 t518.length co131) t518) := ⟨by (with_reducible repeat (first | apply Kd.S_alloc | apply Kd.S_drewN | apply Kd.S_drew)); exact Kd.S_mono (Kd.S_far (p := ⟨gb521, 1, none⟩) (Kd.S_far (p := ⟨gb521, 0, none⟩) (Kd.S_types HO520.out BK521.out (by decide)) (fun _ hk => hk.2) (.slice Ao128 t515.length co128)) (fun _ hk => hk.2) (.slice Ao131 t518.length co131)) (fun _ hk => ⟨hk.1.2, hk.1.1⟩)⟩
     have n4_ : Aside0 (((w127.setCell ⟨gb521, 0, none⟩ (.slice Ao128 t515.length co128)).setCell ⟨gb521, 1, none⟩ (.slice Ao131 t518.length co131)).heap[gb514]? = some (.cells #[.slice Ao123 t508.length co123, .slice Ao125 t511.length co125] 25 (0, 0))) := ⟨g39_⟩
     have n5_ : Aside0 (((w127.setCell ⟨gb521, 0, none⟩ (.slice Ao128 t515.length co128)).setCell ⟨gb521, 1, none⟩ (.slice Ao131 t518.length co131)).heap[gb521]? = some (.cells #[.slice Ao128 t515.length co128, .slice Ao131 t518.length co131] 25 (0, 0))) := ⟨by (with_reducible repeat (first | refine blk_drewN ?_ _ | refine blk_drew ?_ | refine blk_alloc ?_ _)); refine blk_put (cs := #[.slice Ao128 t515.length co128, .slice none 0 0]) ?_ 1 _ rfl; (with_reducible repeat (first | refine blk_drewN ?_ _ | refine blk_drew ?_ | refine blk_alloc ?_ _)); refine blk_put (cs := #[.slice none 0 0, .slice none 0 0]) ?_ 0 _ rfl; (with_reducible repeat (first | refine blk_drewN ?_ _ | refine blk_drew ?_ | refine blk_alloc ?_ _)); exact BK521.out⟩
     have n6_ : Aside0 (Below w.heap.size w ((w127.setCell ⟨gb521, 0, none⟩ (.slice Ao128 t515.length co128)).setCell ⟨gb521, 1, none⟩ (.slice Ao131 t518.length co131))) := ⟨qz0_⟩
     (try clear HO510)
     (try clear HO513)
     (try clear HO517)
     (try clear HO520)
     (try clear BK514)
     (try clear BK521)
     (try clear HB)
     generalize ((w127.setCell ⟨gb521, 0, none⟩ (.slice Ao128 t515.length co128)).setCell ⟨gb521, 1, none⟩ (.slice Ao131 t518.length co131)) = w132 at n0_ n1_ n2_ n3_ n4_ n5_ n6_ ⊢
     have HO510 := n0_
     have HO513 := n1_
     have HO517 := n2_
     have HO520 := n3_
     have BK514 := n4_
     have BK521 := n5_
     have HB := n6_
     clear n0_ n1_ n2_ n3_ n4_ n5_ n6_
     replace HO510 := Aside0.mk (Kd.R_drew HO510.out)
     replace HO513 := Aside0.mk (Kd.V_drew HO513.out)
     replace HO517 := Aside0.mk (Kd.R_drew HO517.out)
     replace HO520 := Aside0.mk (Kd.S_drew HO520.out)
     replace BK514 := Aside0.mk (blk_drew BK514.out)
     replace BK521 := Aside0.mk (blk_drew BK521.out)
     replace HB := Aside0.mk (below_drew1 HB.out)
     refine start_ (n := 5) (S := fun w' => w'.cell? ⟨gb521, 0, none⟩ = some (.slice Ao128 t515.length co128) ∧ w'.cell? ⟨gb521, 1, none⟩ = some (.slice Ao131 t518.length co131) ∧ w'.cell? ⟨gb514, 0, none⟩ = some (.slice Ao123 t508.length co123) ∧ w'.cell? ⟨gb514, 1, none⟩ = some (.slice Ao125 t511.length co125)) (ds := []) (tl_ 5 0) (g1_) rfl (g1_) ⟨(blk_cell BK521.out 0).trans rfl, (blk_cell BK521.out 1).trans rfl, (blk_cell BK514.out 0).trans rfl, (blk_cell BK514.out 1).trans rfl⟩ (fun hHeld => ?_)
     generalize w132.drew = w133 at HO510 HO513 HO517 HO520 BK514 BK521 HB hHeld ⊢
     refine take_ (i := 0) (N := some 14) (v := ?_) (a' := ?_) (tl_ 5 1) rfl rfl (g1_) (fun _ _ _ h => h) (Or.inl ⟨by rfl, ?_⟩) hHeld ?_ ?_
     rotate_left
     ·rintro w' ⟨s0, s1, s2, s3⟩
      go_simp
      with_reducible rfl
     rotate_left
     ·simp only [Act.put, List.setIfInBounds_toArray, List.set_cons_zero, List.set_cons_succ, i64_w, i32_w]
      rfl
     refine take_ (i := 1) (N := some 15) (v := ?_) (a' := ?_) (tl_ 5 3) rfl rfl (g1_) (fun _ _ _ h => h) (Or.inl ⟨by rfl, ?_⟩) hHeld ?_ ?_
     rotate_left
     ·rintro w' ⟨s0, s1, s2, s3⟩
      go_simp
      with_reducible rfl
     rotate_left
     ·simp only [Act.put, List.setIfInBounds_toArray, List.set_cons_zero, List.set_cons_succ, i64_w, i32_w]
      rfl
     refine one_ (i := 2) (N := some 16) (tl_ 5 7) rfl rfl (g1_) (by decide) (fun K hK => ?_)
     refine goes_ Try.func41 (g1_) rfl #[.agg #[.slice Ao123 t508.length co123, .slice Ao125 t511.length co125]] (by rfl) rfl rfl (g2_) ?_
     with_reducible refine (spec_Netted.calls k _ _ t508 _ _ t511 t522 t525 _ ?side1 ?side2 ?side3 ?side4 A5.out).mono ?_
     (case side1 => repeat (first | exact (Kd.R_reads' HO510.out).2.2 | (with_reducible refine Kd.C_alloc ?_ _) | (with_reducible refine Kd.C_drewN ?_ _) | (with_reducible refine Kd.C_drew ?_)))
     (case side2 => exact (Kd.R_reads' HO510.out).2.1)
     (case side3 => repeat (first | exact (Kd.V_reads' HO513.out).2.2 | (with_reducible refine Kd.C_alloc ?_ _) | (with_reducible refine Kd.C_drewN ?_ _) | (with_reducible refine Kd.C_drew ?_)))
     (case side4 => exact (Kd.V_reads' HO513.out).2.1)
     rintro e w134 ⟨v523, v526, rfl, ho0, ho1, hb⟩
     refine ⟨_, rfl, ?_⟩
     replace HO513 := Aside0.mk (Kd.V_mono (Kd.V_told (Kd.V_told (Kd.V_old (uf5_ HO513) hb) (Kd.R_base ho0)) (Kd.S_base ho1)) (fun _ h_ => h_.1))
     have HO524 := Aside0.mk (Kd.R_lower (Kd.R_new' (Kd.R_new' ho0 (Kd.R_lt (uf1_ HO510))) (Kd.R_lt (uf1_ HO517))) (below_size (qz0_)))
     have HO527 := Aside0.mk (Kd.S_lower (Kd.S_new' (Kd.S_new' (Kd.S_new' ho1 (Kd.R_lt (uf1_ HO510))) (Kd.R_lt (uf1_ HO517))) (Kd.S_lt (uf2_ HO520))) (below_size (qz0_)))
     replace HO510 := Aside0.mk (Kd.R_elder' (uf1_ HO510) (Kd.R_base ho0) hb)
     replace HO517 := Aside0.mk (Kd.R_elder' (uf1_ HO517) (Kd.R_base ho0) hb)
     replace HO520 := Aside0.mk (Kd.S_mono (Kd.S_told (Kd.S_told (Kd.S_old (uf2_ HO520) hb) (Kd.R_base ho0)) (Kd.S_base ho1)) (fun _ h_ => h_.1))
     replace BK514 := bb_ BK514 hb
     replace BK521 := bb_ BK521 hb
     replace HB := Aside0.mk (below_step (qz0_) hb)
     (try clear hb)
     (try clear hk hi)
     (try clear ho0)
     (try clear ho1)
     obtain ⟨Ao135, co135, eo135⟩ := Kd.R_slice HO524.out
     (first | subst eo135 | (injection eo135 with f1_ f2_ f3_; have f4_ := f1_.symm; have f5_ := f3_.symm; clear f1_ f2_ f3_; subst f4_; subst f5_))
     obtain ⟨Ao136, co136, eo136⟩ := Kd.S_slice HO527.out
     (first | subst eo136 | (injection eo136 with f1_ f2_ f3_; have f4_ := f1_.symm; have f5_ := f3_.symm; clear f1_ f2_ f3_; subst f4_; subst f5_))
     refine hK.out _ _ ⟨(blk_cell BK521.out 0).trans rfl, (blk_cell BK521.out 1).trans rfl, (blk_cell BK514.out 0).trans rfl, (blk_cell BK514.out 1).trans rfl⟩ (fun hHeld => ?_)
     clear hK K
     refine nm_ ?_
     refine one_ (i := 3) (N := some 17) (tl_ 5 15) rfl rfl (g1_) (by decide) (fun K hK => ?_)
     refine goes_ Try.func40 (g1_) rfl #[.agg #[.slice Ao128 t515.length co128, .slice Ao131 t518.length co131], .agg #[.slice Ao135 t522.length co135, .slice Ao136 t525.length co136]] (by rfl) rfl rfl (g2_) ?_
     with_reducible refine (laws_sameBook.calls k _ _ t515 _ _ t518 _ _ t522 _ _ t525 true _ ?side1 ?side2 ?side3 ?side4 ?side5 ?side6 ?side7 ?side8 A6.out).mono ?_
     (case side1 => repeat (first | exact (Kd.R_reads' HO517.out).2.2 | (with_reducible refine Kd.C_alloc ?_ _) | (with_reducible refine Kd.C_drewN ?_ _) | (with_reducible refine Kd.C_drew ?_)))
     (case side2 => exact (Kd.R_reads' HO517.out).2.1)
     (case side3 => repeat (first | exact (Kd.S_reads' HO520.out).2.2 | (with_reducible refine Kd.C_alloc ?_ _) | (with_reducible refine Kd.C_drewN ?_ _) | (with_reducible refine Kd.C_drew ?_)))
     (case side4 => exact (Kd.S_reads' HO520.out).2.1)
     (case side5 => repeat (first | exact (Kd.R_reads' HO524.out).2.2 | (with_reducible refine Kd.C_alloc ?_ _) | (with_reducible refine Kd.C_drewN ?_ _) | (with_reducible refine Kd.C_drew ?_)))
     (case side6 => exact (Kd.R_reads' HO524.out).2.1)
     (case side7 => repeat (first | exact (Kd.S_reads' HO527.out).2.2 | (with_reducible refine Kd.C_alloc ?_ _) | (with_reducible refine Kd.C_drewN ?_ _) | (with_reducible refine Kd.C_drew ?_)))
     (case side8 => exact (Kd.S_reads' HO527.out).2.1)
     rintro e w137 ⟨rfl, hb⟩
     refine ⟨_, rfl, ?_⟩
     replace HO510 := Aside0.mk (Kd.R_below (uf1_ HO510) hb)
     replace HO513 := Aside0.mk (Kd.V_below (uf5_ HO513) hb)
     replace HO517 := Aside0.mk (Kd.R_below (uf1_ HO517) hb)
     replace HO520 := Aside0.mk (Kd.S_below (uf2_ HO520) hb)
     replace HO524 := Aside0.mk (Kd.R_below (uf1_ HO524) hb)
     replace HO527 := Aside0.mk (Kd.S_below (uf2_ HO527) hb)
     replace BK514 := bb_ BK514 hb
     replace BK521 := bb_ BK521 hb
     replace HB := Aside0.mk (below_step (qz0_) hb)
     (try clear hb)
     (try clear hk hi)
     refine hK.out _ _ ⟨(blk_cell BK521.out 0).trans rfl, (blk_cell BK521.out 1).trans rfl, (blk_cell BK514.out 0).trans rfl, (blk_cell BK514.out 1).trans rfl⟩ (fun hHeld => ?_)
     clear hK K
     refine nm_ ?_
     refine pure_ (i := 4) (N := some 18) (v := ?_) (a' := ?_) (tl_ 5 31) rfl rfl (g1_) (fun _ _ _ h => h) (Or.inl ⟨by rfl, ?_⟩) ?_ ?_
     rotate_left
     ·intro w'
      go_simp
      with_reducible rfl
     rotate_left
     ·simp only [Act.put, List.setIfInBounds_toArray, List.set_cons_zero, List.set_cons_succ, i64_w, i32_w]
      rfl
     refine done_ (g1_) ?_
     obtain ⟨hcz138_0, hcz138_1, hfz138_0, hfz138_1⟩ := blk2_ BK514
     try go_wp2_with (first | ((with_reducible refine gate_callee (f := 42) rfl ?_); refine goesL_ (some 20) rfl rfl Try.func42 k_ rfl #[.agg #[.slice Ao123 t508.length co123, .slice Ao125 t511.length co125]] rfl (g2_) ?_; (with_reducible refine (spec_BookOk.calls k _ _ t508 _ _ t511 false _ ?side1 ?side2 ?side3 ?side4 A8.out).mono ?_); (case side1 => repeat (first | exact (Kd.R_reads' HO510.out).2.2 | (with_reducible refine Kd.C_alloc ?_ _) | (with_reducible refine Kd.C_drewN ?_ _) | (with_reducible refine Kd.C_drew ?_))); (case side2 => exact (Kd.R_reads' HO510.out).2.1); (case side3 => repeat (first | exact (Kd.V_reads' HO513.out).2.2 | (with_reducible refine Kd.C_alloc ?_ _) | (with_reducible refine Kd.C_drewN ?_ _) | (with_reducible refine Kd.C_drew ?_))); (case side4 => exact (Kd.V_reads' HO513.out).2.1); rintro e w139 ⟨rfl, hb⟩; refine ⟨_, rfl, ?_⟩; replace HO510 := Aside0.mk (Kd.R_below (uf1_ HO510) hb); replace HO513 := Aside0.mk (Kd.V_below (uf5_ HO513) hb); replace HO517 := Aside0.mk (Kd.R_below (uf1_ HO517) hb); replace HO520 := Aside0.mk (Kd.S_below (uf2_ HO520) hb); replace HO524 := Aside0.mk (Kd.R_below (uf1_ HO524) hb); replace HO527 := Aside0.mk (Kd.S_below (uf2_ HO527) hb); replace BK514 := bb_ BK514 hb; replace BK521 := bb_ BK521 hb; replace HB := Aside0.mk (below_step (qz0_) hb); (try clear hb); (try clear hk hi); obtain ⟨hcz140_0, hcz140_1, hfz140_0, hfz140_1⟩ := blk2_ BK521) | ((with_reducible refine gate_callee (f := 43) rfl ?_); refine goesL_ (some 23) rfl rfl Try.func43 k_ rfl #[.agg #[.slice Ao128 t515.length co128, .slice Ao131 t518.length co131]] rfl (g2_) ?_; (with_reducible refine (laws_noBook.calls k _ _ t515 _ _ t518 true _ ?side1 ?side2 ?side3 ?side4 A118.out).mono ?_); (case side1 => repeat (first | exact (Kd.R_reads' HO517.out).2.2 | (with_reducible refine Kd.C_alloc ?_ _) | (with_reducible refine Kd.C_drewN ?_ _) | (with_reducible refine Kd.C_drew ?_))); (case side2 => exact (Kd.R_reads' HO517.out).2.1); (case side3 => repeat (first | exact (Kd.S_reads' HO520.out).2.2 | (with_reducible refine Kd.C_alloc ?_ _) | (with_reducible refine Kd.C_drewN ?_ _) | (with_reducible refine Kd.C_drew ?_))); (case side4 => exact (Kd.S_reads' HO520.out).2.1); rintro e w141 ⟨rfl, hb⟩; refine ⟨_, rfl, ?_⟩; replace HO510 := Aside0.mk (Kd.R_below (uf1_ HO510) hb); replace HO513 := Aside0.mk (Kd.V_below (uf5_ HO513) hb); replace HO517 := Aside0.mk (Kd.R_below (uf1_ HO517) hb); replace HO520 := Aside0.mk (Kd.S_below (uf2_ HO520) hb); replace HO524 := Aside0.mk (Kd.R_below (uf1_ HO524) hb); replace HO527 := Aside0.mk (Kd.S_below (uf2_ HO527) hb); replace BK514 := bb_ BK514 hb; replace BK521 := bb_ BK521 hb; replace HB := Aside0.mk (below_step (qz0_) hb); (try clear hb); (try clear hk hi)) | (go_at_call 23; (with_reducible refine (laws_alive.calls k  t531 _ A120.out).mono ?_); rintro e w142 ⟨rfl, hb⟩; replace HO510 := Aside0.mk (Kd.R_below (uf1_ HO510) hb); replace HO513 := Aside0.mk (Kd.V_below (uf5_ HO513) hb); replace HO517 := Aside0.mk (Kd.R_below (uf1_ HO517) hb); replace HO520 := Aside0.mk (Kd.S_below (uf2_ HO520) hb); replace HO524 := Aside0.mk (Kd.R_below (uf1_ HO524) hb); replace HO527 := Aside0.mk (Kd.S_below (uf2_ HO527) hb); replace BK514 := bb_ BK514 hb; replace BK521 := bb_ BK521 hb; replace HB := Aside0.mk (below_step (qz0_) hb); (try clear hb); (try clear hk hi)))
     go_ret
     exact ⟨g4_, qz0_⟩
    ·replace c119 := Bool.eq_false_iff.mpr c119
     subst c119
     replace H := ifn_ H
     obtain rfl := Option.some.inj H
     go_enter Try.func8, Try.ntmps8
     try go_wp2_with (first | ((with_reducible refine gate_callee (f := 38) rfl ?_); refine goesL_ (some 11) rfl rfl Try.func38 k_ rfl #[.slice A0 l0.length c0] rfl (g2_) ?_; (with_reducible refine (spec_DrawNetted.calls k _ _ l0 t508 t511 _ ?side1 ?side2 A3.out).mono ?_); (case side1 => repeat (first | exact HR0.out | (with_reducible refine Kd.C_alloc ?_ _) | (with_reducible refine Kd.C_drewN ?_ _) | (with_reducible refine Kd.C_drew ?_))); (case side2 => exact HC0.out); rintro e w143 ⟨v509, v512, rfl, ho0, ho1, hb⟩; refine ⟨_, rfl, ?_⟩; have HO510 := Aside0.mk (Kd.R_lower (Kd.R_mono (ok' := fun k_ => True) ho0 (fun _ hk_ => trivial)) (below_size (qz0_))); have HO513 := Aside0.mk (Kd.V_lower (Kd.V_mono (ok' := fun k_ => some k_ ≠ (v509 : Value).ownBlock) ho1 (fun k_ hk_ => hk_.2)) (below_size (qz0_))); replace HB := Aside0.mk (below_step (qz0_) hb); (try clear hb); (try clear hk hi); (try clear ho0); (try clear ho1)) | ((with_reducible refine gate_dst (N := 3) rfl ?_); (try (refine gate_guard (by rfl) ?_; dsimp only)); refine bx_ (N := 3) #[.slice none 0 0, .slice none 0 0] 25 ?_; intro gb514 hg w144 hbox hb; replace HO510 := Aside0.mk (Kd.R_below (uf1_ HO510) hb); replace HO513 := Aside0.mk (Kd.V_below (Kd.V_elderB (uf5_ HO513) gb514 (Nat.le_of_eq hg.symm)) hb); have BK514 := Aside0.mk (hbox); have GW514 := Aside0.mk ((g9_ : w.heap.size ≤ gb514)); have GE514 := Aside0.mk ((g9_ : w.heap.size ≤ gb514)); replace HB := Aside0.mk (below_step (qz0_) hb); clear hb hbox hg; obtain ⟨Ao145, co145, eo145⟩ := Kd.R_slice HO510.out; subst eo145; obtain ⟨hcz146_0, hcz146_1, hfz146_0, hfz146_1⟩ := blk2_ BK514; obtain ⟨Ao147, co147, eo147⟩ := Kd.V_slice HO513.out; subst eo147) | ((with_reducible refine gate_callee (f := 39) rfl ?_); refine goesL_ (some 13) rfl rfl Try.func39 k_ rfl #[.agg #[.slice Ao145 t508.length co145, .slice Ao147 t511.length co147]] rfl (g2_) ?_; (with_reducible refine (impl_Netted.calls k _ _ t508 _ _ t511 t515 t518 _ ?side1 ?side2 ?side3 ?side4 A4.out).mono ?_); (case side1 => refine (Kd.R_reads' (e := 3) (base := w.heap.size) (ok := fun k_ => True) (n := t508.length) (c := co145) ?_).2.2; exact (g41_)); (case side2 => exact (Kd.R_reads' HO510.out).2.1); (case side3 => refine (Kd.V_reads' (e := 22) (base := w.heap.size) (ok := fun k_ => (some k_ ≠ (.slice Ao145 t508.length co145 : Value).ownBlock ∧ k_ ≠ gb514)) (n := t511.length) (c := co147) ?_).2.2; exact (by (with_reducible repeat (first | apply Kd.V_alloc | apply Kd.V_drewN | apply Kd.V_drew)); exact (Kd.V_mono (Kd.V_far (p := ⟨gb514, 1, none⟩) (Kd.V_far (p := ⟨gb514, 0, none⟩) (Kd.V_mono HO513.out (fun k_ hk => (⟨hk, hk.2⟩ : _ ∧ k_ ≠ gb514))) (fun _ hk => hk.2) (.slice Ao145 t508.length co145)) (fun _ hk => hk.2) (.slice Ao147 t511.length co147)) (fun _ h_ => h_.1)))); (case side4 => exact (Kd.V_reads' HO513.out).2.1); rintro e w148 ⟨v516, v519, rfl, ho0, ho1, hb⟩; refine ⟨_, rfl, ?_⟩; replace HO513 := Aside0.mk (Kd.V_mono (Kd.V_told (Kd.V_told (Kd.V_old (by (with_reducible repeat (first | apply Kd.V_alloc | apply Kd.V_drewN | apply Kd.V_drew)); exact (Kd.V_mono (Kd.V_far (p := ⟨gb514, 1, none⟩) (Kd.V_far (p := ⟨gb514, 0, none⟩) (Kd.V_mono HO513.out (fun k_ hk => (⟨hk, hk.2⟩ : _ ∧ k_ ≠ gb514))) (fun _ hk => hk.2) (.slice Ao145 t508.length co145)) (fun _ hk => hk.2) (.slice Ao147 t511.length co147)) (fun _ h_ => h_.1))) hb) (Kd.R_base ho0)) (Kd.S_base ho1)) (fun _ h_ => h_.1)); have HO517 := Aside0.mk (Kd.R_lower (Kd.R_new' ho0 (Kd.R_lt (g41_))) (below_size (qz0_))); have HO520 := Aside0.mk (Kd.S_lower (Kd.S_new' ho1 (Kd.R_lt (g41_))) (below_size (qz0_))); replace HO510 := Aside0.mk (Kd.R_elder' (g41_) (Kd.R_base ho0) hb); replace BK514 := Aside0.mk (blk_below (g := gb514) (o := .cells #[.slice Ao145 t508.length co145, .slice Ao147 t511.length co147] 25 (0, 0)) (by (with_reducible repeat (first | refine blk_drewN ?_ _ | refine blk_drew ?_ | refine blk_alloc ?_ _)); refine blk_put (cs := #[.slice Ao145 t508.length co145, .slice none 0 0]) ?_ 1 _ rfl; (with_reducible repeat (first | refine blk_drewN ?_ _ | refine blk_drew ?_ | refine blk_alloc ?_ _)); refine blk_put (cs := #[.slice none 0 0, .slice none 0 0]) ?_ 0 _ rfl; (with_reducible repeat (first | refine blk_drewN ?_ _ | refine blk_drew ?_ | refine blk_alloc ?_ _)); exact BK514.out) hb); replace HB := Aside0.mk (below_step (qz0_) hb); (try clear hb); (try clear hk hi); (try clear ho0); (try clear ho1)) | ((with_reducible refine gate_dst (N := 4) rfl ?_); (try (refine gate_guard (by rfl) ?_; dsimp only)); refine bx_ (N := 4) #[.slice none 0 0, .slice none 0 0] 25 ?_; intro gb521 hg w149 hbox hb; replace HO510 := Aside0.mk (Kd.R_below (uf1_ HO510) hb); replace HO513 := Aside0.mk (Kd.V_below (Kd.V_elderB (uf5_ HO513) gb521 (Nat.le_of_eq hg.symm)) hb); replace HO517 := Aside0.mk (Kd.R_below (uf1_ HO517) hb); replace HO520 := Aside0.mk (Kd.S_below (uf2_ HO520) hb); have BK521 := Aside0.mk (hbox); have GW521 := Aside0.mk ((g9_ : w.heap.size ≤ gb521)); have GE521 := Aside0.mk ((g9_ : w.heap.size ≤ gb521)); replace HB := Aside0.mk (below_step (qz0_) hb); have NB514_521 := Aside0.mk ((by rw [hg]; exact Nat.ne_of_lt (blk_lt (g := gb514) (o := .cells #[.slice Ao145 t508.length co145, .slice Ao147 t511.length co147] 25 (0, 0)) (uf0_ BK514)) : gb514 ≠ gb521)); have NB521_514 := Aside0.mk ((by rw [hg]; exact Nat.ne_of_gt (blk_lt (g := gb514) (o := .cells #[.slice Ao145 t508.length co145, .slice Ao147 t511.length co147] 25 (0, 0)) (uf0_ BK514)) : gb521 ≠ gb514)); replace BK514 := bb_ BK514 hb; clear hb hbox hg; obtain ⟨Ao150, co150, eo150⟩ := Kd.R_slice HO517.out; subst eo150; have hnb151 := NB521_514.out; have hnc151 := NB514_521.out; obtain ⟨hcz152_0, hcz152_1, hfz152_0, hfz152_1⟩ := blk2_ BK521; obtain ⟨Ao153, co153, eo153⟩ := Kd.S_slice HO520.out; subst eo153))
     have n0_ : Aside0 (Kd.R (Kd.int .i64) 3 ((w149.setCell ⟨gb521, 0, none⟩ (.slice Ao150 t515.length co150)).setCell ⟨gb521, 1, none⟩ (.slice Ao153 t518.length co153)) w.heap.size (fun k_ => some k_ ≠ (.slice Ao150 t515.length co150 : Value).ownBlock) (.slice Ao145 t508.length co145) t508) := ⟨by (with_reducible repeat (first | apply Kd.R_alloc | apply Kd.R_drewN | apply Kd.R_drew)); exact Kd.R_mono (Kd.R_far (p := ⟨gb521, 1, none⟩) (Kd.R_far (p := ⟨gb521, 0, none⟩) (Kd.R_types HO510.out BK521.out (by decide)) (fun _ hk => hk.2) (.slice Ao150 t515.length co150)) (fun _ hk => hk.2) (.slice Ao153 t518.length co153)) (fun _ hk => hk.1.2)⟩
     have n1_ : Aside0 (Kd.V (Kd.slice 3 (Kd.int .i64)) 22 ((w149.setCell ⟨gb521, 0, none⟩ (.slice Ao150 t515.length co150)).setCell ⟨gb521, 1, none⟩ (.slice Ao153 t518.length co153)) w.heap.size (fun k_ => some k_ ≠ (.slice Ao145 t508.length co145 : Value).ownBlock ∧ some k_ ≠ (.slice Ao150 t515.length co150 : Value).ownBlock ∧ some k_ ≠ (.slice Ao153 t518.length co153 : Value).ownBlock ∧ k_ ≠ gb514 ∧ k_ ≠ gb521) (.slice Ao147 t511.length co147) t511) := ⟨by (with_reducible repeat (first | apply Kd.V_alloc | apply Kd.V_drewN | apply Kd.V_drew)); exact Kd.V_mono (Kd.V_far (p := ⟨gb521, 1, none⟩) (Kd.V_far (p := ⟨gb521, 0, none⟩) (Kd.V_mono HO513.out (fun k_ hk => (⟨hk, hk.2⟩ : _ ∧ k_ ≠ gb521))) (fun _ hk => hk.2) (.slice Ao150 t515.length co150)) (fun _ hk => hk.2) (.slice Ao153 t518.length co153)) (fun _ hk => ⟨hk.1.1.1.1.1, ⟨hk.1.1.1.2, ⟨hk.1.1.2, ⟨hk.1.1.1.1.2, hk.1.2⟩⟩⟩⟩)⟩
     have n2_ : Aside0 (Kd.R (Kd.int .i64) 3 ((w149.setCell ⟨gb521, 0, none⟩ (.slice Ao150 t515.length co150)).setCell ⟨gb521, 1, none⟩ (.slice Ao153 t518.length co153)) w.heap.size (fun k_ => some k_ ≠ (.slice Ao145 t508.length co145 : Value).ownBlock) (.slice Ao150 t515.length co150) t515) := ⟨by (with_reducible repeat (first | apply Kd.R_alloc | apply Kd.R_drewN | apply Kd.R_drew)); exact Kd.R_mono (Kd.R_far (p := ⟨gb521, 1, none⟩) (Kd.R_far (p := ⟨gb521, 0, none⟩) (Kd.R_types HO517.out BK521.out (by decide)) (fun _ hk => hk.2) (.slice Ao150 t515.length co150)) (fun _ hk => hk.2) (.slice Ao153 t518.length co153)) (fun _ hk => hk.1.2)⟩
     have n3_ : Aside0 (Kd.S (Kd.slice 3 (Kd.int .i64)) 22 ((w149.setCell ⟨gb521, 0, none⟩ (.slice Ao150 t515.length co150)).setCell ⟨gb521, 1, none⟩ (.slice Ao153 t518.length co153)) w.heap.size (fun k_ => some k_ ≠ (.slice Ao145 t508.length co145 : Value).ownBlock ∧ some k_ ≠ (.slice Ao150 t515.length co150 : Value).ownBlock) (.slice Ao153 t518.length co153) t518) := ⟨by (with_reducible repeat (first | apply Kd.S_alloc | apply Kd.S_drewN | apply Kd.S_drew)); exact Kd.S_mono (Kd.S_far (p := ⟨gb521, 1, none⟩) (Kd.S_far (p := ⟨gb521, 0, none⟩) (Kd.S_types HO520.out BK521.out (by decide)) (fun _ hk => hk.2) (.slice Ao150 t515.length co150)) (fun _ hk => hk.2) (.slice Ao153 t518.length co153)) (fun _ hk => ⟨hk.1.2, hk.1.1⟩)⟩
     have n4_ : Aside0 (((w149.setCell ⟨gb521, 0, none⟩ (.slice Ao150 t515.length co150)).setCell ⟨gb521, 1, none⟩ (.slice Ao153 t518.length co153)).heap[gb514]? = some (.cells #[.slice Ao145 t508.length co145, .slice Ao147 t511.length co147] 25 (0, 0))) := ⟨g39_⟩
     have n5_ : Aside0 (((w149.setCell ⟨gb521, 0, none⟩ (.slice Ao150 t515.length co150)).setCell ⟨gb521, 1, none⟩ (.slice Ao153 t518.length co153)).heap[gb521]? = some (.cells #[.slice Ao150 t515.length co150, .slice Ao153 t518.length co153] 25 (0, 0))) := ⟨by (with_reducible repeat (first | refine blk_drewN ?_ _ | refine blk_drew ?_ | refine blk_alloc ?_ _)); refine blk_put (cs := #[.slice Ao150 t515.length co150, .slice none 0 0]) ?_ 1 _ rfl; (with_reducible repeat (first | refine blk_drewN ?_ _ | refine blk_drew ?_ | refine blk_alloc ?_ _)); refine blk_put (cs := #[.slice none 0 0, .slice none 0 0]) ?_ 0 _ rfl; (with_reducible repeat (first | refine blk_drewN ?_ _ | refine blk_drew ?_ | refine blk_alloc ?_ _)); exact BK521.out⟩
     have n6_ : Aside0 (Below w.heap.size w ((w149.setCell ⟨gb521, 0, none⟩ (.slice Ao150 t515.length co150)).setCell ⟨gb521, 1, none⟩ (.slice Ao153 t518.length co153))) := ⟨qz0_⟩
     (try clear HO510)
     (try clear HO513)
     (try clear HO517)
     (try clear HO520)
     (try clear BK514)
     (try clear BK521)
     (try clear HB)
     generalize ((w149.setCell ⟨gb521, 0, none⟩ (.slice Ao150 t515.length co150)).setCell ⟨gb521, 1, none⟩ (.slice Ao153 t518.length co153)) = w154 at n0_ n1_ n2_ n3_ n4_ n5_ n6_ ⊢
     have HO510 := n0_
     have HO513 := n1_
     have HO517 := n2_
     have HO520 := n3_
     have BK514 := n4_
     have BK521 := n5_
     have HB := n6_
     clear n0_ n1_ n2_ n3_ n4_ n5_ n6_
     replace HO510 := Aside0.mk (Kd.R_drew HO510.out)
     replace HO513 := Aside0.mk (Kd.V_drew HO513.out)
     replace HO517 := Aside0.mk (Kd.R_drew HO517.out)
     replace HO520 := Aside0.mk (Kd.S_drew HO520.out)
     replace BK514 := Aside0.mk (blk_drew BK514.out)
     replace BK521 := Aside0.mk (blk_drew BK521.out)
     replace HB := Aside0.mk (below_drew1 HB.out)
     refine start_ (n := 5) (S := fun w' => w'.cell? ⟨gb521, 0, none⟩ = some (.slice Ao150 t515.length co150) ∧ w'.cell? ⟨gb521, 1, none⟩ = some (.slice Ao153 t518.length co153) ∧ w'.cell? ⟨gb514, 0, none⟩ = some (.slice Ao145 t508.length co145) ∧ w'.cell? ⟨gb514, 1, none⟩ = some (.slice Ao147 t511.length co147)) (ds := []) (tl_ 5 0) (g1_) rfl (g1_) ⟨(blk_cell BK521.out 0).trans rfl, (blk_cell BK521.out 1).trans rfl, (blk_cell BK514.out 0).trans rfl, (blk_cell BK514.out 1).trans rfl⟩ (fun hHeld => ?_)
     generalize w154.drew = w155 at HO510 HO513 HO517 HO520 BK514 BK521 HB hHeld ⊢
     refine take_ (i := 0) (N := some 14) (v := ?_) (a' := ?_) (tl_ 5 1) rfl rfl (g1_) (fun _ _ _ h => h) (Or.inl ⟨by rfl, ?_⟩) hHeld ?_ ?_
     rotate_left
     ·rintro w' ⟨s0, s1, s2, s3⟩
      go_simp
      with_reducible rfl
     rotate_left
     ·simp only [Act.put, List.setIfInBounds_toArray, List.set_cons_zero, List.set_cons_succ, i64_w, i32_w]
      rfl
     refine take_ (i := 1) (N := some 15) (v := ?_) (a' := ?_) (tl_ 5 3) rfl rfl (g1_) (fun _ _ _ h => h) (Or.inl ⟨by rfl, ?_⟩) hHeld ?_ ?_
     rotate_left
     ·rintro w' ⟨s0, s1, s2, s3⟩
      go_simp
      with_reducible rfl
     rotate_left
     ·simp only [Act.put, List.setIfInBounds_toArray, List.set_cons_zero, List.set_cons_succ, i64_w, i32_w]
      rfl
     refine one_ (i := 2) (N := some 16) (tl_ 5 7) rfl rfl (g1_) (by decide) (fun K hK => ?_)
     refine goes_ Try.func41 (g1_) rfl #[.agg #[.slice Ao145 t508.length co145, .slice Ao147 t511.length co147]] (by rfl) rfl rfl (g2_) ?_
     with_reducible refine (spec_Netted.calls k _ _ t508 _ _ t511 t522 t525 _ ?side1 ?side2 ?side3 ?side4 A5.out).mono ?_
     (case side1 => repeat (first | exact (Kd.R_reads' HO510.out).2.2 | (with_reducible refine Kd.C_alloc ?_ _) | (with_reducible refine Kd.C_drewN ?_ _) | (with_reducible refine Kd.C_drew ?_)))
     (case side2 => exact (Kd.R_reads' HO510.out).2.1)
     (case side3 => repeat (first | exact (Kd.V_reads' HO513.out).2.2 | (with_reducible refine Kd.C_alloc ?_ _) | (with_reducible refine Kd.C_drewN ?_ _) | (with_reducible refine Kd.C_drew ?_)))
     (case side4 => exact (Kd.V_reads' HO513.out).2.1)
     rintro e w156 ⟨v523, v526, rfl, ho0, ho1, hb⟩
     refine ⟨_, rfl, ?_⟩
     replace HO513 := Aside0.mk (Kd.V_mono (Kd.V_told (Kd.V_told (Kd.V_old (uf5_ HO513) hb) (Kd.R_base ho0)) (Kd.S_base ho1)) (fun _ h_ => h_.1))
     have HO524 := Aside0.mk (Kd.R_lower (Kd.R_new' (Kd.R_new' ho0 (Kd.R_lt (uf1_ HO510))) (Kd.R_lt (uf1_ HO517))) (below_size (qz0_)))
     have HO527 := Aside0.mk (Kd.S_lower (Kd.S_new' (Kd.S_new' (Kd.S_new' ho1 (Kd.R_lt (uf1_ HO510))) (Kd.R_lt (uf1_ HO517))) (Kd.S_lt (uf2_ HO520))) (below_size (qz0_)))
     replace HO510 := Aside0.mk (Kd.R_elder' (uf1_ HO510) (Kd.R_base ho0) hb)
     replace HO517 := Aside0.mk (Kd.R_elder' (uf1_ HO517) (Kd.R_base ho0) hb)
     replace HO520 := Aside0.mk (Kd.S_mono (Kd.S_told (Kd.S_told (Kd.S_old (uf2_ HO520) hb) (Kd.R_base ho0)) (Kd.S_base ho1)) (fun _ h_ => h_.1))
     replace BK514 := bb_ BK514 hb
     replace BK521 := bb_ BK521 hb
     replace HB := Aside0.mk (below_step (qz0_) hb)
     (try clear hb)
     (try clear hk hi)
     (try clear ho0)
     (try clear ho1)
     obtain ⟨Ao157, co157, eo157⟩ := Kd.R_slice HO524.out
     (first | subst eo157 | (injection eo157 with f1_ f2_ f3_; have f4_ := f1_.symm; have f5_ := f3_.symm; clear f1_ f2_ f3_; subst f4_; subst f5_))
     obtain ⟨Ao158, co158, eo158⟩ := Kd.S_slice HO527.out
     (first | subst eo158 | (injection eo158 with f1_ f2_ f3_; have f4_ := f1_.symm; have f5_ := f3_.symm; clear f1_ f2_ f3_; subst f4_; subst f5_))
     refine hK.out _ _ ⟨(blk_cell BK521.out 0).trans rfl, (blk_cell BK521.out 1).trans rfl, (blk_cell BK514.out 0).trans rfl, (blk_cell BK514.out 1).trans rfl⟩ (fun hHeld => ?_)
     clear hK K
     refine nm_ ?_
     refine one_ (i := 3) (N := some 17) (tl_ 5 15) rfl rfl (g1_) (by decide) (fun K hK => ?_)
     refine goes_ Try.func40 (g1_) rfl #[.agg #[.slice Ao150 t515.length co150, .slice Ao153 t518.length co153], .agg #[.slice Ao157 t522.length co157, .slice Ao158 t525.length co158]] (by rfl) rfl rfl (g2_) ?_
     with_reducible refine (laws_sameBook.calls k _ _ t515 _ _ t518 _ _ t522 _ _ t525 true _ ?side1 ?side2 ?side3 ?side4 ?side5 ?side6 ?side7 ?side8 A6.out).mono ?_
     (case side1 => repeat (first | exact (Kd.R_reads' HO517.out).2.2 | (with_reducible refine Kd.C_alloc ?_ _) | (with_reducible refine Kd.C_drewN ?_ _) | (with_reducible refine Kd.C_drew ?_)))
     (case side2 => exact (Kd.R_reads' HO517.out).2.1)
     (case side3 => repeat (first | exact (Kd.S_reads' HO520.out).2.2 | (with_reducible refine Kd.C_alloc ?_ _) | (with_reducible refine Kd.C_drewN ?_ _) | (with_reducible refine Kd.C_drew ?_)))
     (case side4 => exact (Kd.S_reads' HO520.out).2.1)
     (case side5 => repeat (first | exact (Kd.R_reads' HO524.out).2.2 | (with_reducible refine Kd.C_alloc ?_ _) | (with_reducible refine Kd.C_drewN ?_ _) | (with_reducible refine Kd.C_drew ?_)))
     (case side6 => exact (Kd.R_reads' HO524.out).2.1)
     (case side7 => repeat (first | exact (Kd.S_reads' HO527.out).2.2 | (with_reducible refine Kd.C_alloc ?_ _) | (with_reducible refine Kd.C_drewN ?_ _) | (with_reducible refine Kd.C_drew ?_)))
     (case side8 => exact (Kd.S_reads' HO527.out).2.1)
     rintro e w159 ⟨rfl, hb⟩
     refine ⟨_, rfl, ?_⟩
     replace HO510 := Aside0.mk (Kd.R_below (uf1_ HO510) hb)
     replace HO513 := Aside0.mk (Kd.V_below (uf5_ HO513) hb)
     replace HO517 := Aside0.mk (Kd.R_below (uf1_ HO517) hb)
     replace HO520 := Aside0.mk (Kd.S_below (uf2_ HO520) hb)
     replace HO524 := Aside0.mk (Kd.R_below (uf1_ HO524) hb)
     replace HO527 := Aside0.mk (Kd.S_below (uf2_ HO527) hb)
     replace BK514 := bb_ BK514 hb
     replace BK521 := bb_ BK521 hb
     replace HB := Aside0.mk (below_step (qz0_) hb)
     (try clear hb)
     (try clear hk hi)
     refine hK.out _ _ ⟨(blk_cell BK521.out 0).trans rfl, (blk_cell BK521.out 1).trans rfl, (blk_cell BK514.out 0).trans rfl, (blk_cell BK514.out 1).trans rfl⟩ (fun hHeld => ?_)
     clear hK K
     refine nm_ ?_
     refine pure_ (i := 4) (N := some 18) (v := ?_) (a' := ?_) (tl_ 5 31) rfl rfl (g1_) (fun _ _ _ h => h) (Or.inl ⟨by rfl, ?_⟩) ?_ ?_
     rotate_left
     ·intro w'
      go_simp
      with_reducible rfl
     rotate_left
     ·simp only [Act.put, List.setIfInBounds_toArray, List.set_cons_zero, List.set_cons_succ, i64_w, i32_w]
      rfl
     refine done_ (g1_) ?_
     obtain ⟨hcz160_0, hcz160_1, hfz160_0, hfz160_1⟩ := blk2_ BK514
     try go_wp2_with (first | ((with_reducible refine gate_callee (f := 42) rfl ?_); refine goesL_ (some 20) rfl rfl Try.func42 k_ rfl #[.agg #[.slice Ao145 t508.length co145, .slice Ao147 t511.length co147]] rfl (g2_) ?_; (with_reducible refine (spec_BookOk.calls k _ _ t508 _ _ t511 false _ ?side1 ?side2 ?side3 ?side4 A8.out).mono ?_); (case side1 => repeat (first | exact (Kd.R_reads' HO510.out).2.2 | (with_reducible refine Kd.C_alloc ?_ _) | (with_reducible refine Kd.C_drewN ?_ _) | (with_reducible refine Kd.C_drew ?_))); (case side2 => exact (Kd.R_reads' HO510.out).2.1); (case side3 => repeat (first | exact (Kd.V_reads' HO513.out).2.2 | (with_reducible refine Kd.C_alloc ?_ _) | (with_reducible refine Kd.C_drewN ?_ _) | (with_reducible refine Kd.C_drew ?_))); (case side4 => exact (Kd.V_reads' HO513.out).2.1); rintro e w161 ⟨rfl, hb⟩; refine ⟨_, rfl, ?_⟩; replace HO510 := Aside0.mk (Kd.R_below (uf1_ HO510) hb); replace HO513 := Aside0.mk (Kd.V_below (uf5_ HO513) hb); replace HO517 := Aside0.mk (Kd.R_below (uf1_ HO517) hb); replace HO520 := Aside0.mk (Kd.S_below (uf2_ HO520) hb); replace HO524 := Aside0.mk (Kd.R_below (uf1_ HO524) hb); replace HO527 := Aside0.mk (Kd.S_below (uf2_ HO527) hb); replace BK514 := bb_ BK514 hb; replace BK521 := bb_ BK521 hb; replace HB := Aside0.mk (below_step (qz0_) hb); (try clear hb); (try clear hk hi); obtain ⟨hcz162_0, hcz162_1, hfz162_0, hfz162_1⟩ := blk2_ BK521) | ((with_reducible refine gate_callee (f := 43) rfl ?_); refine goesL_ (some 23) rfl rfl Try.func43 k_ rfl #[.agg #[.slice Ao150 t515.length co150, .slice Ao153 t518.length co153]] rfl (g2_) ?_; (with_reducible refine (laws_noBook.calls k _ _ t515 _ _ t518 false _ ?side1 ?side2 ?side3 ?side4 A118.out).mono ?_); (case side1 => repeat (first | exact (Kd.R_reads' HO517.out).2.2 | (with_reducible refine Kd.C_alloc ?_ _) | (with_reducible refine Kd.C_drewN ?_ _) | (with_reducible refine Kd.C_drew ?_))); (case side2 => exact (Kd.R_reads' HO517.out).2.1); (case side3 => repeat (first | exact (Kd.S_reads' HO520.out).2.2 | (with_reducible refine Kd.C_alloc ?_ _) | (with_reducible refine Kd.C_drewN ?_ _) | (with_reducible refine Kd.C_drew ?_))); (case side4 => exact (Kd.S_reads' HO520.out).2.1); rintro e w163 ⟨rfl, hb⟩; refine ⟨_, rfl, ?_⟩; replace HO510 := Aside0.mk (Kd.R_below (uf1_ HO510) hb); replace HO513 := Aside0.mk (Kd.V_below (uf5_ HO513) hb); replace HO517 := Aside0.mk (Kd.R_below (uf1_ HO517) hb); replace HO520 := Aside0.mk (Kd.S_below (uf2_ HO520) hb); replace HO524 := Aside0.mk (Kd.R_below (uf1_ HO524) hb); replace HO527 := Aside0.mk (Kd.S_below (uf2_ HO527) hb); replace BK514 := bb_ BK514 hb; replace BK521 := bb_ BK521 hb; replace HB := Aside0.mk (below_step (qz0_) hb); (try clear hb); (try clear hk hi)))
     go_ret
     exact ⟨g4_, qz0_⟩
  ·replace c7 := Bool.eq_false_iff.mpr c7
   subst c7
   replace H := ifn_ H
   obtain rfl := Option.some.inj H
   go_enter Try.func8, Try.ntmps8
   try go_wp2_with (first | ((with_reducible refine gate_callee (f := 38) rfl ?_); refine goesL_ (some 11) rfl rfl Try.func38 k_ rfl #[.slice A0 l0.length c0] rfl (g2_) ?_; (with_reducible refine (spec_DrawNetted.calls k _ _ l0 t508 t511 _ ?side1 ?side2 A3.out).mono ?_); (case side1 => repeat (first | exact HR0.out | (with_reducible refine Kd.C_alloc ?_ _) | (with_reducible refine Kd.C_drewN ?_ _) | (with_reducible refine Kd.C_drew ?_))); (case side2 => exact HC0.out); rintro e w164 ⟨v509, v512, rfl, ho0, ho1, hb⟩; refine ⟨_, rfl, ?_⟩; have HO510 := Aside0.mk (Kd.R_lower (Kd.R_mono (ok' := fun k_ => True) ho0 (fun _ hk_ => trivial)) (below_size (qz0_))); have HO513 := Aside0.mk (Kd.V_lower (Kd.V_mono (ok' := fun k_ => some k_ ≠ (v509 : Value).ownBlock) ho1 (fun k_ hk_ => hk_.2)) (below_size (qz0_))); replace HB := Aside0.mk (below_step (qz0_) hb); (try clear hb); (try clear hk hi); (try clear ho0); (try clear ho1)) | ((with_reducible refine gate_dst (N := 3) rfl ?_); (try (refine gate_guard (by rfl) ?_; dsimp only)); refine bx_ (N := 3) #[.slice none 0 0, .slice none 0 0] 25 ?_; intro gb514 hg w165 hbox hb; replace HO510 := Aside0.mk (Kd.R_below (uf1_ HO510) hb); replace HO513 := Aside0.mk (Kd.V_below (Kd.V_elderB (uf5_ HO513) gb514 (Nat.le_of_eq hg.symm)) hb); have BK514 := Aside0.mk (hbox); have GW514 := Aside0.mk ((g9_ : w.heap.size ≤ gb514)); have GE514 := Aside0.mk ((g9_ : w.heap.size ≤ gb514)); replace HB := Aside0.mk (below_step (qz0_) hb); clear hb hbox hg; obtain ⟨Ao166, co166, eo166⟩ := Kd.R_slice HO510.out; subst eo166; obtain ⟨hcz167_0, hcz167_1, hfz167_0, hfz167_1⟩ := blk2_ BK514; obtain ⟨Ao168, co168, eo168⟩ := Kd.V_slice HO513.out; subst eo168) | ((with_reducible refine gate_callee (f := 39) rfl ?_); refine goesL_ (some 13) rfl rfl Try.func39 k_ rfl #[.agg #[.slice Ao166 t508.length co166, .slice Ao168 t511.length co168]] rfl (g2_) ?_; (with_reducible refine (impl_Netted.calls k _ _ t508 _ _ t511 t515 t518 _ ?side1 ?side2 ?side3 ?side4 A4.out).mono ?_); (case side1 => refine (Kd.R_reads' (e := 3) (base := w.heap.size) (ok := fun k_ => True) (n := t508.length) (c := co166) ?_).2.2; exact (g42_)); (case side2 => exact (Kd.R_reads' HO510.out).2.1); (case side3 => refine (Kd.V_reads' (e := 22) (base := w.heap.size) (ok := fun k_ => (some k_ ≠ (.slice Ao166 t508.length co166 : Value).ownBlock ∧ k_ ≠ gb514)) (n := t511.length) (c := co168) ?_).2.2; exact (by (with_reducible repeat (first | apply Kd.V_alloc | apply Kd.V_drewN | apply Kd.V_drew)); exact (Kd.V_mono (Kd.V_far (p := ⟨gb514, 1, none⟩) (Kd.V_far (p := ⟨gb514, 0, none⟩) (Kd.V_mono HO513.out (fun k_ hk => (⟨hk, hk.2⟩ : _ ∧ k_ ≠ gb514))) (fun _ hk => hk.2) (.slice Ao166 t508.length co166)) (fun _ hk => hk.2) (.slice Ao168 t511.length co168)) (fun _ h_ => h_.1)))); (case side4 => exact (Kd.V_reads' HO513.out).2.1); rintro e w169 ⟨v516, v519, rfl, ho0, ho1, hb⟩; refine ⟨_, rfl, ?_⟩; replace HO513 := Aside0.mk (Kd.V_mono (Kd.V_told (Kd.V_told (Kd.V_old (by (with_reducible repeat (first | apply Kd.V_alloc | apply Kd.V_drewN | apply Kd.V_drew)); exact (Kd.V_mono (Kd.V_far (p := ⟨gb514, 1, none⟩) (Kd.V_far (p := ⟨gb514, 0, none⟩) (Kd.V_mono HO513.out (fun k_ hk => (⟨hk, hk.2⟩ : _ ∧ k_ ≠ gb514))) (fun _ hk => hk.2) (.slice Ao166 t508.length co166)) (fun _ hk => hk.2) (.slice Ao168 t511.length co168)) (fun _ h_ => h_.1))) hb) (Kd.R_base ho0)) (Kd.S_base ho1)) (fun _ h_ => h_.1)); have HO517 := Aside0.mk (Kd.R_lower (Kd.R_new' ho0 (Kd.R_lt (g42_))) (below_size (qz0_))); have HO520 := Aside0.mk (Kd.S_lower (Kd.S_new' ho1 (Kd.R_lt (g42_))) (below_size (qz0_))); replace HO510 := Aside0.mk (Kd.R_elder' (g42_) (Kd.R_base ho0) hb); replace BK514 := Aside0.mk (blk_below (g := gb514) (o := .cells #[.slice Ao166 t508.length co166, .slice Ao168 t511.length co168] 25 (0, 0)) (by (with_reducible repeat (first | refine blk_drewN ?_ _ | refine blk_drew ?_ | refine blk_alloc ?_ _)); refine blk_put (cs := #[.slice Ao166 t508.length co166, .slice none 0 0]) ?_ 1 _ rfl; (with_reducible repeat (first | refine blk_drewN ?_ _ | refine blk_drew ?_ | refine blk_alloc ?_ _)); refine blk_put (cs := #[.slice none 0 0, .slice none 0 0]) ?_ 0 _ rfl; (with_reducible repeat (first | refine blk_drewN ?_ _ | refine blk_drew ?_ | refine blk_alloc ?_ _)); exact BK514.out) hb); replace HB := Aside0.mk (below_step (qz0_) hb); (try clear hb); (try clear hk hi); (try clear ho0); (try clear ho1)) | ((with_reducible refine gate_dst (N := 4) rfl ?_); (try (refine gate_guard (by rfl) ?_; dsimp only)); refine bx_ (N := 4) #[.slice none 0 0, .slice none 0 0] 25 ?_; intro gb521 hg w170 hbox hb; replace HO510 := Aside0.mk (Kd.R_below (uf1_ HO510) hb); replace HO513 := Aside0.mk (Kd.V_below (Kd.V_elderB (uf5_ HO513) gb521 (Nat.le_of_eq hg.symm)) hb); replace HO517 := Aside0.mk (Kd.R_below (uf1_ HO517) hb); replace HO520 := Aside0.mk (Kd.S_below (uf2_ HO520) hb); have BK521 := Aside0.mk (hbox); have GW521 := Aside0.mk ((g9_ : w.heap.size ≤ gb521)); have GE521 := Aside0.mk ((g9_ : w.heap.size ≤ gb521)); replace HB := Aside0.mk (below_step (qz0_) hb); have NB514_521 := Aside0.mk ((by rw [hg]; exact Nat.ne_of_lt (blk_lt (g := gb514) (o := .cells #[.slice Ao166 t508.length co166, .slice Ao168 t511.length co168] 25 (0, 0)) (uf0_ BK514)) : gb514 ≠ gb521)); have NB521_514 := Aside0.mk ((by rw [hg]; exact Nat.ne_of_gt (blk_lt (g := gb514) (o := .cells #[.slice Ao166 t508.length co166, .slice Ao168 t511.length co168] 25 (0, 0)) (uf0_ BK514)) : gb521 ≠ gb514)); replace BK514 := bb_ BK514 hb; clear hb hbox hg; obtain ⟨Ao171, co171, eo171⟩ := Kd.R_slice HO517.out; subst eo171; have hnb172 := NB521_514.out; have hnc172 := NB514_521.out; obtain ⟨hcz173_0, hcz173_1, hfz173_0, hfz173_1⟩ := blk2_ BK521; obtain ⟨Ao174, co174, eo174⟩ := Kd.S_slice HO520.out; subst eo174))
   have n0_ : Aside0 (Kd.R (Kd.int .i64) 3 ((w170.setCell ⟨gb521, 0, none⟩ (.slice Ao171 t515.length co171)).setCell ⟨gb521, 1, none⟩ (.slice Ao174 t518.length co174)) w.heap.size (fun k_ => some k_ ≠ (.slice Ao171 t515.length co171 : Value).ownBlock) (.slice Ao166 t508.length co166) t508) := ⟨by (with_reducible repeat (first | apply Kd.R_alloc | apply Kd.R_drewN | apply Kd.R_drew)); exact Kd.R_mono (Kd.R_far (p := ⟨gb521, 1, none⟩) (Kd.R_far (p := ⟨gb521, 0, none⟩) (Kd.R_types HO510.out BK521.out (by decide)) (fun _ hk => hk.2) (.slice Ao171 t515.length co171)) (fun _ hk => hk.2) (.slice Ao174 t518.length co174)) (fun _ hk => hk.1.2)⟩
   have n1_ : Aside0 (Kd.V (Kd.slice 3 (Kd.int .i64)) 22 ((w170.setCell ⟨gb521, 0, none⟩ (.slice Ao171 t515.length co171)).setCell ⟨gb521, 1, none⟩ (.slice Ao174 t518.length co174)) w.heap.size (fun k_ => some k_ ≠ (.slice Ao166 t508.length co166 : Value).ownBlock ∧ some k_ ≠ (.slice Ao171 t515.length co171 : Value).ownBlock ∧ some k_ ≠ (.slice Ao174 t518.length co174 : Value).ownBlock ∧ k_ ≠ gb514 ∧ k_ ≠ gb521) (.slice Ao168 t511.length co168) t511) := ⟨by (with_reducible repeat (first | apply Kd.V_alloc | apply Kd.V_drewN | apply Kd.V_drew)); exact Kd.V_mono (Kd.V_far (p := ⟨gb521, 1, none⟩) (Kd.V_far (p := ⟨gb521, 0, none⟩) (Kd.V_mono HO513.out (fun k_ hk => (⟨hk, hk.2⟩ : _ ∧ k_ ≠ gb521))) (fun _ hk => hk.2) (.slice Ao171 t515.length co171)) (fun _ hk => hk.2) (.slice Ao174 t518.length co174)) (fun _ hk => ⟨hk.1.1.1.1.1, ⟨hk.1.1.1.2, ⟨hk.1.1.2, ⟨hk.1.1.1.1.2, hk.1.2⟩⟩⟩⟩)⟩
   have n2_ : Aside0 (Kd.R (Kd.int .i64) 3 ((w170.setCell ⟨gb521, 0, none⟩ (.slice Ao171 t515.length co171)).setCell ⟨gb521, 1, none⟩ (.slice Ao174 t518.length co174)) w.heap.size (fun k_ => some k_ ≠ (.slice Ao166 t508.length co166 : Value).ownBlock) (.slice Ao171 t515.length co171) t515) := ⟨by (with_reducible repeat (first | apply Kd.R_alloc | apply Kd.R_drewN | apply Kd.R_drew)); exact Kd.R_mono (Kd.R_far (p := ⟨gb521, 1, none⟩) (Kd.R_far (p := ⟨gb521, 0, none⟩) (Kd.R_types HO517.out BK521.out (by decide)) (fun _ hk => hk.2) (.slice Ao171 t515.length co171)) (fun _ hk => hk.2) (.slice Ao174 t518.length co174)) (fun _ hk => hk.1.2)⟩
   have n3_ : Aside0 (Kd.S (Kd.slice 3 (Kd.int .i64)) 22 ((w170.setCell ⟨gb521, 0, none⟩ (.slice Ao171 t515.length co171)).setCell ⟨gb521, 1, none⟩ (.slice Ao174 t518.length co174)) w.heap.size (fun k_ => some k_ ≠ (.slice Ao166 t508.length co166 : Value).ownBlock ∧ some k_ ≠ (.slice Ao171 t515.length co171 : Value).ownBlock) (.slice Ao174 t518.length co174) t518) := ⟨by (with_reducible repeat (first | apply Kd.S_alloc | apply Kd.S_drewN | apply Kd.S_drew)); exact Kd.S_mono (Kd.S_far (p := ⟨gb521, 1, none⟩) (Kd.S_far (p := ⟨gb521, 0, none⟩) (Kd.S_types HO520.out BK521.out (by decide)) (fun _ hk => hk.2) (.slice Ao171 t515.length co171)) (fun _ hk => hk.2) (.slice Ao174 t518.length co174)) (fun _ hk => ⟨hk.1.2, hk.1.1⟩)⟩
   have n4_ : Aside0 (((w170.setCell ⟨gb521, 0, none⟩ (.slice Ao171 t515.length co171)).setCell ⟨gb521, 1, none⟩ (.slice Ao174 t518.length co174)).heap[gb514]? = some (.cells #[.slice Ao166 t508.length co166, .slice Ao168 t511.length co168] 25 (0, 0))) := ⟨g39_⟩
   have n5_ : Aside0 (((w170.setCell ⟨gb521, 0, none⟩ (.slice Ao171 t515.length co171)).setCell ⟨gb521, 1, none⟩ (.slice Ao174 t518.length co174)).heap[gb521]? = some (.cells #[.slice Ao171 t515.length co171, .slice Ao174 t518.length co174] 25 (0, 0))) := ⟨by (with_reducible repeat (first | refine blk_drewN ?_ _ | refine blk_drew ?_ | refine blk_alloc ?_ _)); refine blk_put (cs := #[.slice Ao171 t515.length co171, .slice none 0 0]) ?_ 1 _ rfl; (with_reducible repeat (first | refine blk_drewN ?_ _ | refine blk_drew ?_ | refine blk_alloc ?_ _)); refine blk_put (cs := #[.slice none 0 0, .slice none 0 0]) ?_ 0 _ rfl; (with_reducible repeat (first | refine blk_drewN ?_ _ | refine blk_drew ?_ | refine blk_alloc ?_ _)); exact BK521.out⟩
   have n6_ : Aside0 (Below w.heap.size w ((w170.setCell ⟨gb521, 0, none⟩ (.slice Ao171 t515.length co171)).setCell ⟨gb521, 1, none⟩ (.slice Ao174 t518.length co174))) := ⟨qz0_⟩
   (try clear HO510)
   (try clear HO513)
   (try clear HO517)
   (try clear HO520)
   (try clear BK514)
   (try clear BK521)
   (try clear HB)
   generalize ((w170.setCell ⟨gb521, 0, none⟩ (.slice Ao171 t515.length co171)).setCell ⟨gb521, 1, none⟩ (.slice Ao174 t518.length co174)) = w175 at n0_ n1_ n2_ n3_ n4_ n5_ n6_ ⊢
   have HO510 := n0_
   have HO513 := n1_
   have HO517 := n2_
   have HO520 := n3_
   have BK514 := n4_
   have BK521 := n5_
   have HB := n6_
   clear n0_ n1_ n2_ n3_ n4_ n5_ n6_
   replace HO510 := Aside0.mk (Kd.R_drew HO510.out)
   replace HO513 := Aside0.mk (Kd.V_drew HO513.out)
   replace HO517 := Aside0.mk (Kd.R_drew HO517.out)
   replace HO520 := Aside0.mk (Kd.S_drew HO520.out)
   replace BK514 := Aside0.mk (blk_drew BK514.out)
   replace BK521 := Aside0.mk (blk_drew BK521.out)
   replace HB := Aside0.mk (below_drew1 HB.out)
   refine start_ (n := 5) (S := fun w' => w'.cell? ⟨gb521, 0, none⟩ = some (.slice Ao171 t515.length co171) ∧ w'.cell? ⟨gb521, 1, none⟩ = some (.slice Ao174 t518.length co174) ∧ w'.cell? ⟨gb514, 0, none⟩ = some (.slice Ao166 t508.length co166) ∧ w'.cell? ⟨gb514, 1, none⟩ = some (.slice Ao168 t511.length co168)) (ds := []) (tl_ 5 0) (g1_) rfl (g1_) ⟨(blk_cell BK521.out 0).trans rfl, (blk_cell BK521.out 1).trans rfl, (blk_cell BK514.out 0).trans rfl, (blk_cell BK514.out 1).trans rfl⟩ (fun hHeld => ?_)
   generalize w175.drew = w176 at HO510 HO513 HO517 HO520 BK514 BK521 HB hHeld ⊢
   refine take_ (i := 0) (N := some 14) (v := ?_) (a' := ?_) (tl_ 5 1) rfl rfl (g1_) (fun _ _ _ h => h) (Or.inl ⟨by rfl, ?_⟩) hHeld ?_ ?_
   rotate_left
   ·rintro w' ⟨s0, s1, s2, s3⟩
    go_simp
    with_reducible rfl
   rotate_left
   ·simp only [Act.put, List.setIfInBounds_toArray, List.set_cons_zero, List.set_cons_succ, i64_w, i32_w]
    rfl
   refine take_ (i := 1) (N := some 15) (v := ?_) (a' := ?_) (tl_ 5 3) rfl rfl (g1_) (fun _ _ _ h => h) (Or.inl ⟨by rfl, ?_⟩) hHeld ?_ ?_
   rotate_left
   ·rintro w' ⟨s0, s1, s2, s3⟩
    go_simp
    with_reducible rfl
   rotate_left
   ·simp only [Act.put, List.setIfInBounds_toArray, List.set_cons_zero, List.set_cons_succ, i64_w, i32_w]
    rfl
   refine one_ (i := 2) (N := some 16) (tl_ 5 7) rfl rfl (g1_) (by decide) (fun K hK => ?_)
   refine goes_ Try.func41 (g1_) rfl #[.agg #[.slice Ao166 t508.length co166, .slice Ao168 t511.length co168]] (by rfl) rfl rfl (g2_) ?_
   with_reducible refine (spec_Netted.calls k _ _ t508 _ _ t511 t522 t525 _ ?side1 ?side2 ?side3 ?side4 A5.out).mono ?_
   (case side1 => repeat (first | exact (Kd.R_reads' HO510.out).2.2 | (with_reducible refine Kd.C_alloc ?_ _) | (with_reducible refine Kd.C_drewN ?_ _) | (with_reducible refine Kd.C_drew ?_)))
   (case side2 => exact (Kd.R_reads' HO510.out).2.1)
   (case side3 => repeat (first | exact (Kd.V_reads' HO513.out).2.2 | (with_reducible refine Kd.C_alloc ?_ _) | (with_reducible refine Kd.C_drewN ?_ _) | (with_reducible refine Kd.C_drew ?_)))
   (case side4 => exact (Kd.V_reads' HO513.out).2.1)
   rintro e w177 ⟨v523, v526, rfl, ho0, ho1, hb⟩
   refine ⟨_, rfl, ?_⟩
   replace HO513 := Aside0.mk (Kd.V_mono (Kd.V_told (Kd.V_told (Kd.V_old (uf5_ HO513) hb) (Kd.R_base ho0)) (Kd.S_base ho1)) (fun _ h_ => h_.1))
   have HO524 := Aside0.mk (Kd.R_lower (Kd.R_new' (Kd.R_new' ho0 (Kd.R_lt (uf1_ HO510))) (Kd.R_lt (uf1_ HO517))) (below_size (qz0_)))
   have HO527 := Aside0.mk (Kd.S_lower (Kd.S_new' (Kd.S_new' (Kd.S_new' ho1 (Kd.R_lt (uf1_ HO510))) (Kd.R_lt (uf1_ HO517))) (Kd.S_lt (uf2_ HO520))) (below_size (qz0_)))
   replace HO510 := Aside0.mk (Kd.R_elder' (uf1_ HO510) (Kd.R_base ho0) hb)
   replace HO517 := Aside0.mk (Kd.R_elder' (uf1_ HO517) (Kd.R_base ho0) hb)
   replace HO520 := Aside0.mk (Kd.S_mono (Kd.S_told (Kd.S_told (Kd.S_old (uf2_ HO520) hb) (Kd.R_base ho0)) (Kd.S_base ho1)) (fun _ h_ => h_.1))
   replace BK514 := bb_ BK514 hb
   replace BK521 := bb_ BK521 hb
   replace HB := Aside0.mk (below_step (qz0_) hb)
   (try clear hb)
   (try clear hk hi)
   (try clear ho0)
   (try clear ho1)
   obtain ⟨Ao178, co178, eo178⟩ := Kd.R_slice HO524.out
   (first | subst eo178 | (injection eo178 with f1_ f2_ f3_; have f4_ := f1_.symm; have f5_ := f3_.symm; clear f1_ f2_ f3_; subst f4_; subst f5_))
   obtain ⟨Ao179, co179, eo179⟩ := Kd.S_slice HO527.out
   (first | subst eo179 | (injection eo179 with f1_ f2_ f3_; have f4_ := f1_.symm; have f5_ := f3_.symm; clear f1_ f2_ f3_; subst f4_; subst f5_))
   refine hK.out _ _ ⟨(blk_cell BK521.out 0).trans rfl, (blk_cell BK521.out 1).trans rfl, (blk_cell BK514.out 0).trans rfl, (blk_cell BK514.out 1).trans rfl⟩ (fun hHeld => ?_)
   clear hK K
   refine nm_ ?_
   refine one_ (i := 3) (N := some 17) (tl_ 5 15) rfl rfl (g1_) (by decide) (fun K hK => ?_)
   refine goes_ Try.func40 (g1_) rfl #[.agg #[.slice Ao171 t515.length co171, .slice Ao174 t518.length co174], .agg #[.slice Ao178 t522.length co178, .slice Ao179 t525.length co179]] (by rfl) rfl rfl (g2_) ?_
   with_reducible refine (laws_sameBook.calls k _ _ t515 _ _ t518 _ _ t522 _ _ t525 false _ ?side1 ?side2 ?side3 ?side4 ?side5 ?side6 ?side7 ?side8 A6.out).mono ?_
   (case side1 => repeat (first | exact (Kd.R_reads' HO517.out).2.2 | (with_reducible refine Kd.C_alloc ?_ _) | (with_reducible refine Kd.C_drewN ?_ _) | (with_reducible refine Kd.C_drew ?_)))
   (case side2 => exact (Kd.R_reads' HO517.out).2.1)
   (case side3 => repeat (first | exact (Kd.S_reads' HO520.out).2.2 | (with_reducible refine Kd.C_alloc ?_ _) | (with_reducible refine Kd.C_drewN ?_ _) | (with_reducible refine Kd.C_drew ?_)))
   (case side4 => exact (Kd.S_reads' HO520.out).2.1)
   (case side5 => repeat (first | exact (Kd.R_reads' HO524.out).2.2 | (with_reducible refine Kd.C_alloc ?_ _) | (with_reducible refine Kd.C_drewN ?_ _) | (with_reducible refine Kd.C_drew ?_)))
   (case side6 => exact (Kd.R_reads' HO524.out).2.1)
   (case side7 => repeat (first | exact (Kd.S_reads' HO527.out).2.2 | (with_reducible refine Kd.C_alloc ?_ _) | (with_reducible refine Kd.C_drewN ?_ _) | (with_reducible refine Kd.C_drew ?_)))
   (case side8 => exact (Kd.S_reads' HO527.out).2.1)
   rintro e w180 ⟨rfl, hb⟩
   refine ⟨_, rfl, ?_⟩
   replace HO510 := Aside0.mk (Kd.R_below (uf1_ HO510) hb)
   replace HO513 := Aside0.mk (Kd.V_below (uf5_ HO513) hb)
   replace HO517 := Aside0.mk (Kd.R_below (uf1_ HO517) hb)
   replace HO520 := Aside0.mk (Kd.S_below (uf2_ HO520) hb)
   replace HO524 := Aside0.mk (Kd.R_below (uf1_ HO524) hb)
   replace HO527 := Aside0.mk (Kd.S_below (uf2_ HO527) hb)
   replace BK514 := bb_ BK514 hb
   replace BK521 := bb_ BK521 hb
   replace HB := Aside0.mk (below_step (qz0_) hb)
   (try clear hb)
   (try clear hk hi)
   refine hK.out _ _ ⟨(blk_cell BK521.out 0).trans rfl, (blk_cell BK521.out 1).trans rfl, (blk_cell BK514.out 0).trans rfl, (blk_cell BK514.out 1).trans rfl⟩ (fun hHeld => ?_)
   clear hK K
   refine nm_ ?_
   refine pure_ (i := 4) (N := some 18) (v := ?_) (a' := ?_) (tl_ 5 31) rfl rfl (g1_) (fun _ _ _ h => h) (Or.inl ⟨by rfl, ?_⟩) ?_ ?_
   rotate_left
   ·intro w'
    go_simp
    with_reducible rfl
   rotate_left
   ·simp only [Act.put, List.setIfInBounds_toArray, List.set_cons_zero, List.set_cons_succ, i64_w, i32_w]
    rfl
   refine done_ (g1_) ?_
   try go_wp2
   go_ret
   exact ⟨g4_, qz0_⟩
def laws_FnNetted.Pure : Prop := ∀ (l0 : List Int), l0.length ≤ maxLen → l0.length * 1 ≤ 140737488351232 → (∀ x ∈ l0, (Lit.int .u8 x).wf = true) → ∃ k, laws_FnNetted.f k l0 = some true
theorem laws_FnNetted.walk (P : laws_FnNetted.Pure) (a0 : Option Addr) (len0 cap0 : Nat) (z0 : List Int) (w : World) (w0 : (a0 = none ∧ len0 = 0 ∧ cap0 = 0 ∧ z0 = []) ∨ ∃ x, a0 = some x ∧ len0 ≤ cap0 ∧ cap0 ≤ maxLen ∧ z0.length = cap0 ∧ (∀ i, i < z0.length → w.cell? (x.add i) = some (.int .u8 (z0.getD i 0))) ∧ ∀ n ∈ z0, (Lit.int .u8 n).wf = true) (y0 : len0 * 1 ≤ 140737488351232) :
  Calls Try.prog 8 #[.slice a0 len0 cap0] w fun e w' => e = .returned (.bool true) ∧ Below w.heap.size w w' := by
 obtain ⟨l0, rfl, hr0, hm0, hw0, hc0⟩ := ReadsInt.ofRowC w0
 obtain ⟨k, h⟩ := P l0 hm0 y0 hw0
 refine (laws_FnNetted.calls k _ _ l0 true w (Kd.C_of_reads (d := (0 : Int)) (h1 := fun _ => rfl) hr0) hc0 h).mono ?_
 rintro e w' ⟨rfl, hd⟩
 exact ⟨rfl, hd⟩
end Go.Proofs.Ytfooakkhkehpiaa.PU
namespace Go.Proofs.Ytfooakkhkehpiaa.Qh
open Go.RowKit Go.Proofs.YtfooakkhkehpiaaW.PrintWords Go.Proofs.YtfooakkhkehpiaaW.PrintMore
set_option linter.unusedVariables false
set_option linter.unusedSimpArgs false
theorem w64 {n : Int} (h1 : -9223372036854775808 ≤ n) (h2 : n ≤ 9223372036854775807) : wrap64 n = n := by unfold wrap64; omega
theorem wsucc {i n : Nat} (h : i < n) (hn : n ≤ 4611686018427387904) : wrap64 ((i : Int) + 1) = ((i + 1 : Nat) : Int) := by unfold wrap64; omega
section
variable {α β : Type} {r : α}
theorem evPos {c : Prop} [Decidable c] {g f : Nat → Option α} (h : c) (k : Ev g r) : Ev (fun n => if c then g n else f n) r := by
  simp only [if_pos h]; exact k
theorem evNeg {c : Prop} [Decidable c] {g f : Nat → Option α} (h : ¬ c) (k : Ev f r) : Ev (fun n => if c then g n else f n) r := by
  simp only [if_neg h]; exact k
theorem evBind0 {g : Option β} {f : Nat → β → Option α} {a : β} (h : g = some a) (k : Ev (fun n => f n a) r) : Ev (fun n => g.bind (f n)) r := by
  subst h; exact k
theorem evEq {g : Nat → Option α} {q : α} (h : Ev g q) (e : q = r) : Ev g r := e ▸ h
end
theorem rd_get (xs : List Int) (i : Nat) (h : i < xs.length) : rd xs (i : Int) = xs[i] := by
  simp [rd, List.getD_eq_getElem?_getD, List.getElem?_eq_getElem h]
theorem getD_set {α : Type} (xs : List α) (d v : α) (i j : Nat) (h : i < xs.length) : (xs.set i v).getD j d = if i = j then v else xs.getD j d := by
  simp only [List.getD_eq_getElem?_getD, List.getElem?_set]
  by_cases e : i = j
  · subst e; simp [h]
  · simp [e]
theorem getD_mem {α : Type} (d : α) (xs : List α) (i : Nat) (h : i < xs.length) : xs.getD i d ∈ xs := by
  simp [List.getD_eq_getElem?_getD, List.getElem?_eq_getElem h]
def EvB (g : Nat → Option Bool) (p : Prop) : Prop := ∃ b, (b = true ↔ p) ∧ Ev g b
section
variable {g f : Nat → Option Bool} {p q : Prop}
theorem EvB.congr (h : EvB g p) (e : p ↔ q) : EvB g q := by obtain ⟨b, h1, h2⟩ := h; exact ⟨b, h1.trans e, h2⟩
theorem EvB.tt (h : p) : EvB (fun _ => some true) p := ⟨true, by simp [h], Ev.now _⟩
theorem EvB.ff (h : ¬ p) : EvB (fun _ => some false) p := ⟨false, by simp [h], Ev.now _⟩
theorem EvB.pos {c : Prop} [Decidable c] (h : c) (k : EvB g p) : EvB (fun n => if c then g n else f n) p := by obtain ⟨b, h1, h2⟩ := k; exact ⟨b, h1, evPos h h2⟩
theorem EvB.neg {c : Prop} [Decidable c] (h : ¬ c) (k : EvB f p) : EvB (fun n => if c then g n else f n) p := by obtain ⟨b, h1, h2⟩ := k; exact ⟨b, h1, evNeg h h2⟩
theorem EvB.step {g f : Nat → Option Bool} (h : ∀ k, g (k + 1) = f k) (k : EvB f p) : EvB g p := by obtain ⟨b, h1, h2⟩ := k; exact ⟨b, h1, Ev.step h h2⟩
theorem EvB.bind {β : Type} {g : Nat → Option β} {f : Nat → β → Option Bool} {a : β} (h : Ev g a) (k : EvB (fun n => f n a) p) : EvB (fun n => (g n).bind (f n)) p := by obtain ⟨b, h1, h2⟩ := k; exact ⟨b, h1, Ev.bind h h2⟩
theorem EvB.bind0 {β : Type} {g : Option β} {f : Nat → β → Option Bool} {a : β} (h : g = some a) (k : EvB (fun n => f n a) p) : EvB (fun n => g.bind (f n)) p := by obtain ⟨b, h1, h2⟩ := k; exact ⟨b, h1, evBind0 h h2⟩
theorem EvB.yes (h : EvB g p) (hp : p) : Ev g true := by obtain ⟨b, h1, h2⟩ := h; rw [h1.2 hp] at h2; exact h2
theorem EvB.no (h : EvB g p) (hp : ¬ p) : Ev g false := by
  obtain ⟨b, h1, h2⟩ := h
  have : b = false := by cases b with
    | true => exact absurd (h1.1 rfl) hp
    | false => rfl
  rw [this] at h2; exact h2
end
end Go.Proofs.Ytfooakkhkehpiaa.Qh
namespace Go.Proofs.Ytfooakkhkehpiaa.Bk
open Go.RowKit Go.Proofs.Ytfooakkhkehpiaa.PU Go.Proofs.Ytfooakkhkehpiaa.Qh Go.Proofs.YtfooakkhkehpiaaW.PrintWords Go.Proofs.YtfooakkhkehpiaaW.PrintMore
set_option linter.unusedVariables false
set_option linter.unusedSimpArgs false
def RowP (c : List Int) (d : List (List Int)) (i : Nat) : Prop :=
  0 ≤ rd c (i : Int) ∧ rd c (i : Int) ≤ 20 ∧ (rd_L1 d (i : Int)).length = c.length ∧ rd (rd_L1 d (i : Int)) (i : Int) = 0 ∧ ∀ j : Nat, j < c.length → 0 ≤ rd (rd_L1 d (i : Int)) (j : Int) ∧ rd (rd_L1 d (i : Int)) (j : Int) ≤ 9
def BookP (c : List Int) (d : List (List Int)) : Prop := 1 ≤ c.length ∧ c.length ≤ 4 ∧ d.length = c.length ∧ ∀ i : Nat, i < c.length → RowP c d i
theorem ib_l1 (c : List Int) (d : List (List Int)) (row : List Int) (x3 : Int) (i : Nat) (hrow : row.length ≤ 4) (hi : i < d.length) (hd : d.length ≤ 4) {R : Prop}
    (hR : EvB (fun k => impl_isBook.l0 k x3 d (d.length : Int) ((i + 1 : Nat) : Int) c d) R) : ∀ (e j : Nat), row.length - j = e → j ≤ row.length →
    EvB (fun k => impl_isBook.l1 k x3 d (d.length : Int) (i : Int) row (row.length : Int) (j : Int) c d) ((∀ j' : Nat, j ≤ j' → j' < row.length → 0 ≤ rd row (j' : Int) ∧ rd row (j' : Int) ≤ 9) ∧ R) := by
  have hs : wrap64 ((i : Int) + 1) = ((i + 1 : Nat) : Int) := wsucc hi (by omega)
  intro e
  induction e with
  | zero =>
    intro j he hj
    refine EvB.step (fun k => by rw [impl_isBook.l1]) ?_
    rw [hs]
    exact EvB.neg (by omega) (hR.congr ⟨fun h => ⟨fun j' h1 h2 => by omega, h⟩, fun h => h.2⟩)
  | succ e ih =>
    intro j he hj
    have hlt : j < row.length := by omega
    have hj1 : wrap64 ((j : Int) + 1) = ((j + 1 : Nat) : Int) := wsucc hlt (by omega)
    refine EvB.step (fun k => by rw [impl_isBook.l1]) ?_
    refine EvB.pos (by omega) (EvB.pos (by omega) (EvB.pos (by omega) ?_))
    by_cases h1 : rd row (j : Int) < 0
    · exact EvB.pos h1 (EvB.ff (fun h => by have := h.1 j (Nat.le_refl _) hlt; omega))
    · refine EvB.neg h1 ?_
      by_cases h2 : rd row (j : Int) > 9
      · exact EvB.pos h2 (EvB.ff (fun h => by have := h.1 j (Nat.le_refl _) hlt; omega))
      · refine EvB.neg h2 ?_
        rw [hj1]
        refine (ih (j + 1) (by omega) (by omega)).congr ⟨fun h => ⟨fun j' h3 h4 => ?_, h.2⟩, fun h => ⟨fun j' h3 h4 => h.1 j' (by omega) h4, h.2⟩⟩
        by_cases e' : j' = j
        · subst e'; exact ⟨by omega, by omega⟩
        · exact h.1 j' (by omega) h4
theorem ib_l0 (c : List Int) (d : List (List Int)) (h4 : c.length ≤ 4) (hl : d.length = c.length) : ∀ (e i : Nat), c.length - i = e → i ≤ c.length →
    EvB (fun k => impl_isBook.l0 k (c.length : Int) d (d.length : Int) (i : Int) c d) (∀ i' : Nat, i ≤ i' → i' < c.length → RowP c d i') := by
  intro e
  induction e with
  | zero =>
    intro i he hi
    refine EvB.step (fun k => by rw [impl_isBook.l0]) ?_
    exact EvB.neg (by omega) (EvB.tt (fun i' h1 h2 => by omega))
  | succ e ih =>
    intro i he hi
    have hlt : i < c.length := by omega
    refine EvB.step (fun k => by rw [impl_isBook.l0]) ?_
    refine EvB.pos (by omega) (EvB.pos (by omega) (EvB.pos (by omega) (EvB.pos (by omega) ?_)))
    have bad : ∀ (P : Prop), (P → ¬ RowP c d i) → P → EvB (fun k => impl_isBook.j2 k (c.length : Int) (rd_L1 d (i : Int)) d (d.length : Int) (i : Int) true c d) (∀ i' : Nat, i ≤ i' → i' < c.length → RowP c d i') := by
      intro P hP p
      refine EvB.step (fun k => by rw [impl_isBook.j2]) ?_
      exact EvB.pos rfl (EvB.ff (fun h => hP p (h i (Nat.le_refl _) hlt)))
    by_cases h1 : rd c (i : Int) < 0
    · exact EvB.pos h1 (bad _ (fun p h => by have := h.1; omega) h1)
    refine EvB.neg h1 ?_
    by_cases h2 : rd c (i : Int) > 20
    · exact EvB.pos h2 (bad _ (fun p h => by have := h.2.1; omega) h2)
    refine EvB.neg h2 ?_
    by_cases h3 : ((rd_L1 d (i : Int)).length : Int) = (c.length : Int)
    · refine EvB.pos h3 (EvB.pos (by omega) ?_)
      by_cases h5 : rd (rd_L1 d (i : Int)) (i : Int) = 0
      · refine EvB.step (fun k => by rw [impl_isBook.j2]) ?_
        refine EvB.neg (by rw [h5]; decide) ?_
        refine (ib_l1 c d (rd_L1 d (i : Int)) (c.length : Int) i (by omega) (by omega) (by omega) (ih (i + 1) (by omega) (by omega)) _ 0 rfl (by omega)).congr ?_
        constructor
        · intro h i' h6 h7
          by_cases e' : i' = i
          · subst e'; exact ⟨by omega, by omega, by omega, h5, fun j hj => h.1 j (by omega) (by omega)⟩
          · exact h.2 i' (by omega) h7
        · intro h
          have hr := h i (Nat.le_refl _) hlt
          exact ⟨fun j' _ h7 => hr.2.2.2.2 j' (by omega), fun i' h6 h7 => h i' (by omega) h7⟩
      · have hb : (rd (rd_L1 d (i : Int)) (i : Int) != 0) = true := bne_iff_ne.mpr h5
        rw [hb]
        exact bad _ (fun p h => p h.2.2.2.1) h5
    · exact EvB.neg h3 (bad _ (fun p h => p (by rw [h.2.2.1])) h3)
theorem isBook (c : List Int) (d : List (List Int)) : EvB (fun k => impl_isBook.f k c d) (BookP c d) := by
  unfold impl_isBook.f
  by_cases h1 : (c.length : Int) < 1
  · refine EvB.pos h1 (EvB.step (fun k => by rw [impl_isBook.j0]) ?_)
    exact EvB.pos rfl (EvB.ff (fun h => by have := h.1; omega))
  refine EvB.neg h1 ?_
  by_cases h2 : (c.length : Int) > 4
  · refine EvB.pos h2 (EvB.step (fun k => by rw [impl_isBook.j0]) ?_)
    exact EvB.pos rfl (EvB.ff (fun h => by have := h.2.1; omega))
  refine EvB.neg h2 (EvB.step (fun k => by rw [impl_isBook.j0]) ?_)
  by_cases h3 : d.length = c.length
  · refine EvB.neg (by rw [h3]; simp) ?_
    refine (ib_l0 c d (by omega) h3 _ 0 rfl (by omega)).congr ⟨fun h => ⟨by omega, by omega, h3, fun i hi => h i (by omega) hi⟩, fun h i _ hi => h.2.2.2 i hi⟩
  · exact EvB.pos (bne_iff_ne.mpr (by omega)) (EvB.ff (fun h => h3 h.2.2.1))
theorem sIn (a lo hi : Int) : spec_l1In.f a lo hi = some (decide (lo ≤ a ∧ a ≤ hi)) := by
  unfold spec_l1In.f
  by_cases h : a ≥ lo
  · rw [if_pos h]; simp [h]
  · rw [if_neg h]; congr 1; symm; exact decide_eq_false (fun h' => h h'.1)
theorem sb_l1 (c : List Int) (d : List (List Int)) (i : Nat) (hrow : (rd_L1 d (i : Int)).length ≤ 4) (hi : i < d.length) (hd : d.length ≤ 4) {R : Prop}
    (hR : EvB (fun k => spec_BookOk.l0 k ((i + 1 : Nat) : Int) c d) R) : ∀ (e j : Nat), (rd_L1 d (i : Int)).length - j = e → j ≤ (rd_L1 d (i : Int)).length →
    EvB (fun k => spec_BookOk.l1 k (i : Int) (j : Int) c d) ((∀ j' : Nat, j ≤ j' → j' < (rd_L1 d (i : Int)).length → 0 ≤ rd (rd_L1 d (i : Int)) (j' : Int) ∧ rd (rd_L1 d (i : Int)) (j' : Int) ≤ 9) ∧ R) := by
  have hs : wrap64 ((i : Int) + 1) = ((i + 1 : Nat) : Int) := wsucc hi (by omega)
  intro e
  induction e with
  | zero =>
    intro j he hj
    refine EvB.step (fun k => by rw [spec_BookOk.l1]) ?_
    rw [hs]
    exact EvB.pos (by omega) (EvB.pos (by omega) (EvB.neg (by omega) (hR.congr ⟨fun h => ⟨fun j' h1 h2 => by omega, h⟩, fun h => h.2⟩)))
  | succ e ih =>
    intro j he hj
    have hlt : j < (rd_L1 d (i : Int)).length := by omega
    have hj1 : wrap64 ((j : Int) + 1) = ((j + 1 : Nat) : Int) := wsucc hlt (by omega)
    refine EvB.step (fun k => by rw [spec_BookOk.l1]) ?_
    refine EvB.pos (by omega) (EvB.pos (by omega) (EvB.pos (by omega) (EvB.pos (by omega) (EvB.bind0 (sIn _ _ _) ?_))))
    by_cases h1 : 0 ≤ rd (rd_L1 d (i : Int)) (j : Int) ∧ rd (rd_L1 d (i : Int)) (j : Int) ≤ 9
    · refine EvB.pos (decide_eq_true h1) ?_
      rw [hj1]
      refine (ih (j + 1) (by omega) (by omega)).congr ⟨fun h => ⟨fun j' h3 h4 => ?_, h.2⟩, fun h => ⟨fun j' h3 h4 => h.1 j' (by omega) h4, h.2⟩⟩
      by_cases e' : j' = j
      · subst e'; exact h1
      · exact h.1 j' (by omega) h4
    · exact EvB.neg (by simpa using h1) (EvB.ff (fun h => h1 (h.1 j (Nat.le_refl _) hlt)))
theorem sb_l0 (c : List Int) (d : List (List Int)) (h4 : c.length ≤ 4) (hl : d.length = c.length) : ∀ (e i : Nat), c.length - i = e → i ≤ c.length →
    EvB (fun k => spec_BookOk.l0 k (i : Int) c d) (∀ i' : Nat, i ≤ i' → i' < c.length → RowP c d i') := by
  intro e
  induction e with
  | zero =>
    intro i he hi
    refine EvB.step (fun k => by rw [spec_BookOk.l0]) ?_
    exact EvB.neg (by omega) (EvB.tt (fun i' h1 h2 => by omega))
  | succ e ih =>
    intro i he hi
    have hlt : i < c.length := by omega
    refine EvB.step (fun k => by rw [spec_BookOk.l0]) ?_
    refine EvB.pos (by omega) (EvB.pos (by omega) (EvB.bind0 (sIn _ _ _) ?_))
    have bad : ∀ (P : Prop), (P → ¬ RowP c d i) → P → EvB (fun k => spec_BookOk.j2 k (i : Int) true c d) (∀ i' : Nat, i ≤ i' → i' < c.length → RowP c d i') := by
      intro P hP p
      refine EvB.step (fun k => by rw [spec_BookOk.j2]) ?_
      exact EvB.pos rfl (EvB.ff (fun h => hP p (h i (Nat.le_refl _) hlt)))
    by_cases h1 : 0 ≤ rd c (i : Int) ∧ rd c (i : Int) ≤ 20
    · refine EvB.pos (decide_eq_true h1) (EvB.pos (by omega) ?_)
      by_cases h3 : ((rd_L1 d (i : Int)).length : Int) = (c.length : Int)
      · refine EvB.pos h3 (EvB.pos (by omega) ?_)
        by_cases h5 : rd (rd_L1 d (i : Int)) (i : Int) = 0
        · refine EvB.step (fun k => by rw [spec_BookOk.j2]) ?_
          refine EvB.neg (by rw [h5]; decide) ?_
          refine (sb_l1 c d i (by omega) (by omega) (by omega) (ih (i + 1) (by omega) (by omega)) _ 0 rfl (by omega)).congr ?_
          constructor
          · intro h i' h6 h7
            by_cases e' : i' = i
            · subst e'; exact ⟨h1.1, h1.2, by omega, h5, fun j hj => h.1 j (by omega) (by omega)⟩
            · exact h.2 i' (by omega) h7
          · intro h
            have hr := h i (Nat.le_refl _) hlt
            exact ⟨fun j' _ h7 => hr.2.2.2.2 j' (by omega), fun i' h6 h7 => h i' (by omega) h7⟩
        · have hb : (rd (rd_L1 d (i : Int)) (i : Int) != 0) = true := bne_iff_ne.mpr h5
          rw [hb]
          exact bad _ (fun p h => p h.2.2.2.1) h5
      · exact EvB.neg h3 (bad _ (fun p h => p (by rw [h.2.2.1])) h3)
    · exact EvB.neg (by simpa using h1) (bad _ (fun p h => p ⟨h.1, h.2.1⟩) h1)
theorem bookOk (c : List Int) (d : List (List Int)) : EvB (fun k => spec_BookOk.f k c d) (BookP c d) := by
  unfold spec_BookOk.f
  refine EvB.bind0 (sIn _ _ _) ?_
  by_cases h1 : 1 ≤ (c.length : Int) ∧ (c.length : Int) ≤ 4
  · refine EvB.pos (decide_eq_true h1) (EvB.step (fun k => by rw [spec_BookOk.j0]) ?_)
    by_cases h3 : d.length = c.length
    · refine EvB.neg (by rw [h3]; simp) ?_
      refine (sb_l0 c d (by omega) h3 _ 0 rfl (by omega)).congr ⟨fun h => ⟨by omega, by omega, h3, fun i hi => h i (by omega) hi⟩, fun h i _ hi => h.2.2.2 i hi⟩
    · exact EvB.pos (bne_iff_ne.mpr (by omega)) (EvB.ff (fun h => h3 h.2.2.1))
  · refine EvB.neg (by simpa using h1) (EvB.step (fun k => by rw [spec_BookOk.j0]) ?_)
    exact EvB.pos rfl (EvB.ff (fun h => h1 ⟨by have := h.1; omega, by have := h.2.1; omega⟩))
end Go.Proofs.Ytfooakkhkehpiaa.Bk
namespace Go.Proofs.Ytfooakkhkehpiaa.Mx
open Go.RowKit Go.Proofs.Ytfooakkhkehpiaa.PU Go.Proofs.Ytfooakkhkehpiaa.Qh Go.Proofs.Ytfooakkhkehpiaa.Bk Go.Proofs.YtfooakkhkehpiaaW.PrintWords Go.Proofs.YtfooakkhkehpiaaW.PrintMore
set_option linter.unusedVariables false
set_option linter.unusedSimpArgs false
abbrev db (d : List (List Int)) (i j : Nat) : Int := rd (rd_L1 d (i : Int)) (j : Int)
theorem rL (xs : List (List Int)) (i : Nat) : rd_L1 xs (i : Int) = xs.getD i [] := rfl
def rowF (n : Nat) (f : Nat → Int) : List Int := (List.range n).map f
def mk (n : Nat) (f : Nat → Nat → Int) : List (List Int) := (List.range n).map (fun i => rowF n (f i))
theorem rowF_len (n : Nat) (f : Nat → Int) : (rowF n f).length = n := by simp [rowF]
theorem mk_len (n : Nat) (f : Nat → Nat → Int) : (mk n f).length = n := by simp [mk]
theorem rd_rowF {n j : Nat} {f : Nat → Int} (h : j < n) : rd (rowF n f) (j : Int) = f j := by
  rw [rd_get _ _ (by rw [rowF_len]; exact h)]; simp [rowF]
theorem mk_get {n i : Nat} {f : Nat → Nat → Int} (h : i < n) : rd_L1 (mk n f) (i : Int) = rowF n (f i) := by
  rw [rL, List.getD_eq_getElem?_getD, List.getElem?_eq_getElem (by rw [mk_len]; exact h)]; simp [mk]
theorem rowF_congr {n : Nat} {f g : Nat → Int} (h : ∀ j, j < n → f j = g j) : rowF n f = rowF n g := by
  unfold rowF
  exact List.map_congr_left (fun j hj => h j (List.mem_range.mp hj))
theorem mk_congr {n : Nat} {f g : Nat → Nat → Int} (h : ∀ i, i < n → ∀ j, j < n → f i j = g i j) : mk n f = mk n g := by
  unfold mk
  exact List.map_congr_left (fun i hi => rowF_congr (h i (List.mem_range.mp hi)))
theorem rowF_of (l : List Int) {n : Nat} (h : l.length = n) : l = rowF n (fun j => rd l (j : Int)) := by
  apply List.ext_getElem (by rw [rowF_len, h])
  intro i h1 h2
  rw [← rd_get l i h1, ← rd_get _ i h2, rd_rowF (by rw [rowF_len] at h2; exact h2)]
theorem mk_of {c : List Int} {d : List (List Int)} (h : BookP c d) : d = mk c.length (db d) := by
  apply List.ext_getElem (by rw [mk_len, h.2.2.1])
  intro i h1 h2
  have hi : i < c.length := by rw [mk_len] at h2; exact h2
  have hr := (h.2.2.2 i hi).2.2.1
  have e1 : d[i] = rd_L1 d (i : Int) := by rw [rL, List.getD_eq_getElem?_getD, List.getElem?_eq_getElem h1]; rfl
  have e2 : (mk c.length (db d))[i] = rowF c.length (db d i) := by simp [mk]
  rw [e1, e2]
  exact rowF_of _ hr
theorem rowF_set {n j : Nat} {f : Nat → Int} {v : Int} (h : j < n) : (rowF n f).set j v = rowF n (fun j' => if j' = j then v else f j') := by
  apply List.ext_getElem (by simp [rowF])
  intro i h1 h2
  have hi : i < n := by rw [rowF_len] at h2; exact h2
  rw [List.getElem_set]
  by_cases e : j = i
  · subst e; simp [rowF]
  · rw [if_neg e]; simp only [rowF, List.getElem_map, List.getElem_range]; rw [if_neg (fun z => e z.symm)]
theorem mk_set {n i j : Nat} {f : Nat → Nat → Int} {v : Int} (hi : i < n) (hj : j < n) : (mk n f).set i ((rd_L1 (mk n f) (i : Int)).set j v) = mk n (fun i' j' => if i' = i ∧ j' = j then v else f i' j') := by
  rw [mk_get hi, rowF_set hj]
  apply List.ext_getElem (by simp [mk])
  intro a h1 h2
  have ha : a < n := by rw [mk_len] at h2; exact h2
  rw [List.getElem_set]
  by_cases e : i = a
  · subst e
    rw [if_pos rfl]
    simp only [mk, List.getElem_map, List.getElem_range]
    exact rowF_congr (fun j' _ => by simp)
  · rw [if_neg e]
    simp only [mk, List.getElem_map, List.getElem_range]
    exact rowF_congr (fun j' _ => by rw [if_neg (fun z => e z.1.symm)])
theorem icopy {c : List Int} {d : List (List Int)} (h : BookP c d) : Ev (fun k => impl_copyBook.f k c d) (c, d) := by
  have h4 := h.2.1
  have hdl := h.2.2.1
  unfold impl_copyBook.f
  refine evBind0 rfl (evPos (by simp only [List.length_nil]; omega) ?_)
  rw [List.nil_append]
  have key : ∀ (e i : Nat), d.length - i = e → i ≤ d.length → Ev (fun k => impl_copyBook.l0 k d (d.length : Int) (i : Int) c (d.take i)) (c, d) := by
    intro e
    induction e with
    | zero =>
      intro i he hi
      obtain rfl : i = d.length := by omega
      refine Ev.step (fun k => by rw [impl_copyBook.l0]) ?_
      rw [List.take_length]
      exact evNeg (by omega) (Ev.now _)
    | succ e ih =>
      intro i he hi
      have hlt : i < d.length := by omega
      have hr := (h.2.2.2 i (by omega)).2.2.1
      have hs : Aside0 (wrap64 ((i : Int) + 1) = ((i + 1 : Nat) : Int)) := ⟨wsucc hlt (by omega)⟩
      have htl : (d.take i).length = i := by rw [List.length_take]; omega
      have e2 : d.take i ++ [rd_L1 d (i : Int)] = d.take (i + 1) := by
        rw [rL, List.getD_eq_getElem?_getD, List.getElem?_eq_getElem hlt, List.take_succ_eq_append_getElem hlt]; rfl
      refine Ev.step (fun k => by rw [impl_copyBook.l0]) ?_
      rw [hs.out]
      refine evPos (by omega) (evPos (by omega) (evPos (by omega) (evBind0 rfl (evPos (by simp only [List.length_nil]; omega) (evPos (by omega) ?_)))))
      rw [List.nil_append, e2]
      exact ih (i + 1) (by omega) (by omega)
  exact key d.length 0 rfl (by omega)
theorem scopy {c : List Int} {d : List (List Int)} (h : BookP c d) : Ev (fun k => spec_l2Copy.f k c d) (c, d) := by
  have h4 := h.2.1
  have hdl := h.2.2.1
  unfold spec_l2Copy.f
  refine evBind0 rfl (evPos (by simp only [List.length_nil]; omega) ?_)
  rw [List.nil_append]
  have key : ∀ (e i : Nat), d.length - i = e → i ≤ d.length → Ev (fun k => spec_l2Copy.l0 k (i : Int) c d c (d.take i)) (c, d) := by
    intro e
    induction e with
    | zero =>
      intro i he hi
      obtain rfl : i = d.length := by omega
      refine Ev.step (fun k => by rw [spec_l2Copy.l0]) ?_
      rw [List.take_length]
      exact evNeg (by omega) (Ev.now _)
    | succ e ih =>
      intro i he hi
      have hlt : i < d.length := by omega
      have hr := (h.2.2.2 i (by omega)).2.2.1
      have hs : Aside0 (wrap64 ((i : Int) + 1) = ((i + 1 : Nat) : Int)) := ⟨wsucc hlt (by omega)⟩
      have htl : (d.take i).length = i := by rw [List.length_take]; omega
      have e2 : d.take i ++ [rd_L1 d (i : Int)] = d.take (i + 1) := by
        rw [rL, List.getD_eq_getElem?_getD, List.getElem?_eq_getElem hlt, List.take_succ_eq_append_getElem hlt]; rfl
      refine Ev.step (fun k => by rw [spec_l2Copy.l0]) ?_
      rw [hs.out]
      refine evPos (by omega) (evBind0 rfl (evPos (by omega) (evPos (by simp only [List.length_nil]; omega) (evPos (by omega) ?_))))
      rw [List.nil_append, e2]
      exact ih (i + 1) (by omega) (by omega)
  exact key d.length 0 rfl (by omega)
theorem sameI_l (l : List Int) (hl : l.length ≤ 4611686018427387904) : ∀ (e i : Nat), l.length - i = e → i ≤ l.length → Ev (fun k => laws_sameInts.l0 k l l (i : Int)) true := by
  intro e
  induction e with
  | zero =>
    intro i he hi
    refine Ev.step (fun k => by rw [laws_sameInts.l0]) ?_
    exact evNeg (by omega) (Ev.now _)
  | succ e ih =>
    intro i he hi
    have hlt : i < l.length := by omega
    have hs : wrap64 ((i : Int) + 1) = ((i + 1 : Nat) : Int) := wsucc hlt hl
    refine Ev.step (fun k => by rw [laws_sameInts.l0]) ?_
    refine evPos (by omega) (evPos (by omega) (evPos (by omega) (evPos rfl ?_)))
    rw [hs]
    exact ih (i + 1) (by omega) (by omega)
theorem sameI (l : List Int) (hl : l.length ≤ 4611686018427387904) : Ev (fun k => laws_sameInts.f k l l) true := by
  unfold laws_sameInts.f
  exact evPos rfl (sameI_l l hl _ 0 rfl (by omega))
theorem sameR_l (l : List (List Int)) (hl : l.length ≤ 4611686018427387904) (hr : ∀ i : Nat, i < l.length → (rd_L1 l (i : Int)).length ≤ 4611686018427387904) : ∀ (e i : Nat), l.length - i = e → i ≤ l.length → Ev (fun k => laws_sameRows.l0 k l l (i : Int)) true := by
  intro e
  induction e with
  | zero =>
    intro i he hi
    refine Ev.step (fun k => by rw [laws_sameRows.l0]) ?_
    exact evNeg (by omega) (Ev.now _)
  | succ e ih =>
    intro i he hi
    have hlt : i < l.length := by omega
    have hs : wrap64 ((i : Int) + 1) = ((i + 1 : Nat) : Int) := wsucc hlt hl
    refine Ev.step (fun k => by rw [laws_sameRows.l0]) ?_
    refine evPos (by omega) (evPos (by omega) (evPos (by omega) (Ev.bind (sameI _ (hr i hlt)) (evPos rfl ?_))))
    rw [hs]
    exact ih (i + 1) (by omega) (by omega)
theorem sameB (c : List Int) (l : List (List Int)) (hc : c.length ≤ 4611686018427387904) (hl : l.length ≤ 4611686018427387904) (hr : ∀ i : Nat, i < l.length → (rd_L1 l (i : Int)).length ≤ 4611686018427387904) : Ev (fun k => laws_sameBook.f k c l c l) true := by
  unfold laws_sameBook.f
  refine Ev.bind (sameI c hc) (evPos rfl (Ev.bind ?_ (Ev.now _)))
  unfold laws_sameRows.f
  exact evPos rfl (sameR_l l hl hr _ 0 rfl (by omega))
theorem sameOk {c : List Int} {d : List (List Int)} (h : BookP c d) : Ev (fun k => laws_sameBook.f k c d c d) true := by
  have h4 := h.2.1
  have hdl := h.2.2.1
  exact sameB c d (by omega) (by omega) (fun i hi => by have := (h.2.2.2 i (by omega)).2.2.1; omega)
end Go.Proofs.Ytfooakkhkehpiaa.Mx
namespace Go.Proofs.Ytfooakkhkehpiaa.Nt
open Go.RowKit Go.Proofs.Ytfooakkhkehpiaa.PU Go.Proofs.Ytfooakkhkehpiaa.Qh Go.Proofs.Ytfooakkhkehpiaa.Bk Go.Proofs.Ytfooakkhkehpiaa.Mx Go.Proofs.YtfooakkhkehpiaaW.PrintWords Go.Proofs.YtfooakkhkehpiaaW.PrintMore
set_option linter.unusedVariables false
set_option linter.unusedSimpArgs false
def N (d : List (List Int)) (i j : Nat) : Int := db d i j - mn (db d i j) (db d j i)
def netL (c : List Int) (d : List (List Int)) : List (List Int) := mk c.length (N d)
variable {c : List Int} {d : List (List Int)}
theorem db_bd (h : BookP c d) {i j : Nat} (hi : i < c.length) (hj : j < c.length) : 0 ≤ db d i j ∧ db d i j ≤ 9 := (h.2.2.2 i hi).2.2.2.2 j hj
theorem db_diag (h : BookP c d) {i : Nat} (hi : i < c.length) : db d i i = 0 := (h.2.2.2 i hi).2.2.2.1
theorem mn_le (a b : Int) : mn a b ≤ a ∧ mn a b ≤ b ∧ (mn a b = a ∨ mn a b = b) := by
  unfold mn
  split <;> omega
theorem mn_comm (a b : Int) : mn a b = mn b a := by
  have h1 := mn_le a b
  have h2 := mn_le b a
  omega
theorem N_bd (h : BookP c d) {i j : Nat} (hi : i < c.length) (hj : j < c.length) : 0 ≤ N d i j ∧ N d i j ≤ db d i j := by
  have h1 := mn_le (db d i j) (db d j i)
  have h2 := db_bd h hi hj
  have h3 := db_bd h hj hi
  unfold N
  omega
theorem N_diag (h : BookP c d) {i : Nat} (hi : i < c.length) : N d i i = 0 := by
  have h1 := N_bd h hi hi
  have h2 := db_diag h hi
  omega
theorem N_one (h : BookP c d) {i j : Nat} (hi : i < c.length) (hj : j < c.length) : N d i j = 0 ∨ N d j i = 0 := by
  have h1 := mn_le (db d i j) (db d j i)
  have h2 := mn_comm (db d j i) (db d i j)
  unfold N
  omega
theorem net_len (c : List Int) (d : List (List Int)) : (netL c d).length = c.length := mk_len _ _
theorem net_get (h : BookP c d) {i j : Nat} (hi : i < c.length) (hj : j < c.length) : db (netL c d) i j = N d i j := by
  show rd (rd_L1 (mk c.length (N d)) (i : Int)) (j : Int) = _
  rw [mk_get hi, rd_rowF hj]
theorem net_ok (h : BookP c d) : BookP c (netL c d) := by
  refine ⟨h.1, h.2.1, net_len c d, fun i hi => ?_⟩
  have hc := h.2.2.2 i hi
  refine ⟨hc.1, hc.2.1, ?_, ?_, fun j hj => ?_⟩
  · show (rd_L1 (mk c.length (N d)) (i : Int)).length = _
    rw [mk_get hi, rowF_len]
  · exact (net_get h hi hi).trans (N_diag h hi)
  · have h1 := net_get h hi hj
    have h2 := N_bd h hi hj
    have h3 := db_bd h hi hj
    show 0 ≤ db (netL c d) i j ∧ db (netL c d) i j ≤ 9
    rw [h1]; omega
def fi (d : List (List Int)) (i k : Nat) (i' j' : Nat) : Int := if i' < i ∨ i' = i ∧ j' < k then N d i' j' else db d i' j'
theorem in_l1 (h : BookP c d) {i : Nat} (hi : i < c.length) {r : List Int × List (List Int)} (hR : Ev (fun n => impl_netted.l0 n d (c.length : Int) ((i + 1 : Nat) : Int) c d c (mk c.length (fi d (i + 1) 0))) r) : ∀ (e k : Nat), c.length - k = e → k ≤ c.length →
    Ev (fun n => impl_netted.l1 n (i : Int) d (c.length : Int) (i : Int) (rd_L1 d (i : Int)) (c.length : Int) (k : Int) c d c (mk c.length (fi d i k))) r := by
  have h4 := h.2.1
  have hdl := h.2.2.1
  have hri := (h.2.2.2 i hi).2.2.1
  have hs : Aside0 (wrap64 ((i : Int) + 1) = ((i + 1 : Nat) : Int)) := ⟨wsucc hi (by omega)⟩
  intro e
  induction e with
  | zero =>
    intro k he hk
    obtain rfl : k = c.length := by omega
    refine Ev.step (fun n => by rw [impl_netted.l1]) ?_
    rw [hs.out]
    refine evNeg (by omega) ?_
    have : mk c.length (fi d i c.length) = mk c.length (fi d (i + 1) 0) := mk_congr (fun a ha b hb => by
      unfold fi
      by_cases z : a < i ∨ a = i ∧ b < c.length
      · rw [if_pos z, if_pos (by omega)]
      · rw [if_neg z, if_neg (by omega)])
    rw [this]
    exact hR
  | succ e ih =>
    intro k he hk
    have hlt : k < c.length := by omega
    have hk1 : Aside0 (wrap64 ((k : Int) + 1) = ((k + 1 : Nat) : Int)) := ⟨wsucc hlt (by omega)⟩
    have hrk := (h.2.2.2 k hlt).2.2.1
    have hml := mk_len c.length (fi d i k)
    have hmr : (rd_L1 (mk c.length (fi d i k)) (i : Int)).length = c.length := by rw [mk_get hi, rowF_len]
    have b1 := db_bd h hi hlt
    have b2 := N_bd h hi hlt
    have hw : Aside0 (wrap64 (rd (rd_L1 d (i : Int)) (k : Int) - mn (rd (rd_L1 d (i : Int)) (k : Int)) (rd (rd_L1 d (k : Int)) (i : Int))) = N d i k) := ⟨by
      have e1 : rd (rd_L1 d (i : Int)) (k : Int) - mn (rd (rd_L1 d (i : Int)) (k : Int)) (rd (rd_L1 d (k : Int)) (i : Int)) = N d i k := rfl
      rw [e1, w64 (by omega) (by omega)]⟩
    refine Ev.step (fun n => by rw [impl_netted.l1]) ?_
    rw [hk1.out, hw.out, Int.toNat_natCast, Int.toNat_natCast, mk_set hi hlt]
    refine evPos (by omega) (evPos (by omega) (evPos (by omega) (evPos (by omega) (evPos (by omega) (evPos (by omega) (evPos (by omega) (evPos (by omega) ?_)))))))
    have : mk c.length (fun i' j' => if i' = i ∧ j' = k then N d i k else fi d i k i' j') = mk c.length (fi d i (k + 1)) := mk_congr (fun a ha b hb => by
      unfold fi
      by_cases z : a = i ∧ b = k
      · rw [if_pos z, if_pos (by omega), z.1, z.2]
      · rw [if_neg z]
        by_cases y : a < i ∨ a = i ∧ b < k
        · rw [if_pos y, if_pos (by omega)]
        · rw [if_neg y, if_neg (by omega)])
    rw [this]
    exact ih (k + 1) (by omega) (by omega)
theorem in_l0 (h : BookP c d) : ∀ (e i : Nat), c.length - i = e → i ≤ c.length → Ev (fun n => impl_netted.l0 n d (c.length : Int) (i : Int) c d c (mk c.length (fi d i 0))) (c, netL c d) := by
  have hdl := h.2.2.1
  intro e
  induction e with
  | zero =>
    intro i he hi
    obtain rfl : i = c.length := by omega
    refine Ev.step (fun n => by rw [impl_netted.l0]) ?_
    refine evNeg (by omega) (evEq (Ev.now _) ?_)
    have : mk c.length (fi d c.length 0) = netL c d := mk_congr (fun a ha b hb => by unfold fi; rw [if_pos (by omega)])
    rw [this]
  | succ e ih =>
    intro i he hi
    have hlt : i < c.length := by omega
    have hri := (h.2.2.2 i hlt).2.2.1
    refine Ev.step (fun n => by rw [impl_netted.l0]) ?_
    rw [hri]
    refine evPos (by omega) (evPos (by omega) (evPos (by omega) ?_))
    exact in_l1 h hlt (ih (i + 1) (by omega) (by omega)) c.length 0 rfl (by omega)
theorem inetted (h : BookP c d) : Ev (fun n => impl_netted.f n c d) (c, netL c d) := by
  have hdl := h.2.2.1
  unfold impl_netted.f
  refine Ev.bind (icopy h) ?_
  have e : mk c.length (fi d 0 0) = d := (mk_congr (fun a ha b hb => by unfold fi; rw [if_neg (by omega)])).trans (mk_of h).symm
  have := in_l0 h c.length 0 rfl (by omega)
  rw [e] at this
  show Ev (fun n => impl_netted.l0 n d (d.length : Int) 0 c d c d) (c, netL c d)
  rw [hdl]
  exact this
theorem iNetted (c : List Int) (d : List (List Int)) : Ev (fun n => impl_Netted.f n c d) (@ite _ (BookP c d) (Classical.propDecidable _) (c, netL c d) ([], [])) := by
  unfold impl_Netted.f
  by_cases h : BookP c d
  · rw [if_pos h]; exact Ev.bind ((isBook c d).yes h) (evPos rfl (Ev.bind (inetted h) (Ev.now _)))
  · rw [if_neg h]; exact Ev.bind ((isBook c d).no h) (evNeg (by decide) (Ev.now _))
def fs (d : List (List Int)) (i k : Nat) (a b : Nat) : Int := if a ≠ b ∧ (max a b < i ∨ max a b = i ∧ min a b < k) then N d a b else db d a b
theorem sn_l1 (h : BookP c d) {i : Nat} (hi : i < c.length) {r : List Int × List (List Int)} (hR : Ev (fun n => spec_Netted.l0 n ((i + 1 : Nat) : Int) c d c (mk c.length (fs d (i + 1) 0))) r) : ∀ (e k : Nat), i - k = e → k ≤ i →
    Ev (fun n => spec_Netted.l1 n (i : Int) (k : Int) c d c (mk c.length (fs d i k))) r := by
  have h4 := h.2.1
  have hdl := h.2.2.1
  have hri := (h.2.2.2 i hi).2.2.1
  have hs : Aside0 (wrap64 ((i : Int) + 1) = ((i + 1 : Nat) : Int)) := ⟨wsucc hi (by omega)⟩
  intro e
  induction e with
  | zero =>
    intro k he hk
    obtain rfl : k = i := by omega
    refine Ev.step (fun n => by rw [spec_Netted.l1]) ?_
    rw [hs.out]
    refine evNeg (by omega) ?_
    have : mk c.length (fs d k k) = mk c.length (fs d (k + 1) 0) := mk_congr (fun a ha b hb => by
      unfold fs
      by_cases z : a ≠ b ∧ (max a b < k ∨ max a b = k ∧ min a b < k)
      · rw [if_pos z, if_pos (by omega)]
      · rw [if_neg z, if_neg (by omega)])
    rw [this]
    exact hR
  | succ e ih =>
    intro k he hk
    have hlt : k < c.length := by omega
    have hk1 : Aside0 (wrap64 ((k : Int) + 1) = ((k + 1 : Nat) : Int)) := ⟨wsucc hlt (by omega)⟩
    have hrk := (h.2.2.2 k hlt).2.2.1
    have hml := mk_len c.length (fs d i k)
    have hmr : (rd_L1 (mk c.length (fs d i k)) (i : Int)).length = c.length := by rw [mk_get hi, rowF_len]
    have b1 := db_bd h hi hlt
    have b2 := N_bd h hi hlt
    have b3 := db_bd h hlt hi
    have b4 := N_bd h hlt hi
    have hw : Aside0 (wrap64 (rd (rd_L1 d (i : Int)) (k : Int) - mn (rd (rd_L1 d (i : Int)) (k : Int)) (rd (rd_L1 d (k : Int)) (i : Int))) = N d i k) := ⟨by
      have e1 : rd (rd_L1 d (i : Int)) (k : Int) - mn (rd (rd_L1 d (i : Int)) (k : Int)) (rd (rd_L1 d (k : Int)) (i : Int)) = N d i k := rfl
      rw [e1, w64 (by omega) (by omega)]⟩
    have hw2 : Aside0 (wrap64 (rd (rd_L1 d (k : Int)) (i : Int) - mn (rd (rd_L1 d (i : Int)) (k : Int)) (rd (rd_L1 d (k : Int)) (i : Int))) = N d k i) := ⟨by
      have e1 : rd (rd_L1 d (k : Int)) (i : Int) - mn (rd (rd_L1 d (i : Int)) (k : Int)) (rd (rd_L1 d (k : Int)) (i : Int)) = N d k i := by
        rw [mn_comm]; rfl
      rw [e1, w64 (by omega) (by omega)]⟩
    refine Ev.step (fun n => by rw [spec_Netted.l1]) ?_
    rw [hk1.out, hw.out, hw2.out, Int.toNat_natCast, Int.toNat_natCast, mk_set hi hlt]
    refine evPos (by omega) (evPos (by omega) (evPos (by omega) (evPos (by omega) (evPos (by omega) (evPos (by omega) (evPos (by omega) (evPos (by omega) (evPos (by omega) (evBind0 rfl ?_)))))))))
    have hml2 := mk_len c.length (fun i' j' => if i' = i ∧ j' = k then N d i k else fs d i k i' j')
    have hmr2 : (rd_L1 (mk c.length (fun i' j' => if i' = i ∧ j' = k then N d i k else fs d i k i' j')) (k : Int)).length = c.length := by rw [mk_get hlt, rowF_len]
    refine evPos (by omega) (evPos (by omega) ?_)
    rw [mk_set hlt hi]
    have : mk c.length (fun i' j' => if i' = k ∧ j' = i then N d k i else if i' = i ∧ j' = k then N d i k else fs d i k i' j') = mk c.length (fs d i (k + 1)) := mk_congr (fun a ha b hb => by
      unfold fs
      by_cases z : a = k ∧ b = i
      · rw [if_pos z, if_pos (by omega), z.1, z.2]
      · rw [if_neg z]
        by_cases z2 : a = i ∧ b = k
        · rw [if_pos z2, if_pos (by omega), z2.1, z2.2]
        · rw [if_neg z2]
          by_cases y : a ≠ b ∧ (max a b < i ∨ max a b = i ∧ min a b < k)
          · rw [if_pos y, if_pos (by omega)]
          · rw [if_neg y, if_neg (by omega)])
    rw [this]
    exact ih (k + 1) (by omega) (by omega)
theorem sn_l0 (h : BookP c d) : ∀ (e i : Nat), c.length - i = e → i ≤ c.length → Ev (fun n => spec_Netted.l0 n (i : Int) c d c (mk c.length (fs d i 0))) (c, netL c d) := by
  have hdl := h.2.2.1
  intro e
  induction e with
  | zero =>
    intro i he hi
    obtain rfl : i = c.length := by omega
    refine Ev.step (fun n => by rw [spec_Netted.l0]) ?_
    refine evNeg (by omega) (evEq (Ev.now _) ?_)
    have : mk c.length (fs d c.length 0) = netL c d := mk_congr (fun a ha b hb => by
      unfold fs
      by_cases z : a = b
      · subst z; rw [if_neg (by omega), db_diag h ha, N_diag h ha]
      · rw [if_pos (by omega)])
    rw [this]
  | succ e ih =>
    intro i he hi
    have hlt : i < c.length := by omega
    refine Ev.step (fun n => by rw [spec_Netted.l0]) ?_
    refine evPos (by omega) ?_
    exact sn_l1 h hlt (ih (i + 1) (by omega) (by omega)) i 0 rfl (by omega)
theorem sNetted (c : List Int) (d : List (List Int)) : Ev (fun n => spec_Netted.f n c d) (@ite _ (BookP c d) (Classical.propDecidable _) (c, netL c d) ([], [])) := by
  unfold spec_Netted.f
  by_cases h : BookP c d
  · rw [if_pos h]
    refine Ev.bind ((bookOk c d).yes h) (evPos rfl (Ev.bind (scopy h) ?_))
    have e : mk c.length (fs d 0 0) = d := (mk_congr (fun a ha b hb => by unfold fs; rw [if_neg (by omega)])).trans (mk_of h).symm
    have := sn_l0 h c.length 0 rfl (by omega)
    rw [e] at this
    exact this
  · rw [if_neg h]; exact Ev.bind ((bookOk c d).no h) (evNeg (by decide) (Ev.now _))
end Go.Proofs.Ytfooakkhkehpiaa.Nt
namespace Go.Proofs.Ytfooakkhkehpiaa.Ow
open Go.RowKit Go.Proofs.Ytfooakkhkehpiaa.PU Go.Proofs.Ytfooakkhkehpiaa.Qh Go.Proofs.Ytfooakkhkehpiaa.Bk Go.Proofs.YtfooakkhkehpiaaW.PrintWords Go.Proofs.YtfooakkhkehpiaaW.PrintMore
set_option linter.unusedVariables false
set_option linter.unusedSimpArgs false
def sm (xs : List Int) : Nat → Int
  | 0 => 0
  | i + 1 => sm xs i + rd xs (i : Int)
def ow (c : List Int) (d : List (List Int)) (i : Nat) : Int := sm (rd_L1 d (i : Int)) c.length
def owes (c : List Int) (d : List (List Int)) : List Int := (List.range c.length).map (ow c d)
theorem owes_len (c : List Int) (d : List (List Int)) : (owes c d).length = c.length := by simp [owes]
theorem rd_owes {c : List Int} {d : List (List Int)} {i : Nat} (hi : i < c.length) : rd (owes c d) (i : Int) = ow c d i := by
  rw [rd_get _ _ (by rw [owes_len]; exact hi)]; simp [owes]
theorem sm_bd {c : List Int} {d : List (List Int)} (h : BookP c d) {i : Nat} (hi : i < c.length) : ∀ j : Nat, j ≤ c.length → 0 ≤ sm (rd_L1 d (i : Int)) j ∧ sm (rd_L1 d (i : Int)) j ≤ 9 * j
  | 0, _ => by simp [sm]
  | j + 1, hj => by
    have := sm_bd h hi j (by omega)
    have := (h.2.2.2 i hi).2.2.2.2 j (by omega)
    simp only [sm]; omega
theorem ow_bd {c : List Int} {d : List (List Int)} (h : BookP c d) {i : Nat} (hi : i < c.length) : 0 ≤ ow c d i ∧ ow c d i ≤ 36 := by
  have := sm_bd h hi c.length (Nat.le_refl _); have := h.2.1; unfold ow; omega
def mid (c : List Int) (d : List (List Int)) (i : Nat) (s : Int) : List Int := (List.range c.length).map (fun k => if k < i then ow c d k else if k = i then s else 0)
theorem mid_len (c : List Int) (d : List (List Int)) (i : Nat) (s : Int) : (mid c d i s).length = c.length := by simp [mid]
theorem mid_get {c : List Int} {d : List (List Int)} {i : Nat} {s : Int} (hi : i < c.length) : rd (mid c d i s) (i : Int) = s := by
  rw [rd_get _ _ (by rw [mid_len]; exact hi)]; simp [mid]
theorem mid_set {c : List Int} {d : List (List Int)} {i : Nat} {s v : Int} (hi : i < c.length) : (mid c d i s).set ((i : Int)).toNat v = mid c d i v := by
  apply List.ext_getElem (by simp [mid])
  intro k h1 h2
  simp only [mid, List.getElem_set, List.getElem_map, List.getElem_range, Int.toNat_natCast]
  by_cases e : i = k
  · subst e; simp
  · rw [if_neg e]
    by_cases e2 : k < i
    · simp [e2]
    · simp [e2, Ne.symm e, show ¬ k = i from fun h => e h.symm]
theorem mid_next {c : List Int} {d : List (List Int)} (i : Nat) : mid c d i (ow c d i) = mid c d (i + 1) 0 := by
  unfold mid
  apply List.map_congr_left
  intro k _
  by_cases e : k < i
  · simp [e, show k < i + 1 by omega]
  · by_cases e2 : k = i
    · subst e2; simp
    · simp [e, e2, show ¬ k < i + 1 by omega]
theorem mid_start (c : List Int) (d : List (List Int)) : List.replicate c.length (0 : Int) = mid c d 0 0 := by
  apply List.ext_getElem (by simp [mid])
  intro k h1 h2
  simp [mid]
theorem mid_end (c : List Int) (d : List (List Int)) : mid c d c.length 0 = owes c d := by
  unfold mid owes
  apply List.map_congr_left
  intro k hk
  simp [List.mem_range.mp hk]
theorem io_l1 {c : List Int} {d : List (List Int)} (h : BookP c d) {i : Nat} (hi : i < c.length) {r : List Int} (hR : Ev (fun k => impl_owes.l0 k (mid c d (i + 1) 0) d (d.length : Int) ((i + 1 : Nat) : Int)) r) :
    ∀ (e j : Nat), c.length - j = e → j ≤ c.length → Ev (fun k => impl_owes.l1 k (mid c d i (sm (rd_L1 d (i : Int)) j)) (i : Int) d (d.length : Int) (i : Int) (rd_L1 d (i : Int)) ((rd_L1 d (i : Int)).length : Int) (j : Int)) r := by
  have h4 := h.2.1
  have hdl := h.2.2.1
  have hrl := (h.2.2.2 i hi).2.2.1
  have hs : wrap64 ((i : Int) + 1) = ((i + 1 : Nat) : Int) := wsucc hi (by omega)
  intro e
  induction e with
  | zero =>
    intro j he hj
    obtain rfl : j = c.length := by omega
    refine Ev.step (fun k => by rw [impl_owes.l1]) ?_
    rw [hs]
    refine evNeg (by omega) ?_
    have : mid c d i (sm (rd_L1 d (i : Int)) c.length) = mid c d (i + 1) 0 := mid_next i
    rw [this]
    exact hR
  | succ e ih =>
    intro j he hj
    have hlt : j < c.length := by omega
    have hj1 : wrap64 ((j : Int) + 1) = ((j + 1 : Nat) : Int) := wsucc hlt (by omega)
    have hb := sm_bd h hi j (by omega)
    have hx := (h.2.2.2 i hi).2.2.2.2 j hlt
    have hw : wrap64 (sm (rd_L1 d (i : Int)) j + rd (rd_L1 d (i : Int)) (j : Int)) = sm (rd_L1 d (i : Int)) (j + 1) := by rw [w64 (by omega) (by omega)]; rfl
    have hml := mid_len c d i (sm (rd_L1 d (i : Int)) j)
    refine Ev.step (fun k => by rw [impl_owes.l1]) ?_
    refine evPos (by omega) (evPos (by omega) (evPos (by omega) (evPos (by omega) (evPos (by omega) ?_))))
    rw [mid_get hi, hw, hj1, mid_set hi]
    exact ih (j + 1) (by omega) (by omega)
theorem io_l0 {c : List Int} {d : List (List Int)} (h : BookP c d) : ∀ (e i : Nat), c.length - i = e → i ≤ c.length → Ev (fun k => impl_owes.l0 k (mid c d i 0) d (d.length : Int) (i : Int)) (owes c d) := by
  have hdl := h.2.2.1
  intro e
  induction e with
  | zero =>
    intro i he hi
    obtain rfl : i = c.length := by omega
    refine Ev.step (fun k => by rw [impl_owes.l0]) ?_
    exact evNeg (by omega) (evEq (Ev.now _) (mid_end c d))
  | succ e ih =>
    intro i he hi
    refine Ev.step (fun k => by rw [impl_owes.l0]) ?_
    refine evPos (by omega) (evPos (by omega) (evPos (by omega) ?_))
    exact io_l1 h (by omega) (ih (i + 1) (by omega) (by omega)) _ 0 rfl (by omega)
theorem iowes {c : List Int} {d : List (List Int)} (h : BookP c d) : Ev (fun k => impl_owes.f k c d) (owes c d) := by
  have h4 := h.2.1
  unfold impl_owes.f
  refine evPos (by omega) (evPos (by omega) ?_)
  rw [Int.toNat_natCast, mid_start c d]
  exact io_l0 h _ 0 rfl (by omega)
end Go.Proofs.Ytfooakkhkehpiaa.Ow
namespace Go.Proofs.Ytfooakkhkehpiaa.Dr
open Go.RowKit Go.Proofs.Ytfooakkhkehpiaa.PU Go.Proofs.Ytfooakkhkehpiaa.Qh Go.Proofs.YtfooakkhkehpiaaW.PrintWords Go.Proofs.YtfooakkhkehpiaaW.PrintMore
set_option linter.unusedVariables false
set_option linter.unusedSimpArgs false
theorem xor_nonneg (a b : Int) (ha : 0 ≤ a) (ha2 : a < 4611686018427387904) (hb : 0 ≤ b) (hb2 : b < 4611686018427387904) : 0 ≤ Go.bits .xor .i64 a b := by
  obtain ⟨m, rfl⟩ := Int.eq_ofNat_of_zero_le ha
  obtain ⟨n, rfl⟩ := Int.eq_ofNat_of_zero_le hb
  have hm : m < 2 ^ 62 := by omega
  have hn : n < 2 ^ 62 := by omega
  have hx : m ^^^ n < 2 ^ 62 := Nat.xor_lt_two_pow hm hn
  have e1 : m % 2 ^ 64 = m := Nat.mod_eq_of_lt (by omega)
  have e2 : n % 2 ^ 64 = n := Nat.mod_eq_of_lt (by omega)
  have : Go.bits .xor .i64 (m : Int) (n : Int) = ((m ^^^ n : Nat) : Int) := by
    simp only [Go.bits, BitVec.ofInt_natCast, BitVec.toNat_xor, BitVec.toNat_ofNat]
    show IntKind.i64.wrap (((m % 2 ^ 64) ^^^ (n % 2 ^ 64) : Nat) : Int) = _
    rw [e1, e2, IntKind.wrap_i64]
    omega
  rw [this]
  omega
def Bytes (b : List Int) : Prop := b.length ≤ 2000 ∧ ∀ x ∈ b, 0 ≤ x ∧ x ≤ 255
theorem rd_byte {b : List Int} (h : Bytes b) (i : Int) : 0 ≤ rd b i ∧ rd b i ≤ 255 := by
  unfold rd
  by_cases hi : i.toNat < b.length
  · exact h.2 _ (getD_mem 0 b _ hi)
  · simp [List.getD_eq_getElem?_getD, List.getElem?_eq_none (by omega : b.length ≤ i.toNat)]
theorem pick {b : List Int} (hb : Bytes b) (p n : Int) (h0 : 0 ≤ p) (h1 : p ≤ 1000000000) :
    ∃ v, 0 ≤ v ∧ (1 ≤ n → v < n) ∧ (n < 1 → v = 0) ∧ Ev (fun k => spec_l20Rd_pick.f k b p n) (v, p + 1) := by
  have hp : wrap64 (p + 1) = p + 1 := w64 (by omega) (by omega)
  have hp1 : wrap64 (p + 1 - 1) = p := by rw [w64 (by omega) (by omega)]; omega
  unfold spec_l20Rd_pick.f
  rw [hp]
  by_cases hn : n < 1
  · refine ⟨0, by omega, by omega, fun _ => rfl, evPos hn ?_⟩
    refine Ev.step (fun k => by rw [spec_l20Rd_pick.j0]) ?_
    exact evPos rfl (Ev.now _)
  by_cases hz : b.length = 0
  · refine ⟨0, by omega, by omega, fun h => absurd h hn, evNeg hn ?_⟩
    refine Ev.step (fun k => by rw [spec_l20Rd_pick.j0]) ?_
    exact evPos (by simp [hz]) (Ev.now _)
  have hlen : 0 < (b.length : Int) := by omega
  by_cases hlt : p < (b.length : Int)
  · have hr := rd_byte hb p
    refine ⟨Int.tmod (rd b p) n, Int.tmod_nonneg _ hr.1, fun _ => Int.tmod_lt_of_pos _ (by omega), fun h => absurd h hn, evNeg hn ?_⟩
    refine Ev.step (fun k => by rw [spec_l20Rd_pick.j0]) ?_
    rw [hp1]
    refine evNeg (fun h => by have := beq_iff_eq.mp h; omega) (evPos hlt (evPos h0 (evNeg (by omega) ?_)))
    rw [w64 (by omega) (by omega)]
    exact Ev.now _
  · have hp7 : wrap64 (p * 7) = p * 7 := w64 (by omega) (by omega)
    have hp73 : wrap64 (p * 7 + 3) = p * 7 + 3 := w64 (by omega) (by omega)
    have hp29 : wrap64 (p * 29) = p * 29 := w64 (by omega) (by omega)
    have i1 := Int.tmod_nonneg (b.length : Int) h0
    have i2 := Int.tmod_lt_of_pos p hlen
    have j1 := Int.tmod_nonneg (b.length : Int) (show 0 ≤ p * 7 + 3 by omega)
    have j2 := Int.tmod_lt_of_pos (p * 7 + 3) hlen
    have d1 : 0 ≤ Int.tdiv p (b.length : Int) := Int.tdiv_nonneg h0 (by omega)
    have d2 : Int.tdiv p (b.length : Int) ≤ p := Int.tdiv_le_self _ h0
    have r1 := rd_byte hb (Int.tmod p (b.length : Int))
    have r2 := rd_byte hb (Int.tmod (p * 7 + 3) (b.length : Int))
    have key : ∃ x, 0 ≤ x ∧ x < 4611686018427387904 ∧ wrap64 ((wrap64 ((wrap64 ((wrap64 ((wrap64 (rd b (Int.tmod p (b.length : Int)))) * 131)) + (wrap64 ((wrap64 (rd b (Int.tmod (p * 7 + 3) (b.length : Int)))) * 1117)))) + (p * 29))) + (wrap64 ((wrap64 (Int.tdiv p (b.length : Int))) * 53))) = x := by
      generalize rd b (Int.tmod p (b.length : Int)) = u at *
      generalize rd b (Int.tmod (p * 7 + 3) (b.length : Int)) = v at *
      generalize Int.tdiv p (b.length : Int) = d at *
      have e1 : wrap64 u = u := w64 (by omega) (by omega)
      have e2 : wrap64 v = v := w64 (by omega) (by omega)
      have e3 : wrap64 d = d := w64 (by omega) (by omega)
      have e4 : wrap64 (u * 131) = u * 131 := w64 (by omega) (by omega)
      have e5 : wrap64 (v * 1117) = v * 1117 := w64 (by omega) (by omega)
      have e6 : wrap64 (d * 53) = d * 53 := w64 (by omega) (by omega)
      have e7 : wrap64 (u * 131 + v * 1117) = u * 131 + v * 1117 := w64 (by omega) (by omega)
      have e8 : wrap64 (u * 131 + v * 1117 + p * 29) = u * 131 + v * 1117 + p * 29 := w64 (by omega) (by omega)
      refine ⟨u * 131 + v * 1117 + p * 29 + d * 53, by omega, by omega, ?_⟩
      rw [e1, e2, e3, e4, e5, e6, e7, e8]
      exact w64 (by omega) (by omega)
    obtain ⟨x, hx0, hx1, hx⟩ := key
    have t0 : 0 ≤ Int.tdiv x 64 := Int.tdiv_nonneg hx0 (by omega)
    have t1 : Int.tdiv x 64 ≤ x := Int.tdiv_le_self _ hx0
    have ht : wrap64 (Int.tdiv x 64) = Int.tdiv x 64 := w64 (by omega) (by omega)
    have hq := xor_nonneg x (Int.tdiv x 64) hx0 hx1 t0 (by omega)
    refine ⟨Int.tmod (Go.bits .xor .i64 x (Int.tdiv x 64)) n, Int.tmod_nonneg _ hq, fun _ => Int.tmod_lt_of_pos _ (by omega), fun h => absurd h hn, evNeg hn ?_⟩
    refine Ev.step (fun k => by rw [spec_l20Rd_pick.j0]) ?_
    rw [hp1, hp7, hp73, hp29, hx, ht]
    refine evNeg (fun h => by have := beq_iff_eq.mp h; omega) (evNeg hlt (evNeg (by omega) (evPos i1 (evPos i2 (evPos j1 (evPos j2 (evNeg (by omega) (Ev.now _))))))))
theorem open_ (l : List Int) (hu : ∀ x ∈ l, (Lit.int .u8 x).wf = true) : ∃ b, Bytes b ∧ spec_l20Open.f l = some (b, 0) := by
  have hb : ∀ x ∈ l, 0 ≤ x ∧ x ≤ 255 := fun x hx => by
    have := hu x hx
    simp [Lit.wf, IntKind.min, IntKind.max, IntKind.bits, IntKind.signed] at this
    omega
  unfold spec_l20Open.f
  by_cases h : (l.length : Int) > 2000
  · exact ⟨l.take 2000, ⟨by rw [List.length_take]; omega, fun x hx => hb x (List.mem_of_mem_take hx)⟩, by rw [if_pos h, if_pos (by omega)]⟩
  · exact ⟨l, ⟨by omega, hb⟩, by rw [if_neg h]⟩
end Go.Proofs.Ytfooakkhkehpiaa.Dr
namespace Go.Proofs.Ytfooakkhkehpiaa.Db
open Go.RowKit Go.Proofs.Ytfooakkhkehpiaa.PU Go.Proofs.Ytfooakkhkehpiaa.Qh Go.Proofs.Ytfooakkhkehpiaa.Dr Go.Proofs.YtfooakkhkehpiaaW.PrintWords Go.Proofs.YtfooakkhkehpiaaW.PrintMore
set_option linter.unusedVariables false
set_option linter.unusedSimpArgs false
def EvX {α : Type} (g : Nat → Option α) (P : α → Prop) : Prop := ∃ r, P r ∧ Ev g r
section
variable {α β : Type} {P Q : α → Prop} {g f : Nat → Option α}
theorem EvX.imp (h : EvX g P) (k : ∀ r, P r → Q r) : EvX g Q := by obtain ⟨r, h1, h2⟩ := h; exact ⟨r, k r h1, h2⟩
theorem EvX.now {r : α} (h : P r) : EvX (fun _ => some r) P := ⟨r, h, Ev.now _⟩
theorem EvX.step {g f : Nat → Option α} (h : ∀ k, g (k + 1) = f k) (k : EvX f P) : EvX g P := by obtain ⟨r, h1, h2⟩ := k; exact ⟨r, h1, Ev.step h h2⟩
theorem EvX.pos {c : Prop} [Decidable c] (h : c) (k : EvX g P) : EvX (fun n => if c then g n else f n) P := by obtain ⟨r, h1, h2⟩ := k; exact ⟨r, h1, evPos h h2⟩
theorem EvX.neg {c : Prop} [Decidable c] (h : ¬ c) (k : EvX f P) : EvX (fun n => if c then g n else f n) P := by obtain ⟨r, h1, h2⟩ := k; exact ⟨r, h1, evNeg h h2⟩
theorem EvX.bind {g : Nat → Option β} {f : Nat → β → Option α} {a : β} (h : Ev g a) (k : EvX (fun n => f n a) P) : EvX (fun n => (g n).bind (f n)) P := by obtain ⟨r, h1, h2⟩ := k; exact ⟨r, h1, Ev.bind h h2⟩
theorem EvX.bind0 {g : Option β} {f : Nat → β → Option α} {a : β} (h : g = some a) (k : EvX (fun n => f n a) P) : EvX (fun n => g.bind (f n)) P := by obtain ⟨r, h1, h2⟩ := k; exact ⟨r, h1, evBind0 h h2⟩
end
theorem podd {b : List Int} (hb : Bytes b) (p n : Int) (hn : 1 ≤ n) (hn2 : n ≤ 1000) (h0 : 0 ≤ p) (h1 : p ≤ 1000000000) : ∃ v, Ev (fun k => spec_l20Rd_odd.f k b p n) (v, p + 1) := by
  obtain ⟨x, _, _, _, hx⟩ := pick hb p n h0 h1
  unfold spec_l20Rd_odd.f
  exact ⟨_, evPos (by omega) (Ev.bind hx (Ev.now _))⟩
def Sm (r : List Int × List (List Int) × Int) (p m : Int) : Prop := r.1.length ≤ 4 ∧ r.2.1.length ≤ 4 ∧ (∀ i : Nat, (rd_L1 r.2.1 (i : Int)).length ≤ 4) ∧ p ≤ r.2.2 ∧ r.2.2 ≤ p + m
theorem rL2 (xs : List (List Int)) (i : Nat) : rd_L1 xs (i : Int) = xs.getD i [] := rfl
theorem rows_set (ds : List (List Int)) (i : Nat) (v : List Int) (hv : v.length ≤ 4) (h : ∀ j : Nat, (rd_L1 ds (j : Int)).length ≤ 4) (j : Nat) : (rd_L1 (ds.set i v) (j : Int)).length ≤ 4 := by
  rw [rL2]
  by_cases hi : i < ds.length
  · rw [getD_set _ _ _ _ _ hi]
    by_cases e : i = j
    · rw [if_pos e]; exact hv
    · rw [if_neg e]; exact h j
  · rw [List.set_eq_of_length_le (by omega)]; exact h j
theorem rows_all (ds : List (List Int)) (m : Nat) (hm : m ≤ 4) (h : ∀ j : Nat, j < ds.length → (rd_L1 ds (j : Int)).length = m) (j : Nat) : (rd_L1 ds (j : Int)).length ≤ 4 := by
  by_cases hj : j < ds.length
  · rw [h j hj]; exact hm
  · rw [rL2]; simp [List.getD_eq_getElem?_getD, List.getElem?_eq_none (by omega : ds.length ≤ j)]
theorem bk_l1 {b : List Int} (hb : Bytes b) (n : Int) (m : Nat) (hm : m ≤ 4) (kind : Int) (i : Nat) (hi : i < m) (cs : List Int) (ds : List (List Int)) (hds : ds.length = i) (P : List Int × List (List Int) × Int → Prop) (p0 : Int) (hp0 : 0 ≤ p0) (hp1 : p0 ≤ 10000)
    (hR : ∀ (row : List Int) (p : Int), row.length = m → p0 ≤ p → p ≤ p0 + 2 * m → EvX (fun k => spec_l20Book.l0 k n (m : Int) kind ((i + 1 : Nat) : Int) b p cs (ds ++ [row])) P) :
    ∀ (e j : Nat) (row : List Int) (p : Int), m - j = e → j ≤ m → row.length = j → p0 ≤ p → p ≤ p0 + 2 * j →
    EvX (fun k => spec_l20Book.l1 k n (m : Int) kind (i : Int) row (j : Int) b p cs ds) P := by
  have hs : Aside0 (wrap64 ((i : Int) + 1) = ((i + 1 : Nat) : Int)) := ⟨wsucc hi (by omega)⟩
  intro e
  induction e with
  | zero =>
    intro j row p he hj hr h0 h1
    obtain rfl : j = m := by omega
    refine EvX.step (fun k => by rw [spec_l20Book.l1]) ?_
    rw [hs.out]
    exact EvX.neg (by omega) (EvX.pos (by omega) (hR row p hr h0 h1))
  | succ e ih =>
    intro j row p he hj hr h0 h1
    have hlt : j < m := by omega
    have hj1 : Aside0 (wrap64 ((j : Int) + 1) = ((j + 1 : Nat) : Int)) := ⟨wsucc hlt (by omega)⟩
    refine EvX.step (fun k => by rw [spec_l20Book.l1]) ?_
    rw [hj1.out]
    have hc : (j : Int) < (m : Int) := by clear ih hR; omega
    refine EvX.pos hc ?_
    have go : ∀ (v p' : Int), p0 ≤ p' → p' ≤ p0 + 2 * ((j + 1 : Nat) : Int) → EvX (fun k => if row.length < 17592186044416 then spec_l20Book.l1 k n (m : Int) kind (i : Int) (row ++ [v]) ((j + 1 : Nat) : Int) b p' cs ds else none) P := by
      intro v p' h2 h3
      have hl : row.length < 17592186044416 := by clear hj1 hs ih hR; omega
      have q1 : m - (j + 1) = e := by clear hj1 hs ih hR; omega
      have q2 : (row ++ [v]).length = j + 1 := by rw [List.length_append, hr]; rfl
      exact EvX.pos hl (ih (j + 1) (row ++ [v]) p' q1 hlt q2 h2 h3)
    by_cases hij : (i : Int) = (j : Int)
    · exact EvX.pos hij (go 0 p h0 (by omega))
    · refine EvX.neg hij ?_
      obtain ⟨v, _, _, _, hv⟩ := pick hb p 3 (by omega) (by omega)
      refine EvX.bind hv ?_
      by_cases h2 : v > 0
      · refine EvX.pos h2 ?_
        obtain ⟨v2, _, _, _, hv2⟩ := pick hb (p + 1) 10 (by omega) (by omega)
        exact EvX.bind hv2 (go v2 (p + 1 + 1) (by omega) (by omega))
      · exact EvX.neg h2 (go 0 (p + 1) (by omega) (by omega))
theorem bk_l0 {b : List Int} (hb : Bytes b) (n : Int) (hn : 1 ≤ n) (hn2 : n ≤ 1000) (m : Nat) (hm1 : 1 ≤ m) (hm : m ≤ 4) (kind : Int) (hk0 : 0 ≤ kind) (hk1 : kind < 3) : ∀ (e i : Nat) (cs : List Int) (ds : List (List Int)) (p : Int), m - i = e → i ≤ m →
    cs.length = i → ds.length = i → (∀ j : Nat, j < ds.length → (rd_L1 ds (j : Int)).length = m) → 0 ≤ p → p ≤ 100 + 10 * i →
    EvX (fun k => spec_l20Book.l0 k n (m : Int) kind (i : Int) b p cs ds) (fun r => Sm r p (10 * e + 2)) := by
  intro e
  induction e with
  | zero =>
    intro i cs ds p he hi hcs hds hrows h0 h1
    obtain rfl : i = m := by omega
    refine EvX.step (fun k => by rw [spec_l20Book.l0]) ?_
    refine EvX.neg (by omega) ?_
    obtain ⟨v, hv⟩ := podd hb p n hn hn2 h0 (by omega)
    refine EvX.bind hv ?_
    have hall := rows_all ds i hm hrows
    by_cases hvt : v = true
    · refine EvX.pos hvt ?_
      obtain ⟨w, hw0, hw1, _, hw⟩ := pick hb (p + 1) 4 (by omega) (by omega)
      refine EvX.bind hw ?_
      by_cases a : w = 0
      · exact EvX.pos a (EvX.now ⟨by simp, by simp, fun j => by simp [rL2], by show p ≤ p + 1 + 1; omega, by show p + 1 + 1 ≤ _; omega⟩)
      refine EvX.neg a ?_
      by_cases a1 : w = 1
      · refine EvX.pos a1 (EvX.pos (by omega) (EvX.now ⟨by simp; omega, by show ds.length ≤ 4; omega, hall, by show p ≤ p + 1 + 1; omega, by show p + 1 + 1 ≤ _; omega⟩))
      refine EvX.neg a1 ?_
      have r0 := hrows 0 (by omega)
      by_cases a2 : w = 2
      · refine EvX.pos a2 (EvX.pos (by omega) (EvX.pos (by rw [show (0 : Int) = ((0 : Nat) : Int) from rfl, r0]; omega) (EvX.now ⟨by show cs.length ≤ 4; omega, by simp; omega, ?_, by show p ≤ p + 1 + 1; omega, by show p + 1 + 1 ≤ _; omega⟩)))
        exact rows_set ds 0 _ (by rw [List.length_set]; exact hall 0) hall
      · have hw1 : Aside0 (wrap64 ((i : Int) - 1) = ((i - 1 : Nat) : Int)) := ⟨by rw [w64 (by omega) (by omega)]; omega⟩
        rw [hw1.out]
        have rl := hrows (i - 1) (by omega)
        refine EvX.neg a2 (EvX.pos (by omega) (EvX.pos (by omega) (EvX.pos (by rw [rl]; omega) (EvX.now ⟨by show cs.length ≤ 4; omega, by simp; omega, ?_, by show p ≤ p + 1 + 1; omega, by show p + 1 + 1 ≤ _; omega⟩))))
        rw [Int.toNat_natCast]
        exact rows_set ds (i - 1) _ (by rw [List.length_drop, rl]; omega) hall
    · exact EvX.neg hvt (EvX.now ⟨by show cs.length ≤ 4; omega, by show ds.length ≤ 4; omega, hall, by show p ≤ p + 1; omega, by show p + 1 ≤ _; omega⟩)
  | succ e ih =>
    intro i cs ds p he hi hcs hds hrows h0 h1
    have hlt : i < m := by omega
    refine EvX.step (fun k => by rw [spec_l20Book.l0]) ?_
    refine EvX.pos (by omega) ?_
    obtain ⟨v, _, _, _, hv⟩ := pick hb p 4 h0 (by omega)
    refine EvX.bind hv ?_
    obtain ⟨w, _, _, _, hw⟩ := pick hb (p + 1) 21 (by omega) (by omega)
    refine EvX.bind hw (EvX.bind0 rfl (EvX.pos hk0 (EvX.pos (by simp; omega) (EvX.pos (by omega) ?_))))
    refine bk_l1 hb n m hm kind i hlt _ ds hds _ (p + 1 + 1) (by omega) (by omega) ?_ _ 0 [] (p + 1 + 1) rfl (by omega) rfl (by omega) (by omega)
    intro row q hr hq0 hq1
    refine (ih (i + 1) _ (ds ++ [row]) q (by omega) (by omega) (by simp; omega) (by simp; omega) ?_ (by omega) (by omega)).imp ?_
    · intro j hj
      rw [rL2, List.getD_eq_getElem?_getD, List.getElem?_append]
      by_cases hjl : j < ds.length
      · rw [if_pos hjl]
        have := hrows j hjl
        rw [rL2, List.getD_eq_getElem?_getD] at this
        exact this
      · rw [if_neg hjl]
        have : j = ds.length := by simp at hj; omega
        subst this
        simpa using hr
    · intro r hr
      exact ⟨hr.1, hr.2.1, hr.2.2.1, by have := hr.2.2.2.1; omega, by have := hr.2.2.2.2; omega⟩
theorem book {b : List Int} (hb : Bytes b) (n : Int) (hn : 1 ≤ n) (hn2 : n ≤ 1000) (p : Int) (h0 : 0 ≤ p) (h1 : p ≤ 50) : EvX (fun k => spec_l20Book.f k b p n) (fun r => Sm r p 50) := by
  unfold spec_l20Book.f
  obtain ⟨v, hv0, hv1, _, hv⟩ := pick hb p 6 h0 (by omega)
  obtain ⟨w, hw0, hw1, _, hw⟩ := pick hb (p + 1) 3 (by omega) (by omega)
  have hv6 := hv1 (by omega)
  have hw3 := hw1 (by omega)
  refine EvX.bind0 rfl (EvX.bind hv (EvX.pos hv0 (EvX.pos (by simp; omega) (EvX.bind hw ?_))))
  obtain ⟨m, hm1, hm4, hm⟩ : ∃ m : Nat, 1 ≤ m ∧ m ≤ 4 ∧ rd ([1, 2, 3, 3, 4, 4] : List Int) v = (m : Int) := by
    rcases (by omega : v = 0 ∨ v = 1 ∨ v = 2 ∨ v = 3 ∨ v = 4 ∨ v = 5) with h | h | h | h | h | h <;> subst h
    · exact ⟨1, by omega, by omega, rfl⟩
    · exact ⟨2, by omega, by omega, rfl⟩
    · exact ⟨3, by omega, by omega, rfl⟩
    · exact ⟨3, by omega, by omega, rfl⟩
    · exact ⟨4, by omega, by omega, rfl⟩
    · exact ⟨4, by omega, by omega, rfl⟩
  rw [hm]
  refine (bk_l0 hb n hn hn2 m hm1 hm4 w hw0 hw3 m 0 [] [] (p + 1 + 1) (by omega) (by omega) rfl rfl (fun j hj => by simp at hj) (by omega) (by omega)).imp ?_
  intro r hr
  exact ⟨hr.1, hr.2.1, hr.2.2.1, by have := hr.2.2.2.1; omega, by have := hr.2.2.2.2; omega⟩
end Go.Proofs.Ytfooakkhkehpiaa.Db
namespace Go.Proofs.Ytfooakkhkehpiaa.Al
open Go.RowKit Go.Proofs.Ytfooakkhkehpiaa.PU Go.Proofs.Ytfooakkhkehpiaa.Qh Go.Proofs.YtfooakkhkehpiaaW.PrintWords Go.Proofs.YtfooakkhkehpiaaW.PrintMore
set_option linter.unusedVariables false
set_option linter.unusedSimpArgs false
theorem alive : Ev (fun k => laws_alive.f k) true := Ev.of (fun k => laws_alive.mono k) (k := 12) (by decide +kernel)
end Go.Proofs.Ytfooakkhkehpiaa.Al
namespace Go.Proofs.Ytfooakkhkehpiaa.Fnt
open Go.RowKit Go.Proofs.Ytfooakkhkehpiaa.PU Go.Proofs.Ytfooakkhkehpiaa.Qh Go.Proofs.Ytfooakkhkehpiaa.Dr Go.Proofs.Ytfooakkhkehpiaa.Db Go.Proofs.Ytfooakkhkehpiaa.Bk Go.Proofs.Ytfooakkhkehpiaa.Mx Go.Proofs.Ytfooakkhkehpiaa.Nt Go.Proofs.Ytfooakkhkehpiaa.Ow Go.Proofs.YtfooakkhkehpiaaW.PrintWords Go.Proofs.YtfooakkhkehpiaaW.PrintMore
set_option linter.unusedVariables false
set_option linter.unusedSimpArgs false
variable {c : List Int} {d : List (List Int)}
def cs (d : List (List Int)) : Nat → Nat → Int
  | 0, _ => 0
  | i + 1, j => cs d i j + db d i j
theorem cs_bd (h : BookP c d) {j : Nat} (hj : j < c.length) : ∀ i : Nat, i ≤ c.length → 0 ≤ cs d i j ∧ cs d i j ≤ 9 * i
  | 0, _ => by simp [cs]
  | i + 1, hi => by
    have := cs_bd h hj i (by omega)
    have := db_bd h (show i < c.length by omega) hj
    simp only [cs]; omega
def fo (d : List (List Int)) (i k : Nat) (j : Nat) : Int := if j < k then cs d (i + 1) j else cs d i j
theorem od_l1 (h : BookP c d) {i : Nat} (hi : i < c.length) {r : List Int} (hR : Ev (fun n => impl_owed.l0 n (rowF c.length (fo d (i + 1) 0)) d (d.length : Int) ((i + 1 : Nat) : Int)) r) : ∀ (e k : Nat), c.length - k = e → k ≤ c.length →
    Ev (fun n => impl_owed.l1 n (rowF c.length (fo d i k)) d (d.length : Int) (i : Int) (rd_L1 d (i : Int)) ((rd_L1 d (i : Int)).length : Int) (k : Int)) r := by
  have h4 := h.2.1
  have hdl := h.2.2.1
  have hrl := (h.2.2.2 i hi).2.2.1
  have hs : Aside0 (wrap64 ((i : Int) + 1) = ((i + 1 : Nat) : Int)) := ⟨wsucc hi (by omega)⟩
  intro e
  induction e with
  | zero =>
    intro k he hk
    obtain rfl : k = c.length := by omega
    refine Ev.step (fun n => by rw [impl_owed.l1]) ?_
    rw [hs.out]
    refine evNeg (by omega) ?_
    have : rowF c.length (fo d i c.length) = rowF c.length (fo d (i + 1) 0) := rowF_congr (fun j hj => by unfold fo; rw [if_pos hj, if_neg (by omega)])
    rw [this]
    exact hR
  | succ e ih =>
    intro k he hk
    have hlt : k < c.length := by omega
    have hk1 : Aside0 (wrap64 ((k : Int) + 1) = ((k + 1 : Nat) : Int)) := ⟨wsucc hlt (by omega)⟩
    have b1 := cs_bd h hlt i (by omega)
    have b2 := db_bd h hi hlt
    have b3 : rd (rd_L1 d (i : Int)) (k : Int) = db d i k := rfl
    have hfl := rowF_len c.length (fo d i k)
    have hw : wrap64 (rd (rowF c.length (fo d i k)) (k : Int) + rd (rd_L1 d (i : Int)) (k : Int)) = cs d (i + 1) k := by
      rw [rd_rowF hlt]
      have : fo d i k k = cs d i k := by unfold fo; rw [if_neg (by omega)]
      rw [this, b3, w64 (by omega) (by omega)]
      rfl
    refine Ev.step (fun n => by rw [impl_owed.l1]) ?_
    rw [hk1.out, hw, Int.toNat_natCast, rowF_set hlt]
    refine evPos (by omega) (evPos (by omega) (evPos (by omega) (evPos (by omega) ?_)))
    have : rowF c.length (fun j => if j = k then cs d (i + 1) k else fo d i k j) = rowF c.length (fo d i (k + 1)) := rowF_congr (fun j hj => by
      unfold fo
      by_cases z : j = k
      · subst z; rw [if_pos rfl, if_pos (by omega)]
      · rw [if_neg z]
        by_cases y : j < k
        · rw [if_pos y, if_pos (by omega)]
        · rw [if_neg y, if_neg (by omega)])
    rw [this]
    exact ih (k + 1) (by omega) (by omega)
theorem od_l0 (h : BookP c d) : ∀ (e i : Nat), c.length - i = e → i ≤ c.length → Ev (fun n => impl_owed.l0 n (rowF c.length (fo d i 0)) d (d.length : Int) (i : Int)) (rowF c.length (cs d c.length)) := by
  have hdl := h.2.2.1
  intro e
  induction e with
  | zero =>
    intro i he hi
    obtain rfl : i = c.length := by omega
    refine Ev.step (fun n => by rw [impl_owed.l0]) ?_
    exact evNeg (by omega) (evEq (Ev.now _) (rowF_congr (fun j _ => by unfold fo; rw [if_neg (by omega)])))
  | succ e ih =>
    intro i he hi
    refine Ev.step (fun n => by rw [impl_owed.l0]) ?_
    refine evPos (by omega) (evPos (by omega) (evPos (by omega) ?_))
    exact od_l1 h (by omega) (ih (i + 1) (by omega) (by omega)) _ 0 rfl (by omega)
theorem owed (h : BookP c d) : Ev (fun n => impl_owed.f n c d) (rowF c.length (cs d c.length)) := by
  have h4 := h.2.1
  unfold impl_owed.f
  refine evPos (by omega) (evPos (by omega) ?_)
  have : List.replicate c.length (0 : Int) = rowF c.length (fo d 0 0) := by
    apply List.ext_getElem (by simp [rowF])
    intro k h1 h2
    simp [rowF, fo, cs]
  rw [Int.toNat_natCast, this]
  exact od_l0 h _ 0 rfl (by omega)
def nt (c : List Int) (d : List (List Int)) (j : Nat) : Int := cs d c.length j - ow c d j
def fn (c : List Int) (d : List (List Int)) (k j : Nat) : Int := if j < k then nt c d j else cs d c.length j
theorem ne_l (h : BookP c d) : ∀ (e k : Nat), c.length - k = e → k ≤ c.length → Ev (fun n => impl_nets.l0 n (rowF c.length (fn c d k)) (owes c d) ((owes c d).length : Int) (k : Int)) (rowF c.length (nt c d)) := by
  have h4 := h.2.1
  have hol := owes_len c d
  intro e
  induction e with
  | zero =>
    intro k he hk
    obtain rfl : k = c.length := by omega
    refine Ev.step (fun n => by rw [impl_nets.l0]) ?_
    exact evNeg (by omega) (evEq (Ev.now _) (rowF_congr (fun j hj => by unfold fn; rw [if_pos hj])))
  | succ e ih =>
    intro k he hk
    have hlt : k < c.length := by omega
    have hk1 : Aside0 (wrap64 ((k : Int) + 1) = ((k + 1 : Nat) : Int)) := ⟨wsucc hlt (by omega)⟩
    have b1 := cs_bd h hlt c.length (by omega)
    have b2 := ow_bd h hlt
    have hfl := rowF_len c.length (fn c d k)
    have hw : wrap64 (rd (rowF c.length (fn c d k)) (k : Int) - rd (owes c d) (k : Int)) = nt c d k := by
      rw [rd_rowF hlt, rd_owes hlt]
      have : fn c d k k = cs d c.length k := by unfold fn; rw [if_neg (by omega)]
      rw [this, w64 (by omega) (by omega)]
      rfl
    refine Ev.step (fun n => by rw [impl_nets.l0]) ?_
    rw [hk1.out, hw, Int.toNat_natCast, rowF_set hlt]
    refine evPos (by omega) (evPos (by omega) (evPos (by omega) (evPos (by omega) ?_)))
    have : rowF c.length (fun j => if j = k then nt c d k else fn c d k j) = rowF c.length (fn c d (k + 1)) := rowF_congr (fun j hj => by
      unfold fn
      by_cases z : j = k
      · subst z; rw [if_pos rfl, if_pos (by omega)]
      · rw [if_neg z]
        by_cases y : j < k
        · rw [if_pos y, if_pos (by omega)]
        · rw [if_neg y, if_neg (by omega)])
    rw [this]
    exact ih (k + 1) (by omega) (by omega)
theorem nets (h : BookP c d) : Ev (fun n => impl_NetsOf.f n c d) (rowF c.length (nt c d)) := by
  unfold impl_NetsOf.f impl_nets.f
  refine Ev.bind ((isBook c d).yes h) (evPos rfl (Ev.bind (Ev.bind (owed h) (Ev.bind (iowes h) ?_)) (Ev.now _)))
  have : rowF c.length (cs d c.length) = rowF c.length (fn c d 0) := rowF_congr (fun j _ => by unfold fn; rw [if_neg (by omega)])
  rw [this]
  exact ne_l h _ 0 rfl (by omega)
theorem nt_step (h : BookP c d) {j : Nat} (hj : j < c.length) : ∀ m : Nat, m ≤ c.length → cs (netL c d) m j - sm (rd_L1 (netL c d) (j : Int)) m = cs d m j - sm (rd_L1 d (j : Int)) m
  | 0, _ => by simp [cs, sm]
  | m + 1, hm => by
    have ih := nt_step h hj m (by omega)
    have hml : m < c.length := by omega
    have e1 : db (netL c d) m j = db d m j - mn (db d m j) (db d j m) := net_get h hml hj
    have e2 : rd (rd_L1 (netL c d) (j : Int)) (m : Int) = db d j m - mn (db d j m) (db d m j) := net_get h hj hml
    have e3 := mn_comm (db d m j) (db d j m)
    simp only [cs, sm]
    rw [e1, e2]
    show _ = cs d m j + db d m j - (sm (rd_L1 d (j : Int)) m + db d j m)
    omega
theorem nets_net (h : BookP c d) : rowF c.length (nt c (netL c d)) = rowF c.length (nt c d) := rowF_congr (fun j hj => nt_step h hj c.length (Nat.le_refl _))
theorem ow_le (h : BookP c d) {i : Nat} (hi : i < c.length) : ∀ m : Nat, m ≤ c.length → sm (rd_L1 (netL c d) (i : Int)) m ≤ sm (rd_L1 d (i : Int)) m
  | 0, _ => by simp [sm]
  | m + 1, hm => by
    have ih := ow_le h hi m (by omega)
    have hml : m < c.length := by omega
    have e1 : rd (rd_L1 (netL c d) (i : Int)) (m : Int) = N d i m := net_get h hi hml
    have e2 : N d i m ≤ rd (rd_L1 d (i : Int)) (m : Int) := (N_bd h hi hml).2
    simp only [sm]
    omega
theorem so_bd (h : BookP c d) : ∀ m : Nat, m ≤ c.length → 0 ≤ sm (owes c d) m ∧ sm (owes c d) m ≤ 36 * m
  | 0, _ => by simp [sm]
  | m + 1, hm => by
    have ih := so_bd h m (by omega)
    have := ow_bd h (show m < c.length by omega)
    simp only [sm]
    rw [rd_owes (by omega)]
    omega
theorem ad_l (h : BookP c d) : ∀ (e k : Nat), c.length - k = e → k ≤ c.length → Ev (fun n => impl_AllDebts.l0 n (sm (owes c d) k) (owes c d) ((owes c d).length : Int) (k : Int)) (sm (owes c d) c.length) := by
  have h4 := h.2.1
  have hol := owes_len c d
  intro e
  induction e with
  | zero =>
    intro k he hk
    obtain rfl : k = c.length := by omega
    refine Ev.step (fun n => by rw [impl_AllDebts.l0]) ?_
    exact evNeg (by omega) (Ev.now _)
  | succ e ih =>
    intro k he hk
    have hlt : k < c.length := by omega
    have hk1 : Aside0 (wrap64 ((k : Int) + 1) = ((k + 1 : Nat) : Int)) := ⟨wsucc hlt (by omega)⟩
    have b1 := so_bd h k (by omega)
    have b2 := so_bd h (k + 1) (by omega)
    have hw : wrap64 (sm (owes c d) k + rd (owes c d) (k : Int)) = sm (owes c d) (k + 1) := by
      have : sm (owes c d) k + rd (owes c d) (k : Int) = sm (owes c d) (k + 1) := rfl
      rw [this, w64 (by omega) (by omega)]
    refine Ev.step (fun n => by rw [impl_AllDebts.l0]) ?_
    rw [hk1.out, hw]
    exact evPos (by omega) (evPos (by omega) (evPos (by omega) (ih (k + 1) (by omega) (by omega))))
theorem allDebts (h : BookP c d) : Ev (fun n => impl_AllDebts.f n c d) (sm (owes c d) c.length) := by
  unfold impl_AllDebts.f
  exact Ev.bind ((isBook c d).yes h) (evPos rfl (Ev.bind (iowes h) (ad_l h _ 0 rfl (by omega))))
theorem all_le (h : BookP c d) : ∀ m : Nat, m ≤ c.length → sm (owes c (netL c d)) m ≤ sm (owes c d) m
  | 0, _ => by simp [sm]
  | m + 1, hm => by
    have ih := all_le h m (by omega)
    have hml : m < c.length := by omega
    simp only [sm]
    rw [rd_owes hml, rd_owes hml]
    have := ow_le h hml c.length (Nat.le_refl _)
    unfold ow
    omega
theorem net_net (h : BookP c d) : netL c (netL c d) = netL c d := mk_congr (fun i hi j hj => by
  have b1 := N_bd h hi hj
  have b2 := N_bd h hj hi
  have o := N_one h hi hj
  have m1 := mn_le (N d i j) (N d j i)
  show db (netL c d) i j - mn (db (netL c d) i j) (db (netL c d) j i) = N d i j
  rw [net_get h hi hj, net_get h hj hi]
  have : mn (N d i j) (N d j i) = 0 := by omega
  omega)
theorem fin (h : BookP c d) : Ev (fun k => (impl_BookOk.f k c (netL c d)).bind fun t537 => (if t537 = true then ((impl_NetsOf.f k c (netL c d)).bind fun t538 => ((impl_NetsOf.f k c d).bind fun t541 => ((laws_sameInts.f k t538 t541).bind fun t544 => (if t544 = true then ((impl_Netted.f k c (netL c d)).bind fun bt545 => ((laws_sameBook.f k bt545.1 bt545.2 c (netL c d)).bind fun t551 => (if t551 = true then ((impl_AllDebts.f k c (netL c d)).bind fun t552 => ((impl_AllDebts.f k c d).bind fun t553 => (if t552 ≤ t553 then ((laws_sameInts.f k c c).bind fun t554 => (some t554)) else (some false)))) else (some false)))) else (some false))))) else (some false))) true := by
  have h4 := h.2.1
  have hn := net_ok h
  have hbo : Ev (fun k => impl_BookOk.f k c (netL c d)) true := by
    unfold impl_BookOk.f
    exact Ev.bind ((isBook c (netL c d)).yes hn) (Ev.now _)
  have hne := nets hn
  rw [nets_net h] at hne
  have hin := iNetted c (netL c d)
  rw [if_pos hn, net_net h] at hin
  refine Ev.bind hbo (evPos rfl (Ev.bind hne (Ev.bind (nets h) (Ev.bind (sameI _ (by rw [rowF_len]; omega)) (evPos rfl ?_)))))
  refine Ev.bind hin (Ev.bind (sameOk hn) (evPos rfl (Ev.bind (allDebts hn) (Ev.bind (allDebts h) (evPos (all_le h _ (Nat.le_refl _)) ?_)))))
  exact Ev.bind (sameI c (by omega)) (Ev.now _)
theorem lw_l1 (h : BookP c d) {i : Nat} (hi : i < c.length) (hR : Ev (fun k => laws_FnNetted.l0 k ((i + 1 : Nat) : Int) c d c (netL c d)) true) : ∀ (e j : Nat), i - j = e → j ≤ i → Ev (fun k => laws_FnNetted.l1 k (i : Int) (j : Int) c d c (netL c d)) true := by
  have h4 := h.2.1
  have hnl := net_len c d
  have hn := net_ok h
  have hri := (hn.2.2.2 i hi).2.2.1
  have hs : Aside0 (wrap64 ((i : Int) + 1) = ((i + 1 : Nat) : Int)) := ⟨wsucc hi (by omega)⟩
  intro e
  induction e with
  | zero =>
    intro j he hj
    refine Ev.step (fun k => by rw [laws_FnNetted.l1]) ?_
    refine evNeg (by omega) (Ev.step (fun k => by rw [laws_FnNetted.j2]) ?_)
    rw [hs.out]
    exact evNeg (by decide) hR
  | succ e ih =>
    intro j he hj
    have hlt : j < i := by omega
    have hj1 : Aside0 (wrap64 ((j : Int) + 1) = ((j + 1 : Nat) : Int)) := ⟨wsucc hlt (by omega)⟩
    have hrj := (hn.2.2.2 j (by omega)).2.2.1
    have one : rd (rd_L1 (netL c d) (i : Int)) (j : Int) = 0 ∨ rd (rd_L1 (netL c d) (j : Int)) (i : Int) = 0 := by
      have e1 : rd (rd_L1 (netL c d) (i : Int)) (j : Int) = N d i j := net_get h hi (by omega)
      have e2 : rd (rd_L1 (netL c d) (j : Int)) (i : Int) = N d j i := net_get h (by omega) hi
      rw [e1, e2]
      exact N_one h hi (by omega)
    have next := ih (j + 1) (by omega) (by omega)
    refine Ev.step (fun k => by rw [laws_FnNetted.l1]) ?_
    refine evPos (by omega) (evPos (by omega) (evPos (by omega) (Ev.step (fun k => by rw [laws_FnNetted.j2]) ?_)))
    rw [hj1.out]
    refine evPos (decide_eq_true (by omega)) (evPos (by omega) (evPos (by omega) (evPos (by omega) (evPos (by omega) ?_))))
    by_cases p : rd (rd_L1 (netL c d) (i : Int)) (j : Int) > 0
    · exact evPos p (evPos (by omega) (evPos (by omega) (evNeg (by omega) next)))
    · exact evNeg p next
theorem lw_l0 (h : BookP c d) : ∀ (e i : Nat), c.length - i = e → i ≤ c.length → Ev (fun k => laws_FnNetted.l0 k (i : Int) c d c (netL c d)) true := by
  have hnl := net_len c d
  intro e
  induction e with
  | zero =>
    intro i he hi
    refine Ev.step (fun k => by rw [laws_FnNetted.l0]) ?_
    exact evNeg (by omega) (fin h)
  | succ e ih =>
    intro i he hi
    refine Ev.step (fun k => by rw [laws_FnNetted.l0]) ?_
    exact evPos (by omega) (lw_l1 h (by omega) (ih (i + 1) (by omega) (by omega)) i 0 rfl (by omega))
theorem holds : laws_FnNetted.Pure := by
  intro l0 _ _ hu
  refine Ev.rounds (g := fun k => laws_FnNetted.f k l0) ?_
  unfold laws_FnNetted.f
  by_cases a : (l0.length : Int) > 1048576
  · exact evPos a (Ev.now _)
  refine evNeg a ?_
  obtain ⟨b, hb, ho⟩ := Dr.open_ l0 hu
  obtain ⟨⟨c, d, q⟩, hr, hbk⟩ := book hb 9 (by omega) (by omega) 0 (by omega) (by omega)
  have hd : Ev (fun k => spec_DrawNetted.f k l0) (c, d) := by
    unfold spec_DrawNetted.f
    exact evBind0 ho (Ev.bind hbk (Ev.now _))
  refine Ev.bind hd (Ev.bind (iNetted c d) (Ev.bind (sNetted c d) ?_))
  by_cases h : BookP c d
  · simp only [if_pos h]
    refine Ev.bind (sameOk (net_ok h)) (evPos rfl (Ev.bind ((bookOk c d).yes h) (evPos rfl ?_)))
    exact lw_l0 h _ 0 rfl (by omega)
  · simp only [if_neg h]
    have hs : Ev (fun k => laws_sameBook.f k ([] : List Int) ([] : List (List Int)) [] []) true := sameB [] [] (by simp) (by simp) (fun i hi => by simp at hi)
    have hno : Ev (fun k => laws_noBook.f k ([] : List Int) ([] : List (List Int))) true := by
      unfold laws_noBook.f
      exact Ev.bind hs (Ev.now _)
    refine Ev.bind hs (evPos rfl (Ev.bind ((bookOk c d).no h) (evNeg (by decide) ?_)))
    exact Ev.bind hno (evPos rfl (Ev.bind Al.alive (Ev.now _)))
end Go.Proofs.Ytfooakkhkehpiaa.Fnt
namespace Go.Proofs.Ytfooakkhkehpiaa.Pure
open Go.RowKit Go.Proofs.Ytfooakkhkehpiaa.PU
theorem FnNetted : laws_FnNetted.Pure := Go.Proofs.Ytfooakkhkehpiaa.Fnt.holds
end Go.Proofs.Ytfooakkhkehpiaa.Pure
namespace Go.Proofs.YtfooakkhkehpiaaW.PrintWords
open Go.ChangeShapes Go.WideShapes
theorem sized_ints {H : Type} {enc : TypeId × Value → H} {P : Program} {W : World} {base : Nat} {spare : Nat → Bool} {held : Bool} {t e : TypeId} {k : IntKind} {a : Option Addr} {len cap : Nat} {d : DataW H} {ps : List MemPlace} {ts : List TypeId} {ds : List (DataW H)} {j : Nat}
    (hsz : (DataW.weightsEach P ts ds).all (· ≤ reachBytes) = true) (ht : ts[j]? = some t) (hd : ds[j]? = some d) (hu : P.underlying t = some (.slice e)) (he : P.underlying e = some (.int k)) (hc : P.cellsOf e = 1) {B : Nat} (hB : P.bytesOf e = B)
    (h : DataW.Trod enc P W base spare held t (.slice a len cap) d ps) : len * B ≤ 140737488351232 := by
  obtain ⟨fuel, hf⟩ := h
  rcases open_ints hu he hc hf with ⟨hcs, _⟩ | ⟨x, l, c, zs, hcs, _, hl, _, hz, hx, _, _⟩
  · simp [Value.cells] at hcs
    obtain ⟨rfl, rfl, rfl⟩ := hcs
    simp
  · simp [Value.cells] at hcs
    obtain ⟨rfl, rfl, rfl⟩ := hcs
    obtain ⟨hx, _⟩ := Prod.mk.inj hx
    subst hx
    have z := sized_slice hsz ht hd hu
    rw [hB] at z
    have hl2 : len ≤ zs.length := by
      rw [hz]
      split
      · exact hl
      · exact Nat.le_refl _
    have h1 : (lits (H := H) k (zs.take len)).length + (lits (H := H) k (zs.drop len)).length = zs.length := by
      simp [lits]
      omega
    rw [h1] at z
    exact Nat.le_trans (Nat.mul_le_mul_right _ hl2) z
end Go.Proofs.YtfooakkhkehpiaaW.PrintWords
namespace Go.Proofs.Ytfooakkhkehpiaa.fnNetted
open Go.ChangeShapes Go.WideShapes Go.ChangeAt Go.RowKit
open Go.ChangeMaps (open_string shut_string)
set_option linter.unusedVariables false
theorem own : ownKnob Try.prog.godebug = none := by kernel_rfl
theorem laidOut : laidOutB Try.prog = true := by kernel_rfl
def IsRow (k : IntKind) (w : World) (a : Option Addr) (len cap : Nat) (zs : List Int) : Prop :=
  (a = none ∧ len = 0 ∧ cap = 0 ∧ zs = []) ∨
  ∃ x, a = some x ∧ len ≤ cap ∧ cap ≤ maxLen ∧ zs.length = cap ∧ (∀ i, i < zs.length → w.cell? (x.add i) = some (.int k (zs.getD i 0))) ∧ ∀ n ∈ zs, (Lit.int k n).wf = true
set_option maxRecDepth 100000 in
theorem lifted (os : Os) (started : os.Started) (H : Type) (enc : TypeId × Value → H) :
    ReturnsInHanded {} Try.checked os 8 .any (Rows.fnNettedSpec.pre6 enc Try.prog Try.f8 Rows.fnNettedRow.domain false) (Rows.fnNettedSpec.post enc Try.prog Try.f8 false true false false) := by
  refine returnsInHanded_of_change_sized (C := Try.checked) own started (by kernel_rfl) Try.func8
    (ChangeSpec.witness6 (enc := enc) (C := Try.checked) false ⟨#[], #[.slice none 0 0], []⟩ 8 (by kernel_rfl) (by kernel_rfl) (by kernel_rfl) (by kernel_rfl)) ?_
  intro W base args ds gs before hval0 hW hcnd hsz0 _
  have hsz : (DataW.weightsEach Try.prog (Try.f8.params.toList ++ Rows.fnNettedSpec.plain.varTypes Try.prog) (ds ++ gs)).all (· ≤ reachBytes) = true := hsz0
  have hval : ∀ (j : Nat) t v, Try.f8.params[j]? = some t → args[j]? = some v → Value.okWide Try.prog W .any base t v := hval0
  have hW' := hW
  obtain ⟨p, q, hA0, hV, rfl, hfz, hnd⟩ := hW
  have hA : DataW.TrodAll enc Try.prog W 0 (fun _ => true) true Try.f8.params.toList args.toList ds p := hA0
  rw [Try.params8] at hA hval hsz
  obtain ⟨v0, vs0, d0, ds0, p0, q0, hargs, rfl, rfl, h0, r0⟩ := trodAll_cons hA
  obtain ⟨rfl, rfl, rfl⟩ := trodAll_nil r0
  obtain rfl : args = #[v0] := by cases args; simp_all
  obtain ⟨rfl, rfl⟩ := trodVars_none hV
  obtain ⟨a0, len0, cap0, rfl⟩ := okWide_slice Try.underlying33 (hval 0 33 v0 rfl rfl)
  have k0 := h0
  have lt0 : ∀ x ∈ p0, x.block < W.heap.size := by obtain ⟨m, hm⟩ := k0; exact DataW.trod_lt m _ _ _ hm
  obtain ⟨z0, w0⟩ : ∃ zs, IsRow .u8 W a0 len0 cap0 zs := by
    obtain ⟨fuel, hf⟩ := h0
    rcases open_ints Try.underlying33 Try.underlying5 (by kernel_rfl) hf with ⟨hcs, _⟩ | ⟨x, l, c, zs, hcs, _, hl, hm, hz, _, hcell, hwz⟩
    · simp [Value.cells] at hcs
      obtain ⟨rfl, rfl, rfl⟩ := hcs
      exact ⟨[], .inl ⟨rfl, rfl, rfl, rfl⟩⟩
    · simp [Value.cells] at hcs
      obtain ⟨rfl, rfl, rfl⟩ := hcs
      exact ⟨zs, .inr ⟨_, rfl, hl, hm, by simpa using hz, hcell, hwz⟩⟩
  have y0 : len0 * 1 ≤ 140737488351232 := Go.Proofs.YtfooakkhkehpiaaW.PrintWords.sized_ints hsz (j := 0) (t := 33) rfl rfl Try.underlying33 Try.underlying5 (by kernel_rfl) (by kernel_rfl) h0
  clear hA0 hval0 hsz0 hsz
  refine (PU.laws_FnNetted.walk Pure.FnNetted a0 len0 cap0 z0 W w0 y0).mono fun e W' ⟨he, bel⟩ => ?_
  subst he
  exact ⟨_, rfl, _, _, _, [], _, [], hW', trodAll_mk1 (shut_bool Try.underlying4 _), (trodAll_cons_mk (Below.trod laidOut (by kernel_rfl) (of_decide_eq_true (by kernel_rfl)) k0 bel lt0) trodAll_mk0), rfl, bel.frame _, fun h => by cases h⟩
theorem over : Rows.fnNettedRow.holds Try.pinned (OpenSpec.ofChange Rows.fnNettedSpec) :=
  OpenClaim.holds_of_wide 8 Try.f8 rfl rfl rfl rfl rfl rfl rfl ⟨rfl, rfl, rfl, rfl, rfl⟩ rfl rfl rfl rfl rfl (by kernel_rfl) Try.func8 (by kernel_rfl)
    (of_decide_eq_true (by kernel_rfl)) (by unfold Func.isWrapper; first | (rw [if_pos (by decide +kernel)]; kernel_rfl) | (rw [if_neg (by decide +kernel)]; exact ⟨rfl, rfl⟩))
    (fun os started H enc _ => lifted os started H enc)
theorem proved : Rows.FnNettedSaid := over
end Go.Proofs.Ytfooakkhkehpiaa.fnNetted
namespace Go.Proofs.Ytfooakkhkehpiaa
theorem fnNetted_holds : Rows.FnNettedSaid := fnNetted.proved
end Go.Proofs.Ytfooakkhkehpiaa
