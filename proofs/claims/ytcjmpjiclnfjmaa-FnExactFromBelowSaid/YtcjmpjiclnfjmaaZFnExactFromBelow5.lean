/- FnExactFromBelow: for every input the law holds, and each argument reads as it read before. No condition. -/
import Derived.Test.YtcjmpjiclnfjmaaZFnExactFromBelow1
import Derived.Test.YtcjmpjiclnfjmaaZFnExactFromBelow2
import Derived.Test.YtcjmpjiclnfjmaaZFnExactFromBelow3
import Derived.Test.YtcjmpjiclnfjmaaZFnExactFromBelow4
import Derived.Below
import Derived.Deep.Draws
import Derived.Deep.AppendLies
import Derived.Maps.AppendAt
import Derived.OwnWalk
import Derived.Laws.BytesArg
import Derived.Laws.MakeOwn
import Derived.Laws.OwnMore
import Derived.Deep.OwnRows
import Derived.Tactics
import Derived.Lib.ConvBytes
import Derived.Laws.Slices
import Derived.WalkKit
import Derived.KernelRfl
import Derived.RowKit3
import Derived.Deep.LoopGhost
import Derived.Deep.QuietTactic
import Derived.BigQuiet
import Derived.WideLaws
import Derived.Deep.DeepCutAuto
import Derived.Deep.CutBlock
import Derived.Deep.RegionHeld3
import Derived.Laws.Rows
import Derived.Lib.AppendStr
import Derived.ArgAppend
import Derived.Laws.IdiomCopy
import Derived.RowKit
import Derived.OrdersHeld
import Derived.Laws.BitsLemmas
import Derived.Laws.StructEq
import Derived.Test.YtcjmpjiclnfjmaaProg
import Derived.Deep.Slices
import Derived.ChangeArms
import Derived.DataReads
import Derived.Test.YtcjmpjiclnfjmaaRows
import Derived.ProofKit
import Derived.OpenShut
import Derived.ShutString
import Derived.ChangeOld
import Derived.SizedLaws
namespace Go.Proofs.Ytcjmpjiclnfjmaa.PU
open Go.RowKit Go.Proofs.YtcjmpjiclnfjmaaW.PrintWords Go.Proofs.YtcjmpjiclnfjmaaW.PrintLast Go.Proofs.YtcjmpjiclnfjmaaW.PrintMore Go.Proofs.Ytcjmpjiclnfjmaa.Qd
attribute [local go_sem] max2_int min2_int max_two min_two max_three min_three max_four min_four
set_option linter.unusedVariables false
set_option linter.unusedSimpArgs false
mutual
def laws_FnExactFromBelow.j0 : Nat → Int → List (S36) → Bool → List (S36) → Bool → Bool → List Int → List (List Int) → List Int → List (List Int) → Option (Bool)
 | 0, _, _, _, _, _, _, _, _, _, _ => none
 | k + 1, x1, x6, x7, x9, x10, x44, x504000, x504001, x522000, x522001 => if x44 = true then (some false) else ((laws_toBook.f k x504000 x504001).bind fun bt527 => ((laws_eqBook.f k x522000 x522001 bt527.1 bt527.2).bind fun t533 => (if t533 = true then ((laws_markBook.f k x522000 x522001 1).bind fun t534 => (if t534 < 0 then (laws_FnExactFromBelow.j1 k x1 x6 x7 x9 true x504000 x504001) else ((laws_eqFracS.f k x9 x6).bind fun t535 => (if t535 = true then (laws_FnExactFromBelow.j1 k x1 x6 x7 x9 (x10 != x7) x504000 x504001) else (laws_FnExactFromBelow.j1 k x1 x6 x7 x9 true x504000 x504001))))) else (some false))))
def laws_FnExactFromBelow.j1 : Nat → Int → List (S36) → Bool → List (S36) → Bool → List Int → List (List Int) → Option (Bool)
 | 0, _, _, _, _, _, _, _ => none
 | k + 1, x1, x6, x7, x9, x65, x504000, x504001 => if x65 = true then (some false) else ((laws_markFracS.f k x9 1).bind fun bt536 => ((laws_heldFracS.f k bt536.2 1).bind fun t538 => (if t538 < 0 then (some false) else (if t538 = bt536.1 then ((laws_toBook.f k x504000 x504001).bind fun bt539 => ((impl_FromBelow.f k bt539.1 bt539.2 x1).bind fun bt545 => ((laws_eqFracS.f k bt545.1 x6).bind fun t549 => (if t549 = true then (laws_FnExactFromBelow.j2 k bt536.2 bt536.1 (bt545.2 != x7)) else (laws_FnExactFromBelow.j2 k bt536.2 bt536.1 true))))) else (some false)))))
def laws_FnExactFromBelow.j2 : Nat → List (S36) → Int → Bool → Option (Bool)
 | 0, _, _, _ => none
 | k + 1, x9, x12, x92 => if x92 = true then (some false) else ((laws_heldFracS.f k x9 1).bind fun t550 => (if t550 < 0 then (some false) else (if t550 = x12 then (some true) else (some false))))
end
def laws_FnExactFromBelow.f (k : Nat) (l0_0 : List Int) (l0_1 : List (List Int)) (a1 : Int) : Option (Bool) := (laws_szBook.f k l0_0 l0_1 1048576).bind fun t504 => (if t504 < 0 then (some true) else ((laws_toBook.f k l0_0 l0_1).bind fun bt505 => ((spec_FromBelow.f k bt505.1 bt505.2 a1).bind fun bt511 => ((laws_toBook.f k l0_0 l0_1).bind fun bt515 => ((impl_FromBelow.f k bt515.1 bt515.2 a1).bind fun bt522 => ((laws_eqFracS.f k bt522.1 bt511.1).bind fun t526 => (if t526 = true then (laws_FnExactFromBelow.j0 k a1 bt511.1 bt511.2 bt522.1 bt522.2 (bt522.2 != bt511.2) l0_0 l0_1 bt515.1 bt515.2) else (laws_FnExactFromBelow.j0 k a1 bt511.1 bt511.2 bt522.1 bt522.2 true l0_0 l0_1 bt515.1 bt515.2))))))))
theorem laws_FnExactFromBelow.mq {p : Prop} (h : p := by
 repeat' first
 | (with_reducible exact ih0 _ _ _ _ _ _ _ _ _ _)
 | (with_reducible exact ih1 _ _ _ _ _ _ _)
 | (with_reducible exact ih2 _ _ _)
 | (with_reducible exact impl_FromBelow.mono _ _ _ _)
 | (with_reducible exact laws_eqBook.mono _ _ _ _ _)
 | (with_reducible exact laws_eqFracS.mono _ _ _)
 | (with_reducible exact laws_heldFracS.mono _ _ _)
 | (with_reducible exact laws_markBook.mono _ _ _ _)
 | (with_reducible exact laws_markFracS.mono _ _ _)
 | (with_reducible exact laws_szBook.mono _ _ _ _)
 | (with_reducible exact laws_toBook.mono _ _ _)
 | (with_reducible exact spec_FromBelow.mono _ _ _ _)
 | (with_reducible exact LeO.refl _)
 | (with_reducible exact LeO.none _)
 | (with_reducible refine LeO.ite ?_ ?_)
 | (with_reducible refine LeO.bind ?_ (fun _ => ?_))
 | exact ih0 _ _ _ _ _ _ _ _ _ _
 | exact ih1 _ _ _ _ _ _ _
 | exact ih2 _ _ _
 | exact impl_FromBelow.mono _ _ _ _
 | exact laws_eqBook.mono _ _ _ _ _
 | exact laws_eqFracS.mono _ _ _
 | exact laws_heldFracS.mono _ _ _
 | exact laws_markBook.mono _ _ _ _
 | exact laws_markFracS.mono _ _ _
 | exact laws_szBook.mono _ _ _ _
 | exact laws_toBook.mono _ _ _
 | exact spec_FromBelow.mono _ _ _ _
 | exact LeO.none _
 | refine LeO.ite ?_ ?_
 | refine LeO.bind ?_ (fun _ => ?_)) : p := h
theorem laws_FnExactFromBelow.mono_l : ∀ k, (∀ y0 y1 y2 y3 y4 y5 y6 y7 y8 y9, LeO (laws_FnExactFromBelow.j0 k y0 y1 y2 y3 y4 y5 y6 y7 y8 y9) (laws_FnExactFromBelow.j0 (k + 1) y0 y1 y2 y3 y4 y5 y6 y7 y8 y9)) ∧ (∀ y0 y1 y2 y3 y4 y5 y6, LeO (laws_FnExactFromBelow.j1 k y0 y1 y2 y3 y4 y5 y6) (laws_FnExactFromBelow.j1 (k + 1) y0 y1 y2 y3 y4 y5 y6)) ∧ (∀ y0 y1 y2, LeO (laws_FnExactFromBelow.j2 k y0 y1 y2) (laws_FnExactFromBelow.j2 (k + 1) y0 y1 y2))
 | 0 => ⟨fun _ _ _ _ _ _ _ _ _ _ r h => by simp [laws_FnExactFromBelow.j0] at h, fun _ _ _ _ _ _ _ r h => by simp [laws_FnExactFromBelow.j1] at h, fun _ _ _ r h => by simp [laws_FnExactFromBelow.j2] at h⟩
 | k + 1 => by
  obtain ⟨ih0, ih1, ih2⟩ := laws_FnExactFromBelow.mono_l k
  refine ⟨?_, ?_, ?_⟩
  ·intro y0 y1 y2 y3 y4 y5 y6 y7 y8 y9
   unfold laws_FnExactFromBelow.j0
   exact laws_FnExactFromBelow.mq
  ·intro y0 y1 y2 y3 y4 y5 y6
   unfold laws_FnExactFromBelow.j1
   exact laws_FnExactFromBelow.mq
  ·intro y0 y1 y2
   unfold laws_FnExactFromBelow.j2
   exact laws_FnExactFromBelow.mq
theorem laws_FnExactFromBelow.mono : ∀ a0 a1 a2 k, LeO (laws_FnExactFromBelow.f k a0 a1 a2) (laws_FnExactFromBelow.f (k + 1) a0 a1 a2) := by
 intro a0 a1 a2 k
 obtain ⟨ih0, ih1, ih2⟩ := laws_FnExactFromBelow.mono_l k
 unfold laws_FnExactFromBelow.f
 exact laws_FnExactFromBelow.mq
theorem laws_FnExactFromBelow.calls_q0 {p : Prop} (h : p := by repeat (first | (with_reducible first | exact HB.out | apply below_alloc | apply pw_below_drewN | apply below_drew1 | refine below_set ?_ GE503.out | refine below_set ?_ GE521.out) | exact HB.out)) : p := h
set_option maxHeartbeats 8000000 in
set_option maxRecDepth 100000 in
theorem laws_FnExactFromBelow.calls (k : Nat) (A0_0 : Option Addr) (c0_0 : Nat) (l0_0 : List Int) (A0_1 : Option Addr) (c0_1 : Nat) (l0_1 : List (List Int)) (a1 : Int) (r : Bool) (w : World) (hr0_0 : Kd.C (Kd.int .i64) w A0_0 l0_0.length l0_0) (hc0_0 : l0_0.length ≤ c0_0) (hr0_1 : Kd.C (Kd.slice 3 (Kd.int .i64)) w A0_1 l0_1.length l0_1) (hc0_1 : l0_1.length ≤ c0_1) (h : laws_FnExactFromBelow.f k l0_0 l0_1 a1 = some r) :
  Calls Try.prog 10 #[.agg #[.slice A0_0 l0_0.length c0_0, .slice A0_1 l0_1.length c0_1], .int .i64 a1] w fun e w' => e = .returned (.bool r) ∧ Below w.heap.size w w' := by
 have hu39 := Try.underlying39
 have hu26 := Try.underlying26
 have HR0_0 := Aside0.mk hr0_0
 have HC0_0 := Aside0.mk hc0_0
 clear hr0_0 hc0_0
 have HR0_1 := Aside0.mk hr0_1
 have HC0_1 := Aside0.mk hc0_1
 clear hr0_1 hc0_1
 have HB := Aside0.mk (Below.refl w.heap.size w)
 have H : ((laws_szBook.f k l0_0 l0_1 1048576).bind fun t504 => (if t504 < 0 then (some true) else ((laws_toBook.f k l0_0 l0_1).bind fun bt505 => ((spec_FromBelow.f k bt505.1 bt505.2 a1).bind fun bt511 => ((laws_toBook.f k l0_0 l0_1).bind fun bt515 => ((impl_FromBelow.f k bt515.1 bt515.2 a1).bind fun bt522 => ((laws_eqFracS.f k bt522.1 bt511.1).bind fun t526 => (if t526 = true then (laws_FnExactFromBelow.j0 k a1 bt511.1 bt511.2 bt522.1 bt522.2 (bt522.2 != bt511.2) l0_0 l0_1 bt515.1 bt515.2) else (laws_FnExactFromBelow.j0 k a1 bt511.1 bt511.2 bt522.1 bt522.2 true l0_0 l0_1 bt515.1 bt515.2))))))))) = some r := h
 clear h
 obtain ⟨t504, A3, H⟩ := bind_ H
 by_cases c4 : t504 < 0
 ·rw [if_pos c4] at H
  have c4b0 := decide_eq_true c4
  clear c4
  obtain rfl := Option.some.inj H
  go_enter Try.func10, Try.ntmps10
  go_wp2_with (first | ((with_reducible refine gate_dst (N := 2) rfl ?_); refine bx_ (N := 2) #[.slice A0_0 l0_0.length c0_0, .slice A0_1 l0_1.length c0_1] 39 ?_; intro gb503 hg w5 hbox hb; have BK503 := Aside0.mk (hbox); have GW503 := Aside0.mk ((g55_ : w.heap.size ≤ gb503)); have GE503 := Aside0.mk ((g55_ : w.heap.size ≤ gb503)); replace HB := Aside0.mk (below_step (laws_FnExactFromBelow.calls_q0) hb); clear hb hbox hg; obtain ⟨hcz6_0, hcz6_1, hfz6_0, hfz6_1⟩ := blk2_ BK503) | ((with_reducible refine gate_callee (f := 19) rfl ?_); refine goesL_ (some 18) rfl rfl Try.func19 k_ rfl #[.agg #[.slice A0_0 l0_0.length c0_0, .slice A0_1 l0_1.length c0_1], .int .i64 1048576] rfl (g2_) ?_; (with_reducible refine (laws_szBook.calls k _ _ l0_0 _ _ l0_1 1048576 t504 _ ?side1 ?side2 ?side3 ?side4 A3.out).mono ?_); (case side1 => exact uf0_ HR0_0); (case side2 => exact HC0_0.out); (case side3 => exact uf0_ HR0_1); (case side4 => exact HC0_1.out); rintro e w7 ⟨rfl, hb⟩; refine ⟨_, rfl, ?_⟩; replace BK503 := bb_ BK503 hb; replace HB := Aside0.mk (below_step (laws_FnExactFromBelow.calls_q0) hb); (try clear hb); (try clear hk hi)))
  go_ret
  exact ⟨g4_, laws_FnExactFromBelow.calls_q0⟩
 ·rw [if_neg c4] at H
  have c4b0 := decide_eq_false c4
  clear c4
  replace H := Option.bind_eq_some_iff.mp H
  obtain ⟨⟨t505, t508⟩, A80, H⟩ := H
  replace H : ((spec_FromBelow.f k t505 t508 a1).bind fun bt511 => ((laws_toBook.f k l0_0 l0_1).bind fun bt515 => ((impl_FromBelow.f k bt515.1 bt515.2 a1).bind fun bt522 => ((laws_eqFracS.f k bt522.1 bt511.1).bind fun t526 => (if t526 = true then (laws_FnExactFromBelow.j0 k a1 bt511.1 bt511.2 bt522.1 bt522.2 (bt522.2 != bt511.2) l0_0 l0_1 bt515.1 bt515.2) else (laws_FnExactFromBelow.j0 k a1 bt511.1 bt511.2 bt522.1 bt522.2 true l0_0 l0_1 bt515.1 bt515.2)))))) = some r := H
  have A8 := Aside0.mk A80
  clear A80
  replace H := Option.bind_eq_some_iff.mp H
  obtain ⟨⟨t511, t514⟩, A90, H⟩ := H
  replace H : ((laws_toBook.f k l0_0 l0_1).bind fun bt515 => ((impl_FromBelow.f k bt515.1 bt515.2 a1).bind fun bt522 => ((laws_eqFracS.f k bt522.1 t511).bind fun t526 => (if t526 = true then (laws_FnExactFromBelow.j0 k a1 t511 t514 bt522.1 bt522.2 (bt522.2 != t514) l0_0 l0_1 bt515.1 bt515.2) else (laws_FnExactFromBelow.j0 k a1 t511 t514 bt522.1 bt522.2 true l0_0 l0_1 bt515.1 bt515.2))))) = some r := H
  have A9 := Aside0.mk A90
  clear A90
  replace H := Option.bind_eq_some_iff.mp H
  obtain ⟨⟨t515, t518⟩, A100, H⟩ := H
  replace H : ((impl_FromBelow.f k t515 t518 a1).bind fun bt522 => ((laws_eqFracS.f k bt522.1 t511).bind fun t526 => (if t526 = true then (laws_FnExactFromBelow.j0 k a1 t511 t514 bt522.1 bt522.2 (bt522.2 != t514) l0_0 l0_1 t515 t518) else (laws_FnExactFromBelow.j0 k a1 t511 t514 bt522.1 bt522.2 true l0_0 l0_1 t515 t518)))) = some r := H
  have A10 := Aside0.mk A100
  clear A100
  replace H := Option.bind_eq_some_iff.mp H
  obtain ⟨⟨t522, t525⟩, A110, H⟩ := H
  replace H : ((laws_eqFracS.f k t522 t511).bind fun t526 => (if t526 = true then (laws_FnExactFromBelow.j0 k a1 t511 t514 t522 t525 (t525 != t514) l0_0 l0_1 t515 t518) else (laws_FnExactFromBelow.j0 k a1 t511 t514 t522 t525 true l0_0 l0_1 t515 t518))) = some r := H
  have A11 := Aside0.mk A110
  clear A110
  have HC12 := Aside0.mk H
  clear H
  go_enter Try.func10, Try.ntmps10
  go_upto_region 8 with (first | ((with_reducible refine gate_dst (N := 2) rfl ?_); refine bx_ (N := 2) #[.slice A0_0 l0_0.length c0_0, .slice A0_1 l0_1.length c0_1] 39 ?_; intro gb503 hg w13 hbox hb; have BK503 := Aside0.mk (hbox); have GW503 := Aside0.mk ((g55_ : w.heap.size ≤ gb503)); have GE503 := Aside0.mk ((g55_ : w.heap.size ≤ gb503)); replace HB := Aside0.mk (below_step (laws_FnExactFromBelow.calls_q0) hb); clear hb hbox hg; obtain ⟨hcz14_0, hcz14_1, hfz14_0, hfz14_1⟩ := blk2_ BK503) | ((with_reducible refine gate_callee (f := 19) rfl ?_); refine goesL_ (some 18) rfl rfl Try.func19 k_ rfl #[.agg #[.slice A0_0 l0_0.length c0_0, .slice A0_1 l0_1.length c0_1], .int .i64 1048576] rfl (g2_) ?_; (with_reducible refine (laws_szBook.calls k _ _ l0_0 _ _ l0_1 1048576 t504 _ ?side1 ?side2 ?side3 ?side4 A3.out).mono ?_); (case side1 => exact uf0_ HR0_0); (case side2 => exact HC0_0.out); (case side3 => exact uf0_ HR0_1); (case side4 => exact HC0_1.out); rintro e w15 ⟨rfl, hb⟩; refine ⟨_, rfl, ?_⟩; replace BK503 := bb_ BK503 hb; replace HB := Aside0.mk (below_step (laws_FnExactFromBelow.calls_q0) hb); (try clear hb); (try clear hk hi); obtain ⟨hcz16_0, hcz16_1, hfz16_0, hfz16_1⟩ := blk2_ BK503) | ((with_reducible refine gate_callee (f := 22) rfl ?_); refine goesL_ (some 23) rfl rfl Try.func22 k_ rfl #[.agg #[.slice A0_0 l0_0.length c0_0, .slice A0_1 l0_1.length c0_1]] rfl (g2_) ?_; (with_reducible refine (laws_toBook.calls k _ _ l0_0 _ _ l0_1 t505 t508 _ ?side1 ?side2 ?side3 ?side4 A8.out).mono ?_); (case side1 => exact uf0_ HR0_0); (case side2 => exact HC0_0.out); (case side3 => exact uf0_ HR0_1); (case side4 => exact HC0_1.out); rintro e w17 ⟨v506, v509, rfl, ho0, ho1, hb⟩; refine ⟨_, rfl, ?_⟩; have HO507 := Aside0.mk (Kd.R_lower ho0 (below_size (laws_FnExactFromBelow.calls_q0))); have HO510 := Aside0.mk (Kd.S_lower ho1 (below_size (laws_FnExactFromBelow.calls_q0))); replace BK503 := bb_ BK503 hb; replace HB := Aside0.mk (below_step (laws_FnExactFromBelow.calls_q0) hb); (try clear hb); (try clear hk hi); (try clear ho0); (try clear ho1); obtain ⟨Ao18, co18, eo18⟩ := Kd.R_slice HO507.out; subst eo18; obtain ⟨Ao19, co19, eo19⟩ := Kd.S_slice HO510.out; subst eo19) | ((with_reducible refine gate_callee (f := 43) rfl ?_); refine goesL_ (some 25) rfl rfl Try.func43 k_ rfl #[.agg #[.slice Ao18 t505.length co18, .slice Ao19 t508.length co19], .int .i64 a1] rfl (g2_) ?_; (with_reducible refine (spec_FromBelow.calls k _ _ t505 _ _ t508 a1 t511 t514 _ ?side1 ?side2 ?side3 ?side4 A9.out).mono ?_); (case side1 => repeat (first | exact (Kd.R_reads' HO507.out).2.2 | (with_reducible refine Kd.C_alloc ?_ _) | (with_reducible refine Kd.C_drewN ?_ _) | (with_reducible refine Kd.C_drew ?_))); (case side2 => exact (Kd.R_reads' HO507.out).2.1); (case side3 => repeat (first | exact (Kd.S_reads' HO510.out).2.2 | (with_reducible refine Kd.C_alloc ?_ _) | (with_reducible refine Kd.C_drewN ?_ _) | (with_reducible refine Kd.C_drew ?_))); (case side4 => exact (Kd.S_reads' HO510.out).2.1); rintro e w20 ⟨v512, rfl, ho0, hb⟩; refine ⟨_, rfl, ?_⟩; replace HO507 := Aside0.mk (Kd.R_below (uf1_ HO507) hb); replace HO510 := Aside0.mk (Kd.S_below (uf2_ HO510) hb); have HO513 := Aside0.mk (Kd.R_lower ho0 (below_size (laws_FnExactFromBelow.calls_q0))); replace BK503 := bb_ BK503 hb; replace HB := Aside0.mk (below_step (laws_FnExactFromBelow.calls_q0) hb); (try clear hb); (try clear hk hi); (try clear ho0); obtain ⟨hcz21_0, hcz21_1, hfz21_0, hfz21_1⟩ := blk2_ BK503) | ((with_reducible refine gate_callee (f := 22) rfl ?_); refine goesL_ (some 29) rfl rfl Try.func22 k_ rfl #[.agg #[.slice A0_0 l0_0.length c0_0, .slice A0_1 l0_1.length c0_1]] rfl (g2_) ?_; (with_reducible refine (laws_toBook.calls k _ _ l0_0 _ _ l0_1 t515 t518 _ ?side1 ?side2 ?side3 ?side4 A10.out).mono ?_); (case side1 => exact uf0_ HR0_0); (case side2 => exact HC0_0.out); (case side3 => exact uf0_ HR0_1); (case side4 => exact HC0_1.out); rintro e w22 ⟨v516, v519, rfl, ho0, ho1, hb⟩; refine ⟨_, rfl, ?_⟩; replace HO513 := Aside0.mk (Kd.R_below (uf1_ HO513) hb); have HO517 := Aside0.mk (Kd.R_lower (Kd.R_new' ho0 (Kd.R_lt (uf1_ HO507))) (below_size (laws_FnExactFromBelow.calls_q0))); have HO520 := Aside0.mk (Kd.S_lower (Kd.S_new' (Kd.S_new' ho1 (Kd.R_lt (uf1_ HO507))) (Kd.S_lt (uf2_ HO510))) (below_size (laws_FnExactFromBelow.calls_q0))); replace HO507 := Aside0.mk (Kd.R_elder' (uf1_ HO507) (Kd.R_base ho0) hb); replace HO510 := Aside0.mk (Kd.S_mono (Kd.S_told (Kd.S_told (Kd.S_old (uf2_ HO510) hb) (Kd.R_base ho0)) (Kd.S_base ho1)) (fun _ h_ => h_.1)); replace BK503 := bb_ BK503 hb; replace HB := Aside0.mk (below_step (laws_FnExactFromBelow.calls_q0) hb); (try clear hb); (try clear hk hi); (try clear ho0); (try clear ho1)) | ((with_reducible refine gate_dst (N := 8) rfl ?_); refine bx_ (N := 8) #[.slice none 0 0, .slice none 0 0] 26 ?_; intro gb521 hg w23 hbox hb; replace HO507 := Aside0.mk (Kd.R_below (uf1_ HO507) hb); replace HO510 := Aside0.mk (Kd.S_below (uf2_ HO510) hb); replace HO513 := Aside0.mk (Kd.R_below (uf1_ HO513) hb); replace HO517 := Aside0.mk (Kd.R_below (uf1_ HO517) hb); replace HO520 := Aside0.mk (Kd.S_below (uf2_ HO520) hb); have BK521 := Aside0.mk (hbox); have GW521 := Aside0.mk ((g55_ : w.heap.size ≤ gb521)); have GE521 := Aside0.mk ((g55_ : w.heap.size ≤ gb521)); replace HB := Aside0.mk (below_step (laws_FnExactFromBelow.calls_q0) hb); have NB503_521 := Aside0.mk ((by rw [hg]; exact Nat.ne_of_lt (blk_lt (g := gb503) (o := .cells #[.slice A0_0 l0_0.length c0_0, .slice A0_1 l0_1.length c0_1] 39 (0, 0)) (uf3_ BK503)) : gb503 ≠ gb521)); have NB521_503 := Aside0.mk ((by rw [hg]; exact Nat.ne_of_gt (blk_lt (g := gb503) (o := .cells #[.slice A0_0 l0_0.length c0_0, .slice A0_1 l0_1.length c0_1] 39 (0, 0)) (uf3_ BK503)) : gb521 ≠ gb503)); replace BK503 := bb_ BK503 hb; clear hb hbox hg; obtain ⟨Ao24, co24, eo24⟩ := Kd.R_slice HO517.out; subst eo24; have hnb25 := NB521_503.out; have hnc25 := NB503_521.out; obtain ⟨hcz26_0, hcz26_1, hfz26_0, hfz26_1⟩ := blk2_ BK521; obtain ⟨Ao27, co27, eo27⟩ := Kd.S_slice HO520.out; subst eo27) | ((with_reducible refine gate_callee (f := 44) rfl ?_); refine goesL_ (some 33) rfl rfl Try.func44 k_ rfl #[.agg #[.slice Ao24 t515.length co24, .slice Ao27 t518.length co27], .int .i64 a1] rfl (g2_) ?_; (with_reducible refine (impl_FromBelow.calls k _ _ t515 _ _ t518 a1 t522 t525 _ ?side1 ?side2 ?side3 ?side4 A11.out).mono ?_); (case side1 => refine (Kd.R_reads' (e := 3) (base := w.heap.size) (ok := fun k_ => (True ∧ some k_ ≠ (.slice Ao18 t505.length co18 : Value).ownBlock)) (n := t515.length) (c := co24) ?_).2.2; exact (by (with_reducible repeat (first | apply Kd.R_alloc | apply Kd.R_drewN | apply Kd.R_drew)); exact (Kd.R_mono (Kd.R_far (p := ⟨gb521, 1, none⟩) (Kd.R_far (p := ⟨gb521, 0, none⟩) (Kd.R_types HO517.out BK521.out (by decide)) (fun _ hk => hk.2) (.slice Ao24 t515.length co24)) (fun _ hk => hk.2) (.slice Ao27 t518.length co27)) (fun _ h_ => h_.1)))); (case side2 => exact (Kd.R_reads' HO517.out).2.1); (case side3 => refine (Kd.S_reads' (e := 23) (base := w.heap.size) (ok := fun k_ => ((some k_ ≠ (.slice Ao24 t515.length co24 : Value).ownBlock ∧ some k_ ≠ (.slice Ao18 t505.length co18 : Value).ownBlock) ∧ some k_ ≠ (.slice Ao19 t508.length co19 : Value).ownBlock)) (n := t518.length) (c := co27) ?_).2.2; exact (by (with_reducible repeat (first | apply Kd.S_alloc | apply Kd.S_drewN | apply Kd.S_drew)); exact (Kd.S_mono (Kd.S_far (p := ⟨gb521, 1, none⟩) (Kd.S_far (p := ⟨gb521, 0, none⟩) (Kd.S_types HO520.out BK521.out (by decide)) (fun _ hk => hk.2) (.slice Ao24 t515.length co24)) (fun _ hk => hk.2) (.slice Ao27 t518.length co27)) (fun _ h_ => h_.1)))); (case side4 => exact (Kd.S_reads' HO520.out).2.1); rintro e w28 ⟨v523, rfl, ho0, hb⟩; refine ⟨_, rfl, ?_⟩; replace HO507 := Aside0.mk (Kd.R_below (by (with_reducible repeat (first | apply Kd.R_alloc | apply Kd.R_drewN | apply Kd.R_drew)); exact (Kd.R_mono (Kd.R_far (p := ⟨gb521, 1, none⟩) (Kd.R_far (p := ⟨gb521, 0, none⟩) (Kd.R_types HO507.out BK521.out (by decide)) (fun _ hk => hk.2) (.slice Ao24 t515.length co24)) (fun _ hk => hk.2) (.slice Ao27 t518.length co27)) (fun _ h_ => h_.1))) hb); replace HO510 := Aside0.mk (Kd.S_below (by (with_reducible repeat (first | apply Kd.S_alloc | apply Kd.S_drewN | apply Kd.S_drew)); exact (Kd.S_mono (Kd.S_far (p := ⟨gb521, 1, none⟩) (Kd.S_far (p := ⟨gb521, 0, none⟩) (Kd.S_types HO510.out BK521.out (by decide)) (fun _ hk => hk.2) (.slice Ao24 t515.length co24)) (fun _ hk => hk.2) (.slice Ao27 t518.length co27)) (fun _ h_ => h_.1))) hb); replace HO517 := Aside0.mk (Kd.R_below (by (with_reducible repeat (first | apply Kd.R_alloc | apply Kd.R_drewN | apply Kd.R_drew)); exact (Kd.R_mono (Kd.R_far (p := ⟨gb521, 1, none⟩) (Kd.R_far (p := ⟨gb521, 0, none⟩) (Kd.R_types HO517.out BK521.out (by decide)) (fun _ hk => hk.2) (.slice Ao24 t515.length co24)) (fun _ hk => hk.2) (.slice Ao27 t518.length co27)) (fun _ h_ => h_.1))) hb); replace HO520 := Aside0.mk (Kd.S_below (by (with_reducible repeat (first | apply Kd.S_alloc | apply Kd.S_drewN | apply Kd.S_drew)); exact (Kd.S_mono (Kd.S_far (p := ⟨gb521, 1, none⟩) (Kd.S_far (p := ⟨gb521, 0, none⟩) (Kd.S_types HO520.out BK521.out (by decide)) (fun _ hk => hk.2) (.slice Ao24 t515.length co24)) (fun _ hk => hk.2) (.slice Ao27 t518.length co27)) (fun _ h_ => h_.1))) hb); have HO524 := Aside0.mk (Kd.R_lower (Kd.R_new' ho0 (Kd.R_lt (by (with_reducible repeat (first | apply Kd.R_alloc | apply Kd.R_drewN | apply Kd.R_drew)); exact (Kd.R_mono (Kd.R_far (p := ⟨gb521, 1, none⟩) (Kd.R_far (p := ⟨gb521, 0, none⟩) (Kd.R_types HO513.out BK521.out (by decide)) (fun _ hk => hk.2) (.slice Ao24 t515.length co24)) (fun _ hk => hk.2) (.slice Ao27 t518.length co27)) (fun _ h_ => h_.1))))) (below_size (laws_FnExactFromBelow.calls_q0))); replace HO513 := Aside0.mk (Kd.R_elder' (by (with_reducible repeat (first | apply Kd.R_alloc | apply Kd.R_drewN | apply Kd.R_drew)); exact (Kd.R_mono (Kd.R_far (p := ⟨gb521, 1, none⟩) (Kd.R_far (p := ⟨gb521, 0, none⟩) (Kd.R_types HO513.out BK521.out (by decide)) (fun _ hk => hk.2) (.slice Ao24 t515.length co24)) (fun _ hk => hk.2) (.slice Ao27 t518.length co27)) (fun _ h_ => h_.1))) (Kd.R_base ho0) hb); replace BK503 := Aside0.mk (blk_below (g := gb503) (o := .cells #[.slice A0_0 l0_0.length c0_0, .slice A0_1 l0_1.length c0_1] 39 (0, 0)) (by (with_reducible repeat (first | refine blk_drewN ?_ _ | refine blk_drew ?_ | refine blk_alloc ?_ _)); refine blk_far ?_ NB503_521.out _; (with_reducible repeat (first | refine blk_drewN ?_ _ | refine blk_drew ?_ | refine blk_alloc ?_ _)); refine blk_far ?_ NB503_521.out _; (with_reducible repeat (first | refine blk_drewN ?_ _ | refine blk_drew ?_ | refine blk_alloc ?_ _)); exact BK503.out) hb); replace BK521 := Aside0.mk (blk_below (g := gb521) (o := .cells #[.slice Ao24 t515.length co24, .slice Ao27 t518.length co27] 26 (0, 0)) (by (with_reducible repeat (first | refine blk_drewN ?_ _ | refine blk_drew ?_ | refine blk_alloc ?_ _)); refine blk_put (cs := #[.slice Ao24 t515.length co24, .slice none 0 0]) ?_ 1 _ rfl; (with_reducible repeat (first | refine blk_drewN ?_ _ | refine blk_drew ?_ | refine blk_alloc ?_ _)); refine blk_put (cs := #[.slice none 0 0, .slice none 0 0]) ?_ 0 _ rfl; (with_reducible repeat (first | refine blk_drewN ?_ _ | refine blk_drew ?_ | refine blk_alloc ?_ _)); exact BK521.out) hb); replace HB := Aside0.mk (below_step (laws_FnExactFromBelow.calls_q0) hb); (try clear hb); (try clear hk hi); (try clear ho0)))
  (try simp only [Act.put, List.setIfInBounds_toArray, List.set_cons_zero, List.set_cons_succ])
  go_cut [44] (fun v44 wc => ∃ (kq : Nat) (x44_11 : Bool), v44 = .bool x44_11 ∧ Aside0 (laws_FnExactFromBelow.j0 kq a1 t511 t514 t522 t525 x44_11 l0_0 l0_1 t515 t518 = some r) ∧ Aside0 (kq ≤ k) ∧ Aside0 (Kd.R k36 36 wc w.heap.size (fun k_ => some k_ ≠ (v523 : Value).ownBlock) v512 t511) ∧ Aside0 (Kd.R k36 36 wc w.heap.size (fun k_ => some k_ ≠ (v512 : Value).ownBlock) v523 t522) ∧ Aside0 (Kd.R (Kd.int .i64) 3 wc w.heap.size (fun _ => True) (.slice Ao24 t515.length co24) t515) ∧ Aside0 (Kd.S (Kd.slice 3 (Kd.int .i64)) 23 wc w.heap.size (fun k_ => some k_ ≠ ((.slice Ao24 t515.length co24) : Value).ownBlock) (.slice Ao27 t518.length co27) t518) ∧ Aside0 (wc.heap[gb503]? = some (.cells #[(.slice A0_0 l0_0.length c0_0), (.slice A0_1 l0_1.length c0_1)] 39 (0, 0))) ∧ Aside0 (wc.heap[gb521]? = some (.cells #[(.slice Ao24 t515.length co24), (.slice Ao27 t518.length co27)] 26 (0, 0))) ∧ Aside0 (Below w.heap.size w wc))
  case first =>
   have H := HC12.out
   clear HC12
   obtain ⟨t526, A29, H⟩ := bind_ H
   by_cases c30 : t526 = true
   ·subst c30
    replace H := ifp_ H
    have H' := Aside0.mk H
    clear H
    obtain ⟨Ao31, co31, eo31⟩ := Kd.R_slice HO524.out
    subst eo31
    obtain ⟨Ao32, co32, eo32⟩ := Kd.R_slice HO513.out
    subst eo32
    go_wp2_with (first | ((with_reducible refine gate_callee (f := 24) rfl ?_); refine goesL_ (some 38) rfl rfl Try.func24 k_ rfl #[.slice Ao31 t522.length co31, .slice Ao32 t511.length co32] rfl (g2_) ?_; (with_reducible refine (laws_eqFracS.calls k _ _ t522 _ _ t511 true _ ?side1 ?side2 ?side3 ?side4 A29.out).mono ?_); (case side1 => repeat (first | exact (Kd.R_reads' HO524.out).2.2 | (with_reducible refine Kd.C_alloc ?_ _) | (with_reducible refine Kd.C_drewN ?_ _) | (with_reducible refine Kd.C_drew ?_))); (case side2 => exact (Kd.R_reads' HO524.out).2.1); (case side3 => repeat (first | exact (Kd.R_reads' HO513.out).2.2 | (with_reducible refine Kd.C_alloc ?_ _) | (with_reducible refine Kd.C_drewN ?_ _) | (with_reducible refine Kd.C_drew ?_))); (case side4 => exact (Kd.R_reads' HO513.out).2.1); rintro e w33 ⟨rfl, hb⟩; refine ⟨_, rfl, ?_⟩; replace HO507 := Aside0.mk (Kd.R_below (uf1_ HO507) hb); replace HO510 := Aside0.mk (Kd.S_below (uf2_ HO510) hb); replace HO513 := Aside0.mk (Kd.R_below (uf1_ HO513) hb); replace HO517 := Aside0.mk (Kd.R_below (uf1_ HO517) hb); replace HO520 := Aside0.mk (Kd.S_below (uf2_ HO520) hb); replace HO524 := Aside0.mk (Kd.R_below (uf1_ HO524) hb); replace BK503 := bb_ BK503 hb; replace BK521 := bb_ BK521 hb; replace HB := Aside0.mk (below_step (laws_FnExactFromBelow.calls_q0) hb); (try clear hb); (try clear hk hi)))
    go_meet
    case rel => exact ⟨_, ((t525 != t514)), (g3_), H', ⟨g15_⟩, ⟨by (with_reducible repeat (first | apply Kd.R_alloc | apply Kd.R_drewN | apply Kd.R_drew)); exact Kd.R_mono HO513.out (fun _ hk => hk.2)⟩, ⟨by (with_reducible repeat (first | apply Kd.R_alloc | apply Kd.R_drewN | apply Kd.R_drew)); exact Kd.R_mono HO524.out (fun _ hk => hk.2)⟩, ⟨by (with_reducible repeat (first | apply Kd.R_alloc | apply Kd.R_drewN | apply Kd.R_drew)); exact Kd.R_mono HO517.out (fun _ hk => trivial)⟩, ⟨by (with_reducible repeat (first | apply Kd.S_alloc | apply Kd.S_drewN | apply Kd.S_drew)); exact Kd.S_mono HO520.out (fun _ hk => hk.1.1)⟩, ⟨uf3_ BK503⟩, ⟨uf3_ BK521⟩, ⟨laws_FnExactFromBelow.calls_q0⟩⟩
   ·replace c30 := Bool.eq_false_iff.mpr c30
    subst c30
    replace H := ifn_ H
    have H' := Aside0.mk H
    clear H
    obtain ⟨Ao34, co34, eo34⟩ := Kd.R_slice HO524.out
    subst eo34
    obtain ⟨Ao35, co35, eo35⟩ := Kd.R_slice HO513.out
    subst eo35
    go_wp2_with (first | ((with_reducible refine gate_callee (f := 24) rfl ?_); refine goesL_ (some 38) rfl rfl Try.func24 k_ rfl #[.slice Ao34 t522.length co34, .slice Ao35 t511.length co35] rfl (g2_) ?_; (with_reducible refine (laws_eqFracS.calls k _ _ t522 _ _ t511 false _ ?side1 ?side2 ?side3 ?side4 A29.out).mono ?_); (case side1 => repeat (first | exact (Kd.R_reads' HO524.out).2.2 | (with_reducible refine Kd.C_alloc ?_ _) | (with_reducible refine Kd.C_drewN ?_ _) | (with_reducible refine Kd.C_drew ?_))); (case side2 => exact (Kd.R_reads' HO524.out).2.1); (case side3 => repeat (first | exact (Kd.R_reads' HO513.out).2.2 | (with_reducible refine Kd.C_alloc ?_ _) | (with_reducible refine Kd.C_drewN ?_ _) | (with_reducible refine Kd.C_drew ?_))); (case side4 => exact (Kd.R_reads' HO513.out).2.1); rintro e w36 ⟨rfl, hb⟩; refine ⟨_, rfl, ?_⟩; replace HO507 := Aside0.mk (Kd.R_below (uf1_ HO507) hb); replace HO510 := Aside0.mk (Kd.S_below (uf2_ HO510) hb); replace HO513 := Aside0.mk (Kd.R_below (uf1_ HO513) hb); replace HO517 := Aside0.mk (Kd.R_below (uf1_ HO517) hb); replace HO520 := Aside0.mk (Kd.S_below (uf2_ HO520) hb); replace HO524 := Aside0.mk (Kd.R_below (uf1_ HO524) hb); replace BK503 := bb_ BK503 hb; replace BK521 := bb_ BK521 hb; replace HB := Aside0.mk (below_step (laws_FnExactFromBelow.calls_q0) hb); (try clear hb); (try clear hk hi)))
    go_meet
    case rel => exact ⟨_, (true), (g3_), H', ⟨g15_⟩, ⟨by (with_reducible repeat (first | apply Kd.R_alloc | apply Kd.R_drewN | apply Kd.R_drew)); exact Kd.R_mono HO513.out (fun _ hk => hk.2)⟩, ⟨by (with_reducible repeat (first | apply Kd.R_alloc | apply Kd.R_drewN | apply Kd.R_drew)); exact Kd.R_mono HO524.out (fun _ hk => hk.2)⟩, ⟨by (with_reducible repeat (first | apply Kd.R_alloc | apply Kd.R_drewN | apply Kd.R_drew)); exact Kd.R_mono HO517.out (fun _ hk => trivial)⟩, ⟨by (with_reducible repeat (first | apply Kd.S_alloc | apply Kd.S_drewN | apply Kd.S_drew)); exact Kd.S_mono HO520.out (fun _ hk => hk.1.1)⟩, ⟨uf3_ BK503⟩, ⟨uf3_ BK521⟩, ⟨laws_FnExactFromBelow.calls_q0⟩⟩
  case rest =>
   clear HC12
   try clear c1
   try clear c2
   try clear p2
   try clear c3
   try clear c4
   try clear c4b0
   try clear c10
   try clear c19
   try clear c22
   try clear c24
   try clear c25
   try clear c30
   try clear hcz14_0
   try clear hcz14_1
   try clear hcz16_0
   try clear hcz16_1
   try clear hcz21_0
   try clear hcz21_1
   try clear hcz26_0
   try clear hcz26_1
   try clear hcz6_0
   try clear hcz6_1
   try clear hfz14_0
   try clear hfz14_1
   try clear hfz16_0
   try clear hfz16_1
   try clear hfz21_0
   try clear hfz21_1
   try clear hfz26_0
   try clear hfz26_1
   try clear hfz6_0
   try clear hfz6_1
   obtain ⟨kq, x44_11, rfl, HA, HJ11, HO_6, HO_9, HO_522000, HO_522001, BK503, BK521, HB⟩ := hcut
   cases kq with
   | zero => exact absurd HA.out (by simp [laws_FnExactFromBelow.j0])
   | succ kj11 =>
    have H := HA.out
    clear HA
    simp only [laws_FnExactFromBelow.j0] at H
    by_cases c37 : x44_11 = true
    ·subst c37
     replace H := ifp_ H
     obtain rfl := Option.some.inj H
     go_wp2
     go_ret
     exact ⟨g4_, laws_FnExactFromBelow.calls_q0⟩
    ·replace c37 := Bool.eq_false_iff.mpr c37
     subst c37
     replace H := ifn_ H
     replace H := Option.bind_eq_some_iff.mp H
     obtain ⟨⟨t527, t530⟩, A380, H⟩ := H
     replace H : ((laws_eqBook.f kj11 t515 t518 t527 t530).bind fun t533 => (if t533 = true then ((laws_markBook.f kj11 t515 t518 1).bind fun t534 => (if t534 < 0 then (laws_FnExactFromBelow.j1 kj11 a1 t511 t514 t522 true l0_0 l0_1) else ((laws_eqFracS.f kj11 t522 t511).bind fun t535 => (if t535 = true then (laws_FnExactFromBelow.j1 kj11 a1 t511 t514 t522 (t525 != t514) l0_0 l0_1) else (laws_FnExactFromBelow.j1 kj11 a1 t511 t514 t522 true l0_0 l0_1))))) else (some false))) = some r := H
     have A38 := Aside0.mk A380
     clear A380
     obtain ⟨t533, A39, H⟩ := bind_ H
     by_cases c40 : t533 = true
     ·subst c40
      replace H := ifp_ H
      obtain ⟨t534, A41, H⟩ := bind_ H
      have HC42 := Aside0.mk H
      clear H
      try go_wp2
      replace HO_6 := Aside0.mk (Kd.R_drew HO_6.out)
      replace HO_9 := Aside0.mk (Kd.R_drew HO_9.out)
      replace HO_522000 := Aside0.mk (Kd.R_drew HO_522000.out)
      replace HO_522001 := Aside0.mk (Kd.S_drew HO_522001.out)
      replace BK503 := Aside0.mk (blk_drew BK503.out)
      replace BK521 := Aside0.mk (blk_drew BK521.out)
      replace HB := Aside0.mk (below_drew1 HB.out)
      refine start_ (n := 5) (S := fun w' => w'.cell? ⟨gb521, 0, none⟩ = some (.slice Ao24 t515.length co24) ∧ w'.cell? ⟨gb521, 1, none⟩ = some (.slice Ao27 t518.length co27) ∧ w'.cell? ⟨gb503, 0, none⟩ = some (.slice A0_0 l0_0.length c0_0) ∧ w'.cell? ⟨gb503, 1, none⟩ = some (.slice A0_1 l0_1.length c0_1)) (ds := []) (tl_ 5 0) (g0_) rfl (g0_) ⟨(blk_cell BK521.out 0).trans rfl, (blk_cell BK521.out 1).trans rfl, (blk_cell BK503.out 0).trans rfl, (blk_cell BK503.out 1).trans rfl⟩ (fun hHeld => ?_)
      generalize wc.drew = w43 at HO_6 HO_9 HO_522000 HO_522001 BK503 BK521 HB hHeld ⊢
      refine take_ (i := 0) (N := some 45) (v := ?_) (a' := ?_) (tl_ 5 1) rfl rfl (g0_) (fun _ _ _ h => h) (Or.inl ⟨by rfl, ?_⟩) hHeld ?_ ?_
      rotate_left
      ·rintro w' ⟨s0, s1, s2, s3⟩
       go_simp
       with_reducible rfl
      rotate_left
      ·simp only [Act.put, List.setIfInBounds_toArray, List.set_cons_zero, List.set_cons_succ, i64_w, i32_w]
       rfl
      refine take_ (i := 1) (N := some 46) (v := ?_) (a' := ?_) (tl_ 5 3) rfl rfl (g0_) (fun _ _ _ h => h) (Or.inl ⟨by rfl, ?_⟩) hHeld ?_ ?_
      rotate_left
      ·rintro w' ⟨s0, s1, s2, s3⟩
       go_simp
       with_reducible rfl
      rotate_left
      ·simp only [Act.put, List.setIfInBounds_toArray, List.set_cons_zero, List.set_cons_succ, i64_w, i32_w]
       rfl
      refine one_ (i := 2) (N := some 47) (tl_ 5 7) rfl rfl (g0_) (by decide) (fun K hK => ?_)
      refine goes_ Try.func22 (g0_) rfl #[.agg #[.slice A0_0 l0_0.length c0_0, .slice A0_1 l0_1.length c0_1]] (by rfl) rfl rfl (g2_) ?_
      with_reducible refine (laws_toBook.calls kj11 _ _ l0_0 _ _ l0_1 t527 t530 _ ?side1 ?side2 ?side3 ?side4 A38.out).mono ?_
      (case side1 => exact uf0_ HR0_0)
      (case side2 => exact HC0_0.out)
      (case side3 => exact uf0_ HR0_1)
      (case side4 => exact HC0_1.out)
      rintro e w44 ⟨v528, v531, rfl, ho0, ho1, hb⟩
      refine ⟨_, rfl, ?_⟩
      replace HO_6 := Aside0.mk (Kd.R_below (uf1_ HO_6) hb)
      replace HO_9 := Aside0.mk (Kd.R_below (uf1_ HO_9) hb)
      have HO529 := Aside0.mk (Kd.R_lower (Kd.R_new' ho0 (Kd.R_lt (uf1_ HO_522000))) (below_size (laws_FnExactFromBelow.calls_q0)))
      have HO532 := Aside0.mk (Kd.S_lower (Kd.S_new' (Kd.S_new' ho1 (Kd.R_lt (uf1_ HO_522000))) (Kd.S_lt (uf2_ HO_522001))) (below_size (laws_FnExactFromBelow.calls_q0)))
      replace HO_522000 := Aside0.mk (Kd.R_elder' (uf1_ HO_522000) (Kd.R_base ho0) hb)
      replace HO_522001 := Aside0.mk (Kd.S_mono (Kd.S_told (Kd.S_told (Kd.S_old (uf2_ HO_522001) hb) (Kd.R_base ho0)) (Kd.S_base ho1)) (fun _ h_ => h_.1))
      replace BK503 := bb_ BK503 hb
      replace BK521 := bb_ BK521 hb
      replace HB := Aside0.mk (below_step (laws_FnExactFromBelow.calls_q0) hb)
      (try clear hb)
      (try clear hk hi)
      (try clear ho0)
      (try clear ho1)
      obtain ⟨Ao45, co45, eo45⟩ := Kd.R_slice HO529.out
      (first | subst eo45 | (injection eo45 with f1_ f2_ f3_; have f4_ := f1_.symm; have f5_ := f3_.symm; clear f1_ f2_ f3_; subst f4_; subst f5_))
      obtain ⟨Ao46, co46, eo46⟩ := Kd.S_slice HO532.out
      (first | subst eo46 | (injection eo46 with f1_ f2_ f3_; have f4_ := f1_.symm; have f5_ := f3_.symm; clear f1_ f2_ f3_; subst f4_; subst f5_))
      refine hK.out _ _ ⟨(blk_cell BK521.out 0).trans rfl, (blk_cell BK521.out 1).trans rfl, (blk_cell BK503.out 0).trans rfl, (blk_cell BK503.out 1).trans rfl⟩ (fun hHeld => ?_)
      clear hK K
      refine nm_ ?_
      refine one_ (i := 3) (N := some 48) (tl_ 5 15) rfl rfl (g0_) (by decide) (fun K hK => ?_)
      refine goes_ Try.func25 (g0_) rfl #[.agg #[.slice Ao24 t515.length co24, .slice Ao27 t518.length co27], .agg #[.slice Ao45 t527.length co45, .slice Ao46 t530.length co46]] (by rfl) rfl rfl (g2_) ?_
      with_reducible refine (laws_eqBook.calls kj11 _ _ t515 _ _ t518 _ _ t527 _ _ t530 true _ ?side1 ?side2 ?side3 ?side4 ?side5 ?side6 ?side7 ?side8 A39.out).mono ?_
      (case side1 => repeat (first | exact (Kd.R_reads' HO_522000.out).2.2 | (with_reducible refine Kd.C_alloc ?_ _) | (with_reducible refine Kd.C_drewN ?_ _) | (with_reducible refine Kd.C_drew ?_)))
      (case side2 => exact (Kd.R_reads' HO_522000.out).2.1)
      (case side3 => repeat (first | exact (Kd.S_reads' HO_522001.out).2.2 | (with_reducible refine Kd.C_alloc ?_ _) | (with_reducible refine Kd.C_drewN ?_ _) | (with_reducible refine Kd.C_drew ?_)))
      (case side4 => exact (Kd.S_reads' HO_522001.out).2.1)
      (case side5 => repeat (first | exact (Kd.R_reads' HO529.out).2.2 | (with_reducible refine Kd.C_alloc ?_ _) | (with_reducible refine Kd.C_drewN ?_ _) | (with_reducible refine Kd.C_drew ?_)))
      (case side6 => exact (Kd.R_reads' HO529.out).2.1)
      (case side7 => repeat (first | exact (Kd.S_reads' HO532.out).2.2 | (with_reducible refine Kd.C_alloc ?_ _) | (with_reducible refine Kd.C_drewN ?_ _) | (with_reducible refine Kd.C_drew ?_)))
      (case side8 => exact (Kd.S_reads' HO532.out).2.1)
      rintro e w47 ⟨rfl, hb⟩
      refine ⟨_, rfl, ?_⟩
      replace HO_6 := Aside0.mk (Kd.R_below (uf1_ HO_6) hb)
      replace HO_9 := Aside0.mk (Kd.R_below (uf1_ HO_9) hb)
      replace HO_522000 := Aside0.mk (Kd.R_below (uf1_ HO_522000) hb)
      replace HO_522001 := Aside0.mk (Kd.S_below (uf2_ HO_522001) hb)
      replace HO529 := Aside0.mk (Kd.R_below (uf1_ HO529) hb)
      replace HO532 := Aside0.mk (Kd.S_below (uf2_ HO532) hb)
      replace BK503 := bb_ BK503 hb
      replace BK521 := bb_ BK521 hb
      replace HB := Aside0.mk (below_step (laws_FnExactFromBelow.calls_q0) hb)
      (try clear hb)
      (try clear hk hi)
      refine hK.out _ _ ⟨(blk_cell BK521.out 0).trans rfl, (blk_cell BK521.out 1).trans rfl, (blk_cell BK503.out 0).trans rfl, (blk_cell BK503.out 1).trans rfl⟩ (fun hHeld => ?_)
      clear hK K
      refine nm_ ?_
      refine pure_ (i := 4) (N := some 49) (v := ?_) (a' := ?_) (tl_ 5 31) rfl rfl (g0_) (fun _ _ _ h => h) (Or.inl ⟨by rfl, ?_⟩) ?_ ?_
      rotate_left
      ·intro w'
       go_simp
       with_reducible rfl
      rotate_left
      ·simp only [Act.put, List.setIfInBounds_toArray, List.set_cons_zero, List.set_cons_succ, i64_w, i32_w]
       rfl
      refine done_ (g0_) ?_
      have hnb48 := NB521_503.out
      have hnc48 := NB503_521.out
      obtain ⟨hcz49_0, hcz49_1, hfz49_0, hfz49_1⟩ := blk2_ BK521
      go_upto_region 14 with (first | ((with_reducible refine gate_callee (f := 26) rfl ?_); refine goesL_ (some 52) rfl rfl Try.func26 k_ rfl #[.agg #[.slice Ao24 t515.length co24, .slice Ao27 t518.length co27], .int .i64 1] rfl (g2_) ?_; (with_reducible refine (laws_markBook.calls kj11 (fun k_ => some k_ = (.slice Ao24 t515.length co24 : Value).ownBlock) (.slice Ao24 t515.length co24) t515 (fun k_ => some k_ = (.slice Ao27 t518.length co27 : Value).ownBlock) (.slice Ao27 t518.length co27) t518 1 t534 w _ ?side1 ?side2 ?side3 A41.out).mono ?_); (case side1 => exact laws_FnExactFromBelow.calls_q0); (case side2 => exact Kd.R_tight rfl HO_522000.out); (case side3 => exact Kd.S_mono (HO_522001.out) (fun _ hk_ => by first | exact hk_ | exact hk_.1 | exact hk_.1.1 | exact hk_.1.1.1 | grind)); rintro e w50 ⟨rfl, hb, hkp⟩; refine ⟨_, rfl, ?_⟩; replace HO_6 := Aside0.mk (Kd.R_mono (ok' := fun k_ => some k_ ≠ (v523 : Value).ownBlock) (keptT_R HO_6.out hkp (by decide)) (fun k_ hk_ => g69_)); replace HO_9 := Aside0.mk (Kd.R_mono (ok' := fun k_ => some k_ ≠ (v512 : Value).ownBlock) (keptT_R HO_9.out hkp (by decide)) (fun k_ hk_ => g69_)); replace BK503 := Aside0.mk (keptT_blk (uf3_ BK503) hkp (by decide)); replace BK521 := Aside0.mk (keptT_blk (uf3_ BK521) hkp (by decide)); replace HB := Aside0.mk (hb); clear HO529 HO532 HO_522000 HO_522001; (try clear hb); (try clear hkp)))
      (try simp only [Act.put, List.setIfInBounds_toArray, List.set_cons_zero, List.set_cons_succ])
      go_cut [65] (fun v65 wc => ∃ (kq : Nat) (x65_41 : Bool), v65 = .bool x65_41 ∧ Aside0 (laws_FnExactFromBelow.j1 kq a1 t511 t514 t522 x65_41 l0_0 l0_1 = some r) ∧ Aside0 (kq ≤ kj11) ∧ Aside0 (Kd.R k36 36 wc w.heap.size (fun k_ => some k_ ≠ (v523 : Value).ownBlock) v512 t511) ∧ Aside0 (Kd.R k36 36 wc w.heap.size (fun k_ => some k_ ≠ (v512 : Value).ownBlock) v523 t522) ∧ Aside0 (wc.heap[gb503]? = some (.cells #[(.slice A0_0 l0_0.length c0_0), (.slice A0_1 l0_1.length c0_1)] 39 (0, 0))) ∧ Aside0 (Below w.heap.size w wc))
      case first =>
       have H := HC42.out
       clear HC42
       by_cases c51 : t534 < 0
       ·rw [if_pos c51] at H
        have c51b0 := decide_eq_true c51
        clear c51
        (first | rw [c51b0] | (simp only [i64_w, i32_w]; rw [c51b0]) | skip)
        have H' := Aside0.mk H
        clear H
        go_wp2
        go_meet
        case rel => exact ⟨_, (true), (g3_), H', ⟨g54_⟩, ⟨uf1_ HO_6⟩, ⟨uf1_ HO_9⟩, ⟨uf3_ BK503⟩, ⟨laws_FnExactFromBelow.calls_q0⟩⟩
       ·rw [if_neg c51] at H
        have c51b0 := decide_eq_false c51
        clear c51
        (first | rw [c51b0] | (simp only [i64_w, i32_w]; rw [c51b0]) | skip)
        obtain ⟨t535, A52, H⟩ := bind_ H
        by_cases c53 : t535 = true
        ·subst c53
         replace H := ifp_ H
         have H' := Aside0.mk H
         clear H
         obtain ⟨Ao54, co54, eo54⟩ := Kd.R_slice HO_9.out
         subst eo54
         obtain ⟨Ao55, co55, eo55⟩ := Kd.R_slice HO_6.out
         subst eo55
         go_wp2_with (first | (go_at_call 24; (with_reducible refine (laws_eqFracS.calls kj11 _ _ t522 _ _ t511 true _ ?side1 ?side2 ?side3 ?side4 A52.out).mono ?_); (case side1 => repeat (first | exact (Kd.R_reads' HO_9.out).2.2 | (with_reducible refine Kd.C_alloc ?_ _) | (with_reducible refine Kd.C_drewN ?_ _) | (with_reducible refine Kd.C_drew ?_))); (case side2 => exact (Kd.R_reads' HO_9.out).2.1); (case side3 => repeat (first | exact (Kd.R_reads' HO_6.out).2.2 | (with_reducible refine Kd.C_alloc ?_ _) | (with_reducible refine Kd.C_drewN ?_ _) | (with_reducible refine Kd.C_drew ?_))); (case side4 => exact (Kd.R_reads' HO_6.out).2.1); rintro e w56 ⟨rfl, hb⟩; replace HO_6 := Aside0.mk (Kd.R_below (uf1_ HO_6) hb); replace HO_9 := Aside0.mk (Kd.R_below (uf1_ HO_9) hb); replace BK503 := bb_ BK503 hb; replace BK521 := bb_ BK521 hb; replace HB := Aside0.mk (below_step (laws_FnExactFromBelow.calls_q0) hb); (try clear hb); (try clear hk hi)))
         go_meet
         case rel => exact ⟨_, ((t525 != t514)), (g3_), H', ⟨g54_⟩, ⟨uf1_ HO_6⟩, ⟨uf1_ HO_9⟩, ⟨uf3_ BK503⟩, ⟨laws_FnExactFromBelow.calls_q0⟩⟩
        ·replace c53 := Bool.eq_false_iff.mpr c53
         subst c53
         replace H := ifn_ H
         have H' := Aside0.mk H
         clear H
         obtain ⟨Ao57, co57, eo57⟩ := Kd.R_slice HO_9.out
         subst eo57
         obtain ⟨Ao58, co58, eo58⟩ := Kd.R_slice HO_6.out
         subst eo58
         go_wp2_with (first | (go_at_call 24; (with_reducible refine (laws_eqFracS.calls kj11 _ _ t522 _ _ t511 false _ ?side1 ?side2 ?side3 ?side4 A52.out).mono ?_); (case side1 => repeat (first | exact (Kd.R_reads' HO_9.out).2.2 | (with_reducible refine Kd.C_alloc ?_ _) | (with_reducible refine Kd.C_drewN ?_ _) | (with_reducible refine Kd.C_drew ?_))); (case side2 => exact (Kd.R_reads' HO_9.out).2.1); (case side3 => repeat (first | exact (Kd.R_reads' HO_6.out).2.2 | (with_reducible refine Kd.C_alloc ?_ _) | (with_reducible refine Kd.C_drewN ?_ _) | (with_reducible refine Kd.C_drew ?_))); (case side4 => exact (Kd.R_reads' HO_6.out).2.1); rintro e w59 ⟨rfl, hb⟩; replace HO_6 := Aside0.mk (Kd.R_below (uf1_ HO_6) hb); replace HO_9 := Aside0.mk (Kd.R_below (uf1_ HO_9) hb); replace BK503 := bb_ BK503 hb; replace BK521 := bb_ BK521 hb; replace HB := Aside0.mk (below_step (laws_FnExactFromBelow.calls_q0) hb); (try clear hb); (try clear hk hi)))
         go_meet
         case rel => exact ⟨_, (true), (g3_), H', ⟨g54_⟩, ⟨uf1_ HO_6⟩, ⟨uf1_ HO_9⟩, ⟨uf3_ BK503⟩, ⟨laws_FnExactFromBelow.calls_q0⟩⟩
      case rest =>
       clear HC42
       try clear c1
       try clear c2
       try clear p2
       try clear c3
       try clear c4
       try clear c4b0
       try clear c5
       try clear c10
       try clear c19
       try clear c22
       try clear c24
       try clear c25
       try clear c26
       try clear c30
       try clear c37
       try clear c40
       try clear c43
       try clear c44
       try clear c48
       try clear c51
       try clear c51b0
       try clear c53
       try clear hcz14_0
       try clear hcz14_1
       try clear hcz16_0
       try clear hcz16_1
       try clear hcz21_0
       try clear hcz21_1
       try clear hcz26_0
       try clear hcz26_1
       try clear hcz49_0
       try clear hcz49_1
       try clear hcz6_0
       try clear hcz6_1
       try clear hfz14_0
       try clear hfz14_1
       try clear hfz16_0
       try clear hfz16_1
       try clear hfz21_0
       try clear hfz21_1
       try clear hfz26_0
       try clear hfz26_1
       try clear hfz49_0
       try clear hfz49_1
       try clear hfz6_0
       try clear hfz6_1
       try clear p2
       obtain ⟨kq, x65_41, rfl, HA, HJ41, HO_6, HO_9, BK503, HB⟩ := hcut
       cases kq with
       | zero => exact absurd HA.out (by simp [laws_FnExactFromBelow.j1])
       | succ kj41 =>
        have H := HA.out
        clear HA
        simp only [laws_FnExactFromBelow.j1] at H
        by_cases c60 : x65_41 = true
        ·subst c60
         replace H := ifp_ H
         obtain rfl := Option.some.inj H
         go_wp2
         go_ret
         exact ⟨g4_, laws_FnExactFromBelow.calls_q0⟩
        ·replace c60 := Bool.eq_false_iff.mpr c60
         subst c60
         replace H := ifn_ H
         replace H := Option.bind_eq_some_iff.mp H
         obtain ⟨⟨t536, t537⟩, A610, H⟩ := H
         replace H : ((laws_heldFracS.f kj41 t537 1).bind fun t538 => (if t538 < 0 then (some false) else (if t538 = t536 then ((laws_toBook.f kj41 l0_0 l0_1).bind fun bt539 => ((impl_FromBelow.f kj41 bt539.1 bt539.2 a1).bind fun bt545 => ((laws_eqFracS.f kj41 bt545.1 t511).bind fun t549 => (if t549 = true then (laws_FnExactFromBelow.j2 kj41 t537 t536 (bt545.2 != t514)) else (laws_FnExactFromBelow.j2 kj41 t537 t536 true))))) else (some false)))) = some r := H
         have A61 := Aside0.mk A610
         clear A610
         obtain ⟨t538, A62, H⟩ := bind_ H
         by_cases c63 : t538 < 0
         ·rw [if_pos c63] at H
          have c63b0 := decide_eq_true c63
          clear c63
          obtain rfl := Option.some.inj H
          obtain ⟨Ao64, co64, eo64⟩ := Kd.R_slice HO_9.out
          subst eo64
          go_wp2_with (first | ((with_reducible refine gate_callee (f := 27) rfl ?_); refine goesL_ (some 68) rfl rfl Try.func27 k_ rfl #[.slice Ao64 t522.length co64, .int .i64 1] rfl (g2_) ?_; (with_reducible refine (laws_markFracS.calls kj41 (fun k_ => some k_ = (.slice Ao64 t522.length co64 : Value).ownBlock) (.slice Ao64 t522.length co64) t522 1 t536 t537 w _ ?side1 ?side2 A61.out).mono ?_); (case side1 => exact laws_FnExactFromBelow.calls_q0); (case side2 => exact Kd.R_tight rfl HO_9.out); rintro e w65 ⟨rfl, hy0, hb, hkp⟩; refine ⟨_, rfl, ?_⟩; replace HO_6 := Aside0.mk (Kd.R_mono (ok' := fun k_ => some k_ ≠ (.slice Ao64 t522.length co64 : Value).ownBlock) (Kd.R_keptB (HO_6.out) hkp (fun k_ hk_ hs_ => (hk_) hs_)) (fun k_ hk_ => hk_.1)); replace BK503 := Aside0.mk (blk_kept (uf3_ BK503) hkp (fun hs_ => (fun e_ => (Kd.R_ne HO_9.out BK503.out (by decide)) e_) hs_)); replace HO_9 := Aside0.mk (Kd.R_reok rfl hy0 (fun k_ e_ => HO_9.out.1 k_ e_)); replace HB := Aside0.mk (hb); (try clear hb); (try clear hkp); (try clear hy0)) | ((with_reducible refine gate_callee (f := 28) rfl ?_); refine goesL_ (some 71) rfl rfl Try.func28 k_ rfl #[.slice Ao64 t537.length co64, .int .i64 1] rfl (g110_) ?_; (with_reducible refine (laws_heldFracS.calls kj41 _ _ t537 1 t538 _ ?side1 ?side2 A62.out).mono ?_); (case side1 => repeat (first | exact (Kd.R_reads' HO_9.out).2.2 | (with_reducible refine Kd.C_alloc ?_ _) | (with_reducible refine Kd.C_drewN ?_ _) | (with_reducible refine Kd.C_drew ?_))); (case side2 => rw [show t537.length = t522.length from (Kd.R_reads' HO_9.out).1.symm]; exact (Kd.R_reads' HO_9.out).2.1); rintro e w' ⟨rfl, ⟨nd, rfl⟩⟩; refine ⟨_, rfl, ?_⟩))
          go_ret
          exact ⟨g4_, laws_FnExactFromBelow.calls_q0⟩
         ·rw [if_neg c63] at H
          have c63b0 := decide_eq_false c63
          clear c63
          by_cases c66 : t538 = t536
          ·rw [if_pos c66] at H
           have c66b0 : (t538 == t536) = true := beq_iff_eq.mpr c66
           have c66b1 : (t538 != t536) = false := bne_eq_false_iff_eq.mpr c66
           clear c66
           replace H := Option.bind_eq_some_iff.mp H
           obtain ⟨⟨t539, t542⟩, A670, H⟩ := H
           replace H : ((impl_FromBelow.f kj41 t539 t542 a1).bind fun bt545 => ((laws_eqFracS.f kj41 bt545.1 t511).bind fun t549 => (if t549 = true then (laws_FnExactFromBelow.j2 kj41 t537 t536 (bt545.2 != t514)) else (laws_FnExactFromBelow.j2 kj41 t537 t536 true)))) = some r := H
           have A67 := Aside0.mk A670
           clear A670
           replace H := Option.bind_eq_some_iff.mp H
           obtain ⟨⟨t545, t548⟩, A680, H⟩ := H
           replace H : ((laws_eqFracS.f kj41 t545 t511).bind fun t549 => (if t549 = true then (laws_FnExactFromBelow.j2 kj41 t537 t536 (t548 != t514)) else (laws_FnExactFromBelow.j2 kj41 t537 t536 true))) = some r := H
           have A68 := Aside0.mk A680
           clear A680
           have HC69 := Aside0.mk H
           clear H
           obtain ⟨Ao70, co70, eo70⟩ := Kd.R_slice HO_9.out
           subst eo70
           go_upto_region 25 with (first | ((with_reducible refine gate_callee (f := 27) rfl ?_); refine goesL_ (some 68) rfl rfl Try.func27 k_ rfl #[.slice Ao70 t522.length co70, .int .i64 1] rfl (g2_) ?_; (with_reducible refine (laws_markFracS.calls kj41 (fun k_ => some k_ = (.slice Ao70 t522.length co70 : Value).ownBlock) (.slice Ao70 t522.length co70) t522 1 t536 t537 w _ ?side1 ?side2 A61.out).mono ?_); (case side1 => exact laws_FnExactFromBelow.calls_q0); (case side2 => exact Kd.R_tight rfl HO_9.out); rintro e w71 ⟨rfl, hy0, hb, hkp⟩; refine ⟨_, rfl, ?_⟩; replace HO_6 := Aside0.mk (Kd.R_mono (ok' := fun k_ => some k_ ≠ (.slice Ao70 t522.length co70 : Value).ownBlock) (Kd.R_keptB (HO_6.out) hkp (fun k_ hk_ hs_ => (hk_) hs_)) (fun k_ hk_ => hk_.1)); replace BK503 := Aside0.mk (blk_kept (uf3_ BK503) hkp (fun hs_ => (fun e_ => (Kd.R_ne HO_9.out BK503.out (by decide)) e_) hs_)); replace HO_9 := Aside0.mk (Kd.R_reok rfl hy0 (fun k_ e_ => HO_9.out.1 k_ e_)); replace HB := Aside0.mk (hb); (try clear hb); (try clear hkp); (try clear hy0)) | ((with_reducible refine gate_callee (f := 28) rfl ?_); refine goesL_ (some 71) rfl rfl Try.func28 k_ rfl #[.slice Ao70 t537.length co70, .int .i64 1] rfl (g110_) ?_; (with_reducible refine (laws_heldFracS.calls kj41 _ _ t537 1 t538 _ ?side1 ?side2 A62.out).mono ?_); (case side1 => repeat (first | exact (Kd.R_reads' HO_9.out).2.2 | (with_reducible refine Kd.C_alloc ?_ _) | (with_reducible refine Kd.C_drewN ?_ _) | (with_reducible refine Kd.C_drew ?_))); (case side2 => rw [show t537.length = t522.length from (Kd.R_reads' HO_9.out).1.symm]; exact (Kd.R_reads' HO_9.out).2.1); rintro e w' ⟨rfl, ⟨nd, rfl⟩⟩; refine ⟨_, rfl, ?_⟩; obtain ⟨hcz72_0, hcz72_1, hfz72_0, hfz72_1⟩ := blk2_ BK503) | ((with_reducible refine gate_callee (f := 22) rfl ?_); refine goesL_ (some 79) rfl rfl Try.func22 k_ rfl #[.agg #[.slice A0_0 l0_0.length c0_0, .slice A0_1 l0_1.length c0_1]] rfl (g2_) ?_; (with_reducible refine (laws_toBook.calls kj41 _ _ l0_0 _ _ l0_1 t539 t542 _ ?side1 ?side2 ?side3 ?side4 A67.out).mono ?_); (case side1 => repeat (first | exact (Kd.C_below HR0_0.out (laws_FnExactFromBelow.calls_q0)) | (with_reducible refine Kd.C_alloc ?_ _) | (with_reducible refine Kd.C_drewN ?_ _) | (with_reducible refine Kd.C_drew ?_))); (case side2 => exact HC0_0.out); (case side3 => repeat (first | exact (Kd.C_below HR0_1.out (laws_FnExactFromBelow.calls_q0)) | (with_reducible refine Kd.C_alloc ?_ _) | (with_reducible refine Kd.C_drewN ?_ _) | (with_reducible refine Kd.C_drew ?_))); (case side4 => exact HC0_1.out); rintro e w73 ⟨v540, v543, rfl, ho0, ho1, hb⟩; refine ⟨_, rfl, ?_⟩; replace HO_6 := Aside0.mk (Kd.R_below (uf1_ HO_6) hb); replace HO_9 := Aside0.mk (Kd.R_below (uf1_ HO_9) hb); have HO541 := Aside0.mk (Kd.R_lower ho0 (below_size (laws_FnExactFromBelow.calls_q0))); have HO544 := Aside0.mk (Kd.S_lower ho1 (below_size (laws_FnExactFromBelow.calls_q0))); replace BK503 := bb_ BK503 hb; replace HB := Aside0.mk (below_step (laws_FnExactFromBelow.calls_q0) hb); (try clear hb); (try clear hk hi); (try clear ho0); (try clear ho1); obtain ⟨Ao74, co74, eo74⟩ := Kd.R_slice HO541.out; subst eo74; obtain ⟨Ao75, co75, eo75⟩ := Kd.S_slice HO544.out; subst eo75) | ((with_reducible refine gate_callee (f := 44) rfl ?_); refine goesL_ (some 81) rfl rfl Try.func44 k_ rfl #[.agg #[.slice Ao74 t539.length co74, .slice Ao75 t542.length co75], .int .i64 a1] rfl (g2_) ?_; (with_reducible refine (impl_FromBelow.calls kj41 _ _ t539 _ _ t542 a1 t545 t548 _ ?side1 ?side2 ?side3 ?side4 A68.out).mono ?_); (case side1 => repeat (first | exact (Kd.R_reads' HO541.out).2.2 | (with_reducible refine Kd.C_alloc ?_ _) | (with_reducible refine Kd.C_drewN ?_ _) | (with_reducible refine Kd.C_drew ?_))); (case side2 => exact (Kd.R_reads' HO541.out).2.1); (case side3 => repeat (first | exact (Kd.S_reads' HO544.out).2.2 | (with_reducible refine Kd.C_alloc ?_ _) | (with_reducible refine Kd.C_drewN ?_ _) | (with_reducible refine Kd.C_drew ?_))); (case side4 => exact (Kd.S_reads' HO544.out).2.1); rintro e w76 ⟨v546, rfl, ho0, hb⟩; refine ⟨_, rfl, ?_⟩; replace HO541 := Aside0.mk (Kd.R_below (uf1_ HO541) hb); replace HO544 := Aside0.mk (Kd.S_below (uf2_ HO544) hb); have HO547 := Aside0.mk (Kd.R_lower (Kd.R_new' (Kd.R_new' ho0 (Kd.R_lt (uf1_ HO_6))) (Kd.R_lt (uf1_ HO_9))) (below_size (laws_FnExactFromBelow.calls_q0))); replace HO_6 := Aside0.mk (Kd.R_elder' (uf1_ HO_6) (Kd.R_base ho0) hb); replace HO_9 := Aside0.mk (Kd.R_elder' (uf1_ HO_9) (Kd.R_base ho0) hb); replace BK503 := bb_ BK503 hb; replace HB := Aside0.mk (below_step (laws_FnExactFromBelow.calls_q0) hb); (try clear hb); (try clear hk hi); (try clear ho0)))
           (try simp only [Act.put, List.setIfInBounds_toArray, List.set_cons_zero, List.set_cons_succ])
           go_cut [92] (fun v92 wc => ∃ (kq : Nat) (x92_68 : Bool), v92 = .bool x92_68 ∧ Aside0 (laws_FnExactFromBelow.j2 kq t537 t536 x92_68 = some r) ∧ Aside0 (kq ≤ kj41) ∧ Aside0 (Kd.R k36 36 wc w.heap.size (fun _ => True) (.slice Ao70 t522.length co70) t537) ∧ Aside0 (wc.heap[gb503]? = some (.cells #[(.slice A0_0 l0_0.length c0_0), (.slice A0_1 l0_1.length c0_1)] 39 (0, 0))) ∧ Aside0 (Below w.heap.size w wc))
           case first =>
            have H := HC69.out
            clear HC69
            obtain ⟨t549, A77, H⟩ := bind_ H
            by_cases c78 : t549 = true
            ·subst c78
             replace H := ifp_ H
             have H' := Aside0.mk H
             clear H
             obtain ⟨Ao79, co79, eo79⟩ := Kd.R_slice HO547.out
             subst eo79
             obtain ⟨Ao80, co80, eo80⟩ := Kd.R_slice HO_6.out
             subst eo80
             go_wp2_with (first | ((with_reducible refine gate_callee (f := 24) rfl ?_); refine goesL_ (some 86) rfl rfl Try.func24 k_ rfl #[.slice Ao79 t545.length co79, .slice Ao80 t511.length co80] rfl (g2_) ?_; (with_reducible refine (laws_eqFracS.calls kj41 _ _ t545 _ _ t511 true _ ?side1 ?side2 ?side3 ?side4 A77.out).mono ?_); (case side1 => repeat (first | exact (Kd.R_reads' HO547.out).2.2 | (with_reducible refine Kd.C_alloc ?_ _) | (with_reducible refine Kd.C_drewN ?_ _) | (with_reducible refine Kd.C_drew ?_))); (case side2 => exact (Kd.R_reads' HO547.out).2.1); (case side3 => repeat (first | exact (Kd.R_reads' HO_6.out).2.2 | (with_reducible refine Kd.C_alloc ?_ _) | (with_reducible refine Kd.C_drewN ?_ _) | (with_reducible refine Kd.C_drew ?_))); (case side4 => exact (Kd.R_reads' HO_6.out).2.1); rintro e w81 ⟨rfl, hb⟩; refine ⟨_, rfl, ?_⟩; replace HO_6 := Aside0.mk (Kd.R_below (uf1_ HO_6) hb); replace HO_9 := Aside0.mk (Kd.R_below (uf1_ HO_9) hb); replace HO541 := Aside0.mk (Kd.R_below (uf1_ HO541) hb); replace HO544 := Aside0.mk (Kd.S_below (uf2_ HO544) hb); replace HO547 := Aside0.mk (Kd.R_below (uf1_ HO547) hb); replace BK503 := bb_ BK503 hb; replace HB := Aside0.mk (below_step (laws_FnExactFromBelow.calls_q0) hb); (try clear hb); (try clear hk hi)))
             go_meet
             case rel => exact ⟨_, ((t548 != t514)), (g3_), H', ⟨g70_⟩, ⟨g56_⟩, ⟨uf3_ BK503⟩, ⟨laws_FnExactFromBelow.calls_q0⟩⟩
            ·replace c78 := Bool.eq_false_iff.mpr c78
             subst c78
             replace H := ifn_ H
             have H' := Aside0.mk H
             clear H
             obtain ⟨Ao82, co82, eo82⟩ := Kd.R_slice HO547.out
             subst eo82
             obtain ⟨Ao83, co83, eo83⟩ := Kd.R_slice HO_6.out
             subst eo83
             go_wp2_with (first | ((with_reducible refine gate_callee (f := 24) rfl ?_); refine goesL_ (some 86) rfl rfl Try.func24 k_ rfl #[.slice Ao82 t545.length co82, .slice Ao83 t511.length co83] rfl (g2_) ?_; (with_reducible refine (laws_eqFracS.calls kj41 _ _ t545 _ _ t511 false _ ?side1 ?side2 ?side3 ?side4 A77.out).mono ?_); (case side1 => repeat (first | exact (Kd.R_reads' HO547.out).2.2 | (with_reducible refine Kd.C_alloc ?_ _) | (with_reducible refine Kd.C_drewN ?_ _) | (with_reducible refine Kd.C_drew ?_))); (case side2 => exact (Kd.R_reads' HO547.out).2.1); (case side3 => repeat (first | exact (Kd.R_reads' HO_6.out).2.2 | (with_reducible refine Kd.C_alloc ?_ _) | (with_reducible refine Kd.C_drewN ?_ _) | (with_reducible refine Kd.C_drew ?_))); (case side4 => exact (Kd.R_reads' HO_6.out).2.1); rintro e w84 ⟨rfl, hb⟩; refine ⟨_, rfl, ?_⟩; replace HO_6 := Aside0.mk (Kd.R_below (uf1_ HO_6) hb); replace HO_9 := Aside0.mk (Kd.R_below (uf1_ HO_9) hb); replace HO541 := Aside0.mk (Kd.R_below (uf1_ HO541) hb); replace HO544 := Aside0.mk (Kd.S_below (uf2_ HO544) hb); replace HO547 := Aside0.mk (Kd.R_below (uf1_ HO547) hb); replace BK503 := bb_ BK503 hb; replace HB := Aside0.mk (below_step (laws_FnExactFromBelow.calls_q0) hb); (try clear hb); (try clear hk hi)))
             go_meet
             case rel => exact ⟨_, (true), (g3_), H', ⟨g70_⟩, ⟨g56_⟩, ⟨uf3_ BK503⟩, ⟨laws_FnExactFromBelow.calls_q0⟩⟩
           case rest =>
            clear HC69
            try clear c1
            try clear c2
            try clear p2
            try clear c3
            try clear c4
            try clear c4b0
            try clear c5
            try clear c6
            try clear c7
            try clear c10
            try clear c19
            try clear c22
            try clear c24
            try clear c25
            try clear c26
            try clear c27
            try clear c28
            try clear c30
            try clear c37
            try clear c40
            try clear c43
            try clear c44
            try clear c48
            try clear c51
            try clear c51b0
            try clear c53
            try clear c60
            try clear c63
            try clear c63b0
            try clear c66
            try clear c66b0
            try clear c66b1
            try clear c78
            try clear hcz14_0
            try clear hcz14_1
            try clear hcz16_0
            try clear hcz16_1
            try clear hcz21_0
            try clear hcz21_1
            try clear hcz26_0
            try clear hcz26_1
            try clear hcz49_0
            try clear hcz49_1
            try clear hcz6_0
            try clear hcz6_1
            try clear hcz72_0
            try clear hcz72_1
            try clear hfz14_0
            try clear hfz14_1
            try clear hfz16_0
            try clear hfz16_1
            try clear hfz21_0
            try clear hfz21_1
            try clear hfz26_0
            try clear hfz26_1
            try clear hfz49_0
            try clear hfz49_1
            try clear hfz6_0
            try clear hfz6_1
            try clear hfz72_0
            try clear hfz72_1
            try clear p2
            obtain ⟨kq, x92_68, rfl, HA, HJ68, HO_9, BK503, HB⟩ := hcut
            have hl9_68 := (Kd.R_reads' HO_9.out).1
            rw [hl9_68] at HO_9
            (try simp only [hl9_68])
            (try simp only [hl9_68] at BK503)
            cases kq with
            | zero => exact absurd HA.out (by simp [laws_FnExactFromBelow.j2])
            | succ kj68 =>
             have H := HA.out
             clear HA
             simp only [laws_FnExactFromBelow.j2] at H
             by_cases c85 : x92_68 = true
             ·subst c85
              replace H := ifp_ H
              obtain rfl := Option.some.inj H
              go_wp2
              go_ret
              exact ⟨g4_, laws_FnExactFromBelow.calls_q0⟩
             ·replace c85 := Bool.eq_false_iff.mpr c85
              subst c85
              replace H := ifn_ H
              obtain ⟨t550, A86, H⟩ := bind_ H
              by_cases c87 : t550 < 0
              ·rw [if_pos c87] at H
               have c87b0 := decide_eq_true c87
               clear c87
               obtain rfl := Option.some.inj H
               go_wp2_with (first | ((with_reducible refine gate_callee (f := 28) rfl ?_); refine goesL_ (some 95) rfl rfl Try.func28 k_ rfl #[.slice Ao70 t537.length co70, .int .i64 1] rfl (g2_) ?_; (with_reducible refine (laws_heldFracS.calls kj68 _ _ t537 1 t550 _ ?side1 ?side2 A86.out).mono ?_); (case side1 => repeat (first | exact (Kd.R_reads' HO_9.out).2.2 | (with_reducible refine Kd.C_alloc ?_ _) | (with_reducible refine Kd.C_drewN ?_ _) | (with_reducible refine Kd.C_drew ?_))); (case side2 => exact (Kd.R_reads' HO_9.out).2.1); rintro e w' ⟨rfl, ⟨nd, rfl⟩⟩; refine ⟨_, rfl, ?_⟩))
               go_ret
               exact ⟨g4_, laws_FnExactFromBelow.calls_q0⟩
              ·rw [if_neg c87] at H
               have c87b0 := decide_eq_false c87
               clear c87
               by_cases c88 : t550 = t536
               ·rw [if_pos c88] at H
                have c88b0 : (t550 == t536) = true := beq_iff_eq.mpr c88
                have c88b1 : (t550 != t536) = false := bne_eq_false_iff_eq.mpr c88
                clear c88
                obtain rfl := Option.some.inj H
                go_wp2_with (first | ((with_reducible refine gate_callee (f := 28) rfl ?_); refine goesL_ (some 95) rfl rfl Try.func28 k_ rfl #[.slice Ao70 t537.length co70, .int .i64 1] rfl (g2_) ?_; (with_reducible refine (laws_heldFracS.calls kj68 _ _ t537 1 t550 _ ?side1 ?side2 A86.out).mono ?_); (case side1 => repeat (first | exact (Kd.R_reads' HO_9.out).2.2 | (with_reducible refine Kd.C_alloc ?_ _) | (with_reducible refine Kd.C_drewN ?_ _) | (with_reducible refine Kd.C_drew ?_))); (case side2 => exact (Kd.R_reads' HO_9.out).2.1); rintro e w' ⟨rfl, ⟨nd, rfl⟩⟩; refine ⟨_, rfl, ?_⟩))
                go_ret
                exact ⟨g4_, laws_FnExactFromBelow.calls_q0⟩
               ·rw [if_neg c88] at H
                have c88b0 : (t550 == t536) = false := beq_eq_false_iff_ne.mpr c88
                have c88b1 : (t550 != t536) = true := bne_iff_ne.mpr c88
                obtain rfl := Option.some.inj H
                go_wp2_with (first | ((with_reducible refine gate_callee (f := 28) rfl ?_); refine goesL_ (some 95) rfl rfl Try.func28 k_ rfl #[.slice Ao70 t537.length co70, .int .i64 1] rfl (g2_) ?_; (with_reducible refine (laws_heldFracS.calls kj68 _ _ t537 1 t550 _ ?side1 ?side2 A86.out).mono ?_); (case side1 => repeat (first | exact (Kd.R_reads' HO_9.out).2.2 | (with_reducible refine Kd.C_alloc ?_ _) | (with_reducible refine Kd.C_drewN ?_ _) | (with_reducible refine Kd.C_drew ?_))); (case side2 => exact (Kd.R_reads' HO_9.out).2.1); rintro e w' ⟨rfl, ⟨nd, rfl⟩⟩; refine ⟨_, rfl, ?_⟩))
                go_ret
                exact ⟨g4_, laws_FnExactFromBelow.calls_q0⟩
          ·rw [if_neg c66] at H
           have c66b0 : (t538 == t536) = false := beq_eq_false_iff_ne.mpr c66
           have c66b1 : (t538 != t536) = true := bne_iff_ne.mpr c66
           obtain rfl := Option.some.inj H
           obtain ⟨Ao89, co89, eo89⟩ := Kd.R_slice HO_9.out
           subst eo89
           go_wp2_with (first | ((with_reducible refine gate_callee (f := 27) rfl ?_); refine goesL_ (some 68) rfl rfl Try.func27 k_ rfl #[.slice Ao89 t522.length co89, .int .i64 1] rfl (g2_) ?_; (with_reducible refine (laws_markFracS.calls kj41 (fun k_ => some k_ = (.slice Ao89 t522.length co89 : Value).ownBlock) (.slice Ao89 t522.length co89) t522 1 t536 t537 w _ ?side1 ?side2 A61.out).mono ?_); (case side1 => exact laws_FnExactFromBelow.calls_q0); (case side2 => exact Kd.R_tight rfl HO_9.out); rintro e w90 ⟨rfl, hy0, hb, hkp⟩; refine ⟨_, rfl, ?_⟩; replace HO_6 := Aside0.mk (Kd.R_mono (ok' := fun k_ => some k_ ≠ (.slice Ao89 t522.length co89 : Value).ownBlock) (Kd.R_keptB (HO_6.out) hkp (fun k_ hk_ hs_ => (hk_) hs_)) (fun k_ hk_ => hk_.1)); replace BK503 := Aside0.mk (blk_kept (uf3_ BK503) hkp (fun hs_ => (fun e_ => (Kd.R_ne HO_9.out BK503.out (by decide)) e_) hs_)); replace HO_9 := Aside0.mk (Kd.R_reok rfl hy0 (fun k_ e_ => HO_9.out.1 k_ e_)); replace HB := Aside0.mk (hb); (try clear hb); (try clear hkp); (try clear hy0)) | ((with_reducible refine gate_callee (f := 28) rfl ?_); refine goesL_ (some 71) rfl rfl Try.func28 k_ rfl #[.slice Ao89 t537.length co89, .int .i64 1] rfl (g110_) ?_; (with_reducible refine (laws_heldFracS.calls kj41 _ _ t537 1 t538 _ ?side1 ?side2 A62.out).mono ?_); (case side1 => repeat (first | exact (Kd.R_reads' HO_9.out).2.2 | (with_reducible refine Kd.C_alloc ?_ _) | (with_reducible refine Kd.C_drewN ?_ _) | (with_reducible refine Kd.C_drew ?_))); (case side2 => rw [show t537.length = t522.length from (Kd.R_reads' HO_9.out).1.symm]; exact (Kd.R_reads' HO_9.out).2.1); rintro e w' ⟨rfl, ⟨nd, rfl⟩⟩; refine ⟨_, rfl, ?_⟩))
           go_ret
           exact ⟨g4_, laws_FnExactFromBelow.calls_q0⟩
     ·replace c40 := Bool.eq_false_iff.mpr c40
      subst c40
      replace H := ifn_ H
      obtain rfl := Option.some.inj H
      try go_wp2
      replace HO_6 := Aside0.mk (Kd.R_drew HO_6.out)
      replace HO_9 := Aside0.mk (Kd.R_drew HO_9.out)
      replace HO_522000 := Aside0.mk (Kd.R_drew HO_522000.out)
      replace HO_522001 := Aside0.mk (Kd.S_drew HO_522001.out)
      replace BK503 := Aside0.mk (blk_drew BK503.out)
      replace BK521 := Aside0.mk (blk_drew BK521.out)
      replace HB := Aside0.mk (below_drew1 HB.out)
      refine start_ (n := 5) (S := fun w' => w'.cell? ⟨gb521, 0, none⟩ = some (.slice Ao24 t515.length co24) ∧ w'.cell? ⟨gb521, 1, none⟩ = some (.slice Ao27 t518.length co27) ∧ w'.cell? ⟨gb503, 0, none⟩ = some (.slice A0_0 l0_0.length c0_0) ∧ w'.cell? ⟨gb503, 1, none⟩ = some (.slice A0_1 l0_1.length c0_1)) (ds := []) (tl_ 5 0) (g0_) rfl (g0_) ⟨(blk_cell BK521.out 0).trans rfl, (blk_cell BK521.out 1).trans rfl, (blk_cell BK503.out 0).trans rfl, (blk_cell BK503.out 1).trans rfl⟩ (fun hHeld => ?_)
      generalize wc.drew = w91 at HO_6 HO_9 HO_522000 HO_522001 BK503 BK521 HB hHeld ⊢
      refine take_ (i := 0) (N := some 45) (v := ?_) (a' := ?_) (tl_ 5 1) rfl rfl (g0_) (fun _ _ _ h => h) (Or.inl ⟨by rfl, ?_⟩) hHeld ?_ ?_
      rotate_left
      ·rintro w' ⟨s0, s1, s2, s3⟩
       go_simp
       with_reducible rfl
      rotate_left
      ·simp only [Act.put, List.setIfInBounds_toArray, List.set_cons_zero, List.set_cons_succ, i64_w, i32_w]
       rfl
      refine take_ (i := 1) (N := some 46) (v := ?_) (a' := ?_) (tl_ 5 3) rfl rfl (g0_) (fun _ _ _ h => h) (Or.inl ⟨by rfl, ?_⟩) hHeld ?_ ?_
      rotate_left
      ·rintro w' ⟨s0, s1, s2, s3⟩
       go_simp
       with_reducible rfl
      rotate_left
      ·simp only [Act.put, List.setIfInBounds_toArray, List.set_cons_zero, List.set_cons_succ, i64_w, i32_w]
       rfl
      refine one_ (i := 2) (N := some 47) (tl_ 5 7) rfl rfl (g0_) (by decide) (fun K hK => ?_)
      refine goes_ Try.func22 (g0_) rfl #[.agg #[.slice A0_0 l0_0.length c0_0, .slice A0_1 l0_1.length c0_1]] (by rfl) rfl rfl (g2_) ?_
      with_reducible refine (laws_toBook.calls kj11 _ _ l0_0 _ _ l0_1 t527 t530 _ ?side1 ?side2 ?side3 ?side4 A38.out).mono ?_
      (case side1 => exact uf0_ HR0_0)
      (case side2 => exact HC0_0.out)
      (case side3 => exact uf0_ HR0_1)
      (case side4 => exact HC0_1.out)
      rintro e w92 ⟨v528, v531, rfl, ho0, ho1, hb⟩
      refine ⟨_, rfl, ?_⟩
      replace HO_6 := Aside0.mk (Kd.R_below (uf1_ HO_6) hb)
      replace HO_9 := Aside0.mk (Kd.R_below (uf1_ HO_9) hb)
      have HO529 := Aside0.mk (Kd.R_lower (Kd.R_new' ho0 (Kd.R_lt (uf1_ HO_522000))) (below_size (laws_FnExactFromBelow.calls_q0)))
      have HO532 := Aside0.mk (Kd.S_lower (Kd.S_new' (Kd.S_new' ho1 (Kd.R_lt (uf1_ HO_522000))) (Kd.S_lt (uf2_ HO_522001))) (below_size (laws_FnExactFromBelow.calls_q0)))
      replace HO_522000 := Aside0.mk (Kd.R_elder' (uf1_ HO_522000) (Kd.R_base ho0) hb)
      replace HO_522001 := Aside0.mk (Kd.S_mono (Kd.S_told (Kd.S_told (Kd.S_old (uf2_ HO_522001) hb) (Kd.R_base ho0)) (Kd.S_base ho1)) (fun _ h_ => h_.1))
      replace BK503 := bb_ BK503 hb
      replace BK521 := bb_ BK521 hb
      replace HB := Aside0.mk (below_step (laws_FnExactFromBelow.calls_q0) hb)
      (try clear hb)
      (try clear hk hi)
      (try clear ho0)
      (try clear ho1)
      obtain ⟨Ao93, co93, eo93⟩ := Kd.R_slice HO529.out
      (first | subst eo93 | (injection eo93 with f1_ f2_ f3_; have f4_ := f1_.symm; have f5_ := f3_.symm; clear f1_ f2_ f3_; subst f4_; subst f5_))
      obtain ⟨Ao94, co94, eo94⟩ := Kd.S_slice HO532.out
      (first | subst eo94 | (injection eo94 with f1_ f2_ f3_; have f4_ := f1_.symm; have f5_ := f3_.symm; clear f1_ f2_ f3_; subst f4_; subst f5_))
      refine hK.out _ _ ⟨(blk_cell BK521.out 0).trans rfl, (blk_cell BK521.out 1).trans rfl, (blk_cell BK503.out 0).trans rfl, (blk_cell BK503.out 1).trans rfl⟩ (fun hHeld => ?_)
      clear hK K
      refine nm_ ?_
      refine one_ (i := 3) (N := some 48) (tl_ 5 15) rfl rfl (g0_) (by decide) (fun K hK => ?_)
      refine goes_ Try.func25 (g0_) rfl #[.agg #[.slice Ao24 t515.length co24, .slice Ao27 t518.length co27], .agg #[.slice Ao93 t527.length co93, .slice Ao94 t530.length co94]] (by rfl) rfl rfl (g2_) ?_
      with_reducible refine (laws_eqBook.calls kj11 _ _ t515 _ _ t518 _ _ t527 _ _ t530 false _ ?side1 ?side2 ?side3 ?side4 ?side5 ?side6 ?side7 ?side8 A39.out).mono ?_
      (case side1 => repeat (first | exact (Kd.R_reads' HO_522000.out).2.2 | (with_reducible refine Kd.C_alloc ?_ _) | (with_reducible refine Kd.C_drewN ?_ _) | (with_reducible refine Kd.C_drew ?_)))
      (case side2 => exact (Kd.R_reads' HO_522000.out).2.1)
      (case side3 => repeat (first | exact (Kd.S_reads' HO_522001.out).2.2 | (with_reducible refine Kd.C_alloc ?_ _) | (with_reducible refine Kd.C_drewN ?_ _) | (with_reducible refine Kd.C_drew ?_)))
      (case side4 => exact (Kd.S_reads' HO_522001.out).2.1)
      (case side5 => repeat (first | exact (Kd.R_reads' HO529.out).2.2 | (with_reducible refine Kd.C_alloc ?_ _) | (with_reducible refine Kd.C_drewN ?_ _) | (with_reducible refine Kd.C_drew ?_)))
      (case side6 => exact (Kd.R_reads' HO529.out).2.1)
      (case side7 => repeat (first | exact (Kd.S_reads' HO532.out).2.2 | (with_reducible refine Kd.C_alloc ?_ _) | (with_reducible refine Kd.C_drewN ?_ _) | (with_reducible refine Kd.C_drew ?_)))
      (case side8 => exact (Kd.S_reads' HO532.out).2.1)
      rintro e w95 ⟨rfl, hb⟩
      refine ⟨_, rfl, ?_⟩
      replace HO_6 := Aside0.mk (Kd.R_below (uf1_ HO_6) hb)
      replace HO_9 := Aside0.mk (Kd.R_below (uf1_ HO_9) hb)
      replace HO_522000 := Aside0.mk (Kd.R_below (uf1_ HO_522000) hb)
      replace HO_522001 := Aside0.mk (Kd.S_below (uf2_ HO_522001) hb)
      replace HO529 := Aside0.mk (Kd.R_below (uf1_ HO529) hb)
      replace HO532 := Aside0.mk (Kd.S_below (uf2_ HO532) hb)
      replace BK503 := bb_ BK503 hb
      replace BK521 := bb_ BK521 hb
      replace HB := Aside0.mk (below_step (laws_FnExactFromBelow.calls_q0) hb)
      (try clear hb)
      (try clear hk hi)
      refine hK.out _ _ ⟨(blk_cell BK521.out 0).trans rfl, (blk_cell BK521.out 1).trans rfl, (blk_cell BK503.out 0).trans rfl, (blk_cell BK503.out 1).trans rfl⟩ (fun hHeld => ?_)
      clear hK K
      refine nm_ ?_
      refine pure_ (i := 4) (N := some 49) (v := ?_) (a' := ?_) (tl_ 5 31) rfl rfl (g0_) (fun _ _ _ h => h) (Or.inl ⟨by rfl, ?_⟩) ?_ ?_
      rotate_left
      ·intro w'
       go_simp
       with_reducible rfl
      rotate_left
      ·simp only [Act.put, List.setIfInBounds_toArray, List.set_cons_zero, List.set_cons_succ, i64_w, i32_w]
       rfl
      refine done_ (g0_) ?_
      try go_wp2
      go_ret
      exact ⟨g4_, laws_FnExactFromBelow.calls_q0⟩
end Go.Proofs.Ytcjmpjiclnfjmaa.PU

namespace Go.Proofs.Ytcjmpjiclnfjmaa.Op
open Go.RowKit Go.Deep Go.Proofs.YtcjmpjiclnfjmaaW.PrintWords
set_option linter.unusedVariables false
set_option linter.unusedSimpArgs false
variable {α β : Type} {P : Program} {t e : TypeId}
def Opens (P : Program) (t : TypeId) (d : Kd α) (G : α → Prop) : Prop :=
  P.cellsOf t = d.sz ∧ ∀ (H : Type) (enc : TypeId × Value → H) (W : World) (fuel : Nat) (cs : List Value) (x : DataW H × List MemPlace),
    DataW.trod enc P W 0 (fun _ => true) true fuel t cs = some x → ∃ a, d.K W a cs ∧ G a
theorem opens_int {k : IntKind} (ht : P.underlying t = some (.int k)) (hc : P.cellsOf t = 1) : Opens P t (Kd.int k) (fun _ => True) :=
  ⟨hc, fun H enc W fuel cs x h => by
    obtain ⟨n, rfl, _, _⟩ := DataW.trod_int ht h
    exact ⟨n, rfl, trivial⟩⟩
theorem opens_slice {d : Kd α} {G : α → Prop} (ht : P.underlying t = some (.slice e)) (hc : P.cellsOf t = 1) (ho : Opens P e d G) :
    Opens P t (Kd.slice e d) (fun xs => xs.length ≤ maxLen ∧ ∀ x ∈ xs, G x) := by
  refine ⟨hc, fun H enc W fuel cs x h => ?_⟩
  rcases open_slice ht h with ⟨rfl, _⟩ | ⟨a, len, cap, m, n, D, Pl, rfl, _, hl, hm, hmm, _, hx⟩
  · exact ⟨[], ⟨none, 0, rfl, Nat.le_refl _, Kd.C_nil d W⟩, by simp, fun x hx => by cases hx⟩
  · have hmc : m = cap := by simpa using hmm
    subst hmc
    have hall : ∀ i, i < len → ∃ y c, c.length = d.sz ∧ d.K W y c ∧ G y ∧ ∀ j u, c[j]? = some u → W.cell? (a.add (i * d.sz + j)) = some u := by
      intro i hi
      obtain ⟨cs', h1, h2⟩ := hx i (by omega)
      obtain ⟨y, hK, hG⟩ := ho.2 H enc W n cs' _ h2
      rw [ho.1] at h1
      obtain ⟨_, hlen, hcell⟩ := World.cells?_some h1
      refine ⟨y, cs', hlen, hK, hG, fun j u hu => ?_⟩
      have hj : j < d.sz := by have := (List.getElem?_eq_some_iff.1 hu).1; omega
      have := hcell j hj
      rw [Deep.add_add, hu] at this
      exact this
    refine ⟨List.ofFn (fun i : Fin len => Classical.choose (hall i.1 i.2)), ⟨some a, m, by rw [List.length_ofFn], by rw [List.length_ofFn]; exact hl, ?_⟩, by rw [List.length_ofFn]; omega, ?_⟩
    · rw [List.length_ofFn]
      refine ⟨List.length_ofFn, by unfold maxLen at hm; omega, fun _ => ⟨a, rfl, fun j p hp => ?_⟩⟩
      have hj : j < len := by have := (List.getElem?_eq_some_iff.1 hp).1; rwa [List.length_ofFn] at this
      have hp' : p = Classical.choose (hall j hj) := by
        rw [List.getElem?_ofFn, dif_pos hj] at hp
        exact (Option.some.inj hp).symm
      subst hp'
      obtain ⟨c, h1, h2, _, h4⟩ := Classical.choose_spec (hall j hj)
      exact ⟨c, h1, h2, h4⟩
    · intro x hx
      obtain ⟨i, hi, rfl⟩ := List.getElem_of_mem hx
      rw [List.getElem_ofFn]
      obtain ⟨c, _, _, h3, _⟩ := Classical.choose_spec (hall i (by rwa [List.length_ofFn] at hi))
      exact h3
def OpensF (P : Program) (fs : List Field) (off : Nat) (d : Kd α) (G : α → Prop) : Prop :=
  ∀ (H : Type) (enc : TypeId × Value → H) (W : World) (n : Nat) (cs : List Value), cs.length = off + d.sz →
    (∀ (i : Nat) (f : Field), fs[i]? = some f → ∃ y, DataW.trod enc P W 0 (fun _ => true) true n f.type ((cs.drop f.offset).take (P.cellsOf f.type)) = some y) →
    ∃ a, d.K W a (cs.drop off) ∧ G a
theorem opensF_one {d : Kd α} {G : α → Prop} {f : Field} {off : Nat} (ho : f.offset = off) (h : Opens P f.type d G) : OpensF P [f] off d G := by
  intro H enc W n cs hl hf
  obtain ⟨y, hy⟩ := hf 0 f rfl
  rw [ho, h.1, List.take_of_length_le (by rw [List.length_drop]; omega)] at hy
  exact h.2 H enc W n _ y hy
theorem opensF_cons {da : Kd α} {db : Kd β} {Ga : α → Prop} {Gb : β → Prop} {f : Field} {fs : List Field} {off : Nat} (ho : f.offset = off) (h : Opens P f.type da Ga) (hr : OpensF P fs (off + da.sz) db Gb) :
    OpensF P (f :: fs) off (Kd.pair da db) (fun x => Ga x.1 ∧ Gb x.2) := by
  intro H enc W n cs hl hf
  have hl' : cs.length = off + da.sz + db.sz := by have : (Kd.pair da db).sz = da.sz + db.sz := rfl; omega
  obtain ⟨y, hy⟩ := hf 0 f rfl
  rw [ho, h.1] at hy
  obtain ⟨a, hK, hG⟩ := h.2 H enc W n _ y hy
  obtain ⟨b, hK2, hG2⟩ := hr H enc W n cs hl' (fun i g hg => hf (i + 1) g (by simpa using hg))
  refine ⟨(a, b), ⟨_, _, ?_, hK, hK2⟩, hG, hG2⟩
  rw [← List.drop_drop]
  exact (List.take_append_drop _ _).symm
theorem opens_struct {d : Kd α} {G : α → Prop} {fs : Array Field} (ht : P.underlying t = some (.struct fs)) (hc : P.cellsOf t = d.sz) (hF : OpensF P fs.toList 0 d G) : Opens P t d G := by
  refine ⟨hc, fun H enc W fuel cs x h => ?_⟩
  obtain ⟨xs, n, _, _, hl, hlen, hf⟩ := DataW.trod_struct ht h
  have := hF H enc W n cs (by rw [hl, hc, Nat.zero_add]) (fun i f hi => by
    have hi' : fs[i]? = some f := by simpa using hi
    have hlt : i < xs.length := by
      have := (Array.getElem?_eq_some_iff.1 hi').1
      omega
    exact ⟨xs[i], by rw [hf i f hi', List.getElem?_eq_getElem hlt]⟩)
  simpa using this
theorem open_agg {H : Type} {enc : TypeId × Value → H} {W : World} {d : Kd α} {G : α → Prop} {v : Value} {dd : DataW H} {ps : List MemPlace} (ho : Opens P t d G) (hv : ∃ cs, v = .agg cs ∧ cs.size = P.cellsOf t)
    (h : DataW.Trod enc P W 0 (fun _ => true) true t v dd ps) : ∃ cs x, v = .agg cs ∧ d.K W x cs.toList ∧ G x := by
  obtain ⟨cs, rfl, _⟩ := hv
  obtain ⟨fuel, hf⟩ := h
  obtain ⟨x, hK, hG⟩ := ho.2 H enc W fuel _ _ hf
  exact ⟨cs, x, rfl, hK, hG⟩
end Go.Proofs.Ytcjmpjiclnfjmaa.Op

namespace Go.Proofs.Ytcjmpjiclnfjmaa.Qh
open Go.RowKit Go.Proofs.YtcjmpjiclnfjmaaW.PrintWords Go.Proofs.YtcjmpjiclnfjmaaW.PrintMore
set_option linter.unusedVariables false
set_option linter.unusedSimpArgs false
theorem w64 {n : Int} (h1 : -9223372036854775808 ≤ n) (h2 : n ≤ 9223372036854775807) : wrap64 n = n := by unfold wrap64; omega
theorem wsucc {i n : Nat} (h : i < n) (hn : n ≤ 4611686018427387904) : wrap64 ((i : Int) + 1) = ((i + 1 : Nat) : Int) := by unfold wrap64; omega
section
variable {α β : Type} {r : α}
theorem evPos {c : Prop} [Decidable c] {g f : Nat → Option α} (h : c) (k : Ev g r) : Ev (fun n => if c then g n else f n) r := by
  simp only [if_pos h]; exact k
theorem evNeg {c : Prop} [Decidable c] {g f : Nat → Option α} (h : ¬ c) (k : Ev f r) : Ev (fun n => if c then g n else f n) r := by
  simp only [if_neg h]; exact k
theorem evT {g f : Nat → Option α} {b : Bool} (h : b = true) (k : Ev g r) : Ev (fun n => if b = true then g n else f n) r := evPos h k
theorem evBind0 {g : Option β} {f : Nat → β → Option α} {a : β} (h : g = some a) (k : Ev (fun n => f n a) r) : Ev (fun n => g.bind (f n)) r := by
  subst h; exact k
theorem evNow {g : Option α} (h : g = some r) : Ev (fun _ => g) r := by subst h; exact Ev.now r
theorem evEq {g : Nat → Option α} {q : α} (h : Ev g q) (e : q = r) : Ev g r := e ▸ h
end
theorem rd_get (xs : List Int) (i : Nat) (h : i < xs.length) : rd xs (i : Int) = xs[i] := by
  simp [rd, List.getD_eq_getElem?_getD, List.getElem?_eq_getElem h]
theorem drop_of {α : Type} (xs : List α) (d : α) (i : Nat) (h : i < xs.length) : xs.drop i = xs.getD i d :: xs.drop (i + 1) := by
  rw [List.drop_eq_getElem_cons h]; simp [List.getD_eq_getElem?_getD, List.getElem?_eq_getElem h]
theorem getD_set {α : Type} (xs : List α) (d v : α) (i j : Nat) (h : i < xs.length) : (xs.set i v).getD j d = if i = j then v else xs.getD j d := by
  simp only [List.getD_eq_getElem?_getD, List.getElem?_set]
  by_cases e : i = j
  · subst e; simp [h]
  · simp [e]
theorem rd_set (xs : List Int) (v : Int) (i j : Int) (h0 : 0 ≤ i) (h : i < xs.length) (hj : 0 ≤ j) : rd (xs.set i.toNat v) j = if i = j then v else rd xs j := by
  unfold rd
  rw [getD_set xs 0 v i.toNat j.toNat (by omega)]
  by_cases e : i = j
  · subst e; simp
  · rw [if_neg e, if_neg (by omega)]
theorem ext_rd (xs ys : List Int) (hl : xs.length = ys.length) (h : ∀ i : Nat, i < xs.length → rd xs (i : Int) = rd ys (i : Int)) : xs = ys := by
  apply List.ext_getElem hl
  intro i h1 h2
  have := h i h1
  rwa [rd_get xs i h1, rd_get ys i h2] at this
theorem ext_getD {α : Type} (d : α) (xs ys : List α) (hl : xs.length = ys.length) (h : ∀ i : Nat, i < xs.length → xs.getD i d = ys.getD i d) : xs = ys := by
  apply List.ext_getElem hl
  intro i h1 h2
  have := h i h1
  simpa [List.getD_eq_getElem?_getD, List.getElem?_eq_getElem h1, List.getElem?_eq_getElem h2] using this
theorem getD_mem {α : Type} (d : α) (xs : List α) (i : Nat) (h : i < xs.length) : xs.getD i d ∈ xs := by
  simp [List.getD_eq_getElem?_getD, List.getElem?_eq_getElem h]
def EvB (g : Nat → Option Bool) (p : Prop) : Prop := ∃ b, (b = true ↔ p) ∧ Ev g b
section
variable {g f : Nat → Option Bool} {p q : Prop}
theorem EvB.congr (h : EvB g p) (e : p ↔ q) : EvB g q := by obtain ⟨b, h1, h2⟩ := h; exact ⟨b, h1.trans e, h2⟩
theorem EvB.tt (h : p) : EvB (fun _ => some true) p := ⟨true, by simp [h], Ev.now _⟩
theorem EvB.ff (h : ¬ p) : EvB (fun _ => some false) p := ⟨false, by simp [h], Ev.now _⟩
theorem EvB.pos {c : Prop} [Decidable c] (h : c) (k : EvB g p) : EvB (fun n => if c then g n else f n) p := by obtain ⟨b, h1, h2⟩ := k; exact ⟨b, h1, evPos h h2⟩
theorem EvB.neg {c : Prop} [Decidable c] (h : ¬ c) (k : EvB f p) : EvB (fun n => if c then g n else f n) p := by obtain ⟨b, h1, h2⟩ := k; exact ⟨b, h1, evNeg h h2⟩
theorem EvB.step {g f : Nat → Option Bool} (h : ∀ k, g (k + 1) = f k) (k : EvB f p) : EvB g p := by obtain ⟨b, h1, h2⟩ := k; exact ⟨b, h1, Ev.step h h2⟩
theorem EvB.bind {β : Type} {g : Nat → Option β} {f : Nat → β → Option Bool} {a : β} (h : Ev g a) (k : EvB (fun n => f n a) p) : EvB (fun n => (g n).bind (f n)) p := by obtain ⟨b, h1, h2⟩ := k; exact ⟨b, h1, Ev.bind h h2⟩
theorem EvB.bind0 {β : Type} {g : Option β} {f : Nat → β → Option Bool} {a : β} (h : g = some a) (k : EvB (fun n => f n a) p) : EvB (fun n => g.bind (f n)) p := by obtain ⟨b, h1, h2⟩ := k; exact ⟨b, h1, evBind0 h h2⟩
theorem EvB.yes (h : EvB g p) (hp : p) : Ev g true := by obtain ⟨b, h1, h2⟩ := h; rw [h1.2 hp] at h2; exact h2
theorem EvB.no (h : EvB g p) (hp : ¬ p) : Ev g false := by
  obtain ⟨b, h1, h2⟩ := h
  have : b = false := by cases b with
    | true => exact absurd (h1.1 rfl) hp
    | false => rfl
  rw [this] at h2; exact h2
end
end Go.Proofs.Ytcjmpjiclnfjmaa.Qh

namespace Go.Proofs.Ytcjmpjiclnfjmaa.Bk
open Go.RowKit Go.Proofs.Ytcjmpjiclnfjmaa.PU Go.Proofs.Ytcjmpjiclnfjmaa.Qh Go.Proofs.YtcjmpjiclnfjmaaW.PrintWords Go.Proofs.YtcjmpjiclnfjmaaW.PrintMore
set_option linter.unusedVariables false
set_option linter.unusedSimpArgs false
def RowP (c : List Int) (d : List (List Int)) (i : Nat) : Prop :=
  0 ≤ rd c (i : Int) ∧ rd c (i : Int) ≤ 20 ∧ (rd_L1 d (i : Int)).length = c.length ∧ rd (rd_L1 d (i : Int)) (i : Int) = 0 ∧ ∀ j : Nat, j < c.length → 0 ≤ rd (rd_L1 d (i : Int)) (j : Int) ∧ rd (rd_L1 d (i : Int)) (j : Int) ≤ 9
def BookP (c : List Int) (d : List (List Int)) : Prop := 1 ≤ c.length ∧ c.length ≤ 4 ∧ d.length = c.length ∧ ∀ i : Nat, i < c.length → RowP c d i
theorem ib_l1 (c : List Int) (d : List (List Int)) (row : List Int) (x3 : Int) (i : Nat) (hrow : row.length ≤ 4) (hi : i < d.length) (hd : d.length ≤ 4) {R : Prop}
    (hR : EvB (fun k => impl_isBook.l0 k x3 d (d.length : Int) ((i + 1 : Nat) : Int) c d) R) : ∀ (e j : Nat), row.length - j = e → j ≤ row.length →
    EvB (fun k => impl_isBook.l1 k x3 d (d.length : Int) (i : Int) row (row.length : Int) (j : Int) c d) ((∀ j' : Nat, j ≤ j' → j' < row.length → 0 ≤ rd row (j' : Int) ∧ rd row (j' : Int) ≤ 9) ∧ R) := by
  have hs : wrap64 ((i : Int) + 1) = ((i + 1 : Nat) : Int) := wsucc hi (by omega)
  intro e
  induction e with
  | zero =>
    intro j he hj
    refine EvB.step (fun k => by rw [impl_isBook.l1]) ?_
    rw [hs]
    exact EvB.neg (by omega) (hR.congr ⟨fun h => ⟨fun j' h1 h2 => by omega, h⟩, fun h => h.2⟩)
  | succ e ih =>
    intro j he hj
    have hlt : j < row.length := by omega
    have hj1 : wrap64 ((j : Int) + 1) = ((j + 1 : Nat) : Int) := wsucc hlt (by omega)
    refine EvB.step (fun k => by rw [impl_isBook.l1]) ?_
    refine EvB.pos (by omega) (EvB.pos (by omega) (EvB.pos (by omega) ?_))
    by_cases h1 : rd row (j : Int) < 0
    · exact EvB.pos h1 (EvB.ff (fun h => by have := h.1 j (Nat.le_refl _) hlt; omega))
    · refine EvB.neg h1 ?_
      by_cases h2 : rd row (j : Int) > 9
      · exact EvB.pos h2 (EvB.ff (fun h => by have := h.1 j (Nat.le_refl _) hlt; omega))
      · refine EvB.neg h2 ?_
        rw [hj1]
        refine (ih (j + 1) (by omega) (by omega)).congr ⟨fun h => ⟨fun j' h3 h4 => ?_, h.2⟩, fun h => ⟨fun j' h3 h4 => h.1 j' (by omega) h4, h.2⟩⟩
        by_cases e' : j' = j
        · subst e'; exact ⟨by omega, by omega⟩
        · exact h.1 j' (by omega) h4
theorem ib_l0 (c : List Int) (d : List (List Int)) (h4 : c.length ≤ 4) (hl : d.length = c.length) : ∀ (e i : Nat), c.length - i = e → i ≤ c.length →
    EvB (fun k => impl_isBook.l0 k (c.length : Int) d (d.length : Int) (i : Int) c d) (∀ i' : Nat, i ≤ i' → i' < c.length → RowP c d i') := by
  intro e
  induction e with
  | zero =>
    intro i he hi
    refine EvB.step (fun k => by rw [impl_isBook.l0]) ?_
    exact EvB.neg (by omega) (EvB.tt (fun i' h1 h2 => by omega))
  | succ e ih =>
    intro i he hi
    have hlt : i < c.length := by omega
    refine EvB.step (fun k => by rw [impl_isBook.l0]) ?_
    refine EvB.pos (by omega) (EvB.pos (by omega) (EvB.pos (by omega) (EvB.pos (by omega) ?_)))
    have bad : ∀ (P : Prop), (P → ¬ RowP c d i) → P → EvB (fun k => impl_isBook.j2 k (c.length : Int) (rd_L1 d (i : Int)) d (d.length : Int) (i : Int) true c d) (∀ i' : Nat, i ≤ i' → i' < c.length → RowP c d i') := by
      intro P hP p
      refine EvB.step (fun k => by rw [impl_isBook.j2]) ?_
      exact EvB.pos rfl (EvB.ff (fun h => hP p (h i (Nat.le_refl _) hlt)))
    by_cases h1 : rd c (i : Int) < 0
    · exact EvB.pos h1 (bad _ (fun p h => by have := h.1; omega) h1)
    refine EvB.neg h1 ?_
    by_cases h2 : rd c (i : Int) > 20
    · exact EvB.pos h2 (bad _ (fun p h => by have := h.2.1; omega) h2)
    refine EvB.neg h2 ?_
    by_cases h3 : ((rd_L1 d (i : Int)).length : Int) = (c.length : Int)
    · refine EvB.pos h3 (EvB.pos (by omega) ?_)
      by_cases h5 : rd (rd_L1 d (i : Int)) (i : Int) = 0
      · refine EvB.step (fun k => by rw [impl_isBook.j2]) ?_
        refine EvB.neg (by rw [h5]; decide) ?_
        refine (ib_l1 c d (rd_L1 d (i : Int)) (c.length : Int) i (by omega) (by omega) (by omega) (ih (i + 1) (by omega) (by omega)) _ 0 rfl (by omega)).congr ?_
        constructor
        · intro h i' h6 h7
          by_cases e' : i' = i
          · subst e'; exact ⟨by omega, by omega, by omega, h5, fun j hj => h.1 j (by omega) (by omega)⟩
          · exact h.2 i' (by omega) h7
        · intro h
          have hr := h i (Nat.le_refl _) hlt
          exact ⟨fun j' _ h7 => hr.2.2.2.2 j' (by omega), fun i' h6 h7 => h i' (by omega) h7⟩
      · have hb : (rd (rd_L1 d (i : Int)) (i : Int) != 0) = true := bne_iff_ne.mpr h5
        rw [hb]
        exact bad _ (fun p h => p h.2.2.2.1) h5
    · exact EvB.neg h3 (bad _ (fun p h => p (by rw [h.2.2.1])) h3)
theorem isBook (c : List Int) (d : List (List Int)) : EvB (fun k => impl_isBook.f k c d) (BookP c d) := by
  unfold impl_isBook.f
  by_cases h1 : (c.length : Int) < 1
  · refine EvB.pos h1 (EvB.step (fun k => by rw [impl_isBook.j0]) ?_)
    exact EvB.pos rfl (EvB.ff (fun h => by have := h.1; omega))
  refine EvB.neg h1 ?_
  by_cases h2 : (c.length : Int) > 4
  · refine EvB.pos h2 (EvB.step (fun k => by rw [impl_isBook.j0]) ?_)
    exact EvB.pos rfl (EvB.ff (fun h => by have := h.2.1; omega))
  refine EvB.neg h2 (EvB.step (fun k => by rw [impl_isBook.j0]) ?_)
  by_cases h3 : d.length = c.length
  · refine EvB.neg (by rw [h3]; simp) ?_
    refine (ib_l0 c d (by omega) h3 _ 0 rfl (by omega)).congr ⟨fun h => ⟨by omega, by omega, h3, fun i hi => h i (by omega) hi⟩, fun h i _ hi => h.2.2.2 i hi⟩
  · exact EvB.pos (bne_iff_ne.mpr (by omega)) (EvB.ff (fun h => h3 h.2.2.1))
theorem sIn (a lo hi : Int) : spec_l1In.f a lo hi = some (decide (lo ≤ a ∧ a ≤ hi)) := by
  unfold spec_l1In.f
  by_cases h : a ≥ lo
  · rw [if_pos h]; simp [h]
  · rw [if_neg h]; congr 1; symm; exact decide_eq_false (fun h' => h h'.1)
theorem sb_l1 (c : List Int) (d : List (List Int)) (i : Nat) (hrow : (rd_L1 d (i : Int)).length ≤ 4) (hi : i < d.length) (hd : d.length ≤ 4) {R : Prop}
    (hR : EvB (fun k => spec_BookOk.l0 k ((i + 1 : Nat) : Int) c d) R) : ∀ (e j : Nat), (rd_L1 d (i : Int)).length - j = e → j ≤ (rd_L1 d (i : Int)).length →
    EvB (fun k => spec_BookOk.l1 k (i : Int) (j : Int) c d) ((∀ j' : Nat, j ≤ j' → j' < (rd_L1 d (i : Int)).length → 0 ≤ rd (rd_L1 d (i : Int)) (j' : Int) ∧ rd (rd_L1 d (i : Int)) (j' : Int) ≤ 9) ∧ R) := by
  have hs : wrap64 ((i : Int) + 1) = ((i + 1 : Nat) : Int) := wsucc hi (by omega)
  intro e
  induction e with
  | zero =>
    intro j he hj
    refine EvB.step (fun k => by rw [spec_BookOk.l1]) ?_
    rw [hs]
    exact EvB.pos (by omega) (EvB.pos (by omega) (EvB.neg (by omega) (hR.congr ⟨fun h => ⟨fun j' h1 h2 => by omega, h⟩, fun h => h.2⟩)))
  | succ e ih =>
    intro j he hj
    have hlt : j < (rd_L1 d (i : Int)).length := by omega
    have hj1 : wrap64 ((j : Int) + 1) = ((j + 1 : Nat) : Int) := wsucc hlt (by omega)
    refine EvB.step (fun k => by rw [spec_BookOk.l1]) ?_
    refine EvB.pos (by omega) (EvB.pos (by omega) (EvB.pos (by omega) (EvB.pos (by omega) (EvB.bind0 (sIn _ _ _) ?_))))
    by_cases h1 : 0 ≤ rd (rd_L1 d (i : Int)) (j : Int) ∧ rd (rd_L1 d (i : Int)) (j : Int) ≤ 9
    · refine EvB.pos (decide_eq_true h1) ?_
      rw [hj1]
      refine (ih (j + 1) (by omega) (by omega)).congr ⟨fun h => ⟨fun j' h3 h4 => ?_, h.2⟩, fun h => ⟨fun j' h3 h4 => h.1 j' (by omega) h4, h.2⟩⟩
      by_cases e' : j' = j
      · subst e'; exact h1
      · exact h.1 j' (by omega) h4
    · exact EvB.neg (by simpa using h1) (EvB.ff (fun h => h1 (h.1 j (Nat.le_refl _) hlt)))
theorem sb_l0 (c : List Int) (d : List (List Int)) (h4 : c.length ≤ 4) (hl : d.length = c.length) : ∀ (e i : Nat), c.length - i = e → i ≤ c.length →
    EvB (fun k => spec_BookOk.l0 k (i : Int) c d) (∀ i' : Nat, i ≤ i' → i' < c.length → RowP c d i') := by
  intro e
  induction e with
  | zero =>
    intro i he hi
    refine EvB.step (fun k => by rw [spec_BookOk.l0]) ?_
    exact EvB.neg (by omega) (EvB.tt (fun i' h1 h2 => by omega))
  | succ e ih =>
    intro i he hi
    have hlt : i < c.length := by omega
    refine EvB.step (fun k => by rw [spec_BookOk.l0]) ?_
    refine EvB.pos (by omega) (EvB.pos (by omega) (EvB.bind0 (sIn _ _ _) ?_))
    have bad : ∀ (P : Prop), (P → ¬ RowP c d i) → P → EvB (fun k => spec_BookOk.j2 k (i : Int) true c d) (∀ i' : Nat, i ≤ i' → i' < c.length → RowP c d i') := by
      intro P hP p
      refine EvB.step (fun k => by rw [spec_BookOk.j2]) ?_
      exact EvB.pos rfl (EvB.ff (fun h => hP p (h i (Nat.le_refl _) hlt)))
    by_cases h1 : 0 ≤ rd c (i : Int) ∧ rd c (i : Int) ≤ 20
    · refine EvB.pos (decide_eq_true h1) (EvB.pos (by omega) ?_)
      by_cases h3 : ((rd_L1 d (i : Int)).length : Int) = (c.length : Int)
      · refine EvB.pos h3 (EvB.pos (by omega) ?_)
        by_cases h5 : rd (rd_L1 d (i : Int)) (i : Int) = 0
        · refine EvB.step (fun k => by rw [spec_BookOk.j2]) ?_
          refine EvB.neg (by rw [h5]; decide) ?_
          refine (sb_l1 c d i (by omega) (by omega) (by omega) (ih (i + 1) (by omega) (by omega)) _ 0 rfl (by omega)).congr ?_
          constructor
          · intro h i' h6 h7
            by_cases e' : i' = i
            · subst e'; exact ⟨h1.1, h1.2, by omega, h5, fun j hj => h.1 j (by omega) (by omega)⟩
            · exact h.2 i' (by omega) h7
          · intro h
            have hr := h i (Nat.le_refl _) hlt
            exact ⟨fun j' _ h7 => hr.2.2.2.2 j' (by omega), fun i' h6 h7 => h i' (by omega) h7⟩
        · have hb : (rd (rd_L1 d (i : Int)) (i : Int) != 0) = true := bne_iff_ne.mpr h5
          rw [hb]
          exact bad _ (fun p h => p h.2.2.2.1) h5
      · exact EvB.neg h3 (bad _ (fun p h => p (by rw [h.2.2.1])) h3)
    · exact EvB.neg (by simpa using h1) (bad _ (fun p h => p ⟨h.1, h.2.1⟩) h1)
theorem bookOk (c : List Int) (d : List (List Int)) : EvB (fun k => spec_BookOk.f k c d) (BookP c d) := by
  unfold spec_BookOk.f
  refine EvB.bind0 (sIn _ _ _) ?_
  by_cases h1 : 1 ≤ (c.length : Int) ∧ (c.length : Int) ≤ 4
  · refine EvB.pos (decide_eq_true h1) (EvB.step (fun k => by rw [spec_BookOk.j0]) ?_)
    by_cases h3 : d.length = c.length
    · refine EvB.neg (by rw [h3]; simp) ?_
      refine (sb_l0 c d (by omega) h3 _ 0 rfl (by omega)).congr ⟨fun h => ⟨by omega, by omega, h3, fun i hi => h i (by omega) hi⟩, fun h i _ hi => h.2.2.2 i hi⟩
    · exact EvB.pos (bne_iff_ne.mpr (by omega)) (EvB.ff (fun h => h3 h.2.2.1))
  · refine EvB.neg (by simpa using h1) (EvB.step (fun k => by rw [spec_BookOk.j0]) ?_)
    exact EvB.pos rfl (EvB.ff (fun h => h1 ⟨by have := h.1; omega, by have := h.2.1; omega⟩))
end Go.Proofs.Ytcjmpjiclnfjmaa.Bk

namespace Go.Proofs.Ytcjmpjiclnfjmaa.Ow
open Go.RowKit Go.Proofs.Ytcjmpjiclnfjmaa.PU Go.Proofs.Ytcjmpjiclnfjmaa.Qh Go.Proofs.Ytcjmpjiclnfjmaa.Bk Go.Proofs.YtcjmpjiclnfjmaaW.PrintWords Go.Proofs.YtcjmpjiclnfjmaaW.PrintMore
set_option linter.unusedVariables false
set_option linter.unusedSimpArgs false
def sm (xs : List Int) : Nat → Int
  | 0 => 0
  | i + 1 => sm xs i + rd xs (i : Int)
def ow (c : List Int) (d : List (List Int)) (i : Nat) : Int := sm (rd_L1 d (i : Int)) c.length
def owes (c : List Int) (d : List (List Int)) : List Int := (List.range c.length).map (ow c d)
theorem owes_len (c : List Int) (d : List (List Int)) : (owes c d).length = c.length := by simp [owes]
theorem rd_owes {c : List Int} {d : List (List Int)} {i : Nat} (hi : i < c.length) : rd (owes c d) (i : Int) = ow c d i := by
  rw [rd_get _ _ (by rw [owes_len]; exact hi)]; simp [owes]
theorem sm_bd {c : List Int} {d : List (List Int)} (h : BookP c d) {i : Nat} (hi : i < c.length) : ∀ j : Nat, j ≤ c.length → 0 ≤ sm (rd_L1 d (i : Int)) j ∧ sm (rd_L1 d (i : Int)) j ≤ 9 * j
  | 0, _ => by simp [sm]
  | j + 1, hj => by
    have := sm_bd h hi j (by omega)
    have := (h.2.2.2 i hi).2.2.2.2 j (by omega)
    simp only [sm]; omega
theorem ow_bd {c : List Int} {d : List (List Int)} (h : BookP c d) {i : Nat} (hi : i < c.length) : 0 ≤ ow c d i ∧ ow c d i ≤ 36 := by
  have := sm_bd h hi c.length (Nat.le_refl _); have := h.2.1; unfold ow; omega
def mid (c : List Int) (d : List (List Int)) (i : Nat) (s : Int) : List Int := (List.range c.length).map (fun k => if k < i then ow c d k else if k = i then s else 0)
theorem mid_len (c : List Int) (d : List (List Int)) (i : Nat) (s : Int) : (mid c d i s).length = c.length := by simp [mid]
theorem mid_get {c : List Int} {d : List (List Int)} {i : Nat} {s : Int} (hi : i < c.length) : rd (mid c d i s) (i : Int) = s := by
  rw [rd_get _ _ (by rw [mid_len]; exact hi)]; simp [mid]
theorem mid_set {c : List Int} {d : List (List Int)} {i : Nat} {s v : Int} (hi : i < c.length) : (mid c d i s).set ((i : Int)).toNat v = mid c d i v := by
  apply List.ext_getElem (by simp [mid])
  intro k h1 h2
  simp only [mid, List.getElem_set, List.getElem_map, List.getElem_range, Int.toNat_natCast]
  by_cases e : i = k
  · subst e; simp
  · rw [if_neg e]
    by_cases e2 : k < i
    · simp [e2]
    · simp [e2, Ne.symm e, show ¬ k = i from fun h => e h.symm]
theorem mid_next {c : List Int} {d : List (List Int)} (i : Nat) : mid c d i (ow c d i) = mid c d (i + 1) 0 := by
  unfold mid
  apply List.map_congr_left
  intro k _
  by_cases e : k < i
  · simp [e, show k < i + 1 by omega]
  · by_cases e2 : k = i
    · subst e2; simp
    · simp [e, e2, show ¬ k < i + 1 by omega]
theorem mid_start (c : List Int) (d : List (List Int)) : List.replicate c.length (0 : Int) = mid c d 0 0 := by
  apply List.ext_getElem (by simp [mid])
  intro k h1 h2
  simp [mid]
theorem mid_end (c : List Int) (d : List (List Int)) : mid c d c.length 0 = owes c d := by
  unfold mid owes
  apply List.map_congr_left
  intro k hk
  simp [List.mem_range.mp hk]
theorem io_l1 {c : List Int} {d : List (List Int)} (h : BookP c d) {i : Nat} (hi : i < c.length) {r : List Int} (hR : Ev (fun k => impl_owes.l0 k (mid c d (i + 1) 0) d (d.length : Int) ((i + 1 : Nat) : Int)) r) :
    ∀ (e j : Nat), c.length - j = e → j ≤ c.length → Ev (fun k => impl_owes.l1 k (mid c d i (sm (rd_L1 d (i : Int)) j)) (i : Int) d (d.length : Int) (i : Int) (rd_L1 d (i : Int)) ((rd_L1 d (i : Int)).length : Int) (j : Int)) r := by
  have h4 := h.2.1
  have hdl := h.2.2.1
  have hrl := (h.2.2.2 i hi).2.2.1
  have hs : wrap64 ((i : Int) + 1) = ((i + 1 : Nat) : Int) := wsucc hi (by omega)
  intro e
  induction e with
  | zero =>
    intro j he hj
    obtain rfl : j = c.length := by omega
    refine Ev.step (fun k => by rw [impl_owes.l1]) ?_
    rw [hs]
    refine evNeg (by omega) ?_
    have : mid c d i (sm (rd_L1 d (i : Int)) c.length) = mid c d (i + 1) 0 := mid_next i
    rw [this]
    exact hR
  | succ e ih =>
    intro j he hj
    have hlt : j < c.length := by omega
    have hj1 : wrap64 ((j : Int) + 1) = ((j + 1 : Nat) : Int) := wsucc hlt (by omega)
    have hb := sm_bd h hi j (by omega)
    have hx := (h.2.2.2 i hi).2.2.2.2 j hlt
    have hw : wrap64 (sm (rd_L1 d (i : Int)) j + rd (rd_L1 d (i : Int)) (j : Int)) = sm (rd_L1 d (i : Int)) (j + 1) := by rw [w64 (by omega) (by omega)]; rfl
    have hml := mid_len c d i (sm (rd_L1 d (i : Int)) j)
    refine Ev.step (fun k => by rw [impl_owes.l1]) ?_
    refine evPos (by omega) (evPos (by omega) (evPos (by omega) (evPos (by omega) (evPos (by omega) ?_))))
    rw [mid_get hi, hw, hj1, mid_set hi]
    exact ih (j + 1) (by omega) (by omega)
theorem io_l0 {c : List Int} {d : List (List Int)} (h : BookP c d) : ∀ (e i : Nat), c.length - i = e → i ≤ c.length → Ev (fun k => impl_owes.l0 k (mid c d i 0) d (d.length : Int) (i : Int)) (owes c d) := by
  have hdl := h.2.2.1
  intro e
  induction e with
  | zero =>
    intro i he hi
    obtain rfl : i = c.length := by omega
    refine Ev.step (fun k => by rw [impl_owes.l0]) ?_
    exact evNeg (by omega) (evEq (Ev.now _) (mid_end c d))
  | succ e ih =>
    intro i he hi
    refine Ev.step (fun k => by rw [impl_owes.l0]) ?_
    refine evPos (by omega) (evPos (by omega) (evPos (by omega) ?_))
    exact io_l1 h (by omega) (ih (i + 1) (by omega) (by omega)) _ 0 rfl (by omega)
theorem iowes {c : List Int} {d : List (List Int)} (h : BookP c d) : Ev (fun k => impl_owes.f k c d) (owes c d) := by
  have h4 := h.2.1
  unfold impl_owes.f
  refine evPos (by omega) (evPos (by omega) ?_)
  rw [Int.toNat_natCast, mid_start c d]
  exact io_l0 h _ 0 rfl (by omega)
theorem so_l1 {c : List Int} {d : List (List Int)} (h : BookP c d) {i : Nat} (hi : i < c.length) {x : List Int} (hx : x.length ≤ 4) {r : List Int} (hR : Ev (fun k => spec_OwesOf.l0 k (x ++ [ow c d i]) ((i + 1 : Nat) : Int) c d) r) :
    ∀ (e j : Nat), c.length - j = e → j ≤ c.length → Ev (fun k => spec_OwesOf.l1 k x (i : Int) (sm (rd_L1 d (i : Int)) j) (j : Int) c d) r := by
  have h4 := h.2.1
  have hdl := h.2.2.1
  have hrl := (h.2.2.2 i hi).2.2.1
  have hs : wrap64 ((i : Int) + 1) = ((i + 1 : Nat) : Int) := wsucc hi (by omega)
  intro e
  induction e with
  | zero =>
    intro j he hj
    obtain rfl : j = c.length := by omega
    refine Ev.step (fun k => by rw [spec_OwesOf.l1]) ?_
    rw [hs]
    exact evNeg (by omega) (evPos (by omega) hR)
  | succ e ih =>
    intro j he hj
    have hlt : j < c.length := by omega
    have hj1 : wrap64 ((j : Int) + 1) = ((j + 1 : Nat) : Int) := wsucc hlt (by omega)
    have hb := sm_bd h hi j (by omega)
    have hx := (h.2.2.2 i hi).2.2.2.2 j hlt
    have hw : wrap64 (sm (rd_L1 d (i : Int)) j + rd (rd_L1 d (i : Int)) (j : Int)) = sm (rd_L1 d (i : Int)) (j + 1) := by rw [w64 (by omega) (by omega)]; rfl
    refine Ev.step (fun k => by rw [spec_OwesOf.l1]) ?_
    refine evPos (by omega) (evPos (by omega) (evPos (by omega) (evPos (by omega) (evPos (by omega) ?_))))
    rw [hw, hj1]
    exact ih (j + 1) (by omega) (by omega)
theorem so_l0 {c : List Int} {d : List (List Int)} (h : BookP c d) : ∀ (e i : Nat), c.length - i = e → i ≤ c.length → Ev (fun k => spec_OwesOf.l0 k ((List.range i).map (ow c d)) (i : Int) c d) (owes c d) := by
  have h4 := h.2.1
  intro e
  induction e with
  | zero =>
    intro i he hi
    obtain rfl : i = c.length := by omega
    refine Ev.step (fun k => by rw [spec_OwesOf.l0]) ?_
    refine evNeg (by omega) (Ev.step (fun k => by rw [spec_OwesOf.j1]) ?_)
    exact evNeg (by decide) (Ev.now _)
  | succ e ih =>
    intro i he hi
    refine Ev.step (fun k => by rw [spec_OwesOf.l0]) ?_
    refine evPos (by omega) (Ev.bind ((bookOk c d).yes h) (Ev.step (fun k => by rw [spec_OwesOf.j1]) ?_))
    refine evPos rfl ?_
    have hi' := ih (i + 1) (by omega) (by omega)
    rw [List.range_succ, List.map_append] at hi'
    exact so_l1 h (by omega) (by simp; omega) hi' _ 0 rfl (by omega)
theorem sowes {c : List Int} {d : List (List Int)} (h : BookP c d) : Ev (fun k => spec_OwesOf.f k c d) (owes c d) := by
  unfold spec_OwesOf.f
  exact so_l0 h _ 0 rfl (by omega)
theorem sowes_no {c : List Int} {d : List (List Int)} (h : ¬ BookP c d) : Ev (fun k => spec_OwesOf.f k c d) [] := by
  unfold spec_OwesOf.f
  refine Ev.step (fun k => by rw [spec_OwesOf.l0]) ?_
  by_cases h0 : (0 : Int) < (c.length : Int)
  · refine evPos h0 (Ev.bind ((bookOk c d).no h) (Ev.step (fun k => by rw [spec_OwesOf.j1]) ?_))
    exact evNeg (by decide) (Ev.now _)
  · refine evNeg h0 (Ev.step (fun k => by rw [spec_OwesOf.j1]) ?_)
    exact evNeg (by decide) (Ev.now _)
end Go.Proofs.Ytcjmpjiclnfjmaa.Ow

namespace Go.Proofs.Ytcjmpjiclnfjmaa.Fr
open Go.RowKit Go.Proofs.Ytcjmpjiclnfjmaa.PU Go.Proofs.Ytcjmpjiclnfjmaa.Qh Go.Proofs.YtcjmpjiclnfjmaaW.PrintWords Go.Proofs.YtcjmpjiclnfjmaaW.PrintMore
set_option linter.unusedVariables false
set_option linter.unusedSimpArgs false
def FracP (u d : Int) : Prop := -1000000000 ≤ u ∧ u ≤ 1000000000 ∧ 1 ≤ d ∧ d ≤ 1000000000 ∧ Int.gcd u d = 1
instance (u d : Int) : Decidable (FracP u d) := by unfold FracP; infer_instance
theorem gcd_tmod (a b : Int) : Int.gcd b (Int.tmod a b) = Int.gcd a b := by
  unfold Int.gcd
  rw [Int.natAbs_tmod, Nat.gcd_comm b.natAbs, ← Nat.gcd_rec b.natAbs a.natAbs, Nat.gcd_comm]
theorem tmod_lt (a b : Int) (hb : b ≠ 0) : (Int.tmod a b).natAbs < b.natAbs := by
  rw [Int.natAbs_tmod]; exact Nat.mod_lt _ (by omega)
theorem igcd_l : ∀ (n : Nat) (a b : Int), b.natAbs ≤ n → a.natAbs ≤ 9223372036854775807 → b.natAbs ≤ 9223372036854775807 → Ev (fun k => impl_gcd.l0 k a b) ((Int.gcd a b : Nat) : Int) := by
  intro n
  induction n with
  | zero =>
    intro a b hn ha hb
    obtain rfl : b = 0 := by omega
    refine Ev.step (fun k => by rw [impl_gcd.l0]) ?_
    refine evPos rfl ?_
    have e : mx a (wrap64 (-a)) = ((Int.gcd a 0 : Nat) : Int) := by
      rw [w64 (by omega) (by omega), Int.gcd_zero_right]
      unfold mx
      split <;> omega
    rw [e]
    exact Ev.now _
  | succ n ih =>
    intro a b hn ha hb
    by_cases h0 : b = 0
    · exact ih a b (by omega) ha hb
    · refine Ev.step (fun k => by rw [impl_gcd.l0]) ?_
      refine evNeg h0 ?_
      have hlt := tmod_lt a b h0
      rw [← gcd_tmod a b]
      exact ih b (Int.tmod a b) (by omega) hb (by omega)
theorem igcd (a b : Int) (ha : a.natAbs ≤ 9223372036854775807) (hb : b.natAbs ≤ 9223372036854775807) : Ev (fun k => impl_gcd.f k a b) ((Int.gcd a b : Nat) : Int) := by
  unfold impl_gcd.f
  exact igcd_l b.natAbs a b (Nat.le_refl _) ha hb
theorem sdiv_l : ∀ (n : Nat) (a b : Int), b.natAbs ≤ n → 0 ≤ a → 0 ≤ b → Ev (fun k => spec_l1Divisor.l0 k a b) ((Int.gcd a b : Nat) : Int) := by
  intro n
  induction n with
  | zero =>
    intro a b hn ha hb
    obtain rfl : b = 0 := by omega
    refine Ev.step (fun k => by rw [spec_l1Divisor.l0]) ?_
    refine evNeg (by omega) ?_
    refine evEq (Ev.now _) ?_
    rw [Int.gcd_zero_right]; omega
  | succ n ih =>
    intro a b hn ha hb
    by_cases h0 : b = 0
    · exact ih a b (by omega) ha hb
    · refine Ev.step (fun k => by rw [spec_l1Divisor.l0]) ?_
      refine evPos (by omega) (evNeg h0 ?_)
      have hlt := tmod_lt a b h0
      rw [← gcd_tmod a b]
      exact ih b (Int.tmod a b) (by omega) hb (Int.tmod_nonneg b ha)
theorem sabs (a : Int) (ha : a.natAbs ≤ 9223372036854775807) : spec_l1Abs.f a = some ((a.natAbs : Nat) : Int) := by
  unfold spec_l1Abs.f
  by_cases h : a < 0
  · rw [if_pos h, w64 (by omega) (by omega)]; congr 1; omega
  · rw [if_neg h]; congr 1; omega
theorem sdiv (a b : Int) (ha : a.natAbs ≤ 9223372036854775807) (hb : b.natAbs ≤ 9223372036854775807) : Ev (fun k => spec_l1Divisor.f k a b) ((Int.gcd a b : Nat) : Int) := by
  unfold spec_l1Divisor.f
  refine evBind0 (sabs a ha) (evBind0 (sabs b hb) ?_)
  have e : Int.gcd (a.natAbs : Int) (b.natAbs : Int) = Int.gcd a b := by unfold Int.gcd; simp
  rw [← e]
  exact sdiv_l _ _ _ (Nat.le_refl _) (by omega) (by omega)
theorem isFrac (u d : Int) : EvB (fun k => impl_isFrac.f k u d) (FracP u d) := by
  unfold impl_isFrac.f
  by_cases h1 : u ≥ -1000000000
  · by_cases h2 : u ≤ 1000000000
    · refine EvB.bind0 (a := true) (by unfold impl_isNumber.f; rw [if_pos h1]; simp [h2]) (EvB.pos rfl ?_)
      by_cases h3 : d ≥ 1
      · refine EvB.pos h3 ?_
        by_cases h4 : d ≤ 1000000000
        · refine EvB.pos h4 (EvB.bind (igcd u d (by omega) (by omega)) ⟨_, ?_, Ev.now _⟩)
          unfold FracP
          constructor
          · intro h; have := beq_iff_eq.mp h; exact ⟨h1, h2, h3, h4, by omega⟩
          · intro h; exact beq_iff_eq.mpr (by have := h.2.2.2.2; omega)
        · exact EvB.neg h4 (EvB.ff (fun h => h4 h.2.2.2.1))
      · exact EvB.neg h3 (EvB.ff (fun h => h3 h.2.2.1))
    · refine EvB.bind0 (a := false) (by unfold impl_isNumber.f; rw [if_pos h1]; simp [h2]) (EvB.neg (by decide) (EvB.ff (fun h => h2 h.2.1)))
  · refine EvB.bind0 (a := false) (by unfold impl_isNumber.f; rw [if_neg h1]) (EvB.neg (by decide) (EvB.ff (fun h => h1 h.1)))
theorem l1In (a lo hi : Int) : spec_l1In.f a lo hi = some (decide (lo ≤ a ∧ a ≤ hi)) := by
  unfold spec_l1In.f
  by_cases h : a ≥ lo
  · rw [if_pos h]; simp [h]
  · rw [if_neg h]; congr 1; symm; exact decide_eq_false (fun h' => h h'.1)
theorem fracOk (u d : Int) : EvB (fun k => spec_FracOk.f k u d) (FracP u d) := by
  unfold spec_FracOk.f
  refine EvB.bind0 (l1In _ _ _) ?_
  by_cases h1 : 1 ≤ d ∧ d ≤ 1000000000
  · refine EvB.pos (decide_eq_true h1) (EvB.bind0 (l1In _ _ _) ?_)
    by_cases h2 : -1000000000 ≤ u ∧ u ≤ 1000000000
    · refine EvB.pos (decide_eq_true h2) (EvB.bind (sdiv u d (by omega) (by omega)) ⟨_, ?_, Ev.now _⟩)
      unfold FracP
      constructor
      · intro h; have := beq_iff_eq.mp h; exact ⟨h2.1, h2.2, h1.1, h1.2, by omega⟩
      · intro h; exact beq_iff_eq.mpr (by have := h.2.2.2.2; omega)
    · exact EvB.neg (by simpa using h2) (EvB.ff (fun h => h2 ⟨h.1, h.2.1⟩))
  · exact EvB.neg (by simpa using h1) (EvB.ff (fun h => h1 ⟨h.2.2.1, h.2.2.2.1⟩))
def low (up down : Int) : Int × Int × Bool :=
  if FracP (Int.tdiv up (Int.gcd up down : Nat)) (Int.tdiv down (Int.gcd up down : Nat)) then (Int.tdiv up (Int.gcd up down : Nat), Int.tdiv down (Int.gcd up down : Nat), true) else (0, 0, false)
theorem gcd_pos {up down : Int} (hd : 0 < down) : 0 < Int.gcd up down := Nat.pos_of_ne_zero (fun h => by have := (Int.gcd_eq_zero_iff.mp h).2; omega)
theorem tdiv_natAbs (a : Int) (g : Nat) : (Int.tdiv a (g : Int)).natAbs ≤ a.natAbs := by
  rw [Int.natAbs_tdiv]; exact Nat.div_le_self _ _
theorem ilowest (up down : Int) (hd : 0 < down) (h1 : up.natAbs ≤ 4611686018427387904) (h2 : down.natAbs ≤ 4611686018427387904) : Ev (fun k => impl_lowest.f k up down) (low up down) := by
  unfold impl_lowest.f
  refine Ev.bind (igcd up down (by omega) (by omega)) ?_
  have hg := gcd_pos (up := up) hd
  have a1 := tdiv_natAbs up (Int.gcd up down)
  have a2 := tdiv_natAbs down (Int.gcd up down)
  have w1 : wrap64 (Int.tdiv up (Int.gcd up down : Nat)) = Int.tdiv up (Int.gcd up down : Nat) := w64 (by omega) (by omega)
  have w2 : wrap64 (Int.tdiv down (Int.gcd up down : Nat)) = Int.tdiv down (Int.gcd up down : Nat) := w64 (by omega) (by omega)
  refine evNeg (by omega) (evNeg (by omega) ?_)
  rw [w1, w2]
  obtain ⟨b, hb, he⟩ := isFrac (Int.tdiv up (Int.gcd up down : Nat)) (Int.tdiv down (Int.gcd up down : Nat))
  refine Ev.bind he ?_
  unfold low
  by_cases h : FracP (Int.tdiv up (Int.gcd up down : Nat)) (Int.tdiv down (Int.gcd up down : Nat))
  · rw [if_pos h]; exact evPos (hb.2 h) (Ev.now _)
  · rw [if_neg h]; exact evNeg (fun e => h (hb.1 e)) (Ev.now _)
theorem slow (up down : Int) (hd : 0 < down) (h1 : up.natAbs ≤ 4611686018427387904) (h2 : down.natAbs ≤ 4611686018427387904) : Ev (fun k => spec_l1Low.f k up down) (low up down) := by
  unfold spec_l1Low.f
  refine evNeg (by omega) ?_
  refine Ev.step (fun k => by rw [spec_l1Low.j0]) ?_
  refine Ev.bind (sdiv up down (by omega) (by omega)) ?_
  have hg := gcd_pos (up := up) hd
  have a1 := tdiv_natAbs up (Int.gcd up down)
  have a2 := tdiv_natAbs down (Int.gcd up down)
  have w1 : wrap64 (Int.tdiv up (Int.gcd up down : Nat)) = Int.tdiv up (Int.gcd up down : Nat) := w64 (by omega) (by omega)
  have w2 : wrap64 (Int.tdiv down (Int.gcd up down : Nat)) = Int.tdiv down (Int.gcd up down : Nat) := w64 (by omega) (by omega)
  refine evNeg (by omega) ?_
  rw [w1, w2]
  obtain ⟨b, hb, he⟩ := fracOk (Int.tdiv up (Int.gcd up down : Nat)) (Int.tdiv down (Int.gcd up down : Nat))
  refine Ev.bind he ?_
  unfold low
  by_cases h : FracP (Int.tdiv up (Int.gcd up down : Nat)) (Int.tdiv down (Int.gcd up down : Nat))
  · rw [if_pos h]; exact evPos (hb.2 h) (Ev.now _)
  · rw [if_neg h]; exact evNeg (fun e => h (hb.1 e)) (Ev.now _)
theorem low_val {up down p q : Int} (hd : 0 < down) (h : low up down = (p, q, true)) : FracP p q ∧ p * down = up * q := by
  unfold low at h
  split at h
  case isTrue hf =>
    simp only [Prod.mk.injEq, and_true] at h
    obtain ⟨rfl, rfl⟩ := h
    refine ⟨hf, ?_⟩
    have hg := gcd_pos (up := up) hd
    obtain ⟨s, hs⟩ : ((Int.gcd up down : Nat) : Int) ∣ up := Int.gcd_dvd_left ..
    obtain ⟨t, ht⟩ : ((Int.gcd up down : Nat) : Int) ∣ down := Int.gcd_dvd_right ..
    have hgi : ((Int.gcd up down : Nat) : Int) ≠ 0 := by omega
    have e1 : Int.tdiv up (Int.gcd up down : Nat) = s := by
      conv => lhs; arg 1; rw [hs]
      exact Int.mul_tdiv_cancel_left s hgi
    have e2 : Int.tdiv down (Int.gcd up down : Nat) = t := by
      conv => lhs; arg 1; rw [ht]
      exact Int.mul_tdiv_cancel_left t hgi
    rw [e1, e2]
    generalize ((Int.gcd up down : Nat) : Int) = g at hs ht
    subst hs; subst ht
    ac_rfl
  case isFalse => simp at h
theorem low_of {up down p q : Int} (hd : 0 < down) (hf : FracP p q) (e : p * down = up * q) : low up down = (p, q, true) := by
  have hq : 0 < q := by have := hf.2.2.1; omega
  have hdv : q ∣ down := by
    have h1 : q ∣ p * down := ⟨up, by rw [e, Int.mul_comm]⟩
    have h2 : q.natAbs ∣ p.natAbs * down.natAbs := by rw [← Int.natAbs_mul]; exact Int.natAbs_dvd_natAbs.mpr h1
    have hc : Nat.Coprime q.natAbs p.natAbs := by rw [Nat.coprime_comm]; exact hf.2.2.2.2
    exact Int.natAbs_dvd_natAbs.mp (Nat.Coprime.dvd_of_dvd_mul_left hc h2)
  obtain ⟨t, rfl⟩ := hdv
  have ht : 0 < t := by
    rcases Int.lt_or_le 0 t with h | h
    · exact h
    · have := Int.mul_nonpos_of_nonneg_of_nonpos (by omega : 0 ≤ q) h; omega
  have hu : up = p * t := by
    have : up * q = p * t * q := by rw [← e, Int.mul_comm q t, Int.mul_assoc]
    exact Int.eq_of_mul_eq_mul_right (by omega) this
  subst hu
  have hg : ((Int.gcd (p * t) (q * t) : Nat) : Int) = t := by
    rw [Int.gcd_mul_right, hf.2.2.2.2]; omega
  have h1 : Int.tdiv (p * t) (Int.gcd (p * t) (q * t) : Nat) = p := by rw [hg]; exact Int.mul_tdiv_cancel p (by omega)
  have h2 : Int.tdiv (q * t) (Int.gcd (p * t) (q * t) : Nat) = q := by rw [hg]; exact Int.mul_tdiv_cancel q (by omega)
  unfold low
  rw [h1, h2, if_pos hf]
end Go.Proofs.Ytcjmpjiclnfjmaa.Fr

namespace Go.Proofs.Ytcjmpjiclnfjmaa.Py
open Go.RowKit Go.Proofs.Ytcjmpjiclnfjmaa.PU Go.Proofs.Ytcjmpjiclnfjmaa.Qh Go.Proofs.Ytcjmpjiclnfjmaa.Bk Go.Proofs.Ytcjmpjiclnfjmaa.Ow Go.Proofs.Ytcjmpjiclnfjmaa.Fr Go.Proofs.YtcjmpjiclnfjmaaW.PrintWords Go.Proofs.YtcjmpjiclnfjmaaW.PrintMore
set_option linter.unusedVariables false
set_option linter.unusedSimpArgs false
abbrev fu (ps : List S36) (i : Nat) : Int := (rd_T36 ps (i : Int)).f0
abbrev fd (ps : List S36) (i : Nat) : Int := (rd_T36 ps (i : Int)).f1
def PayP (c : List Int) (d : List (List Int)) (ps : List S36) (i : Nat) : Prop := FracP (fu ps i) (fd ps i) ∧ 0 ≤ fu ps i ∧ fu ps i ≤ ow c d i * fd ps i
def PaysP (c : List Int) (d : List (List Int)) (ps : List S36) : Prop := BookP c d ∧ ps.length = c.length ∧ ∀ i : Nat, i < c.length → PayP c d ps i
theorem mul_bd {a b : Int} {m n : Nat} (ha : a.natAbs ≤ m) (hb : b.natAbs ≤ n) : (a * b).natAbs ≤ m * n := by
  rw [Int.natAbs_mul]; exact Nat.mul_le_mul ha hb
theorem wmul {a b : Int} (m n : Nat) (ha : a.natAbs ≤ m) (hb : b.natAbs ≤ n) (h : m * n ≤ 9223372036854775807) : wrap64 (a * b) = a * b := by
  have := mul_bd ha hb
  exact w64 (by omega) (by omega)
theorem cmp (x y : Int) : cmp_Compare_int.f x y = some (if x < y then -1 else if x > y then 1 else 0) := by
  unfold cmp_Compare_int.f cmp_isNaN_int.f
  simp only [bne_self_eq_false, Option.bind_some, Bool.false_eq_true, if_false]
  by_cases h : x < y
  · simp [h]
  · by_cases h2 : x > y
    · simp [h, h2]
    · simp [h, h2]
theorem icmp {a b p q : Int} (ha : FracP a b) (hp : p.natAbs ≤ 1000000000) (hq : q.natAbs ≤ 1000000000) : impl_compare.f a b p q = some (if a * q < p * b then -1 else if a * q > p * b then 1 else 0) := by
  have h1 := ha.1; have h2 := ha.2.1; have h3 := ha.2.2.1; have h4 := ha.2.2.2.1
  unfold impl_compare.f
  rw [wmul 1000000000 1000000000 (by omega) (by omega) (by omega), wmul 1000000000 1000000000 (by omega) (by omega) (by omega), cmp]
  rfl
theorem sbefore {a b p q : Int} (ha : FracP a b) (hp : FracP p q) : Ev (fun k => spec_BeforeOf.f k a b p q) (if a * q < p * b then -1 else if a * q > p * b then 1 else 0) := by
  have h1 := ha.1; have h2 := ha.2.1; have h3 := ha.2.2.1; have h4 := ha.2.2.2.1
  have g1 := hp.1; have g2 := hp.2.1; have g3 := hp.2.2.1; have g4 := hp.2.2.2.1
  unfold spec_BeforeOf.f
  refine Ev.bind ((fracOk a b).yes ha) (evPos rfl (Ev.bind ((fracOk p q).yes hp) (Ev.step (fun k => by rw [spec_BeforeOf.j0]) ?_)))
  rw [wmul 1000000000 1000000000 (by omega) (by omega) (by omega), wmul 1000000000 1000000000 (by omega) (by omega) (by omega)]
  refine evNeg (by decide) ?_
  by_cases h : a * q < p * b
  · simp only [if_pos h]; exact Ev.now _
  · simp only [if_neg h]
    by_cases h5 : a * q > p * b
    · simp only [if_pos h5]; exact Ev.now _
    · simp only [if_neg h5]; exact Ev.now _
theorem whole_ok {n : Int} (h0 : 0 ≤ n) (h1 : n ≤ 1000000000) : FracP n 1 := ⟨by omega, by omega, by omega, by omega, by simp⟩
theorem cmp_gt (x y : Int) : ((if x < y then (-1 : Int) else if x > y then 1 else 0) > 0) ↔ x > y := by
  by_cases h : x < y
  · rw [if_pos h]; omega
  · rw [if_neg h]
    by_cases h2 : x > y
    · rw [if_pos h2]; omega
    · rw [if_neg h2]; omega
theorem sp_l0 {c : List Int} {d : List (List Int)} (h : BookP c d) (ps : List S36) (hp : ps.length = c.length) : ∀ (e i : Nat), c.length - i = e → i ≤ c.length →
    EvB (fun k => spec_PaysOk.l0 k ps (owes c d) (i : Int) c d) (∀ i' : Nat, i ≤ i' → i' < c.length → PayP c d ps i') := by
  have h4 := h.2.1
  have hol := owes_len c d
  intro e
  induction e with
  | zero =>
    intro i he hi
    refine EvB.step (fun k => by rw [spec_PaysOk.l0]) ?_
    refine EvB.neg (by omega) (EvB.step (fun k => by rw [spec_PaysOk.j1]) ?_)
    refine EvB.neg (by decide) (EvB.bind ((bookOk c d).yes h) (EvB.pos rfl ?_))
    exact ⟨_, ⟨fun _ i' h1 h2 => by omega, fun _ => by rw [hp, hol]; simp⟩, Ev.now _⟩
  | succ e ih =>
    intro i he hi
    have hlt : i < c.length := by omega
    have hs : wrap64 ((i : Int) + 1) = ((i + 1 : Nat) : Int) := wsucc hlt (by omega)
    have hob := ow_bd h hlt
    refine EvB.step (fun k => by rw [spec_PaysOk.l0]) ?_
    refine EvB.pos (by omega) (EvB.step (fun k => by rw [spec_PaysOk.j1]) ?_)
    refine EvB.pos (by rw [hp, hol]; simp) (EvB.pos (by omega) (EvB.pos (by omega) ?_))
    obtain ⟨b, hb, hbe⟩ := fracOk (fu ps i) (fd ps i)
    refine EvB.bind hbe ?_
    by_cases h1 : FracP (fu ps i) (fd ps i)
    · refine EvB.pos (hb.2 h1) ?_
      by_cases h2 : fu ps i < 0
      · exact EvB.pos h2 (EvB.ff (fun h => by have := (h i (Nat.le_refl _) hlt).2.1; omega))
      · refine EvB.neg h2 (EvB.pos (by omega) ?_)
        rw [rd_owes hlt]
        refine EvB.bind (sbefore h1 (whole_ok hob.1 (by omega))) ?_
        rw [hs]
        by_cases h3 : fu ps i * 1 > ow c d i * fd ps i
        · exact EvB.pos ((cmp_gt _ _).2 h3) (EvB.ff (fun h => by have := (h i (Nat.le_refl _) hlt).2.2; omega))
        · refine EvB.neg (fun h' => h3 ((cmp_gt _ _).1 h')) ?_
          refine (ih (i + 1) (by omega) (by omega)).congr ⟨fun h' i' h5 h6 => ?_, fun h' i' h5 h6 => h' i' (by omega) h6⟩
          by_cases e' : i' = i
          · subst e'; exact ⟨h1, by omega, by omega⟩
          · exact h' i' (by omega) h6
    · exact EvB.neg (fun h' => h1 (hb.1 h')) (EvB.ff (fun h => h1 (h i (Nat.le_refl _) hlt).1))
theorem spays (c : List Int) (d : List (List Int)) (ps : List S36) (hps : ps.length ≤ 4611686018427387904) : EvB (fun k => spec_PaysOk.f k c d ps) (PaysP c d ps) := by
  unfold spec_PaysOk.f
  by_cases h : BookP c d
  · refine EvB.bind (sowes h) ?_
    by_cases hp : ps.length = c.length
    · exact (sp_l0 h ps hp _ 0 rfl (by omega)).congr ⟨fun h' => ⟨h, hp, fun i hi => h' i (by omega) hi⟩, fun h' i _ hi => h'.2.2 i hi⟩
    · have hol := owes_len c d
      have hn : ((ps.length : Int) == ((owes c d).length : Int)) = false := beq_eq_false_iff_ne.mpr (by omega)
      refine EvB.step (fun k => by rw [spec_PaysOk.l0]) ?_
      have fin : EvB (fun k => spec_PaysOk.j1 k ps (owes c d) 0 false c d) (PaysP c d ps) := by
        refine EvB.step (fun k => by rw [spec_PaysOk.j1]) ?_
        refine EvB.neg (by decide) (EvB.bind ((bookOk c d).yes h) (EvB.pos rfl ?_))
        exact ⟨_, ⟨fun h' => absurd h' (by rw [hn]; decide), fun h' => absurd h'.2.1 hp⟩, Ev.now _⟩
      rw [hn]
      by_cases h0 : (0 : Int) < (ps.length : Int)
      · exact EvB.pos h0 fin
      · exact EvB.neg h0 fin
  · refine EvB.bind (sowes_no h) ?_
    refine EvB.step (fun k => by rw [spec_PaysOk.l0]) ?_
    have fin : EvB (fun k => spec_PaysOk.j1 k ps [] 0 false c d) (PaysP c d ps) := by
      refine EvB.step (fun k => by rw [spec_PaysOk.j1]) ?_
      exact EvB.neg (by decide) (EvB.bind ((bookOk c d).no h) (EvB.neg (by decide) (EvB.ff (fun h' => h h'.1))))
    by_cases h0 : (0 : Int) < (ps.length : Int)
    · refine EvB.pos h0 ?_
      have hn : ((ps.length : Int) == (([] : List Int).length : Int)) = false := beq_eq_false_iff_ne.mpr (by show (ps.length : Int) ≠ ((0 : Nat) : Int); omega)
      rw [hn]
      exact fin
    · exact EvB.neg h0 fin
end Go.Proofs.Ytcjmpjiclnfjmaa.Py

namespace Go.Proofs.Ytcjmpjiclnfjmaa.Gt
open Go.RowKit Go.Proofs.Ytcjmpjiclnfjmaa.PU Go.Proofs.Ytcjmpjiclnfjmaa.Qh Go.Proofs.Ytcjmpjiclnfjmaa.Bk Go.Proofs.Ytcjmpjiclnfjmaa.Ow Go.Proofs.Ytcjmpjiclnfjmaa.Fr Go.Proofs.Ytcjmpjiclnfjmaa.Py Go.Proofs.YtcjmpjiclnfjmaaW.PrintWords Go.Proofs.YtcjmpjiclnfjmaaW.PrintMore
set_option linter.unusedVariables false
set_option linter.unusedSimpArgs false
def plusL (a b p q : Int) : Int × Int × Bool := low (a * q + p * b) (b * q)
def timesL (a b p q : Int) : Int × Int × Bool := low (a * p) (b * q)
theorem mpos {b q : Int} (hb : 1 ≤ b) (hq : 1 ≤ q) : 0 < b * q := Int.mul_pos (by omega) (by omega)
theorem iplus {a b p q : Int} (h : FracP a b) (k : FracP p q) : Ev (fun n => impl_plus.f n a b p q) (plusL a b p q) := by
  have h1 := h.1; have h2 := h.2.1; have h3 := h.2.2.1; have h4 := h.2.2.2.1
  have k1 := k.1; have k2 := k.2.1; have k3 := k.2.2.1; have k4 := k.2.2.2.1
  have m1 := mul_bd (a := a) (b := q) (m := 1000000000) (n := 1000000000) (by omega) (by omega)
  have m2 := mul_bd (a := p) (b := b) (m := 1000000000) (n := 1000000000) (by omega) (by omega)
  have m3 := mul_bd (a := b) (b := q) (m := 1000000000) (n := 1000000000) (by omega) (by omega)
  have mp := mpos h3 k3
  unfold impl_plus.f plusL
  rw [w64 (n := a * q) (by omega) (by omega), w64 (n := p * b) (by omega) (by omega), w64 (n := b * q) (by omega) (by omega), w64 (by omega) (by omega)]
  exact Ev.bind (ilowest _ _ mp (by omega) (by omega)) (Ev.now _)
theorem itimes {a b p q : Int} (h : FracP a b) (k : FracP p q) : Ev (fun n => impl_times.f n a b p q) (timesL a b p q) := by
  have h1 := h.1; have h2 := h.2.1; have h3 := h.2.2.1; have h4 := h.2.2.2.1
  have k1 := k.1; have k2 := k.2.1; have k3 := k.2.2.1; have k4 := k.2.2.2.1
  have m1 := mul_bd (a := a) (b := p) (m := 1000000000) (n := 1000000000) (by omega) (by omega)
  have m3 := mul_bd (a := b) (b := q) (m := 1000000000) (n := 1000000000) (by omega) (by omega)
  have mp := mpos h3 k3
  unfold impl_times.f timesL
  rw [w64 (n := a * p) (by omega) (by omega), w64 (n := b * q) (by omega) (by omega)]
  exact Ev.bind (ilowest _ _ mp (by omega) (by omega)) (Ev.now _)
theorem splus {a b p q : Int} (h : FracP a b) (k : FracP p q) : Ev (fun n => spec_PlusOf.f n a b p q) (plusL a b p q) := by
  have h1 := h.1; have h2 := h.2.1; have h3 := h.2.2.1; have h4 := h.2.2.2.1
  have k1 := k.1; have k2 := k.2.1; have k3 := k.2.2.1; have k4 := k.2.2.2.1
  have m1 := mul_bd (a := a) (b := q) (m := 1000000000) (n := 1000000000) (by omega) (by omega)
  have m2 := mul_bd (a := p) (b := b) (m := 1000000000) (n := 1000000000) (by omega) (by omega)
  have m3 := mul_bd (a := b) (b := q) (m := 1000000000) (n := 1000000000) (by omega) (by omega)
  have mp := mpos h3 k3
  unfold spec_PlusOf.f plusL
  rw [w64 (n := a * q) (by omega) (by omega), w64 (n := p * b) (by omega) (by omega), w64 (n := b * q) (by omega) (by omega), w64 (by omega) (by omega)]
  refine Ev.bind ((fracOk a b).yes h) (evPos rfl (Ev.bind ((fracOk p q).yes k) (evPos rfl ?_)))
  exact Ev.bind (slow _ _ mp (by omega) (by omega)) (Ev.now _)
theorem stimes {a b p q : Int} (h : FracP a b) (k : FracP p q) : Ev (fun n => spec_TimesOf.f n a b p q) (timesL a b p q) := by
  have h1 := h.1; have h2 := h.2.1; have h3 := h.2.2.1; have h4 := h.2.2.2.1
  have k1 := k.1; have k2 := k.2.1; have k3 := k.2.2.1; have k4 := k.2.2.2.1
  have m1 := mul_bd (a := a) (b := p) (m := 1000000000) (n := 1000000000) (by omega) (by omega)
  have m3 := mul_bd (a := b) (b := q) (m := 1000000000) (n := 1000000000) (by omega) (by omega)
  have mp := mpos h3 k3
  unfold spec_TimesOf.f timesL
  rw [w64 (n := a * p) (by omega) (by omega), w64 (n := b * q) (by omega) (by omega)]
  refine Ev.bind ((fracOk a b).yes h) (evPos rfl (Ev.bind ((fracOk p q).yes k) (evPos rfl ?_)))
  exact Ev.bind (slow _ _ mp (by omega) (by omega)) (Ev.now _)
theorem sfrac {x y : Int} (hx : -1000000000 ≤ x ∧ x ≤ 1000000000) (hy : 0 < y) (hy2 : y ≤ 1000000000) : Ev (fun n => spec_FracOf.f n x y) (low x y) := by
  unfold spec_FracOf.f
  refine evBind0 (Fr.l1In _ _ _) (evPos (decide_eq_true hx) (evBind0 (Fr.l1In _ _ _) (evPos (decide_eq_true ⟨by omega, hy2⟩) (evNeg (by omega) ?_))))
  exact Ev.bind (slow x y hy (by omega) (by omega)) (Ev.now _)
theorem low_fits {x y : Int} (hx : -1000000000 ≤ x ∧ x ≤ 1000000000) (hy : 0 < y) (hy2 : y ≤ 1000000000) : ∃ p q, low x y = (p, q, true) ∧ FracP p q ∧ q ≤ y := by
  have hg := gcd_pos (up := x) hy
  obtain ⟨s, hs⟩ : ((Int.gcd x y : Nat) : Int) ∣ x := Int.gcd_dvd_left ..
  obtain ⟨t, ht⟩ : ((Int.gcd x y : Nat) : Int) ∣ y := Int.gcd_dvd_right ..
  have hgi : ((Int.gcd x y : Nat) : Int) ≠ 0 := by omega
  have e1 : Int.tdiv x (Int.gcd x y : Nat) = s := by
    conv => lhs; arg 1; rw [hs]
    exact Int.mul_tdiv_cancel_left s hgi
  have e2 : Int.tdiv y (Int.gcd x y : Nat) = t := by
    conv => lhs; arg 1; rw [ht]
    exact Int.mul_tdiv_cancel_left t hgi
  have b1 := tdiv_natAbs x (Int.gcd x y)
  have b2 := tdiv_natAbs y (Int.gcd x y)
  rw [e1] at b1
  rw [e2] at b2
  have ht0 : 0 < t := by
    rcases Int.lt_or_le 0 t with h | h
    · exact h
    · have := Int.mul_nonpos_of_nonneg_of_nonpos (a := ((Int.gcd x y : Nat) : Int)) (by omega) h; omega
  have hgst : Int.gcd s t = 1 := by
    have h1 := Int.gcd_mul_left ((Int.gcd x y : Nat) : Int) s t
    rw [← hs, ← ht] at h1
    have h2 : Int.gcd x y * 1 = Int.gcd x y * Int.gcd s t := by simpa using h1
    exact (Nat.eq_of_mul_eq_mul_left hg h2).symm
  have hf : FracP s t := ⟨by omega, by omega, by omega, by omega, hgst⟩
  refine ⟨s, t, ?_, hf, by omega⟩
  unfold low
  rw [e1, e2, if_pos hf]
end Go.Proofs.Ytcjmpjiclnfjmaa.Gt

namespace Go.Proofs.Ytcjmpjiclnfjmaa.Gv
open Go.RowKit Go.Proofs.Ytcjmpjiclnfjmaa.PU Go.Proofs.Ytcjmpjiclnfjmaa.Qh Go.Proofs.Ytcjmpjiclnfjmaa.Bk Go.Proofs.Ytcjmpjiclnfjmaa.Ow Go.Proofs.Ytcjmpjiclnfjmaa.Fr Go.Proofs.Ytcjmpjiclnfjmaa.Py Go.Proofs.Ytcjmpjiclnfjmaa.Gt Go.Proofs.YtcjmpjiclnfjmaaW.PrintWords Go.Proofs.YtcjmpjiclnfjmaaW.PrintMore
set_option linter.unusedVariables false
set_option linter.unusedSimpArgs false
abbrev F := S36
section
variable (c : List Int) (d : List (List Int)) (ps : List F)
def pt (i k : Nat) : Int × Int × Bool := low (rd (rd_L1 d (k : Int)) (i : Int)) (ow c d k)
def tm (i k : Nat) : Int × Int × Bool := timesL (fu ps k) (fd ps k) (pt c d i k).1 (pt c d i k).2.1
def acc (i : Nat) : Nat → Nat → Int → Int → Option (Int × Int)
  | 0, _, a, b => some (a, b)
  | m + 1, k, a, b => if ow c d k = 0 then acc i m (k + 1) a b else if (plusL a b (tm c d ps i k).1 (tm c d ps i k).2.1).2.2 = true then acc i m (k + 1) (plusL a b (tm c d ps i k).1 (tm c d ps i k).2.1).1 (plusL a b (tm c d ps i k).1 (tm c d ps i k).2.1).2.1 else none
def gv : Nat → Nat → List F → List F × Bool
  | 0, _, out => (out, true)
  | m + 1, i, out => match acc c d ps i c.length 0 (rd c (i : Int)) 1 with
    | some r => gv m (i + 1) (out ++ [(⟨r.1, r.2⟩ : F)])
    | none => ([], false)
def getsV : List F × Bool := gv c d ps c.length 0 []
def Fits : Prop := ∀ i k : Nat, i < c.length → k < c.length → ow c d k ≠ 0 → (tm c d ps i k).2.2 = true
end
variable {c : List Int} {d : List (List Int)} {ps : List F}
theorem low_true {up down : Int} (hd : 0 < down) (h : (low up down).2.2 = true) : FracP (low up down).1 (low up down).2.1 := by
  have e : low up down = ((low up down).1, (low up down).2.1, true) := by rw [← h]
  exact (low_val hd e).1
theorem pt_ok (h : BookP c d) {i k : Nat} (hi : i < c.length) (hk : k < c.length) (h0 : ow c d k ≠ 0) : (pt c d i k).2.2 = true ∧ FracP (pt c d i k).1 (pt c d i k).2.1 := by
  have ho := ow_bd h hk
  have hx := (h.2.2.2 k hk).2.2.2.2 i hi
  obtain ⟨p, q, e, hf, _⟩ := low_fits (x := rd (rd_L1 d (k : Int)) (i : Int)) (y := ow c d k) ⟨by omega, by omega⟩ (by omega) (by omega)
  unfold pt
  rw [e]
  exact ⟨rfl, hf⟩
theorem tm_ok (h : PaysP c d ps) (hfit : Fits c d ps) {i k : Nat} (hi : i < c.length) (hk : k < c.length) (h0 : ow c d k ≠ 0) : FracP (tm c d ps i k).1 (tm c d ps i k).2.1 := by
  have hp := (pt_ok h.1 hi hk h0).2
  have hy := (h.2.2 k hk).1
  exact low_true (mpos hy.2.2.1 hp.2.2.1) (hfit i k hi hk h0)
theorem plus_ok {a b p q : Int} (h : FracP a b) (k : FracP p q) (e : (plusL a b p q).2.2 = true) : FracP (plusL a b p q).1 (plusL a b p q).2.1 := low_true (mpos h.2.2.1 k.2.2.1) e
theorem one_ok {n : Int} (h0 : 0 ≤ n) (h1 : n ≤ 1000000000) : FracP n 1 := whole_ok h0 h1
theorem own (h : PaysP c d ps) {i : Nat} (hi : i < c.length) (h0 : ow c d i ≠ 0) {a b : Int} (hab : FracP a b) : plusL a b (tm c d ps i i).1 (tm c d ps i i).2.1 = (a, b, true) := by
  have ho := ow_bd h.1 hi
  have hz := (h.1.2.2.2 i hi).2.2.2.1
  have hy := (h.2.2 i hi).1
  have e1 : pt c d i i = (0, 1, true) := by
    unfold pt; rw [hz]
    exact low_of (by omega) (one_ok (by omega) (by omega)) (by omega)
  have e2 : tm c d ps i i = (0, 1, true) := by
    unfold tm timesL; rw [e1]
    exact low_of (by have := hy.2.2.1; show 0 < fd ps i * 1; omega) (one_ok (by omega) (by omega)) (by show 0 * (fd ps i * 1) = fu ps i * 0 * 1; omega)
  rw [e2]
  unfold plusL
  exact low_of (by have := hab.2.2.1; show 0 < b * 1; omega) hab (by show a * (b * 1) = (a * 1 + 0 * b) * b; rw [Int.mul_one, Int.mul_one, Int.zero_mul, Int.add_zero])
theorem ig_l1 (h : PaysP c d ps) (hfit : Fits c d ps) {i : Nat} (hi : i < c.length) (out : List F) (ho : out.length ≤ 4) {r : List F × Bool}
    (hR : ∀ a b : Int, acc c d ps i c.length 0 (rd c (i : Int)) 1 = some (a, b) → Ev (fun n => impl_gets.l0 n ps (owes c d) (out ++ [(⟨a, b⟩ : F)]) c (c.length : Int) ((i + 1 : Nat) : Int) c d) r)
    (hN : acc c d ps i c.length 0 (rd c (i : Int)) 1 = none → r = ([], false)) : ∀ (e k : Nat) (a b : Int), c.length - k = e → k ≤ c.length → FracP a b → acc c d ps i e k a b = acc c d ps i c.length 0 (rd c (i : Int)) 1 →
    Ev (fun n => impl_gets.l1 n ps (owes c d) out (i : Int) c (c.length : Int) (i : Int) d (d.length : Int) (k : Int) c d a b) r := by
  have h4 := h.1.2.1
  have hdl := h.1.2.2.1
  have hs : Aside0 (wrap64 ((i : Int) + 1) = ((i + 1 : Nat) : Int)) := ⟨wsucc hi (by omega)⟩
  have hol := owes_len c d
  intro e
  induction e with
  | zero =>
    intro k a b he hk hab hacc
    refine Ev.step (fun n => by rw [impl_gets.l1]) ?_
    rw [hs.out]
    refine evNeg (by omega) (evPos (by omega) (hR a b ?_))
    rw [← hacc]; rfl
  | succ e ih =>
    intro k a b he hk hab hacc
    have hlt : k < c.length := by omega
    have hk1 : Aside0 (wrap64 ((k : Int) + 1) = ((k + 1 : Nat) : Int)) := ⟨wsucc hlt (by omega)⟩
    refine Ev.step (fun n => by rw [impl_gets.l1]) ?_
    refine evPos (by omega) (evPos (by omega) (evPos (by omega) ?_))
    have skip : (acc c d ps i (e + 1) k a b = acc c d ps i e (k + 1) a b) → Ev (fun n => impl_gets.j2 n ps (owes c d) out (i : Int) (k : Int) (rd_L1 d (k : Int)) c (c.length : Int) (i : Int) d (d.length : Int) (k : Int) true c d a b) r := by
      intro hh
      refine Ev.step (fun n => by rw [impl_gets.j2]) ?_
      refine evPos rfl ?_
      rw [hk1.out]
      exact ih (k + 1) a b (by omega) (by omega) hab (by rw [← hh]; exact hacc)
    by_cases hki : (k : Int) = (i : Int)
    · refine evPos hki (skip ?_)
      obtain rfl : k = i := by omega
      simp only [acc]
      by_cases hz : ow c d k = 0
      · rw [if_pos hz]
      · rw [if_neg hz, own h hlt hz hab, if_pos rfl]
    · refine evNeg hki (evPos (by omega) ?_)
      rw [rd_owes hlt]
      by_cases hz : ow c d k = 0
      · have hb : (ow c d k == 0) = true := beq_iff_eq.mpr hz
        rw [hb]
        exact skip (by simp only [acc]; rw [if_pos hz])
      · have hb : (ow c d k == 0) = false := beq_eq_false_iff_ne.mpr hz
        rw [hb]
        have hrow := (h.1.2.2.2 k hlt)
        have hob := ow_bd h.1 hlt
        have hx := hrow.2.2.2.2 i hi
        have hrl := hrow.2.2.1
        refine Ev.step (fun n => by rw [impl_gets.j2]) ?_
        refine evNeg (by decide) (evPos (by omega) (evPos (by omega) (evPos (by omega) (evPos (by omega) ?_))))
        rw [rd_owes hlt]
        have hpt := pt_ok h.1 hi hlt hz
        have htm := tm_ok h hfit hi hlt hz
        have htt := hfit i k hi hlt hz
        refine Ev.bind (a := pt c d i k) (ilowest _ _ (by omega) (by omega) (by omega)) (evPos (by rw [h.2.1]; omega) ?_)
        refine Ev.bind (a := tm c d ps i k) (itimes (h.2.2 k hlt).1 hpt.2) ?_
        refine Ev.bind (a := plusL a b (tm c d ps i k).1 (tm c d ps i k).2.1) (iplus hab htm) ?_
        refine evPos htt ?_
        simp only [acc] at hacc
        rw [if_neg hz] at hacc
        rw [hk1.out]
        by_cases hp : (plusL a b (tm c d ps i k).1 (tm c d ps i k).2.1).2.2 = true
        · rw [if_pos hp] at hacc
          refine evPos hp ?_
          exact ih (k + 1) _ _ (by omega) (by omega) (plus_ok hab htm hp) hacc
        · rw [if_neg hp] at hacc
          refine evNeg hp (evEq (Ev.now _) (hN hacc.symm).symm)
theorem ig_l0 (h : PaysP c d ps) (hfit : Fits c d ps) : ∀ (e i : Nat) (out : List F), c.length - i = e → i ≤ c.length → out.length = i →
    Ev (fun n => impl_gets.l0 n ps (owes c d) out c (c.length : Int) (i : Int) c d) (gv c d ps e i out) := by
  have h4 := h.1.2.1
  intro e
  induction e with
  | zero =>
    intro i out he hi hout
    refine Ev.step (fun n => by rw [impl_gets.l0]) ?_
    exact evNeg (by omega) (Ev.now _)
  | succ e ih =>
    intro i out he hi hout
    have hlt : i < c.length := by omega
    have hc := h.1.2.2.2 i hlt
    refine Ev.step (fun n => by rw [impl_gets.l0]) ?_
    refine evPos (by omega) (evPos (by omega) (evPos (by omega) (evBind0 (a := (rd c (i : Int), 1)) rfl ?_)))
    refine ig_l1 h hfit hlt out (by omega) ?_ ?_ c.length 0 (rd c (i : Int)) 1 rfl (by omega) (one_ok hc.1 (by have := hc.2.1; omega)) rfl
    · intro a b hab
      have := ih (i + 1) (out ++ [(⟨a, b⟩ : F)]) (by omega) (by omega) (by rw [List.length_append, hout]; rfl)
      simp only [gv, hab]
      exact this
    · intro hn
      simp only [gv, hn]
theorem igets (h : PaysP c d ps) (hfit : Fits c d ps) : Ev (fun n => impl_gets.f n c d ps) (getsV c d ps) := by
  unfold impl_gets.f
  exact Ev.bind (iowes h.1) (ig_l0 h hfit c.length 0 [] rfl (by omega) rfl)
theorem sg_l1 (h : PaysP c d ps) (hfit : Fits c d ps) {i : Nat} (hi : i < c.length) (out : List F) (ho : out.length ≤ 4) {r : List F × Bool}
    (hR : ∀ a b : Int, acc c d ps i c.length 0 (rd c (i : Int)) 1 = some (a, b) → Ev (fun n => spec_GetsOf.l0 n ps (out ++ [(⟨a, b⟩ : F)]) (owes c d) ((i + 1 : Nat) : Int) c d) r)
    (hN : acc c d ps i c.length 0 (rd c (i : Int)) 1 = none → r = ([], false)) : ∀ (e k : Nat) (a b : Int), c.length - k = e → k ≤ c.length → FracP a b → acc c d ps i e k a b = acc c d ps i c.length 0 (rd c (i : Int)) 1 →
    Ev (fun n => spec_GetsOf.l1 n ps out (owes c d) (i : Int) (k : Int) c d a b) r := by
  have h4 := h.1.2.1
  have hdl := h.1.2.2.1
  have hpl := h.2.1
  have hs : Aside0 (wrap64 ((i : Int) + 1) = ((i + 1 : Nat) : Int)) := ⟨wsucc hi (by omega)⟩
  have hol := owes_len c d
  intro e
  induction e with
  | zero =>
    intro k a b he hk hab hacc
    refine Ev.step (fun n => by rw [spec_GetsOf.l1]) ?_
    rw [hs.out]
    refine evNeg (by omega) (evPos (by omega) (hR a b ?_))
    rw [← hacc]; rfl
  | succ e ih =>
    intro k a b he hk hab hacc
    have hlt : k < c.length := by omega
    have hk1 : Aside0 (wrap64 ((k : Int) + 1) = ((k + 1 : Nat) : Int)) := ⟨wsucc hlt (by omega)⟩
    refine Ev.step (fun n => by rw [spec_GetsOf.l1]) ?_
    refine evPos (by omega) (evPos (by omega) (evPos (by omega) ?_))
    rw [rd_owes hlt, hk1.out]
    simp only [acc] at hacc
    by_cases hz : ow c d k = 0
    · rw [if_pos hz] at hacc
      exact evPos hz (ih (k + 1) a b (by omega) (by omega) hab hacc)
    · rw [if_neg hz] at hacc
      have hrow := (h.1.2.2.2 k hlt)
      have hob := ow_bd h.1 hlt
      have hx := hrow.2.2.2.2 i hi
      have hrl := hrow.2.2.1
      refine evNeg hz (evPos (by omega) (evPos (by omega) (evPos (by omega) ?_)))
      have hpt := pt_ok h.1 hi hlt hz
      have htm := tm_ok h hfit hi hlt hz
      have htt := hfit i k hi hlt hz
      refine Ev.bind (a := pt c d i k) (sfrac ⟨by omega, by omega⟩ (by omega) (by omega)) ?_
      refine Ev.bind (a := tm c d ps i k) (stimes (h.2.2 k hlt).1 hpt.2) ?_
      refine Ev.bind (a := plusL a b (tm c d ps i k).1 (tm c d ps i k).2.1) (splus hab htm) ?_
      refine evPos htt ?_
      by_cases hp : (plusL a b (tm c d ps i k).1 (tm c d ps i k).2.1).2.2 = true
      · rw [if_pos hp] at hacc
        refine evPos hp ?_
        exact ih (k + 1) _ _ (by omega) (by omega) (plus_ok hab htm hp) hacc
      · rw [if_neg hp] at hacc
        refine evNeg hp (evEq (Ev.now _) (hN hacc.symm).symm)
theorem sg_l0 (h : PaysP c d ps) (hfit : Fits c d ps) : ∀ (e i : Nat) (out : List F), c.length - i = e → i ≤ c.length → out.length = i →
    Ev (fun n => spec_GetsOf.l0 n ps out (owes c d) (i : Int) c d) (gv c d ps e i out) := by
  have h4 := h.1.2.1
  have hpl := h.2.1
  intro e
  induction e with
  | zero =>
    intro i out he hi hout
    refine Ev.step (fun n => by rw [spec_GetsOf.l0]) ?_
    exact evNeg (by omega) (Ev.now _)
  | succ e ih =>
    intro i out he hi hout
    have hlt : i < c.length := by omega
    have hc := h.1.2.2.2 i hlt
    refine Ev.step (fun n => by rw [spec_GetsOf.l0]) ?_
    refine evPos (by omega) (evPos (by omega) (evPos (by omega) ?_))
    refine sg_l1 h hfit hlt out (by omega) ?_ ?_ c.length 0 (rd c (i : Int)) 1 rfl (by omega) (one_ok hc.1 (by have := hc.2.1; omega)) rfl
    · intro a b hab
      have := ih (i + 1) (out ++ [(⟨a, b⟩ : F)]) (by omega) (by omega) (by rw [List.length_append, hout]; rfl)
      simp only [gv, hab]
      exact this
    · intro hn
      simp only [gv, hn]
theorem sgetsOf (h : PaysP c d ps) (hfit : Fits c d ps) : Ev (fun n => spec_GetsOf.f n c d ps) (getsV c d ps) := by
  have := h.1.2.1
  unfold spec_GetsOf.f
  exact evBind0 rfl (Ev.bind ((spays c d ps (by rw [h.2.1]; omega)).yes h) (evPos rfl (Ev.bind (sowes h.1) (sg_l0 h hfit c.length 0 [] rfl (by omega) rfl))))
end Go.Proofs.Ytcjmpjiclnfjmaa.Gv

namespace Go.Proofs.Ytcjmpjiclnfjmaa.PU
open Go.RowKit Go.Proofs.YtcjmpjiclnfjmaaW.PrintWords Go.Proofs.YtcjmpjiclnfjmaaW.PrintLast Go.Proofs.YtcjmpjiclnfjmaaW.PrintMore Go.Proofs.Ytcjmpjiclnfjmaa.Qd
attribute [local go_sem] max2_int min2_int max_two min_two max_three min_three max_four min_four
set_option linter.unusedVariables false
set_option linter.unusedSimpArgs false
end Go.Proofs.Ytcjmpjiclnfjmaa.PU

namespace Go.Proofs.Ytcjmpjiclnfjmaa.Np
open Go.RowKit Go.Proofs.Ytcjmpjiclnfjmaa.PU Go.Proofs.Ytcjmpjiclnfjmaa.Qh Go.Proofs.Ytcjmpjiclnfjmaa.Bk Go.Proofs.Ytcjmpjiclnfjmaa.Ow Go.Proofs.Ytcjmpjiclnfjmaa.Fr Go.Proofs.Ytcjmpjiclnfjmaa.Py Go.Proofs.YtcjmpjiclnfjmaaW.PrintWords Go.Proofs.YtcjmpjiclnfjmaaW.PrintMore
set_option linter.unusedVariables false
set_option linter.unusedSimpArgs false
abbrev F := S36
def none_ (n : Nat) : List F := List.replicate n (⟨0, 1⟩ : F)
def all_ (c : List Int) (d : List (List Int)) : List F := (List.range c.length).map (fun i => (⟨ow c d i, 1⟩ : F))
theorem rF (xs : List F) (i : Nat) : rd_T36 xs (i : Int) = xs.getD i z36 := rfl
theorem none_get {n i : Nat} (h : i < n) : rd_T36 (none_ n) (i : Int) = (⟨0, 1⟩ : F) := by
  rw [rF, List.getD_eq_getElem?_getD, none_, List.getElem?_replicate, if_pos h]; rfl
theorem all_len (c : List Int) (d : List (List Int)) : (all_ c d).length = c.length := by simp [all_]
theorem all_get {c : List Int} {d : List (List Int)} {i : Nat} (h : i < c.length) : rd_T36 (all_ c d) (i : Int) = (⟨ow c d i, 1⟩ : F) := by
  rw [rF, List.getD_eq_getElem?_getD, List.getElem?_eq_getElem (by rw [all_len]; exact h)]; simp [all_]
theorem none_ok {c : List Int} {d : List (List Int)} (h : BookP c d) : PaysP c d (none_ c.length) := by
  refine ⟨h, by simp [none_], fun i hi => ?_⟩
  have ho := ow_bd h hi
  unfold PayP fu fd
  rw [none_get hi]
  exact ⟨whole_ok (n := 0) (by omega) (by omega), by show (0 : Int) ≤ 0; omega, by show (0 : Int) ≤ ow c d i * 1; omega⟩
theorem all_ok {c : List Int} {d : List (List Int)} (h : BookP c d) : PaysP c d (all_ c d) := by
  refine ⟨h, all_len c d, fun i hi => ?_⟩
  have ho := ow_bd h hi
  unfold PayP fu fd
  rw [all_get hi]
  exact ⟨whole_ok (n := ow c d i) ho.1 (by omega), ho.1, by show ow c d i ≤ ow c d i * 1; omega⟩
theorem inone_l (n : Nat) (hn : n ≤ 4) : ∀ (e i : Nat), n - i = e → i ≤ n → Ev (fun k => impl_nonePaid.l0 k (none_ i) (n : Int) (i : Int)) (none_ n) := by
  intro e
  induction e with
  | zero =>
    intro i he hi
    obtain rfl : i = n := by omega
    refine Ev.step (fun k => by rw [impl_nonePaid.l0]) ?_
    exact evNeg (by omega) (Ev.now _)
  | succ e ih =>
    intro i he hi
    have hlt : i < n := by omega
    have hs : Aside0 (wrap64 ((i : Int) + 1) = ((i + 1 : Nat) : Int)) := ⟨wsucc hlt (by omega)⟩
    have hl : (none_ i).length = i := by simp [none_]
    refine Ev.step (fun k => by rw [impl_nonePaid.l0]) ?_
    refine evPos (by omega) (evBind0 (a := (0, 1)) rfl (evPos (by omega) ?_))
    rw [hs.out]
    have := ih (i + 1) (by omega) (by omega)
    rwa [none_, List.replicate_succ'] at this
end Go.Proofs.Ytcjmpjiclnfjmaa.Np

namespace Go.Proofs.Ytcjmpjiclnfjmaa.Vl
open Go.RowKit Go.Proofs.Ytcjmpjiclnfjmaa.PU Go.Proofs.Ytcjmpjiclnfjmaa.Qh Go.Proofs.Ytcjmpjiclnfjmaa.Bk Go.Proofs.Ytcjmpjiclnfjmaa.Ow Go.Proofs.Ytcjmpjiclnfjmaa.Fr Go.Proofs.Ytcjmpjiclnfjmaa.Py Go.Proofs.Ytcjmpjiclnfjmaa.Gt Go.Proofs.Ytcjmpjiclnfjmaa.Gv Go.Proofs.Ytcjmpjiclnfjmaa.Np Go.Proofs.YtcjmpjiclnfjmaaW.PrintWords Go.Proofs.YtcjmpjiclnfjmaaW.PrintMore
set_option linter.unusedVariables false
set_option linter.unusedSimpArgs false
abbrev F := S36
def Is (D X a b : Int) : Prop := 0 < b ∧ a * D = X * b
def sumF (f : Nat → Int) : Nat → Int
  | 0 => 0
  | n + 1 => sumF f n + f n
theorem one_is (n : Int) (D : Int) : Is D (n * D) n 1 := ⟨by omega, by rw [Int.mul_one]⟩
theorem plus_is {D X Y a b p q s t : Int} (h : Is D X a b) (k : Is D Y p q) (e : plusL a b p q = (s, t, true)) : Is D (X + Y) s t := by
  have hb := h.1; have hq := k.1; have h2 := h.2; have k2 := k.2
  have m : 0 < b * q := Int.mul_pos hb hq
  obtain ⟨hf, hv⟩ := low_val m e
  refine ⟨by have := hf.2.2.1; omega, ?_⟩
  apply Int.eq_of_mul_eq_mul_right (a := b * q) (by omega)
  have e1 : s * D * (b * q) = (s * (b * q)) * D := by grind
  have e2 : (a * q + p * b) * t * D = (a * D) * q * t + (p * D) * b * t := by grind
  rw [e1, hv, e2, h2, k2]
  grind
variable {c : List Int} {d : List (List Int)} {ps : List F}
abbrev db (d : List (List Int)) (k i : Nat) : Int := rd (rd_L1 d (k : Int)) (i : Int)
def Rep (c : List Int) (d : List (List Int)) (ps : List F) (D : Int) (T : Nat → Int) (i : Nat) : Prop := ∀ k, k < c.length → k ≠ i → fu ps k * D = T k * ow c d k * fd ps k
theorem tm_is (h : PaysP c d ps) {D : Int} {T : Nat → Int} {i k : Nat} (hr : Rep c d ps D T i) (hki : k ≠ i) (hi : i < c.length) (hk : k < c.length) (h0 : ow c d k ≠ 0) (hfit : Fits c d ps) : Is D (T k * db d k i) (tm c d ps i k).1 (tm c d ps i k).2.1 := by
  have ho := ow_bd h.1 hk
  have hp := pt_ok h.1 hi hk h0
  have hy := (h.2.2 k hk).1
  have ht := hfit i k hi hk h0
  have hfd : 0 < fd ps k := by have := hy.2.2.1; omega
  have e1 : pt c d i k = ((pt c d i k).1, (pt c d i k).2.1, true) := by rw [← hp.1]
  have e2 : tm c d ps i k = ((tm c d ps i k).1, (tm c d ps i k).2.1, true) := by rw [← ht]
  have hpq : 0 < (pt c d i k).2.1 := by have := hp.2.2.2.1; omega
  have v1 := (low_val (up := db d k i) (down := ow c d k) (by omega) e1).2
  have v2 := low_val (up := fu ps k * (pt c d i k).1) (down := fd ps k * (pt c d i k).2.1) (Int.mul_pos hfd hpq) e2
  have hR := hr k hk hki
  refine ⟨by have := v2.1.2.2.1; omega, ?_⟩
  generalize (tm c d ps i k).1 = s at v2 ⊢
  generalize (tm c d ps i k).2.1 = t at v2 ⊢
  generalize (pt c d i k).1 = x at v1 v2
  generalize (pt c d i k).2.1 = y at v1 v2 hpq
  have w2 := v2.2
  generalize fu ps k = u at w2 hR
  generalize fd ps k = f at w2 hR hfd
  generalize ow c d k = o at v1 hR h0 ho
  generalize T k = τ at hR ⊢
  generalize db d k i = z at v1 ⊢
  have m : 0 < f * y * o := Int.mul_pos (Int.mul_pos hfd hpq) (by omega)
  apply Int.eq_of_mul_eq_mul_right (a := f * y * o) (by omega)
  have a1 : s * D * (f * y * o) = (s * (f * y)) * D * o := by grind
  have a2 : u * x * t * D * o = (u * D) * (x * o) * t := by grind
  rw [a1, w2, a2, hR, v1]
  grind
theorem db_zero (h : BookP c d) {i k : Nat} (hi : i < c.length) (hk : k < c.length) (h0 : ow c d k = 0) : db d k i = 0 := by
  have hx := fun j hj => (h.2.2.2 k hk).2.2.2.2 j hj
  have key : ∀ m : Nat, m ≤ c.length → (∀ j : Nat, j < m → db d k j ≤ sm (rd_L1 d (k : Int)) m) := by
    intro m
    induction m with
    | zero => intro _ j hj; omega
    | succ m ih =>
      intro hm j hj
      have h1 := sm_bd h hk m (by omega)
      have h2 := hx m (by omega)
      simp only [sm]
      by_cases e : j = m
      · subst e; show db d k j ≤ _; unfold db at *; omega
      · have := ih (by omega) j (by omega); unfold db at *; omega
  have := key c.length (Nat.le_refl _) i hi
  have h2 := hx i hi
  unfold ow at h0
  unfold db at *
  omega
theorem acc_is (h : PaysP c d ps) (hfit : Fits c d ps) {D : Int} {T : Nat → Int} {i : Nat} (hr : Rep c d ps D T i) (hi : i < c.length) : ∀ (e k : Nat) (a b s t : Int) (X : Int), c.length - k = e → k ≤ c.length → FracP a b → Is D X a b → acc c d ps i e k a b = some (s, t) →
    FracP s t ∧ Is D (X + (sumF (fun k => T k * db d k i) (k + e) - sumF (fun k => T k * db d k i) k)) s t := by
  intro e
  induction e with
  | zero =>
    intro k a b s t X he hk hf hX hacc
    simp only [acc, Option.some.injEq, Prod.mk.injEq] at hacc
    obtain ⟨rfl, rfl⟩ := hacc
    refine ⟨hf, ?_⟩
    rw [Nat.add_zero, Int.sub_self, Int.add_zero]
    exact hX
  | succ e ih =>
    intro k a b s t X he hk hf hX hacc
    have hlt : k < c.length := by omega
    have hs : sumF (fun k => T k * db d k i) (k + (e + 1)) = sumF (fun k => T k * db d k i) (k + 1 + e) := by rw [show k + (e + 1) = k + 1 + e by omega]
    have hs2 : sumF (fun k => T k * db d k i) (k + 1) = sumF (fun k => T k * db d k i) k + T k * db d k i := rfl
    simp only [acc] at hacc
    by_cases hz : ow c d k = 0
    · rw [if_pos hz] at hacc
      have := ih (k + 1) a b s t X (by omega) (by omega) hf hX hacc
      rw [hs2, db_zero h.1 hi hlt hz, Int.mul_zero, Int.add_zero] at this
      rw [hs]; exact this
    · rw [if_neg hz] at hacc
      by_cases hki : k = i
      · subst hki
        rw [own h hlt hz hf] at hacc
        simp only [if_pos] at hacc
        have := ih (k + 1) a b s t X (by omega) (by omega) hf hX hacc
        have hd : db d k k = 0 := (h.1.2.2.2 k hlt).2.2.2.1
        rw [hs2, hd, Int.mul_zero, Int.add_zero] at this
        rw [hs]; exact this
      by_cases hp : (plusL a b (tm c d ps i k).1 (tm c d ps i k).2.1).2.2 = true
      · rw [if_pos hp] at hacc
        have ht := tm_is h hr hki hi hlt hz hfit
        have htf := tm_ok h hfit hi hlt hz
        have e1 : plusL a b (tm c d ps i k).1 (tm c d ps i k).2.1 = ((plusL a b (tm c d ps i k).1 (tm c d ps i k).2.1).1, (plusL a b (tm c d ps i k).1 (tm c d ps i k).2.1).2.1, true) := by rw [← hp]
        have := ih (k + 1) _ _ s t (X + T k * db d k i) (by omega) (by omega) (plus_ok hf htf hp) (plus_is hX ht e1) hacc
        rw [hs2] at this
        rw [hs]
        refine ⟨this.1, ?_⟩
        have e2 : X + (sumF (fun k => T k * db d k i) (k + 1 + e) - sumF (fun k => T k * db d k i) k) = X + T k * db d k i + (sumF (fun k => T k * db d k i) (k + 1 + e) - (sumF (fun k => T k * db d k i) k + T k * db d k i)) := by omega
        rw [e2]
        exact this.2
      · rw [if_neg hp] at hacc; simp at hacc
def val (c : List Int) (d : List (List Int)) (D : Int) (T : Nat → Int) (i : Nat) : Int := rd c (i : Int) * D + sumF (fun k => T k * db d k i) c.length
theorem rF (xs : List F) (i : Nat) : rd_T36 xs (i : Int) = xs.getD i z36 := rfl
theorem fr_app (xs : List F) (x : F) (j : Nat) : rd_T36 (xs ++ [x]) (j : Int) = if j < xs.length then rd_T36 xs (j : Int) else if j = xs.length then x else z36 := by
  rw [rF, rF, List.getD_eq_getElem?_getD, List.getD_eq_getElem?_getD, List.getElem?_append]
  by_cases h : j < xs.length
  · simp [h]
  · by_cases e : j = xs.length
    · subst e; simp
    · rw [if_neg h, if_neg h, if_neg e, List.getElem?_eq_none (by simp; omega)]; rfl
theorem gv_is (h : PaysP c d ps) (hfit : Fits c d ps) {D : Nat → Int} {T : Nat → Nat → Int} (hr : ∀ i, i < c.length → Rep c d ps (D i) (T i) i) : ∀ (e i : Nat) (out res : List F), c.length - i = e → i ≤ c.length → out.length = i → (∀ j : Nat, j < i → FracP (fu out j) (fd out j) ∧ Is (D j) (val c d (D j) (T j) j) (fu out j) (fd out j)) → gv c d ps e i out = (res, true) →
    res.length = c.length ∧ ∀ j : Nat, j < c.length → FracP (fu res j) (fd res j) ∧ Is (D j) (val c d (D j) (T j) j) (fu res j) (fd res j) := by
  intro e
  induction e with
  | zero =>
    intro i out res he hi hl hj hg
    simp only [gv, Prod.mk.injEq, and_true] at hg
    subst hg
    exact ⟨by omega, fun j h2 => hj j (by omega)⟩
  | succ e ih =>
    intro i out res he hi hl hj hg
    have hlt : i < c.length := by omega
    have hc := h.1.2.2.2 i hlt
    simp only [gv] at hg
    cases ha : acc c d ps i c.length 0 (rd c (i : Int)) 1 with
    | none => rw [ha] at hg; simp at hg
    | some r =>
      rw [ha] at hg
      obtain ⟨s, t⟩ := r
      have hv := acc_is h hfit (hr i hlt) hlt c.length 0 _ _ s t _ rfl (by omega) (one_ok hc.1 (by have := hc.2.1; omega)) (one_is _ (D i)) ha
      refine ih (i + 1) _ res (by omega) (by omega) (by rw [List.length_append, hl]; rfl) ?_ hg
      intro j hj2
      unfold fu fd
      rw [fr_app, hl]
      by_cases e2 : j < i
      · rw [if_pos e2]; exact hj j e2
      · obtain rfl : j = i := by omega
        rw [if_neg e2, if_pos rfl]
        refine ⟨hv.1, ?_⟩
        have := hv.2
        rw [Nat.zero_add, show sumF (fun k => T j k * db d k j) 0 = 0 from rfl, Int.sub_zero] at this
        exact this
theorem gv_no : ∀ {e i : Nat} {out : List F}, (gv c d ps e i out).2 = true ∨ gv c d ps e i out = ([], false) := by
  intro e
  induction e with
  | zero => intro i out; left; rfl
  | succ e ih =>
    intro i out
    simp only [gv]
    cases acc c d ps i c.length 0 (rd c (i : Int)) 1 with
    | none => right; rfl
    | some r => exact ih
theorem gets_cases (h : PaysP c d ps) (hfit : Fits c d ps) : getsV c d ps = ([], false) ∨ ∃ res : List F, getsV c d ps = (res, true) ∧ res.length = c.length ∧ (∀ j : Nat, j < c.length → FracP (fu res j) (fd res j)) ∧ ∀ (D : Nat → Int) (T : Nat → Nat → Int), (∀ i, i < c.length → Rep c d ps (D i) (T i) i) → ∀ j : Nat, j < c.length → Is (D j) (val c d (D j) (T j) j) (fu res j) (fd res j) := by
  rcases gv_no (c := c) (d := d) (ps := ps) (e := c.length) (i := 0) (out := []) with h1 | h1
  · right
    have z := gv_is (D := fun _ => 0) (T := fun _ _ => 0) h hfit (fun i _ k _ _ => by simp) c.length 0 [] (getsV c d ps).1 rfl (by omega) rfl (fun j hj => by omega) (by rw [← h1]; rfl)
    refine ⟨(getsV c d ps).1, by rw [← h1]; rfl, z.1, fun j hj => (z.2 j hj).1, ?_⟩
    intro D T hr j hj
    exact ((gv_is h hfit hr c.length 0 [] _ rfl (by omega) rfl (fun j hj => by omega) (by rw [← h1]; rfl)).2 j hj).2
  · left; exact h1
theorem is_lt {D X Y a b p q : Int} (hD : 0 < D) (h : Is D X a b) (k : Is D Y p q) : (a * q < p * b) ↔ X < Y := by
  have hb := h.1; have hq := k.1; have h2 := h.2; have k2 := k.2
  have m : 0 < b * q := Int.mul_pos hb hq
  have e1 : a * q * D = X * (b * q) := by
    have : a * q * D = (a * D) * q := by grind
    rw [this, h2]; grind
  have e2 : p * b * D = Y * (b * q) := by
    have : p * b * D = (p * D) * b := by grind
    rw [this, k2]; grind
  constructor
  · intro hl
    have := Int.mul_lt_mul_of_pos_right hl hD
    rw [e1, e2] at this
    exact Int.lt_of_mul_lt_mul_right this (by omega)
  · intro hl
    have := Int.mul_lt_mul_of_pos_right hl m
    rw [← e1, ← e2] at this
    exact Int.lt_of_mul_lt_mul_right this (by omega)
end Go.Proofs.Ytcjmpjiclnfjmaa.Vl

namespace Go.Proofs.Ytcjmpjiclnfjmaa.Vf
open Go.RowKit Go.Proofs.Ytcjmpjiclnfjmaa.PU Go.Proofs.Ytcjmpjiclnfjmaa.Qh Go.Proofs.Ytcjmpjiclnfjmaa.Bk Go.Proofs.Ytcjmpjiclnfjmaa.Ow Go.Proofs.Ytcjmpjiclnfjmaa.Fr Go.Proofs.Ytcjmpjiclnfjmaa.Py Go.Proofs.Ytcjmpjiclnfjmaa.Gt Go.Proofs.Ytcjmpjiclnfjmaa.Gv Go.Proofs.Ytcjmpjiclnfjmaa.Np Go.Proofs.Ytcjmpjiclnfjmaa.Vl Go.Proofs.YtcjmpjiclnfjmaaW.PrintWords Go.Proofs.YtcjmpjiclnfjmaaW.PrintMore
set_option linter.unusedVariables false
set_option linter.unusedSimpArgs false
abbrev F := S36
variable {c : List Int} {d : List (List Int)} {ps : List F}
theorem fits_of (h : PaysP c d ps) (hM : ∀ k, k < c.length → fd ps k ≤ 3000000) : Fits c d ps := by
  intro i k hi hk h0
  have ho := ow_bd h.1 hk
  have hx := (h.1.2.2.2 k hk).2.2.2.2 i hi
  have hy := h.2.2 k hk
  have hf := hy.1
  have hfM := hM k hk
  have f3 := hf.2.2.1
  obtain ⟨p, q, e, hpf, hq⟩ := low_fits (x := rd (rd_L1 d (k : Int)) (i : Int)) (y := ow c d k) ⟨by omega, by omega⟩ (by omega) (by omega)
  have hv := (low_val (by omega) e).2
  have q1 := hpf.2.2.1
  have hp0 : 0 ≤ p := by
    rcases Int.lt_or_le p 0 with hn | hn
    · have h1 := Int.mul_lt_mul_of_pos_right hn (show 0 < ow c d k by omega)
      rw [Int.zero_mul, hv] at h1
      have h2 := Int.mul_nonneg hx.1 (show 0 ≤ q by omega)
      omega
    · exact hn
  have hp9 : p ≤ 9 := by
    rcases Int.lt_or_le 9 p with hn | hn
    · have h1 := Int.mul_lt_mul_of_pos_right hn (show 0 < ow c d k by omega)
      rw [hv] at h1
      have h2 := Int.mul_le_mul_of_nonneg_right hx.2 (show 0 ≤ q by omega)
      omega
    · exact hn
  have hu0 := hy.2.1
  have hu1 : fu ps k ≤ 36 * 3000000 := by
    have h1 := Int.mul_le_mul_of_nonneg_right (show ow c d k ≤ 36 by omega) (show 0 ≤ fd ps k by omega)
    have := hy.2.2
    omega
  have m0 := Int.mul_nonneg hu0 hp0
  have m1 : fu ps k * p ≤ fu ps k * 9 := Int.mul_le_mul_of_nonneg_left hp9 hu0
  have m2 : fd ps k * q ≤ fd ps k * 36 := Int.mul_le_mul_of_nonneg_left (by omega) (by omega)
  have m3 : 0 < fd ps k * q := Int.mul_pos (by omega) (by omega)
  unfold tm timesL pt
  rw [e]
  obtain ⟨s, t, e2, _, _⟩ := low_fits (x := fu ps k * p) (y := fd ps k * q) ⟨by omega, by omega⟩ m3 (by omega)
  show (low (fu ps k * p) (fd ps k * q)).2.2 = true
  rw [e2]
def prodF (f : Nat → Int) : Nat → Int
  | 0 => 1
  | n + 1 => prodF f n * f n
theorem prodF_pos {f : Nat → Int} : ∀ {n : Nat}, (∀ k, k < n → 0 < f k) → 0 < prodF f n
  | 0, _ => by show (0 : Int) < 1; omega
  | n + 1, h => Int.mul_pos (prodF_pos (fun k hk => h k (by omega))) (h n (by omega))
theorem prodF_dvd {f : Nat → Int} : ∀ {n k : Nat}, k < n → f k ∣ prodF f n
  | 0, _, h => by omega
  | n + 1, k, h => by
    by_cases e : k = n
    · subst e; exact ⟨prodF f k, by rw [prodF, Int.mul_comm]⟩
    · obtain ⟨z, hz⟩ := prodF_dvd (f := f) (n := n) (k := k) (by omega)
      exact ⟨z * f n, by rw [prodF, hz, Int.mul_assoc]⟩
theorem rep_ex (h : PaysP c d ps) : ∃ D T, 0 < D ∧ (∀ k, k < c.length → 0 ≤ T k) ∧ ∀ i, Rep c d ps D T i := by
  let m : Nat → Int := fun k => if ow c d k = 0 then 1 else fd ps k * ow c d k
  have hm : ∀ k, k < c.length → 0 < m k := by
    intro k hk
    have ho := ow_bd h.1 hk
    have := (h.2.2 k hk).1.2.2.1
    show 0 < (if ow c d k = 0 then (1 : Int) else fd ps k * ow c d k)
    split
    · omega
    · exact Int.mul_pos (by omega) (by omega)
  have hD := prodF_pos (f := m) (n := c.length) hm
  refine ⟨prodF m c.length, fun k => if ow c d k = 0 then 0 else fu ps k * (prodF m c.length / m k), hD, ?_, ?_⟩
  · intro k hk
    show 0 ≤ (if ow c d k = 0 then (0 : Int) else fu ps k * (prodF m c.length / m k))
    split
    · omega
    · exact Int.mul_nonneg (h.2.2 k hk).2.1 (Int.ediv_nonneg (by omega) (by have := hm k hk; omega))
  · intro i k hk _
    show fu ps k * prodF m c.length = (if ow c d k = 0 then (0 : Int) else fu ps k * (prodF m c.length / m k)) * ow c d k * fd ps k
    by_cases hz : ow c d k = 0
    · have h1 := (h.2.2 k hk).2.1
      have h2 := (h.2.2 k hk).2.2
      rw [hz, Int.zero_mul] at h2
      have h3 : fu ps k = 0 := by omega
      rw [if_pos hz, h3]; simp
    · rw [if_neg hz]
      have e : prodF m c.length / m k * m k = prodF m c.length := Int.ediv_mul_cancel (prodF_dvd (f := m) hk)
      have e2 : m k = fd ps k * ow c d k := if_neg hz
      generalize prodF m c.length / m k = z at e ⊢
      rw [← e, e2]
      grind
theorem sumF_nonneg {f : Nat → Int} : ∀ {n : Nat}, (∀ k, k < n → 0 ≤ f k) → 0 ≤ sumF f n
  | 0, _ => by show (0 : Int) ≤ 0; omega
  | n + 1, h => by
    have h1 := sumF_nonneg (f := f) (n := n) (fun k hk => h k (by omega))
    have h2 := h n (by omega)
    show 0 ≤ sumF f n + f n
    omega
theorem sumF_le {f g : Nat → Int} : ∀ {n : Nat}, (∀ k, k < n → f k ≤ g k) → sumF f n ≤ sumF g n
  | 0, _ => by show (0 : Int) ≤ 0; omega
  | n + 1, h => by
    have h1 := sumF_le (f := f) (g := g) (n := n) (fun k hk => h k (by omega))
    have h2 := h n (by omega)
    show sumF f n + f n ≤ sumF g n + g n
    omega
theorem db_bd (h : BookP c d) {i k : Nat} (hi : i < c.length) (hk : k < c.length) : 0 ≤ db d k i ∧ db d k i ≤ 9 := (h.2.2.2 k hk).2.2.2.2 i hi
theorem val_ge (h : BookP c d) {D : Int} {T : Nat → Int} (hT : ∀ k, k < c.length → 0 ≤ T k) {i : Nat} (hi : i < c.length) : rd c (i : Int) * D ≤ val c d D T i := by
  have := sumF_nonneg (f := fun k => T k * db d k i) (n := c.length) (fun k hk => Int.mul_nonneg (hT k hk) (db_bd h hi hk).1)
  unfold val
  omega
theorem none_fits (h : BookP c d) : Fits c d (none_ c.length) := fits_of (none_ok h) (fun k hk => by unfold fd; rw [none_get hk]; show (1 : Int) ≤ 3000000; omega)
theorem all_fits (h : BookP c d) : Fits c d (all_ c d) := fits_of (all_ok h) (fun k hk => by unfold fd; rw [all_get hk]; show (1 : Int) ≤ 3000000; omega)
theorem none_tm (h : BookP c d) {i k : Nat} (hi : i < c.length) (hk : k < c.length) (h0 : ow c d k ≠ 0) : tm c d (none_ c.length) i k = (0, 1, true) := by
  have hp := (pt_ok h hi hk h0).2
  unfold tm timesL fu fd
  rw [none_get hk]
  have := hp.2.2.1
  exact low_of (show 0 < 1 * (pt c d i k).2.1 by omega) (one_ok (by omega) (by omega)) (by show 0 * (1 * (pt c d i k).2.1) = 0 * (pt c d i k).1 * 1; simp)
theorem none_acc (h : BookP c d) {i : Nat} (hi : i < c.length) : ∀ (e k : Nat) (a b : Int), c.length - k = e → k ≤ c.length → FracP a b → acc c d (none_ c.length) i e k a b = some (a, b) := by
  intro e
  induction e with
  | zero => intro k a b _ _ _; rfl
  | succ e ih =>
    intro k a b he hk hf
    simp only [acc]
    by_cases hz : ow c d k = 0
    · rw [if_pos hz]; exact ih (k + 1) a b (by omega) (by omega) hf
    · have hpl : plusL a b 0 1 = (a, b, true) := by
        unfold plusL
        exact low_of (by have := hf.2.2.1; omega) hf (by grind)
      rw [if_neg hz, none_tm h hi (by omega) hz, hpl, if_pos rfl]
      exact ih (k + 1) a b (by omega) (by omega) hf
def wholes (f : Nat → Int) (n : Nat) : List F := (List.range n).map (fun i => (⟨f i, 1⟩ : F))
theorem wholes_len (f : Nat → Int) (n : Nat) : (wholes f n).length = n := by simp [wholes]
theorem wholes_get {f : Nat → Int} {n i : Nat} (h : i < n) : rd_T36 (wholes f n) (i : Int) = (⟨f i, 1⟩ : F) := by
  rw [Vl.rF, List.getD_eq_getElem?_getD, List.getElem?_eq_getElem (by rw [wholes_len]; exact h)]; simp [wholes]
theorem gv_whole {f : Nat → Int} (hf : ∀ i, i < c.length → acc c d ps i c.length 0 (rd c (i : Int)) 1 = some (f i, 1)) : ∀ (e i : Nat), c.length - i = e → i ≤ c.length → gv c d ps e i (wholes f i) = (wholes f c.length, true) := by
  intro e
  induction e with
  | zero =>
    intro i he hi
    obtain rfl : i = c.length := by omega
    rfl
  | succ e ih =>
    intro i he hi
    simp only [gv]
    rw [hf i (by omega)]
    have := ih (i + 1) (by omega) (by omega)
    rw [← this, wholes, wholes, List.range_succ, List.map_append]
    rfl
theorem none_gets (h : BookP c d) : getsV c d (none_ c.length) = (wholes (fun i => rd c (i : Int)) c.length, true) := by
  refine gv_whole (f := fun i => rd c (i : Int)) (fun i hi => ?_) c.length 0 rfl (by omega)
  have hc := h.2.2.2 i hi
  exact none_acc h hi c.length 0 _ _ rfl (by omega) (one_ok hc.1 (by have := hc.2.1; omega))
theorem all_tm (h : BookP c d) {i k : Nat} (hi : i < c.length) (hk : k < c.length) (h0 : ow c d k ≠ 0) : tm c d (all_ c d) i k = (db d k i, 1, true) := by
  have ho := ow_bd h hk
  have hb := db_bd h hi hk
  obtain ⟨p, q, e, hpf, hq⟩ := low_fits (x := db d k i) (y := ow c d k) ⟨by omega, by omega⟩ (by omega) (by omega)
  have hv := (low_val (by omega) e).2
  have q1 := hpf.2.2.1
  unfold tm timesL fu fd
  rw [all_get hk]
  have e2 : pt c d i k = (p, q, true) := e
  rw [e2]
  exact low_of (show 0 < 1 * q by omega) (one_ok hb.1 (by omega)) (by show db d k i * (1 * q) = ow c d k * p * 1; grind)
theorem all_acc (h : BookP c d) {i : Nat} (hi : i < c.length) : ∀ (e k : Nat) (a : Int), c.length - k = e → k ≤ c.length → 0 ≤ a → a ≤ 100 + 9 * k → acc c d (all_ c d) i e k a 1 = some (a + (sumF (fun k => db d k i) (k + e) - sumF (fun k => db d k i) k), 1) := by
  have h4 := h.2.1
  intro e
  induction e with
  | zero => intro k a _ _ _ _; simp [acc]
  | succ e ih =>
    intro k a he hk h0 h1
    have hlt : k < c.length := by omega
    have hb := db_bd h hi hlt
    have hs : sumF (fun k => db d k i) (k + (e + 1)) = sumF (fun k => db d k i) (k + 1 + e) := by rw [show k + (e + 1) = k + 1 + e by omega]
    have hs2 : sumF (fun k => db d k i) (k + 1) = sumF (fun k => db d k i) k + db d k i := rfl
    simp only [acc]
    by_cases hz : ow c d k = 0
    · rw [if_pos hz, ih (k + 1) a (by omega) (by omega) h0 (by omega), hs, hs2, db_zero h hi hlt hz]; simp
    · have hpl : plusL a 1 (db d k i) 1 = (a + db d k i, 1, true) := by
        unfold plusL
        exact low_of (by decide) (one_ok (by omega) (by omega)) (by simp)
      rw [if_neg hz, all_tm h hi hlt hz, hpl, if_pos rfl, ih (k + 1) (a + db d k i) (by omega) (by omega) (by omega) (by omega), hs, hs2]
      congr 1; congr 1; omega
theorem all_gets (h : BookP c d) : getsV c d (all_ c d) = (wholes (fun i => rd c (i : Int) + sumF (fun k => db d k i) c.length) c.length, true) := by
  refine gv_whole (f := fun i => rd c (i : Int) + sumF (fun k => db d k i) c.length) (fun i hi => ?_) c.length 0 rfl (by omega)
  have hc := h.2.2.2 i hi
  rw [all_acc h hi c.length 0 _ rfl (by omega) hc.1 (by have := hc.2.1; omega), Nat.zero_add, show sumF (fun k => db d k i) 0 = 0 from rfl, Int.sub_zero]
end Go.Proofs.Ytcjmpjiclnfjmaa.Vf

namespace Go.Proofs.Ytcjmpjiclnfjmaa.Li
open Go.RowKit Go.Proofs.Ytcjmpjiclnfjmaa.PU Go.Proofs.Ytcjmpjiclnfjmaa.Qh Go.Proofs.Ytcjmpjiclnfjmaa.Bk Go.Proofs.Ytcjmpjiclnfjmaa.Ow Go.Proofs.Ytcjmpjiclnfjmaa.Fr Go.Proofs.Ytcjmpjiclnfjmaa.Py Go.Proofs.Ytcjmpjiclnfjmaa.Gt Go.Proofs.Ytcjmpjiclnfjmaa.Gv Go.Proofs.Ytcjmpjiclnfjmaa.Np Go.Proofs.Ytcjmpjiclnfjmaa.Vl Go.Proofs.Ytcjmpjiclnfjmaa.Vf Go.Proofs.YtcjmpjiclnfjmaaW.PrintWords Go.Proofs.YtcjmpjiclnfjmaaW.PrintMore
set_option linter.unusedVariables false
set_option linter.unusedSimpArgs false
abbrev F := S36
def LI (n : Nat) (D : Int) (X : Nat → Int) (L : List F) : Prop := L.length = n ∧ ∀ i : Nat, i < n → FracP (fu L i) (fd L i) ∧ Is D (X i) (fu L i) (fd L i)
variable {c : List Int} {d : List (List Int)} {ps : List F}
theorem take_get {α : Type} {out res : List α} {dflt : α} {i : Nat} (hl : out.length = i) : (out ++ res.drop i).getD i dflt = res.getD i dflt := by
  rw [List.getD_eq_getElem?_getD, List.getD_eq_getElem?_getD, List.getElem?_append_right (by omega), List.getElem?_drop, hl, Nat.sub_self, Nat.add_zero]
theorem take_set {α : Type} {out res : List α} {v : α} {i : Nat} (hl : out.length = i) (hi : i < res.length) : (out ++ res.drop i).set i v = out ++ [v] ++ res.drop (i + 1) := by
  rw [List.set_append, if_neg (by omega), hl, Nat.sub_self, List.drop_eq_getElem_cons hi, List.set_cons_zero, List.append_assoc]
  rfl
def led (c : List Int) (d : List (List Int)) (res : List F) (i : Nat) : F := if fu res i * 1 > ow c d i * fd res i then (⟨ow c d i, 1⟩ : F) else rd_T36 res (i : Int)
def leadL (c : List Int) (d : List (List Int)) (res : List F) : List F := (List.range c.length).map (led c d res)
theorem leadL_len (res : List F) : (leadL c d res).length = c.length := by simp [leadL]
theorem leadL_get {res : List F} {i : Nat} (h : i < c.length) : rd_T36 (leadL c d res) (i : Int) = led c d res i := by
  rw [Vl.rF, List.getD_eq_getElem?_getD, List.getElem?_eq_getElem (by rw [leadL_len]; exact h)]; simp [leadL]
theorem lead_li (h : BookP c d) {D : Int} (hD : 0 < D) {X : Nat → Int} {res : List F} (hX : LI c.length D X res) : LI c.length D (fun i => min (X i) (ow c d i * D)) (leadL c d res) := by
  refine ⟨leadL_len res, fun i hi => ?_⟩
  have ho := ow_bd h hi
  obtain ⟨hf, hI⟩ := hX.2 i hi
  unfold fu fd
  rw [leadL_get hi]
  unfold led
  have hlt := is_lt hD (one_is (ow c d i) D) hI
  by_cases hc : fu res i * 1 > ow c d i * fd res i
  · rw [if_pos hc]
    have := hlt.1 (by omega)
    show FracP (ow c d i) 1 ∧ Is D (min (X i) (ow c d i * D)) (ow c d i) 1
    rw [Int.min_eq_right (by omega)]
    exact ⟨one_ok ho.1 (by omega), one_is _ _⟩
  · rw [if_neg hc]
    have := mt hlt.2 (by omega)
    show FracP (fu res i) (fd res i) ∧ Is D (min (X i) (ow c d i * D)) (fu res i) (fd res i)
    rw [Int.min_eq_left (by omega)]
    exact ⟨hf, hI⟩
theorem lead_pays (h : BookP c d) {D : Int} (hD : 0 < D) {X : Nat → Int} {res : List F} (hX : LI c.length D X res) (h0 : ∀ i : Nat, i < c.length → 0 ≤ X i) : PaysP c d (leadL c d res) := by
  refine ⟨h, leadL_len res, fun i hi => ?_⟩
  have ho := ow_bd h hi
  obtain ⟨hf, hI0⟩ := (lead_li h hD hX).2 i hi
  have hI : Is D (min (X i) (ow c d i * D)) (fu (leadL c d res) i) (fd (leadL c d res) i) := hI0
  have h0i := h0 i hi
  have hm : 0 ≤ ow c d i * D := Int.mul_nonneg ho.1 (by omega)
  refine ⟨hf, ?_, ?_⟩
  · have := mt (is_lt hD hI (one_is 0 D)).1 (by simp only [Int.zero_mul]; omega)
    rw [Int.mul_one, Int.zero_mul] at this
    omega
  · have := mt (is_lt hD (one_is (ow c d i) D) hI).1 (by omega)
    rw [Int.mul_one] at this
    omega
end Go.Proofs.Ytcjmpjiclnfjmaa.Li

namespace Go.Proofs.Ytcjmpjiclnfjmaa.Ld
open Go.RowKit Go.Proofs.Ytcjmpjiclnfjmaa.PU Go.Proofs.Ytcjmpjiclnfjmaa.Qh Go.Proofs.Ytcjmpjiclnfjmaa.Bk Go.Proofs.Ytcjmpjiclnfjmaa.Ow Go.Proofs.Ytcjmpjiclnfjmaa.Fr Go.Proofs.Ytcjmpjiclnfjmaa.Py Go.Proofs.Ytcjmpjiclnfjmaa.Gt Go.Proofs.Ytcjmpjiclnfjmaa.Gv Go.Proofs.Ytcjmpjiclnfjmaa.Np Go.Proofs.Ytcjmpjiclnfjmaa.Vl Go.Proofs.Ytcjmpjiclnfjmaa.Vf Go.Proofs.Ytcjmpjiclnfjmaa.Li Go.Proofs.YtcjmpjiclnfjmaaW.PrintWords Go.Proofs.YtcjmpjiclnfjmaaW.PrintMore
set_option linter.unusedVariables false
set_option linter.unusedSimpArgs false
abbrev F := S36
theorem cmp_lt (x y : Int) : ((if x < y then (-1 : Int) else if x > y then 1 else 0) < 0) ↔ x < y := by
  by_cases h : x < y
  · rw [if_pos h]; omega
  · rw [if_neg h]
    by_cases h2 : x > y
    · rw [if_pos h2]; omega
    · rw [if_neg h2]; omega
variable {c : List Int} {d : List (List Int)} {ps res : List F}
theorem rF (xs : List F) (i : Nat) : rd_T36 xs (i : Int) = xs.getD i z36 := rfl
theorem il_l0 (h : BookP c d) (hrl : res.length = c.length) (hr : ∀ j : Nat, j < c.length → FracP (fu res j) (fd res j)) : ∀ (e i : Nat), c.length - i = e → i ≤ c.length →
    Ev (fun k => impl_leadsTo.l0 k ((List.range i).map (led c d res) ++ res.drop i) (owes c d) ((owes c d).length : Int) (i : Int)) (leadL c d res, true) := by
  have h4 := h.2.1
  have hol := owes_len c d
  intro e
  induction e with
  | zero =>
    intro i he hi
    obtain rfl : i = c.length := by omega
    refine Ev.step (fun k => by rw [impl_leadsTo.l0]) ?_
    refine evNeg (by omega) (evEq (Ev.now _) ?_)
    rw [List.drop_of_length_le (by omega), List.append_nil]; rfl
  | succ e ih =>
    intro i he hi
    have hlt : i < c.length := by omega
    have hs : Aside0 (wrap64 ((i : Int) + 1) = ((i + 1 : Nat) : Int)) := ⟨wsucc hlt (by omega)⟩
    have hob := ow_bd h hlt
    have hout : ((List.range i).map (led c d res)).length = i := by simp
    have hx : rd_T36 ((List.range i).map (led c d res) ++ res.drop i) (i : Int) = rd_T36 res (i : Int) := by rw [rF, rF, take_get hout]
    have hll : ((List.range i).map (led c d res) ++ res.drop i).length = c.length := by rw [List.length_append, List.length_drop]; omega
    have hi' := ih (i + 1) (by omega) (by omega)
    rw [List.range_succ, List.map_append] at hi'
    refine Ev.step (fun k => by rw [impl_leadsTo.l0]) ?_
    rw [hx, hs.out, rd_owes hlt, Int.toNat_natCast]
    refine evPos (by omega) (evPos (by omega) (evPos (by omega) (evPos (by omega) ?_)))
    refine evBind0 (a := (ow c d i, 1)) rfl ?_
    refine evBind0 (icmp (p := ow c d i) (q := 1) (hr i hlt) (by omega) (by decide)) ?_
    by_cases hc : fu res i * 1 > ow c d i * fd res i
    · refine evPos ((cmp_gt _ _).2 hc) (evBind0 (a := (ow c d i, 1)) rfl ?_)
      rw [take_set hout (by omega)]
      have e2 : led c d res i = (⟨ow c d i, 1⟩ : F) := by unfold led; rw [if_pos hc]
      simp only [List.map_cons, List.map_nil, e2] at hi'
      exact hi'
    · refine evNeg (fun z => hc ((cmp_gt _ _).1 z)) ?_
      have e2 : led c d res i = rd_T36 res (i : Int) := by unfold led; rw [if_neg hc]
      simp only [List.map_cons, List.map_nil, e2] at hi'
      have e3 : res.drop i = rd_T36 res (i : Int) :: res.drop (i + 1) := by rw [rF]; exact drop_of _ _ _ (by omega)
      rw [e3]
      rw [List.append_assoc] at hi'
      exact hi'
theorem sall_l {c : List Int} {d : List (List Int)} (h : BookP c d) : ∀ (e i : Nat), c.length - i = e → i ≤ c.length → Ev (fun k => spec_AllPaid.l0 k (owes c d) ((List.range i).map (fun i => (⟨ow c d i, 1⟩ : F))) (i : Int)) (all_ c d) := by
  have h4 := h.2.1
  have hol := owes_len c d
  intro e
  induction e with
  | zero =>
    intro i he hi
    obtain rfl : i = c.length := by omega
    refine Ev.step (fun k => by rw [spec_AllPaid.l0]) ?_
    exact evNeg (by omega) (Ev.now _)
  | succ e ih =>
    intro i he hi
    have hlt : i < c.length := by omega
    have hs : Aside0 (wrap64 ((i : Int) + 1) = ((i + 1 : Nat) : Int)) := ⟨wsucc hlt (by omega)⟩
    have hl : ((List.range i).map (fun i => (⟨ow c d i, 1⟩ : F))).length = i := by simp
    refine Ev.step (fun k => by rw [spec_AllPaid.l0]) ?_
    refine evPos (by omega) (evPos (by omega) (evPos (by omega) ?_))
    rw [rd_owes hlt, hs.out]
    have := ih (i + 1) (by omega) (by omega)
    rwa [List.range_succ, List.map_append] at this
theorem sall {c : List Int} {d : List (List Int)} (h : BookP c d) : Ev (fun k => spec_AllPaid.f k c d) (all_ c d) := by
  unfold spec_AllPaid.f
  exact Ev.bind (sowes h) (sall_l h _ 0 rfl (by omega))
theorem led_eq (h : BookP c d) {i : Nat} (hi : i < c.length) (hr : FracP (fu res i) (fd res i)) (h1 : ¬ fu res i * 1 < ow c d i * fd res i) : led c d res i = (⟨ow c d i, 1⟩ : F) := by
  have ho := ow_bd h hi
  unfold led
  by_cases hc : fu res i * 1 > ow c d i * fd res i
  · rw [if_pos hc]
  · rw [if_neg hc]
    have e : fu res i * 1 = ow c d i * fd res i := by omega
    have l1 := low_of (up := fu res i) (down := fd res i) (by have := hr.2.2.1; omega) hr rfl
    have l2 := low_of (up := fu res i) (down := fd res i) (p := ow c d i) (q := 1) (by have := hr.2.2.1; omega) (one_ok ho.1 (by omega)) (by omega)
    rw [l1] at l2
    simp only [Prod.mk.injEq, and_true] at l2
    obtain ⟨a1, a2⟩ := l2
    have : rd_T36 res (i : Int) = (⟨fu res i, fd res i⟩ : F) := rfl
    rw [this, a1, a2]
theorem sl_l0 (h : BookP c d) (hrl : res.length = c.length) (hr : ∀ j : Nat, j < c.length → FracP (fu res j) (fd res j)) : ∀ (e i : Nat), c.length - i = e → i ≤ c.length →
    Ev (fun k => spec_LeadsTo.l0 k res true (all_ c d) ((List.range i).map (led c d res)) (i : Int)) (leadL c d res, true) := by
  have h4 := h.2.1
  have hal := all_len c d
  intro e
  induction e with
  | zero =>
    intro i he hi
    obtain rfl : i = c.length := by omega
    refine Ev.step (fun k => by rw [spec_LeadsTo.l0]) ?_
    refine evNeg (by omega) (Ev.step (fun k => by rw [spec_LeadsTo.j1]) ?_)
    exact evNeg (by decide) (Ev.now _)
  | succ e ih =>
    intro i he hi
    have hlt : i < c.length := by omega
    have hs : Aside0 (wrap64 ((i : Int) + 1) = ((i + 1 : Nat) : Int)) := ⟨wsucc hlt (by omega)⟩
    have hob := ow_bd h hlt
    have hll : ((List.range i).map (led c d res)).length = i := by simp
    have hi' := ih (i + 1) (by omega) (by omega)
    rw [List.range_succ, List.map_append] at hi'
    refine Ev.step (fun k => by rw [spec_LeadsTo.l0]) ?_
    refine evPos (by omega) (Ev.step (fun k => by rw [spec_LeadsTo.j1]) ?_)
    rw [hs.out, all_get hlt]
    refine evPos rfl (evPos (by omega) (evPos (by omega) (evPos (by omega) ?_)))
    refine Ev.bind (sbefore (p := ow c d i) (q := 1) (hr i hlt) (one_ok hob.1 (by omega))) ?_
    by_cases hc : fu res i * 1 < ow c d i * fd res i
    · refine evPos ((cmp_lt _ _).2 hc) (evPos (by omega) ?_)
      have e2 : led c d res i = rd_T36 res (i : Int) := by unfold led; rw [if_neg (by omega)]
      simp only [List.map_cons, List.map_nil, e2] at hi'
      exact hi'
    · refine evNeg (fun z => hc ((cmp_lt _ _).1 z)) (evPos (by omega) ?_)
      have e2 := led_eq h hlt (hr i hlt) hc
      simp only [List.map_cons, List.map_nil, e2] at hi'
      exact hi'
def leadV (c : List Int) (d : List (List Int)) (ps : List F) : List F × Bool := if (getsV c d ps).2 = true then (leadL c d (getsV c d ps).1, true) else ([], false)
theorem lead_cases (h : PaysP c d ps) (hf : Fits c d ps) : leadV c d ps = ([], false) ∨ ∃ res : List F, leadV c d ps = (leadL c d res, true) ∧ res.length = c.length ∧ (∀ j : Nat, j < c.length → FracP (fu res j) (fd res j)) ∧ ∀ (D : Nat → Int) (T : Nat → Nat → Int), (∀ i, i < c.length → Rep c d ps (D i) (T i) i) → ∀ j : Nat, j < c.length → Is (D j) (val c d (D j) (T j) j) (fu res j) (fd res j) := by
  rcases gets_cases h hf with e | ⟨res, e, hr⟩
  · left; unfold leadV; rw [e]; rfl
  · right; refine ⟨res, ?_, hr⟩; unfold leadV; rw [e]; rfl
theorem ilead (h : PaysP c d ps) (hf : Fits c d ps) : Ev (fun k => impl_leadsTo.f k c d ps) (leadV c d ps) := by
  have h1 := igets h hf
  unfold impl_leadsTo.f leadV
  rcases gets_cases h hf with e | ⟨res, e, hrl, hrf, _⟩
  · rw [e] at h1 ⊢
    exact Ev.bind h1 (evNeg (by decide) (Ev.now _))
  · rw [e] at h1 ⊢
    exact Ev.bind h1 (evPos rfl (Ev.bind (iowes h.1) (il_l0 h.1 hrl hrf _ 0 rfl (by omega))))
theorem slead (h : PaysP c d ps) (hf : Fits c d ps) : Ev (fun k => spec_LeadsTo.f k c d ps) (leadV c d ps) := by
  have h1 := sgetsOf h hf
  unfold spec_LeadsTo.f leadV
  rcases gets_cases h hf with e | ⟨res, e, hrl, hrf, _⟩
  · rw [e] at h1 ⊢
    have fin : ∀ al : List F, Ev (fun k => spec_LeadsTo.l0 k [] false al [] 0) ([], false) := fun al =>
      Ev.step (fun k => by rw [spec_LeadsTo.l0]) (evNeg (by simp) (Ev.step (fun k => by rw [spec_LeadsTo.j1]) (evNeg (by decide) (Ev.now _))))
    exact Ev.bind h1 (Ev.bind (sall h.1) (fin _))
  · rw [e] at h1 ⊢
    exact Ev.bind h1 (Ev.bind (sall h.1) (sl_l0 h.1 hrl hrf _ 0 rfl (by omega)))
end Go.Proofs.Ytcjmpjiclnfjmaa.Ld

namespace Go.Proofs.Ytcjmpjiclnfjmaa.Sg
open Go.RowKit Go.Proofs.Ytcjmpjiclnfjmaa.PU Go.Proofs.Ytcjmpjiclnfjmaa.Qh Go.Proofs.Ytcjmpjiclnfjmaa.Bk Go.Proofs.Ytcjmpjiclnfjmaa.Ow Go.Proofs.Ytcjmpjiclnfjmaa.Fr Go.Proofs.Ytcjmpjiclnfjmaa.Py Go.Proofs.Ytcjmpjiclnfjmaa.Gt Go.Proofs.Ytcjmpjiclnfjmaa.Gv Go.Proofs.Ytcjmpjiclnfjmaa.Np Go.Proofs.Ytcjmpjiclnfjmaa.Vl Go.Proofs.Ytcjmpjiclnfjmaa.Vf Go.Proofs.Ytcjmpjiclnfjmaa.Li Go.Proofs.Ytcjmpjiclnfjmaa.Ld Go.Proofs.YtcjmpjiclnfjmaaW.PrintWords Go.Proofs.YtcjmpjiclnfjmaaW.PrintMore
set_option linter.unusedVariables false
set_option linter.unusedSimpArgs false
abbrev F := S36
variable {c : List Int} {d : List (List Int)} {ps : List F}
theorem is_bd {D X a b : Int} (hD : 0 < D) (h : Is D X a b) (hf : FracP a b) : b ≤ D := by
  have h1 : b ∣ a * D := ⟨X, by rw [h.2, Int.mul_comm]⟩
  have h2 : b.natAbs ∣ a.natAbs * D.natAbs := by rw [← Int.natAbs_mul]; exact Int.natAbs_dvd_natAbs.mpr h1
  have hc : Nat.Coprime b.natAbs a.natAbs := by rw [Nat.coprime_comm]; exact hf.2.2.2.2
  have h3 : b.natAbs ∣ D.natAbs := Nat.Coprime.dvd_of_dvd_mul_left hc h2
  have h4 := Nat.le_of_dvd (by omega) h3
  have := h.1
  omega
def m (c : List Int) (d : List (List Int)) (k : Nat) : Int := if ow c d k = 0 then 1 else ow c d k
theorem m_bd (h : BookP c d) {k : Nat} (hk : k < c.length) : 1 ≤ m c d k ∧ m c d k ≤ 36 := by
  have := ow_bd h hk
  unfold m
  split <;> omega
def mi (c : List Int) (d : List (List Int)) (i k : Nat) : Int := if k = i then 1 else m c d k
theorem mi_bd (h : BookP c d) {i k : Nat} (hk : k < c.length) : 1 ≤ mi c d i k ∧ mi c d i k ≤ 36 := by
  have := m_bd h hk
  unfold mi
  split <;> omega
theorem prod_bd {f : Nat → Int} : ∀ {n : Nat}, (∀ k, k < n → 1 ≤ f k ∧ f k ≤ 36) → 1 ≤ prodF f n ∧ prodF f n ≤ 36 ^ n
  | 0, _ => by show (1 : Int) ≤ 1 ∧ (1 : Int) ≤ 36 ^ 0; omega
  | n + 1, h => by
    have h1 := prod_bd (f := f) (n := n) (fun k hk => h k (by omega))
    have h2 := h n (by omega)
    show 1 ≤ prodF f n * f n ∧ prodF f n * f n ≤ 36 ^ (n + 1)
    have a := Int.mul_pos (show 0 < prodF f n by omega) (show 0 < f n by omega)
    have b : prodF f n * f n ≤ 36 ^ n * 36 := Int.mul_le_mul h1.2 h2.2 (by omega) (by omega)
    rw [Int.pow_succ]
    omega
theorem pow_bd {n : Nat} (h : n ≤ 4) : (36 : Int) ^ n ≤ 1679616 := by
  rcases (by omega : n = 0 ∨ n = 1 ∨ n = 2 ∨ n = 3 ∨ n = 4) with h | h | h | h | h <;> subst h <;> decide
def Qi (c : List Int) (d : List (List Int)) (i : Nat) : Int := prodF (mi c d i) c.length
def Pa (c : List Int) (d : List (List Int)) : Int := prodF (m c d) c.length
theorem Qi_bd (h : BookP c d) (i : Nat) : 1 ≤ Qi c d i ∧ Qi c d i ≤ 1679616 := by
  have := prod_bd (f := mi c d i) (n := c.length) (fun k hk => mi_bd h hk)
  have := pow_bd h.2.1
  unfold Qi; omega
theorem Pa_bd (h : BookP c d) : 1 ≤ Pa c d ∧ Pa c d ≤ 1679616 := by
  have := prod_bd (f := m c d) (n := c.length) (fun k hk => m_bd h hk)
  have := pow_bd h.2.1
  unfold Pa; omega
theorem prod_split {f : Nat → Int} {i : Nat} : ∀ {n : Nat}, i < n → prodF f n = prodF (fun k => if k = i then 1 else f k) n * f i
  | 0, h => by omega
  | n + 1, h => by
    by_cases e : i = n
    · subst e
      have key : ∀ j : Nat, j ≤ i → prodF (fun k => if k = i then 1 else f k) j = prodF f j := by
        intro j
        induction j with
        | zero => intro _; rfl
        | succ j ih =>
          intro hj
          show prodF (fun k => if k = i then 1 else f k) j * (if j = i then 1 else f j) = prodF f j * f j
          rw [ih (by omega), if_neg (by omega)]
      show prodF f i * f i = prodF (fun k => if k = i then 1 else f k) i * (if i = i then 1 else f i) * f i
      rw [key i (Nat.le_refl _), if_pos rfl, Int.mul_one]
    · have ih := prod_split (f := f) (i := i) (n := n) (by omega)
      show prodF f n * f n = prodF (fun k => if k = i then 1 else f k) n * (if n = i then 1 else f n) * f i
      rw [ih, if_neg (fun z => e z.symm)]
      grind
theorem Pa_split (c : List Int) (d : List (List Int)) {i : Nat} (hi : i < c.length) : Pa c d = Qi c d i * m c d i := prod_split hi
theorem Qi_dvd (c : List Int) (d : List (List Int)) {i k : Nat} (hk : k < c.length) (hki : k ≠ i) : m c d k ∣ Qi c d i := by
  have := prodF_dvd (f := mi c d i) hk
  have e : mi c d i k = m c d k := if_neg hki
  rw [e] at this
  exact this
def Stage (c : List Int) (d : List (List Int)) : Nat → List F → Prop
  | 0, ps => ps = all_ c d ∨ ps = none_ c.length
  | 1, ps => PaysP c d ps ∧ ∀ i, i < c.length → fd ps i = 1
  | 2, ps => PaysP c d ps ∧ ∀ i, i < c.length → ∃ X, Is (Qi c d i) X (fu ps i) (fd ps i)
  | 3, ps => PaysP c d ps ∧ ∀ i, i < c.length → fd ps i ≤ 1679616
  | _, _ => True
theorem stage_ok (h : BookP c d) : ∀ {s : Nat}, s ≤ 3 → Stage c d s ps → PaysP c d ps ∧ Fits c d ps
  | 0, _, hs => by
    rcases hs with rfl | rfl
    · exact ⟨all_ok h, all_fits h⟩
    · exact ⟨none_ok h, none_fits h⟩
  | 1, _, hs => ⟨hs.1, fits_of hs.1 (fun k hk => by rw [hs.2 k hk]; omega)⟩
  | 2, _, hs => ⟨hs.1, fits_of hs.1 (fun k hk => by
      obtain ⟨X, hX⟩ := hs.2 k hk
      have := Qi_bd h k
      have := is_bd (by omega) hX (hs.1.2.2 k hk).1
      omega)⟩
  | 3, _, hs => ⟨hs.1, fits_of hs.1 (fun k hk => by have := hs.2 k hk; omega)⟩
  | s + 4, hs4, _ => by omega
theorem lead_ok (h : PaysP c d ps) {res : List F} (hrl : res.length = c.length) (hrf : ∀ j : Nat, j < c.length → FracP (fu res j) (fd res j))
    (hri : ∀ (D : Nat → Int) (T : Nat → Nat → Int), (∀ i, i < c.length → Rep c d ps (D i) (T i) i) → ∀ j : Nat, j < c.length → Is (D j) (val c d (D j) (T j) j) (fu res j) (fd res j)) : PaysP c d (leadL c d res) := by
  obtain ⟨D, T, hD, hT, hR⟩ := rep_ex h
  refine lead_pays h.1 hD (X := val c d D T) ⟨hrl, fun i hi => ⟨hrf i hi, hri (fun _ => D) (fun _ => T) (fun i _ => hR i) i hi⟩⟩ (fun i hi => ?_)
  have h1 := val_ge h.1 (D := D) hT hi
  have h2 := Int.mul_nonneg (h.1.2.2.2 i hi).1 (show 0 ≤ D by omega)
  omega
theorem led_fd {res : List F} {i : Nat} (hi : i < c.length) : fd (leadL c d res) i = 1 ∨ fu (leadL c d res) i = fu res i ∧ fd (leadL c d res) i = fd res i := by
  unfold fu fd
  rw [leadL_get hi]
  unfold led
  split
  · left; rfl
  · right; exact ⟨rfl, rfl⟩
theorem led_is {res : List F} {i : Nat} {D X : Int} (hi : i < c.length) (h : Is D X (fu res i) (fd res i)) : ∃ Y, Is D Y (fu (leadL c d res) i) (fd (leadL c d res) i) := by
  unfold fu fd
  rw [leadL_get hi]
  unfold led
  split
  · exact ⟨ow c d i * D, one_is _ _⟩
  · exact ⟨X, h⟩
theorem stage_next (h : BookP c d) : ∀ {s : Nat}, s ≤ 3 → Stage c d s ps → leadV c d ps = ([], false) ∨ ∃ nx : List F, leadV c d ps = (nx, true) ∧ nx.length = c.length ∧ Stage c d (s + 1) nx
  | 0, h3, hs => by
    right
    have key : ∀ f : Nat → Int, getsV c d ps = (wholes f c.length, true) → (∀ i, i < c.length → 0 ≤ f i ∧ f i ≤ 1000000000) → leadV c d ps = (leadL c d (wholes f c.length), true) ∧ ∀ i, i < c.length → fd (leadL c d (wholes f c.length)) i = 1 := by
      intro f e hf
      refine ⟨by unfold leadV; rw [e]; rfl, fun i hi => ?_⟩
      rcases led_fd (c := c) (d := d) (res := wholes f c.length) hi with h1 | ⟨_, h1⟩
      · exact h1
      · rw [h1]; unfold fd; rw [wholes_get hi]
    obtain ⟨hp, hft⟩ := stage_ok h h3 hs
    have e : ∃ f : Nat → Int, getsV c d ps = (wholes f c.length, true) ∧ (∀ i, i < c.length → 0 ≤ f i ∧ f i ≤ 1000000000) := by
      rcases hs with rfl | rfl
      · refine ⟨_, all_gets h, fun i hi => ?_⟩
        have hc := h.2.2.2 i hi
        have h1 := sumF_nonneg (f := fun k => db d k i) (n := c.length) (fun k hk => (db_bd h hi hk).1)
        have h2 := sumF_le (f := fun k => db d k i) (g := fun _ => 9) (n := c.length) (fun k hk => (db_bd h hi hk).2)
        have h3 : ∀ n : Nat, sumF (fun _ => 9) n = 9 * n := by
          intro n
          induction n with
          | zero => rfl
          | succ n ih => show sumF (fun _ => 9) n + 9 = _; rw [ih]; omega
        rw [h3] at h2
        have := h.2.1
        show 0 ≤ rd c (i : Int) + sumF (fun k => db d k i) c.length ∧ rd c (i : Int) + sumF (fun k => db d k i) c.length ≤ 1000000000
        exact ⟨by have := hc.1; omega, by have := hc.2.1; omega⟩
      · refine ⟨_, none_gets h, fun i hi => ?_⟩
        have hc := h.2.2.2 i hi
        exact ⟨hc.1, by have := hc.2.1; show rd c (i : Int) ≤ 1000000000; omega⟩
    obtain ⟨f, e, hf⟩ := e
    obtain ⟨k1, k2⟩ := key f e hf
    refine ⟨_, k1, leadL_len _, ?_, k2⟩
    rcases gets_cases hp hft with e2 | ⟨res, e2, hrl, hrf, hri⟩
    · rw [e] at e2; simp at e2
    · rw [e] at e2
      simp only [Prod.mk.injEq, and_true] at e2
      subst e2
      exact lead_ok hp hrl hrf hri
  | 1, h3, hs => by
    obtain ⟨hp, hft⟩ := stage_ok h h3 hs
    rcases lead_cases hp hft with e | ⟨res, e, hrl, hrf, hri⟩
    · exact .inl e
    · refine .inr ⟨_, e, leadL_len _, lead_ok hp hrl hrf hri, fun i hi => ?_⟩
      refine led_is (X := val c d (Qi c d i) (fun k => if ow c d k = 0 then 0 else fu ps k * (Qi c d i / ow c d k)) i) hi ?_
      refine hri (fun i => Qi c d i) (fun i k => if ow c d k = 0 then 0 else fu ps k * (Qi c d i / ow c d k)) (fun i hi k hk hki => ?_) i hi
      show fu ps k * Qi c d i = (if ow c d k = 0 then (0 : Int) else fu ps k * (Qi c d i / ow c d k)) * ow c d k * fd ps k
      rw [hs.2 k hk]
      by_cases hz : ow c d k = 0
      · have h1 := (hp.2.2 k hk).2.1
        have h2 := (hp.2.2 k hk).2.2
        rw [hz, Int.zero_mul] at h2
        have h4 : fu ps k = 0 := by omega
        rw [if_pos hz, h4]; simp
      · rw [if_neg hz]
        have hd := Qi_dvd c d (i := i) hk hki
        have em : m c d k = ow c d k := if_neg hz
        rw [em] at hd
        have e3 : Qi c d i / ow c d k * ow c d k = Qi c d i := Int.ediv_mul_cancel hd
        rw [Int.mul_one, Int.mul_assoc, e3]
  | 2, h3, hs => by
    obtain ⟨hp, hft⟩ := stage_ok h h3 hs
    rcases lead_cases hp hft with e | ⟨res, e, hrl, hrf, hri⟩
    · exact .inl e
    · refine .inr ⟨_, e, leadL_len _, lead_ok hp hrl hrf hri, fun i hi => ?_⟩
      have hX : ∀ k : Nat, ∃ X : Int, k < c.length → Is (Qi c d k) X (fu ps k) (fd ps k) := by
        intro k
        by_cases hk : k < c.length
        · obtain ⟨X, hX⟩ := hs.2 k hk; exact ⟨X, fun _ => hX⟩
        · exact ⟨0, fun z => absurd z hk⟩
      have hI := hri (fun _ => Pa c d) (fun _ k => if ow c d k = 0 then 0 else (hX k).choose) (fun i hi k hk hki => by
        show fu ps k * Pa c d = (if ow c d k = 0 then (0 : Int) else (hX k).choose) * ow c d k * fd ps k
        by_cases hz : ow c d k = 0
        · have h1 := (hp.2.2 k hk).2.1
          have h2 := (hp.2.2 k hk).2.2
          rw [hz, Int.zero_mul] at h2
          have h4 : fu ps k = 0 := by omega
          rw [if_pos hz, h4]; simp
        · rw [if_neg hz]
          have hx := ((hX k).choose_spec hk).2
          have em : m c d k = ow c d k := if_neg hz
          rw [Pa_split c d hk, em, ← Int.mul_assoc, hx]
          grind) i hi
      obtain ⟨Y, hY⟩ := led_is (c := c) (d := d) hi hI
      have hb := Pa_bd h
      have := is_bd (by omega) hY ((lead_ok hp hrl hrf hri).2.2 i hi).1
      omega
  | 3, h3, hs => by
    obtain ⟨hp, hft⟩ := stage_ok h h3 hs
    rcases lead_cases hp hft with e | ⟨res, e, _⟩
    · exact .inl e
    · exact .inr ⟨_, e, leadL_len _, trivial⟩
  | s + 4, h3, _ => by omega
end Go.Proofs.Ytcjmpjiclnfjmaa.Sg

namespace Go.Proofs.Ytcjmpjiclnfjmaa.Ss
open Go.RowKit Go.Proofs.Ytcjmpjiclnfjmaa.PU Go.Proofs.Ytcjmpjiclnfjmaa.Qh Go.Proofs.Ytcjmpjiclnfjmaa.Bk Go.Proofs.Ytcjmpjiclnfjmaa.Ow Go.Proofs.Ytcjmpjiclnfjmaa.Fr Go.Proofs.Ytcjmpjiclnfjmaa.Py Go.Proofs.Ytcjmpjiclnfjmaa.Gt Go.Proofs.Ytcjmpjiclnfjmaa.Gv Go.Proofs.Ytcjmpjiclnfjmaa.Np Go.Proofs.Ytcjmpjiclnfjmaa.Vl Go.Proofs.Ytcjmpjiclnfjmaa.Vf Go.Proofs.Ytcjmpjiclnfjmaa.Li Go.Proofs.Ytcjmpjiclnfjmaa.Ld Go.Proofs.Ytcjmpjiclnfjmaa.Sg Go.Proofs.YtcjmpjiclnfjmaaW.PrintWords Go.Proofs.YtcjmpjiclnfjmaaW.PrintMore
set_option linter.unusedVariables false
set_option linter.unusedSimpArgs false
abbrev F := S36
variable {c : List Int} {d : List (List Int)}
theorem loops (h : BookP c d) (n : Nat) (hn : n ≤ 4) : ∀ (e s : Nat) (ps : List F), n - s = e → s ≤ n → ps.length = c.length → Stage c d s ps →
    ∃ r : List F × Bool, r.1.length ≤ 4 ∧ Ev (fun k => impl_after.l0 k ps (n : Int) (s : Int) c d) r ∧ Ev (fun k => spec_l6Steps.l0 k (n : Int) ps (s : Int) c d) r := by
  have h4 := h.2.1
  intro e
  induction e with
  | zero =>
    intro s ps he hs hl _
    refine ⟨(ps, true), by show ps.length ≤ 4; omega, Ev.step (fun k => by rw [impl_after.l0]) ?_, Ev.step (fun k => by rw [spec_l6Steps.l0]) ?_⟩
    · exact evNeg (by omega) (Ev.now _)
    · exact evNeg (by omega) (Ev.now _)
  | succ e ih =>
    intro s ps he hs hl hst
    have hw : Aside0 (wrap64 ((s : Int) + 1) = ((s + 1 : Nat) : Int)) := ⟨wsucc (n := n) (by omega) (by omega)⟩
    obtain ⟨hp, hf⟩ := stage_ok h (by omega) hst
    have i1 := ilead hp hf
    have i2 := slead hp hf
    rcases stage_next h (by omega) hst with e1 | ⟨nx, e1, hnl, hns⟩
    · rw [e1] at i1 i2
      refine ⟨([], false), by simp, Ev.step (fun k => by rw [impl_after.l0]) ?_, Ev.step (fun k => by rw [spec_l6Steps.l0]) ?_⟩
      · exact evPos (by omega) (Ev.bind i1 (evNeg (by decide) (Ev.now _)))
      · exact evPos (by omega) (Ev.bind i2 (evNeg (by decide) (Ev.now _)))
    · rw [e1] at i1 i2
      obtain ⟨r, hr, r1, r2⟩ := ih (s + 1) nx (by omega) (by omega) hnl hns
      refine ⟨r, hr, Ev.step (fun k => by rw [impl_after.l0]) ?_, Ev.step (fun k => by rw [spec_l6Steps.l0]) ?_⟩
      · rw [hw.out]; exact evPos (by omega) (Ev.bind i1 (evPos rfl r1))
      · rw [hw.out]; exact evPos (by omega) (Ev.bind i2 (evPos rfl r2))
theorem both (h : BookP c d) {ps : List F} (hl : ps.length = c.length) (hs : Stage c d 0 ps) (a : Int) : ∃ r : List F × Bool, r.1.length ≤ 4 ∧ Ev (fun k => impl_after.f k c d ps a) r ∧ Ev (fun k => spec_l6Steps.f k c d ps a) r := by
  unfold impl_after.f spec_l6Steps.f
  by_cases h0 : a < 0
  · refine ⟨([], false), by simp, evPos h0 (Ev.step (fun k => by rw [impl_after.j0]) (evPos rfl (Ev.now _))), ?_⟩
    refine Ev.bind ((bookOk c d).yes h) (evPos rfl (evBind0 (Fr.l1In _ _ _) ?_))
    have e : (!decide (0 ≤ a ∧ a ≤ 4)) = true := by simp; omega
    rw [e]
    exact Ev.step (fun k => by rw [spec_l6Steps.j0]) (evPos rfl (Ev.now _))
  · by_cases h4 : a > 4
    · refine ⟨([], false), by simp, evNeg h0 ?_, ?_⟩
      · rw [decide_eq_true h4]
        exact Ev.step (fun k => by rw [impl_after.j0]) (evPos rfl (Ev.now _))
      · refine Ev.bind ((bookOk c d).yes h) (evPos rfl (evBind0 (Fr.l1In _ _ _) ?_))
        have e : (!decide (0 ≤ a ∧ a ≤ 4)) = true := by simp; omega
        rw [e]
        exact Ev.step (fun k => by rw [spec_l6Steps.j0]) (evPos rfl (Ev.now _))
    · obtain ⟨n, rfl⟩ : ∃ n : Nat, a = (n : Int) := ⟨a.toNat, by omega⟩
      obtain ⟨r, hr, r1, r2⟩ := loops h n (by omega) n 0 ps (by omega) (by omega) hl hs
      refine ⟨r, hr, evNeg h0 ?_, ?_⟩
      · rw [decide_eq_false h4]
        refine Ev.step (fun k => by rw [impl_after.j0]) ?_
        exact evNeg (by decide) r1
      · refine Ev.bind ((bookOk c d).yes h) (evPos rfl (evBind0 (Fr.l1In _ _ _) ?_))
        have e : (!decide (0 ≤ (n : Int) ∧ (n : Int) ≤ 4)) = false := by simp; omega
        rw [e]
        refine Ev.step (fun k => by rw [spec_l6Steps.j0]) ?_
        exact evNeg (by decide) r2
theorem none_ (h : ¬ BookP c d) (ps : List F) (a : Int) : Ev (fun k => spec_l6Steps.f k c d ps a) ([], false) := by
  unfold spec_l6Steps.f
  refine Ev.bind ((bookOk c d).no h) (evNeg (by decide) ?_)
  exact Ev.step (fun k => by rw [spec_l6Steps.j0]) (evPos rfl (Ev.now _))
end Go.Proofs.Ytcjmpjiclnfjmaa.Ss

namespace Go.Proofs.Ytcjmpjiclnfjmaa.Tg
open Go.RowKit Go.Proofs.Ytcjmpjiclnfjmaa.PU Go.Proofs.Ytcjmpjiclnfjmaa.Qh Go.Proofs.Ytcjmpjiclnfjmaa.Li Go.Proofs.YtcjmpjiclnfjmaaW.PrintWords Go.Proofs.YtcjmpjiclnfjmaaW.PrintMore
set_option linter.unusedVariables false
set_option linter.unusedSimpArgs false
abbrev F := S36
theorem rF (xs : List F) (i : Nat) : rd_T36 xs (i : Int) = xs.getD i z36 := rfl
def mk (a : Int) (i : Nat) : F := ⟨a + 2 * i, a + 2 * i + 1⟩
def mkL (a : Int) (n : Nat) : List F := (List.range n).map (mk a)
theorem mkL_len (a : Int) (n : Nat) : (mkL a n).length = n := by simp [mkL]
theorem mkL_get (a : Int) {n i : Nat} (h : i < n) : rd_T36 (mkL a n) (i : Int) = mk a i := by
  rw [rF, List.getD_eq_getElem?_getD, List.getElem?_eq_getElem (by rw [mkL_len]; exact h)]; simp [mkL]
theorem mark_l (l : List F) (hl : l.length ≤ 1048576) (a : Int) (ha : 0 ≤ a) (ha2 : a ≤ 1048576) : ∀ (e i : Nat), l.length - i = e → i ≤ l.length →
    Ev (fun k => laws_markFracS.l0 k (mkL a i ++ l.drop i) (a + 2 * i) (i : Int)) (a + 2 * l.length, mkL a l.length) := by
  intro e
  induction e with
  | zero =>
    intro i he hi
    obtain rfl : i = l.length := by omega
    refine Ev.step (fun k => by rw [laws_markFracS.l0]) ?_
    refine evNeg (by rw [List.length_append, List.length_drop, mkL_len]; omega) (evEq (Ev.now _) ?_)
    rw [List.drop_of_length_le (Nat.le_refl _), List.append_nil]
  | succ e ih =>
    intro i he hi
    have hlt : i < l.length := by omega
    have hs : Aside0 (wrap64 ((i : Int) + 1) = ((i + 1 : Nat) : Int)) := ⟨wsucc hlt (by omega)⟩
    have hs1 : Aside0 (wrap64 (a + 2 * (i : Int) + 1) = a + 2 * (i : Int) + 1) := ⟨w64 (by omega) (by omega)⟩
    have hs2 : Aside0 (wrap64 (a + 2 * (i : Int) + 1 + 1) = a + 2 * ((i + 1 : Nat) : Int)) := ⟨by rw [w64 (by omega) (by omega)]; omega⟩
    have hml := mkL_len a i
    have hll : (mkL a i ++ l.drop i).length = l.length := by rw [List.length_append, List.length_drop, mkL_len]; omega
    refine Ev.step (fun k => by rw [laws_markFracS.l0]) ?_
    rw [hs.out, hs1.out, hs2.out, Int.toNat_natCast]
    refine evPos (by omega) (evPos (by omega) (evBind0 rfl ?_))
    rw [take_set hml (by omega)]
    have h1 : rd_T36 (mkL a i ++ [(⟨a + 2 * (i : Int), (rd_T36 (mkL a i ++ l.drop i) (i : Int)).f1⟩ : F)] ++ l.drop (i + 1)) (i : Int) = ⟨a + 2 * (i : Int), (rd_T36 (mkL a i ++ l.drop i) (i : Int)).f1⟩ := by
      rw [rF, List.getD_eq_getElem?_getD, List.append_assoc, List.getElem?_append_right (by omega), hml, Nat.sub_self]; rfl
    rw [h1]
    have h2 : (mkL a i ++ [(⟨a + 2 * (i : Int), (rd_T36 (mkL a i ++ l.drop i) (i : Int)).f1⟩ : F)] ++ l.drop (i + 1)).set i (⟨a + 2 * (i : Int), a + 2 * (i : Int) + 1⟩ : F) = mkL a (i + 1) ++ l.drop (i + 1) := by
      rw [List.append_assoc, List.set_append, if_neg (by omega), hml, Nat.sub_self, List.singleton_append, List.set_cons_zero]
      show mkL a i ++ (mk a i :: l.drop (i + 1)) = _
      rw [mkL, mkL, List.range_succ, List.map_append, List.append_assoc]; rfl
    rw [h2]
    exact ih (i + 1) (by omega) (by omega)
theorem mark (l : List F) (hl : l.length ≤ 1048576) : Ev (fun k => laws_markFracS.f k l 1) (1 + 2 * (l.length : Int), mkL 1 l.length) := by
  unfold laws_markFracS.f
  exact mark_l l hl 1 (by omega) (by omega) l.length 0 rfl (by omega)
theorem held_l (n : Nat) (hn : n ≤ 1048576) (a : Int) (ha : 0 ≤ a) (ha2 : a ≤ 1048576) : ∀ (e i : Nat), n - i = e → i ≤ n → Ev (fun k => laws_heldFracS.l0 k (mkL a n) (a + 2 * i) (i : Int)) (a + 2 * n) := by
  have hml := mkL_len a n
  intro e
  induction e with
  | zero =>
    intro i he hi
    obtain rfl : i = n := by omega
    refine Ev.step (fun k => by rw [laws_heldFracS.l0]) ?_
    exact evNeg (by omega) (Ev.now _)
  | succ e ih =>
    intro i he hi
    have hlt : i < n := by omega
    have hs : Aside0 (wrap64 ((i : Int) + 1) = ((i + 1 : Nat) : Int)) := ⟨wsucc hlt (by omega)⟩
    have hs1 : Aside0 (wrap64 (a + 2 * (i : Int) + 1) = a + 2 * (i : Int) + 1) := ⟨w64 (by omega) (by omega)⟩
    have hs2 : Aside0 (wrap64 (a + 2 * (i : Int) + 1 + 1) = a + 2 * ((i + 1 : Nat) : Int)) := ⟨by rw [w64 (by omega) (by omega)]; omega⟩
    refine Ev.step (fun k => by rw [laws_heldFracS.l0]) ?_
    rw [mkL_get a hlt, hs.out, hs1.out, hs2.out]
    exact evPos (by omega) (evPos (by omega) (evPos rfl (evPos rfl (ih (i + 1) (by omega) (by omega)))))
theorem held (n : Nat) (hn : n ≤ 1048576) : Ev (fun k => laws_heldFracS.f k (mkL 1 n) 1) (1 + 2 * (n : Int)) := by
  unfold laws_heldFracS.f
  exact held_l n hn 1 (by omega) (by omega) n 0 rfl (by omega)
theorem markI_l (n : Nat) (hn : n ≤ 1048576) (a : Int) (ha : 0 ≤ a) (ha2 : a ≤ 4398046511104) : ∀ (e i : Nat) (l : List Int), n - i = e → i ≤ n → l.length = n → ∃ r : List Int, Ev (fun k => laws_markIntS.l0 k l (a + i) (i : Int)) (a + n, r) := by
  intro e
  induction e with
  | zero =>
    intro i l he hi hl
    obtain rfl : i = n := by omega
    refine ⟨l, Ev.step (fun k => by rw [laws_markIntS.l0]) ?_⟩
    exact evNeg (by omega) (Ev.now _)
  | succ e ih =>
    intro i l he hi hl
    have hlt : i < n := by omega
    have hs : Aside0 (wrap64 ((i : Int) + 1) = ((i + 1 : Nat) : Int)) := ⟨wsucc hlt (by omega)⟩
    have hs1 : Aside0 (wrap64 (a + (i : Int) + 1) = a + ((i + 1 : Nat) : Int)) := ⟨by rw [w64 (by omega) (by omega)]; omega⟩
    obtain ⟨r, hr⟩ := ih (i + 1) (l.set i (a + i)) (by omega) (by omega) (by rw [List.length_set]; exact hl)
    refine ⟨r, Ev.step (fun k => by rw [laws_markIntS.l0]) ?_⟩
    rw [hs.out, hs1.out, Int.toNat_natCast]
    exact evPos (by omega) (evPos (by omega) hr)
theorem markI (l : List Int) (hl : l.length ≤ 1048576) (a : Int) (ha : 0 ≤ a) (ha2 : a ≤ 4398046511104) : ∃ r : List Int, Ev (fun k => laws_markIntS.f k l a) (a + l.length, r) := by
  obtain ⟨r, hr⟩ := markI_l l.length hl a ha ha2 l.length 0 l rfl (by omega) rfl
  refine ⟨r, ?_⟩
  unfold laws_markIntS.f
  have e : a + ((0 : Nat) : Int) = a := by omega
  rw [e] at hr
  exact hr
theorem markSS_l (d : List (List Int)) (hd : d.length ≤ 1048576) (hr : ∀ i : Nat, i < d.length → (d.getD i []).length ≤ 1048576) : ∀ (e i : Nat) (a : Int), d.length - i = e → i ≤ d.length → 0 ≤ a → a ≤ 2000000 + 1048576 * i → ∃ t, 0 ≤ t ∧ Ev (fun k => laws_markIntSS.l0 k d a (i : Int)) t := by
  intro e
  induction e with
  | zero =>
    intro i a he hi h0 h1
    refine ⟨a, h0, Ev.step (fun k => by rw [laws_markIntSS.l0]) ?_⟩
    exact evNeg (by omega) (Ev.now _)
  | succ e ih =>
    intro i a he hi h0 h1
    have hlt : i < d.length := by omega
    have hs : Aside0 (wrap64 ((i : Int) + 1) = ((i + 1 : Nat) : Int)) := ⟨wsucc hlt (by omega)⟩
    have hri := hr i hlt
    obtain ⟨r, hm⟩ := markI (d.getD i []) hri a h0 (by omega)
    obtain ⟨t, t0, ht⟩ := ih (i + 1) (a + (d.getD i []).length) (by omega) (by omega) (by omega) (by omega)
    refine ⟨t, t0, Ev.step (fun k => by rw [laws_markIntSS.l0]) ?_⟩
    rw [hs.out, Int.toNat_natCast]
    exact evPos (by omega) (evPos (by omega) (Ev.bind hm ht))
theorem markB (c : List Int) (d : List (List Int)) (hc : c.length ≤ 1048576) (hd : d.length ≤ 1048576) (hr : ∀ i : Nat, i < d.length → (d.getD i []).length ≤ 1048576) : ∃ t, 0 ≤ t ∧ Ev (fun k => laws_markBook.f k c d 1) t := by
  obtain ⟨r, h1⟩ := markI c hc 1 (by omega) (by omega)
  obtain ⟨t, t0, ht⟩ := markSS_l d hd hr d.length 0 (1 + c.length) rfl (by omega) (by omega) (by omega)
  refine ⟨t, t0, ?_⟩
  unfold laws_markBook.f
  refine Ev.bind h1 ?_
  unfold laws_markIntSS.f
  exact ht
end Go.Proofs.Ytcjmpjiclnfjmaa.Tg

namespace Go.Proofs.Ytcjmpjiclnfjmaa.Ti
open Go.RowKit Go.Proofs.Ytcjmpjiclnfjmaa.PU Go.Proofs.Ytcjmpjiclnfjmaa.Qh Go.Proofs.YtcjmpjiclnfjmaaW.PrintWords Go.Proofs.YtcjmpjiclnfjmaaW.PrintMore
set_option linter.unusedVariables false
set_option linter.unusedSimpArgs false
theorem toI_l (l : List Int) (hl : l.length ≤ 1048576) : ∀ (d i : Nat) (o : List Int), l.length - i = d → i ≤ l.length → o.length = l.length → (∀ j : Nat, j < i → rd o (j : Int) = rd l (j : Int)) →
    Ev (fun k => laws_toIntS.l0 k l o (i : Int)) l := by
  intro d
  induction d with
  | zero =>
    intro i o hd hi ho hj
    obtain rfl : i = l.length := by omega
    refine Ev.step (fun k => by rw [laws_toIntS.l0]) ?_
    refine evNeg (by omega) ?_
    exact evNow (by rw [ext_rd o l ho (fun j h => hj j (by omega))])
  | succ d ih =>
    intro i o hd hi ho hj
    have hlt : i < l.length := by omega
    have hs : wrap64 ((i : Int) + 1) = ((i + 1 : Nat) : Int) := wsucc hlt (by omega)
    refine Ev.step (fun k => by rw [laws_toIntS.l0]) ?_
    refine evPos (by omega) (evPos (by omega) (evPos (by omega) ?_))
    rw [hs]
    refine ih (i + 1) _ (by omega) (by omega) (by simp [ho]) (fun j h => ?_)
    rw [rd_set _ _ _ _ (by omega) (by omega) (by omega)]
    by_cases e : (i : Int) = j
    · rw [if_pos e, e]
    · rw [if_neg e]; exact hj j (by omega)
theorem toI (l : List Int) (hl : l.length ≤ 1048576) : Ev (fun k => laws_toIntS.f k l) l := by
  unfold laws_toIntS.f
  refine evPos (by omega) (evPos (by omega) ?_)
  exact toI_l l hl l.length 0 _ (by omega) (by omega) (by simp) (fun j h => by omega)
theorem eqI_l (l : List Int) (hl : l.length ≤ 4611686018427387904) : ∀ (d i : Nat), l.length - i = d → i ≤ l.length → Ev (fun k => laws_eqIntS.l0 k l l (i : Int)) true := by
  intro d
  induction d with
  | zero =>
    intro i hd hi
    refine Ev.step (fun k => by rw [laws_eqIntS.l0]) ?_
    exact evNeg (by omega) (Ev.now _)
  | succ d ih =>
    intro i hd hi
    have hlt : i < l.length := by omega
    have hs : wrap64 ((i : Int) + 1) = ((i + 1 : Nat) : Int) := wsucc hlt (by omega)
    refine Ev.step (fun k => by rw [laws_eqIntS.l0]) ?_
    refine evPos (by omega) (evPos (by omega) (evPos (by omega) (evPos rfl ?_)))
    rw [hs]
    exact ih (i + 1) (by omega) (by omega)
theorem eqI (l : List Int) (hl : l.length ≤ 4611686018427387904) : Ev (fun k => laws_eqIntS.f k l l) true := by
  unfold laws_eqIntS.f
  exact evPos rfl (eqI_l l hl l.length 0 (by omega) (by omega))
end Go.Proofs.Ytcjmpjiclnfjmaa.Ti

namespace Go.Proofs.Ytcjmpjiclnfjmaa.Tb
open Go.RowKit Go.Proofs.Ytcjmpjiclnfjmaa.PU Go.Proofs.Ytcjmpjiclnfjmaa.Qh Go.Proofs.YtcjmpjiclnfjmaaW.PrintWords Go.Proofs.YtcjmpjiclnfjmaaW.PrintMore
set_option linter.unusedVariables false
set_option linter.unusedSimpArgs false
def Small (c : List Int) (d : List (List Int)) : Prop := c.length ≤ 1048576 ∧ d.length ≤ 1048576 ∧ ∀ i : Nat, i < d.length → (rd_L1 d (i : Int)).length ≤ 1048576
theorem rL2 (xs : List (List Int)) (i : Nat) : rd_L1 xs (i : Int) = xs.getD i [] := rfl
theorem szI (l : List Int) (hm : l.length ≤ 9223372036854775807) (a : Int) (h0 : 0 ≤ a) (h1 : a ≤ 1048576) : laws_szIntS.f l a = some (if (l.length : Int) ≤ a then a - (l.length : Int) else -1) := by
  unfold laws_szIntS.f
  rw [w64 (by omega) (by omega)]
  by_cases h : (l.length : Int) ≤ a
  · rw [if_neg (by omega), if_pos h]
  · rw [if_pos (by omega), if_neg h]
theorem szSS_l (d : List (List Int)) (hd : d.length ≤ 1048576) (hr : ∀ y ∈ d, y.length ≤ 9223372036854775807) : ∀ (e i : Nat) (a : Int), d.length - i = e → i ≤ d.length → 0 ≤ a → a ≤ 1048576 →
    (∃ t : Int, 0 ≤ t ∧ t ≤ 1048576 ∧ (∀ i' : Nat, i ≤ i' → i' < d.length → (rd_L1 d (i' : Int)).length ≤ 1048576) ∧ Ev (fun k => laws_szIntSS.l0 k d a (i : Int)) t) ∨ Ev (fun k => laws_szIntSS.l0 k d a (i : Int)) (-1) := by
  intro e
  induction e with
  | zero =>
    intro i a he hi h0 h1
    refine .inl ⟨a, h0, h1, fun i' h2 h3 => by omega, Ev.step (fun k => by rw [laws_szIntSS.l0]) (evNeg (by omega) (Ev.now _))⟩
  | succ e ih =>
    intro i a he hi h0 h1
    have hlt : i < d.length := by omega
    have hs : wrap64 ((i : Int) + 1) = ((i + 1 : Nat) : Int) := wsucc hlt (by omega)
    have hm : (rd_L1 d (i : Int)).length ≤ 9223372036854775807 := hr _ (by rw [rL2]; exact getD_mem [] d i hlt)
    by_cases h : ((rd_L1 d (i : Int)).length : Int) ≤ a
    · have hz := szI _ hm a h0 h1
      rw [if_pos h] at hz
      rcases ih (i + 1) (a - ((rd_L1 d (i : Int)).length : Int)) (by omega) (by omega) (by omega) (by omega) with ⟨t, t0, t1, t2, t3⟩ | h3
      · refine .inl ⟨t, t0, t1, fun i' h5 h6 => ?_, ?_⟩
        · by_cases e' : i' = i
          · subst e'; omega
          · exact t2 i' (by omega) h6
        · refine Ev.step (fun k => by rw [laws_szIntSS.l0]) ?_
          refine evPos (by omega) (evPos (by omega) (evBind0 hz (evNeg (by omega) ?_)))
          rw [hs]; exact t3
      · refine .inr ?_
        refine Ev.step (fun k => by rw [laws_szIntSS.l0]) ?_
        refine evPos (by omega) (evPos (by omega) (evBind0 hz (evNeg (by omega) ?_)))
        rw [hs]; exact h3
    · have hz := szI _ hm a h0 h1
      rw [if_neg h] at hz
      refine .inr ?_
      refine Ev.step (fun k => by rw [laws_szIntSS.l0]) ?_
      refine evPos (by omega) (evPos (by omega) (evBind0 hz ?_))
      exact evPos (by omega) (Ev.now _)
theorem szB (c : List Int) (d : List (List Int)) (hc : c.length ≤ 9223372036854775807) (hd : d.length ≤ 9223372036854775807) (hr : ∀ y ∈ d, y.length ≤ 9223372036854775807) (a : Int) (h0 : 0 ≤ a) (h1 : a ≤ 1048576) :
    (∃ t : Int, 0 ≤ t ∧ t ≤ 1048576 ∧ Small c d ∧ Ev (fun k => laws_szBook.f k c d a) t) ∨ Ev (fun k => laws_szBook.f k c d a) (-1) := by
  unfold laws_szBook.f
  have hz := szI c hc a h0 h1
  by_cases h : (c.length : Int) ≤ a
  · rw [if_pos h] at hz
    have hz2 := szI
    by_cases h2 : (d.length : Int) ≤ a - c.length
    · have hw : wrap64 (a - (c.length : Int) - (d.length : Int)) = a - (c.length : Int) - (d.length : Int) := w64 (by omega) (by omega)
      rcases szSS_l d (by omega) hr _ 0 (a - (c.length : Int) - (d.length : Int)) rfl (by omega) (by omega) (by omega) with ⟨t, t0, t1, t2, t3⟩ | h3
      · refine .inl ⟨t, t0, t1, ⟨by omega, by omega, fun i hi => t2 i (by omega) hi⟩, evBind0 hz (evNeg (by omega) (Ev.bind (a := t) ?_ (evNeg (by omega) (Ev.now _))))⟩
        unfold laws_szIntSS.f
        rw [hw]
        exact evNeg (by omega) t3
      · refine .inr (evBind0 hz (evNeg (by omega) (Ev.bind (a := -1) ?_ (evPos (by omega) (Ev.now _)))))
        unfold laws_szIntSS.f
        rw [hw]
        exact evNeg (by omega) h3
    · have hw : wrap64 (a - (c.length : Int) - (d.length : Int)) = a - (c.length : Int) - (d.length : Int) := w64 (by omega) (by omega)
      refine .inr (evBind0 hz (evNeg (by omega) (Ev.bind (a := -1) ?_ (evPos (by omega) (Ev.now _)))))
      unfold laws_szIntSS.f
      rw [hw]
      exact evPos (by omega) (Ev.now _)
  · rw [if_neg h] at hz
    exact .inr (evBind0 hz (evPos (by omega) (Ev.now _)))
theorem toSS_l (l : List (List Int)) (hl : l.length ≤ 1048576) (hr : ∀ i : Nat, i < l.length → (rd_L1 l (i : Int)).length ≤ 1048576) : ∀ (d i : Nat) (o : List (List Int)), l.length - i = d → i ≤ l.length → o.length = l.length → (∀ j : Nat, j < i → o.getD j [] = l.getD j []) →
    Ev (fun k => laws_toIntSS.l0 k l o (i : Int)) l := by
  intro d
  induction d with
  | zero =>
    intro i o hd hi ho hj
    refine Ev.step (fun k => by rw [laws_toIntSS.l0]) ?_
    refine evNeg (by omega) (evEq (Ev.now _) ?_)
    exact ext_getD [] _ _ ho (fun j h => hj j (by omega))
  | succ d ih =>
    intro i o hd hi ho hj
    have hlt : i < l.length := by omega
    have hs : wrap64 ((i : Int) + 1) = ((i + 1 : Nat) : Int) := wsucc hlt (by omega)
    refine Ev.step (fun k => by rw [laws_toIntSS.l0]) ?_
    refine evPos (by omega) (evPos (by omega) (Ev.bind (Ti.toI _ (hr i hlt)) ?_))
    refine evPos (by omega) ?_
    rw [hs, Int.toNat_natCast]
    refine ih (i + 1) _ (by omega) (by omega) (by rw [List.length_set]; exact ho) (fun j h => ?_)
    rw [getD_set _ _ _ _ _ (by omega)]
    by_cases e : i = j
    · subst e; rw [if_pos rfl]; rfl
    · rw [if_neg e]; exact hj j (by omega)
theorem toSS (l : List (List Int)) (hl : l.length ≤ 1048576) (hr : ∀ i : Nat, i < l.length → (rd_L1 l (i : Int)).length ≤ 1048576) : Ev (fun k => laws_toIntSS.f k l) l := by
  unfold laws_toIntSS.f
  refine evPos (by omega) (evPos (by omega) ?_)
  exact toSS_l l hl hr l.length 0 _ (by omega) (by omega) (by simp) (fun j h => by omega)
theorem toB (c : List Int) (d : List (List Int)) (h : Small c d) : Ev (fun k => laws_toBook.f k c d) (c, d) := by
  unfold laws_toBook.f
  exact Ev.bind (Ti.toI c h.1) (Ev.bind (toSS d h.2.1 h.2.2) (Ev.now _))
theorem eqSS_l (l : List (List Int)) (hl : l.length ≤ 1048576) (hr : ∀ i : Nat, i < l.length → (rd_L1 l (i : Int)).length ≤ 1048576) : ∀ (d i : Nat), l.length - i = d → i ≤ l.length → Ev (fun k => laws_eqIntSS.l0 k l l (i : Int)) true := by
  intro d
  induction d with
  | zero =>
    intro i hd hi
    exact Ev.step (fun k => by rw [laws_eqIntSS.l0]) (evNeg (by omega) (Ev.now _))
  | succ d ih =>
    intro i hd hi
    have hlt : i < l.length := by omega
    have hs : wrap64 ((i : Int) + 1) = ((i + 1 : Nat) : Int) := wsucc hlt (by omega)
    refine Ev.step (fun k => by rw [laws_eqIntSS.l0]) ?_
    refine evPos (by omega) (evPos (by omega) (evPos (by omega) (Ev.bind (Ti.eqI _ (by have := hr i hlt; omega)) ?_)))
    refine evPos rfl ?_
    rw [hs]
    exact ih (i + 1) (by omega) (by omega)
theorem eqB (c : List Int) (d : List (List Int)) (h : Small c d) : Ev (fun k => laws_eqBook.f k c d c d) true := by
  unfold laws_eqBook.f
  refine Ev.bind (Ti.eqI c (by have := h.1; omega)) (evPos rfl (Ev.bind (a := true) ?_ (evPos rfl (Ev.now _))))
  unfold laws_eqIntSS.f
  exact evPos rfl (eqSS_l d h.2.1 h.2.2 d.length 0 (by omega) (by omega))
end Go.Proofs.Ytcjmpjiclnfjmaa.Tb

namespace Go.Proofs.Ytcjmpjiclnfjmaa.Tf
open Go.RowKit Go.Proofs.Ytcjmpjiclnfjmaa.PU Go.Proofs.Ytcjmpjiclnfjmaa.Qh Go.Proofs.YtcjmpjiclnfjmaaW.PrintWords Go.Proofs.YtcjmpjiclnfjmaaW.PrintMore
set_option linter.unusedVariables false
set_option linter.unusedSimpArgs false
abbrev W := S36
theorem eqW1 (a b : Int) : laws_eqFrac.f a b a b = some true := by unfold laws_eqFrac.f; simp
theorem eqW_l (l : List W) (hl : l.length ≤ 4611686018427387904) : ∀ (d i : Nat), l.length - i = d → i ≤ l.length → Ev (fun k => laws_eqFracS.l0 k l l (i : Int)) true := by
  intro d
  induction d with
  | zero =>
    intro i hd hi
    refine Ev.step (fun k => by rw [laws_eqFracS.l0]) ?_
    exact evNeg (by omega) (Ev.now _)
  | succ d ih =>
    intro i hd hi
    have hlt : i < l.length := by omega
    have hs : wrap64 ((i : Int) + 1) = ((i + 1 : Nat) : Int) := wsucc hlt (by omega)
    refine Ev.step (fun k => by rw [laws_eqFracS.l0]) ?_
    refine evPos (by omega) (evPos (by omega) (evPos (by omega) (evBind0 (eqW1 _ _) (evT rfl ?_))))
    rw [hs]
    exact ih (i + 1) (by omega) (by omega)
theorem eqW (l : List W) (hl : l.length ≤ 4611686018427387904) : Ev (fun k => laws_eqFracS.f k l l) true := by
  unfold laws_eqFracS.f
  exact evPos rfl (eqW_l l hl l.length 0 (by omega) (by omega))
end Go.Proofs.Ytcjmpjiclnfjmaa.Tf

namespace Go.Proofs.Ytcjmpjiclnfjmaa.Efb
open Go.RowKit Go.Proofs.Ytcjmpjiclnfjmaa.PU Go.Proofs.Ytcjmpjiclnfjmaa.Qh Go.Proofs.Ytcjmpjiclnfjmaa.Bk Go.Proofs.Ytcjmpjiclnfjmaa.Ow Go.Proofs.Ytcjmpjiclnfjmaa.Np Go.Proofs.Ytcjmpjiclnfjmaa.Sg Go.Proofs.Ytcjmpjiclnfjmaa.Ld Go.Proofs.YtcjmpjiclnfjmaaW.PrintWords Go.Proofs.YtcjmpjiclnfjmaaW.PrintMore
set_option linter.unusedVariables false
set_option linter.unusedSimpArgs false
abbrev F := S36
variable {c : List Int} {d : List (List Int)}
theorem snone_l (h : BookP c d) : ∀ (e i : Nat), c.length - i = e → i ≤ c.length → Ev (fun k => spec_NonePaid.l0 k (none_ i) (i : Int) c d) (none_ c.length) := by
  have h4 := h.2.1
  intro e
  induction e with
  | zero =>
    intro i he hi
    obtain rfl : i = c.length := by omega
    refine Ev.step (fun k => by rw [spec_NonePaid.l0]) ?_
    exact evNeg (by omega) (Ev.now _)
  | succ e ih =>
    intro i he hi
    have hlt : i < c.length := by omega
    have hs : Aside0 (wrap64 ((i : Int) + 1) = ((i + 1 : Nat) : Int)) := ⟨wsucc hlt (by omega)⟩
    have hl : (none_ i).length = i := by simp [none_]
    refine Ev.step (fun k => by rw [spec_NonePaid.l0]) ?_
    refine evPos (by omega) (Ev.bind ((bookOk c d).yes h) (evPos rfl (evPos (by omega) ?_)))
    rw [hs.out]
    have := ih (i + 1) (by omega) (by omega)
    rwa [none_, List.replicate_succ'] at this
theorem snone_no (h : ¬ BookP c d) : Ev (fun k => spec_NonePaid.f k c d) [] := by
  unfold spec_NonePaid.f
  refine Ev.step (fun k => by rw [spec_NonePaid.l0]) ?_
  by_cases h0 : (0 : Int) < (c.length : Int)
  · exact evPos h0 (Ev.bind ((bookOk c d).no h) (evNeg (by decide) (Ev.now _)))
  · exact evNeg h0 (Ev.now _)
theorem snone (h : BookP c d) : Ev (fun k => spec_NonePaid.f k c d) (none_ c.length) := by
  unfold spec_NonePaid.f
  exact snone_l h _ 0 rfl (by omega)
theorem both (c : List Int) (d : List (List Int)) (a : Int) : ∃ r : List F × Bool, r.1.length ≤ 4 ∧ Ev (fun k => impl_FromBelow.f k c d a) r ∧ Ev (fun k => spec_FromBelow.f k c d a) r := by
  unfold impl_FromBelow.f spec_FromBelow.f
  by_cases h : BookP c d
  · obtain ⟨r, hr, r1, r2⟩ := Ss.both h (ps := none_ c.length) (by simp [none_]) (Or.inr rfl) a
    refine ⟨r, hr, ?_, Ev.bind (snone h) (Ev.bind r2 (Ev.now _))⟩
    refine Ev.bind ((isBook c d).yes h) (evPos rfl (Ev.bind (a := none_ c.length) ?_ (Ev.bind r1 (Ev.now _))))
    unfold impl_nonePaid.f
    exact inone_l c.length h.2.1 _ 0 rfl (by omega)
  · exact ⟨([], false), by simp, Ev.bind ((isBook c d).no h) (evNeg (by decide) (Ev.now _)), Ev.bind (snone_no h) (Ev.bind (Ss.none_ h _ a) (Ev.now _))⟩
theorem holds (c : List Int) (d : List (List Int)) (a : Int) (hc : c.length ≤ maxLen) (hd : d.length ≤ maxLen) (hr : ∀ y ∈ d, y.length ≤ maxLen) : ∃ k, laws_FnExactFromBelow.f k c d a = some true := by
  refine Ev.rounds (g := fun k => laws_FnExactFromBelow.f k c d a) ?_
  unfold laws_FnExactFromBelow.f
  unfold maxLen at hc hd hr
  rcases Tb.szB c d (by omega) (by omega) (fun y hy => by have := hr y hy; omega) 1048576 (by omega) (by omega) with ⟨t, t0, t1, hs, ht⟩ | ht
  case inr => exact Ev.bind ht (evPos (by omega) (Ev.now _))
  refine Ev.bind ht (evNeg (by omega) ?_)
  obtain ⟨r, hrl, e1, e2⟩ := both c d a
  have eq1 := Tf.eqW r.1 (by omega)
  have m1 := Tg.mark r.1 (by omega)
  have hl1 := Tg.held r.1.length (by omega)
  obtain ⟨q, q0, hq⟩ := Tg.markB c d hs.1 hs.2.1 hs.2.2
  refine Ev.bind (Tb.toB c d hs) (Ev.bind e2 (Ev.bind (Tb.toB c d hs) (Ev.bind e1 (Ev.bind eq1 (evPos rfl ?_)))))
  have hb : (r.2 != r.2) = false := bne_self_eq_false _
  rw [hb]
  refine Ev.step (fun k => by rw [laws_FnExactFromBelow.j0]) ?_
  refine evNeg (by decide) ?_
  refine Ev.bind (Tb.toB c d hs) (Ev.bind (Tb.eqB c d hs) (evPos rfl (Ev.bind hq (evNeg (by omega) (Ev.bind eq1 (evPos rfl ?_))))))
  rw [hb]
  refine Ev.step (fun k => by rw [laws_FnExactFromBelow.j1]) ?_
  refine evNeg (by decide) ?_
  refine Ev.bind m1 (Ev.bind hl1 (evNeg (by omega) (evPos rfl ?_)))
  refine Ev.bind (Tb.toB c d hs) (Ev.bind e1 (Ev.bind eq1 (evPos rfl ?_)))
  rw [hb]
  refine Ev.step (fun k => by rw [laws_FnExactFromBelow.j2]) ?_
  refine evNeg (by decide) ?_
  exact Ev.bind hl1 (evNeg (by omega) (evPos rfl (Ev.now _)))
end Go.Proofs.Ytcjmpjiclnfjmaa.Efb

namespace Go.Proofs.Ytcjmpjiclnfjmaa.fnExactFromBelow
open Go.ChangeShapes Go.WideShapes Go.ChangeAt Go.RowKit Go.Proofs.Ytcjmpjiclnfjmaa.PU Go.Proofs.YtcjmpjiclnfjmaaW.PrintWords
open Go.ChangeMaps (open_string shut_string)
set_option linter.unusedVariables false
set_option linter.unusedSimpArgs false
theorem own : ownKnob Try.prog.godebug = none := by kernel_rfl
theorem laidOut : laidOutB Try.prog = true := by kernel_rfl
abbrev G3 (_ : Int) : Prop := True
theorem o3 : Op.Opens Try.prog 3 (Kd.int .i64) G3 := Op.opens_int Try.underlying3 (by kernel_rfl)
abbrev G23 (x : List Int) : Prop := x.length ≤ maxLen ∧ ∀ y ∈ x, G3 y
theorem o23 : Op.Opens Try.prog 23 (Kd.slice 3 (Kd.int .i64)) G23 := Op.opens_slice Try.underlying23 (by kernel_rfl) o3
abbrev G24 (x : List (List Int)) : Prop := x.length ≤ maxLen ∧ ∀ y ∈ x, G23 y
theorem o24 : Op.Opens Try.prog 24 (Kd.slice 23 (Kd.slice 3 (Kd.int .i64))) G24 := Op.opens_slice Try.underlying24 (by kernel_rfl) o23
abbrev G39 (x : (List Int) × (List (List Int))) : Prop := G23 x.1 ∧ G24 x.2
theorem o39 : Op.Opens Try.prog 39 (Kd.pair (Kd.slice 3 (Kd.int .i64)) (Kd.slice 23 (Kd.slice 3 (Kd.int .i64)))) G39 := Op.opens_struct Try.underlying39 (by kernel_rfl) (Op.opensF_cons rfl o23 (Op.opensF_one rfl o24))
set_option maxRecDepth 100000 in
theorem lifted (os : Os) (started : os.Started) (H : Type) (enc : TypeId × Value → H) :
    ReturnsInHanded {} Try.checked os 10 .any (Rows.fnExactFromBelowSpec.pre6 enc Try.prog Try.f10 Rows.fnExactFromBelowRow.domain false) (Rows.fnExactFromBelowSpec.post enc Try.prog Try.f10 false true false false) := by
  refine returnsInHanded_of_change_sized (C := Try.checked) own started (by kernel_rfl) Try.func10
    (ChangeSpec.witness6 (enc := enc) (C := Try.checked) false ⟨#[], #[.agg #[.slice none 0 0, .slice none 0 0], .int .i64 0], []⟩ 8 (by kernel_rfl) (by kernel_rfl) (by kernel_rfl) (by kernel_rfl)) ?_
  intro W base args ds gs before hval0 hW _ _ _
  have hval : ∀ (j : Nat) t v, Try.f10.params[j]? = some t → args[j]? = some v → Value.okWide Try.prog W .any base t v := hval0
  have hW' := hW
  obtain ⟨p, q, hA0, hV, rfl, _, _⟩ := hW
  have hA : DataW.TrodAll enc Try.prog W 0 (fun _ => true) true Try.f10.params.toList args.toList ds p := hA0
  rw [Try.params10] at hA hval
  obtain ⟨v0, vs0, d0, ds0, p0, q0, hargs, rfl, rfl, h0, r0⟩ := trodAll_cons hA
  obtain ⟨v1, vs1, d1, ds1, p1, q1, rfl, rfl, rfl, h1, r1⟩ := trodAll_cons r0
  obtain ⟨rfl, rfl, rfl⟩ := trodAll_nil r1
  obtain rfl : args = #[v0, v1] := by cases args; simp_all
  obtain ⟨rfl, rfl⟩ := trodVars_none hV
  have k0 := h0
  have lt0 : ∀ x ∈ p0, x.block < W.heap.size := by obtain ⟨m, hm⟩ := k0; exact DataW.trod_lt m _ _ _ hm
  obtain ⟨cs0, x0, rfl, hK0, g0⟩ := Op.open_agg o39 (okWide_struct Try.underlying39 (hval 0 39 v0 rfl rfl)) h0
  obtain ⟨ca0_0, cb0_0, e0_0, hK0_0, hR0_0⟩ := hK0
  obtain ⟨A0_0, c0_0, e20_0, hc0_0, hr0_0⟩ := hK0_0
  obtain ⟨A0_1, c0_1, e20_1, hc0_1, hr0_1⟩ := hR0_0
  obtain rfl : cs0 = #[.slice A0_0 x0.1.length c0_0, .slice A0_1 x0.2.length c0_1] := by apply Array.toList_inj.1; simp only [List.singleton_append, List.cons_append, List.nil_append] at *; first | assumption | (simp_all; done)
  obtain ⟨a1, rfl, rfl, rfl, w1⟩ := open_int Try.underlying3 (hval 1 3 v1 rfl rfl) h1
  obtain ⟨k, hk⟩ := Efb.holds x0.1 x0.2 a1 g0.1.1 g0.2.1 (fun y hy => (g0.2.2 y hy).1)
  refine (laws_FnExactFromBelow.calls k A0_0 c0_0 x0.1 A0_1 c0_1 x0.2 a1 true W hr0_0 hc0_0 hr0_1 hc0_1 hk).mono fun e W' ⟨he, bel⟩ => ?_
  subst he
  exact ⟨_, rfl, _, _, _, [], _, [], hW', trodAll_mk1 (shut_bool Try.underlying4 _), (trodAll_cons_mk (Below.trod laidOut (by kernel_rfl) (of_decide_eq_true (by kernel_rfl)) k0 bel lt0) (trodAll_cons_mk (shut_int Try.underlying3 w1) trodAll_mk0)), rfl, bel.frame _, fun h => by cases h⟩
theorem over : Rows.fnExactFromBelowRow.holds Try.pinned (OpenSpec.ofChange Rows.fnExactFromBelowSpec) :=
  OpenClaim.holds_of_wide 10 Try.f10 rfl rfl rfl rfl rfl rfl rfl ⟨rfl, rfl, rfl, rfl, rfl⟩ rfl rfl rfl rfl rfl (by kernel_rfl) Try.func10 (by kernel_rfl)
    (of_decide_eq_true (by kernel_rfl)) (by unfold Func.isWrapper; first | (rw [if_pos (by decide +kernel)]; kernel_rfl) | (rw [if_neg (by decide +kernel)]; exact ⟨rfl, rfl⟩))
    (fun os started H enc _ => lifted os started H enc)
theorem proved : Rows.FnExactFromBelowSaid := over
end Go.Proofs.Ytcjmpjiclnfjmaa.fnExactFromBelow
namespace Go.Proofs.Ytcjmpjiclnfjmaa
theorem fnExactFromBelow_holds : Rows.FnExactFromBelowSaid := fnExactFromBelow.proved
end Go.Proofs.Ytcjmpjiclnfjmaa
