/- FnLeadsTo: for every input the law holds. No condition. -/
import Derived.Test.YtigpmfoagkhaeaaZFnLeadsTo1
import Derived.Test.YtigpmfoagkhaeaaZFnLeadsTo2
import Derived.Test.YtigpmfoagkhaeaaZFnLeadsTo3
import Derived.Test.YtigpmfoagkhaeaaZFnLeadsTo4
import Derived.Test.YtigpmfoagkhaeaaZFnLeadsTo5
import Derived.SizedLaws
import Derived.ChangeSlices
import Derived.Test.YtigpmfoagkhaeaaRows
import Derived.ProofKit
import Derived.OpenShut
import Derived.ShutString
import Derived.ChangeOld
namespace Go.Proofs.Ytigpmfoagkhaeaa.PU
open Go.RowKit Go.Proofs.YtigpmfoagkhaeaaW.PrintWords Go.Proofs.YtigpmfoagkhaeaaW.PrintLast Go.Proofs.YtigpmfoagkhaeaaW.PrintMore Go.Proofs.Ytigpmfoagkhaeaa.Qd
attribute [local go_sem] max2_int min2_int max_two min_two max_three min_three max_four min_four
set_option linter.unusedVariables false
set_option linter.unusedSimpArgs false
mutual
def laws_FnLeadsTo.j0 : Nat → List Int → List Int → Bool → Option (Bool)
 | 0, _, _, _ => none
 | k + 1, x0, x1, x27 => if x27 = true then (some true) else ((spec_DrawLeadsTo.f k x0).bind fun bt994 => ((impl_LeadsTo.f k bt994.1 bt994.2.1 bt994.2.2).bind fun bt1004 => ((spec_LeadsTo.f k bt994.1 bt994.2.1 bt994.2.2).bind fun bt1008 => ((laws_samePays.f k bt1004.1 bt1008.1).bind fun t1012 => (if t1012 = true then (laws_FnLeadsTo.j1 k x1 bt994.2.2 bt1004.1 bt1004.2 (bt1004.2 != bt1008.2) bt994.1 bt994.2.1) else (laws_FnLeadsTo.j1 k x1 bt994.2.2 bt1004.1 bt1004.2 true bt994.1 bt994.2.1))))))
def laws_FnLeadsTo.j1 : Nat → List Int → List (S36) → List (S36) → Bool → Bool → List Int → List (List Int) → Option (Bool)
 | 0, _, _, _, _, _, _, _ => none
 | k + 1, x1, x6, x7, x8, x53, x1004000, x1004001 => if x53 = true then (some false) else (if x8 = true then ((impl_AllPaid.f k x1004000 x1004001).bind fun t1014 => ((impl_LeadsTo.f k x1004000 x1004001 t1014).bind fun bt1017 => ((impl_NonePaid.f k x1004000 x1004001).bind fun t1021 => ((impl_LeadsTo.f k x1004000 x1004001 t1021).bind fun bt1024 => (laws_FnLeadsTo.l0 k x1 x6 x7 bt1017.1 bt1017.2 bt1024.1 bt1024.2 (([] : List (S36))) 0 x1004000 x1004001))))) else (if (x7.length : Int) = 0 then ((laws_alive.f k).bind fun t1013 => (some t1013)) else (some false)))
def laws_FnLeadsTo.l0 : Nat → List Int → List (S36) → List (S36) → List (S36) → Bool → List (S36) → Bool → List (S36) → Int → List Int → List (List Int) → Option (Bool)
 | 0, _, _, _, _, _, _, _, _, _, _, _ => none
 | k + 1, x1, x6, x7, x11, x12, x13, x14, x15, x16, x1004000, x1004001 => if x16 < (x6.length : Int) then ((spec_AllPaid.f k x1004000 x1004001).bind fun t1031 => (if 0 ≤ x16 then (if x16 < (t1031.length : Int) then (if (x1.length : Int) > x16 then (if x16 < (x1.length : Int) then (if (Int.tmod (rd x1 x16) 2) = 0 then (if x15.length < 8796093022208 then (laws_FnLeadsTo.l0 k x1 x6 x7 x11 x12 x13 x14 (x15 ++ [(⟨(rd_T36 t1031 x16).f0, (rd_T36 t1031 x16).f1⟩ : S36)]) (wrap64 (x16 + 1)) x1004000 x1004001) else (none)) else (if x15.length < 8796093022208 then (laws_FnLeadsTo.l0 k x1 x6 x7 x11 x12 x13 x14 (x15 ++ [(⟨(rd_T36 x6 x16).f0, (rd_T36 x6 x16).f1⟩ : S36)]) (wrap64 (x16 + 1)) x1004000 x1004001) else (none))) else (none)) else (if x15.length < 8796093022208 then (laws_FnLeadsTo.l0 k x1 x6 x7 x11 x12 x13 x14 (x15 ++ [(⟨(rd_T36 x6 x16).f0, (rd_T36 x6 x16).f1⟩ : S36)]) (wrap64 (x16 + 1)) x1004000 x1004001) else (none))) else (none)) else (none))) else ((impl_LeadsTo.f k x1004000 x1004001 x15).bind fun bt1048 => ((impl_PaysOk.f k x1004000 x1004001 x7).bind fun t1052 => (if t1052 = true then (if x12 = true then ((laws_belowPays.f k x7 x11).bind fun t1053 => (if t1053 = true then (if x14 = true then ((laws_belowPays.f k x13 x7).bind fun t1054 => (if t1054 = true then (if bt1048.2 = true then ((laws_belowPays.f k x7 bt1048.1).bind fun t1055 => (some t1055)) else (some true)) else (some false))) else (some false)) else (some false))) else (some false)) else (some false))))
end
def laws_FnLeadsTo.f (k : Nat) (l0 : List Int) (l1 : List Int) : Option (Bool) := if (l0.length : Int) > 1048576 then (laws_FnLeadsTo.j0 k l0 l1 true) else (laws_FnLeadsTo.j0 k l0 l1 (decide ((l1.length : Int) > 1048576)))
theorem laws_FnLeadsTo.mq {p : Prop} (h : p := by
 repeat' first
 | (with_reducible exact ih0 _ _ _)
 | (with_reducible exact ih1 _ _ _ _ _ _ _)
 | (with_reducible exact ih2 _ _ _ _ _ _ _ _ _ _ _)
 | (with_reducible exact impl_AllPaid.mono _ _ _)
 | (with_reducible exact impl_LeadsTo.mono _ _ _ _)
 | (with_reducible exact impl_NonePaid.mono _ _ _)
 | (with_reducible exact impl_PaysOk.mono _ _ _ _)
 | (with_reducible exact laws_alive.mono _)
 | (with_reducible exact laws_belowPays.mono _ _ _)
 | (with_reducible exact laws_samePays.mono _ _ _)
 | (with_reducible exact spec_AllPaid.mono _ _ _)
 | (with_reducible exact spec_DrawLeadsTo.mono _ _)
 | (with_reducible exact spec_LeadsTo.mono _ _ _ _)
 | (with_reducible exact LeO.refl _)
 | (with_reducible exact LeO.none _)
 | (with_reducible refine LeO.ite ?_ ?_)
 | (with_reducible refine LeO.bind ?_ (fun _ => ?_))
 | exact ih0 _ _ _
 | exact ih1 _ _ _ _ _ _ _
 | exact ih2 _ _ _ _ _ _ _ _ _ _ _
 | exact impl_AllPaid.mono _ _ _
 | exact impl_LeadsTo.mono _ _ _ _
 | exact impl_NonePaid.mono _ _ _
 | exact impl_PaysOk.mono _ _ _ _
 | exact laws_alive.mono _
 | exact laws_belowPays.mono _ _ _
 | exact laws_samePays.mono _ _ _
 | exact spec_AllPaid.mono _ _ _
 | exact spec_DrawLeadsTo.mono _ _
 | exact spec_LeadsTo.mono _ _ _ _
 | exact LeO.none _
 | refine LeO.ite ?_ ?_
 | refine LeO.bind ?_ (fun _ => ?_)) : p := h
theorem laws_FnLeadsTo.mono_l : ∀ k, (∀ y0 y1 y2, LeO (laws_FnLeadsTo.j0 k y0 y1 y2) (laws_FnLeadsTo.j0 (k + 1) y0 y1 y2)) ∧ (∀ y0 y1 y2 y3 y4 y5 y6, LeO (laws_FnLeadsTo.j1 k y0 y1 y2 y3 y4 y5 y6) (laws_FnLeadsTo.j1 (k + 1) y0 y1 y2 y3 y4 y5 y6)) ∧ (∀ y0 y1 y2 y3 y4 y5 y6 y7 y8 y9 y10, LeO (laws_FnLeadsTo.l0 k y0 y1 y2 y3 y4 y5 y6 y7 y8 y9 y10) (laws_FnLeadsTo.l0 (k + 1) y0 y1 y2 y3 y4 y5 y6 y7 y8 y9 y10))
 | 0 => ⟨fun _ _ _ r h => by simp [laws_FnLeadsTo.j0] at h, fun _ _ _ _ _ _ _ r h => by simp [laws_FnLeadsTo.j1] at h, fun _ _ _ _ _ _ _ _ _ _ _ r h => by simp [laws_FnLeadsTo.l0] at h⟩
 | k + 1 => by
  obtain ⟨ih0, ih1, ih2⟩ := laws_FnLeadsTo.mono_l k
  refine ⟨?_, ?_, ?_⟩
  ·intro y0 y1 y2
   unfold laws_FnLeadsTo.j0
   exact laws_FnLeadsTo.mq
  ·intro y0 y1 y2 y3 y4 y5 y6
   unfold laws_FnLeadsTo.j1
   exact laws_FnLeadsTo.mq
  ·intro y0 y1 y2 y3 y4 y5 y6 y7 y8 y9 y10
   unfold laws_FnLeadsTo.l0
   exact laws_FnLeadsTo.mq
theorem laws_FnLeadsTo.mono : ∀ a0 a1 k, LeO (laws_FnLeadsTo.f k a0 a1) (laws_FnLeadsTo.f (k + 1) a0 a1) := by
 intro a0 a1 k
 obtain ⟨ih0, ih1, ih2⟩ := laws_FnLeadsTo.mono_l k
 unfold laws_FnLeadsTo.f
 exact laws_FnLeadsTo.mq
def laws_FnLeadsTo.T10 : Bool × List (List Nat × List Nat) := (true, [([], []), ([], []), ([1], [1]), ([0, 2, 2], [0, 2]), ([3], [3]), ([4], [4]), ([4], [4]), ([5, 3, 0, 1, 2, 3, 4, 5], [5]), ([6, 7, 0, 1, 2, 3, 4, 5, 6, 7], [6])])
def laws_FnLeadsTo.B10 : List Nat := [0, 0, 2, 7, 15, 31, 31, 63, 255]
theorem laws_FnLeadsTo.tab10 : rtab .any (opsOf Try.f10 10) = laws_FnLeadsTo.T10 := by kernel_rfl
theorem laws_FnLeadsTo.bits10 : waitsOk laws_FnLeadsTo.T10.2 laws_FnLeadsTo.B10 = true := by kernel_rfl
def laws_FnLeadsTo.T11 : Bool × List (List Nat × List Nat) := (true, [([], []), ([], []), ([1], [1]), ([0, 2, 2], [0, 2]), ([3], [3]), ([4], [4]), ([4], [4]), ([5, 3, 0, 1, 2, 3, 4, 5], [5]), ([6, 7, 0, 1, 2, 3, 4, 5, 6, 7], [6])])
def laws_FnLeadsTo.B11 : List Nat := [0, 0, 2, 7, 15, 31, 31, 63, 255]
theorem laws_FnLeadsTo.tab11 : rtab .any (opsOf Try.f10 11) = laws_FnLeadsTo.T11 := by kernel_rfl
theorem laws_FnLeadsTo.bits11 : waitsOk laws_FnLeadsTo.T11.2 laws_FnLeadsTo.B11 = true := by kernel_rfl
theorem qz9_ {p : Prop} (h : p := by repeat (first | (with_reducible first | exact HB.out | apply below_alloc | apply pw_below_drewN | apply below_drew1 | refine below_set ?_ GE1003.out | refine below_set ?_ GE1035.out) | exact HB.out)) : p := h
set_option maxHeartbeats 8000000 in
set_option maxRecDepth 100000 in
theorem laws_FnLeadsTo.calls (k : Nat) (A0 : Option Addr) (c0 : Nat) (l0 : List Int) (A1 : Option Addr) (c1 : Nat) (l1 : List Int) (r : Bool) (w : World) (hr0 : Kd.C (Kd.int .u8) w A0 l0.length l0) (hc0 : l0.length ≤ c0) (hr1 : Kd.C (Kd.int .u8) w A1 l1.length l1) (hc1 : l1.length ≤ c1) (h : laws_FnLeadsTo.f k l0 l1 = some r) :
  Calls Try.prog 10 #[.slice A0 l0.length c0, .slice A1 l1.length c1] w fun e w' => e = .returned (.bool r) ∧ Below w.heap.size w w' := by
 have hu26 := Try.underlying26
 have hu36 := Try.underlying36
 have HR0 := Aside0.mk hr0
 have HC0 := Aside0.mk hc0
 clear hr0 hc0
 have HR1 := Aside0.mk hr1
 have HC1 := Aside0.mk hc1
 clear hr1 hc1
 have HB := Aside0.mk (Below.refl w.heap.size w)
 have H : (if (l0.length : Int) > 1048576 then (laws_FnLeadsTo.j0 k l0 l1 true) else (laws_FnLeadsTo.j0 k l0 l1 (decide ((l1.length : Int) > 1048576)))) = some r := h
 clear h
 have HC3 := Aside0.mk H
 clear H
 go_enter Try.func10, Try.ntmps10
 go_upto_region 1 with (fail)
 go_cut [27] (fun v27 wc => ∃ (kq : Nat) (x27_2 : Bool), v27 = .bool x27_2 ∧ Aside0 (laws_FnLeadsTo.j0 kq l0 l1 x27_2 = some r) ∧ Aside0 (kq ≤ k) ∧ Aside0 (Below w.heap.size w wc))
 case first =>
  have H := HC3.out
  clear HC3
  by_cases c4 : (l0.length : Int) > 1048576
  ·rw [if_pos c4] at H
   have c4b0 := decide_eq_true c4
   have c4b1 : decide (1048576 < l0.length) = true := decide_eq_true (by omega)
   clear c4
   (first | rw [c4b0] | (simp only [i64_w, i32_w]; rw [c4b0]) | skip)
   have H' := Aside0.mk H
   clear H
   go_wp2
   go_meet
   case rel => exact ⟨_, (true), (g3_), H', ⟨g13_⟩, ⟨qz9_⟩⟩
  ·rw [if_neg c4] at H
   have c4b0 := decide_eq_false c4
   have c4b1 : decide (1048576 < l0.length) = false := decide_eq_false (by omega)
   clear c4
   (first | rw [c4b0] | (simp only [i64_w, i32_w]; rw [c4b0]) | skip)
   have H' := Aside0.mk H
   clear H
   go_wp2
   go_meet
   case rel => exact ⟨_, (decide ((l1.length : Int) > 1048576)), (g3_), H', ⟨g13_⟩, ⟨qz9_⟩⟩
 case rest =>
  clear HC3
  try clear c1
  try clear p2
  try clear c4
  try clear c4b0
  try clear c4b1
  obtain ⟨kq, x27_2, rfl, HA, HJ2, HB⟩ := hcut
  cases kq with
  | zero => exact absurd HA.out (by simp [laws_FnLeadsTo.j0])
  | succ kj2 =>
   have H := HA.out
   clear HA
   simp only [laws_FnLeadsTo.j0] at H
   by_cases c5 : x27_2 = true
   ·subst c5
    replace H := ifp_ H
    obtain rfl := Option.some.inj H
    go_wp2
    go_ret
    exact ⟨g4_, qz9_⟩
   ·replace c5 := Bool.eq_false_iff.mpr c5
    subst c5
    replace H := ifn_ H
    replace H := Option.bind_eq_some_iff.mp H
    obtain ⟨⟨t994, t997, t1000⟩, A60, H⟩ := H
    replace H : ((impl_LeadsTo.f kj2 t994 t997 t1000).bind fun bt1004 => ((spec_LeadsTo.f kj2 t994 t997 t1000).bind fun bt1008 => ((laws_samePays.f kj2 bt1004.1 bt1008.1).bind fun t1012 => (if t1012 = true then (laws_FnLeadsTo.j1 kj2 l1 t1000 bt1004.1 bt1004.2 (bt1004.2 != bt1008.2) t994 t997) else (laws_FnLeadsTo.j1 kj2 l1 t1000 bt1004.1 bt1004.2 true t994 t997))))) = some r := H
    have A6 := Aside0.mk A60
    clear A60
    replace H := Option.bind_eq_some_iff.mp H
    obtain ⟨⟨t1004, t1007⟩, A70, H⟩ := H
    replace H : ((spec_LeadsTo.f kj2 t994 t997 t1000).bind fun bt1008 => ((laws_samePays.f kj2 t1004 bt1008.1).bind fun t1012 => (if t1012 = true then (laws_FnLeadsTo.j1 kj2 l1 t1000 t1004 t1007 (t1007 != bt1008.2) t994 t997) else (laws_FnLeadsTo.j1 kj2 l1 t1000 t1004 t1007 true t994 t997)))) = some r := H
    have A7 := Aside0.mk A70
    clear A70
    replace H := Option.bind_eq_some_iff.mp H
    obtain ⟨⟨t1008, t1011⟩, A80, H⟩ := H
    replace H : ((laws_samePays.f kj2 t1004 t1008).bind fun t1012 => (if t1012 = true then (laws_FnLeadsTo.j1 kj2 l1 t1000 t1004 t1007 (t1007 != t1011) t994 t997) else (laws_FnLeadsTo.j1 kj2 l1 t1000 t1004 t1007 true t994 t997))) = some r := H
    have A8 := Aside0.mk A80
    clear A80
    have HC9 := Aside0.mk H
    clear H
    go_upto_region 6 with (first | ((with_reducible refine gate_callee (f := 45) rfl ?_); refine goesL_ (some 30) rfl rfl Try.func45 k_ rfl #[.slice A0 l0.length c0] rfl (g2_) ?_; (with_reducible refine (spec_DrawLeadsTo.calls kj2 _ _ l0 t994 t997 t1000 _ ?side1 ?side2 A6.out).mono ?_); (case side1 => exact uf4_ HR0); (case side2 => exact HC0.out); rintro e w10 ⟨v995, v998, v1001, rfl, ho0, ho1, ho2, hb⟩; refine ⟨_, rfl, ?_⟩; have HO996 := Aside0.mk (Kd.R_lower (Kd.R_mono (ok' := fun k_ => True) ho0 (fun _ hk_ => trivial)) (below_size (qz9_))); have HO999 := Aside0.mk (Kd.V_lower (Kd.V_mono (ok' := fun k_ => some k_ ≠ (v995 : Value).ownBlock ∧ some k_ ≠ (v1001 : Value).ownBlock) ho1 (fun k_ hk_ => ⟨hk_.2.1, hk_.2.2⟩)) (below_size (qz9_))); have HO1002 := Aside0.mk (Kd.R_lower (Kd.R_mono (ok' := fun k_ => True) ho2 (fun _ hk_ => trivial)) (below_size (qz9_))); replace HB := Aside0.mk (below_step (qz9_) hb); (try clear hb); (try clear hk hi); (try clear ho0); (try clear ho1); (try clear ho2)) | ((with_reducible refine gate_dst (N := 5) rfl ?_); (try (refine gate_guard (by rfl) ?_; dsimp only)); refine bx_ (N := 5) #[.slice none 0 0, .slice none 0 0] 26 ?_; intro gb1003 hg w11 hbox hb; replace HO996 := Aside0.mk (Kd.R_below (uf1_ HO996) hb); replace HO999 := Aside0.mk (Kd.V_below (Kd.V_elderB (uf5_ HO999) gb1003 (Nat.le_of_eq hg.symm)) hb); replace HO1002 := Aside0.mk (Kd.R_below (uf1_ HO1002) hb); have BK1003 := Aside0.mk (hbox); have GW1003 := Aside0.mk ((g45_ : w.heap.size ≤ gb1003)); have GE1003 := Aside0.mk ((g45_ : w.heap.size ≤ gb1003)); replace HB := Aside0.mk (below_step (qz9_) hb); clear hb hbox hg; obtain ⟨Ao12, co12, eo12⟩ := Kd.R_slice HO996.out; subst eo12; obtain ⟨hcz13_0, hcz13_1, hfz13_0, hfz13_1⟩ := blk2_ BK1003; obtain ⟨Ao14, co14, eo14⟩ := Kd.V_slice HO999.out; subst eo14; obtain ⟨Ao15, co15, eo15⟩ := Kd.R_slice HO1002.out; subst eo15) | ((with_reducible refine gate_callee (f := 46) rfl ?_); refine goesL_ (some 36) rfl rfl Try.func46 k_ rfl #[.agg #[.slice Ao12 t994.length co12, .slice Ao14 t997.length co14], .slice Ao15 t1000.length co15] rfl (g2_) ?_; (with_reducible refine (impl_LeadsTo.calls kj2 _ _ t994 _ _ t997 _ _ t1000 t1004 t1007 _ ?side1 ?side2 ?side3 ?side4 ?side5 ?side6 A7.out).mono ?_); (case side1 => refine (Kd.R_reads' (e := 3) (base := w.heap.size) (ok := fun k_ => True) (n := t994.length) (c := co12) ?_).2.2; exact (by (with_reducible repeat (first | apply Kd.R_alloc | apply Kd.R_drewN | apply Kd.R_drew)); exact (Kd.R_mono (Kd.R_far (p := ⟨gb1003, 1, none⟩) (Kd.R_far (p := ⟨gb1003, 0, none⟩) (Kd.R_types HO996.out BK1003.out (by decide)) (fun _ hk => hk.2) (.slice Ao12 t994.length co12)) (fun _ hk => hk.2) (.slice Ao14 t997.length co14)) (fun _ h_ => h_.1)))); (case side2 => exact (Kd.R_reads' HO996.out).2.1); (case side3 => refine (Kd.V_reads' (e := 23) (base := w.heap.size) (ok := fun k_ => ((some k_ ≠ (.slice Ao12 t994.length co12 : Value).ownBlock ∧ some k_ ≠ (.slice Ao15 t1000.length co15 : Value).ownBlock) ∧ k_ ≠ gb1003)) (n := t997.length) (c := co14) ?_).2.2; exact (by (with_reducible repeat (first | apply Kd.V_alloc | apply Kd.V_drewN | apply Kd.V_drew)); exact (Kd.V_mono (Kd.V_far (p := ⟨gb1003, 1, none⟩) (Kd.V_far (p := ⟨gb1003, 0, none⟩) (Kd.V_mono HO999.out (fun k_ hk => (⟨hk, hk.2⟩ : _ ∧ k_ ≠ gb1003))) (fun _ hk => hk.2) (.slice Ao12 t994.length co12)) (fun _ hk => hk.2) (.slice Ao14 t997.length co14)) (fun _ h_ => h_.1)))); (case side4 => exact (Kd.V_reads' HO999.out).2.1); (case side5 => refine (Kd.R_reads' (e := 36) (base := w.heap.size) (ok := fun k_ => True) (n := t1000.length) (c := co15) ?_).2.2; exact (g182_)); (case side6 => exact (Kd.R_reads' HO1002.out).2.1); rintro e w16 ⟨v1005, rfl, ho0, hb⟩; refine ⟨_, rfl, ?_⟩; replace HO996 := Aside0.mk (Kd.R_below (by (with_reducible repeat (first | apply Kd.R_alloc | apply Kd.R_drewN | apply Kd.R_drew)); exact (Kd.R_mono (Kd.R_far (p := ⟨gb1003, 1, none⟩) (Kd.R_far (p := ⟨gb1003, 0, none⟩) (Kd.R_types HO996.out BK1003.out (by decide)) (fun _ hk => hk.2) (.slice Ao12 t994.length co12)) (fun _ hk => hk.2) (.slice Ao14 t997.length co14)) (fun _ h_ => h_.1))) hb); replace HO999 := Aside0.mk (Kd.V_elder' (by (with_reducible repeat (first | apply Kd.V_alloc | apply Kd.V_drewN | apply Kd.V_drew)); exact (Kd.V_mono (Kd.V_far (p := ⟨gb1003, 1, none⟩) (Kd.V_far (p := ⟨gb1003, 0, none⟩) (Kd.V_mono HO999.out (fun k_ hk => (⟨hk, hk.2⟩ : _ ∧ k_ ≠ gb1003))) (fun _ hk => hk.2) (.slice Ao12 t994.length co12)) (fun _ hk => hk.2) (.slice Ao14 t997.length co14)) (fun _ h_ => h_.1))) (Kd.R_base ho0) hb); have HO1006 := Aside0.mk (Kd.R_lower (Kd.R_new' ho0 (Kd.R_lt (g182_))) (below_size (qz9_))); replace HO1002 := Aside0.mk (Kd.R_elder' (g182_) (Kd.R_base ho0) hb); replace BK1003 := Aside0.mk (blk_below (g := gb1003) (o := .cells #[.slice Ao12 t994.length co12, .slice Ao14 t997.length co14] 26 (0, 0)) (by (with_reducible repeat (first | refine blk_drewN ?_ _ | refine blk_drew ?_ | refine blk_alloc ?_ _)); refine blk_put (cs := #[.slice Ao12 t994.length co12, .slice none 0 0]) ?_ 1 _ rfl; (with_reducible repeat (first | refine blk_drewN ?_ _ | refine blk_drew ?_ | refine blk_alloc ?_ _)); refine blk_put (cs := #[.slice none 0 0, .slice none 0 0]) ?_ 0 _ rfl; (with_reducible repeat (first | refine blk_drewN ?_ _ | refine blk_drew ?_ | refine blk_alloc ?_ _)); exact BK1003.out) hb); replace HB := Aside0.mk (below_step (qz9_) hb); (try clear hb); (try clear hk hi); (try clear ho0); obtain ⟨hcz17_0, hcz17_1, hfz17_0, hfz17_1⟩ := blk2_ BK1003) | ((with_reducible refine gate_callee (f := 47) rfl ?_); refine goesL_ (some 42) rfl rfl Try.func47 k_ rfl #[.agg #[.slice Ao12 t994.length co12, .slice Ao14 t997.length co14], .slice Ao15 t1000.length co15] rfl (g2_) ?_; (with_reducible refine (spec_LeadsTo.calls kj2 _ _ t994 _ _ t997 _ _ t1000 t1008 t1011 _ ?side1 ?side2 ?side3 ?side4 ?side5 ?side6 A8.out).mono ?_); (case side1 => repeat (first | exact (Kd.R_reads' HO996.out).2.2 | (with_reducible refine Kd.C_alloc ?_ _) | (with_reducible refine Kd.C_drewN ?_ _) | (with_reducible refine Kd.C_drew ?_))); (case side2 => exact (Kd.R_reads' HO996.out).2.1); (case side3 => repeat (first | exact (Kd.V_reads' HO999.out).2.2 | (with_reducible refine Kd.C_alloc ?_ _) | (with_reducible refine Kd.C_drewN ?_ _) | (with_reducible refine Kd.C_drew ?_))); (case side4 => exact (Kd.V_reads' HO999.out).2.1); (case side5 => repeat (first | exact (Kd.R_reads' HO1002.out).2.2 | (with_reducible refine Kd.C_alloc ?_ _) | (with_reducible refine Kd.C_drewN ?_ _) | (with_reducible refine Kd.C_drew ?_))); (case side6 => exact (Kd.R_reads' HO1002.out).2.1); rintro e w18 ⟨v1009, rfl, ho0, hb⟩; refine ⟨_, rfl, ?_⟩; replace HO996 := Aside0.mk (Kd.R_below (uf1_ HO996) hb); replace HO999 := Aside0.mk (Kd.V_elder' (uf5_ HO999) (Kd.R_base ho0) hb); have HO1010 := Aside0.mk (Kd.R_lower (Kd.R_new' (Kd.R_new' ho0 (Kd.R_lt (uf1_ HO1002))) (Kd.R_lt (uf1_ HO1006))) (below_size (qz9_))); replace HO1002 := Aside0.mk (Kd.R_elder' (uf1_ HO1002) (Kd.R_base ho0) hb); replace HO1006 := Aside0.mk (Kd.R_elder' (uf1_ HO1006) (Kd.R_base ho0) hb); replace BK1003 := bb_ BK1003 hb; replace HB := Aside0.mk (below_step (qz9_) hb); (try clear hb); (try clear hk hi); (try clear ho0)))
    (try simp only [Act.put, List.setIfInBounds_toArray, List.set_cons_zero, List.set_cons_succ])
    go_cut [53] (fun v53 wc => ∃ (kq : Nat) (x53_8 : Bool), v53 = .bool x53_8 ∧ Aside0 (laws_FnLeadsTo.j1 kq l1 t1000 t1004 t1007 x53_8 t994 t997 = some r) ∧ Aside0 (kq ≤ kj2) ∧ Aside0 (Kd.R k36 36 wc w.heap.size (fun k_ => some k_ ≠ (v1005 : Value).ownBlock) (.slice Ao15 t1000.length co15) t1000) ∧ Aside0 (Kd.R k36 36 wc w.heap.size (fun k_ => some k_ ≠ ((.slice Ao15 t1000.length co15) : Value).ownBlock) v1005 t1004) ∧ Aside0 (Kd.R (Kd.int .i64) 3 wc w.heap.size (fun _ => True) (.slice Ao12 t994.length co12) t994) ∧ Aside0 (Kd.V (Kd.slice 3 (Kd.int .i64)) 23 wc w.heap.size (fun k_ => some k_ ≠ ((.slice Ao15 t1000.length co15) : Value).ownBlock ∧ some k_ ≠ (v1005 : Value).ownBlock ∧ some k_ ≠ ((.slice Ao12 t994.length co12) : Value).ownBlock ∧ k_ ≠ gb1003) (.slice Ao14 t997.length co14) t997) ∧ Aside0 (wc.heap[gb1003]? = some (.cells #[(.slice Ao12 t994.length co12), (.slice Ao14 t997.length co14)] 26 (0, 0))) ∧ Aside0 (Below w.heap.size w wc))
    case first =>
     have H := HC9.out
     clear HC9
     obtain ⟨t1012, A19, H⟩ := bind_ H
     by_cases c20 : t1012 = true
     ·subst c20
      replace H := ifp_ H
      have H' := Aside0.mk H
      clear H
      obtain ⟨Ao21, co21, eo21⟩ := Kd.R_slice HO1006.out
      subst eo21
      obtain ⟨Ao22, co22, eo22⟩ := Kd.R_slice HO1010.out
      subst eo22
      go_wp2_with (first | ((with_reducible refine gate_callee (f := 14) rfl ?_); refine goesL_ (some 47) rfl rfl Try.func14 k_ rfl #[.slice Ao21 t1004.length co21, .slice Ao22 t1008.length co22] rfl (g2_) ?_; (with_reducible refine (laws_samePays.calls kj2 _ _ t1004 _ _ t1008 true _ ?side1 ?side2 ?side3 ?side4 A19.out).mono ?_); (case side1 => repeat (first | exact (Kd.R_reads' HO1006.out).2.2 | (with_reducible refine Kd.C_alloc ?_ _) | (with_reducible refine Kd.C_drewN ?_ _) | (with_reducible refine Kd.C_drew ?_))); (case side2 => exact (Kd.R_reads' HO1006.out).2.1); (case side3 => repeat (first | exact (Kd.R_reads' HO1010.out).2.2 | (with_reducible refine Kd.C_alloc ?_ _) | (with_reducible refine Kd.C_drewN ?_ _) | (with_reducible refine Kd.C_drew ?_))); (case side4 => exact (Kd.R_reads' HO1010.out).2.1); rintro e w' ⟨rfl, ⟨nd, rfl⟩⟩; refine ⟨_, rfl, ?_⟩))
      go_meet
      case rel => exact ⟨_, ((t1007 != t1011)), (g3_), H', ⟨by have := HJ2.out; first | omega | exact Nat.le_refl _⟩, ⟨by (with_reducible repeat (first | apply Kd.R_alloc | apply Kd.R_drewN | apply Kd.R_drew)); exact Kd.R_mono HO1002.out (fun _ hk => hk.1.2)⟩, ⟨by (with_reducible repeat (first | apply Kd.R_alloc | apply Kd.R_drewN | apply Kd.R_drew)); exact Kd.R_mono HO1006.out (fun _ hk => hk.1.2)⟩, ⟨uf1_ HO996⟩, ⟨by (with_reducible repeat (first | apply Kd.V_alloc | apply Kd.V_drewN | apply Kd.V_drew)); exact Kd.V_mono HO999.out (fun _ hk => ⟨hk.1.1.1.2, ⟨hk.1.2, ⟨hk.1.1.1.1, hk.1.1.2⟩⟩⟩)⟩, ⟨uf0_ BK1003⟩, ⟨qz9_⟩⟩
     ·replace c20 := Bool.eq_false_iff.mpr c20
      subst c20
      replace H := ifn_ H
      have H' := Aside0.mk H
      clear H
      obtain ⟨Ao23, co23, eo23⟩ := Kd.R_slice HO1006.out
      subst eo23
      obtain ⟨Ao24, co24, eo24⟩ := Kd.R_slice HO1010.out
      subst eo24
      go_wp2_with (first | ((with_reducible refine gate_callee (f := 14) rfl ?_); refine goesL_ (some 47) rfl rfl Try.func14 k_ rfl #[.slice Ao23 t1004.length co23, .slice Ao24 t1008.length co24] rfl (g2_) ?_; (with_reducible refine (laws_samePays.calls kj2 _ _ t1004 _ _ t1008 false _ ?side1 ?side2 ?side3 ?side4 A19.out).mono ?_); (case side1 => repeat (first | exact (Kd.R_reads' HO1006.out).2.2 | (with_reducible refine Kd.C_alloc ?_ _) | (with_reducible refine Kd.C_drewN ?_ _) | (with_reducible refine Kd.C_drew ?_))); (case side2 => exact (Kd.R_reads' HO1006.out).2.1); (case side3 => repeat (first | exact (Kd.R_reads' HO1010.out).2.2 | (with_reducible refine Kd.C_alloc ?_ _) | (with_reducible refine Kd.C_drewN ?_ _) | (with_reducible refine Kd.C_drew ?_))); (case side4 => exact (Kd.R_reads' HO1010.out).2.1); rintro e w' ⟨rfl, ⟨nd, rfl⟩⟩; refine ⟨_, rfl, ?_⟩))
      go_meet
      case rel => exact ⟨_, (true), (g3_), H', ⟨by have := HJ2.out; first | omega | exact Nat.le_refl _⟩, ⟨by (with_reducible repeat (first | apply Kd.R_alloc | apply Kd.R_drewN | apply Kd.R_drew)); exact Kd.R_mono HO1002.out (fun _ hk => hk.1.2)⟩, ⟨by (with_reducible repeat (first | apply Kd.R_alloc | apply Kd.R_drewN | apply Kd.R_drew)); exact Kd.R_mono HO1006.out (fun _ hk => hk.1.2)⟩, ⟨uf1_ HO996⟩, ⟨by (with_reducible repeat (first | apply Kd.V_alloc | apply Kd.V_drewN | apply Kd.V_drew)); exact Kd.V_mono HO999.out (fun _ hk => ⟨hk.1.1.1.2, ⟨hk.1.2, ⟨hk.1.1.1.1, hk.1.1.2⟩⟩⟩)⟩, ⟨uf0_ BK1003⟩, ⟨qz9_⟩⟩
    case rest =>
     clear HC9
     try clear c1
     try clear c2
     try clear p2
     try clear c4
     try clear c4b0
     try clear c4b1
     try clear c5
     try clear c10
     try clear c14
     try clear c20
     try clear hcz13_0
     try clear hcz13_1
     try clear hcz17_0
     try clear hcz17_1
     try clear hfz13_0
     try clear hfz13_1
     try clear hfz17_0
     try clear hfz17_1
     try clear p2
     obtain ⟨kq, x53_8, rfl, HA, HJ8, HO_6, HO_7, HO_1004000, HO_1004001, BK1003, HB⟩ := hcut
     cases kq with
     | zero => exact absurd HA.out (by simp [laws_FnLeadsTo.j1])
     | succ kj8 =>
      have H := HA.out
      clear HA
      simp only [laws_FnLeadsTo.j1] at H
      by_cases c25 : x53_8 = true
      ·subst c25
       replace H := ifp_ H
       obtain rfl := Option.some.inj H
       go_wp2
       go_ret
       exact ⟨g4_, qz9_⟩
      ·replace c25 := Bool.eq_false_iff.mpr c25
       subst c25
       replace H := ifn_ H
       by_cases c26 : t1007 = true
       ·subst c26
        replace H := ifp_ H
        obtain ⟨t1014, A27, H⟩ := bind_ H
        replace H := Option.bind_eq_some_iff.mp H
        obtain ⟨⟨t1017, t1020⟩, A280, H⟩ := H
        replace H : ((impl_NonePaid.f kj8 t994 t997).bind fun t1021 => ((impl_LeadsTo.f kj8 t994 t997 t1021).bind fun bt1024 => (laws_FnLeadsTo.l0 kj8 l1 t1000 t1004 t1017 t1020 bt1024.1 bt1024.2 (([] : List (S36))) 0 t994 t997))) = some r := H
        have A28 := Aside0.mk A280
        clear A280
        obtain ⟨t1021, A29, H⟩ := bind_ H
        replace H := Option.bind_eq_some_iff.mp H
        obtain ⟨⟨t1024, t1027⟩, A300, H⟩ := H
        replace H : (laws_FnLeadsTo.l0 kj8 l1 t1000 t1004 t1017 t1020 t1024 t1027 (([] : List (S36))) 0 t994 t997) = some r := H
        have A30 := Aside0.mk A300
        clear A300
        obtain ⟨y1028, hy1028⟩ : ∃ y_ : List (S36), y_ = (([] : List (S36))) := ⟨_, rfl⟩
        replace H : (laws_FnLeadsTo.l0 kj8 l1 t1000 t1004 t1017 t1020 t1024 t1027 y1028 0 t994 t997) = some r := by first | (rw [hy1028]; with_reducible exact H) | (have H2_ := (Option.bind_some _ _).symm.trans H; rw [hy1028]; with_reducible exact H2_) | (have H2_ := (Option.bind_some _ _).symm.trans H; with_reducible exact H2_) | with_reducible exact H | (rw [hy1028]; exact H) | exact H
        have Ny1028 := Aside0.mk hy1028
        clear hy1028
        have H' := Aside0.mk H
        clear H
        try go_wp2
        replace HO_6 := Aside0.mk (Kd.R_drew HO_6.out)
        replace HO_7 := Aside0.mk (Kd.R_drew HO_7.out)
        replace HO_1004000 := Aside0.mk (Kd.R_drew HO_1004000.out)
        replace HO_1004001 := Aside0.mk (Kd.V_drew HO_1004001.out)
        replace BK1003 := Aside0.mk (blk_drew BK1003.out)
        replace HB := Aside0.mk (below_drew1 HB.out)
        refine start_ (n := 9) (S := fun w' => w'.cell? ⟨gb1003, 0, none⟩ = some (.slice Ao12 t994.length co12) ∧ w'.cell? ⟨gb1003, 1, none⟩ = some (.slice Ao14 t997.length co14)) (ds := []) (tl_ 9 0) (g0_) rfl (g0_) ⟨(blk_cell BK1003.out 0).trans rfl, (blk_cell BK1003.out 1).trans rfl⟩ (fun hHeld => ?_); refine with_tabW laws_FnLeadsTo.tab10 laws_FnLeadsTo.bits10 (fun HT_ HW_ => ?_)
        generalize wc.drew = w31 at HO_6 HO_7 HO_1004000 HO_1004001 BK1003 HB hHeld ⊢
        refine tk0_ 0 63 (tl_ 9 1) rfl rfl hHeld ?_
        refine tk0_ 1 64 (tl_ 9 3) rfl rfl hHeld ?_
        refine one_ (i := 2) (N := some 65) (tl_ 9 7) rfl rfl (one_of HT_.out (g0_)) (by decide) (fun K hK => ?_)
        refine goes_ Try.func28 (g0_) rfl #[.agg #[.slice Ao12 t994.length co12, .slice Ao14 t997.length co14]] (by rfl) rfl rfl (g2_) ?_
        with_reducible refine (impl_AllPaid.calls kj8 _ _ t994 _ _ t997 t1014 _ ?side1 ?side2 ?side3 ?side4 A27.out).mono ?_
        (case side1 => repeat (first | exact (Kd.R_reads' HO_1004000.out).2.2 | (with_reducible refine Kd.C_alloc ?_ _) | (with_reducible refine Kd.C_drewN ?_ _) | (with_reducible refine Kd.C_drew ?_)))
        (case side2 => exact (Kd.R_reads' HO_1004000.out).2.1)
        (case side3 => repeat (first | exact (Kd.V_reads' HO_1004001.out).2.2 | (with_reducible refine Kd.C_alloc ?_ _) | (with_reducible refine Kd.C_drewN ?_ _) | (with_reducible refine Kd.C_drew ?_)))
        (case side4 => exact (Kd.V_reads' HO_1004001.out).2.1)
        rintro e w32 ⟨v1015, rfl, ho0, hb⟩
        refine ⟨_, rfl, ?_⟩
        replace HO_1004000 := Aside0.mk (Kd.R_below (uf1_ HO_1004000) hb)
        replace HO_1004001 := Aside0.mk (Kd.V_elder' (uf5_ HO_1004001) (Kd.R_base ho0) hb)
        have HO1016 := Aside0.mk (Kd.R_lower (Kd.R_new' (Kd.R_new' ho0 (Kd.R_lt (uf1_ HO_6))) (Kd.R_lt (uf1_ HO_7))) (below_size (qz9_)))
        replace HO_6 := Aside0.mk (Kd.R_elder' (uf1_ HO_6) (Kd.R_base ho0) hb)
        replace HO_7 := Aside0.mk (Kd.R_elder' (uf1_ HO_7) (Kd.R_base ho0) hb)
        replace BK1003 := bb_ BK1003 hb
        replace HB := Aside0.mk (below_step (qz9_) hb)
        (try clear hb)
        (try clear hk hi)
        (try clear ho0)
        obtain ⟨Ao33, co33, eo33⟩ := Kd.R_slice HO1016.out
        (first | subst eo33 | (injection eo33 with f1_ f2_ f3_; have f4_ := f1_.symm; have f5_ := f3_.symm; clear f1_ f2_ f3_; subst f4_; subst f5_))
        refine hK.out _ _ ⟨(blk_cell BK1003.out 0).trans rfl, (blk_cell BK1003.out 1).trans rfl⟩ (fun hHeld => ?_)
        clear hK K
        refine nm_ ?_
        refine one_ (i := 3) (N := some 66) (tl_ 9 15) rfl rfl (one_of HT_.out (g0_)) (by decide) (fun K hK => ?_)
        refine goes_ Try.func46 (g0_) rfl #[.agg #[.slice Ao12 t994.length co12, .slice Ao14 t997.length co14], .slice Ao33 t1014.length co33] (by rfl) rfl rfl (g2_) ?_
        with_reducible refine (impl_LeadsTo.calls kj8 _ _ t994 _ _ t997 _ _ t1014 t1017 t1020 _ ?side1 ?side2 ?side3 ?side4 ?side5 ?side6 A28.out).mono ?_
        (case side1 => repeat (first | exact (Kd.R_reads' HO_1004000.out).2.2 | (with_reducible refine Kd.C_alloc ?_ _) | (with_reducible refine Kd.C_drewN ?_ _) | (with_reducible refine Kd.C_drew ?_)))
        (case side2 => exact (Kd.R_reads' HO_1004000.out).2.1)
        (case side3 => repeat (first | exact (Kd.V_reads' HO_1004001.out).2.2 | (with_reducible refine Kd.C_alloc ?_ _) | (with_reducible refine Kd.C_drewN ?_ _) | (with_reducible refine Kd.C_drew ?_)))
        (case side4 => exact (Kd.V_reads' HO_1004001.out).2.1)
        (case side5 => repeat (first | exact (Kd.R_reads' HO1016.out).2.2 | (with_reducible refine Kd.C_alloc ?_ _) | (with_reducible refine Kd.C_drewN ?_ _) | (with_reducible refine Kd.C_drew ?_)))
        (case side6 => exact (Kd.R_reads' HO1016.out).2.1)
        rintro e w34 ⟨v1018, rfl, ho0, hb⟩
        refine ⟨_, rfl, ?_⟩
        replace HO_1004000 := Aside0.mk (Kd.R_below (uf1_ HO_1004000) hb)
        replace HO_1004001 := Aside0.mk (Kd.V_elder' (uf5_ HO_1004001) (Kd.R_base ho0) hb)
        have HO1019 := Aside0.mk (Kd.R_lower (Kd.R_new' (Kd.R_new' (Kd.R_new' ho0 (Kd.R_lt (uf1_ HO_6))) (Kd.R_lt (uf1_ HO_7))) (Kd.R_lt (uf1_ HO1016))) (below_size (qz9_)))
        replace HO_6 := Aside0.mk (Kd.R_elder' (uf1_ HO_6) (Kd.R_base ho0) hb)
        replace HO_7 := Aside0.mk (Kd.R_elder' (uf1_ HO_7) (Kd.R_base ho0) hb)
        replace HO1016 := Aside0.mk (Kd.R_elder' (uf1_ HO1016) (Kd.R_base ho0) hb)
        replace BK1003 := bb_ BK1003 hb
        replace HB := Aside0.mk (below_step (qz9_) hb)
        (try clear hb)
        (try clear hk hi)
        (try clear ho0)
        refine hK.out _ _ ⟨(blk_cell BK1003.out 0).trans rfl, (blk_cell BK1003.out 1).trans rfl⟩ (fun hHeld => ?_)
        clear hK K
        refine nm_ ?_
        refine pw_ 4 62 (tl_ 9 31) rfl rfl ?_
        refine pw_ 5 67 (tl_ 9 63) rfl rfl ?_
        refine pw_ 6 68 (tl_ 9 127) rfl rfl ?_
        refine pw_ 7 11 (tl_ 9 255) rfl rfl ?_
        refine pw_ 8 12 (tl_ 9 511) rfl rfl ?_
        refine done_ (done_of HT_.out (g0_)) ?_
        try go_wp2
        replace HO_6 := Aside0.mk (Kd.R_drew HO_6.out)
        replace HO_7 := Aside0.mk (Kd.R_drew HO_7.out)
        replace HO_1004000 := Aside0.mk (Kd.R_drew HO_1004000.out)
        replace HO_1004001 := Aside0.mk (Kd.V_drew HO_1004001.out)
        replace HO1016 := Aside0.mk (Kd.R_drew HO1016.out)
        replace HO1019 := Aside0.mk (Kd.R_drew HO1019.out)
        replace BK1003 := Aside0.mk (blk_drew BK1003.out)
        replace HB := Aside0.mk (below_drew1 HB.out)
        refine start_ (n := 9) (S := fun w' => w'.cell? ⟨gb1003, 0, none⟩ = some (.slice Ao12 t994.length co12) ∧ w'.cell? ⟨gb1003, 1, none⟩ = some (.slice Ao14 t997.length co14)) (ds := []) (tl_ 9 0) (g0_) rfl (g0_) ⟨(blk_cell BK1003.out 0).trans rfl, (blk_cell BK1003.out 1).trans rfl⟩ (fun hHeld => ?_); refine with_tabW laws_FnLeadsTo.tab11 laws_FnLeadsTo.bits11 (fun HT_ HW_ => ?_)
        generalize w34.drew = w35 at HO_6 HO_7 HO_1004000 HO_1004001 HO1016 HO1019 BK1003 HB hHeld ⊢
        refine tk0_ 0 70 (tl_ 9 1) rfl rfl hHeld ?_
        refine tk0_ 1 71 (tl_ 9 3) rfl rfl hHeld ?_
        refine one_ (i := 2) (N := some 72) (tl_ 9 7) rfl rfl (one_of HT_.out (g0_)) (by decide) (fun K hK => ?_)
        refine goes_ Try.func13 (g0_) rfl #[.agg #[.slice Ao12 t994.length co12, .slice Ao14 t997.length co14]] (by rfl) rfl rfl (g2_) ?_
        with_reducible refine (impl_NonePaid.calls kj8 _ _ t994 _ _ t997 t1021 _ ?side1 ?side2 ?side3 ?side4 A29.out).mono ?_
        (case side1 => repeat (first | exact (Kd.R_reads' HO_1004000.out).2.2 | (with_reducible refine Kd.C_alloc ?_ _) | (with_reducible refine Kd.C_drewN ?_ _) | (with_reducible refine Kd.C_drew ?_)))
        (case side2 => exact (Kd.R_reads' HO_1004000.out).2.1)
        (case side3 => repeat (first | exact (Kd.V_reads' HO_1004001.out).2.2 | (with_reducible refine Kd.C_alloc ?_ _) | (with_reducible refine Kd.C_drewN ?_ _) | (with_reducible refine Kd.C_drew ?_)))
        (case side4 => exact (Kd.V_reads' HO_1004001.out).2.1)
        rintro e w36 ⟨v1022, rfl, ho0, hb⟩
        refine ⟨_, rfl, ?_⟩
        replace HO_1004000 := Aside0.mk (Kd.R_below (uf1_ HO_1004000) hb)
        replace HO_1004001 := Aside0.mk (Kd.V_elder' (uf5_ HO_1004001) (Kd.R_base ho0) hb)
        have HO1023 := Aside0.mk (Kd.R_lower (Kd.R_new' (Kd.R_new' (Kd.R_new' (Kd.R_new' ho0 (Kd.R_lt (uf1_ HO_6))) (Kd.R_lt (uf1_ HO_7))) (Kd.R_lt (uf1_ HO1016))) (Kd.R_lt (uf1_ HO1019))) (below_size (qz9_)))
        replace HO_6 := Aside0.mk (Kd.R_elder' (uf1_ HO_6) (Kd.R_base ho0) hb)
        replace HO_7 := Aside0.mk (Kd.R_elder' (uf1_ HO_7) (Kd.R_base ho0) hb)
        replace HO1016 := Aside0.mk (Kd.R_elder' (uf1_ HO1016) (Kd.R_base ho0) hb)
        replace HO1019 := Aside0.mk (Kd.R_elder' (uf1_ HO1019) (Kd.R_base ho0) hb)
        replace BK1003 := bb_ BK1003 hb
        replace HB := Aside0.mk (below_step (qz9_) hb)
        (try clear hb)
        (try clear hk hi)
        (try clear ho0)
        obtain ⟨Ao37, co37, eo37⟩ := Kd.R_slice HO1023.out
        (first | subst eo37 | (injection eo37 with f1_ f2_ f3_; have f4_ := f1_.symm; have f5_ := f3_.symm; clear f1_ f2_ f3_; subst f4_; subst f5_))
        refine hK.out _ _ ⟨(blk_cell BK1003.out 0).trans rfl, (blk_cell BK1003.out 1).trans rfl⟩ (fun hHeld => ?_)
        clear hK K
        refine nm_ ?_
        refine one_ (i := 3) (N := some 73) (tl_ 9 15) rfl rfl (one_of HT_.out (g0_)) (by decide) (fun K hK => ?_)
        refine goes_ Try.func46 (g0_) rfl #[.agg #[.slice Ao12 t994.length co12, .slice Ao14 t997.length co14], .slice Ao37 t1021.length co37] (by rfl) rfl rfl (g2_) ?_
        with_reducible refine (impl_LeadsTo.calls kj8 _ _ t994 _ _ t997 _ _ t1021 t1024 t1027 _ ?side1 ?side2 ?side3 ?side4 ?side5 ?side6 A30.out).mono ?_
        (case side1 => repeat (first | exact (Kd.R_reads' HO_1004000.out).2.2 | (with_reducible refine Kd.C_alloc ?_ _) | (with_reducible refine Kd.C_drewN ?_ _) | (with_reducible refine Kd.C_drew ?_)))
        (case side2 => exact (Kd.R_reads' HO_1004000.out).2.1)
        (case side3 => repeat (first | exact (Kd.V_reads' HO_1004001.out).2.2 | (with_reducible refine Kd.C_alloc ?_ _) | (with_reducible refine Kd.C_drewN ?_ _) | (with_reducible refine Kd.C_drew ?_)))
        (case side4 => exact (Kd.V_reads' HO_1004001.out).2.1)
        (case side5 => repeat (first | exact (Kd.R_reads' HO1023.out).2.2 | (with_reducible refine Kd.C_alloc ?_ _) | (with_reducible refine Kd.C_drewN ?_ _) | (with_reducible refine Kd.C_drew ?_)))
        (case side6 => exact (Kd.R_reads' HO1023.out).2.1)
        rintro e w38 ⟨v1025, rfl, ho0, hb⟩
        refine ⟨_, rfl, ?_⟩
        replace HO_1004000 := Aside0.mk (Kd.R_below (uf1_ HO_1004000) hb)
        replace HO_1004001 := Aside0.mk (Kd.V_elder' (uf5_ HO_1004001) (Kd.R_base ho0) hb)
        have HO1026 := Aside0.mk (Kd.R_lower (Kd.R_new' (Kd.R_new' (Kd.R_new' (Kd.R_new' (Kd.R_new' ho0 (Kd.R_lt (uf1_ HO_6))) (Kd.R_lt (uf1_ HO_7))) (Kd.R_lt (uf1_ HO1016))) (Kd.R_lt (uf1_ HO1019))) (Kd.R_lt (uf1_ HO1023))) (below_size (qz9_)))
        replace HO_6 := Aside0.mk (Kd.R_elder' (uf1_ HO_6) (Kd.R_base ho0) hb)
        replace HO_7 := Aside0.mk (Kd.R_elder' (uf1_ HO_7) (Kd.R_base ho0) hb)
        replace HO1016 := Aside0.mk (Kd.R_elder' (uf1_ HO1016) (Kd.R_base ho0) hb)
        replace HO1019 := Aside0.mk (Kd.R_elder' (uf1_ HO1019) (Kd.R_base ho0) hb)
        replace HO1023 := Aside0.mk (Kd.R_elder' (uf1_ HO1023) (Kd.R_base ho0) hb)
        replace BK1003 := bb_ BK1003 hb
        replace HB := Aside0.mk (below_step (qz9_) hb)
        (try clear hb)
        (try clear hk hi)
        (try clear ho0)
        refine hK.out _ _ ⟨(blk_cell BK1003.out 0).trans rfl, (blk_cell BK1003.out 1).trans rfl⟩ (fun hHeld => ?_)
        clear hK K
        refine nm_ ?_
        refine pw_ 4 69 (tl_ 9 31) rfl rfl ?_
        refine pw_ 5 74 (tl_ 9 63) rfl rfl ?_
        refine pw_ 6 75 (tl_ 9 127) rfl rfl ?_
        refine pw_ 7 13 (tl_ 9 255) rfl rfl ?_
        refine pw_ 8 14 (tl_ 9 511) rfl rfl ?_
        refine done_ (done_of HT_.out (g0_)) ?_
        try go_wp2_with (first | ((with_reducible refine gate_dst (N := 76) rfl ?_); (try (refine gate_guard (by rfl) ?_; dsimp only)); refine Kd.R_lit k36 _ 36 ?hg (N := 76) ?hd (xs := ([] : List (S36))) (inner := []) (ok := fun _ => True) (okp := fun _ => True) ?hr ?hp (fun _ hk => hk) trivial (Below.refl _ _) (Nat.le_refl _) (by simp) ?_; (case hd => rfl); (case hg => rfl); (case hr => first | (go_simp; done) | (go_simp; rfl)); (case hp => exact (Reps.none _ _)); intro v1029 w39 ho40 hb hg_ hnew_; clear hg_ hnew_; (first | rw [← Ny1028.out] at ho40 | (simp only [Int.reduceToNat] at ho40; rw [← Ny1028.out] at ho40)); replace HO_1004000 := Aside0.mk (Kd.R_below (uf1_ HO_1004000) hb); replace HO_1004001 := Aside0.mk (Kd.V_elder' (uf5_ HO_1004001) (Kd.R_base ho40) hb); have HO1030 := Aside0.mk (Kd.R_lower (Kd.R_new' (Kd.R_new' (Kd.R_new' (Kd.R_new' (Kd.R_new' (Kd.R_new' ho40 (Kd.R_lt (uf1_ HO_6))) (Kd.R_lt (uf1_ HO_7))) (Kd.R_lt (uf1_ HO1016))) (Kd.R_lt (uf1_ HO1019))) (Kd.R_lt (uf1_ HO1023))) (Kd.R_lt (uf1_ HO1026))) (below_size (qz9_))); replace HO_6 := Aside0.mk (Kd.R_elder' (uf1_ HO_6) (Kd.R_base ho40) hb); replace HO_7 := Aside0.mk (Kd.R_elder' (uf1_ HO_7) (Kd.R_base ho40) hb); replace HO1016 := Aside0.mk (Kd.R_elder' (uf1_ HO1016) (Kd.R_base ho40) hb); replace HO1019 := Aside0.mk (Kd.R_elder' (uf1_ HO1019) (Kd.R_base ho40) hb); replace HO1023 := Aside0.mk (Kd.R_elder' (uf1_ HO1023) (Kd.R_base ho40) hb); replace HO1026 := Aside0.mk (Kd.R_elder' (uf1_ HO1026) (Kd.R_base ho40) hb); replace BK1003 := bb_ BK1003 hb; replace HB := Aside0.mk (below_step (qz9_) hb); clear hb ho40))
        go_loopg [15, 16] kj8 (fun kq v15 v16 w' => ∃ (x15_3 : List (S36)) (x16_3 : Int), v16 = .int .i64 x16_3 ∧ Aside0 (laws_FnLeadsTo.l0 kq l1 t1000 t1004 t1017 t1020 t1024 t1027 x15_3 x16_3 t994 t997 = some r) ∧ Aside0 (kq ≤ kj8) ∧ Aside0 (Kd.R k36 36 w' w.heap.size (fun k_ => some k_ ≠ (v1005 : Value).ownBlock ∧ some k_ ≠ (v1018 : Value).ownBlock ∧ some k_ ≠ (v1025 : Value).ownBlock ∧ some k_ ≠ (v15 : Value).ownBlock) (.slice Ao15 t1000.length co15) t1000) ∧ Aside0 (Kd.R k36 36 w' w.heap.size (fun k_ => some k_ ≠ ((.slice Ao15 t1000.length co15) : Value).ownBlock ∧ some k_ ≠ (v1018 : Value).ownBlock ∧ some k_ ≠ (v1025 : Value).ownBlock ∧ some k_ ≠ (v15 : Value).ownBlock) v1005 t1004) ∧ Aside0 (Kd.R k36 36 w' w.heap.size (fun k_ => some k_ ≠ ((.slice Ao15 t1000.length co15) : Value).ownBlock ∧ some k_ ≠ (v1005 : Value).ownBlock ∧ some k_ ≠ (v1025 : Value).ownBlock ∧ some k_ ≠ (v15 : Value).ownBlock) v1018 t1017) ∧ Aside0 (Kd.R k36 36 w' w.heap.size (fun k_ => some k_ ≠ ((.slice Ao15 t1000.length co15) : Value).ownBlock ∧ some k_ ≠ (v1005 : Value).ownBlock ∧ some k_ ≠ (v1018 : Value).ownBlock ∧ some k_ ≠ (v15 : Value).ownBlock) v1025 t1024) ∧ Aside0 (Kd.R k36 36 w' w.heap.size (fun k_ => some k_ ≠ ((.slice Ao15 t1000.length co15) : Value).ownBlock ∧ some k_ ≠ (v1005 : Value).ownBlock ∧ some k_ ≠ (v1018 : Value).ownBlock ∧ some k_ ≠ (v1025 : Value).ownBlock) v15 x15_3) ∧ Aside0 (Kd.R (Kd.int .i64) 3 w' w.heap.size (fun _ => True) (.slice Ao12 t994.length co12) t994) ∧ Aside0 (Kd.V (Kd.slice 3 (Kd.int .i64)) 23 w' w.heap.size (fun k_ => some k_ ≠ ((.slice Ao15 t1000.length co15) : Value).ownBlock ∧ some k_ ≠ (v1005 : Value).ownBlock ∧ some k_ ≠ (v1018 : Value).ownBlock ∧ some k_ ≠ (v1025 : Value).ownBlock ∧ some k_ ≠ (v15 : Value).ownBlock ∧ some k_ ≠ ((.slice Ao12 t994.length co12) : Value).ownBlock ∧ k_ ≠ gb1003) (.slice Ao14 t997.length co14) t997) ∧ Aside0 (w'.heap[gb1003]? = some (.cells #[(.slice Ao12 t994.length co12), (.slice Ao14 t997.length co14)] 26 (0, 0))) ∧ Aside0 (Below w.heap.size w w'))
        case atStart => exact ⟨(y1028), (0), (g3_), H', ⟨Nat.le_refl _⟩, ⟨by (with_reducible repeat (first | apply Kd.R_alloc | apply Kd.R_drewN | apply Kd.R_drew)); exact Kd.R_mono HO_6.out (fun _ hk => ⟨hk.1.1.1.1.1, ⟨hk.1.1.1.2, ⟨hk.1.2, hk.2⟩⟩⟩)⟩, ⟨by (with_reducible repeat (first | apply Kd.R_alloc | apply Kd.R_drewN | apply Kd.R_drew)); exact Kd.R_mono HO_7.out (fun _ hk => ⟨hk.1.1.1.1.1, ⟨hk.1.1.1.2, ⟨hk.1.2, hk.2⟩⟩⟩)⟩, ⟨by (with_reducible repeat (first | apply Kd.R_alloc | apply Kd.R_drewN | apply Kd.R_drew)); exact Kd.R_mono HO1019.out (fun _ hk => ⟨hk.1.1.1.1.1.2, ⟨hk.1.1.1.1.2, ⟨hk.1.2, hk.2⟩⟩⟩)⟩, ⟨by (with_reducible repeat (first | apply Kd.R_alloc | apply Kd.R_drewN | apply Kd.R_drew)); exact Kd.R_mono HO1026.out (fun _ hk => ⟨hk.1.1.1.1.1.2, ⟨hk.1.1.1.1.2, ⟨hk.1.1.2, hk.2⟩⟩⟩)⟩, ⟨by (with_reducible repeat (first | apply Kd.R_alloc | apply Kd.R_drewN | apply Kd.R_drew)); exact Kd.R_mono HO1030.out (fun _ hk => ⟨hk.1.1.1.1.1.2, ⟨hk.1.1.1.1.2, ⟨hk.1.1.2, hk.2⟩⟩⟩)⟩, ⟨uf1_ HO_1004000⟩, ⟨by (with_reducible repeat (first | apply Kd.V_alloc | apply Kd.V_drewN | apply Kd.V_drew)); exact Kd.V_mono HO_1004001.out (fun _ hk => ⟨hk.1.1.1.1.1.1, ⟨hk.1.1.1.1.1.2.1, ⟨hk.1.1.1.2, ⟨hk.1.2, ⟨hk.2, ⟨hk.1.1.1.1.1.2.2.1, hk.1.1.1.1.1.2.2.2⟩⟩⟩⟩⟩⟩)⟩, ⟨uf0_ BK1003⟩, ⟨qz9_⟩⟩
        case round =>
         clear H'
         try clear c1
         try clear c2
         try clear p2
         try clear c4
         try clear c4b0
         try clear c4b1
         try clear c5
         try clear c10
         try clear c13
         try clear c14
         try clear c20
         try clear c25
         try clear c26
         try clear c28
         try clear hcz13_0
         try clear hcz13_1
         try clear hcz17_0
         try clear hcz17_1
         try clear hfz13_0
         try clear hfz13_1
         try clear hfz17_0
         try clear hfz17_1
         try clear p2
         obtain ⟨x15_3, x16_3, rfl, HA, HK3, HO_6, HO_7, HO_11, HO_13, HO_15, HO_1004000, HO_1004001, BK1003, HB⟩ := hrel
         cases gk with
         | zero => exact absurd HA.out (by simp [laws_FnLeadsTo.l0])
         | succ k3 =>
          have H := HA.out
          clear HA
          simp only [laws_FnLeadsTo.l0] at H
          by_cases c41 : x16_3 < (t1000.length : Int)
          ·rw [if_pos c41] at H
           have c41b0 := decide_eq_true c41
           clear c41
           obtain ⟨t1031, A42, H⟩ := bind_ H
           obtain ⟨c43, H⟩ := pos_ H
           have c43b0 := decide_eq_true c43
           clear c43
           obtain ⟨c44, H⟩ := pos_ H
           have c44b0 := decide_eq_true c44
           clear c44
           by_cases c45 : (l1.length : Int) > x16_3
           ·rw [if_pos c45] at H
            have c45b0 := decide_eq_true c45
            clear c45
            obtain ⟨c46, H⟩ := pos_ H
            have c46b0 := decide_eq_true c46
            clear c46
            by_cases c47 : (Int.tmod (rd l1 x16_3) 2) = 0
            ·rw [if_pos c47] at H
             have c47b0 : ((Int.tmod (rd l1 x16_3) 2) == 0) = true := beq_iff_eq.mpr c47
             have c47b1 : ((Int.tmod (rd l1 x16_3) 2) != 0) = false := bne_eq_false_iff_eq.mpr c47
             clear c47
             obtain ⟨c48, H⟩ := pos_ H
             have LMc48 := Aside0.mk c48
             clear c48
             obtain ⟨y1037, hy1037⟩ : ∃ y_ : List (S36), y_ = (x15_3 ++ [(⟨(rd_T36 t1031 x16_3).f0, (rd_T36 t1031 x16_3).f1⟩ : S36)]) := ⟨_, rfl⟩
             replace H : (laws_FnLeadsTo.l0 k3 l1 t1000 t1004 t1017 t1020 t1024 t1027 y1037 (wrap64 (x16_3 + 1)) t994 t997) = some r := by first | (rw [hy1037]; with_reducible exact H) | (have H2_ := (Option.bind_some _ _).symm.trans H; rw [hy1037]; with_reducible exact H2_) | (have H2_ := (Option.bind_some _ _).symm.trans H; with_reducible exact H2_) | with_reducible exact H | (rw [hy1037]; exact H) | exact H
             have Ny1037 := Aside0.mk hy1037
             clear hy1037
             have H' := Aside0.mk H
             clear H
             obtain ⟨hcz49_0, hcz49_1, hfz49_0, hfz49_1⟩ := blk2_ BK1003
             go_wp2_with (first | ((with_reducible refine gate_callee (f := 48) rfl ?_); refine goesL_ (some 84) rfl rfl Try.func48 k_ rfl #[.agg #[.slice Ao12 t994.length co12, .slice Ao14 t997.length co14]] rfl (g2_) ?_; (with_reducible refine (spec_AllPaid.calls k3 _ _ t994 _ _ t997 t1031 _ ?side1 ?side2 ?side3 ?side4 A42.out).mono ?_); (case side1 => repeat (first | exact (Kd.R_reads' HO_1004000.out).2.2 | (with_reducible refine Kd.C_alloc ?_ _) | (with_reducible refine Kd.C_drewN ?_ _) | (with_reducible refine Kd.C_drew ?_))); (case side2 => exact (Kd.R_reads' HO_1004000.out).2.1); (case side3 => repeat (first | exact (Kd.V_reads' HO_1004001.out).2.2 | (with_reducible refine Kd.C_alloc ?_ _) | (with_reducible refine Kd.C_drewN ?_ _) | (with_reducible refine Kd.C_drew ?_))); (case side4 => exact (Kd.V_reads' HO_1004001.out).2.1); rintro e w50 ⟨v1032, rfl, ho0, hb⟩; refine ⟨_, rfl, ?_⟩; replace HO_1004000 := Aside0.mk (Kd.R_below (uf1_ HO_1004000) hb); replace HO_1004001 := Aside0.mk (Kd.V_elder' (uf5_ HO_1004001) (Kd.R_base ho0) hb); have HO1033 := Aside0.mk (Kd.R_lower (Kd.R_new' (Kd.R_new' (Kd.R_new' (Kd.R_new' (Kd.R_new' ho0 (Kd.R_lt (uf1_ HO_6))) (Kd.R_lt (uf1_ HO_7))) (Kd.R_lt (uf1_ HO_11))) (Kd.R_lt (uf1_ HO_13))) (Kd.R_lt (uf1_ HO_15))) (below_size (qz9_))); replace HO_6 := Aside0.mk (Kd.R_elder' (uf1_ HO_6) (Kd.R_base ho0) hb); replace HO_7 := Aside0.mk (Kd.R_elder' (uf1_ HO_7) (Kd.R_base ho0) hb); replace HO_11 := Aside0.mk (Kd.R_elder' (uf1_ HO_11) (Kd.R_base ho0) hb); replace HO_13 := Aside0.mk (Kd.R_elder' (uf1_ HO_13) (Kd.R_base ho0) hb); replace HO_15 := Aside0.mk (Kd.R_elder' (uf1_ HO_15) (Kd.R_base ho0) hb); replace BK1003 := bb_ BK1003 hb; replace HB := Aside0.mk (below_step (qz9_) hb); (try clear hb); (try clear hk hi); (try clear ho0); obtain ⟨Ao51, co51, eo51⟩ := Kd.R_slice HO1033.out; subst eo51; have p1034 : 0 ≤ (x16_3 : Int) := of_decide_eq_true (g1_); have q1034 : x16_3 < (t1031.length : Int) := of_decide_eq_true (g1_); obtain ⟨ad1034, e1034, hx1034_0, hx1034_1⟩ := at_T36 (Kd.R_reads' HO1033.out).2.2 x16_3 p1034 q1034; cases e1034; replace p1034 := eq_true p1034; replace q1034 := eq_true q1034) | ((with_reducible refine gate_dst (N := 17) rfl ?_); (try (refine gate_guard (by rfl) ?_; dsimp only)); refine bx_ (N := 17) #[.int .i64 0, .int .i64 0] 36 ?_; intro gb1035 hg w52 hbox hb; replace HO_6 := Aside0.mk (Kd.R_below (Kd.R_elderB (uf1_ HO_6) gb1035 (Nat.le_of_eq hg.symm)) hb); replace HO_7 := Aside0.mk (Kd.R_below (Kd.R_elderB (uf1_ HO_7) gb1035 (Nat.le_of_eq hg.symm)) hb); replace HO_11 := Aside0.mk (Kd.R_below (Kd.R_elderB (uf1_ HO_11) gb1035 (Nat.le_of_eq hg.symm)) hb); replace HO_13 := Aside0.mk (Kd.R_below (Kd.R_elderB (uf1_ HO_13) gb1035 (Nat.le_of_eq hg.symm)) hb); replace HO_15 := Aside0.mk (Kd.R_below (Kd.R_elderB (uf1_ HO_15) gb1035 (Nat.le_of_eq hg.symm)) hb); replace HO_1004000 := Aside0.mk (Kd.R_below (uf1_ HO_1004000) hb); replace HO_1004001 := Aside0.mk (Kd.V_below (Kd.V_elderB (uf5_ HO_1004001) gb1035 (Nat.le_of_eq hg.symm)) hb); replace HO1033 := Aside0.mk (Kd.R_below (Kd.R_elderB (uf1_ HO1033) gb1035 (Nat.le_of_eq hg.symm)) hb); have BK1035 := Aside0.mk (hbox); have GW1035 := Aside0.mk ((g45_ : w.heap.size ≤ gb1035)); have GE1035 := Aside0.mk ((g45_ : w.heap.size ≤ gb1035)); replace HB := Aside0.mk (below_step (qz9_) hb); have NB1003_1035 := Aside0.mk ((g183_ : gb1003 ≠ gb1035)); have NB1035_1003 := Aside0.mk ((g184_ : gb1035 ≠ gb1003)); replace BK1003 := bb_ BK1003 hb; clear hb hbox hg; have hnb53 := NB1035_1003.out; have hnc53 := NB1003_1035.out; obtain ⟨hcz54_0, hcz54_1, hfz54_0, hfz54_1⟩ := blk2_ BK1035; have p1036 : 0 ≤ (x16_3 : Int) := of_decide_eq_true (g1_); have q1036 : x16_3 < (l1.length : Int) := of_decide_eq_true (g1_); obtain ⟨ad1036, e1036, hx1036_0⟩ := Kd.at_int HR1.out x16_3 p1036 q1036; cases e1036; have hn1036_0 : ad1036.block ≠ gb1035 := Nat.ne_of_lt (Nat.lt_of_lt_of_le (by have := World.block_lt_of_cell? _ _ hx1036_0; first | rwa [add_block] at this | exact this) GW1035.out); have hn1036_1 : ad1036.block ≠ gb1035 := Nat.ne_of_lt (Nat.lt_of_lt_of_le (by have := World.block_lt_of_cell? _ _ hx1036_0; first | rwa [add_block] at this | exact this) GW1035.out); replace hx1036_0 := cl_ HB hx1036_0; replace hx1036_0 := (cell_far (p := ⟨gb1035, 0, none⟩) (by first | (rw [add_block]; exact hn1036_0) | (show (Addr.add _ _).block ≠ _; rw [add_block]; exact hn1036_0) | exact hn1036_0) (.int .i64 ((rd_T36 t1031 x16_3).f0))).trans hx1036_0; replace hx1036_0 := (cell_far (p := ⟨gb1035, 1, none⟩) (by first | (rw [add_block]; exact hn1036_1) | (show (Addr.add _ _).block ≠ _; rw [add_block]; exact hn1036_1) | exact hn1036_1) (.int .i64 ((rd_T36 t1031 x16_3).f1))).trans hx1036_0; clear hn1036_0; clear hn1036_1; replace p1036 := eq_true p1036; replace q1036 := eq_true q1036) | ((with_reducible refine gate_builtin (b := .append) (xs := #[.tmp 100, .tmp 102]) rfl ?_); (try (refine gate_guard (by rfl) ?_; dsimp only)); at_builtin; refine Kd.R_append k36 (w0 := w) w.heap.size rfl (.tmp 100) (.tmp 102) 28 36 (.agg #[(.int .i64 0), (.int .i64 0)]) 16 rfl Try.underlying28 info36 rfl (by decide) (by omega) u15 x15_3 (⟨(rd_T36 t1031 x16_3).f0, (rd_T36 t1031 x16_3).f1⟩ : S36) [.int .i64 ((rd_T36 t1031 x16_3).f0), .int .i64 ((rd_T36 t1031 x16_3).f1)] (fun k_ => some k_ ≠ (.slice Ao15 t1000.length co15 : Value).ownBlock ∧ some k_ ≠ (v1005 : Value).ownBlock ∧ some k_ ≠ (v1018 : Value).ownBlock ∧ some k_ ≠ (v1025 : Value).ownBlock ∧ some k_ ≠ (.slice (some ad1034) t1031.length co51 : Value).ownBlock ∧ k_ ≠ gb1035) (fun _ => False) rfl (g67_) ?aP (fun _ hk => hk.elim) ?aF ?aO ?aB ?aS ?aL ?_; (case aP => exact k36_mkM _ _ _ (⟨(rd_T36 t1031 x16_3).f0, (rd_T36 t1031 x16_3).f1⟩ : S36)); (case aB => exact (qz9_)); (case aF => exact (fun k_ hk => ⟨Kd.fresh' (Kd.R_lt (g185_)) k_ hk, Kd.fresh' (Kd.R_lt (g186_)) k_ hk, Kd.fresh' (Kd.R_lt (g187_)) k_ hk, Kd.fresh' (Kd.R_lt (g188_)) k_ hk, Kd.fresh' (Kd.R_lt (g189_)) k_ hk, Kd.freshB (g := gb1035) (o := .cells #[.int .i64 ((rd_T36 t1031 x16_3).f0), .int .i64 ((rd_T36 t1031 x16_3).f1)] 36 (0, 0)) (g81_) k_ hk⟩)); (case aO => exact (g190_)); (case aS => exact (below_size (qz9_))); (case aL => have := LMc48.out; omega); intro v1038 w55 ho hb hg hat; rw [← Ny1037.out] at ho; replace HO_6 := Aside0.mk (Kd.R_after (ok := (fun k_ => some k_ ≠ (v1005 : Value).ownBlock ∧ some k_ ≠ (v1018 : Value).ownBlock ∧ some k_ ≠ (v1025 : Value).ownBlock ∧ some k_ ≠ (.slice (some ad1034) t1031.length co51 : Value).ownBlock ∧ k_ ≠ gb1035)) (g191_) hg hat); replace HO_7 := Aside0.mk (Kd.R_after (ok := (fun k_ => some k_ ≠ (.slice Ao15 t1000.length co15 : Value).ownBlock ∧ some k_ ≠ (v1018 : Value).ownBlock ∧ some k_ ≠ (v1025 : Value).ownBlock ∧ some k_ ≠ (.slice (some ad1034) t1031.length co51 : Value).ownBlock ∧ k_ ≠ gb1035)) (g192_) hg hat); replace HO_11 := Aside0.mk (Kd.R_after (ok := (fun k_ => some k_ ≠ (.slice Ao15 t1000.length co15 : Value).ownBlock ∧ some k_ ≠ (v1005 : Value).ownBlock ∧ some k_ ≠ (v1025 : Value).ownBlock ∧ some k_ ≠ (.slice (some ad1034) t1031.length co51 : Value).ownBlock ∧ k_ ≠ gb1035)) (g193_) hg hat); replace HO_13 := Aside0.mk (Kd.R_after (ok := (fun k_ => some k_ ≠ (.slice Ao15 t1000.length co15 : Value).ownBlock ∧ some k_ ≠ (v1005 : Value).ownBlock ∧ some k_ ≠ (v1018 : Value).ownBlock ∧ some k_ ≠ (.slice (some ad1034) t1031.length co51 : Value).ownBlock ∧ k_ ≠ gb1035)) (g194_) hg hat); replace HO_1004000 := Aside0.mk (Kd.R_over' (g195_) (Kd.R_typed (g196_)) (by decide) hg); replace HO_1004001 := Aside0.mk (Kd.V_afterv (ok := (fun k_ => some k_ ≠ (.slice Ao15 t1000.length co15 : Value).ownBlock ∧ some k_ ≠ (v1005 : Value).ownBlock ∧ some k_ ≠ (v1018 : Value).ownBlock ∧ some k_ ≠ (v1025 : Value).ownBlock ∧ some k_ ≠ (.slice Ao12 t994.length co12 : Value).ownBlock ∧ some k_ ≠ (.slice (some ad1034) t1031.length co51 : Value).ownBlock ∧ k_ ≠ gb1003 ∧ k_ ≠ gb1035)) (g197_) hg hat); replace BK1003 := Aside0.mk (blk_grown (g := gb1003) (o := .cells #[.slice Ao12 t994.length co12, .slice Ao14 t997.length co14] 26 (0, 0)) (g198_) hg (Kd.R_ne HO_15.out BK1003.out (by decide))); replace HO1033 := Aside0.mk (Kd.R_after (ok := (fun k_ => some k_ ≠ (.slice Ao15 t1000.length co15 : Value).ownBlock ∧ some k_ ≠ (v1005 : Value).ownBlock ∧ some k_ ≠ (v1018 : Value).ownBlock ∧ some k_ ≠ (v1025 : Value).ownBlock ∧ k_ ≠ gb1035)) (g199_) hg hat); replace BK1035 := Aside0.mk (blk_grown (g := gb1035) (o := .cells #[.int .i64 ((rd_T36 t1031 x16_3).f0), .int .i64 ((rd_T36 t1031 x16_3).f1)] 36 (0, 0)) (g81_) hg (Kd.R_away HO_15.out (fun _ hk => hk.2))); replace HB := Aside0.mk (hb); have HO1039 := Aside0.mk (ho); clear HO_15; clear ho hb hg hat))
             go_roundg k3
             case measure => have := HJ2.out; have := HJ8.out; have := HK3.out; omega
             case rel => exact ⟨(y1037), (wrap64 (x16_3 + 1)), (g3_), H', ⟨g200_⟩, ⟨g201_⟩, ⟨g202_⟩, ⟨g203_⟩, ⟨g204_⟩, ⟨by (with_reducible repeat (first | apply Kd.R_alloc | apply Kd.R_drewN | apply Kd.R_drew)); exact Kd.R_mono HO1039.out (fun _ hk => ⟨hk.1, ⟨hk.2.1, ⟨hk.2.2.1, hk.2.2.2.1⟩⟩⟩)⟩, ⟨uf1_ HO_1004000⟩, ⟨g205_⟩, ⟨uf0_ BK1003⟩, ⟨qz9_⟩⟩
            ·rw [if_neg c47] at H
             have c47b0 : ((Int.tmod (rd l1 x16_3) 2) == 0) = false := beq_eq_false_iff_ne.mpr c47
             have c47b1 : ((Int.tmod (rd l1 x16_3) 2) != 0) = true := bne_iff_ne.mpr c47
             obtain ⟨c56, H⟩ := pos_ H
             have LMc56 := Aside0.mk c56
             clear c56
             obtain ⟨y1041, hy1041⟩ : ∃ y_ : List (S36), y_ = (x15_3 ++ [(⟨(rd_T36 t1000 x16_3).f0, (rd_T36 t1000 x16_3).f1⟩ : S36)]) := ⟨_, rfl⟩
             replace H : (laws_FnLeadsTo.l0 k3 l1 t1000 t1004 t1017 t1020 t1024 t1027 y1041 (wrap64 (x16_3 + 1)) t994 t997) = some r := by first | (rw [hy1041]; with_reducible exact H) | (have H2_ := (Option.bind_some _ _).symm.trans H; rw [hy1041]; with_reducible exact H2_) | (have H2_ := (Option.bind_some _ _).symm.trans H; with_reducible exact H2_) | with_reducible exact H | (rw [hy1041]; exact H) | exact H
             have Ny1041 := Aside0.mk hy1041
             clear hy1041
             have H' := Aside0.mk H
             clear H
             obtain ⟨hcz57_0, hcz57_1, hfz57_0, hfz57_1⟩ := blk2_ BK1003
             go_wp2_with (first | ((with_reducible refine gate_callee (f := 48) rfl ?_); refine goesL_ (some 84) rfl rfl Try.func48 k_ rfl #[.agg #[.slice Ao12 t994.length co12, .slice Ao14 t997.length co14]] rfl (g2_) ?_; (with_reducible refine (spec_AllPaid.calls k3 _ _ t994 _ _ t997 t1031 _ ?side1 ?side2 ?side3 ?side4 A42.out).mono ?_); (case side1 => repeat (first | exact (Kd.R_reads' HO_1004000.out).2.2 | (with_reducible refine Kd.C_alloc ?_ _) | (with_reducible refine Kd.C_drewN ?_ _) | (with_reducible refine Kd.C_drew ?_))); (case side2 => exact (Kd.R_reads' HO_1004000.out).2.1); (case side3 => repeat (first | exact (Kd.V_reads' HO_1004001.out).2.2 | (with_reducible refine Kd.C_alloc ?_ _) | (with_reducible refine Kd.C_drewN ?_ _) | (with_reducible refine Kd.C_drew ?_))); (case side4 => exact (Kd.V_reads' HO_1004001.out).2.1); rintro e w58 ⟨v1032, rfl, ho0, hb⟩; refine ⟨_, rfl, ?_⟩; replace HO_1004000 := Aside0.mk (Kd.R_below (uf1_ HO_1004000) hb); replace HO_1004001 := Aside0.mk (Kd.V_elder' (uf5_ HO_1004001) (Kd.R_base ho0) hb); have HO1033 := Aside0.mk (Kd.R_lower (Kd.R_new' (Kd.R_new' (Kd.R_new' (Kd.R_new' (Kd.R_new' ho0 (Kd.R_lt (uf1_ HO_6))) (Kd.R_lt (uf1_ HO_7))) (Kd.R_lt (uf1_ HO_11))) (Kd.R_lt (uf1_ HO_13))) (Kd.R_lt (uf1_ HO_15))) (below_size (qz9_))); replace HO_6 := Aside0.mk (Kd.R_elder' (uf1_ HO_6) (Kd.R_base ho0) hb); replace HO_7 := Aside0.mk (Kd.R_elder' (uf1_ HO_7) (Kd.R_base ho0) hb); replace HO_11 := Aside0.mk (Kd.R_elder' (uf1_ HO_11) (Kd.R_base ho0) hb); replace HO_13 := Aside0.mk (Kd.R_elder' (uf1_ HO_13) (Kd.R_base ho0) hb); replace HO_15 := Aside0.mk (Kd.R_elder' (uf1_ HO_15) (Kd.R_base ho0) hb); replace BK1003 := bb_ BK1003 hb; replace HB := Aside0.mk (below_step (qz9_) hb); (try clear hb); (try clear hk hi); (try clear ho0); obtain ⟨Ao59, co59, eo59⟩ := Kd.R_slice HO1033.out; subst eo59; have p1034 : 0 ≤ (x16_3 : Int) := of_decide_eq_true (g1_); have q1034 : x16_3 < (t1031.length : Int) := of_decide_eq_true (g1_); obtain ⟨ad1034, e1034, hx1034_0, hx1034_1⟩ := at_T36 (Kd.R_reads' HO1033.out).2.2 x16_3 p1034 q1034; cases e1034; replace p1034 := eq_true p1034; replace q1034 := eq_true q1034) | ((with_reducible refine gate_dst (N := 17) rfl ?_); (try (refine gate_guard (by rfl) ?_; dsimp only)); refine bx_ (N := 17) #[.int .i64 0, .int .i64 0] 36 ?_; intro gb1035 hg w60 hbox hb; replace HO_6 := Aside0.mk (Kd.R_below (Kd.R_elderB (uf1_ HO_6) gb1035 (Nat.le_of_eq hg.symm)) hb); replace HO_7 := Aside0.mk (Kd.R_below (Kd.R_elderB (uf1_ HO_7) gb1035 (Nat.le_of_eq hg.symm)) hb); replace HO_11 := Aside0.mk (Kd.R_below (Kd.R_elderB (uf1_ HO_11) gb1035 (Nat.le_of_eq hg.symm)) hb); replace HO_13 := Aside0.mk (Kd.R_below (Kd.R_elderB (uf1_ HO_13) gb1035 (Nat.le_of_eq hg.symm)) hb); replace HO_15 := Aside0.mk (Kd.R_below (Kd.R_elderB (uf1_ HO_15) gb1035 (Nat.le_of_eq hg.symm)) hb); replace HO_1004000 := Aside0.mk (Kd.R_below (uf1_ HO_1004000) hb); replace HO_1004001 := Aside0.mk (Kd.V_below (Kd.V_elderB (uf5_ HO_1004001) gb1035 (Nat.le_of_eq hg.symm)) hb); replace HO1033 := Aside0.mk (Kd.R_below (Kd.R_elderB (uf1_ HO1033) gb1035 (Nat.le_of_eq hg.symm)) hb); have BK1035 := Aside0.mk (hbox); have GW1035 := Aside0.mk ((g45_ : w.heap.size ≤ gb1035)); have GE1035 := Aside0.mk ((g45_ : w.heap.size ≤ gb1035)); replace HB := Aside0.mk (below_step (qz9_) hb); have NB1003_1035 := Aside0.mk ((g183_ : gb1003 ≠ gb1035)); have NB1035_1003 := Aside0.mk ((g184_ : gb1035 ≠ gb1003)); replace BK1003 := bb_ BK1003 hb; clear hb hbox hg; have hnb61 := NB1035_1003.out; have hnc61 := NB1003_1035.out; obtain ⟨hcz62_0, hcz62_1, hfz62_0, hfz62_1⟩ := blk2_ BK1035; have p1036 : 0 ≤ (x16_3 : Int) := of_decide_eq_true (g1_); have q1036 : x16_3 < (l1.length : Int) := of_decide_eq_true (g1_); obtain ⟨ad1036, e1036, hx1036_0⟩ := Kd.at_int HR1.out x16_3 p1036 q1036; cases e1036; have hn1036_0 : ad1036.block ≠ gb1035 := Nat.ne_of_lt (Nat.lt_of_lt_of_le (by have := World.block_lt_of_cell? _ _ hx1036_0; first | rwa [add_block] at this | exact this) GW1035.out); have hn1036_1 : ad1036.block ≠ gb1035 := Nat.ne_of_lt (Nat.lt_of_lt_of_le (by have := World.block_lt_of_cell? _ _ hx1036_0; first | rwa [add_block] at this | exact this) GW1035.out); replace hx1036_0 := cl_ HB hx1036_0; replace hx1036_0 := (cell_far (p := ⟨gb1035, 0, none⟩) (by first | (rw [add_block]; exact hn1036_0) | (show (Addr.add _ _).block ≠ _; rw [add_block]; exact hn1036_0) | exact hn1036_0) (.int .i64 ((rd_T36 t1031 x16_3).f0))).trans hx1036_0; replace hx1036_0 := (cell_far (p := ⟨gb1035, 1, none⟩) (by first | (rw [add_block]; exact hn1036_1) | (show (Addr.add _ _).block ≠ _; rw [add_block]; exact hn1036_1) | exact hn1036_1) (.int .i64 ((rd_T36 t1031 x16_3).f1))).trans hx1036_0; clear hn1036_0; clear hn1036_1; replace p1036 := eq_true p1036; replace q1036 := eq_true q1036; have p1040 : 0 ≤ (x16_3 : Int) := of_decide_eq_true (g1_); have q1040 : x16_3 < (t1000.length : Int) := of_decide_eq_true (g1_); obtain ⟨ad1040, e1040, hx1040_0, hx1040_1⟩ := at_T36 (Kd.R_reads' HO_6.out).2.2 x16_3 p1040 q1040; cases e1040; have hn1040_0 : ad1040.block ≠ gb1035 := Kd.own_blk (g117_); have hn1040_1 : ad1040.block ≠ gb1035 := Kd.own_blk (g117_); replace hx1040_0 := (cell_far (p := ⟨gb1035, 0, none⟩) (by first | (rw [add_block]; exact hn1040_0) | (show (Addr.add _ _).block ≠ _; rw [add_block]; exact hn1040_0) | exact hn1040_0) (.int .i64 ((rd_T36 t1031 x16_3).f0))).trans hx1040_0; replace hx1040_1 := (cell_far (p := ⟨gb1035, 0, none⟩) (by first | (rw [add_block]; exact hn1040_0) | (show (Addr.add _ _).block ≠ _; rw [add_block]; exact hn1040_0) | exact hn1040_0) (.int .i64 ((rd_T36 t1031 x16_3).f0))).trans hx1040_1; replace hx1040_0 := (cell_far (p := ⟨gb1035, 1, none⟩) (by first | (rw [add_block]; exact hn1040_1) | (show (Addr.add _ _).block ≠ _; rw [add_block]; exact hn1040_1) | exact hn1040_1) (.int .i64 ((rd_T36 t1031 x16_3).f1))).trans hx1040_0; replace hx1040_1 := (cell_far (p := ⟨gb1035, 1, none⟩) (by first | (rw [add_block]; exact hn1040_1) | (show (Addr.add _ _).block ≠ _; rw [add_block]; exact hn1040_1) | exact hn1040_1) (.int .i64 ((rd_T36 t1031 x16_3).f1))).trans hx1040_1; clear hn1040_0; clear hn1040_1; replace p1040 := eq_true p1040; replace q1040 := eq_true q1040) | ((with_reducible refine gate_builtin (b := .append) (xs := #[.tmp 104, .tmp 109]) rfl ?_); (try (refine gate_guard (by rfl) ?_; dsimp only)); at_builtin; refine Kd.R_append k36 (w0 := w) w.heap.size rfl (.tmp 104) (.tmp 109) 28 36 (.agg #[(.int .i64 0), (.int .i64 0)]) 16 rfl Try.underlying28 info36 rfl (by decide) (by omega) u15 x15_3 (⟨(rd_T36 t1000 x16_3).f0, (rd_T36 t1000 x16_3).f1⟩ : S36) [.int .i64 ((rd_T36 t1000 x16_3).f0), .int .i64 ((rd_T36 t1000 x16_3).f1)] (fun k_ => some k_ ≠ (.slice (some ad1040) t1000.length co15 : Value).ownBlock ∧ some k_ ≠ (v1005 : Value).ownBlock ∧ some k_ ≠ (v1018 : Value).ownBlock ∧ some k_ ≠ (v1025 : Value).ownBlock ∧ some k_ ≠ (.slice (some ad1034) t1031.length co59 : Value).ownBlock ∧ k_ ≠ gb1035) (fun _ => False) rfl (g67_) ?aP (fun _ hk => hk.elim) ?aF ?aO ?aB ?aS ?aL ?_; (case aP => exact k36_mkM _ _ _ (⟨(rd_T36 t1000 x16_3).f0, (rd_T36 t1000 x16_3).f1⟩ : S36)); (case aB => exact (qz9_)); (case aF => exact (fun k_ hk => ⟨Kd.fresh' (Kd.R_lt (g185_)) k_ hk, Kd.fresh' (Kd.R_lt (g186_)) k_ hk, Kd.fresh' (Kd.R_lt (g187_)) k_ hk, Kd.fresh' (Kd.R_lt (g188_)) k_ hk, Kd.fresh' (Kd.R_lt (g189_)) k_ hk, Kd.freshB (g := gb1035) (o := .cells #[.int .i64 ((rd_T36 t1031 x16_3).f0), .int .i64 ((rd_T36 t1031 x16_3).f1)] 36 (0, 0)) (g81_) k_ hk⟩)); (case aO => exact (g190_)); (case aS => exact (below_size (qz9_))); (case aL => have := LMc56.out; omega); intro v1042 w63 ho hb hg hat; rw [← Ny1041.out] at ho; replace HO_6 := Aside0.mk (Kd.R_after (ok := (fun k_ => some k_ ≠ (v1005 : Value).ownBlock ∧ some k_ ≠ (v1018 : Value).ownBlock ∧ some k_ ≠ (v1025 : Value).ownBlock ∧ some k_ ≠ (.slice (some ad1034) t1031.length co59 : Value).ownBlock ∧ k_ ≠ gb1035)) (g191_) hg hat); replace HO_7 := Aside0.mk (Kd.R_after (ok := (fun k_ => some k_ ≠ (.slice (some ad1040) t1000.length co15 : Value).ownBlock ∧ some k_ ≠ (v1018 : Value).ownBlock ∧ some k_ ≠ (v1025 : Value).ownBlock ∧ some k_ ≠ (.slice (some ad1034) t1031.length co59 : Value).ownBlock ∧ k_ ≠ gb1035)) (g192_) hg hat); replace HO_11 := Aside0.mk (Kd.R_after (ok := (fun k_ => some k_ ≠ (.slice (some ad1040) t1000.length co15 : Value).ownBlock ∧ some k_ ≠ (v1005 : Value).ownBlock ∧ some k_ ≠ (v1025 : Value).ownBlock ∧ some k_ ≠ (.slice (some ad1034) t1031.length co59 : Value).ownBlock ∧ k_ ≠ gb1035)) (g193_) hg hat); replace HO_13 := Aside0.mk (Kd.R_after (ok := (fun k_ => some k_ ≠ (.slice (some ad1040) t1000.length co15 : Value).ownBlock ∧ some k_ ≠ (v1005 : Value).ownBlock ∧ some k_ ≠ (v1018 : Value).ownBlock ∧ some k_ ≠ (.slice (some ad1034) t1031.length co59 : Value).ownBlock ∧ k_ ≠ gb1035)) (g194_) hg hat); replace HO_1004000 := Aside0.mk (Kd.R_over' (g195_) (Kd.R_typed (g196_)) (by decide) hg); replace HO_1004001 := Aside0.mk (Kd.V_afterv (ok := (fun k_ => some k_ ≠ (.slice (some ad1040) t1000.length co15 : Value).ownBlock ∧ some k_ ≠ (v1005 : Value).ownBlock ∧ some k_ ≠ (v1018 : Value).ownBlock ∧ some k_ ≠ (v1025 : Value).ownBlock ∧ some k_ ≠ (.slice Ao12 t994.length co12 : Value).ownBlock ∧ some k_ ≠ (.slice (some ad1034) t1031.length co59 : Value).ownBlock ∧ k_ ≠ gb1003 ∧ k_ ≠ gb1035)) (g197_) hg hat); replace BK1003 := Aside0.mk (blk_grown (g := gb1003) (o := .cells #[.slice Ao12 t994.length co12, .slice Ao14 t997.length co14] 26 (0, 0)) (g198_) hg (Kd.R_ne HO_15.out BK1003.out (by decide))); replace HO1033 := Aside0.mk (Kd.R_after (ok := (fun k_ => some k_ ≠ (.slice (some ad1040) t1000.length co15 : Value).ownBlock ∧ some k_ ≠ (v1005 : Value).ownBlock ∧ some k_ ≠ (v1018 : Value).ownBlock ∧ some k_ ≠ (v1025 : Value).ownBlock ∧ k_ ≠ gb1035)) (g199_) hg hat); replace BK1035 := Aside0.mk (blk_grown (g := gb1035) (o := .cells #[.int .i64 ((rd_T36 t1031 x16_3).f0), .int .i64 ((rd_T36 t1031 x16_3).f1)] 36 (0, 0)) (g81_) hg (Kd.R_away HO_15.out (fun _ hk => hk.2))); replace HB := Aside0.mk (hb); have HO1043 := Aside0.mk (ho); clear HO_15; clear ho hb hg hat))
             go_roundg k3
             case measure => have := HJ2.out; have := HJ8.out; have := HK3.out; omega
             case rel => exact ⟨(y1041), (wrap64 (x16_3 + 1)), (g3_), H', ⟨g200_⟩, ⟨g201_⟩, ⟨g202_⟩, ⟨g203_⟩, ⟨g204_⟩, ⟨by (with_reducible repeat (first | apply Kd.R_alloc | apply Kd.R_drewN | apply Kd.R_drew)); exact Kd.R_mono HO1043.out (fun _ hk => ⟨hk.1, ⟨hk.2.1, ⟨hk.2.2.1, hk.2.2.2.1⟩⟩⟩)⟩, ⟨uf1_ HO_1004000⟩, ⟨g205_⟩, ⟨uf0_ BK1003⟩, ⟨qz9_⟩⟩
           ·rw [if_neg c45] at H
            have c45b0 := decide_eq_false c45
            clear c45
            obtain ⟨c64, H⟩ := pos_ H
            have LMc64 := Aside0.mk c64
            clear c64
            obtain ⟨y1045, hy1045⟩ : ∃ y_ : List (S36), y_ = (x15_3 ++ [(⟨(rd_T36 t1000 x16_3).f0, (rd_T36 t1000 x16_3).f1⟩ : S36)]) := ⟨_, rfl⟩
            replace H : (laws_FnLeadsTo.l0 k3 l1 t1000 t1004 t1017 t1020 t1024 t1027 y1045 (wrap64 (x16_3 + 1)) t994 t997) = some r := by first | (rw [hy1045]; with_reducible exact H) | (have H2_ := (Option.bind_some _ _).symm.trans H; rw [hy1045]; with_reducible exact H2_) | (have H2_ := (Option.bind_some _ _).symm.trans H; with_reducible exact H2_) | with_reducible exact H | (rw [hy1045]; exact H) | exact H
            have Ny1045 := Aside0.mk hy1045
            clear hy1045
            have H' := Aside0.mk H
            clear H
            obtain ⟨hcz65_0, hcz65_1, hfz65_0, hfz65_1⟩ := blk2_ BK1003
            go_wp2_with (first | ((with_reducible refine gate_callee (f := 48) rfl ?_); refine goesL_ (some 84) rfl rfl Try.func48 k_ rfl #[.agg #[.slice Ao12 t994.length co12, .slice Ao14 t997.length co14]] rfl (g2_) ?_; (with_reducible refine (spec_AllPaid.calls k3 _ _ t994 _ _ t997 t1031 _ ?side1 ?side2 ?side3 ?side4 A42.out).mono ?_); (case side1 => repeat (first | exact (Kd.R_reads' HO_1004000.out).2.2 | (with_reducible refine Kd.C_alloc ?_ _) | (with_reducible refine Kd.C_drewN ?_ _) | (with_reducible refine Kd.C_drew ?_))); (case side2 => exact (Kd.R_reads' HO_1004000.out).2.1); (case side3 => repeat (first | exact (Kd.V_reads' HO_1004001.out).2.2 | (with_reducible refine Kd.C_alloc ?_ _) | (with_reducible refine Kd.C_drewN ?_ _) | (with_reducible refine Kd.C_drew ?_))); (case side4 => exact (Kd.V_reads' HO_1004001.out).2.1); rintro e w66 ⟨v1032, rfl, ho0, hb⟩; refine ⟨_, rfl, ?_⟩; replace HO_1004000 := Aside0.mk (Kd.R_below (uf1_ HO_1004000) hb); replace HO_1004001 := Aside0.mk (Kd.V_elder' (uf5_ HO_1004001) (Kd.R_base ho0) hb); have HO1033 := Aside0.mk (Kd.R_lower (Kd.R_new' (Kd.R_new' (Kd.R_new' (Kd.R_new' (Kd.R_new' ho0 (Kd.R_lt (uf1_ HO_6))) (Kd.R_lt (uf1_ HO_7))) (Kd.R_lt (uf1_ HO_11))) (Kd.R_lt (uf1_ HO_13))) (Kd.R_lt (uf1_ HO_15))) (below_size (qz9_))); replace HO_6 := Aside0.mk (Kd.R_elder' (uf1_ HO_6) (Kd.R_base ho0) hb); replace HO_7 := Aside0.mk (Kd.R_elder' (uf1_ HO_7) (Kd.R_base ho0) hb); replace HO_11 := Aside0.mk (Kd.R_elder' (uf1_ HO_11) (Kd.R_base ho0) hb); replace HO_13 := Aside0.mk (Kd.R_elder' (uf1_ HO_13) (Kd.R_base ho0) hb); replace HO_15 := Aside0.mk (Kd.R_elder' (uf1_ HO_15) (Kd.R_base ho0) hb); replace BK1003 := bb_ BK1003 hb; replace HB := Aside0.mk (below_step (qz9_) hb); (try clear hb); (try clear hk hi); (try clear ho0); obtain ⟨Ao67, co67, eo67⟩ := Kd.R_slice HO1033.out; subst eo67; have p1034 : 0 ≤ (x16_3 : Int) := of_decide_eq_true (g1_); have q1034 : x16_3 < (t1031.length : Int) := of_decide_eq_true (g1_); obtain ⟨ad1034, e1034, hx1034_0, hx1034_1⟩ := at_T36 (Kd.R_reads' HO1033.out).2.2 x16_3 p1034 q1034; cases e1034; replace p1034 := eq_true p1034; replace q1034 := eq_true q1034) | ((with_reducible refine gate_dst (N := 17) rfl ?_); (try (refine gate_guard (by rfl) ?_; dsimp only)); refine bx_ (N := 17) #[.int .i64 0, .int .i64 0] 36 ?_; intro gb1035 hg w68 hbox hb; replace HO_6 := Aside0.mk (Kd.R_below (Kd.R_elderB (uf1_ HO_6) gb1035 (Nat.le_of_eq hg.symm)) hb); replace HO_7 := Aside0.mk (Kd.R_below (Kd.R_elderB (uf1_ HO_7) gb1035 (Nat.le_of_eq hg.symm)) hb); replace HO_11 := Aside0.mk (Kd.R_below (Kd.R_elderB (uf1_ HO_11) gb1035 (Nat.le_of_eq hg.symm)) hb); replace HO_13 := Aside0.mk (Kd.R_below (Kd.R_elderB (uf1_ HO_13) gb1035 (Nat.le_of_eq hg.symm)) hb); replace HO_15 := Aside0.mk (Kd.R_below (Kd.R_elderB (uf1_ HO_15) gb1035 (Nat.le_of_eq hg.symm)) hb); replace HO_1004000 := Aside0.mk (Kd.R_below (uf1_ HO_1004000) hb); replace HO_1004001 := Aside0.mk (Kd.V_below (Kd.V_elderB (uf5_ HO_1004001) gb1035 (Nat.le_of_eq hg.symm)) hb); replace HO1033 := Aside0.mk (Kd.R_below (Kd.R_elderB (uf1_ HO1033) gb1035 (Nat.le_of_eq hg.symm)) hb); have BK1035 := Aside0.mk (hbox); have GW1035 := Aside0.mk ((g45_ : w.heap.size ≤ gb1035)); have GE1035 := Aside0.mk ((g45_ : w.heap.size ≤ gb1035)); replace HB := Aside0.mk (below_step (qz9_) hb); have NB1003_1035 := Aside0.mk ((g183_ : gb1003 ≠ gb1035)); have NB1035_1003 := Aside0.mk ((g184_ : gb1035 ≠ gb1003)); replace BK1003 := bb_ BK1003 hb; clear hb hbox hg; have hnb69 := NB1035_1003.out; have hnc69 := NB1003_1035.out; obtain ⟨hcz70_0, hcz70_1, hfz70_0, hfz70_1⟩ := blk2_ BK1035; have p1044 : 0 ≤ (x16_3 : Int) := of_decide_eq_true (g1_); have q1044 : x16_3 < (t1000.length : Int) := of_decide_eq_true (g1_); obtain ⟨ad1044, e1044, hx1044_0, hx1044_1⟩ := at_T36 (Kd.R_reads' HO_6.out).2.2 x16_3 p1044 q1044; cases e1044; have hn1044_0 : ad1044.block ≠ gb1035 := Kd.own_blk (g117_); have hn1044_1 : ad1044.block ≠ gb1035 := Kd.own_blk (g117_); replace hx1044_0 := (cell_far (p := ⟨gb1035, 0, none⟩) (by first | (rw [add_block]; exact hn1044_0) | (show (Addr.add _ _).block ≠ _; rw [add_block]; exact hn1044_0) | exact hn1044_0) (.int .i64 ((rd_T36 t1031 x16_3).f0))).trans hx1044_0; replace hx1044_1 := (cell_far (p := ⟨gb1035, 0, none⟩) (by first | (rw [add_block]; exact hn1044_0) | (show (Addr.add _ _).block ≠ _; rw [add_block]; exact hn1044_0) | exact hn1044_0) (.int .i64 ((rd_T36 t1031 x16_3).f0))).trans hx1044_1; replace hx1044_0 := (cell_far (p := ⟨gb1035, 1, none⟩) (by first | (rw [add_block]; exact hn1044_1) | (show (Addr.add _ _).block ≠ _; rw [add_block]; exact hn1044_1) | exact hn1044_1) (.int .i64 ((rd_T36 t1031 x16_3).f1))).trans hx1044_0; replace hx1044_1 := (cell_far (p := ⟨gb1035, 1, none⟩) (by first | (rw [add_block]; exact hn1044_1) | (show (Addr.add _ _).block ≠ _; rw [add_block]; exact hn1044_1) | exact hn1044_1) (.int .i64 ((rd_T36 t1031 x16_3).f1))).trans hx1044_1; clear hn1044_0; clear hn1044_1; replace p1044 := eq_true p1044; replace q1044 := eq_true q1044) | ((with_reducible refine gate_builtin (b := .append) (xs := #[.tmp 104, .tmp 109]) rfl ?_); (try (refine gate_guard (by rfl) ?_; dsimp only)); at_builtin; refine Kd.R_append k36 (w0 := w) w.heap.size rfl (.tmp 104) (.tmp 109) 28 36 (.agg #[(.int .i64 0), (.int .i64 0)]) 16 rfl Try.underlying28 info36 rfl (by decide) (by omega) u15 x15_3 (⟨(rd_T36 t1000 x16_3).f0, (rd_T36 t1000 x16_3).f1⟩ : S36) [.int .i64 ((rd_T36 t1000 x16_3).f0), .int .i64 ((rd_T36 t1000 x16_3).f1)] (fun k_ => some k_ ≠ (.slice (some ad1044) t1000.length co15 : Value).ownBlock ∧ some k_ ≠ (v1005 : Value).ownBlock ∧ some k_ ≠ (v1018 : Value).ownBlock ∧ some k_ ≠ (v1025 : Value).ownBlock ∧ some k_ ≠ (.slice (some ad1034) t1031.length co67 : Value).ownBlock ∧ k_ ≠ gb1035) (fun _ => False) rfl (g67_) ?aP (fun _ hk => hk.elim) ?aF ?aO ?aB ?aS ?aL ?_; (case aP => exact k36_mkM _ _ _ (⟨(rd_T36 t1000 x16_3).f0, (rd_T36 t1000 x16_3).f1⟩ : S36)); (case aB => exact (qz9_)); (case aF => exact (fun k_ hk => ⟨Kd.fresh' (Kd.R_lt (g185_)) k_ hk, Kd.fresh' (Kd.R_lt (g186_)) k_ hk, Kd.fresh' (Kd.R_lt (g187_)) k_ hk, Kd.fresh' (Kd.R_lt (g188_)) k_ hk, Kd.fresh' (Kd.R_lt (g189_)) k_ hk, Kd.freshB (g := gb1035) (o := .cells #[.int .i64 ((rd_T36 t1031 x16_3).f0), .int .i64 ((rd_T36 t1031 x16_3).f1)] 36 (0, 0)) (g81_) k_ hk⟩)); (case aO => exact (g190_)); (case aS => exact (below_size (qz9_))); (case aL => have := LMc64.out; omega); intro v1046 w71 ho hb hg hat; rw [← Ny1045.out] at ho; replace HO_6 := Aside0.mk (Kd.R_after (ok := (fun k_ => some k_ ≠ (v1005 : Value).ownBlock ∧ some k_ ≠ (v1018 : Value).ownBlock ∧ some k_ ≠ (v1025 : Value).ownBlock ∧ some k_ ≠ (.slice (some ad1034) t1031.length co67 : Value).ownBlock ∧ k_ ≠ gb1035)) (g191_) hg hat); replace HO_7 := Aside0.mk (Kd.R_after (ok := (fun k_ => some k_ ≠ (.slice (some ad1044) t1000.length co15 : Value).ownBlock ∧ some k_ ≠ (v1018 : Value).ownBlock ∧ some k_ ≠ (v1025 : Value).ownBlock ∧ some k_ ≠ (.slice (some ad1034) t1031.length co67 : Value).ownBlock ∧ k_ ≠ gb1035)) (g192_) hg hat); replace HO_11 := Aside0.mk (Kd.R_after (ok := (fun k_ => some k_ ≠ (.slice (some ad1044) t1000.length co15 : Value).ownBlock ∧ some k_ ≠ (v1005 : Value).ownBlock ∧ some k_ ≠ (v1025 : Value).ownBlock ∧ some k_ ≠ (.slice (some ad1034) t1031.length co67 : Value).ownBlock ∧ k_ ≠ gb1035)) (g193_) hg hat); replace HO_13 := Aside0.mk (Kd.R_after (ok := (fun k_ => some k_ ≠ (.slice (some ad1044) t1000.length co15 : Value).ownBlock ∧ some k_ ≠ (v1005 : Value).ownBlock ∧ some k_ ≠ (v1018 : Value).ownBlock ∧ some k_ ≠ (.slice (some ad1034) t1031.length co67 : Value).ownBlock ∧ k_ ≠ gb1035)) (g194_) hg hat); replace HO_1004000 := Aside0.mk (Kd.R_over' (g195_) (Kd.R_typed (g196_)) (by decide) hg); replace HO_1004001 := Aside0.mk (Kd.V_afterv (ok := (fun k_ => some k_ ≠ (.slice (some ad1044) t1000.length co15 : Value).ownBlock ∧ some k_ ≠ (v1005 : Value).ownBlock ∧ some k_ ≠ (v1018 : Value).ownBlock ∧ some k_ ≠ (v1025 : Value).ownBlock ∧ some k_ ≠ (.slice Ao12 t994.length co12 : Value).ownBlock ∧ some k_ ≠ (.slice (some ad1034) t1031.length co67 : Value).ownBlock ∧ k_ ≠ gb1003 ∧ k_ ≠ gb1035)) (g197_) hg hat); replace BK1003 := Aside0.mk (blk_grown (g := gb1003) (o := .cells #[.slice Ao12 t994.length co12, .slice Ao14 t997.length co14] 26 (0, 0)) (g198_) hg (Kd.R_ne HO_15.out BK1003.out (by decide))); replace HO1033 := Aside0.mk (Kd.R_after (ok := (fun k_ => some k_ ≠ (.slice (some ad1044) t1000.length co15 : Value).ownBlock ∧ some k_ ≠ (v1005 : Value).ownBlock ∧ some k_ ≠ (v1018 : Value).ownBlock ∧ some k_ ≠ (v1025 : Value).ownBlock ∧ k_ ≠ gb1035)) (g199_) hg hat); replace BK1035 := Aside0.mk (blk_grown (g := gb1035) (o := .cells #[.int .i64 ((rd_T36 t1031 x16_3).f0), .int .i64 ((rd_T36 t1031 x16_3).f1)] 36 (0, 0)) (g81_) hg (Kd.R_away HO_15.out (fun _ hk => hk.2))); replace HB := Aside0.mk (hb); have HO1047 := Aside0.mk (ho); clear HO_15; clear ho hb hg hat))
            go_roundg k3
            case measure => have := HJ2.out; have := HJ8.out; have := HK3.out; omega
            case rel => exact ⟨(y1045), (wrap64 (x16_3 + 1)), (g3_), H', ⟨g200_⟩, ⟨g201_⟩, ⟨g202_⟩, ⟨g203_⟩, ⟨g204_⟩, ⟨by (with_reducible repeat (first | apply Kd.R_alloc | apply Kd.R_drewN | apply Kd.R_drew)); exact Kd.R_mono HO1047.out (fun _ hk => ⟨hk.1, ⟨hk.2.1, ⟨hk.2.2.1, hk.2.2.2.1⟩⟩⟩)⟩, ⟨uf1_ HO_1004000⟩, ⟨g205_⟩, ⟨uf0_ BK1003⟩, ⟨qz9_⟩⟩
          ·rw [if_neg c41] at H
           have c41b0 := decide_eq_false c41
           clear c41
           replace H := Option.bind_eq_some_iff.mp H
           obtain ⟨⟨t1048, t1051⟩, A720, H⟩ := H
           replace H : ((impl_PaysOk.f k3 t994 t997 t1004).bind fun t1052 => (if t1052 = true then (if t1020 = true then ((laws_belowPays.f k3 t1004 t1017).bind fun t1053 => (if t1053 = true then (if t1027 = true then ((laws_belowPays.f k3 t1024 t1004).bind fun t1054 => (if t1054 = true then (if t1051 = true then ((laws_belowPays.f k3 t1004 t1048).bind fun t1055 => (some t1055)) else (some true)) else (some false))) else (some false)) else (some false))) else (some false)) else (some false))) = some r := H
           have A72 := Aside0.mk A720
           clear A720
           obtain ⟨t1052, A73, H⟩ := bind_ H
           by_cases c74 : t1052 = true
           ·subst c74
            replace H := ifp_ H
            by_cases c75 : t1020 = true
            ·subst c75
             replace H := ifp_ H
             obtain ⟨t1053, A76, H⟩ := bind_ H
             by_cases c77 : t1053 = true
             ·subst c77
              replace H := ifp_ H
              by_cases c78 : t1027 = true
              ·subst c78
               replace H := ifp_ H
               obtain ⟨t1054, A79, H⟩ := bind_ H
               by_cases c80 : t1054 = true
               ·subst c80
                replace H := ifp_ H
                by_cases c81 : t1051 = true
                ·subst c81
                 replace H := ifp_ H
                 obtain ⟨t1055, A82, H⟩ := bind_ H
                 obtain rfl := Option.some.inj H
                 obtain ⟨hcz83_0, hcz83_1, hfz83_0, hfz83_1⟩ := blk2_ BK1003
                 obtain ⟨Ao84, co84, eo84⟩ := Kd.R_slice HO_15.out
                 subst eo84
                 go_wp2_with (first | ((with_reducible refine gate_callee (f := 46) rfl ?_); refine goesL_ (some 114) rfl rfl Try.func46 k_ rfl #[.agg #[.slice Ao12 t994.length co12, .slice Ao14 t997.length co14], .slice Ao84 x15_3.length co84] rfl (g2_) ?_; (with_reducible refine (impl_LeadsTo.calls k3 _ _ t994 _ _ t997 _ _ x15_3 t1048 true _ ?side1 ?side2 ?side3 ?side4 ?side5 ?side6 A72.out).mono ?_); (case side1 => repeat (first | exact (Kd.R_reads' HO_1004000.out).2.2 | (with_reducible refine Kd.C_alloc ?_ _) | (with_reducible refine Kd.C_drewN ?_ _) | (with_reducible refine Kd.C_drew ?_))); (case side2 => exact (Kd.R_reads' HO_1004000.out).2.1); (case side3 => repeat (first | exact (Kd.V_reads' HO_1004001.out).2.2 | (with_reducible refine Kd.C_alloc ?_ _) | (with_reducible refine Kd.C_drewN ?_ _) | (with_reducible refine Kd.C_drew ?_))); (case side4 => exact (Kd.V_reads' HO_1004001.out).2.1); (case side5 => repeat (first | exact (Kd.R_reads' HO_15.out).2.2 | (with_reducible refine Kd.C_alloc ?_ _) | (with_reducible refine Kd.C_drewN ?_ _) | (with_reducible refine Kd.C_drew ?_))); (case side6 => exact (Kd.R_reads' HO_15.out).2.1); rintro e w85 ⟨v1049, rfl, ho0, hb⟩; refine ⟨_, rfl, ?_⟩; replace HO_1004000 := Aside0.mk (Kd.R_below (uf1_ HO_1004000) hb); replace HO_1004001 := Aside0.mk (Kd.V_elder' (uf5_ HO_1004001) (Kd.R_base ho0) hb); have HO1050 := Aside0.mk (Kd.R_lower (Kd.R_new' (Kd.R_new' (Kd.R_new' (Kd.R_new' (Kd.R_new' ho0 (Kd.R_lt (uf1_ HO_6))) (Kd.R_lt (uf1_ HO_7))) (Kd.R_lt (uf1_ HO_11))) (Kd.R_lt (uf1_ HO_13))) (Kd.R_lt (uf1_ HO_15))) (below_size (qz9_))); replace HO_6 := Aside0.mk (Kd.R_elder' (uf1_ HO_6) (Kd.R_base ho0) hb); replace HO_7 := Aside0.mk (Kd.R_elder' (uf1_ HO_7) (Kd.R_base ho0) hb); replace HO_11 := Aside0.mk (Kd.R_elder' (uf1_ HO_11) (Kd.R_base ho0) hb); replace HO_13 := Aside0.mk (Kd.R_elder' (uf1_ HO_13) (Kd.R_base ho0) hb); replace HO_15 := Aside0.mk (Kd.R_elder' (uf1_ HO_15) (Kd.R_base ho0) hb); replace BK1003 := bb_ BK1003 hb; replace HB := Aside0.mk (below_step (qz9_) hb); (try clear hb); (try clear hk hi); (try clear ho0); obtain ⟨hcz86_0, hcz86_1, hfz86_0, hfz86_1⟩ := blk2_ BK1003; obtain ⟨Ao87, co87, eo87⟩ := Kd.R_slice HO_7.out; subst eo87) | ((with_reducible refine gate_callee (f := 24) rfl ?_); refine goesL_ (some 119) rfl rfl Try.func24 k_ rfl #[.agg #[.slice Ao12 t994.length co12, .slice Ao14 t997.length co14], .slice Ao87 t1004.length co87] rfl (g2_) ?_; (with_reducible refine (impl_PaysOk.calls k3 _ _ t994 _ _ t997 _ _ t1004 true _ ?side1 ?side2 ?side3 ?side4 ?side5 ?side6 A73.out).mono ?_); (case side1 => repeat (first | exact (Kd.R_reads' HO_1004000.out).2.2 | (with_reducible refine Kd.C_alloc ?_ _) | (with_reducible refine Kd.C_drewN ?_ _) | (with_reducible refine Kd.C_drew ?_))); (case side2 => exact (Kd.R_reads' HO_1004000.out).2.1); (case side3 => repeat (first | exact (Kd.V_reads' HO_1004001.out).2.2 | (with_reducible refine Kd.C_alloc ?_ _) | (with_reducible refine Kd.C_drewN ?_ _) | (with_reducible refine Kd.C_drew ?_))); (case side4 => exact (Kd.V_reads' HO_1004001.out).2.1); (case side5 => repeat (first | exact (Kd.R_reads' HO_7.out).2.2 | (with_reducible refine Kd.C_alloc ?_ _) | (with_reducible refine Kd.C_drewN ?_ _) | (with_reducible refine Kd.C_drew ?_))); (case side6 => exact (Kd.R_reads' HO_7.out).2.1); rintro e w88 ⟨rfl, hb⟩; refine ⟨_, rfl, ?_⟩; replace HO_6 := Aside0.mk (Kd.R_below (uf1_ HO_6) hb); replace HO_7 := Aside0.mk (Kd.R_below (uf1_ HO_7) hb); replace HO_11 := Aside0.mk (Kd.R_below (uf1_ HO_11) hb); replace HO_13 := Aside0.mk (Kd.R_below (uf1_ HO_13) hb); replace HO_15 := Aside0.mk (Kd.R_below (uf1_ HO_15) hb); replace HO_1004000 := Aside0.mk (Kd.R_below (uf1_ HO_1004000) hb); replace HO_1004001 := Aside0.mk (Kd.V_below (uf5_ HO_1004001) hb); replace HO1050 := Aside0.mk (Kd.R_below (uf1_ HO1050) hb); replace BK1003 := bb_ BK1003 hb; replace HB := Aside0.mk (below_step (qz9_) hb); (try clear hb); (try clear hk hi); obtain ⟨Ao89, co89, eo89⟩ := Kd.R_slice HO_11.out; subst eo89) | (go_at_call 49; (with_reducible refine (laws_belowPays.calls k3 _ _ t1004 _ _ t1017 true _ ?side1 ?side2 ?side3 ?side4 A76.out).mono ?_); (case side1 => repeat (first | exact (Kd.R_reads' HO_7.out).2.2 | (with_reducible refine Kd.C_alloc ?_ _) | (with_reducible refine Kd.C_drewN ?_ _) | (with_reducible refine Kd.C_drew ?_))); (case side2 => exact (Kd.R_reads' HO_7.out).2.1); (case side3 => repeat (first | exact (Kd.R_reads' HO_11.out).2.2 | (with_reducible refine Kd.C_alloc ?_ _) | (with_reducible refine Kd.C_drewN ?_ _) | (with_reducible refine Kd.C_drew ?_))); (case side4 => exact (Kd.R_reads' HO_11.out).2.1); rintro e w90 ⟨rfl, hb⟩; replace HO_6 := Aside0.mk (Kd.R_below (uf1_ HO_6) hb); replace HO_7 := Aside0.mk (Kd.R_below (uf1_ HO_7) hb); replace HO_11 := Aside0.mk (Kd.R_below (uf1_ HO_11) hb); replace HO_13 := Aside0.mk (Kd.R_below (uf1_ HO_13) hb); replace HO_15 := Aside0.mk (Kd.R_below (uf1_ HO_15) hb); replace HO_1004000 := Aside0.mk (Kd.R_below (uf1_ HO_1004000) hb); replace HO_1004001 := Aside0.mk (Kd.V_below (uf5_ HO_1004001) hb); replace HO1050 := Aside0.mk (Kd.R_below (uf1_ HO1050) hb); replace BK1003 := bb_ BK1003 hb; replace HB := Aside0.mk (below_step (qz9_) hb); (try clear hb); (try clear hk hi); obtain ⟨Ao91, co91, eo91⟩ := Kd.R_slice HO_13.out; subst eo91) | (go_at_call 49; (with_reducible refine (laws_belowPays.calls k3 _ _ t1024 _ _ t1004 true _ ?side1 ?side2 ?side3 ?side4 A79.out).mono ?_); (case side1 => repeat (first | exact (Kd.R_reads' HO_13.out).2.2 | (with_reducible refine Kd.C_alloc ?_ _) | (with_reducible refine Kd.C_drewN ?_ _) | (with_reducible refine Kd.C_drew ?_))); (case side2 => exact (Kd.R_reads' HO_13.out).2.1); (case side3 => repeat (first | exact (Kd.R_reads' HO_7.out).2.2 | (with_reducible refine Kd.C_alloc ?_ _) | (with_reducible refine Kd.C_drewN ?_ _) | (with_reducible refine Kd.C_drew ?_))); (case side4 => exact (Kd.R_reads' HO_7.out).2.1); rintro e w92 ⟨rfl, hb⟩; replace HO_6 := Aside0.mk (Kd.R_below (uf1_ HO_6) hb); replace HO_7 := Aside0.mk (Kd.R_below (uf1_ HO_7) hb); replace HO_11 := Aside0.mk (Kd.R_below (uf1_ HO_11) hb); replace HO_13 := Aside0.mk (Kd.R_below (uf1_ HO_13) hb); replace HO_15 := Aside0.mk (Kd.R_below (uf1_ HO_15) hb); replace HO_1004000 := Aside0.mk (Kd.R_below (uf1_ HO_1004000) hb); replace HO_1004001 := Aside0.mk (Kd.V_below (uf5_ HO_1004001) hb); replace HO1050 := Aside0.mk (Kd.R_below (uf1_ HO1050) hb); replace BK1003 := bb_ BK1003 hb; replace HB := Aside0.mk (below_step (qz9_) hb); (try clear hb); (try clear hk hi); obtain ⟨Ao93, co93, eo93⟩ := Kd.R_slice HO1050.out; subst eo93) | (go_at_call 49; (with_reducible refine (laws_belowPays.calls k3 _ _ t1004 _ _ t1048 t1055 _ ?side1 ?side2 ?side3 ?side4 A82.out).mono ?_); (case side1 => repeat (first | exact (Kd.R_reads' HO_7.out).2.2 | (with_reducible refine Kd.C_alloc ?_ _) | (with_reducible refine Kd.C_drewN ?_ _) | (with_reducible refine Kd.C_drew ?_))); (case side2 => exact (Kd.R_reads' HO_7.out).2.1); (case side3 => repeat (first | exact (Kd.R_reads' HO1050.out).2.2 | (with_reducible refine Kd.C_alloc ?_ _) | (with_reducible refine Kd.C_drewN ?_ _) | (with_reducible refine Kd.C_drew ?_))); (case side4 => exact (Kd.R_reads' HO1050.out).2.1); rintro e w94 ⟨rfl, hb⟩; replace HO_6 := Aside0.mk (Kd.R_below (uf1_ HO_6) hb); replace HO_7 := Aside0.mk (Kd.R_below (uf1_ HO_7) hb); replace HO_11 := Aside0.mk (Kd.R_below (uf1_ HO_11) hb); replace HO_13 := Aside0.mk (Kd.R_below (uf1_ HO_13) hb); replace HO_15 := Aside0.mk (Kd.R_below (uf1_ HO_15) hb); replace HO_1004000 := Aside0.mk (Kd.R_below (uf1_ HO_1004000) hb); replace HO_1004001 := Aside0.mk (Kd.V_below (uf5_ HO_1004001) hb); replace HO1050 := Aside0.mk (Kd.R_below (uf1_ HO1050) hb); replace BK1003 := bb_ BK1003 hb; replace HB := Aside0.mk (below_step (qz9_) hb); (try clear hb); (try clear hk hi)))
                 go_ret
                 exact ⟨g4_, qz9_⟩
                ·replace c81 := Bool.eq_false_iff.mpr c81
                 subst c81
                 replace H := ifn_ H
                 obtain rfl := Option.some.inj H
                 obtain ⟨hcz95_0, hcz95_1, hfz95_0, hfz95_1⟩ := blk2_ BK1003
                 obtain ⟨Ao96, co96, eo96⟩ := Kd.R_slice HO_15.out
                 subst eo96
                 go_wp2_with (first | ((with_reducible refine gate_callee (f := 46) rfl ?_); refine goesL_ (some 114) rfl rfl Try.func46 k_ rfl #[.agg #[.slice Ao12 t994.length co12, .slice Ao14 t997.length co14], .slice Ao96 x15_3.length co96] rfl (g2_) ?_; (with_reducible refine (impl_LeadsTo.calls k3 _ _ t994 _ _ t997 _ _ x15_3 t1048 false _ ?side1 ?side2 ?side3 ?side4 ?side5 ?side6 A72.out).mono ?_); (case side1 => repeat (first | exact (Kd.R_reads' HO_1004000.out).2.2 | (with_reducible refine Kd.C_alloc ?_ _) | (with_reducible refine Kd.C_drewN ?_ _) | (with_reducible refine Kd.C_drew ?_))); (case side2 => exact (Kd.R_reads' HO_1004000.out).2.1); (case side3 => repeat (first | exact (Kd.V_reads' HO_1004001.out).2.2 | (with_reducible refine Kd.C_alloc ?_ _) | (with_reducible refine Kd.C_drewN ?_ _) | (with_reducible refine Kd.C_drew ?_))); (case side4 => exact (Kd.V_reads' HO_1004001.out).2.1); (case side5 => repeat (first | exact (Kd.R_reads' HO_15.out).2.2 | (with_reducible refine Kd.C_alloc ?_ _) | (with_reducible refine Kd.C_drewN ?_ _) | (with_reducible refine Kd.C_drew ?_))); (case side6 => exact (Kd.R_reads' HO_15.out).2.1); rintro e w97 ⟨v1049, rfl, ho0, hb⟩; refine ⟨_, rfl, ?_⟩; replace HO_1004000 := Aside0.mk (Kd.R_below (uf1_ HO_1004000) hb); replace HO_1004001 := Aside0.mk (Kd.V_elder' (uf5_ HO_1004001) (Kd.R_base ho0) hb); have HO1050 := Aside0.mk (Kd.R_lower (Kd.R_new' (Kd.R_new' (Kd.R_new' (Kd.R_new' (Kd.R_new' ho0 (Kd.R_lt (uf1_ HO_6))) (Kd.R_lt (uf1_ HO_7))) (Kd.R_lt (uf1_ HO_11))) (Kd.R_lt (uf1_ HO_13))) (Kd.R_lt (uf1_ HO_15))) (below_size (qz9_))); replace HO_6 := Aside0.mk (Kd.R_elder' (uf1_ HO_6) (Kd.R_base ho0) hb); replace HO_7 := Aside0.mk (Kd.R_elder' (uf1_ HO_7) (Kd.R_base ho0) hb); replace HO_11 := Aside0.mk (Kd.R_elder' (uf1_ HO_11) (Kd.R_base ho0) hb); replace HO_13 := Aside0.mk (Kd.R_elder' (uf1_ HO_13) (Kd.R_base ho0) hb); replace HO_15 := Aside0.mk (Kd.R_elder' (uf1_ HO_15) (Kd.R_base ho0) hb); replace BK1003 := bb_ BK1003 hb; replace HB := Aside0.mk (below_step (qz9_) hb); (try clear hb); (try clear hk hi); (try clear ho0); obtain ⟨hcz98_0, hcz98_1, hfz98_0, hfz98_1⟩ := blk2_ BK1003; obtain ⟨Ao99, co99, eo99⟩ := Kd.R_slice HO_7.out; subst eo99) | ((with_reducible refine gate_callee (f := 24) rfl ?_); refine goesL_ (some 119) rfl rfl Try.func24 k_ rfl #[.agg #[.slice Ao12 t994.length co12, .slice Ao14 t997.length co14], .slice Ao99 t1004.length co99] rfl (g2_) ?_; (with_reducible refine (impl_PaysOk.calls k3 _ _ t994 _ _ t997 _ _ t1004 true _ ?side1 ?side2 ?side3 ?side4 ?side5 ?side6 A73.out).mono ?_); (case side1 => repeat (first | exact (Kd.R_reads' HO_1004000.out).2.2 | (with_reducible refine Kd.C_alloc ?_ _) | (with_reducible refine Kd.C_drewN ?_ _) | (with_reducible refine Kd.C_drew ?_))); (case side2 => exact (Kd.R_reads' HO_1004000.out).2.1); (case side3 => repeat (first | exact (Kd.V_reads' HO_1004001.out).2.2 | (with_reducible refine Kd.C_alloc ?_ _) | (with_reducible refine Kd.C_drewN ?_ _) | (with_reducible refine Kd.C_drew ?_))); (case side4 => exact (Kd.V_reads' HO_1004001.out).2.1); (case side5 => repeat (first | exact (Kd.R_reads' HO_7.out).2.2 | (with_reducible refine Kd.C_alloc ?_ _) | (with_reducible refine Kd.C_drewN ?_ _) | (with_reducible refine Kd.C_drew ?_))); (case side6 => exact (Kd.R_reads' HO_7.out).2.1); rintro e w100 ⟨rfl, hb⟩; refine ⟨_, rfl, ?_⟩; replace HO_6 := Aside0.mk (Kd.R_below (uf1_ HO_6) hb); replace HO_7 := Aside0.mk (Kd.R_below (uf1_ HO_7) hb); replace HO_11 := Aside0.mk (Kd.R_below (uf1_ HO_11) hb); replace HO_13 := Aside0.mk (Kd.R_below (uf1_ HO_13) hb); replace HO_15 := Aside0.mk (Kd.R_below (uf1_ HO_15) hb); replace HO_1004000 := Aside0.mk (Kd.R_below (uf1_ HO_1004000) hb); replace HO_1004001 := Aside0.mk (Kd.V_below (uf5_ HO_1004001) hb); replace HO1050 := Aside0.mk (Kd.R_below (uf1_ HO1050) hb); replace BK1003 := bb_ BK1003 hb; replace HB := Aside0.mk (below_step (qz9_) hb); (try clear hb); (try clear hk hi); obtain ⟨Ao101, co101, eo101⟩ := Kd.R_slice HO_11.out; subst eo101) | (go_at_call 49; (with_reducible refine (laws_belowPays.calls k3 _ _ t1004 _ _ t1017 true _ ?side1 ?side2 ?side3 ?side4 A76.out).mono ?_); (case side1 => repeat (first | exact (Kd.R_reads' HO_7.out).2.2 | (with_reducible refine Kd.C_alloc ?_ _) | (with_reducible refine Kd.C_drewN ?_ _) | (with_reducible refine Kd.C_drew ?_))); (case side2 => exact (Kd.R_reads' HO_7.out).2.1); (case side3 => repeat (first | exact (Kd.R_reads' HO_11.out).2.2 | (with_reducible refine Kd.C_alloc ?_ _) | (with_reducible refine Kd.C_drewN ?_ _) | (with_reducible refine Kd.C_drew ?_))); (case side4 => exact (Kd.R_reads' HO_11.out).2.1); rintro e w102 ⟨rfl, hb⟩; replace HO_6 := Aside0.mk (Kd.R_below (uf1_ HO_6) hb); replace HO_7 := Aside0.mk (Kd.R_below (uf1_ HO_7) hb); replace HO_11 := Aside0.mk (Kd.R_below (uf1_ HO_11) hb); replace HO_13 := Aside0.mk (Kd.R_below (uf1_ HO_13) hb); replace HO_15 := Aside0.mk (Kd.R_below (uf1_ HO_15) hb); replace HO_1004000 := Aside0.mk (Kd.R_below (uf1_ HO_1004000) hb); replace HO_1004001 := Aside0.mk (Kd.V_below (uf5_ HO_1004001) hb); replace HO1050 := Aside0.mk (Kd.R_below (uf1_ HO1050) hb); replace BK1003 := bb_ BK1003 hb; replace HB := Aside0.mk (below_step (qz9_) hb); (try clear hb); (try clear hk hi); obtain ⟨Ao103, co103, eo103⟩ := Kd.R_slice HO_13.out; subst eo103) | (go_at_call 49; (with_reducible refine (laws_belowPays.calls k3 _ _ t1024 _ _ t1004 true _ ?side1 ?side2 ?side3 ?side4 A79.out).mono ?_); (case side1 => repeat (first | exact (Kd.R_reads' HO_13.out).2.2 | (with_reducible refine Kd.C_alloc ?_ _) | (with_reducible refine Kd.C_drewN ?_ _) | (with_reducible refine Kd.C_drew ?_))); (case side2 => exact (Kd.R_reads' HO_13.out).2.1); (case side3 => repeat (first | exact (Kd.R_reads' HO_7.out).2.2 | (with_reducible refine Kd.C_alloc ?_ _) | (with_reducible refine Kd.C_drewN ?_ _) | (with_reducible refine Kd.C_drew ?_))); (case side4 => exact (Kd.R_reads' HO_7.out).2.1); rintro e w104 ⟨rfl, hb⟩; replace HO_6 := Aside0.mk (Kd.R_below (uf1_ HO_6) hb); replace HO_7 := Aside0.mk (Kd.R_below (uf1_ HO_7) hb); replace HO_11 := Aside0.mk (Kd.R_below (uf1_ HO_11) hb); replace HO_13 := Aside0.mk (Kd.R_below (uf1_ HO_13) hb); replace HO_15 := Aside0.mk (Kd.R_below (uf1_ HO_15) hb); replace HO_1004000 := Aside0.mk (Kd.R_below (uf1_ HO_1004000) hb); replace HO_1004001 := Aside0.mk (Kd.V_below (uf5_ HO_1004001) hb); replace HO1050 := Aside0.mk (Kd.R_below (uf1_ HO1050) hb); replace BK1003 := bb_ BK1003 hb; replace HB := Aside0.mk (below_step (qz9_) hb); (try clear hb); (try clear hk hi)))
                 go_ret
                 exact ⟨g4_, qz9_⟩
               ·replace c80 := Bool.eq_false_iff.mpr c80
                subst c80
                replace H := ifn_ H
                obtain rfl := Option.some.inj H
                obtain ⟨hcz105_0, hcz105_1, hfz105_0, hfz105_1⟩ := blk2_ BK1003
                obtain ⟨Ao106, co106, eo106⟩ := Kd.R_slice HO_15.out
                subst eo106
                go_wp2_with (first | ((with_reducible refine gate_callee (f := 46) rfl ?_); refine goesL_ (some 114) rfl rfl Try.func46 k_ rfl #[.agg #[.slice Ao12 t994.length co12, .slice Ao14 t997.length co14], .slice Ao106 x15_3.length co106] rfl (g2_) ?_; (with_reducible refine (impl_LeadsTo.calls k3 _ _ t994 _ _ t997 _ _ x15_3 t1048 t1051 _ ?side1 ?side2 ?side3 ?side4 ?side5 ?side6 A72.out).mono ?_); (case side1 => repeat (first | exact (Kd.R_reads' HO_1004000.out).2.2 | (with_reducible refine Kd.C_alloc ?_ _) | (with_reducible refine Kd.C_drewN ?_ _) | (with_reducible refine Kd.C_drew ?_))); (case side2 => exact (Kd.R_reads' HO_1004000.out).2.1); (case side3 => repeat (first | exact (Kd.V_reads' HO_1004001.out).2.2 | (with_reducible refine Kd.C_alloc ?_ _) | (with_reducible refine Kd.C_drewN ?_ _) | (with_reducible refine Kd.C_drew ?_))); (case side4 => exact (Kd.V_reads' HO_1004001.out).2.1); (case side5 => repeat (first | exact (Kd.R_reads' HO_15.out).2.2 | (with_reducible refine Kd.C_alloc ?_ _) | (with_reducible refine Kd.C_drewN ?_ _) | (with_reducible refine Kd.C_drew ?_))); (case side6 => exact (Kd.R_reads' HO_15.out).2.1); rintro e w107 ⟨v1049, rfl, ho0, hb⟩; refine ⟨_, rfl, ?_⟩; replace HO_1004000 := Aside0.mk (Kd.R_below (uf1_ HO_1004000) hb); replace HO_1004001 := Aside0.mk (Kd.V_elder' (uf5_ HO_1004001) (Kd.R_base ho0) hb); have HO1050 := Aside0.mk (Kd.R_lower (Kd.R_new' (Kd.R_new' (Kd.R_new' (Kd.R_new' (Kd.R_new' ho0 (Kd.R_lt (uf1_ HO_6))) (Kd.R_lt (uf1_ HO_7))) (Kd.R_lt (uf1_ HO_11))) (Kd.R_lt (uf1_ HO_13))) (Kd.R_lt (uf1_ HO_15))) (below_size (qz9_))); replace HO_6 := Aside0.mk (Kd.R_elder' (uf1_ HO_6) (Kd.R_base ho0) hb); replace HO_7 := Aside0.mk (Kd.R_elder' (uf1_ HO_7) (Kd.R_base ho0) hb); replace HO_11 := Aside0.mk (Kd.R_elder' (uf1_ HO_11) (Kd.R_base ho0) hb); replace HO_13 := Aside0.mk (Kd.R_elder' (uf1_ HO_13) (Kd.R_base ho0) hb); replace HO_15 := Aside0.mk (Kd.R_elder' (uf1_ HO_15) (Kd.R_base ho0) hb); replace BK1003 := bb_ BK1003 hb; replace HB := Aside0.mk (below_step (qz9_) hb); (try clear hb); (try clear hk hi); (try clear ho0); obtain ⟨hcz108_0, hcz108_1, hfz108_0, hfz108_1⟩ := blk2_ BK1003; obtain ⟨Ao109, co109, eo109⟩ := Kd.R_slice HO_7.out; subst eo109) | ((with_reducible refine gate_callee (f := 24) rfl ?_); refine goesL_ (some 119) rfl rfl Try.func24 k_ rfl #[.agg #[.slice Ao12 t994.length co12, .slice Ao14 t997.length co14], .slice Ao109 t1004.length co109] rfl (g2_) ?_; (with_reducible refine (impl_PaysOk.calls k3 _ _ t994 _ _ t997 _ _ t1004 true _ ?side1 ?side2 ?side3 ?side4 ?side5 ?side6 A73.out).mono ?_); (case side1 => repeat (first | exact (Kd.R_reads' HO_1004000.out).2.2 | (with_reducible refine Kd.C_alloc ?_ _) | (with_reducible refine Kd.C_drewN ?_ _) | (with_reducible refine Kd.C_drew ?_))); (case side2 => exact (Kd.R_reads' HO_1004000.out).2.1); (case side3 => repeat (first | exact (Kd.V_reads' HO_1004001.out).2.2 | (with_reducible refine Kd.C_alloc ?_ _) | (with_reducible refine Kd.C_drewN ?_ _) | (with_reducible refine Kd.C_drew ?_))); (case side4 => exact (Kd.V_reads' HO_1004001.out).2.1); (case side5 => repeat (first | exact (Kd.R_reads' HO_7.out).2.2 | (with_reducible refine Kd.C_alloc ?_ _) | (with_reducible refine Kd.C_drewN ?_ _) | (with_reducible refine Kd.C_drew ?_))); (case side6 => exact (Kd.R_reads' HO_7.out).2.1); rintro e w110 ⟨rfl, hb⟩; refine ⟨_, rfl, ?_⟩; replace HO_6 := Aside0.mk (Kd.R_below (uf1_ HO_6) hb); replace HO_7 := Aside0.mk (Kd.R_below (uf1_ HO_7) hb); replace HO_11 := Aside0.mk (Kd.R_below (uf1_ HO_11) hb); replace HO_13 := Aside0.mk (Kd.R_below (uf1_ HO_13) hb); replace HO_15 := Aside0.mk (Kd.R_below (uf1_ HO_15) hb); replace HO_1004000 := Aside0.mk (Kd.R_below (uf1_ HO_1004000) hb); replace HO_1004001 := Aside0.mk (Kd.V_below (uf5_ HO_1004001) hb); replace HO1050 := Aside0.mk (Kd.R_below (uf1_ HO1050) hb); replace BK1003 := bb_ BK1003 hb; replace HB := Aside0.mk (below_step (qz9_) hb); (try clear hb); (try clear hk hi); obtain ⟨Ao111, co111, eo111⟩ := Kd.R_slice HO_11.out; subst eo111) | (go_at_call 49; (with_reducible refine (laws_belowPays.calls k3 _ _ t1004 _ _ t1017 true _ ?side1 ?side2 ?side3 ?side4 A76.out).mono ?_); (case side1 => repeat (first | exact (Kd.R_reads' HO_7.out).2.2 | (with_reducible refine Kd.C_alloc ?_ _) | (with_reducible refine Kd.C_drewN ?_ _) | (with_reducible refine Kd.C_drew ?_))); (case side2 => exact (Kd.R_reads' HO_7.out).2.1); (case side3 => repeat (first | exact (Kd.R_reads' HO_11.out).2.2 | (with_reducible refine Kd.C_alloc ?_ _) | (with_reducible refine Kd.C_drewN ?_ _) | (with_reducible refine Kd.C_drew ?_))); (case side4 => exact (Kd.R_reads' HO_11.out).2.1); rintro e w112 ⟨rfl, hb⟩; replace HO_6 := Aside0.mk (Kd.R_below (uf1_ HO_6) hb); replace HO_7 := Aside0.mk (Kd.R_below (uf1_ HO_7) hb); replace HO_11 := Aside0.mk (Kd.R_below (uf1_ HO_11) hb); replace HO_13 := Aside0.mk (Kd.R_below (uf1_ HO_13) hb); replace HO_15 := Aside0.mk (Kd.R_below (uf1_ HO_15) hb); replace HO_1004000 := Aside0.mk (Kd.R_below (uf1_ HO_1004000) hb); replace HO_1004001 := Aside0.mk (Kd.V_below (uf5_ HO_1004001) hb); replace HO1050 := Aside0.mk (Kd.R_below (uf1_ HO1050) hb); replace BK1003 := bb_ BK1003 hb; replace HB := Aside0.mk (below_step (qz9_) hb); (try clear hb); (try clear hk hi); obtain ⟨Ao113, co113, eo113⟩ := Kd.R_slice HO_13.out; subst eo113) | (go_at_call 49; (with_reducible refine (laws_belowPays.calls k3 _ _ t1024 _ _ t1004 false _ ?side1 ?side2 ?side3 ?side4 A79.out).mono ?_); (case side1 => repeat (first | exact (Kd.R_reads' HO_13.out).2.2 | (with_reducible refine Kd.C_alloc ?_ _) | (with_reducible refine Kd.C_drewN ?_ _) | (with_reducible refine Kd.C_drew ?_))); (case side2 => exact (Kd.R_reads' HO_13.out).2.1); (case side3 => repeat (first | exact (Kd.R_reads' HO_7.out).2.2 | (with_reducible refine Kd.C_alloc ?_ _) | (with_reducible refine Kd.C_drewN ?_ _) | (with_reducible refine Kd.C_drew ?_))); (case side4 => exact (Kd.R_reads' HO_7.out).2.1); rintro e w114 ⟨rfl, hb⟩; replace HO_6 := Aside0.mk (Kd.R_below (uf1_ HO_6) hb); replace HO_7 := Aside0.mk (Kd.R_below (uf1_ HO_7) hb); replace HO_11 := Aside0.mk (Kd.R_below (uf1_ HO_11) hb); replace HO_13 := Aside0.mk (Kd.R_below (uf1_ HO_13) hb); replace HO_15 := Aside0.mk (Kd.R_below (uf1_ HO_15) hb); replace HO_1004000 := Aside0.mk (Kd.R_below (uf1_ HO_1004000) hb); replace HO_1004001 := Aside0.mk (Kd.V_below (uf5_ HO_1004001) hb); replace HO1050 := Aside0.mk (Kd.R_below (uf1_ HO1050) hb); replace BK1003 := bb_ BK1003 hb; replace HB := Aside0.mk (below_step (qz9_) hb); (try clear hb); (try clear hk hi)))
                go_ret
                exact ⟨g4_, qz9_⟩
              ·replace c78 := Bool.eq_false_iff.mpr c78
               subst c78
               replace H := ifn_ H
               obtain rfl := Option.some.inj H
               obtain ⟨hcz115_0, hcz115_1, hfz115_0, hfz115_1⟩ := blk2_ BK1003
               obtain ⟨Ao116, co116, eo116⟩ := Kd.R_slice HO_15.out
               subst eo116
               go_wp2_with (first | ((with_reducible refine gate_callee (f := 46) rfl ?_); refine goesL_ (some 114) rfl rfl Try.func46 k_ rfl #[.agg #[.slice Ao12 t994.length co12, .slice Ao14 t997.length co14], .slice Ao116 x15_3.length co116] rfl (g2_) ?_; (with_reducible refine (impl_LeadsTo.calls k3 _ _ t994 _ _ t997 _ _ x15_3 t1048 t1051 _ ?side1 ?side2 ?side3 ?side4 ?side5 ?side6 A72.out).mono ?_); (case side1 => repeat (first | exact (Kd.R_reads' HO_1004000.out).2.2 | (with_reducible refine Kd.C_alloc ?_ _) | (with_reducible refine Kd.C_drewN ?_ _) | (with_reducible refine Kd.C_drew ?_))); (case side2 => exact (Kd.R_reads' HO_1004000.out).2.1); (case side3 => repeat (first | exact (Kd.V_reads' HO_1004001.out).2.2 | (with_reducible refine Kd.C_alloc ?_ _) | (with_reducible refine Kd.C_drewN ?_ _) | (with_reducible refine Kd.C_drew ?_))); (case side4 => exact (Kd.V_reads' HO_1004001.out).2.1); (case side5 => repeat (first | exact (Kd.R_reads' HO_15.out).2.2 | (with_reducible refine Kd.C_alloc ?_ _) | (with_reducible refine Kd.C_drewN ?_ _) | (with_reducible refine Kd.C_drew ?_))); (case side6 => exact (Kd.R_reads' HO_15.out).2.1); rintro e w117 ⟨v1049, rfl, ho0, hb⟩; refine ⟨_, rfl, ?_⟩; replace HO_1004000 := Aside0.mk (Kd.R_below (uf1_ HO_1004000) hb); replace HO_1004001 := Aside0.mk (Kd.V_elder' (uf5_ HO_1004001) (Kd.R_base ho0) hb); have HO1050 := Aside0.mk (Kd.R_lower (Kd.R_new' (Kd.R_new' (Kd.R_new' (Kd.R_new' (Kd.R_new' ho0 (Kd.R_lt (uf1_ HO_6))) (Kd.R_lt (uf1_ HO_7))) (Kd.R_lt (uf1_ HO_11))) (Kd.R_lt (uf1_ HO_13))) (Kd.R_lt (uf1_ HO_15))) (below_size (qz9_))); replace HO_6 := Aside0.mk (Kd.R_elder' (uf1_ HO_6) (Kd.R_base ho0) hb); replace HO_7 := Aside0.mk (Kd.R_elder' (uf1_ HO_7) (Kd.R_base ho0) hb); replace HO_11 := Aside0.mk (Kd.R_elder' (uf1_ HO_11) (Kd.R_base ho0) hb); replace HO_13 := Aside0.mk (Kd.R_elder' (uf1_ HO_13) (Kd.R_base ho0) hb); replace HO_15 := Aside0.mk (Kd.R_elder' (uf1_ HO_15) (Kd.R_base ho0) hb); replace BK1003 := bb_ BK1003 hb; replace HB := Aside0.mk (below_step (qz9_) hb); (try clear hb); (try clear hk hi); (try clear ho0); obtain ⟨hcz118_0, hcz118_1, hfz118_0, hfz118_1⟩ := blk2_ BK1003; obtain ⟨Ao119, co119, eo119⟩ := Kd.R_slice HO_7.out; subst eo119) | ((with_reducible refine gate_callee (f := 24) rfl ?_); refine goesL_ (some 119) rfl rfl Try.func24 k_ rfl #[.agg #[.slice Ao12 t994.length co12, .slice Ao14 t997.length co14], .slice Ao119 t1004.length co119] rfl (g2_) ?_; (with_reducible refine (impl_PaysOk.calls k3 _ _ t994 _ _ t997 _ _ t1004 true _ ?side1 ?side2 ?side3 ?side4 ?side5 ?side6 A73.out).mono ?_); (case side1 => repeat (first | exact (Kd.R_reads' HO_1004000.out).2.2 | (with_reducible refine Kd.C_alloc ?_ _) | (with_reducible refine Kd.C_drewN ?_ _) | (with_reducible refine Kd.C_drew ?_))); (case side2 => exact (Kd.R_reads' HO_1004000.out).2.1); (case side3 => repeat (first | exact (Kd.V_reads' HO_1004001.out).2.2 | (with_reducible refine Kd.C_alloc ?_ _) | (with_reducible refine Kd.C_drewN ?_ _) | (with_reducible refine Kd.C_drew ?_))); (case side4 => exact (Kd.V_reads' HO_1004001.out).2.1); (case side5 => repeat (first | exact (Kd.R_reads' HO_7.out).2.2 | (with_reducible refine Kd.C_alloc ?_ _) | (with_reducible refine Kd.C_drewN ?_ _) | (with_reducible refine Kd.C_drew ?_))); (case side6 => exact (Kd.R_reads' HO_7.out).2.1); rintro e w120 ⟨rfl, hb⟩; refine ⟨_, rfl, ?_⟩; replace HO_6 := Aside0.mk (Kd.R_below (uf1_ HO_6) hb); replace HO_7 := Aside0.mk (Kd.R_below (uf1_ HO_7) hb); replace HO_11 := Aside0.mk (Kd.R_below (uf1_ HO_11) hb); replace HO_13 := Aside0.mk (Kd.R_below (uf1_ HO_13) hb); replace HO_15 := Aside0.mk (Kd.R_below (uf1_ HO_15) hb); replace HO_1004000 := Aside0.mk (Kd.R_below (uf1_ HO_1004000) hb); replace HO_1004001 := Aside0.mk (Kd.V_below (uf5_ HO_1004001) hb); replace HO1050 := Aside0.mk (Kd.R_below (uf1_ HO1050) hb); replace BK1003 := bb_ BK1003 hb; replace HB := Aside0.mk (below_step (qz9_) hb); (try clear hb); (try clear hk hi); obtain ⟨Ao121, co121, eo121⟩ := Kd.R_slice HO_11.out; subst eo121) | (go_at_call 49; (with_reducible refine (laws_belowPays.calls k3 _ _ t1004 _ _ t1017 true _ ?side1 ?side2 ?side3 ?side4 A76.out).mono ?_); (case side1 => repeat (first | exact (Kd.R_reads' HO_7.out).2.2 | (with_reducible refine Kd.C_alloc ?_ _) | (with_reducible refine Kd.C_drewN ?_ _) | (with_reducible refine Kd.C_drew ?_))); (case side2 => exact (Kd.R_reads' HO_7.out).2.1); (case side3 => repeat (first | exact (Kd.R_reads' HO_11.out).2.2 | (with_reducible refine Kd.C_alloc ?_ _) | (with_reducible refine Kd.C_drewN ?_ _) | (with_reducible refine Kd.C_drew ?_))); (case side4 => exact (Kd.R_reads' HO_11.out).2.1); rintro e w122 ⟨rfl, hb⟩; replace HO_6 := Aside0.mk (Kd.R_below (uf1_ HO_6) hb); replace HO_7 := Aside0.mk (Kd.R_below (uf1_ HO_7) hb); replace HO_11 := Aside0.mk (Kd.R_below (uf1_ HO_11) hb); replace HO_13 := Aside0.mk (Kd.R_below (uf1_ HO_13) hb); replace HO_15 := Aside0.mk (Kd.R_below (uf1_ HO_15) hb); replace HO_1004000 := Aside0.mk (Kd.R_below (uf1_ HO_1004000) hb); replace HO_1004001 := Aside0.mk (Kd.V_below (uf5_ HO_1004001) hb); replace HO1050 := Aside0.mk (Kd.R_below (uf1_ HO1050) hb); replace BK1003 := bb_ BK1003 hb; replace HB := Aside0.mk (below_step (qz9_) hb); (try clear hb); (try clear hk hi)))
               go_ret
               exact ⟨g4_, qz9_⟩
             ·replace c77 := Bool.eq_false_iff.mpr c77
              subst c77
              replace H := ifn_ H
              obtain rfl := Option.some.inj H
              obtain ⟨hcz123_0, hcz123_1, hfz123_0, hfz123_1⟩ := blk2_ BK1003
              obtain ⟨Ao124, co124, eo124⟩ := Kd.R_slice HO_15.out
              subst eo124
              go_wp2_with (first | ((with_reducible refine gate_callee (f := 46) rfl ?_); refine goesL_ (some 114) rfl rfl Try.func46 k_ rfl #[.agg #[.slice Ao12 t994.length co12, .slice Ao14 t997.length co14], .slice Ao124 x15_3.length co124] rfl (g2_) ?_; (with_reducible refine (impl_LeadsTo.calls k3 _ _ t994 _ _ t997 _ _ x15_3 t1048 t1051 _ ?side1 ?side2 ?side3 ?side4 ?side5 ?side6 A72.out).mono ?_); (case side1 => repeat (first | exact (Kd.R_reads' HO_1004000.out).2.2 | (with_reducible refine Kd.C_alloc ?_ _) | (with_reducible refine Kd.C_drewN ?_ _) | (with_reducible refine Kd.C_drew ?_))); (case side2 => exact (Kd.R_reads' HO_1004000.out).2.1); (case side3 => repeat (first | exact (Kd.V_reads' HO_1004001.out).2.2 | (with_reducible refine Kd.C_alloc ?_ _) | (with_reducible refine Kd.C_drewN ?_ _) | (with_reducible refine Kd.C_drew ?_))); (case side4 => exact (Kd.V_reads' HO_1004001.out).2.1); (case side5 => repeat (first | exact (Kd.R_reads' HO_15.out).2.2 | (with_reducible refine Kd.C_alloc ?_ _) | (with_reducible refine Kd.C_drewN ?_ _) | (with_reducible refine Kd.C_drew ?_))); (case side6 => exact (Kd.R_reads' HO_15.out).2.1); rintro e w125 ⟨v1049, rfl, ho0, hb⟩; refine ⟨_, rfl, ?_⟩; replace HO_1004000 := Aside0.mk (Kd.R_below (uf1_ HO_1004000) hb); replace HO_1004001 := Aside0.mk (Kd.V_elder' (uf5_ HO_1004001) (Kd.R_base ho0) hb); have HO1050 := Aside0.mk (Kd.R_lower (Kd.R_new' (Kd.R_new' (Kd.R_new' (Kd.R_new' (Kd.R_new' ho0 (Kd.R_lt (uf1_ HO_6))) (Kd.R_lt (uf1_ HO_7))) (Kd.R_lt (uf1_ HO_11))) (Kd.R_lt (uf1_ HO_13))) (Kd.R_lt (uf1_ HO_15))) (below_size (qz9_))); replace HO_6 := Aside0.mk (Kd.R_elder' (uf1_ HO_6) (Kd.R_base ho0) hb); replace HO_7 := Aside0.mk (Kd.R_elder' (uf1_ HO_7) (Kd.R_base ho0) hb); replace HO_11 := Aside0.mk (Kd.R_elder' (uf1_ HO_11) (Kd.R_base ho0) hb); replace HO_13 := Aside0.mk (Kd.R_elder' (uf1_ HO_13) (Kd.R_base ho0) hb); replace HO_15 := Aside0.mk (Kd.R_elder' (uf1_ HO_15) (Kd.R_base ho0) hb); replace BK1003 := bb_ BK1003 hb; replace HB := Aside0.mk (below_step (qz9_) hb); (try clear hb); (try clear hk hi); (try clear ho0); obtain ⟨hcz126_0, hcz126_1, hfz126_0, hfz126_1⟩ := blk2_ BK1003; obtain ⟨Ao127, co127, eo127⟩ := Kd.R_slice HO_7.out; subst eo127) | ((with_reducible refine gate_callee (f := 24) rfl ?_); refine goesL_ (some 119) rfl rfl Try.func24 k_ rfl #[.agg #[.slice Ao12 t994.length co12, .slice Ao14 t997.length co14], .slice Ao127 t1004.length co127] rfl (g2_) ?_; (with_reducible refine (impl_PaysOk.calls k3 _ _ t994 _ _ t997 _ _ t1004 true _ ?side1 ?side2 ?side3 ?side4 ?side5 ?side6 A73.out).mono ?_); (case side1 => repeat (first | exact (Kd.R_reads' HO_1004000.out).2.2 | (with_reducible refine Kd.C_alloc ?_ _) | (with_reducible refine Kd.C_drewN ?_ _) | (with_reducible refine Kd.C_drew ?_))); (case side2 => exact (Kd.R_reads' HO_1004000.out).2.1); (case side3 => repeat (first | exact (Kd.V_reads' HO_1004001.out).2.2 | (with_reducible refine Kd.C_alloc ?_ _) | (with_reducible refine Kd.C_drewN ?_ _) | (with_reducible refine Kd.C_drew ?_))); (case side4 => exact (Kd.V_reads' HO_1004001.out).2.1); (case side5 => repeat (first | exact (Kd.R_reads' HO_7.out).2.2 | (with_reducible refine Kd.C_alloc ?_ _) | (with_reducible refine Kd.C_drewN ?_ _) | (with_reducible refine Kd.C_drew ?_))); (case side6 => exact (Kd.R_reads' HO_7.out).2.1); rintro e w128 ⟨rfl, hb⟩; refine ⟨_, rfl, ?_⟩; replace HO_6 := Aside0.mk (Kd.R_below (uf1_ HO_6) hb); replace HO_7 := Aside0.mk (Kd.R_below (uf1_ HO_7) hb); replace HO_11 := Aside0.mk (Kd.R_below (uf1_ HO_11) hb); replace HO_13 := Aside0.mk (Kd.R_below (uf1_ HO_13) hb); replace HO_15 := Aside0.mk (Kd.R_below (uf1_ HO_15) hb); replace HO_1004000 := Aside0.mk (Kd.R_below (uf1_ HO_1004000) hb); replace HO_1004001 := Aside0.mk (Kd.V_below (uf5_ HO_1004001) hb); replace HO1050 := Aside0.mk (Kd.R_below (uf1_ HO1050) hb); replace BK1003 := bb_ BK1003 hb; replace HB := Aside0.mk (below_step (qz9_) hb); (try clear hb); (try clear hk hi); obtain ⟨Ao129, co129, eo129⟩ := Kd.R_slice HO_11.out; subst eo129) | (go_at_call 49; (with_reducible refine (laws_belowPays.calls k3 _ _ t1004 _ _ t1017 false _ ?side1 ?side2 ?side3 ?side4 A76.out).mono ?_); (case side1 => repeat (first | exact (Kd.R_reads' HO_7.out).2.2 | (with_reducible refine Kd.C_alloc ?_ _) | (with_reducible refine Kd.C_drewN ?_ _) | (with_reducible refine Kd.C_drew ?_))); (case side2 => exact (Kd.R_reads' HO_7.out).2.1); (case side3 => repeat (first | exact (Kd.R_reads' HO_11.out).2.2 | (with_reducible refine Kd.C_alloc ?_ _) | (with_reducible refine Kd.C_drewN ?_ _) | (with_reducible refine Kd.C_drew ?_))); (case side4 => exact (Kd.R_reads' HO_11.out).2.1); rintro e w130 ⟨rfl, hb⟩; replace HO_6 := Aside0.mk (Kd.R_below (uf1_ HO_6) hb); replace HO_7 := Aside0.mk (Kd.R_below (uf1_ HO_7) hb); replace HO_11 := Aside0.mk (Kd.R_below (uf1_ HO_11) hb); replace HO_13 := Aside0.mk (Kd.R_below (uf1_ HO_13) hb); replace HO_15 := Aside0.mk (Kd.R_below (uf1_ HO_15) hb); replace HO_1004000 := Aside0.mk (Kd.R_below (uf1_ HO_1004000) hb); replace HO_1004001 := Aside0.mk (Kd.V_below (uf5_ HO_1004001) hb); replace HO1050 := Aside0.mk (Kd.R_below (uf1_ HO1050) hb); replace BK1003 := bb_ BK1003 hb; replace HB := Aside0.mk (below_step (qz9_) hb); (try clear hb); (try clear hk hi)))
              go_ret
              exact ⟨g4_, qz9_⟩
            ·replace c75 := Bool.eq_false_iff.mpr c75
             subst c75
             replace H := ifn_ H
             obtain rfl := Option.some.inj H
             obtain ⟨hcz131_0, hcz131_1, hfz131_0, hfz131_1⟩ := blk2_ BK1003
             obtain ⟨Ao132, co132, eo132⟩ := Kd.R_slice HO_15.out
             subst eo132
             go_wp2_with (first | ((with_reducible refine gate_callee (f := 46) rfl ?_); refine goesL_ (some 114) rfl rfl Try.func46 k_ rfl #[.agg #[.slice Ao12 t994.length co12, .slice Ao14 t997.length co14], .slice Ao132 x15_3.length co132] rfl (g2_) ?_; (with_reducible refine (impl_LeadsTo.calls k3 _ _ t994 _ _ t997 _ _ x15_3 t1048 t1051 _ ?side1 ?side2 ?side3 ?side4 ?side5 ?side6 A72.out).mono ?_); (case side1 => repeat (first | exact (Kd.R_reads' HO_1004000.out).2.2 | (with_reducible refine Kd.C_alloc ?_ _) | (with_reducible refine Kd.C_drewN ?_ _) | (with_reducible refine Kd.C_drew ?_))); (case side2 => exact (Kd.R_reads' HO_1004000.out).2.1); (case side3 => repeat (first | exact (Kd.V_reads' HO_1004001.out).2.2 | (with_reducible refine Kd.C_alloc ?_ _) | (with_reducible refine Kd.C_drewN ?_ _) | (with_reducible refine Kd.C_drew ?_))); (case side4 => exact (Kd.V_reads' HO_1004001.out).2.1); (case side5 => repeat (first | exact (Kd.R_reads' HO_15.out).2.2 | (with_reducible refine Kd.C_alloc ?_ _) | (with_reducible refine Kd.C_drewN ?_ _) | (with_reducible refine Kd.C_drew ?_))); (case side6 => exact (Kd.R_reads' HO_15.out).2.1); rintro e w133 ⟨v1049, rfl, ho0, hb⟩; refine ⟨_, rfl, ?_⟩; replace HO_1004000 := Aside0.mk (Kd.R_below (uf1_ HO_1004000) hb); replace HO_1004001 := Aside0.mk (Kd.V_elder' (uf5_ HO_1004001) (Kd.R_base ho0) hb); have HO1050 := Aside0.mk (Kd.R_lower (Kd.R_new' (Kd.R_new' (Kd.R_new' (Kd.R_new' (Kd.R_new' ho0 (Kd.R_lt (uf1_ HO_6))) (Kd.R_lt (uf1_ HO_7))) (Kd.R_lt (uf1_ HO_11))) (Kd.R_lt (uf1_ HO_13))) (Kd.R_lt (uf1_ HO_15))) (below_size (qz9_))); replace HO_6 := Aside0.mk (Kd.R_elder' (uf1_ HO_6) (Kd.R_base ho0) hb); replace HO_7 := Aside0.mk (Kd.R_elder' (uf1_ HO_7) (Kd.R_base ho0) hb); replace HO_11 := Aside0.mk (Kd.R_elder' (uf1_ HO_11) (Kd.R_base ho0) hb); replace HO_13 := Aside0.mk (Kd.R_elder' (uf1_ HO_13) (Kd.R_base ho0) hb); replace HO_15 := Aside0.mk (Kd.R_elder' (uf1_ HO_15) (Kd.R_base ho0) hb); replace BK1003 := bb_ BK1003 hb; replace HB := Aside0.mk (below_step (qz9_) hb); (try clear hb); (try clear hk hi); (try clear ho0); obtain ⟨hcz134_0, hcz134_1, hfz134_0, hfz134_1⟩ := blk2_ BK1003; obtain ⟨Ao135, co135, eo135⟩ := Kd.R_slice HO_7.out; subst eo135) | ((with_reducible refine gate_callee (f := 24) rfl ?_); refine goesL_ (some 119) rfl rfl Try.func24 k_ rfl #[.agg #[.slice Ao12 t994.length co12, .slice Ao14 t997.length co14], .slice Ao135 t1004.length co135] rfl (g2_) ?_; (with_reducible refine (impl_PaysOk.calls k3 _ _ t994 _ _ t997 _ _ t1004 true _ ?side1 ?side2 ?side3 ?side4 ?side5 ?side6 A73.out).mono ?_); (case side1 => repeat (first | exact (Kd.R_reads' HO_1004000.out).2.2 | (with_reducible refine Kd.C_alloc ?_ _) | (with_reducible refine Kd.C_drewN ?_ _) | (with_reducible refine Kd.C_drew ?_))); (case side2 => exact (Kd.R_reads' HO_1004000.out).2.1); (case side3 => repeat (first | exact (Kd.V_reads' HO_1004001.out).2.2 | (with_reducible refine Kd.C_alloc ?_ _) | (with_reducible refine Kd.C_drewN ?_ _) | (with_reducible refine Kd.C_drew ?_))); (case side4 => exact (Kd.V_reads' HO_1004001.out).2.1); (case side5 => repeat (first | exact (Kd.R_reads' HO_7.out).2.2 | (with_reducible refine Kd.C_alloc ?_ _) | (with_reducible refine Kd.C_drewN ?_ _) | (with_reducible refine Kd.C_drew ?_))); (case side6 => exact (Kd.R_reads' HO_7.out).2.1); rintro e w136 ⟨rfl, hb⟩; refine ⟨_, rfl, ?_⟩; replace HO_6 := Aside0.mk (Kd.R_below (uf1_ HO_6) hb); replace HO_7 := Aside0.mk (Kd.R_below (uf1_ HO_7) hb); replace HO_11 := Aside0.mk (Kd.R_below (uf1_ HO_11) hb); replace HO_13 := Aside0.mk (Kd.R_below (uf1_ HO_13) hb); replace HO_15 := Aside0.mk (Kd.R_below (uf1_ HO_15) hb); replace HO_1004000 := Aside0.mk (Kd.R_below (uf1_ HO_1004000) hb); replace HO_1004001 := Aside0.mk (Kd.V_below (uf5_ HO_1004001) hb); replace HO1050 := Aside0.mk (Kd.R_below (uf1_ HO1050) hb); replace BK1003 := bb_ BK1003 hb; replace HB := Aside0.mk (below_step (qz9_) hb); (try clear hb); (try clear hk hi)))
             go_ret
             exact ⟨g4_, qz9_⟩
           ·replace c74 := Bool.eq_false_iff.mpr c74
            subst c74
            replace H := ifn_ H
            obtain rfl := Option.some.inj H
            obtain ⟨hcz137_0, hcz137_1, hfz137_0, hfz137_1⟩ := blk2_ BK1003
            obtain ⟨Ao138, co138, eo138⟩ := Kd.R_slice HO_15.out
            subst eo138
            go_wp2_with (first | ((with_reducible refine gate_callee (f := 46) rfl ?_); refine goesL_ (some 114) rfl rfl Try.func46 k_ rfl #[.agg #[.slice Ao12 t994.length co12, .slice Ao14 t997.length co14], .slice Ao138 x15_3.length co138] rfl (g2_) ?_; (with_reducible refine (impl_LeadsTo.calls k3 _ _ t994 _ _ t997 _ _ x15_3 t1048 t1051 _ ?side1 ?side2 ?side3 ?side4 ?side5 ?side6 A72.out).mono ?_); (case side1 => repeat (first | exact (Kd.R_reads' HO_1004000.out).2.2 | (with_reducible refine Kd.C_alloc ?_ _) | (with_reducible refine Kd.C_drewN ?_ _) | (with_reducible refine Kd.C_drew ?_))); (case side2 => exact (Kd.R_reads' HO_1004000.out).2.1); (case side3 => repeat (first | exact (Kd.V_reads' HO_1004001.out).2.2 | (with_reducible refine Kd.C_alloc ?_ _) | (with_reducible refine Kd.C_drewN ?_ _) | (with_reducible refine Kd.C_drew ?_))); (case side4 => exact (Kd.V_reads' HO_1004001.out).2.1); (case side5 => repeat (first | exact (Kd.R_reads' HO_15.out).2.2 | (with_reducible refine Kd.C_alloc ?_ _) | (with_reducible refine Kd.C_drewN ?_ _) | (with_reducible refine Kd.C_drew ?_))); (case side6 => exact (Kd.R_reads' HO_15.out).2.1); rintro e w139 ⟨v1049, rfl, ho0, hb⟩; refine ⟨_, rfl, ?_⟩; replace HO_1004000 := Aside0.mk (Kd.R_below (uf1_ HO_1004000) hb); replace HO_1004001 := Aside0.mk (Kd.V_elder' (uf5_ HO_1004001) (Kd.R_base ho0) hb); have HO1050 := Aside0.mk (Kd.R_lower (Kd.R_new' (Kd.R_new' (Kd.R_new' (Kd.R_new' (Kd.R_new' ho0 (Kd.R_lt (uf1_ HO_6))) (Kd.R_lt (uf1_ HO_7))) (Kd.R_lt (uf1_ HO_11))) (Kd.R_lt (uf1_ HO_13))) (Kd.R_lt (uf1_ HO_15))) (below_size (qz9_))); replace HO_6 := Aside0.mk (Kd.R_elder' (uf1_ HO_6) (Kd.R_base ho0) hb); replace HO_7 := Aside0.mk (Kd.R_elder' (uf1_ HO_7) (Kd.R_base ho0) hb); replace HO_11 := Aside0.mk (Kd.R_elder' (uf1_ HO_11) (Kd.R_base ho0) hb); replace HO_13 := Aside0.mk (Kd.R_elder' (uf1_ HO_13) (Kd.R_base ho0) hb); replace HO_15 := Aside0.mk (Kd.R_elder' (uf1_ HO_15) (Kd.R_base ho0) hb); replace BK1003 := bb_ BK1003 hb; replace HB := Aside0.mk (below_step (qz9_) hb); (try clear hb); (try clear hk hi); (try clear ho0); obtain ⟨hcz140_0, hcz140_1, hfz140_0, hfz140_1⟩ := blk2_ BK1003; obtain ⟨Ao141, co141, eo141⟩ := Kd.R_slice HO_7.out; subst eo141) | ((with_reducible refine gate_callee (f := 24) rfl ?_); refine goesL_ (some 119) rfl rfl Try.func24 k_ rfl #[.agg #[.slice Ao12 t994.length co12, .slice Ao14 t997.length co14], .slice Ao141 t1004.length co141] rfl (g2_) ?_; (with_reducible refine (impl_PaysOk.calls k3 _ _ t994 _ _ t997 _ _ t1004 false _ ?side1 ?side2 ?side3 ?side4 ?side5 ?side6 A73.out).mono ?_); (case side1 => repeat (first | exact (Kd.R_reads' HO_1004000.out).2.2 | (with_reducible refine Kd.C_alloc ?_ _) | (with_reducible refine Kd.C_drewN ?_ _) | (with_reducible refine Kd.C_drew ?_))); (case side2 => exact (Kd.R_reads' HO_1004000.out).2.1); (case side3 => repeat (first | exact (Kd.V_reads' HO_1004001.out).2.2 | (with_reducible refine Kd.C_alloc ?_ _) | (with_reducible refine Kd.C_drewN ?_ _) | (with_reducible refine Kd.C_drew ?_))); (case side4 => exact (Kd.V_reads' HO_1004001.out).2.1); (case side5 => repeat (first | exact (Kd.R_reads' HO_7.out).2.2 | (with_reducible refine Kd.C_alloc ?_ _) | (with_reducible refine Kd.C_drewN ?_ _) | (with_reducible refine Kd.C_drew ?_))); (case side6 => exact (Kd.R_reads' HO_7.out).2.1); rintro e w142 ⟨rfl, hb⟩; refine ⟨_, rfl, ?_⟩; replace HO_6 := Aside0.mk (Kd.R_below (uf1_ HO_6) hb); replace HO_7 := Aside0.mk (Kd.R_below (uf1_ HO_7) hb); replace HO_11 := Aside0.mk (Kd.R_below (uf1_ HO_11) hb); replace HO_13 := Aside0.mk (Kd.R_below (uf1_ HO_13) hb); replace HO_15 := Aside0.mk (Kd.R_below (uf1_ HO_15) hb); replace HO_1004000 := Aside0.mk (Kd.R_below (uf1_ HO_1004000) hb); replace HO_1004001 := Aside0.mk (Kd.V_below (uf5_ HO_1004001) hb); replace HO1050 := Aside0.mk (Kd.R_below (uf1_ HO1050) hb); replace BK1003 := bb_ BK1003 hb; replace HB := Aside0.mk (below_step (qz9_) hb); (try clear hb); (try clear hk hi)))
            go_ret
            exact ⟨g4_, qz9_⟩
       ·replace c26 := Bool.eq_false_iff.mpr c26
        subst c26
        replace H := ifn_ H
        by_cases c143 : (t1004.length : Int) = 0
        ·rw [if_pos c143] at H
         have c143b0 : ((t1004.length : Int) == 0) = true := beq_iff_eq.mpr c143
         have c143b1 : ((t1004.length : Int) != 0) = false := bne_eq_false_iff_eq.mpr c143
         clear c143
         obtain ⟨t1013, A144, H⟩ := bind_ H
         obtain rfl := Option.some.inj H
         obtain ⟨Ao145, co145, eo145⟩ := Kd.R_slice HO_7.out
         subst eo145
         go_wp2_with (first | (go_at_call 17; (with_reducible refine (laws_alive.calls kj8  t1013 _ A144.out).mono ?_); rintro e w146 ⟨rfl, hb⟩; replace HO_6 := Aside0.mk (Kd.R_below (uf1_ HO_6) hb); replace HO_7 := Aside0.mk (Kd.R_below (uf1_ HO_7) hb); replace HO_1004000 := Aside0.mk (Kd.R_below (uf1_ HO_1004000) hb); replace HO_1004001 := Aside0.mk (Kd.V_below (uf5_ HO_1004001) hb); replace BK1003 := bb_ BK1003 hb; replace HB := Aside0.mk (below_step (qz9_) hb); (try clear hb); (try clear hk hi)))
         go_ret
         exact ⟨g4_, qz9_⟩
        ·rw [if_neg c143] at H
         have c143b0 : ((t1004.length : Int) == 0) = false := beq_eq_false_iff_ne.mpr c143
         have c143b1 : ((t1004.length : Int) != 0) = true := bne_iff_ne.mpr c143
         have c143b2 : ¬ (t1004 = []) := fun h_ => c143 (g46_)
         obtain rfl := Option.some.inj H
         obtain ⟨Ao147, co147, eo147⟩ := Kd.R_slice HO_7.out
         subst eo147
         go_wp2
         go_ret
         exact ⟨g4_, qz9_⟩
def laws_FnLeadsTo.Pure : Prop := ∀ (l0 : List Int) (l1 : List Int), l0.length ≤ maxLen → l0.length * 1 ≤ 140737488351232 → (∀ x ∈ l0, (Lit.int .u8 x).wf = true) → l1.length ≤ maxLen → l1.length * 1 ≤ 140737488351232 → (∀ x ∈ l1, (Lit.int .u8 x).wf = true) → ∃ k, laws_FnLeadsTo.f k l0 l1 = some true
theorem laws_FnLeadsTo.walk (P : laws_FnLeadsTo.Pure) (a0 : Option Addr) (len0 cap0 : Nat) (z0 : List Int) (a1 : Option Addr) (len1 cap1 : Nat) (z1 : List Int) (w : World) (w0 : (a0 = none ∧ len0 = 0 ∧ cap0 = 0 ∧ z0 = []) ∨ ∃ x, a0 = some x ∧ len0 ≤ cap0 ∧ cap0 ≤ maxLen ∧ z0.length = cap0 ∧ (∀ i, i < z0.length → w.cell? (x.add i) = some (.int .u8 (z0.getD i 0))) ∧ ∀ n ∈ z0, (Lit.int .u8 n).wf = true) (y0 : len0 * 1 ≤ 140737488351232) (w1 : (a1 = none ∧ len1 = 0 ∧ cap1 = 0 ∧ z1 = []) ∨ ∃ x, a1 = some x ∧ len1 ≤ cap1 ∧ cap1 ≤ maxLen ∧ z1.length = cap1 ∧ (∀ i, i < z1.length → w.cell? (x.add i) = some (.int .u8 (z1.getD i 0))) ∧ ∀ n ∈ z1, (Lit.int .u8 n).wf = true) (y1 : len1 * 1 ≤ 140737488351232) :
  Calls Try.prog 10 #[.slice a0 len0 cap0, .slice a1 len1 cap1] w fun e w' => e = .returned (.bool true) ∧ Below w.heap.size w w' := by
 obtain ⟨l0, rfl, hr0, hm0, hw0, hc0⟩ := ReadsInt.ofRowC w0
 obtain ⟨l1, rfl, hr1, hm1, hw1, hc1⟩ := ReadsInt.ofRowC w1
 obtain ⟨k, h⟩ := P l0 l1 hm0 y0 hw0 hm1 y1 hw1
 refine (laws_FnLeadsTo.calls k _ _ l0 _ _ l1 true w (Kd.C_of_reads (d := (0 : Int)) (h1 := fun _ => rfl) hr0) hc0 (Kd.C_of_reads (d := (0 : Int)) (h1 := fun _ => rfl) hr1) hc1 h).mono ?_
 rintro e w' ⟨rfl, hd⟩
 exact ⟨rfl, hd⟩
end Go.Proofs.Ytigpmfoagkhaeaa.PU
namespace Go.Proofs.Ytigpmfoagkhaeaa.Qh
open Go.RowKit Go.Proofs.YtigpmfoagkhaeaaW.PrintWords Go.Proofs.YtigpmfoagkhaeaaW.PrintMore
set_option linter.unusedVariables false
set_option linter.unusedSimpArgs false
theorem w64 {n : Int} (h1 : -9223372036854775808 ≤ n) (h2 : n ≤ 9223372036854775807) : wrap64 n = n := by unfold wrap64; omega
theorem wsucc {i n : Nat} (h : i < n) (hn : n ≤ 4611686018427387904) : wrap64 ((i : Int) + 1) = ((i + 1 : Nat) : Int) := by unfold wrap64; omega
section
variable {α β : Type} {r : α}
theorem evPos {c : Prop} [Decidable c] {g f : Nat → Option α} (h : c) (k : Ev g r) : Ev (fun n => if c then g n else f n) r := by
  simp only [if_pos h]; exact k
theorem evNeg {c : Prop} [Decidable c] {g f : Nat → Option α} (h : ¬ c) (k : Ev f r) : Ev (fun n => if c then g n else f n) r := by
  simp only [if_neg h]; exact k
theorem evBind0 {g : Option β} {f : Nat → β → Option α} {a : β} (h : g = some a) (k : Ev (fun n => f n a) r) : Ev (fun n => g.bind (f n)) r := by
  subst h; exact k
theorem evEq {g : Nat → Option α} {q : α} (h : Ev g q) (e : q = r) : Ev g r := e ▸ h
end
theorem rd_get (xs : List Int) (i : Nat) (h : i < xs.length) : rd xs (i : Int) = xs[i] := by
  simp [rd, List.getD_eq_getElem?_getD, List.getElem?_eq_getElem h]
theorem drop_of {α : Type} (xs : List α) (d : α) (i : Nat) (h : i < xs.length) : xs.drop i = xs.getD i d :: xs.drop (i + 1) := by
  rw [List.drop_eq_getElem_cons h]; simp [List.getD_eq_getElem?_getD, List.getElem?_eq_getElem h]
theorem getD_set {α : Type} (xs : List α) (d v : α) (i j : Nat) (h : i < xs.length) : (xs.set i v).getD j d = if i = j then v else xs.getD j d := by
  simp only [List.getD_eq_getElem?_getD, List.getElem?_set]
  by_cases e : i = j
  · subst e; simp [h]
  · simp [e]
theorem getD_mem {α : Type} (d : α) (xs : List α) (i : Nat) (h : i < xs.length) : xs.getD i d ∈ xs := by
  simp [List.getD_eq_getElem?_getD, List.getElem?_eq_getElem h]
def EvB (g : Nat → Option Bool) (p : Prop) : Prop := ∃ b, (b = true ↔ p) ∧ Ev g b
section
variable {g f : Nat → Option Bool} {p q : Prop}
theorem EvB.congr (h : EvB g p) (e : p ↔ q) : EvB g q := by obtain ⟨b, h1, h2⟩ := h; exact ⟨b, h1.trans e, h2⟩
theorem EvB.tt (h : p) : EvB (fun _ => some true) p := ⟨true, by simp [h], Ev.now _⟩
theorem EvB.ff (h : ¬ p) : EvB (fun _ => some false) p := ⟨false, by simp [h], Ev.now _⟩
theorem EvB.pos {c : Prop} [Decidable c] (h : c) (k : EvB g p) : EvB (fun n => if c then g n else f n) p := by obtain ⟨b, h1, h2⟩ := k; exact ⟨b, h1, evPos h h2⟩
theorem EvB.neg {c : Prop} [Decidable c] (h : ¬ c) (k : EvB f p) : EvB (fun n => if c then g n else f n) p := by obtain ⟨b, h1, h2⟩ := k; exact ⟨b, h1, evNeg h h2⟩
theorem EvB.step {g f : Nat → Option Bool} (h : ∀ k, g (k + 1) = f k) (k : EvB f p) : EvB g p := by obtain ⟨b, h1, h2⟩ := k; exact ⟨b, h1, Ev.step h h2⟩
theorem EvB.bind {β : Type} {g : Nat → Option β} {f : Nat → β → Option Bool} {a : β} (h : Ev g a) (k : EvB (fun n => f n a) p) : EvB (fun n => (g n).bind (f n)) p := by obtain ⟨b, h1, h2⟩ := k; exact ⟨b, h1, Ev.bind h h2⟩
theorem EvB.bind0 {β : Type} {g : Option β} {f : Nat → β → Option Bool} {a : β} (h : g = some a) (k : EvB (fun n => f n a) p) : EvB (fun n => g.bind (f n)) p := by obtain ⟨b, h1, h2⟩ := k; exact ⟨b, h1, evBind0 h h2⟩
theorem EvB.yes (h : EvB g p) (hp : p) : Ev g true := by obtain ⟨b, h1, h2⟩ := h; rw [h1.2 hp] at h2; exact h2
theorem EvB.no (h : EvB g p) (hp : ¬ p) : Ev g false := by
  obtain ⟨b, h1, h2⟩ := h
  have : b = false := by cases b with
    | true => exact absurd (h1.1 rfl) hp
    | false => rfl
  rw [this] at h2; exact h2
end
end Go.Proofs.Ytigpmfoagkhaeaa.Qh
namespace Go.Proofs.Ytigpmfoagkhaeaa.Dr
open Go.RowKit Go.Proofs.Ytigpmfoagkhaeaa.PU Go.Proofs.Ytigpmfoagkhaeaa.Qh Go.Proofs.YtigpmfoagkhaeaaW.PrintWords Go.Proofs.YtigpmfoagkhaeaaW.PrintMore
set_option linter.unusedVariables false
set_option linter.unusedSimpArgs false
theorem xor_nonneg (a b : Int) (ha : 0 ≤ a) (ha2 : a < 4611686018427387904) (hb : 0 ≤ b) (hb2 : b < 4611686018427387904) : 0 ≤ Go.bits .xor .i64 a b := by
  obtain ⟨m, rfl⟩ := Int.eq_ofNat_of_zero_le ha
  obtain ⟨n, rfl⟩ := Int.eq_ofNat_of_zero_le hb
  have hm : m < 2 ^ 62 := by omega
  have hn : n < 2 ^ 62 := by omega
  have hx : m ^^^ n < 2 ^ 62 := Nat.xor_lt_two_pow hm hn
  have e1 : m % 2 ^ 64 = m := Nat.mod_eq_of_lt (by omega)
  have e2 : n % 2 ^ 64 = n := Nat.mod_eq_of_lt (by omega)
  have : Go.bits .xor .i64 (m : Int) (n : Int) = ((m ^^^ n : Nat) : Int) := by
    simp only [Go.bits, BitVec.ofInt_natCast, BitVec.toNat_xor, BitVec.toNat_ofNat]
    show IntKind.i64.wrap (((m % 2 ^ 64) ^^^ (n % 2 ^ 64) : Nat) : Int) = _
    rw [e1, e2, IntKind.wrap_i64]
    omega
  rw [this]
  omega
def Bytes (b : List Int) : Prop := b.length ≤ 2000 ∧ ∀ x ∈ b, 0 ≤ x ∧ x ≤ 255
theorem rd_byte {b : List Int} (h : Bytes b) (i : Int) : 0 ≤ rd b i ∧ rd b i ≤ 255 := by
  unfold rd
  by_cases hi : i.toNat < b.length
  · exact h.2 _ (getD_mem 0 b _ hi)
  · simp [List.getD_eq_getElem?_getD, List.getElem?_eq_none (by omega : b.length ≤ i.toNat)]
theorem pick {b : List Int} (hb : Bytes b) (p n : Int) (h0 : 0 ≤ p) (h1 : p ≤ 1000000000) :
    ∃ v, 0 ≤ v ∧ (1 ≤ n → v < n) ∧ (n < 1 → v = 0) ∧ Ev (fun k => spec_l20Rd_pick.f k b p n) (v, p + 1) := by
  have hp : wrap64 (p + 1) = p + 1 := w64 (by omega) (by omega)
  have hp1 : wrap64 (p + 1 - 1) = p := by rw [w64 (by omega) (by omega)]; omega
  unfold spec_l20Rd_pick.f
  rw [hp]
  by_cases hn : n < 1
  · refine ⟨0, by omega, by omega, fun _ => rfl, evPos hn ?_⟩
    refine Ev.step (fun k => by rw [spec_l20Rd_pick.j0]) ?_
    exact evPos rfl (Ev.now _)
  by_cases hz : b.length = 0
  · refine ⟨0, by omega, by omega, fun h => absurd h hn, evNeg hn ?_⟩
    refine Ev.step (fun k => by rw [spec_l20Rd_pick.j0]) ?_
    exact evPos (by simp [hz]) (Ev.now _)
  have hlen : 0 < (b.length : Int) := by omega
  by_cases hlt : p < (b.length : Int)
  · have hr := rd_byte hb p
    refine ⟨Int.tmod (rd b p) n, Int.tmod_nonneg _ hr.1, fun _ => Int.tmod_lt_of_pos _ (by omega), fun h => absurd h hn, evNeg hn ?_⟩
    refine Ev.step (fun k => by rw [spec_l20Rd_pick.j0]) ?_
    rw [hp1]
    refine evNeg (fun h => by have := beq_iff_eq.mp h; omega) (evPos hlt (evPos h0 (evNeg (by omega) ?_)))
    rw [w64 (by omega) (by omega)]
    exact Ev.now _
  · have hp7 : wrap64 (p * 7) = p * 7 := w64 (by omega) (by omega)
    have hp73 : wrap64 (p * 7 + 3) = p * 7 + 3 := w64 (by omega) (by omega)
    have hp29 : wrap64 (p * 29) = p * 29 := w64 (by omega) (by omega)
    have i1 := Int.tmod_nonneg (b.length : Int) h0
    have i2 := Int.tmod_lt_of_pos p hlen
    have j1 := Int.tmod_nonneg (b.length : Int) (show 0 ≤ p * 7 + 3 by omega)
    have j2 := Int.tmod_lt_of_pos (p * 7 + 3) hlen
    have d1 : 0 ≤ Int.tdiv p (b.length : Int) := Int.tdiv_nonneg h0 (by omega)
    have d2 : Int.tdiv p (b.length : Int) ≤ p := Int.tdiv_le_self _ h0
    have r1 := rd_byte hb (Int.tmod p (b.length : Int))
    have r2 := rd_byte hb (Int.tmod (p * 7 + 3) (b.length : Int))
    have key : ∃ x, 0 ≤ x ∧ x < 4611686018427387904 ∧ wrap64 ((wrap64 ((wrap64 ((wrap64 ((wrap64 (rd b (Int.tmod p (b.length : Int)))) * 131)) + (wrap64 ((wrap64 (rd b (Int.tmod (p * 7 + 3) (b.length : Int)))) * 1117)))) + (p * 29))) + (wrap64 ((wrap64 (Int.tdiv p (b.length : Int))) * 53))) = x := by
      generalize rd b (Int.tmod p (b.length : Int)) = u at *
      generalize rd b (Int.tmod (p * 7 + 3) (b.length : Int)) = v at *
      generalize Int.tdiv p (b.length : Int) = d at *
      have e1 : wrap64 u = u := w64 (by omega) (by omega)
      have e2 : wrap64 v = v := w64 (by omega) (by omega)
      have e3 : wrap64 d = d := w64 (by omega) (by omega)
      have e4 : wrap64 (u * 131) = u * 131 := w64 (by omega) (by omega)
      have e5 : wrap64 (v * 1117) = v * 1117 := w64 (by omega) (by omega)
      have e6 : wrap64 (d * 53) = d * 53 := w64 (by omega) (by omega)
      have e7 : wrap64 (u * 131 + v * 1117) = u * 131 + v * 1117 := w64 (by omega) (by omega)
      have e8 : wrap64 (u * 131 + v * 1117 + p * 29) = u * 131 + v * 1117 + p * 29 := w64 (by omega) (by omega)
      refine ⟨u * 131 + v * 1117 + p * 29 + d * 53, by omega, by omega, ?_⟩
      rw [e1, e2, e3, e4, e5, e6, e7, e8]
      exact w64 (by omega) (by omega)
    obtain ⟨x, hx0, hx1, hx⟩ := key
    have t0 : 0 ≤ Int.tdiv x 64 := Int.tdiv_nonneg hx0 (by omega)
    have t1 : Int.tdiv x 64 ≤ x := Int.tdiv_le_self _ hx0
    have ht : wrap64 (Int.tdiv x 64) = Int.tdiv x 64 := w64 (by omega) (by omega)
    have hq := xor_nonneg x (Int.tdiv x 64) hx0 hx1 t0 (by omega)
    refine ⟨Int.tmod (Go.bits .xor .i64 x (Int.tdiv x 64)) n, Int.tmod_nonneg _ hq, fun _ => Int.tmod_lt_of_pos _ (by omega), fun h => absurd h hn, evNeg hn ?_⟩
    refine Ev.step (fun k => by rw [spec_l20Rd_pick.j0]) ?_
    rw [hp1, hp7, hp73, hp29, hx, ht]
    refine evNeg (fun h => by have := beq_iff_eq.mp h; omega) (evNeg hlt (evNeg (by omega) (evPos i1 (evPos i2 (evPos j1 (evPos j2 (evNeg (by omega) (Ev.now _))))))))
theorem open_ (l : List Int) (hu : ∀ x ∈ l, (Lit.int .u8 x).wf = true) : ∃ b, Bytes b ∧ spec_l20Open.f l = some (b, 0) := by
  have hb : ∀ x ∈ l, 0 ≤ x ∧ x ≤ 255 := fun x hx => by
    have := hu x hx
    simp [Lit.wf, IntKind.min, IntKind.max, IntKind.bits, IntKind.signed] at this
    omega
  unfold spec_l20Open.f
  by_cases h : (l.length : Int) > 2000
  · exact ⟨l.take 2000, ⟨by rw [List.length_take]; omega, fun x hx => hb x (List.mem_of_mem_take hx)⟩, by rw [if_pos h, if_pos (by omega)]⟩
  · exact ⟨l, ⟨by omega, hb⟩, by rw [if_neg h]⟩
end Go.Proofs.Ytigpmfoagkhaeaa.Dr
namespace Go.Proofs.Ytigpmfoagkhaeaa.Db
open Go.RowKit Go.Proofs.Ytigpmfoagkhaeaa.PU Go.Proofs.Ytigpmfoagkhaeaa.Qh Go.Proofs.Ytigpmfoagkhaeaa.Dr Go.Proofs.YtigpmfoagkhaeaaW.PrintWords Go.Proofs.YtigpmfoagkhaeaaW.PrintMore
set_option linter.unusedVariables false
set_option linter.unusedSimpArgs false
def EvX {α : Type} (g : Nat → Option α) (P : α → Prop) : Prop := ∃ r, P r ∧ Ev g r
section
variable {α β : Type} {P Q : α → Prop} {g f : Nat → Option α}
theorem EvX.imp (h : EvX g P) (k : ∀ r, P r → Q r) : EvX g Q := by obtain ⟨r, h1, h2⟩ := h; exact ⟨r, k r h1, h2⟩
theorem EvX.now {r : α} (h : P r) : EvX (fun _ => some r) P := ⟨r, h, Ev.now _⟩
theorem EvX.step {g f : Nat → Option α} (h : ∀ k, g (k + 1) = f k) (k : EvX f P) : EvX g P := by obtain ⟨r, h1, h2⟩ := k; exact ⟨r, h1, Ev.step h h2⟩
theorem EvX.pos {c : Prop} [Decidable c] (h : c) (k : EvX g P) : EvX (fun n => if c then g n else f n) P := by obtain ⟨r, h1, h2⟩ := k; exact ⟨r, h1, evPos h h2⟩
theorem EvX.neg {c : Prop} [Decidable c] (h : ¬ c) (k : EvX f P) : EvX (fun n => if c then g n else f n) P := by obtain ⟨r, h1, h2⟩ := k; exact ⟨r, h1, evNeg h h2⟩
theorem EvX.bind {g : Nat → Option β} {f : Nat → β → Option α} {a : β} (h : Ev g a) (k : EvX (fun n => f n a) P) : EvX (fun n => (g n).bind (f n)) P := by obtain ⟨r, h1, h2⟩ := k; exact ⟨r, h1, Ev.bind h h2⟩
theorem EvX.bind0 {g : Option β} {f : Nat → β → Option α} {a : β} (h : g = some a) (k : EvX (fun n => f n a) P) : EvX (fun n => g.bind (f n)) P := by obtain ⟨r, h1, h2⟩ := k; exact ⟨r, h1, evBind0 h h2⟩
end
theorem podd {b : List Int} (hb : Bytes b) (p n : Int) (hn : 1 ≤ n) (hn2 : n ≤ 1000) (h0 : 0 ≤ p) (h1 : p ≤ 1000000000) : ∃ v, Ev (fun k => spec_l20Rd_odd.f k b p n) (v, p + 1) := by
  obtain ⟨x, _, _, _, hx⟩ := pick hb p n h0 h1
  unfold spec_l20Rd_odd.f
  exact ⟨_, evPos (by omega) (Ev.bind hx (Ev.now _))⟩
def Sm (r : List Int × List (List Int) × Int) (p m : Int) : Prop := r.1.length ≤ 4 ∧ r.2.1.length ≤ 4 ∧ (∀ i : Nat, (rd_L2 r.2.1 (i : Int)).length ≤ 4) ∧ p ≤ r.2.2 ∧ r.2.2 ≤ p + m
theorem rL2 (xs : List (List Int)) (i : Nat) : rd_L2 xs (i : Int) = xs.getD i [] := rfl
theorem rows_set (ds : List (List Int)) (i : Nat) (v : List Int) (hv : v.length ≤ 4) (h : ∀ j : Nat, (rd_L2 ds (j : Int)).length ≤ 4) (j : Nat) : (rd_L2 (ds.set i v) (j : Int)).length ≤ 4 := by
  rw [rL2]
  by_cases hi : i < ds.length
  · rw [getD_set _ _ _ _ _ hi]
    by_cases e : i = j
    · rw [if_pos e]; exact hv
    · rw [if_neg e]; exact h j
  · rw [List.set_eq_of_length_le (by omega)]; exact h j
theorem rows_all (ds : List (List Int)) (m : Nat) (hm : m ≤ 4) (h : ∀ j : Nat, j < ds.length → (rd_L2 ds (j : Int)).length = m) (j : Nat) : (rd_L2 ds (j : Int)).length ≤ 4 := by
  by_cases hj : j < ds.length
  · rw [h j hj]; exact hm
  · rw [rL2]; simp [List.getD_eq_getElem?_getD, List.getElem?_eq_none (by omega : ds.length ≤ j)]
theorem bk_l1 {b : List Int} (hb : Bytes b) (n : Int) (m : Nat) (hm : m ≤ 4) (kind : Int) (i : Nat) (hi : i < m) (cs : List Int) (ds : List (List Int)) (hds : ds.length = i) (P : List Int × List (List Int) × Int → Prop) (p0 : Int) (hp0 : 0 ≤ p0) (hp1 : p0 ≤ 10000)
    (hR : ∀ (row : List Int) (p : Int), row.length = m → p0 ≤ p → p ≤ p0 + 2 * m → EvX (fun k => spec_l20Book.l0 k n (m : Int) kind ((i + 1 : Nat) : Int) b p cs (ds ++ [row])) P) :
    ∀ (e j : Nat) (row : List Int) (p : Int), m - j = e → j ≤ m → row.length = j → p0 ≤ p → p ≤ p0 + 2 * j →
    EvX (fun k => spec_l20Book.l1 k n (m : Int) kind (i : Int) row (j : Int) b p cs ds) P := by
  have hs : Aside0 (wrap64 ((i : Int) + 1) = ((i + 1 : Nat) : Int)) := ⟨wsucc hi (by omega)⟩
  intro e
  induction e with
  | zero =>
    intro j row p he hj hr h0 h1
    obtain rfl : j = m := by omega
    refine EvX.step (fun k => by rw [spec_l20Book.l1]) ?_
    rw [hs.out]
    exact EvX.neg (by omega) (EvX.pos (by omega) (hR row p hr h0 h1))
  | succ e ih =>
    intro j row p he hj hr h0 h1
    have hlt : j < m := by omega
    have hj1 : Aside0 (wrap64 ((j : Int) + 1) = ((j + 1 : Nat) : Int)) := ⟨wsucc hlt (by omega)⟩
    refine EvX.step (fun k => by rw [spec_l20Book.l1]) ?_
    rw [hj1.out]
    have hc : (j : Int) < (m : Int) := by clear ih hR; omega
    refine EvX.pos hc ?_
    have go : ∀ (v p' : Int), p0 ≤ p' → p' ≤ p0 + 2 * ((j + 1 : Nat) : Int) → EvX (fun k => if row.length < 17592186044416 then spec_l20Book.l1 k n (m : Int) kind (i : Int) (row ++ [v]) ((j + 1 : Nat) : Int) b p' cs ds else none) P := by
      intro v p' h2 h3
      have hl : row.length < 17592186044416 := by clear hj1 hs ih hR; omega
      have q1 : m - (j + 1) = e := by clear hj1 hs ih hR; omega
      have q2 : (row ++ [v]).length = j + 1 := by rw [List.length_append, hr]; rfl
      exact EvX.pos hl (ih (j + 1) (row ++ [v]) p' q1 hlt q2 h2 h3)
    by_cases hij : (i : Int) = (j : Int)
    · exact EvX.pos hij (go 0 p h0 (by omega))
    · refine EvX.neg hij ?_
      obtain ⟨v, _, _, _, hv⟩ := pick hb p 3 (by omega) (by omega)
      refine EvX.bind hv ?_
      by_cases h2 : v > 0
      · refine EvX.pos h2 ?_
        obtain ⟨v2, _, _, _, hv2⟩ := pick hb (p + 1) 10 (by omega) (by omega)
        exact EvX.bind hv2 (go v2 (p + 1 + 1) (by omega) (by omega))
      · exact EvX.neg h2 (go 0 (p + 1) (by omega) (by omega))
theorem bk_l0 {b : List Int} (hb : Bytes b) (n : Int) (hn : 1 ≤ n) (hn2 : n ≤ 1000) (m : Nat) (hm1 : 1 ≤ m) (hm : m ≤ 4) (kind : Int) (hk0 : 0 ≤ kind) (hk1 : kind < 3) : ∀ (e i : Nat) (cs : List Int) (ds : List (List Int)) (p : Int), m - i = e → i ≤ m →
    cs.length = i → ds.length = i → (∀ j : Nat, j < ds.length → (rd_L2 ds (j : Int)).length = m) → 0 ≤ p → p ≤ 100 + 10 * i →
    EvX (fun k => spec_l20Book.l0 k n (m : Int) kind (i : Int) b p cs ds) (fun r => Sm r p (10 * e + 2)) := by
  intro e
  induction e with
  | zero =>
    intro i cs ds p he hi hcs hds hrows h0 h1
    obtain rfl : i = m := by omega
    refine EvX.step (fun k => by rw [spec_l20Book.l0]) ?_
    refine EvX.neg (by omega) ?_
    obtain ⟨v, hv⟩ := podd hb p n hn hn2 h0 (by omega)
    refine EvX.bind hv ?_
    have hall := rows_all ds i hm hrows
    by_cases hvt : v = true
    · refine EvX.pos hvt ?_
      obtain ⟨w, hw0, hw1, _, hw⟩ := pick hb (p + 1) 4 (by omega) (by omega)
      refine EvX.bind hw ?_
      by_cases a : w = 0
      · exact EvX.pos a (EvX.now ⟨by simp, by simp, fun j => by simp [rL2], by show p ≤ p + 1 + 1; omega, by show p + 1 + 1 ≤ _; omega⟩)
      refine EvX.neg a ?_
      by_cases a1 : w = 1
      · refine EvX.pos a1 (EvX.pos (by omega) (EvX.now ⟨by simp; omega, by show ds.length ≤ 4; omega, hall, by show p ≤ p + 1 + 1; omega, by show p + 1 + 1 ≤ _; omega⟩))
      refine EvX.neg a1 ?_
      have r0 := hrows 0 (by omega)
      by_cases a2 : w = 2
      · refine EvX.pos a2 (EvX.pos (by omega) (EvX.pos (by rw [show (0 : Int) = ((0 : Nat) : Int) from rfl, r0]; omega) (EvX.now ⟨by show cs.length ≤ 4; omega, by simp; omega, ?_, by show p ≤ p + 1 + 1; omega, by show p + 1 + 1 ≤ _; omega⟩)))
        exact rows_set ds 0 _ (by rw [List.length_set]; exact hall 0) hall
      · have hw1 : Aside0 (wrap64 ((i : Int) - 1) = ((i - 1 : Nat) : Int)) := ⟨by rw [w64 (by omega) (by omega)]; omega⟩
        rw [hw1.out]
        have rl := hrows (i - 1) (by omega)
        refine EvX.neg a2 (EvX.pos (by omega) (EvX.pos (by omega) (EvX.pos (by rw [rl]; omega) (EvX.now ⟨by show cs.length ≤ 4; omega, by simp; omega, ?_, by show p ≤ p + 1 + 1; omega, by show p + 1 + 1 ≤ _; omega⟩))))
        rw [Int.toNat_natCast]
        exact rows_set ds (i - 1) _ (by rw [List.length_drop, rl]; omega) hall
    · exact EvX.neg hvt (EvX.now ⟨by show cs.length ≤ 4; omega, by show ds.length ≤ 4; omega, hall, by show p ≤ p + 1; omega, by show p + 1 ≤ _; omega⟩)
  | succ e ih =>
    intro i cs ds p he hi hcs hds hrows h0 h1
    have hlt : i < m := by omega
    refine EvX.step (fun k => by rw [spec_l20Book.l0]) ?_
    refine EvX.pos (by omega) ?_
    obtain ⟨v, _, _, _, hv⟩ := pick hb p 4 h0 (by omega)
    refine EvX.bind hv ?_
    obtain ⟨w, _, _, _, hw⟩ := pick hb (p + 1) 21 (by omega) (by omega)
    refine EvX.bind hw (EvX.bind0 rfl (EvX.pos hk0 (EvX.pos (by simp; omega) (EvX.pos (by omega) ?_))))
    refine bk_l1 hb n m hm kind i hlt _ ds hds _ (p + 1 + 1) (by omega) (by omega) ?_ _ 0 [] (p + 1 + 1) rfl (by omega) rfl (by omega) (by omega)
    intro row q hr hq0 hq1
    refine (ih (i + 1) _ (ds ++ [row]) q (by omega) (by omega) (by simp; omega) (by simp; omega) ?_ (by omega) (by omega)).imp ?_
    · intro j hj
      rw [rL2, List.getD_eq_getElem?_getD, List.getElem?_append]
      by_cases hjl : j < ds.length
      · rw [if_pos hjl]
        have := hrows j hjl
        rw [rL2, List.getD_eq_getElem?_getD] at this
        exact this
      · rw [if_neg hjl]
        have : j = ds.length := by simp at hj; omega
        subst this
        simpa using hr
    · intro r hr
      exact ⟨hr.1, hr.2.1, hr.2.2.1, by have := hr.2.2.2.1; omega, by have := hr.2.2.2.2; omega⟩
theorem book {b : List Int} (hb : Bytes b) (n : Int) (hn : 1 ≤ n) (hn2 : n ≤ 1000) (p : Int) (h0 : 0 ≤ p) (h1 : p ≤ 50) : EvX (fun k => spec_l20Book.f k b p n) (fun r => Sm r p 50) := by
  unfold spec_l20Book.f
  obtain ⟨v, hv0, hv1, _, hv⟩ := pick hb p 6 h0 (by omega)
  obtain ⟨w, hw0, hw1, _, hw⟩ := pick hb (p + 1) 3 (by omega) (by omega)
  have hv6 := hv1 (by omega)
  have hw3 := hw1 (by omega)
  refine EvX.bind0 rfl (EvX.bind hv (EvX.pos hv0 (EvX.pos (by simp; omega) (EvX.bind hw ?_))))
  obtain ⟨m, hm1, hm4, hm⟩ : ∃ m : Nat, 1 ≤ m ∧ m ≤ 4 ∧ rd ([1, 2, 3, 3, 4, 4] : List Int) v = (m : Int) := by
    rcases (by omega : v = 0 ∨ v = 1 ∨ v = 2 ∨ v = 3 ∨ v = 4 ∨ v = 5) with h | h | h | h | h | h <;> subst h
    · exact ⟨1, by omega, by omega, rfl⟩
    · exact ⟨2, by omega, by omega, rfl⟩
    · exact ⟨3, by omega, by omega, rfl⟩
    · exact ⟨3, by omega, by omega, rfl⟩
    · exact ⟨4, by omega, by omega, rfl⟩
    · exact ⟨4, by omega, by omega, rfl⟩
  rw [hm]
  refine (bk_l0 hb n hn hn2 m hm1 hm4 w hw0 hw3 m 0 [] [] (p + 1 + 1) (by omega) (by omega) rfl rfl (fun j hj => by simp at hj) (by omega) (by omega)).imp ?_
  intro r hr
  exact ⟨hr.1, hr.2.1, hr.2.2.1, by have := hr.2.2.2.1; omega, by have := hr.2.2.2.2; omega⟩
end Go.Proofs.Ytigpmfoagkhaeaa.Db
namespace Go.Proofs.Ytigpmfoagkhaeaa.Bk
open Go.RowKit Go.Proofs.Ytigpmfoagkhaeaa.PU Go.Proofs.Ytigpmfoagkhaeaa.Qh Go.Proofs.YtigpmfoagkhaeaaW.PrintWords Go.Proofs.YtigpmfoagkhaeaaW.PrintMore
set_option linter.unusedVariables false
set_option linter.unusedSimpArgs false
def RowP (c : List Int) (d : List (List Int)) (i : Nat) : Prop :=
  0 ≤ rd c (i : Int) ∧ rd c (i : Int) ≤ 20 ∧ (rd_L2 d (i : Int)).length = c.length ∧ rd (rd_L2 d (i : Int)) (i : Int) = 0 ∧ ∀ j : Nat, j < c.length → 0 ≤ rd (rd_L2 d (i : Int)) (j : Int) ∧ rd (rd_L2 d (i : Int)) (j : Int) ≤ 9
def BookP (c : List Int) (d : List (List Int)) : Prop := 1 ≤ c.length ∧ c.length ≤ 4 ∧ d.length = c.length ∧ ∀ i : Nat, i < c.length → RowP c d i
theorem ib_l1 (c : List Int) (d : List (List Int)) (row : List Int) (x3 : Int) (i : Nat) (hrow : row.length ≤ 4) (hi : i < d.length) (hd : d.length ≤ 4) {R : Prop}
    (hR : EvB (fun k => impl_isBook.l0 k x3 d (d.length : Int) ((i + 1 : Nat) : Int) c d) R) : ∀ (e j : Nat), row.length - j = e → j ≤ row.length →
    EvB (fun k => impl_isBook.l1 k x3 d (d.length : Int) (i : Int) row (row.length : Int) (j : Int) c d) ((∀ j' : Nat, j ≤ j' → j' < row.length → 0 ≤ rd row (j' : Int) ∧ rd row (j' : Int) ≤ 9) ∧ R) := by
  have hs : wrap64 ((i : Int) + 1) = ((i + 1 : Nat) : Int) := wsucc hi (by omega)
  intro e
  induction e with
  | zero =>
    intro j he hj
    refine EvB.step (fun k => by rw [impl_isBook.l1]) ?_
    rw [hs]
    exact EvB.neg (by omega) (hR.congr ⟨fun h => ⟨fun j' h1 h2 => by omega, h⟩, fun h => h.2⟩)
  | succ e ih =>
    intro j he hj
    have hlt : j < row.length := by omega
    have hj1 : wrap64 ((j : Int) + 1) = ((j + 1 : Nat) : Int) := wsucc hlt (by omega)
    refine EvB.step (fun k => by rw [impl_isBook.l1]) ?_
    refine EvB.pos (by omega) (EvB.pos (by omega) (EvB.pos (by omega) ?_))
    by_cases h1 : rd row (j : Int) < 0
    · exact EvB.pos h1 (EvB.ff (fun h => by have := h.1 j (Nat.le_refl _) hlt; omega))
    · refine EvB.neg h1 ?_
      by_cases h2 : rd row (j : Int) > 9
      · exact EvB.pos h2 (EvB.ff (fun h => by have := h.1 j (Nat.le_refl _) hlt; omega))
      · refine EvB.neg h2 ?_
        rw [hj1]
        refine (ih (j + 1) (by omega) (by omega)).congr ⟨fun h => ⟨fun j' h3 h4 => ?_, h.2⟩, fun h => ⟨fun j' h3 h4 => h.1 j' (by omega) h4, h.2⟩⟩
        by_cases e' : j' = j
        · subst e'; exact ⟨by omega, by omega⟩
        · exact h.1 j' (by omega) h4
theorem ib_l0 (c : List Int) (d : List (List Int)) (h4 : c.length ≤ 4) (hl : d.length = c.length) : ∀ (e i : Nat), c.length - i = e → i ≤ c.length →
    EvB (fun k => impl_isBook.l0 k (c.length : Int) d (d.length : Int) (i : Int) c d) (∀ i' : Nat, i ≤ i' → i' < c.length → RowP c d i') := by
  intro e
  induction e with
  | zero =>
    intro i he hi
    refine EvB.step (fun k => by rw [impl_isBook.l0]) ?_
    exact EvB.neg (by omega) (EvB.tt (fun i' h1 h2 => by omega))
  | succ e ih =>
    intro i he hi
    have hlt : i < c.length := by omega
    refine EvB.step (fun k => by rw [impl_isBook.l0]) ?_
    refine EvB.pos (by omega) (EvB.pos (by omega) (EvB.pos (by omega) (EvB.pos (by omega) ?_)))
    have bad : ∀ (P : Prop), (P → ¬ RowP c d i) → P → EvB (fun k => impl_isBook.j2 k (c.length : Int) (rd_L2 d (i : Int)) d (d.length : Int) (i : Int) true c d) (∀ i' : Nat, i ≤ i' → i' < c.length → RowP c d i') := by
      intro P hP p
      refine EvB.step (fun k => by rw [impl_isBook.j2]) ?_
      exact EvB.pos rfl (EvB.ff (fun h => hP p (h i (Nat.le_refl _) hlt)))
    by_cases h1 : rd c (i : Int) < 0
    · exact EvB.pos h1 (bad _ (fun p h => by have := h.1; omega) h1)
    refine EvB.neg h1 ?_
    by_cases h2 : rd c (i : Int) > 20
    · exact EvB.pos h2 (bad _ (fun p h => by have := h.2.1; omega) h2)
    refine EvB.neg h2 ?_
    by_cases h3 : ((rd_L2 d (i : Int)).length : Int) = (c.length : Int)
    · refine EvB.pos h3 (EvB.pos (by omega) ?_)
      by_cases h5 : rd (rd_L2 d (i : Int)) (i : Int) = 0
      · refine EvB.step (fun k => by rw [impl_isBook.j2]) ?_
        refine EvB.neg (by rw [h5]; decide) ?_
        refine (ib_l1 c d (rd_L2 d (i : Int)) (c.length : Int) i (by omega) (by omega) (by omega) (ih (i + 1) (by omega) (by omega)) _ 0 rfl (by omega)).congr ?_
        constructor
        · intro h i' h6 h7
          by_cases e' : i' = i
          · subst e'; exact ⟨by omega, by omega, by omega, h5, fun j hj => h.1 j (by omega) (by omega)⟩
          · exact h.2 i' (by omega) h7
        · intro h
          have hr := h i (Nat.le_refl _) hlt
          exact ⟨fun j' _ h7 => hr.2.2.2.2 j' (by omega), fun i' h6 h7 => h i' (by omega) h7⟩
      · have hb : (rd (rd_L2 d (i : Int)) (i : Int) != 0) = true := bne_iff_ne.mpr h5
        rw [hb]
        exact bad _ (fun p h => p h.2.2.2.1) h5
    · exact EvB.neg h3 (bad _ (fun p h => p (by rw [h.2.2.1])) h3)
theorem isBook (c : List Int) (d : List (List Int)) : EvB (fun k => impl_isBook.f k c d) (BookP c d) := by
  unfold impl_isBook.f
  by_cases h1 : (c.length : Int) < 1
  · refine EvB.pos h1 (EvB.step (fun k => by rw [impl_isBook.j0]) ?_)
    exact EvB.pos rfl (EvB.ff (fun h => by have := h.1; omega))
  refine EvB.neg h1 ?_
  by_cases h2 : (c.length : Int) > 4
  · refine EvB.pos h2 (EvB.step (fun k => by rw [impl_isBook.j0]) ?_)
    exact EvB.pos rfl (EvB.ff (fun h => by have := h.2.1; omega))
  refine EvB.neg h2 (EvB.step (fun k => by rw [impl_isBook.j0]) ?_)
  by_cases h3 : d.length = c.length
  · refine EvB.neg (by rw [h3]; simp) ?_
    refine (ib_l0 c d (by omega) h3 _ 0 rfl (by omega)).congr ⟨fun h => ⟨by omega, by omega, h3, fun i hi => h i (by omega) hi⟩, fun h i _ hi => h.2.2.2 i hi⟩
  · exact EvB.pos (bne_iff_ne.mpr (by omega)) (EvB.ff (fun h => h3 h.2.2.1))
theorem sIn (a lo hi : Int) : spec_l1In.f a lo hi = some (decide (lo ≤ a ∧ a ≤ hi)) := by
  unfold spec_l1In.f
  by_cases h : a ≥ lo
  · rw [if_pos h]; simp [h]
  · rw [if_neg h]; congr 1; symm; exact decide_eq_false (fun h' => h h'.1)
theorem sb_l1 (c : List Int) (d : List (List Int)) (i : Nat) (hrow : (rd_L2 d (i : Int)).length ≤ 4) (hi : i < d.length) (hd : d.length ≤ 4) {R : Prop}
    (hR : EvB (fun k => spec_BookOk.l0 k ((i + 1 : Nat) : Int) c d) R) : ∀ (e j : Nat), (rd_L2 d (i : Int)).length - j = e → j ≤ (rd_L2 d (i : Int)).length →
    EvB (fun k => spec_BookOk.l1 k (i : Int) (j : Int) c d) ((∀ j' : Nat, j ≤ j' → j' < (rd_L2 d (i : Int)).length → 0 ≤ rd (rd_L2 d (i : Int)) (j' : Int) ∧ rd (rd_L2 d (i : Int)) (j' : Int) ≤ 9) ∧ R) := by
  have hs : wrap64 ((i : Int) + 1) = ((i + 1 : Nat) : Int) := wsucc hi (by omega)
  intro e
  induction e with
  | zero =>
    intro j he hj
    refine EvB.step (fun k => by rw [spec_BookOk.l1]) ?_
    rw [hs]
    exact EvB.pos (by omega) (EvB.pos (by omega) (EvB.neg (by omega) (hR.congr ⟨fun h => ⟨fun j' h1 h2 => by omega, h⟩, fun h => h.2⟩)))
  | succ e ih =>
    intro j he hj
    have hlt : j < (rd_L2 d (i : Int)).length := by omega
    have hj1 : wrap64 ((j : Int) + 1) = ((j + 1 : Nat) : Int) := wsucc hlt (by omega)
    refine EvB.step (fun k => by rw [spec_BookOk.l1]) ?_
    refine EvB.pos (by omega) (EvB.pos (by omega) (EvB.pos (by omega) (EvB.pos (by omega) (EvB.bind0 (sIn _ _ _) ?_))))
    by_cases h1 : 0 ≤ rd (rd_L2 d (i : Int)) (j : Int) ∧ rd (rd_L2 d (i : Int)) (j : Int) ≤ 9
    · refine EvB.pos (decide_eq_true h1) ?_
      rw [hj1]
      refine (ih (j + 1) (by omega) (by omega)).congr ⟨fun h => ⟨fun j' h3 h4 => ?_, h.2⟩, fun h => ⟨fun j' h3 h4 => h.1 j' (by omega) h4, h.2⟩⟩
      by_cases e' : j' = j
      · subst e'; exact h1
      · exact h.1 j' (by omega) h4
    · exact EvB.neg (by simpa using h1) (EvB.ff (fun h => h1 (h.1 j (Nat.le_refl _) hlt)))
theorem sb_l0 (c : List Int) (d : List (List Int)) (h4 : c.length ≤ 4) (hl : d.length = c.length) : ∀ (e i : Nat), c.length - i = e → i ≤ c.length →
    EvB (fun k => spec_BookOk.l0 k (i : Int) c d) (∀ i' : Nat, i ≤ i' → i' < c.length → RowP c d i') := by
  intro e
  induction e with
  | zero =>
    intro i he hi
    refine EvB.step (fun k => by rw [spec_BookOk.l0]) ?_
    exact EvB.neg (by omega) (EvB.tt (fun i' h1 h2 => by omega))
  | succ e ih =>
    intro i he hi
    have hlt : i < c.length := by omega
    refine EvB.step (fun k => by rw [spec_BookOk.l0]) ?_
    refine EvB.pos (by omega) (EvB.pos (by omega) (EvB.bind0 (sIn _ _ _) ?_))
    have bad : ∀ (P : Prop), (P → ¬ RowP c d i) → P → EvB (fun k => spec_BookOk.j2 k (i : Int) true c d) (∀ i' : Nat, i ≤ i' → i' < c.length → RowP c d i') := by
      intro P hP p
      refine EvB.step (fun k => by rw [spec_BookOk.j2]) ?_
      exact EvB.pos rfl (EvB.ff (fun h => hP p (h i (Nat.le_refl _) hlt)))
    by_cases h1 : 0 ≤ rd c (i : Int) ∧ rd c (i : Int) ≤ 20
    · refine EvB.pos (decide_eq_true h1) (EvB.pos (by omega) ?_)
      by_cases h3 : ((rd_L2 d (i : Int)).length : Int) = (c.length : Int)
      · refine EvB.pos h3 (EvB.pos (by omega) ?_)
        by_cases h5 : rd (rd_L2 d (i : Int)) (i : Int) = 0
        · refine EvB.step (fun k => by rw [spec_BookOk.j2]) ?_
          refine EvB.neg (by rw [h5]; decide) ?_
          refine (sb_l1 c d i (by omega) (by omega) (by omega) (ih (i + 1) (by omega) (by omega)) _ 0 rfl (by omega)).congr ?_
          constructor
          · intro h i' h6 h7
            by_cases e' : i' = i
            · subst e'; exact ⟨h1.1, h1.2, by omega, h5, fun j hj => h.1 j (by omega) (by omega)⟩
            · exact h.2 i' (by omega) h7
          · intro h
            have hr := h i (Nat.le_refl _) hlt
            exact ⟨fun j' _ h7 => hr.2.2.2.2 j' (by omega), fun i' h6 h7 => h i' (by omega) h7⟩
        · have hb : (rd (rd_L2 d (i : Int)) (i : Int) != 0) = true := bne_iff_ne.mpr h5
          rw [hb]
          exact bad _ (fun p h => p h.2.2.2.1) h5
      · exact EvB.neg h3 (bad _ (fun p h => p (by rw [h.2.2.1])) h3)
    · exact EvB.neg (by simpa using h1) (bad _ (fun p h => p ⟨h.1, h.2.1⟩) h1)
theorem bookOk (c : List Int) (d : List (List Int)) : EvB (fun k => spec_BookOk.f k c d) (BookP c d) := by
  unfold spec_BookOk.f
  refine EvB.bind0 (sIn _ _ _) ?_
  by_cases h1 : 1 ≤ (c.length : Int) ∧ (c.length : Int) ≤ 4
  · refine EvB.pos (decide_eq_true h1) (EvB.step (fun k => by rw [spec_BookOk.j0]) ?_)
    by_cases h3 : d.length = c.length
    · refine EvB.neg (by rw [h3]; simp) ?_
      refine (sb_l0 c d (by omega) h3 _ 0 rfl (by omega)).congr ⟨fun h => ⟨by omega, by omega, h3, fun i hi => h i (by omega) hi⟩, fun h i _ hi => h.2.2.2 i hi⟩
    · exact EvB.pos (bne_iff_ne.mpr (by omega)) (EvB.ff (fun h => h3 h.2.2.1))
  · refine EvB.neg (by simpa using h1) (EvB.step (fun k => by rw [spec_BookOk.j0]) ?_)
    exact EvB.pos rfl (EvB.ff (fun h => h1 ⟨by have := h.1; omega, by have := h.2.1; omega⟩))
end Go.Proofs.Ytigpmfoagkhaeaa.Bk
namespace Go.Proofs.Ytigpmfoagkhaeaa.Ow
open Go.RowKit Go.Proofs.Ytigpmfoagkhaeaa.PU Go.Proofs.Ytigpmfoagkhaeaa.Qh Go.Proofs.Ytigpmfoagkhaeaa.Bk Go.Proofs.YtigpmfoagkhaeaaW.PrintWords Go.Proofs.YtigpmfoagkhaeaaW.PrintMore
set_option linter.unusedVariables false
set_option linter.unusedSimpArgs false
def sm (xs : List Int) : Nat → Int
  | 0 => 0
  | i + 1 => sm xs i + rd xs (i : Int)
def ow (c : List Int) (d : List (List Int)) (i : Nat) : Int := sm (rd_L2 d (i : Int)) c.length
def owes (c : List Int) (d : List (List Int)) : List Int := (List.range c.length).map (ow c d)
theorem owes_len (c : List Int) (d : List (List Int)) : (owes c d).length = c.length := by simp [owes]
theorem rd_owes {c : List Int} {d : List (List Int)} {i : Nat} (hi : i < c.length) : rd (owes c d) (i : Int) = ow c d i := by
  rw [rd_get _ _ (by rw [owes_len]; exact hi)]; simp [owes]
theorem sm_bd {c : List Int} {d : List (List Int)} (h : BookP c d) {i : Nat} (hi : i < c.length) : ∀ j : Nat, j ≤ c.length → 0 ≤ sm (rd_L2 d (i : Int)) j ∧ sm (rd_L2 d (i : Int)) j ≤ 9 * j
  | 0, _ => by simp [sm]
  | j + 1, hj => by
    have := sm_bd h hi j (by omega)
    have := (h.2.2.2 i hi).2.2.2.2 j (by omega)
    simp only [sm]; omega
theorem ow_bd {c : List Int} {d : List (List Int)} (h : BookP c d) {i : Nat} (hi : i < c.length) : 0 ≤ ow c d i ∧ ow c d i ≤ 36 := by
  have := sm_bd h hi c.length (Nat.le_refl _); have := h.2.1; unfold ow; omega
def mid (c : List Int) (d : List (List Int)) (i : Nat) (s : Int) : List Int := (List.range c.length).map (fun k => if k < i then ow c d k else if k = i then s else 0)
theorem mid_len (c : List Int) (d : List (List Int)) (i : Nat) (s : Int) : (mid c d i s).length = c.length := by simp [mid]
theorem mid_get {c : List Int} {d : List (List Int)} {i : Nat} {s : Int} (hi : i < c.length) : rd (mid c d i s) (i : Int) = s := by
  rw [rd_get _ _ (by rw [mid_len]; exact hi)]; simp [mid]
theorem mid_set {c : List Int} {d : List (List Int)} {i : Nat} {s v : Int} (hi : i < c.length) : (mid c d i s).set ((i : Int)).toNat v = mid c d i v := by
  apply List.ext_getElem (by simp [mid])
  intro k h1 h2
  simp only [mid, List.getElem_set, List.getElem_map, List.getElem_range, Int.toNat_natCast]
  by_cases e : i = k
  · subst e; simp
  · rw [if_neg e]
    by_cases e2 : k < i
    · simp [e2]
    · simp [e2, Ne.symm e, show ¬ k = i from fun h => e h.symm]
theorem mid_next {c : List Int} {d : List (List Int)} (i : Nat) : mid c d i (ow c d i) = mid c d (i + 1) 0 := by
  unfold mid
  apply List.map_congr_left
  intro k _
  by_cases e : k < i
  · simp [e, show k < i + 1 by omega]
  · by_cases e2 : k = i
    · subst e2; simp
    · simp [e, e2, show ¬ k < i + 1 by omega]
theorem mid_start (c : List Int) (d : List (List Int)) : List.replicate c.length (0 : Int) = mid c d 0 0 := by
  apply List.ext_getElem (by simp [mid])
  intro k h1 h2
  simp [mid]
theorem mid_end (c : List Int) (d : List (List Int)) : mid c d c.length 0 = owes c d := by
  unfold mid owes
  apply List.map_congr_left
  intro k hk
  simp [List.mem_range.mp hk]
theorem io_l1 {c : List Int} {d : List (List Int)} (h : BookP c d) {i : Nat} (hi : i < c.length) {r : List Int} (hR : Ev (fun k => impl_owes.l0 k (mid c d (i + 1) 0) d (d.length : Int) ((i + 1 : Nat) : Int)) r) :
    ∀ (e j : Nat), c.length - j = e → j ≤ c.length → Ev (fun k => impl_owes.l1 k (mid c d i (sm (rd_L2 d (i : Int)) j)) (i : Int) d (d.length : Int) (i : Int) (rd_L2 d (i : Int)) ((rd_L2 d (i : Int)).length : Int) (j : Int)) r := by
  have h4 := h.2.1
  have hdl := h.2.2.1
  have hrl := (h.2.2.2 i hi).2.2.1
  have hs : wrap64 ((i : Int) + 1) = ((i + 1 : Nat) : Int) := wsucc hi (by omega)
  intro e
  induction e with
  | zero =>
    intro j he hj
    obtain rfl : j = c.length := by omega
    refine Ev.step (fun k => by rw [impl_owes.l1]) ?_
    rw [hs]
    refine evNeg (by omega) ?_
    have : mid c d i (sm (rd_L2 d (i : Int)) c.length) = mid c d (i + 1) 0 := mid_next i
    rw [this]
    exact hR
  | succ e ih =>
    intro j he hj
    have hlt : j < c.length := by omega
    have hj1 : wrap64 ((j : Int) + 1) = ((j + 1 : Nat) : Int) := wsucc hlt (by omega)
    have hb := sm_bd h hi j (by omega)
    have hx := (h.2.2.2 i hi).2.2.2.2 j hlt
    have hw : wrap64 (sm (rd_L2 d (i : Int)) j + rd (rd_L2 d (i : Int)) (j : Int)) = sm (rd_L2 d (i : Int)) (j + 1) := by rw [w64 (by omega) (by omega)]; rfl
    have hml := mid_len c d i (sm (rd_L2 d (i : Int)) j)
    refine Ev.step (fun k => by rw [impl_owes.l1]) ?_
    refine evPos (by omega) (evPos (by omega) (evPos (by omega) (evPos (by omega) (evPos (by omega) ?_))))
    rw [mid_get hi, hw, hj1, mid_set hi]
    exact ih (j + 1) (by omega) (by omega)
theorem io_l0 {c : List Int} {d : List (List Int)} (h : BookP c d) : ∀ (e i : Nat), c.length - i = e → i ≤ c.length → Ev (fun k => impl_owes.l0 k (mid c d i 0) d (d.length : Int) (i : Int)) (owes c d) := by
  have hdl := h.2.2.1
  intro e
  induction e with
  | zero =>
    intro i he hi
    obtain rfl : i = c.length := by omega
    refine Ev.step (fun k => by rw [impl_owes.l0]) ?_
    exact evNeg (by omega) (evEq (Ev.now _) (mid_end c d))
  | succ e ih =>
    intro i he hi
    refine Ev.step (fun k => by rw [impl_owes.l0]) ?_
    refine evPos (by omega) (evPos (by omega) (evPos (by omega) ?_))
    exact io_l1 h (by omega) (ih (i + 1) (by omega) (by omega)) _ 0 rfl (by omega)
theorem iowes {c : List Int} {d : List (List Int)} (h : BookP c d) : Ev (fun k => impl_owes.f k c d) (owes c d) := by
  have h4 := h.2.1
  unfold impl_owes.f
  refine evPos (by omega) (evPos (by omega) ?_)
  rw [Int.toNat_natCast, mid_start c d]
  exact io_l0 h _ 0 rfl (by omega)
theorem so_l1 {c : List Int} {d : List (List Int)} (h : BookP c d) {i : Nat} (hi : i < c.length) {x : List Int} (hx : x.length ≤ 4) {r : List Int} (hR : Ev (fun k => spec_OwesOf.l0 k (x ++ [ow c d i]) ((i + 1 : Nat) : Int) c d) r) :
    ∀ (e j : Nat), c.length - j = e → j ≤ c.length → Ev (fun k => spec_OwesOf.l1 k x (i : Int) (sm (rd_L2 d (i : Int)) j) (j : Int) c d) r := by
  have h4 := h.2.1
  have hdl := h.2.2.1
  have hrl := (h.2.2.2 i hi).2.2.1
  have hs : wrap64 ((i : Int) + 1) = ((i + 1 : Nat) : Int) := wsucc hi (by omega)
  intro e
  induction e with
  | zero =>
    intro j he hj
    obtain rfl : j = c.length := by omega
    refine Ev.step (fun k => by rw [spec_OwesOf.l1]) ?_
    rw [hs]
    exact evNeg (by omega) (evPos (by omega) hR)
  | succ e ih =>
    intro j he hj
    have hlt : j < c.length := by omega
    have hj1 : wrap64 ((j : Int) + 1) = ((j + 1 : Nat) : Int) := wsucc hlt (by omega)
    have hb := sm_bd h hi j (by omega)
    have hx := (h.2.2.2 i hi).2.2.2.2 j hlt
    have hw : wrap64 (sm (rd_L2 d (i : Int)) j + rd (rd_L2 d (i : Int)) (j : Int)) = sm (rd_L2 d (i : Int)) (j + 1) := by rw [w64 (by omega) (by omega)]; rfl
    refine Ev.step (fun k => by rw [spec_OwesOf.l1]) ?_
    refine evPos (by omega) (evPos (by omega) (evPos (by omega) (evPos (by omega) (evPos (by omega) ?_))))
    rw [hw, hj1]
    exact ih (j + 1) (by omega) (by omega)
theorem so_l0 {c : List Int} {d : List (List Int)} (h : BookP c d) : ∀ (e i : Nat), c.length - i = e → i ≤ c.length → Ev (fun k => spec_OwesOf.l0 k ((List.range i).map (ow c d)) (i : Int) c d) (owes c d) := by
  have h4 := h.2.1
  intro e
  induction e with
  | zero =>
    intro i he hi
    obtain rfl : i = c.length := by omega
    refine Ev.step (fun k => by rw [spec_OwesOf.l0]) ?_
    refine evNeg (by omega) (Ev.step (fun k => by rw [spec_OwesOf.j1]) ?_)
    exact evNeg (by decide) (Ev.now _)
  | succ e ih =>
    intro i he hi
    refine Ev.step (fun k => by rw [spec_OwesOf.l0]) ?_
    refine evPos (by omega) (Ev.bind ((bookOk c d).yes h) (Ev.step (fun k => by rw [spec_OwesOf.j1]) ?_))
    refine evPos rfl ?_
    have hi' := ih (i + 1) (by omega) (by omega)
    rw [List.range_succ, List.map_append] at hi'
    exact so_l1 h (by omega) (by simp; omega) hi' _ 0 rfl (by omega)
theorem sowes {c : List Int} {d : List (List Int)} (h : BookP c d) : Ev (fun k => spec_OwesOf.f k c d) (owes c d) := by
  unfold spec_OwesOf.f
  exact so_l0 h _ 0 rfl (by omega)
theorem sowes_no {c : List Int} {d : List (List Int)} (h : ¬ BookP c d) : Ev (fun k => spec_OwesOf.f k c d) [] := by
  unfold spec_OwesOf.f
  refine Ev.step (fun k => by rw [spec_OwesOf.l0]) ?_
  by_cases h0 : (0 : Int) < (c.length : Int)
  · refine evPos h0 (Ev.bind ((bookOk c d).no h) (Ev.step (fun k => by rw [spec_OwesOf.j1]) ?_))
    exact evNeg (by decide) (Ev.now _)
  · refine evNeg h0 (Ev.step (fun k => by rw [spec_OwesOf.j1]) ?_)
    exact evNeg (by decide) (Ev.now _)
end Go.Proofs.Ytigpmfoagkhaeaa.Ow
namespace Go.Proofs.Ytigpmfoagkhaeaa.Fr
open Go.RowKit Go.Proofs.Ytigpmfoagkhaeaa.PU Go.Proofs.Ytigpmfoagkhaeaa.Qh Go.Proofs.YtigpmfoagkhaeaaW.PrintWords Go.Proofs.YtigpmfoagkhaeaaW.PrintMore
set_option linter.unusedVariables false
set_option linter.unusedSimpArgs false
def FracP (u d : Int) : Prop := -1000000000 ≤ u ∧ u ≤ 1000000000 ∧ 1 ≤ d ∧ d ≤ 1000000000 ∧ Int.gcd u d = 1
instance (u d : Int) : Decidable (FracP u d) := by unfold FracP; infer_instance
theorem gcd_tmod (a b : Int) : Int.gcd b (Int.tmod a b) = Int.gcd a b := by
  unfold Int.gcd
  rw [Int.natAbs_tmod, Nat.gcd_comm b.natAbs, ← Nat.gcd_rec b.natAbs a.natAbs, Nat.gcd_comm]
theorem tmod_lt (a b : Int) (hb : b ≠ 0) : (Int.tmod a b).natAbs < b.natAbs := by
  rw [Int.natAbs_tmod]; exact Nat.mod_lt _ (by omega)
theorem igcd_l : ∀ (n : Nat) (a b : Int), b.natAbs ≤ n → a.natAbs ≤ 9223372036854775807 → b.natAbs ≤ 9223372036854775807 → Ev (fun k => impl_gcd.l0 k a b) ((Int.gcd a b : Nat) : Int) := by
  intro n
  induction n with
  | zero =>
    intro a b hn ha hb
    obtain rfl : b = 0 := by omega
    refine Ev.step (fun k => by rw [impl_gcd.l0]) ?_
    refine evPos rfl ?_
    have e : mx a (wrap64 (-a)) = ((Int.gcd a 0 : Nat) : Int) := by
      rw [w64 (by omega) (by omega), Int.gcd_zero_right]
      unfold mx
      split <;> omega
    rw [e]
    exact Ev.now _
  | succ n ih =>
    intro a b hn ha hb
    by_cases h0 : b = 0
    · exact ih a b (by omega) ha hb
    · refine Ev.step (fun k => by rw [impl_gcd.l0]) ?_
      refine evNeg h0 ?_
      have hlt := tmod_lt a b h0
      rw [← gcd_tmod a b]
      exact ih b (Int.tmod a b) (by omega) hb (by omega)
theorem igcd (a b : Int) (ha : a.natAbs ≤ 9223372036854775807) (hb : b.natAbs ≤ 9223372036854775807) : Ev (fun k => impl_gcd.f k a b) ((Int.gcd a b : Nat) : Int) := by
  unfold impl_gcd.f
  exact igcd_l b.natAbs a b (Nat.le_refl _) ha hb
theorem sdiv_l : ∀ (n : Nat) (a b : Int), b.natAbs ≤ n → 0 ≤ a → 0 ≤ b → Ev (fun k => spec_l1Divisor.l0 k a b) ((Int.gcd a b : Nat) : Int) := by
  intro n
  induction n with
  | zero =>
    intro a b hn ha hb
    obtain rfl : b = 0 := by omega
    refine Ev.step (fun k => by rw [spec_l1Divisor.l0]) ?_
    refine evNeg (by omega) ?_
    refine evEq (Ev.now _) ?_
    rw [Int.gcd_zero_right]; omega
  | succ n ih =>
    intro a b hn ha hb
    by_cases h0 : b = 0
    · exact ih a b (by omega) ha hb
    · refine Ev.step (fun k => by rw [spec_l1Divisor.l0]) ?_
      refine evPos (by omega) (evNeg h0 ?_)
      have hlt := tmod_lt a b h0
      rw [← gcd_tmod a b]
      exact ih b (Int.tmod a b) (by omega) hb (Int.tmod_nonneg b ha)
theorem sabs (a : Int) (ha : a.natAbs ≤ 9223372036854775807) : spec_l1Abs.f a = some ((a.natAbs : Nat) : Int) := by
  unfold spec_l1Abs.f
  by_cases h : a < 0
  · rw [if_pos h, w64 (by omega) (by omega)]; congr 1; omega
  · rw [if_neg h]; congr 1; omega
theorem sdiv (a b : Int) (ha : a.natAbs ≤ 9223372036854775807) (hb : b.natAbs ≤ 9223372036854775807) : Ev (fun k => spec_l1Divisor.f k a b) ((Int.gcd a b : Nat) : Int) := by
  unfold spec_l1Divisor.f
  refine evBind0 (sabs a ha) (evBind0 (sabs b hb) ?_)
  have e : Int.gcd (a.natAbs : Int) (b.natAbs : Int) = Int.gcd a b := by unfold Int.gcd; simp
  rw [← e]
  exact sdiv_l _ _ _ (Nat.le_refl _) (by omega) (by omega)
theorem isFrac (u d : Int) : EvB (fun k => impl_isFrac.f k u d) (FracP u d) := by
  unfold impl_isFrac.f
  by_cases h1 : u ≥ -1000000000
  · by_cases h2 : u ≤ 1000000000
    · refine EvB.bind0 (a := true) (by unfold impl_isNumber.f; rw [if_pos h1]; simp [h2]) (EvB.pos rfl ?_)
      by_cases h3 : d ≥ 1
      · refine EvB.pos h3 ?_
        by_cases h4 : d ≤ 1000000000
        · refine EvB.pos h4 (EvB.bind (igcd u d (by omega) (by omega)) ⟨_, ?_, Ev.now _⟩)
          unfold FracP
          constructor
          · intro h; have := beq_iff_eq.mp h; exact ⟨h1, h2, h3, h4, by omega⟩
          · intro h; exact beq_iff_eq.mpr (by have := h.2.2.2.2; omega)
        · exact EvB.neg h4 (EvB.ff (fun h => h4 h.2.2.2.1))
      · exact EvB.neg h3 (EvB.ff (fun h => h3 h.2.2.1))
    · refine EvB.bind0 (a := false) (by unfold impl_isNumber.f; rw [if_pos h1]; simp [h2]) (EvB.neg (by decide) (EvB.ff (fun h => h2 h.2.1)))
  · refine EvB.bind0 (a := false) (by unfold impl_isNumber.f; rw [if_neg h1]) (EvB.neg (by decide) (EvB.ff (fun h => h1 h.1)))
theorem l1In (a lo hi : Int) : spec_l1In.f a lo hi = some (decide (lo ≤ a ∧ a ≤ hi)) := by
  unfold spec_l1In.f
  by_cases h : a ≥ lo
  · rw [if_pos h]; simp [h]
  · rw [if_neg h]; congr 1; symm; exact decide_eq_false (fun h' => h h'.1)
theorem fracOk (u d : Int) : EvB (fun k => spec_FracOk.f k u d) (FracP u d) := by
  unfold spec_FracOk.f
  refine EvB.bind0 (l1In _ _ _) ?_
  by_cases h1 : 1 ≤ d ∧ d ≤ 1000000000
  · refine EvB.pos (decide_eq_true h1) (EvB.bind0 (l1In _ _ _) ?_)
    by_cases h2 : -1000000000 ≤ u ∧ u ≤ 1000000000
    · refine EvB.pos (decide_eq_true h2) (EvB.bind (sdiv u d (by omega) (by omega)) ⟨_, ?_, Ev.now _⟩)
      unfold FracP
      constructor
      · intro h; have := beq_iff_eq.mp h; exact ⟨h2.1, h2.2, h1.1, h1.2, by omega⟩
      · intro h; exact beq_iff_eq.mpr (by have := h.2.2.2.2; omega)
    · exact EvB.neg (by simpa using h2) (EvB.ff (fun h => h2 ⟨h.1, h.2.1⟩))
  · exact EvB.neg (by simpa using h1) (EvB.ff (fun h => h1 ⟨h.2.2.1, h.2.2.2.1⟩))
def low (up down : Int) : Int × Int × Bool :=
  if FracP (Int.tdiv up (Int.gcd up down : Nat)) (Int.tdiv down (Int.gcd up down : Nat)) then (Int.tdiv up (Int.gcd up down : Nat), Int.tdiv down (Int.gcd up down : Nat), true) else (0, 0, false)
theorem gcd_pos {up down : Int} (hd : 0 < down) : 0 < Int.gcd up down := Nat.pos_of_ne_zero (fun h => by have := (Int.gcd_eq_zero_iff.mp h).2; omega)
theorem tdiv_natAbs (a : Int) (g : Nat) : (Int.tdiv a (g : Int)).natAbs ≤ a.natAbs := by
  rw [Int.natAbs_tdiv]; exact Nat.div_le_self _ _
theorem ilowest (up down : Int) (hd : 0 < down) (h1 : up.natAbs ≤ 4611686018427387904) (h2 : down.natAbs ≤ 4611686018427387904) : Ev (fun k => impl_lowest.f k up down) (low up down) := by
  unfold impl_lowest.f
  refine Ev.bind (igcd up down (by omega) (by omega)) ?_
  have hg := gcd_pos (up := up) hd
  have a1 := tdiv_natAbs up (Int.gcd up down)
  have a2 := tdiv_natAbs down (Int.gcd up down)
  have w1 : wrap64 (Int.tdiv up (Int.gcd up down : Nat)) = Int.tdiv up (Int.gcd up down : Nat) := w64 (by omega) (by omega)
  have w2 : wrap64 (Int.tdiv down (Int.gcd up down : Nat)) = Int.tdiv down (Int.gcd up down : Nat) := w64 (by omega) (by omega)
  refine evNeg (by omega) (evNeg (by omega) ?_)
  rw [w1, w2]
  obtain ⟨b, hb, he⟩ := isFrac (Int.tdiv up (Int.gcd up down : Nat)) (Int.tdiv down (Int.gcd up down : Nat))
  refine Ev.bind he ?_
  unfold low
  by_cases h : FracP (Int.tdiv up (Int.gcd up down : Nat)) (Int.tdiv down (Int.gcd up down : Nat))
  · rw [if_pos h]; exact evPos (hb.2 h) (Ev.now _)
  · rw [if_neg h]; exact evNeg (fun e => h (hb.1 e)) (Ev.now _)
theorem slow (up down : Int) (hd : 0 < down) (h1 : up.natAbs ≤ 4611686018427387904) (h2 : down.natAbs ≤ 4611686018427387904) : Ev (fun k => spec_l1Low.f k up down) (low up down) := by
  unfold spec_l1Low.f
  refine evNeg (by omega) ?_
  refine Ev.step (fun k => by rw [spec_l1Low.j0]) ?_
  refine Ev.bind (sdiv up down (by omega) (by omega)) ?_
  have hg := gcd_pos (up := up) hd
  have a1 := tdiv_natAbs up (Int.gcd up down)
  have a2 := tdiv_natAbs down (Int.gcd up down)
  have w1 : wrap64 (Int.tdiv up (Int.gcd up down : Nat)) = Int.tdiv up (Int.gcd up down : Nat) := w64 (by omega) (by omega)
  have w2 : wrap64 (Int.tdiv down (Int.gcd up down : Nat)) = Int.tdiv down (Int.gcd up down : Nat) := w64 (by omega) (by omega)
  refine evNeg (by omega) ?_
  rw [w1, w2]
  obtain ⟨b, hb, he⟩ := fracOk (Int.tdiv up (Int.gcd up down : Nat)) (Int.tdiv down (Int.gcd up down : Nat))
  refine Ev.bind he ?_
  unfold low
  by_cases h : FracP (Int.tdiv up (Int.gcd up down : Nat)) (Int.tdiv down (Int.gcd up down : Nat))
  · rw [if_pos h]; exact evPos (hb.2 h) (Ev.now _)
  · rw [if_neg h]; exact evNeg (fun e => h (hb.1 e)) (Ev.now _)
theorem low_val {up down p q : Int} (hd : 0 < down) (h : low up down = (p, q, true)) : FracP p q ∧ p * down = up * q := by
  unfold low at h
  split at h
  case isTrue hf =>
    simp only [Prod.mk.injEq, and_true] at h
    obtain ⟨rfl, rfl⟩ := h
    refine ⟨hf, ?_⟩
    have hg := gcd_pos (up := up) hd
    obtain ⟨s, hs⟩ : ((Int.gcd up down : Nat) : Int) ∣ up := Int.gcd_dvd_left ..
    obtain ⟨t, ht⟩ : ((Int.gcd up down : Nat) : Int) ∣ down := Int.gcd_dvd_right ..
    have hgi : ((Int.gcd up down : Nat) : Int) ≠ 0 := by omega
    have e1 : Int.tdiv up (Int.gcd up down : Nat) = s := by
      conv => lhs; arg 1; rw [hs]
      exact Int.mul_tdiv_cancel_left s hgi
    have e2 : Int.tdiv down (Int.gcd up down : Nat) = t := by
      conv => lhs; arg 1; rw [ht]
      exact Int.mul_tdiv_cancel_left t hgi
    rw [e1, e2]
    generalize ((Int.gcd up down : Nat) : Int) = g at hs ht
    subst hs; subst ht
    ac_rfl
  case isFalse => simp at h
theorem low_of {up down p q : Int} (hd : 0 < down) (hf : FracP p q) (e : p * down = up * q) : low up down = (p, q, true) := by
  have hq : 0 < q := by have := hf.2.2.1; omega
  have hdv : q ∣ down := by
    have h1 : q ∣ p * down := ⟨up, by rw [e, Int.mul_comm]⟩
    have h2 : q.natAbs ∣ p.natAbs * down.natAbs := by rw [← Int.natAbs_mul]; exact Int.natAbs_dvd_natAbs.mpr h1
    have hc : Nat.Coprime q.natAbs p.natAbs := by rw [Nat.coprime_comm]; exact hf.2.2.2.2
    exact Int.natAbs_dvd_natAbs.mp (Nat.Coprime.dvd_of_dvd_mul_left hc h2)
  obtain ⟨t, rfl⟩ := hdv
  have ht : 0 < t := by
    rcases Int.lt_or_le 0 t with h | h
    · exact h
    · have := Int.mul_nonpos_of_nonneg_of_nonpos (by omega : 0 ≤ q) h; omega
  have hu : up = p * t := by
    have : up * q = p * t * q := by rw [← e, Int.mul_comm q t, Int.mul_assoc]
    exact Int.eq_of_mul_eq_mul_right (by omega) this
  subst hu
  have hg : ((Int.gcd (p * t) (q * t) : Nat) : Int) = t := by
    rw [Int.gcd_mul_right, hf.2.2.2.2]; omega
  have h1 : Int.tdiv (p * t) (Int.gcd (p * t) (q * t) : Nat) = p := by rw [hg]; exact Int.mul_tdiv_cancel p (by omega)
  have h2 : Int.tdiv (q * t) (Int.gcd (p * t) (q * t) : Nat) = q := by rw [hg]; exact Int.mul_tdiv_cancel q (by omega)
  unfold low
  rw [h1, h2, if_pos hf]
end Go.Proofs.Ytigpmfoagkhaeaa.Fr
namespace Go.Proofs.Ytigpmfoagkhaeaa.Py
open Go.RowKit Go.Proofs.Ytigpmfoagkhaeaa.PU Go.Proofs.Ytigpmfoagkhaeaa.Qh Go.Proofs.Ytigpmfoagkhaeaa.Bk Go.Proofs.Ytigpmfoagkhaeaa.Ow Go.Proofs.Ytigpmfoagkhaeaa.Fr Go.Proofs.YtigpmfoagkhaeaaW.PrintWords Go.Proofs.YtigpmfoagkhaeaaW.PrintMore
set_option linter.unusedVariables false
set_option linter.unusedSimpArgs false
abbrev fu (ps : List S36) (i : Nat) : Int := (rd_T36 ps (i : Int)).f0
abbrev fd (ps : List S36) (i : Nat) : Int := (rd_T36 ps (i : Int)).f1
def PayP (c : List Int) (d : List (List Int)) (ps : List S36) (i : Nat) : Prop := FracP (fu ps i) (fd ps i) ∧ 0 ≤ fu ps i ∧ fu ps i ≤ ow c d i * fd ps i
def PaysP (c : List Int) (d : List (List Int)) (ps : List S36) : Prop := BookP c d ∧ ps.length = c.length ∧ ∀ i : Nat, i < c.length → PayP c d ps i
theorem mul_bd {a b : Int} {m n : Nat} (ha : a.natAbs ≤ m) (hb : b.natAbs ≤ n) : (a * b).natAbs ≤ m * n := by
  rw [Int.natAbs_mul]; exact Nat.mul_le_mul ha hb
theorem wmul {a b : Int} (m n : Nat) (ha : a.natAbs ≤ m) (hb : b.natAbs ≤ n) (h : m * n ≤ 9223372036854775807) : wrap64 (a * b) = a * b := by
  have := mul_bd ha hb
  exact w64 (by omega) (by omega)
theorem cmp (x y : Int) : cmp_Compare_int.f x y = some (if x < y then -1 else if x > y then 1 else 0) := by
  unfold cmp_Compare_int.f cmp_isNaN_int.f
  simp only [bne_self_eq_false, Option.bind_some, Bool.false_eq_true, if_false]
  by_cases h : x < y
  · simp [h]
  · by_cases h2 : x > y
    · simp [h, h2]
    · simp [h, h2]
theorem icmp {a b p q : Int} (ha : FracP a b) (hp : p.natAbs ≤ 1000000000) (hq : q.natAbs ≤ 1000000000) : impl_compare.f a b p q = some (if a * q < p * b then -1 else if a * q > p * b then 1 else 0) := by
  have h1 := ha.1; have h2 := ha.2.1; have h3 := ha.2.2.1; have h4 := ha.2.2.2.1
  unfold impl_compare.f
  rw [wmul 1000000000 1000000000 (by omega) (by omega) (by omega), wmul 1000000000 1000000000 (by omega) (by omega) (by omega), cmp]
  rfl
theorem sbefore {a b p q : Int} (ha : FracP a b) (hp : FracP p q) : Ev (fun k => spec_BeforeOf.f k a b p q) (if a * q < p * b then -1 else if a * q > p * b then 1 else 0) := by
  have h1 := ha.1; have h2 := ha.2.1; have h3 := ha.2.2.1; have h4 := ha.2.2.2.1
  have g1 := hp.1; have g2 := hp.2.1; have g3 := hp.2.2.1; have g4 := hp.2.2.2.1
  unfold spec_BeforeOf.f
  refine Ev.bind ((fracOk a b).yes ha) (evPos rfl (Ev.bind ((fracOk p q).yes hp) (Ev.step (fun k => by rw [spec_BeforeOf.j0]) ?_)))
  rw [wmul 1000000000 1000000000 (by omega) (by omega) (by omega), wmul 1000000000 1000000000 (by omega) (by omega) (by omega)]
  refine evNeg (by decide) ?_
  by_cases h : a * q < p * b
  · simp only [if_pos h]; exact Ev.now _
  · simp only [if_neg h]
    by_cases h5 : a * q > p * b
    · simp only [if_pos h5]; exact Ev.now _
    · simp only [if_neg h5]; exact Ev.now _
theorem whole_ok {n : Int} (h0 : 0 ≤ n) (h1 : n ≤ 1000000000) : FracP n 1 := ⟨by omega, by omega, by omega, by omega, by simp⟩
theorem cmp_gt (x y : Int) : ((if x < y then (-1 : Int) else if x > y then 1 else 0) > 0) ↔ x > y := by
  by_cases h : x < y
  · rw [if_pos h]; omega
  · rw [if_neg h]
    by_cases h2 : x > y
    · rw [if_pos h2]; omega
    · rw [if_neg h2]; omega
theorem ip_l0 {c : List Int} {d : List (List Int)} (h : BookP c d) (ps : List S36) (hp : ps.length = c.length) : ∀ (e i : Nat), c.length - i = e → i ≤ c.length →
    EvB (fun k => impl_arePays.l0 k ps (owes c d) ((owes c d).length : Int) (i : Int)) (∀ i' : Nat, i ≤ i' → i' < c.length → PayP c d ps i') := by
  have h4 := h.2.1
  have hol := owes_len c d
  intro e
  induction e with
  | zero =>
    intro i he hi
    refine EvB.step (fun k => by rw [impl_arePays.l0]) ?_
    exact EvB.neg (by omega) (EvB.tt (fun i' h1 h2 => by omega))
  | succ e ih =>
    intro i he hi
    have hlt : i < c.length := by omega
    have hs : wrap64 ((i : Int) + 1) = ((i + 1 : Nat) : Int) := wsucc hlt (by omega)
    have hob := ow_bd h hlt
    refine EvB.step (fun k => by rw [impl_arePays.l0]) ?_
    refine EvB.pos (by omega) (EvB.pos (by omega) (EvB.pos (by omega) (EvB.pos (by omega) ?_)))
    obtain ⟨b, hb, hbe⟩ := isFrac (fu ps i) (fd ps i)
    refine EvB.bind hbe ?_
    by_cases h1 : FracP (fu ps i) (fd ps i)
    · refine EvB.pos (hb.2 h1) ?_
      by_cases h2 : fu ps i < 0
      · exact EvB.pos h2 (EvB.ff (fun h => by have := (h i (Nat.le_refl _) hlt).2.1; omega))
      · refine EvB.neg h2 ?_
        rw [rd_owes hlt]
        refine EvB.bind0 (a := (ow c d i, 1)) rfl ?_
        refine EvB.bind0 (icmp (p := ow c d i) (q := 1) h1 (by omega) (by decide)) ?_
        rw [hs]
        by_cases h3 : fu ps i * 1 > ow c d i * fd ps i
        · exact EvB.pos ((cmp_gt _ _).2 h3) (EvB.ff (fun h => by have := (h i (Nat.le_refl _) hlt).2.2; omega))
        · refine EvB.neg (fun h' => h3 ((cmp_gt _ _).1 h')) ?_
          refine (ih (i + 1) (by omega) (by omega)).congr ⟨fun h' i' h5 h6 => ?_, fun h' i' h5 h6 => h' i' (by omega) h6⟩
          by_cases e' : i' = i
          · subst e'; exact ⟨h1, by omega, by omega⟩
          · exact h' i' (by omega) h6
    · exact EvB.neg (fun h' => h1 (hb.1 h')) (EvB.ff (fun h => h1 (h i (Nat.le_refl _) hlt).1))
theorem arePays (c : List Int) (d : List (List Int)) (ps : List S36) : EvB (fun k => impl_arePays.f k c d ps) (PaysP c d ps) := by
  unfold impl_arePays.f
  obtain ⟨b, hb, hbe⟩ := isBook c d
  refine EvB.bind hbe ?_
  by_cases h : BookP c d
  · refine EvB.pos (hb.2 h) (EvB.step (fun k => by rw [impl_arePays.j0]) ?_)
    by_cases hp : ps.length = c.length
    · refine EvB.neg (by rw [hp]; simp) (EvB.bind (iowes h) ?_)
      exact (ip_l0 h ps hp _ 0 rfl (by omega)).congr ⟨fun h' => ⟨h, hp, fun i hi => h' i (by omega) hi⟩, fun h' i _ hi => h'.2.2 i hi⟩
    · exact EvB.pos (bne_iff_ne.mpr (by omega)) (EvB.ff (fun h' => hp h'.2.1))
  · refine EvB.neg (fun h' => h (hb.1 h')) (EvB.step (fun k => by rw [impl_arePays.j0]) ?_)
    exact EvB.pos rfl (EvB.ff (fun h' => h h'.1))
theorem ipays (c : List Int) (d : List (List Int)) (ps : List S36) : EvB (fun k => impl_PaysOk.f k c d ps) (PaysP c d ps) := by
  unfold impl_PaysOk.f
  obtain ⟨b, hb, hbe⟩ := arePays c d ps
  exact EvB.bind hbe ⟨b, hb, Ev.now _⟩
theorem sp_l0 {c : List Int} {d : List (List Int)} (h : BookP c d) (ps : List S36) (hp : ps.length = c.length) : ∀ (e i : Nat), c.length - i = e → i ≤ c.length →
    EvB (fun k => spec_PaysOk.l0 k ps (owes c d) (i : Int) c d) (∀ i' : Nat, i ≤ i' → i' < c.length → PayP c d ps i') := by
  have h4 := h.2.1
  have hol := owes_len c d
  intro e
  induction e with
  | zero =>
    intro i he hi
    refine EvB.step (fun k => by rw [spec_PaysOk.l0]) ?_
    refine EvB.neg (by omega) (EvB.step (fun k => by rw [spec_PaysOk.j1]) ?_)
    refine EvB.neg (by decide) (EvB.bind ((bookOk c d).yes h) (EvB.pos rfl ?_))
    exact ⟨_, ⟨fun _ i' h1 h2 => by omega, fun _ => by rw [hp, hol]; simp⟩, Ev.now _⟩
  | succ e ih =>
    intro i he hi
    have hlt : i < c.length := by omega
    have hs : wrap64 ((i : Int) + 1) = ((i + 1 : Nat) : Int) := wsucc hlt (by omega)
    have hob := ow_bd h hlt
    refine EvB.step (fun k => by rw [spec_PaysOk.l0]) ?_
    refine EvB.pos (by omega) (EvB.step (fun k => by rw [spec_PaysOk.j1]) ?_)
    refine EvB.pos (by rw [hp, hol]; simp) (EvB.pos (by omega) (EvB.pos (by omega) ?_))
    obtain ⟨b, hb, hbe⟩ := fracOk (fu ps i) (fd ps i)
    refine EvB.bind hbe ?_
    by_cases h1 : FracP (fu ps i) (fd ps i)
    · refine EvB.pos (hb.2 h1) ?_
      by_cases h2 : fu ps i < 0
      · exact EvB.pos h2 (EvB.ff (fun h => by have := (h i (Nat.le_refl _) hlt).2.1; omega))
      · refine EvB.neg h2 (EvB.pos (by omega) ?_)
        rw [rd_owes hlt]
        refine EvB.bind (sbefore h1 (whole_ok hob.1 (by omega))) ?_
        rw [hs]
        by_cases h3 : fu ps i * 1 > ow c d i * fd ps i
        · exact EvB.pos ((cmp_gt _ _).2 h3) (EvB.ff (fun h => by have := (h i (Nat.le_refl _) hlt).2.2; omega))
        · refine EvB.neg (fun h' => h3 ((cmp_gt _ _).1 h')) ?_
          refine (ih (i + 1) (by omega) (by omega)).congr ⟨fun h' i' h5 h6 => ?_, fun h' i' h5 h6 => h' i' (by omega) h6⟩
          by_cases e' : i' = i
          · subst e'; exact ⟨h1, by omega, by omega⟩
          · exact h' i' (by omega) h6
    · exact EvB.neg (fun h' => h1 (hb.1 h')) (EvB.ff (fun h => h1 (h i (Nat.le_refl _) hlt).1))
theorem spays (c : List Int) (d : List (List Int)) (ps : List S36) (hps : ps.length ≤ 4611686018427387904) : EvB (fun k => spec_PaysOk.f k c d ps) (PaysP c d ps) := by
  unfold spec_PaysOk.f
  by_cases h : BookP c d
  · refine EvB.bind (sowes h) ?_
    by_cases hp : ps.length = c.length
    · exact (sp_l0 h ps hp _ 0 rfl (by omega)).congr ⟨fun h' => ⟨h, hp, fun i hi => h' i (by omega) hi⟩, fun h' i _ hi => h'.2.2 i hi⟩
    · have hol := owes_len c d
      have hn : ((ps.length : Int) == ((owes c d).length : Int)) = false := beq_eq_false_iff_ne.mpr (by omega)
      refine EvB.step (fun k => by rw [spec_PaysOk.l0]) ?_
      have fin : EvB (fun k => spec_PaysOk.j1 k ps (owes c d) 0 false c d) (PaysP c d ps) := by
        refine EvB.step (fun k => by rw [spec_PaysOk.j1]) ?_
        refine EvB.neg (by decide) (EvB.bind ((bookOk c d).yes h) (EvB.pos rfl ?_))
        exact ⟨_, ⟨fun h' => absurd h' (by rw [hn]; decide), fun h' => absurd h'.2.1 hp⟩, Ev.now _⟩
      rw [hn]
      by_cases h0 : (0 : Int) < (ps.length : Int)
      · exact EvB.pos h0 fin
      · exact EvB.neg h0 fin
  · refine EvB.bind (sowes_no h) ?_
    refine EvB.step (fun k => by rw [spec_PaysOk.l0]) ?_
    have fin : EvB (fun k => spec_PaysOk.j1 k ps [] 0 false c d) (PaysP c d ps) := by
      refine EvB.step (fun k => by rw [spec_PaysOk.j1]) ?_
      exact EvB.neg (by decide) (EvB.bind ((bookOk c d).no h) (EvB.neg (by decide) (EvB.ff (fun h' => h h'.1))))
    by_cases h0 : (0 : Int) < (ps.length : Int)
    · refine EvB.pos h0 ?_
      have hn : ((ps.length : Int) == (([] : List Int).length : Int)) = false := beq_eq_false_iff_ne.mpr (by show (ps.length : Int) ≠ ((0 : Nat) : Int); omega)
      rw [hn]
      exact fin
    · exact EvB.neg h0 fin
end Go.Proofs.Ytigpmfoagkhaeaa.Py
namespace Go.Proofs.Ytigpmfoagkhaeaa.Dp
open Go.RowKit Go.Proofs.Ytigpmfoagkhaeaa.PU Go.Proofs.Ytigpmfoagkhaeaa.Qh Go.Proofs.Ytigpmfoagkhaeaa.Dr Go.Proofs.Ytigpmfoagkhaeaa.Db Go.Proofs.Ytigpmfoagkhaeaa.Bk Go.Proofs.Ytigpmfoagkhaeaa.Ow Go.Proofs.Ytigpmfoagkhaeaa.Fr Go.Proofs.Ytigpmfoagkhaeaa.Py Go.Proofs.YtigpmfoagkhaeaaW.PrintWords Go.Proofs.YtigpmfoagkhaeaaW.PrintMore
set_option linter.unusedVariables false
set_option linter.unusedSimpArgs false
abbrev F := S36
def LowD (ps : List F) : Prop := ∀ x ∈ ps, 0 ≤ x.f1 ∧ x.f1 ≤ 6
theorem low_den (up down : Int) (hd : 0 < down) : 0 ≤ (low up down).2.1 ∧ (low up down).2.1 ≤ down := by
  unfold low
  have h1 := tdiv_natAbs down (Int.gcd up down)
  have h2 : 0 ≤ Int.tdiv down (Int.gcd up down : Nat) := Int.tdiv_nonneg (by omega) (Int.natCast_nonneg _)
  split
  · exact ⟨h2, by show Int.tdiv down (Int.gcd up down : Nat) ≤ down; omega⟩
  · exact ⟨by show (0 : Int) ≤ 0; omega, by show (0 : Int) ≤ down; omega⟩
theorem lowD_app {ps : List F} (h : LowD ps) (x : F) (h0 : 0 ≤ x.f1) (h1 : x.f1 ≤ 6) : LowD (ps ++ [x]) := by
  intro y hy
  rcases List.mem_append.mp hy with h2 | h2
  · exact h y h2
  · obtain rfl := List.mem_singleton.mp h2; exact ⟨h0, h1⟩
theorem lowD_set {ps : List F} (h : LowD ps) (i : Nat) (x : F) (h0 : 0 ≤ x.f1) (h1 : x.f1 ≤ 6) : LowD (ps.set i x) := by
  intro y hy
  rcases List.mem_or_eq_of_mem_set hy with h2 | rfl
  · exact h y h2
  · exact ⟨h0, h1⟩
def G (r : List F × Int) (p m : Int) : Prop := r.1.length ≤ 5 ∧ LowD r.1 ∧ p ≤ r.2 ∧ r.2 ≤ p + m
theorem py_l0 {b : List Int} (hb : Bytes b) (n : Int) (hn : 1 ≤ n) (hn2 : n ≤ 1000) (ow : List Int) (ho : ow.length ≤ 4) (hw : ∀ j : Nat, j < ow.length → 0 ≤ rd ow (j : Int) ∧ rd ow (j : Int) ≤ 36) : ∀ (e i : Nat) (ps : List F) (p : Int), ow.length - i = e → i ≤ ow.length →
    ps.length = i → LowD ps → 0 ≤ p → p ≤ 1000 + 10 * i → EvX (fun k => spec_l20Pays.l0 k n ps ow (i : Int) b p) (fun r => G r p (10 * e + 4)) := by
  intro e
  induction e with
  | zero =>
    intro i ps p he hi hps hl h0 h1
    refine EvX.step (fun k => by rw [spec_l20Pays.l0]) ?_
    refine EvX.neg (by omega) ?_
    obtain ⟨v, hv⟩ := podd hb p n hn hn2 h0 (by omega)
    refine EvX.bind hv ?_
    by_cases hvt : v = true
    · refine EvX.pos hvt ?_
      have app := lowD_app hl (⟨0, 1⟩ : F) (by show (0 : Int) ≤ 1; omega) (by show (1 : Int) ≤ 6; omega)
      by_cases hz : (ps.length : Int) = 0
      · exact EvX.pos hz (EvX.pos (by omega) (EvX.now ⟨by rw [List.length_append]; show ps.length + 1 ≤ 5; omega, app, by show p ≤ p + 1; omega, by show p + 1 ≤ _; omega⟩))
      refine EvX.neg hz ?_
      obtain ⟨w, _, _, _, hw2⟩ := pick hb (p + 1) 2 (by omega) (by omega)
      refine EvX.bind hw2 ?_
      by_cases hz2 : w = 0
      · exact EvX.pos hz2 (EvX.pos (by omega) (EvX.now ⟨by rw [List.length_append]; show ps.length + 1 ≤ 5; omega, app, by show p ≤ p + 1 + 1; omega, by show p + 1 + 1 ≤ _; omega⟩))
      refine EvX.neg hz2 (EvX.bind0 rfl ?_)
      obtain ⟨x, hx0, hx1, _, hx⟩ := pick hb (p + 1 + 1) 3 (by omega) (by omega)
      have hx3 := hx1 (by omega)
      refine EvX.bind hx (EvX.pos hx0 (EvX.pos (by simp; omega) (EvX.pos (by omega) (EvX.now ⟨by rw [List.length_set]; show ps.length ≤ 5; omega, ?_, by show p ≤ p + 1 + 1 + 1; omega, by show p + 1 + 1 + 1 ≤ _; omega⟩))))
      rcases (by omega : x = 0 ∨ x = 1 ∨ x = 2) with h | h | h <;> subst h
      · exact lowD_set hl _ _ (by show (0 : Int) ≤ 0; omega) (by show (0 : Int) ≤ 6; omega)
      · exact lowD_set hl _ _ (by show (0 : Int) ≤ 1; omega) (by show (1 : Int) ≤ 6; omega)
      · exact lowD_set hl _ _ (by show (0 : Int) ≤ 1; omega) (by show (1 : Int) ≤ 6; omega)
    · exact EvX.neg hvt (EvX.now ⟨by show ps.length ≤ 5; omega, hl, by show p ≤ p + 1; omega, by show p + 1 ≤ _; omega⟩)
  | succ e ih =>
    intro i ps p he hi hps hl h0 h1
    have hlt : i < ow.length := by omega
    have hs : Aside0 (wrap64 ((i : Int) + 1) = ((i + 1 : Nat) : Int)) := ⟨wsucc hlt (by omega)⟩
    have hb6 := hw i hlt
    have hm : Aside0 (wrap64 (wrap64 (rd ow (i : Int) * 6) + 1) = rd ow (i : Int) * 6 + 1) := ⟨by rw [w64 (n := rd ow (i : Int) * 6) (by omega) (by omega), w64 (by omega) (by omega)]⟩
    have hm1 : Aside0 (wrap64 (rd ow (i : Int) + 1) = rd ow (i : Int) + 1) := ⟨w64 (by omega) (by omega)⟩
    refine EvX.step (fun k => by rw [spec_l20Pays.l0]) ?_
    rw [hs.out, hm.out, hm1.out]
    refine EvX.pos (by omega) (EvX.pos (by omega) ?_)
    obtain ⟨v, hv0, hv1, _, hv⟩ := pick hb p (rd ow (i : Int) * 6 + 1) h0 (by omega)
    have hv2 := hv1 (by omega)
    refine EvX.bind hv (EvX.bind (slow v 6 (by omega) (by omega) (by omega)) ?_)
    obtain ⟨w, _, _, _, hw2⟩ := pick hb (p + 1) 4 (by omega) (by omega)
    refine EvX.bind hw2 ?_
    have go : ∀ (x : F) (p' : Int), 0 ≤ x.f1 → x.f1 ≤ 6 → p ≤ p' → p' ≤ p + 5 → EvX (fun k => if ps.length < 8796093022208 then spec_l20Pays.l0 k n (ps ++ [x]) ow ((i + 1 : Nat) : Int) b p' else none) (fun r => G r p (10 * ((e + 1 : Nat) : Int) + 4)) := by
      intro x p' a0 a1 a2 a3
      refine EvX.pos (by omega) ((ih (i + 1) (ps ++ [x]) p' (by omega) (by omega) (by rw [List.length_append, hps]; rfl) (lowD_app hl x a0 a1) (by omega) (by omega)).imp ?_)
      intro r hr
      exact ⟨hr.1, hr.2.1, by have := hr.2.2.1; omega, by have := hr.2.2.2; omega⟩
    by_cases c0 : w = 0
    · exact EvX.pos c0 (go _ _ (by show (0 : Int) ≤ 1; omega) (by show (1 : Int) ≤ 6; omega) (by omega) (by omega))
    refine EvX.neg c0 ?_
    by_cases c1 : w = 1
    · refine EvX.pos c1 ?_
      obtain ⟨x, _, _, _, hx⟩ := pick hb (p + 1 + 1) (rd ow (i : Int) + 1) (by omega) (by omega)
      exact EvX.bind hx (go _ _ (by show (0 : Int) ≤ 1; omega) (by show (1 : Int) ≤ 6; omega) (by omega) (by omega))
    · have hd := low_den v 6 (by omega)
      exact EvX.neg c1 (go _ _ hd.1 hd.2 (by omega) (by omega))
theorem pays {b : List Int} (hb : Bytes b) (n : Int) (hn : 1 ≤ n) (hn2 : n ≤ 1000) (c : List Int) (d : List (List Int)) (p : Int) (h0 : 0 ≤ p) (h1 : p ≤ 1000) : EvX (fun k => spec_l20Pays.f k b p c d n) (fun r => G r p 50) := by
  unfold spec_l20Pays.f
  by_cases h : BookP c d
  · refine EvX.bind (sowes h) ?_
    have hol := owes_len c d
    have h4 := h.2.1
    refine (py_l0 hb n hn hn2 (owes c d) (by omega) (fun j hj => ?_) _ 0 [] p rfl (by omega) rfl (fun x hx => by cases hx) h0 (by omega)).imp ?_
    · rw [rd_owes (by omega)]; exact ow_bd h (by omega)
    · intro r hr; exact ⟨hr.1, hr.2.1, hr.2.2.1, by have := hr.2.2.2; omega⟩
  · refine EvX.bind (sowes_no h) ?_
    refine (py_l0 hb n hn hn2 [] (by simp) (fun j hj => by simp at hj) _ 0 [] p rfl (by omega) rfl (fun x hx => by cases hx) h0 (by omega)).imp ?_
    intro r hr; exact ⟨hr.1, hr.2.1, hr.2.2.1, by have := hr.2.2.2; simp at this; omega⟩
end Go.Proofs.Ytigpmfoagkhaeaa.Dp
namespace Go.Proofs.Ytigpmfoagkhaeaa.Gt
open Go.RowKit Go.Proofs.Ytigpmfoagkhaeaa.PU Go.Proofs.Ytigpmfoagkhaeaa.Qh Go.Proofs.Ytigpmfoagkhaeaa.Bk Go.Proofs.Ytigpmfoagkhaeaa.Ow Go.Proofs.Ytigpmfoagkhaeaa.Fr Go.Proofs.Ytigpmfoagkhaeaa.Py Go.Proofs.YtigpmfoagkhaeaaW.PrintWords Go.Proofs.YtigpmfoagkhaeaaW.PrintMore
set_option linter.unusedVariables false
set_option linter.unusedSimpArgs false
def plusL (a b p q : Int) : Int × Int × Bool := low (a * q + p * b) (b * q)
def timesL (a b p q : Int) : Int × Int × Bool := low (a * p) (b * q)
theorem mpos {b q : Int} (hb : 1 ≤ b) (hq : 1 ≤ q) : 0 < b * q := Int.mul_pos (by omega) (by omega)
theorem iplus {a b p q : Int} (h : FracP a b) (k : FracP p q) : Ev (fun n => impl_plus.f n a b p q) (plusL a b p q) := by
  have h1 := h.1; have h2 := h.2.1; have h3 := h.2.2.1; have h4 := h.2.2.2.1
  have k1 := k.1; have k2 := k.2.1; have k3 := k.2.2.1; have k4 := k.2.2.2.1
  have m1 := mul_bd (a := a) (b := q) (m := 1000000000) (n := 1000000000) (by omega) (by omega)
  have m2 := mul_bd (a := p) (b := b) (m := 1000000000) (n := 1000000000) (by omega) (by omega)
  have m3 := mul_bd (a := b) (b := q) (m := 1000000000) (n := 1000000000) (by omega) (by omega)
  have mp := mpos h3 k3
  unfold impl_plus.f plusL
  rw [w64 (n := a * q) (by omega) (by omega), w64 (n := p * b) (by omega) (by omega), w64 (n := b * q) (by omega) (by omega), w64 (by omega) (by omega)]
  exact Ev.bind (ilowest _ _ mp (by omega) (by omega)) (Ev.now _)
theorem itimes {a b p q : Int} (h : FracP a b) (k : FracP p q) : Ev (fun n => impl_times.f n a b p q) (timesL a b p q) := by
  have h1 := h.1; have h2 := h.2.1; have h3 := h.2.2.1; have h4 := h.2.2.2.1
  have k1 := k.1; have k2 := k.2.1; have k3 := k.2.2.1; have k4 := k.2.2.2.1
  have m1 := mul_bd (a := a) (b := p) (m := 1000000000) (n := 1000000000) (by omega) (by omega)
  have m3 := mul_bd (a := b) (b := q) (m := 1000000000) (n := 1000000000) (by omega) (by omega)
  have mp := mpos h3 k3
  unfold impl_times.f timesL
  rw [w64 (n := a * p) (by omega) (by omega), w64 (n := b * q) (by omega) (by omega)]
  exact Ev.bind (ilowest _ _ mp (by omega) (by omega)) (Ev.now _)
theorem splus {a b p q : Int} (h : FracP a b) (k : FracP p q) : Ev (fun n => spec_PlusOf.f n a b p q) (plusL a b p q) := by
  have h1 := h.1; have h2 := h.2.1; have h3 := h.2.2.1; have h4 := h.2.2.2.1
  have k1 := k.1; have k2 := k.2.1; have k3 := k.2.2.1; have k4 := k.2.2.2.1
  have m1 := mul_bd (a := a) (b := q) (m := 1000000000) (n := 1000000000) (by omega) (by omega)
  have m2 := mul_bd (a := p) (b := b) (m := 1000000000) (n := 1000000000) (by omega) (by omega)
  have m3 := mul_bd (a := b) (b := q) (m := 1000000000) (n := 1000000000) (by omega) (by omega)
  have mp := mpos h3 k3
  unfold spec_PlusOf.f plusL
  rw [w64 (n := a * q) (by omega) (by omega), w64 (n := p * b) (by omega) (by omega), w64 (n := b * q) (by omega) (by omega), w64 (by omega) (by omega)]
  refine Ev.bind ((fracOk a b).yes h) (evPos rfl (Ev.bind ((fracOk p q).yes k) (evPos rfl ?_)))
  exact Ev.bind (slow _ _ mp (by omega) (by omega)) (Ev.now _)
theorem stimes {a b p q : Int} (h : FracP a b) (k : FracP p q) : Ev (fun n => spec_TimesOf.f n a b p q) (timesL a b p q) := by
  have h1 := h.1; have h2 := h.2.1; have h3 := h.2.2.1; have h4 := h.2.2.2.1
  have k1 := k.1; have k2 := k.2.1; have k3 := k.2.2.1; have k4 := k.2.2.2.1
  have m1 := mul_bd (a := a) (b := p) (m := 1000000000) (n := 1000000000) (by omega) (by omega)
  have m3 := mul_bd (a := b) (b := q) (m := 1000000000) (n := 1000000000) (by omega) (by omega)
  have mp := mpos h3 k3
  unfold spec_TimesOf.f timesL
  rw [w64 (n := a * p) (by omega) (by omega), w64 (n := b * q) (by omega) (by omega)]
  refine Ev.bind ((fracOk a b).yes h) (evPos rfl (Ev.bind ((fracOk p q).yes k) (evPos rfl ?_)))
  exact Ev.bind (slow _ _ mp (by omega) (by omega)) (Ev.now _)
theorem sfrac {x y : Int} (hx : -1000000000 ≤ x ∧ x ≤ 1000000000) (hy : 0 < y) (hy2 : y ≤ 1000000000) : Ev (fun n => spec_FracOf.f n x y) (low x y) := by
  unfold spec_FracOf.f
  refine evBind0 (Fr.l1In _ _ _) (evPos (decide_eq_true hx) (evBind0 (Fr.l1In _ _ _) (evPos (decide_eq_true ⟨by omega, hy2⟩) (evNeg (by omega) ?_))))
  exact Ev.bind (slow x y hy (by omega) (by omega)) (Ev.now _)
theorem low_fits {x y : Int} (hx : -1000000000 ≤ x ∧ x ≤ 1000000000) (hy : 0 < y) (hy2 : y ≤ 1000000000) : ∃ p q, low x y = (p, q, true) ∧ FracP p q ∧ q ≤ y := by
  have hg := gcd_pos (up := x) hy
  obtain ⟨s, hs⟩ : ((Int.gcd x y : Nat) : Int) ∣ x := Int.gcd_dvd_left ..
  obtain ⟨t, ht⟩ : ((Int.gcd x y : Nat) : Int) ∣ y := Int.gcd_dvd_right ..
  have hgi : ((Int.gcd x y : Nat) : Int) ≠ 0 := by omega
  have e1 : Int.tdiv x (Int.gcd x y : Nat) = s := by
    conv => lhs; arg 1; rw [hs]
    exact Int.mul_tdiv_cancel_left s hgi
  have e2 : Int.tdiv y (Int.gcd x y : Nat) = t := by
    conv => lhs; arg 1; rw [ht]
    exact Int.mul_tdiv_cancel_left t hgi
  have b1 := tdiv_natAbs x (Int.gcd x y)
  have b2 := tdiv_natAbs y (Int.gcd x y)
  rw [e1] at b1
  rw [e2] at b2
  have ht0 : 0 < t := by
    rcases Int.lt_or_le 0 t with h | h
    · exact h
    · have := Int.mul_nonpos_of_nonneg_of_nonpos (a := ((Int.gcd x y : Nat) : Int)) (by omega) h; omega
  have hgst : Int.gcd s t = 1 := by
    have h1 := Int.gcd_mul_left ((Int.gcd x y : Nat) : Int) s t
    rw [← hs, ← ht] at h1
    have h2 : Int.gcd x y * 1 = Int.gcd x y * Int.gcd s t := by simpa using h1
    exact (Nat.eq_of_mul_eq_mul_left hg h2).symm
  have hf : FracP s t := ⟨by omega, by omega, by omega, by omega, hgst⟩
  refine ⟨s, t, ?_, hf, by omega⟩
  unfold low
  rw [e1, e2, if_pos hf]
end Go.Proofs.Ytigpmfoagkhaeaa.Gt
namespace Go.Proofs.Ytigpmfoagkhaeaa.PU
open Go.RowKit Go.Proofs.YtigpmfoagkhaeaaW.PrintWords Go.Proofs.YtigpmfoagkhaeaaW.PrintLast Go.Proofs.YtigpmfoagkhaeaaW.PrintMore Go.Proofs.Ytigpmfoagkhaeaa.Qd
attribute [local go_sem] max2_int min2_int max_two min_two max_three min_three max_four min_four
set_option linter.unusedVariables false
set_option linter.unusedSimpArgs false
end Go.Proofs.Ytigpmfoagkhaeaa.PU
namespace Go.Proofs.Ytigpmfoagkhaeaa.Gv
open Go.RowKit Go.Proofs.Ytigpmfoagkhaeaa.PU Go.Proofs.Ytigpmfoagkhaeaa.Qh Go.Proofs.Ytigpmfoagkhaeaa.Bk Go.Proofs.Ytigpmfoagkhaeaa.Ow Go.Proofs.Ytigpmfoagkhaeaa.Fr Go.Proofs.Ytigpmfoagkhaeaa.Py Go.Proofs.Ytigpmfoagkhaeaa.Gt Go.Proofs.YtigpmfoagkhaeaaW.PrintWords Go.Proofs.YtigpmfoagkhaeaaW.PrintMore
set_option linter.unusedVariables false
set_option linter.unusedSimpArgs false
abbrev F := S36
section
variable (c : List Int) (d : List (List Int)) (ps : List F)
def pt (i k : Nat) : Int × Int × Bool := low (rd (rd_L2 d (k : Int)) (i : Int)) (ow c d k)
def tm (i k : Nat) : Int × Int × Bool := timesL (fu ps k) (fd ps k) (pt c d i k).1 (pt c d i k).2.1
def acc (i : Nat) : Nat → Nat → Int → Int → Option (Int × Int)
  | 0, _, a, b => some (a, b)
  | m + 1, k, a, b => if ow c d k = 0 then acc i m (k + 1) a b else if (plusL a b (tm c d ps i k).1 (tm c d ps i k).2.1).2.2 = true then acc i m (k + 1) (plusL a b (tm c d ps i k).1 (tm c d ps i k).2.1).1 (plusL a b (tm c d ps i k).1 (tm c d ps i k).2.1).2.1 else none
def gv : Nat → Nat → List F → List F × Bool
  | 0, _, out => (out, true)
  | m + 1, i, out => match acc c d ps i c.length 0 (rd c (i : Int)) 1 with
    | some r => gv m (i + 1) (out ++ [(⟨r.1, r.2⟩ : F)])
    | none => ([], false)
def getsV : List F × Bool := gv c d ps c.length 0 []
def Fits : Prop := ∀ i k : Nat, i < c.length → k < c.length → ow c d k ≠ 0 → (tm c d ps i k).2.2 = true
end
variable {c : List Int} {d : List (List Int)} {ps : List F}
theorem low_true {up down : Int} (hd : 0 < down) (h : (low up down).2.2 = true) : FracP (low up down).1 (low up down).2.1 := by
  have e : low up down = ((low up down).1, (low up down).2.1, true) := by rw [← h]
  exact (low_val hd e).1
theorem pt_ok (h : BookP c d) {i k : Nat} (hi : i < c.length) (hk : k < c.length) (h0 : ow c d k ≠ 0) : (pt c d i k).2.2 = true ∧ FracP (pt c d i k).1 (pt c d i k).2.1 := by
  have ho := ow_bd h hk
  have hx := (h.2.2.2 k hk).2.2.2.2 i hi
  obtain ⟨p, q, e, hf, _⟩ := low_fits (x := rd (rd_L2 d (k : Int)) (i : Int)) (y := ow c d k) ⟨by omega, by omega⟩ (by omega) (by omega)
  unfold pt
  rw [e]
  exact ⟨rfl, hf⟩
theorem tm_ok (h : PaysP c d ps) (hfit : Fits c d ps) {i k : Nat} (hi : i < c.length) (hk : k < c.length) (h0 : ow c d k ≠ 0) : FracP (tm c d ps i k).1 (tm c d ps i k).2.1 := by
  have hp := (pt_ok h.1 hi hk h0).2
  have hy := (h.2.2 k hk).1
  exact low_true (mpos hy.2.2.1 hp.2.2.1) (hfit i k hi hk h0)
theorem plus_ok {a b p q : Int} (h : FracP a b) (k : FracP p q) (e : (plusL a b p q).2.2 = true) : FracP (plusL a b p q).1 (plusL a b p q).2.1 := low_true (mpos h.2.2.1 k.2.2.1) e
theorem one_ok {n : Int} (h0 : 0 ≤ n) (h1 : n ≤ 1000000000) : FracP n 1 := whole_ok h0 h1
theorem own (h : PaysP c d ps) {i : Nat} (hi : i < c.length) (h0 : ow c d i ≠ 0) {a b : Int} (hab : FracP a b) : plusL a b (tm c d ps i i).1 (tm c d ps i i).2.1 = (a, b, true) := by
  have ho := ow_bd h.1 hi
  have hz := (h.1.2.2.2 i hi).2.2.2.1
  have hy := (h.2.2 i hi).1
  have e1 : pt c d i i = (0, 1, true) := by
    unfold pt; rw [hz]
    exact low_of (by omega) (one_ok (by omega) (by omega)) (by omega)
  have e2 : tm c d ps i i = (0, 1, true) := by
    unfold tm timesL; rw [e1]
    exact low_of (by have := hy.2.2.1; show 0 < fd ps i * 1; omega) (one_ok (by omega) (by omega)) (by show 0 * (fd ps i * 1) = fu ps i * 0 * 1; omega)
  rw [e2]
  unfold plusL
  exact low_of (by have := hab.2.2.1; show 0 < b * 1; omega) hab (by show a * (b * 1) = (a * 1 + 0 * b) * b; rw [Int.mul_one, Int.mul_one, Int.zero_mul, Int.add_zero])
theorem ig_l1 (h : PaysP c d ps) (hfit : Fits c d ps) {i : Nat} (hi : i < c.length) (out : List F) (ho : out.length ≤ 4) {r : List F × Bool}
    (hR : ∀ a b : Int, acc c d ps i c.length 0 (rd c (i : Int)) 1 = some (a, b) → Ev (fun n => impl_gets.l0 n ps (owes c d) (out ++ [(⟨a, b⟩ : F)]) c (c.length : Int) ((i + 1 : Nat) : Int) c d) r)
    (hN : acc c d ps i c.length 0 (rd c (i : Int)) 1 = none → r = ([], false)) : ∀ (e k : Nat) (a b : Int), c.length - k = e → k ≤ c.length → FracP a b → acc c d ps i e k a b = acc c d ps i c.length 0 (rd c (i : Int)) 1 →
    Ev (fun n => impl_gets.l1 n ps (owes c d) out (i : Int) c (c.length : Int) (i : Int) d (d.length : Int) (k : Int) c d a b) r := by
  have h4 := h.1.2.1
  have hdl := h.1.2.2.1
  have hs : Aside0 (wrap64 ((i : Int) + 1) = ((i + 1 : Nat) : Int)) := ⟨wsucc hi (by omega)⟩
  have hol := owes_len c d
  intro e
  induction e with
  | zero =>
    intro k a b he hk hab hacc
    refine Ev.step (fun n => by rw [impl_gets.l1]) ?_
    rw [hs.out]
    refine evNeg (by omega) (evPos (by omega) (hR a b ?_))
    rw [← hacc]; rfl
  | succ e ih =>
    intro k a b he hk hab hacc
    have hlt : k < c.length := by omega
    have hk1 : Aside0 (wrap64 ((k : Int) + 1) = ((k + 1 : Nat) : Int)) := ⟨wsucc hlt (by omega)⟩
    refine Ev.step (fun n => by rw [impl_gets.l1]) ?_
    refine evPos (by omega) (evPos (by omega) (evPos (by omega) ?_))
    have skip : (acc c d ps i (e + 1) k a b = acc c d ps i e (k + 1) a b) → Ev (fun n => impl_gets.j2 n ps (owes c d) out (i : Int) (k : Int) (rd_L2 d (k : Int)) c (c.length : Int) (i : Int) d (d.length : Int) (k : Int) true c d a b) r := by
      intro hh
      refine Ev.step (fun n => by rw [impl_gets.j2]) ?_
      refine evPos rfl ?_
      rw [hk1.out]
      exact ih (k + 1) a b (by omega) (by omega) hab (by rw [← hh]; exact hacc)
    by_cases hki : (k : Int) = (i : Int)
    · refine evPos hki (skip ?_)
      obtain rfl : k = i := by omega
      simp only [acc]
      by_cases hz : ow c d k = 0
      · rw [if_pos hz]
      · rw [if_neg hz, own h hlt hz hab, if_pos rfl]
    · refine evNeg hki (evPos (by omega) ?_)
      rw [rd_owes hlt]
      by_cases hz : ow c d k = 0
      · have hb : (ow c d k == 0) = true := beq_iff_eq.mpr hz
        rw [hb]
        exact skip (by simp only [acc]; rw [if_pos hz])
      · have hb : (ow c d k == 0) = false := beq_eq_false_iff_ne.mpr hz
        rw [hb]
        have hrow := (h.1.2.2.2 k hlt)
        have hob := ow_bd h.1 hlt
        have hx := hrow.2.2.2.2 i hi
        have hrl := hrow.2.2.1
        refine Ev.step (fun n => by rw [impl_gets.j2]) ?_
        refine evNeg (by decide) (evPos (by omega) (evPos (by omega) (evPos (by omega) (evPos (by omega) ?_))))
        rw [rd_owes hlt]
        have hpt := pt_ok h.1 hi hlt hz
        have htm := tm_ok h hfit hi hlt hz
        have htt := hfit i k hi hlt hz
        refine Ev.bind (a := pt c d i k) (ilowest _ _ (by omega) (by omega) (by omega)) (evPos (by rw [h.2.1]; omega) ?_)
        refine Ev.bind (a := tm c d ps i k) (itimes (h.2.2 k hlt).1 hpt.2) ?_
        refine Ev.bind (a := plusL a b (tm c d ps i k).1 (tm c d ps i k).2.1) (iplus hab htm) ?_
        refine evPos htt ?_
        simp only [acc] at hacc
        rw [if_neg hz] at hacc
        rw [hk1.out]
        by_cases hp : (plusL a b (tm c d ps i k).1 (tm c d ps i k).2.1).2.2 = true
        · rw [if_pos hp] at hacc
          refine evPos hp ?_
          exact ih (k + 1) _ _ (by omega) (by omega) (plus_ok hab htm hp) hacc
        · rw [if_neg hp] at hacc
          refine evNeg hp (evEq (Ev.now _) (hN hacc.symm).symm)
theorem ig_l0 (h : PaysP c d ps) (hfit : Fits c d ps) : ∀ (e i : Nat) (out : List F), c.length - i = e → i ≤ c.length → out.length = i →
    Ev (fun n => impl_gets.l0 n ps (owes c d) out c (c.length : Int) (i : Int) c d) (gv c d ps e i out) := by
  have h4 := h.1.2.1
  intro e
  induction e with
  | zero =>
    intro i out he hi hout
    refine Ev.step (fun n => by rw [impl_gets.l0]) ?_
    exact evNeg (by omega) (Ev.now _)
  | succ e ih =>
    intro i out he hi hout
    have hlt : i < c.length := by omega
    have hc := h.1.2.2.2 i hlt
    refine Ev.step (fun n => by rw [impl_gets.l0]) ?_
    refine evPos (by omega) (evPos (by omega) (evPos (by omega) (evBind0 (a := (rd c (i : Int), 1)) rfl ?_)))
    refine ig_l1 h hfit hlt out (by omega) ?_ ?_ c.length 0 (rd c (i : Int)) 1 rfl (by omega) (one_ok hc.1 (by have := hc.2.1; omega)) rfl
    · intro a b hab
      have := ih (i + 1) (out ++ [(⟨a, b⟩ : F)]) (by omega) (by omega) (by rw [List.length_append, hout]; rfl)
      simp only [gv, hab]
      exact this
    · intro hn
      simp only [gv, hn]
theorem igets (h : PaysP c d ps) (hfit : Fits c d ps) : Ev (fun n => impl_gets.f n c d ps) (getsV c d ps) := by
  unfold impl_gets.f
  exact Ev.bind (iowes h.1) (ig_l0 h hfit c.length 0 [] rfl (by omega) rfl)
theorem sg_l1 (h : PaysP c d ps) (hfit : Fits c d ps) {i : Nat} (hi : i < c.length) (out : List F) (ho : out.length ≤ 4) {r : List F × Bool}
    (hR : ∀ a b : Int, acc c d ps i c.length 0 (rd c (i : Int)) 1 = some (a, b) → Ev (fun n => spec_GetsOf.l0 n ps (out ++ [(⟨a, b⟩ : F)]) (owes c d) ((i + 1 : Nat) : Int) c d) r)
    (hN : acc c d ps i c.length 0 (rd c (i : Int)) 1 = none → r = ([], false)) : ∀ (e k : Nat) (a b : Int), c.length - k = e → k ≤ c.length → FracP a b → acc c d ps i e k a b = acc c d ps i c.length 0 (rd c (i : Int)) 1 →
    Ev (fun n => spec_GetsOf.l1 n ps out (owes c d) (i : Int) (k : Int) c d a b) r := by
  have h4 := h.1.2.1
  have hdl := h.1.2.2.1
  have hpl := h.2.1
  have hs : Aside0 (wrap64 ((i : Int) + 1) = ((i + 1 : Nat) : Int)) := ⟨wsucc hi (by omega)⟩
  have hol := owes_len c d
  intro e
  induction e with
  | zero =>
    intro k a b he hk hab hacc
    refine Ev.step (fun n => by rw [spec_GetsOf.l1]) ?_
    rw [hs.out]
    refine evNeg (by omega) (evPos (by omega) (hR a b ?_))
    rw [← hacc]; rfl
  | succ e ih =>
    intro k a b he hk hab hacc
    have hlt : k < c.length := by omega
    have hk1 : Aside0 (wrap64 ((k : Int) + 1) = ((k + 1 : Nat) : Int)) := ⟨wsucc hlt (by omega)⟩
    refine Ev.step (fun n => by rw [spec_GetsOf.l1]) ?_
    refine evPos (by omega) (evPos (by omega) (evPos (by omega) ?_))
    rw [rd_owes hlt, hk1.out]
    simp only [acc] at hacc
    by_cases hz : ow c d k = 0
    · rw [if_pos hz] at hacc
      exact evPos hz (ih (k + 1) a b (by omega) (by omega) hab hacc)
    · rw [if_neg hz] at hacc
      have hrow := (h.1.2.2.2 k hlt)
      have hob := ow_bd h.1 hlt
      have hx := hrow.2.2.2.2 i hi
      have hrl := hrow.2.2.1
      refine evNeg hz (evPos (by omega) (evPos (by omega) (evPos (by omega) ?_)))
      have hpt := pt_ok h.1 hi hlt hz
      have htm := tm_ok h hfit hi hlt hz
      have htt := hfit i k hi hlt hz
      refine Ev.bind (a := pt c d i k) (sfrac ⟨by omega, by omega⟩ (by omega) (by omega)) ?_
      refine Ev.bind (a := tm c d ps i k) (stimes (h.2.2 k hlt).1 hpt.2) ?_
      refine Ev.bind (a := plusL a b (tm c d ps i k).1 (tm c d ps i k).2.1) (splus hab htm) ?_
      refine evPos htt ?_
      by_cases hp : (plusL a b (tm c d ps i k).1 (tm c d ps i k).2.1).2.2 = true
      · rw [if_pos hp] at hacc
        refine evPos hp ?_
        exact ih (k + 1) _ _ (by omega) (by omega) (plus_ok hab htm hp) hacc
      · rw [if_neg hp] at hacc
        refine evNeg hp (evEq (Ev.now _) (hN hacc.symm).symm)
theorem sg_l0 (h : PaysP c d ps) (hfit : Fits c d ps) : ∀ (e i : Nat) (out : List F), c.length - i = e → i ≤ c.length → out.length = i →
    Ev (fun n => spec_GetsOf.l0 n ps out (owes c d) (i : Int) c d) (gv c d ps e i out) := by
  have h4 := h.1.2.1
  have hpl := h.2.1
  intro e
  induction e with
  | zero =>
    intro i out he hi hout
    refine Ev.step (fun n => by rw [spec_GetsOf.l0]) ?_
    exact evNeg (by omega) (Ev.now _)
  | succ e ih =>
    intro i out he hi hout
    have hlt : i < c.length := by omega
    have hc := h.1.2.2.2 i hlt
    refine Ev.step (fun n => by rw [spec_GetsOf.l0]) ?_
    refine evPos (by omega) (evPos (by omega) (evPos (by omega) ?_))
    refine sg_l1 h hfit hlt out (by omega) ?_ ?_ c.length 0 (rd c (i : Int)) 1 rfl (by omega) (one_ok hc.1 (by have := hc.2.1; omega)) rfl
    · intro a b hab
      have := ih (i + 1) (out ++ [(⟨a, b⟩ : F)]) (by omega) (by omega) (by rw [List.length_append, hout]; rfl)
      simp only [gv, hab]
      exact this
    · intro hn
      simp only [gv, hn]
theorem sgetsOf (h : PaysP c d ps) (hfit : Fits c d ps) : Ev (fun n => spec_GetsOf.f n c d ps) (getsV c d ps) := by
  have := h.1.2.1
  unfold spec_GetsOf.f
  exact evBind0 rfl (Ev.bind ((spays c d ps (by rw [h.2.1]; omega)).yes h) (evPos rfl (Ev.bind (sowes h.1) (sg_l0 h hfit c.length 0 [] rfl (by omega) rfl))))
theorem sgetsOf_no (hl : ps.length ≤ 4611686018427387904) (h : ¬ PaysP c d ps) : Ev (fun n => spec_GetsOf.f n c d ps) ([], false) := by
  unfold spec_GetsOf.f
  exact evBind0 rfl (Ev.bind ((spays c d ps hl).no h) (evNeg (by decide) (Ev.now _)))
end Go.Proofs.Ytigpmfoagkhaeaa.Gv
namespace Go.Proofs.Ytigpmfoagkhaeaa.Np
open Go.RowKit Go.Proofs.Ytigpmfoagkhaeaa.PU Go.Proofs.Ytigpmfoagkhaeaa.Qh Go.Proofs.Ytigpmfoagkhaeaa.Bk Go.Proofs.Ytigpmfoagkhaeaa.Ow Go.Proofs.Ytigpmfoagkhaeaa.Fr Go.Proofs.Ytigpmfoagkhaeaa.Py Go.Proofs.YtigpmfoagkhaeaaW.PrintWords Go.Proofs.YtigpmfoagkhaeaaW.PrintMore
set_option linter.unusedVariables false
set_option linter.unusedSimpArgs false
abbrev F := S36
def none_ (n : Nat) : List F := List.replicate n (⟨0, 1⟩ : F)
def all_ (c : List Int) (d : List (List Int)) : List F := (List.range c.length).map (fun i => (⟨ow c d i, 1⟩ : F))
theorem rF (xs : List F) (i : Nat) : rd_T36 xs (i : Int) = xs.getD i z36 := rfl
theorem none_get {n i : Nat} (h : i < n) : rd_T36 (none_ n) (i : Int) = (⟨0, 1⟩ : F) := by
  rw [rF, List.getD_eq_getElem?_getD, none_, List.getElem?_replicate, if_pos h]; rfl
theorem all_len (c : List Int) (d : List (List Int)) : (all_ c d).length = c.length := by simp [all_]
theorem all_get {c : List Int} {d : List (List Int)} {i : Nat} (h : i < c.length) : rd_T36 (all_ c d) (i : Int) = (⟨ow c d i, 1⟩ : F) := by
  rw [rF, List.getD_eq_getElem?_getD, List.getElem?_eq_getElem (by rw [all_len]; exact h)]; simp [all_]
theorem none_ok {c : List Int} {d : List (List Int)} (h : BookP c d) : PaysP c d (none_ c.length) := by
  refine ⟨h, by simp [none_], fun i hi => ?_⟩
  have ho := ow_bd h hi
  unfold PayP fu fd
  rw [none_get hi]
  exact ⟨whole_ok (n := 0) (by omega) (by omega), by show (0 : Int) ≤ 0; omega, by show (0 : Int) ≤ ow c d i * 1; omega⟩
theorem all_ok {c : List Int} {d : List (List Int)} (h : BookP c d) : PaysP c d (all_ c d) := by
  refine ⟨h, all_len c d, fun i hi => ?_⟩
  have ho := ow_bd h hi
  unfold PayP fu fd
  rw [all_get hi]
  exact ⟨whole_ok (n := ow c d i) ho.1 (by omega), ho.1, by show ow c d i ≤ ow c d i * 1; omega⟩
theorem inone_l (n : Nat) (hn : n ≤ 4) : ∀ (e i : Nat), n - i = e → i ≤ n → Ev (fun k => impl_nonePaid.l0 k (none_ i) (n : Int) (i : Int)) (none_ n) := by
  intro e
  induction e with
  | zero =>
    intro i he hi
    obtain rfl : i = n := by omega
    refine Ev.step (fun k => by rw [impl_nonePaid.l0]) ?_
    exact evNeg (by omega) (Ev.now _)
  | succ e ih =>
    intro i he hi
    have hlt : i < n := by omega
    have hs : Aside0 (wrap64 ((i : Int) + 1) = ((i + 1 : Nat) : Int)) := ⟨wsucc hlt (by omega)⟩
    have hl : (none_ i).length = i := by simp [none_]
    refine Ev.step (fun k => by rw [impl_nonePaid.l0]) ?_
    refine evPos (by omega) (evBind0 (a := (0, 1)) rfl (evPos (by omega) ?_))
    rw [hs.out]
    have := ih (i + 1) (by omega) (by omega)
    rwa [none_, List.replicate_succ'] at this
theorem inone (c : List Int) (d : List (List Int)) : Ev (fun k => impl_NonePaid.f k c d) (@ite _ (BookP c d) (Classical.propDecidable _) (none_ c.length) []) := by
  unfold impl_NonePaid.f
  by_cases h : BookP c d
  · have h4 := h.2.1
    refine Ev.bind ((isBook c d).yes h) (evPos rfl (Ev.bind (a := none_ c.length) ?_ ?_))
    · unfold impl_nonePaid.f
      exact inone_l c.length h4 _ 0 rfl (by omega)
    · rw [if_pos h]; exact Ev.now _
  · refine Ev.bind ((isBook c d).no h) (evNeg (by decide) ?_)
    rw [if_neg h]; exact Ev.now _
theorem iall_l {c : List Int} {d : List (List Int)} (h : BookP c d) : ∀ (e i : Nat), c.length - i = e → i ≤ c.length → Ev (fun k => impl_allPaid.l0 k ((List.range i).map (fun i => (⟨ow c d i, 1⟩ : F))) (owes c d) ((owes c d).length : Int) (i : Int)) (all_ c d) := by
  have h4 := h.2.1
  have hol := owes_len c d
  intro e
  induction e with
  | zero =>
    intro i he hi
    obtain rfl : i = c.length := by omega
    refine Ev.step (fun k => by rw [impl_allPaid.l0]) ?_
    exact evNeg (by omega) (Ev.now _)
  | succ e ih =>
    intro i he hi
    have hlt : i < c.length := by omega
    have hs : Aside0 (wrap64 ((i : Int) + 1) = ((i + 1 : Nat) : Int)) := ⟨wsucc hlt (by omega)⟩
    have hl : ((List.range i).map (fun i => (⟨ow c d i, 1⟩ : F))).length = i := by simp
    refine Ev.step (fun k => by rw [impl_allPaid.l0]) ?_
    refine evPos (by omega) (evPos (by omega) (evPos (by omega) ?_))
    rw [rd_owes hlt]
    refine evBind0 (a := (ow c d i, 1)) rfl (evPos (by omega) ?_)
    rw [hs.out]
    have := ih (i + 1) (by omega) (by omega)
    rwa [List.range_succ, List.map_append] at this
theorem iall (c : List Int) (d : List (List Int)) : Ev (fun k => impl_AllPaid.f k c d) (@ite _ (BookP c d) (Classical.propDecidable _) (all_ c d) []) := by
  unfold impl_AllPaid.f
  by_cases h : BookP c d
  · refine Ev.bind ((isBook c d).yes h) (evPos rfl (Ev.bind (a := all_ c d) ?_ ?_))
    · unfold impl_allPaid.f
      exact Ev.bind (iowes h) (iall_l h _ 0 rfl (by omega))
    · rw [if_pos h]; exact Ev.now _
  · refine Ev.bind ((isBook c d).no h) (evNeg (by decide) ?_)
    rw [if_neg h]; exact Ev.now _
end Go.Proofs.Ytigpmfoagkhaeaa.Np
namespace Go.Proofs.Ytigpmfoagkhaeaa.Vl
open Go.RowKit Go.Proofs.Ytigpmfoagkhaeaa.PU Go.Proofs.Ytigpmfoagkhaeaa.Qh Go.Proofs.Ytigpmfoagkhaeaa.Bk Go.Proofs.Ytigpmfoagkhaeaa.Ow Go.Proofs.Ytigpmfoagkhaeaa.Fr Go.Proofs.Ytigpmfoagkhaeaa.Py Go.Proofs.Ytigpmfoagkhaeaa.Gt Go.Proofs.Ytigpmfoagkhaeaa.Gv Go.Proofs.Ytigpmfoagkhaeaa.Np Go.Proofs.YtigpmfoagkhaeaaW.PrintWords Go.Proofs.YtigpmfoagkhaeaaW.PrintMore
set_option linter.unusedVariables false
set_option linter.unusedSimpArgs false
abbrev F := S36
def Is (D X a b : Int) : Prop := 0 < b ∧ a * D = X * b
def sumF (f : Nat → Int) : Nat → Int
  | 0 => 0
  | n + 1 => sumF f n + f n
theorem one_is (n : Int) (D : Int) : Is D (n * D) n 1 := ⟨by omega, by rw [Int.mul_one]⟩
theorem plus_is {D X Y a b p q s t : Int} (h : Is D X a b) (k : Is D Y p q) (e : plusL a b p q = (s, t, true)) : Is D (X + Y) s t := by
  have hb := h.1; have hq := k.1; have h2 := h.2; have k2 := k.2
  have m : 0 < b * q := Int.mul_pos hb hq
  obtain ⟨hf, hv⟩ := low_val m e
  refine ⟨by have := hf.2.2.1; omega, ?_⟩
  apply Int.eq_of_mul_eq_mul_right (a := b * q) (by omega)
  have e1 : s * D * (b * q) = (s * (b * q)) * D := by grind
  have e2 : (a * q + p * b) * t * D = (a * D) * q * t + (p * D) * b * t := by grind
  rw [e1, hv, e2, h2, k2]
  grind
variable {c : List Int} {d : List (List Int)} {ps : List F}
abbrev db (d : List (List Int)) (k i : Nat) : Int := rd (rd_L2 d (k : Int)) (i : Int)
def Rep (c : List Int) (d : List (List Int)) (ps : List F) (D : Int) (T : Nat → Int) (i : Nat) : Prop := ∀ k, k < c.length → k ≠ i → fu ps k * D = T k * ow c d k * fd ps k
theorem tm_is (h : PaysP c d ps) {D : Int} {T : Nat → Int} {i k : Nat} (hr : Rep c d ps D T i) (hki : k ≠ i) (hi : i < c.length) (hk : k < c.length) (h0 : ow c d k ≠ 0) (hfit : Fits c d ps) : Is D (T k * db d k i) (tm c d ps i k).1 (tm c d ps i k).2.1 := by
  have ho := ow_bd h.1 hk
  have hp := pt_ok h.1 hi hk h0
  have hy := (h.2.2 k hk).1
  have ht := hfit i k hi hk h0
  have hfd : 0 < fd ps k := by have := hy.2.2.1; omega
  have e1 : pt c d i k = ((pt c d i k).1, (pt c d i k).2.1, true) := by rw [← hp.1]
  have e2 : tm c d ps i k = ((tm c d ps i k).1, (tm c d ps i k).2.1, true) := by rw [← ht]
  have hpq : 0 < (pt c d i k).2.1 := by have := hp.2.2.2.1; omega
  have v1 := (low_val (up := db d k i) (down := ow c d k) (by omega) e1).2
  have v2 := low_val (up := fu ps k * (pt c d i k).1) (down := fd ps k * (pt c d i k).2.1) (Int.mul_pos hfd hpq) e2
  have hR := hr k hk hki
  refine ⟨by have := v2.1.2.2.1; omega, ?_⟩
  generalize (tm c d ps i k).1 = s at v2 ⊢
  generalize (tm c d ps i k).2.1 = t at v2 ⊢
  generalize (pt c d i k).1 = x at v1 v2
  generalize (pt c d i k).2.1 = y at v1 v2 hpq
  have w2 := v2.2
  generalize fu ps k = u at w2 hR
  generalize fd ps k = f at w2 hR hfd
  generalize ow c d k = o at v1 hR h0 ho
  generalize T k = τ at hR ⊢
  generalize db d k i = z at v1 ⊢
  have m : 0 < f * y * o := Int.mul_pos (Int.mul_pos hfd hpq) (by omega)
  apply Int.eq_of_mul_eq_mul_right (a := f * y * o) (by omega)
  have a1 : s * D * (f * y * o) = (s * (f * y)) * D * o := by grind
  have a2 : u * x * t * D * o = (u * D) * (x * o) * t := by grind
  rw [a1, w2, a2, hR, v1]
  grind
theorem db_zero (h : BookP c d) {i k : Nat} (hi : i < c.length) (hk : k < c.length) (h0 : ow c d k = 0) : db d k i = 0 := by
  have hx := fun j hj => (h.2.2.2 k hk).2.2.2.2 j hj
  have key : ∀ m : Nat, m ≤ c.length → (∀ j : Nat, j < m → db d k j ≤ sm (rd_L2 d (k : Int)) m) := by
    intro m
    induction m with
    | zero => intro _ j hj; omega
    | succ m ih =>
      intro hm j hj
      have h1 := sm_bd h hk m (by omega)
      have h2 := hx m (by omega)
      simp only [sm]
      by_cases e : j = m
      · subst e; show db d k j ≤ _; unfold db at *; omega
      · have := ih (by omega) j (by omega); unfold db at *; omega
  have := key c.length (Nat.le_refl _) i hi
  have h2 := hx i hi
  unfold ow at h0
  unfold db at *
  omega
theorem acc_is (h : PaysP c d ps) (hfit : Fits c d ps) {D : Int} {T : Nat → Int} {i : Nat} (hr : Rep c d ps D T i) (hi : i < c.length) : ∀ (e k : Nat) (a b s t : Int) (X : Int), c.length - k = e → k ≤ c.length → FracP a b → Is D X a b → acc c d ps i e k a b = some (s, t) →
    FracP s t ∧ Is D (X + (sumF (fun k => T k * db d k i) (k + e) - sumF (fun k => T k * db d k i) k)) s t := by
  intro e
  induction e with
  | zero =>
    intro k a b s t X he hk hf hX hacc
    simp only [acc, Option.some.injEq, Prod.mk.injEq] at hacc
    obtain ⟨rfl, rfl⟩ := hacc
    refine ⟨hf, ?_⟩
    rw [Nat.add_zero, Int.sub_self, Int.add_zero]
    exact hX
  | succ e ih =>
    intro k a b s t X he hk hf hX hacc
    have hlt : k < c.length := by omega
    have hs : sumF (fun k => T k * db d k i) (k + (e + 1)) = sumF (fun k => T k * db d k i) (k + 1 + e) := by rw [show k + (e + 1) = k + 1 + e by omega]
    have hs2 : sumF (fun k => T k * db d k i) (k + 1) = sumF (fun k => T k * db d k i) k + T k * db d k i := rfl
    simp only [acc] at hacc
    by_cases hz : ow c d k = 0
    · rw [if_pos hz] at hacc
      have := ih (k + 1) a b s t X (by omega) (by omega) hf hX hacc
      rw [hs2, db_zero h.1 hi hlt hz, Int.mul_zero, Int.add_zero] at this
      rw [hs]; exact this
    · rw [if_neg hz] at hacc
      by_cases hki : k = i
      · subst hki
        rw [own h hlt hz hf] at hacc
        simp only [if_pos] at hacc
        have := ih (k + 1) a b s t X (by omega) (by omega) hf hX hacc
        have hd : db d k k = 0 := (h.1.2.2.2 k hlt).2.2.2.1
        rw [hs2, hd, Int.mul_zero, Int.add_zero] at this
        rw [hs]; exact this
      by_cases hp : (plusL a b (tm c d ps i k).1 (tm c d ps i k).2.1).2.2 = true
      · rw [if_pos hp] at hacc
        have ht := tm_is h hr hki hi hlt hz hfit
        have htf := tm_ok h hfit hi hlt hz
        have e1 : plusL a b (tm c d ps i k).1 (tm c d ps i k).2.1 = ((plusL a b (tm c d ps i k).1 (tm c d ps i k).2.1).1, (plusL a b (tm c d ps i k).1 (tm c d ps i k).2.1).2.1, true) := by rw [← hp]
        have := ih (k + 1) _ _ s t (X + T k * db d k i) (by omega) (by omega) (plus_ok hf htf hp) (plus_is hX ht e1) hacc
        rw [hs2] at this
        rw [hs]
        refine ⟨this.1, ?_⟩
        have e2 : X + (sumF (fun k => T k * db d k i) (k + 1 + e) - sumF (fun k => T k * db d k i) k) = X + T k * db d k i + (sumF (fun k => T k * db d k i) (k + 1 + e) - (sumF (fun k => T k * db d k i) k + T k * db d k i)) := by omega
        rw [e2]
        exact this.2
      · rw [if_neg hp] at hacc; simp at hacc
def val (c : List Int) (d : List (List Int)) (D : Int) (T : Nat → Int) (i : Nat) : Int := rd c (i : Int) * D + sumF (fun k => T k * db d k i) c.length
theorem rF (xs : List F) (i : Nat) : rd_T36 xs (i : Int) = xs.getD i z36 := rfl
theorem fr_app (xs : List F) (x : F) (j : Nat) : rd_T36 (xs ++ [x]) (j : Int) = if j < xs.length then rd_T36 xs (j : Int) else if j = xs.length then x else z36 := by
  rw [rF, rF, List.getD_eq_getElem?_getD, List.getD_eq_getElem?_getD, List.getElem?_append]
  by_cases h : j < xs.length
  · simp [h]
  · by_cases e : j = xs.length
    · subst e; simp
    · rw [if_neg h, if_neg h, if_neg e, List.getElem?_eq_none (by simp; omega)]; rfl
theorem gv_is (h : PaysP c d ps) (hfit : Fits c d ps) {D : Nat → Int} {T : Nat → Nat → Int} (hr : ∀ i, i < c.length → Rep c d ps (D i) (T i) i) : ∀ (e i : Nat) (out res : List F), c.length - i = e → i ≤ c.length → out.length = i → (∀ j : Nat, j < i → FracP (fu out j) (fd out j) ∧ Is (D j) (val c d (D j) (T j) j) (fu out j) (fd out j)) → gv c d ps e i out = (res, true) →
    res.length = c.length ∧ ∀ j : Nat, j < c.length → FracP (fu res j) (fd res j) ∧ Is (D j) (val c d (D j) (T j) j) (fu res j) (fd res j) := by
  intro e
  induction e with
  | zero =>
    intro i out res he hi hl hj hg
    simp only [gv, Prod.mk.injEq, and_true] at hg
    subst hg
    exact ⟨by omega, fun j h2 => hj j (by omega)⟩
  | succ e ih =>
    intro i out res he hi hl hj hg
    have hlt : i < c.length := by omega
    have hc := h.1.2.2.2 i hlt
    simp only [gv] at hg
    cases ha : acc c d ps i c.length 0 (rd c (i : Int)) 1 with
    | none => rw [ha] at hg; simp at hg
    | some r =>
      rw [ha] at hg
      obtain ⟨s, t⟩ := r
      have hv := acc_is h hfit (hr i hlt) hlt c.length 0 _ _ s t _ rfl (by omega) (one_ok hc.1 (by have := hc.2.1; omega)) (one_is _ (D i)) ha
      refine ih (i + 1) _ res (by omega) (by omega) (by rw [List.length_append, hl]; rfl) ?_ hg
      intro j hj2
      unfold fu fd
      rw [fr_app, hl]
      by_cases e2 : j < i
      · rw [if_pos e2]; exact hj j e2
      · obtain rfl : j = i := by omega
        rw [if_neg e2, if_pos rfl]
        refine ⟨hv.1, ?_⟩
        have := hv.2
        rw [Nat.zero_add, show sumF (fun k => T j k * db d k j) 0 = 0 from rfl, Int.sub_zero] at this
        exact this
theorem gv_no : ∀ {e i : Nat} {out : List F}, (gv c d ps e i out).2 = true ∨ gv c d ps e i out = ([], false) := by
  intro e
  induction e with
  | zero => intro i out; left; rfl
  | succ e ih =>
    intro i out
    simp only [gv]
    cases acc c d ps i c.length 0 (rd c (i : Int)) 1 with
    | none => right; rfl
    | some r => exact ih
theorem gets_cases (h : PaysP c d ps) (hfit : Fits c d ps) : getsV c d ps = ([], false) ∨ ∃ res : List F, getsV c d ps = (res, true) ∧ res.length = c.length ∧ (∀ j : Nat, j < c.length → FracP (fu res j) (fd res j)) ∧ ∀ (D : Nat → Int) (T : Nat → Nat → Int), (∀ i, i < c.length → Rep c d ps (D i) (T i) i) → ∀ j : Nat, j < c.length → Is (D j) (val c d (D j) (T j) j) (fu res j) (fd res j) := by
  rcases gv_no (c := c) (d := d) (ps := ps) (e := c.length) (i := 0) (out := []) with h1 | h1
  · right
    have z := gv_is (D := fun _ => 0) (T := fun _ _ => 0) h hfit (fun i _ k _ _ => by simp) c.length 0 [] (getsV c d ps).1 rfl (by omega) rfl (fun j hj => by omega) (by rw [← h1]; rfl)
    refine ⟨(getsV c d ps).1, by rw [← h1]; rfl, z.1, fun j hj => (z.2 j hj).1, ?_⟩
    intro D T hr j hj
    exact ((gv_is h hfit hr c.length 0 [] _ rfl (by omega) rfl (fun j hj => by omega) (by rw [← h1]; rfl)).2 j hj).2
  · left; exact h1
theorem is_lt {D X Y a b p q : Int} (hD : 0 < D) (h : Is D X a b) (k : Is D Y p q) : (a * q < p * b) ↔ X < Y := by
  have hb := h.1; have hq := k.1; have h2 := h.2; have k2 := k.2
  have m : 0 < b * q := Int.mul_pos hb hq
  have e1 : a * q * D = X * (b * q) := by
    have : a * q * D = (a * D) * q := by grind
    rw [this, h2]; grind
  have e2 : p * b * D = Y * (b * q) := by
    have : p * b * D = (p * D) * b := by grind
    rw [this, k2]; grind
  constructor
  · intro hl
    have := Int.mul_lt_mul_of_pos_right hl hD
    rw [e1, e2] at this
    exact Int.lt_of_mul_lt_mul_right this (by omega)
  · intro hl
    have := Int.mul_lt_mul_of_pos_right hl m
    rw [← e1, ← e2] at this
    exact Int.lt_of_mul_lt_mul_right this (by omega)
end Go.Proofs.Ytigpmfoagkhaeaa.Vl
namespace Go.Proofs.Ytigpmfoagkhaeaa.Vf
open Go.RowKit Go.Proofs.Ytigpmfoagkhaeaa.PU Go.Proofs.Ytigpmfoagkhaeaa.Qh Go.Proofs.Ytigpmfoagkhaeaa.Bk Go.Proofs.Ytigpmfoagkhaeaa.Ow Go.Proofs.Ytigpmfoagkhaeaa.Fr Go.Proofs.Ytigpmfoagkhaeaa.Py Go.Proofs.Ytigpmfoagkhaeaa.Gt Go.Proofs.Ytigpmfoagkhaeaa.Gv Go.Proofs.Ytigpmfoagkhaeaa.Np Go.Proofs.Ytigpmfoagkhaeaa.Vl Go.Proofs.YtigpmfoagkhaeaaW.PrintWords Go.Proofs.YtigpmfoagkhaeaaW.PrintMore
set_option linter.unusedVariables false
set_option linter.unusedSimpArgs false
abbrev F := S36
variable {c : List Int} {d : List (List Int)} {ps : List F}
theorem fits_of (h : PaysP c d ps) (hM : ∀ k, k < c.length → fd ps k ≤ 3000000) : Fits c d ps := by
  intro i k hi hk h0
  have ho := ow_bd h.1 hk
  have hx := (h.1.2.2.2 k hk).2.2.2.2 i hi
  have hy := h.2.2 k hk
  have hf := hy.1
  have hfM := hM k hk
  have f3 := hf.2.2.1
  obtain ⟨p, q, e, hpf, hq⟩ := low_fits (x := rd (rd_L2 d (k : Int)) (i : Int)) (y := ow c d k) ⟨by omega, by omega⟩ (by omega) (by omega)
  have hv := (low_val (by omega) e).2
  have q1 := hpf.2.2.1
  have hp0 : 0 ≤ p := by
    rcases Int.lt_or_le p 0 with hn | hn
    · have h1 := Int.mul_lt_mul_of_pos_right hn (show 0 < ow c d k by omega)
      rw [Int.zero_mul, hv] at h1
      have h2 := Int.mul_nonneg hx.1 (show 0 ≤ q by omega)
      omega
    · exact hn
  have hp9 : p ≤ 9 := by
    rcases Int.lt_or_le 9 p with hn | hn
    · have h1 := Int.mul_lt_mul_of_pos_right hn (show 0 < ow c d k by omega)
      rw [hv] at h1
      have h2 := Int.mul_le_mul_of_nonneg_right hx.2 (show 0 ≤ q by omega)
      omega
    · exact hn
  have hu0 := hy.2.1
  have hu1 : fu ps k ≤ 36 * 3000000 := by
    have h1 := Int.mul_le_mul_of_nonneg_right (show ow c d k ≤ 36 by omega) (show 0 ≤ fd ps k by omega)
    have := hy.2.2
    omega
  have m0 := Int.mul_nonneg hu0 hp0
  have m1 : fu ps k * p ≤ fu ps k * 9 := Int.mul_le_mul_of_nonneg_left hp9 hu0
  have m2 : fd ps k * q ≤ fd ps k * 36 := Int.mul_le_mul_of_nonneg_left (by omega) (by omega)
  have m3 : 0 < fd ps k * q := Int.mul_pos (by omega) (by omega)
  unfold tm timesL pt
  rw [e]
  obtain ⟨s, t, e2, _, _⟩ := low_fits (x := fu ps k * p) (y := fd ps k * q) ⟨by omega, by omega⟩ m3 (by omega)
  show (low (fu ps k * p) (fd ps k * q)).2.2 = true
  rw [e2]
def prodF (f : Nat → Int) : Nat → Int
  | 0 => 1
  | n + 1 => prodF f n * f n
theorem prodF_pos {f : Nat → Int} : ∀ {n : Nat}, (∀ k, k < n → 0 < f k) → 0 < prodF f n
  | 0, _ => by show (0 : Int) < 1; omega
  | n + 1, h => Int.mul_pos (prodF_pos (fun k hk => h k (by omega))) (h n (by omega))
theorem prodF_dvd {f : Nat → Int} : ∀ {n k : Nat}, k < n → f k ∣ prodF f n
  | 0, _, h => by omega
  | n + 1, k, h => by
    by_cases e : k = n
    · subst e; exact ⟨prodF f k, by rw [prodF, Int.mul_comm]⟩
    · obtain ⟨z, hz⟩ := prodF_dvd (f := f) (n := n) (k := k) (by omega)
      exact ⟨z * f n, by rw [prodF, hz, Int.mul_assoc]⟩
theorem rep_ex (h : PaysP c d ps) : ∃ D T, 0 < D ∧ (∀ k, k < c.length → 0 ≤ T k) ∧ ∀ i, Rep c d ps D T i := by
  let m : Nat → Int := fun k => if ow c d k = 0 then 1 else fd ps k * ow c d k
  have hm : ∀ k, k < c.length → 0 < m k := by
    intro k hk
    have ho := ow_bd h.1 hk
    have := (h.2.2 k hk).1.2.2.1
    show 0 < (if ow c d k = 0 then (1 : Int) else fd ps k * ow c d k)
    split
    · omega
    · exact Int.mul_pos (by omega) (by omega)
  have hD := prodF_pos (f := m) (n := c.length) hm
  refine ⟨prodF m c.length, fun k => if ow c d k = 0 then 0 else fu ps k * (prodF m c.length / m k), hD, ?_, ?_⟩
  · intro k hk
    show 0 ≤ (if ow c d k = 0 then (0 : Int) else fu ps k * (prodF m c.length / m k))
    split
    · omega
    · exact Int.mul_nonneg (h.2.2 k hk).2.1 (Int.ediv_nonneg (by omega) (by have := hm k hk; omega))
  · intro i k hk _
    show fu ps k * prodF m c.length = (if ow c d k = 0 then (0 : Int) else fu ps k * (prodF m c.length / m k)) * ow c d k * fd ps k
    by_cases hz : ow c d k = 0
    · have h1 := (h.2.2 k hk).2.1
      have h2 := (h.2.2 k hk).2.2
      rw [hz, Int.zero_mul] at h2
      have h3 : fu ps k = 0 := by omega
      rw [if_pos hz, h3]; simp
    · rw [if_neg hz]
      have e : prodF m c.length / m k * m k = prodF m c.length := Int.ediv_mul_cancel (prodF_dvd (f := m) hk)
      have e2 : m k = fd ps k * ow c d k := if_neg hz
      generalize prodF m c.length / m k = z at e ⊢
      rw [← e, e2]
      grind
theorem sumF_nonneg {f : Nat → Int} : ∀ {n : Nat}, (∀ k, k < n → 0 ≤ f k) → 0 ≤ sumF f n
  | 0, _ => by show (0 : Int) ≤ 0; omega
  | n + 1, h => by
    have h1 := sumF_nonneg (f := f) (n := n) (fun k hk => h k (by omega))
    have h2 := h n (by omega)
    show 0 ≤ sumF f n + f n
    omega
theorem sumF_le {f g : Nat → Int} : ∀ {n : Nat}, (∀ k, k < n → f k ≤ g k) → sumF f n ≤ sumF g n
  | 0, _ => by show (0 : Int) ≤ 0; omega
  | n + 1, h => by
    have h1 := sumF_le (f := f) (g := g) (n := n) (fun k hk => h k (by omega))
    have h2 := h n (by omega)
    show sumF f n + f n ≤ sumF g n + g n
    omega
theorem db_bd (h : BookP c d) {i k : Nat} (hi : i < c.length) (hk : k < c.length) : 0 ≤ db d k i ∧ db d k i ≤ 9 := (h.2.2.2 k hk).2.2.2.2 i hi
theorem val_ge (h : BookP c d) {D : Int} {T : Nat → Int} (hT : ∀ k, k < c.length → 0 ≤ T k) {i : Nat} (hi : i < c.length) : rd c (i : Int) * D ≤ val c d D T i := by
  have := sumF_nonneg (f := fun k => T k * db d k i) (n := c.length) (fun k hk => Int.mul_nonneg (hT k hk) (db_bd h hi hk).1)
  unfold val
  omega
theorem rep_le (h : PaysP c d ps) : ∃ D T, 0 < D ∧ (∀ k, k < c.length → 0 ≤ T k) ∧ (∀ k, k < c.length → ow c d k ≠ 0 → T k ≤ D) ∧ ∀ i, Rep c d ps D T i := by
  obtain ⟨D, T, hD, hT, hR⟩ := rep_ex h
  refine ⟨D, T, hD, hT, ?_, hR⟩
  intro k hk h0
  have ho := ow_bd h.1 hk
  have hy := h.2.2 k hk
  have hf := hy.1.2.2.1
  have e := hR (k + 1) k hk (by omega)
  have m : 0 < ow c d k * fd ps k := Int.mul_pos (by omega) (by omega)
  have h1 := Int.mul_le_mul_of_nonneg_right hy.2.2 (show 0 ≤ D by omega)
  rw [e] at h1
  have h2 : T k * (ow c d k * fd ps k) ≤ D * (ow c d k * fd ps k) := by
    rw [Int.mul_comm D, ← Int.mul_assoc]; exact h1
  exact Int.le_of_mul_le_mul_right h2 m
theorem val_mono (h : BookP c d) {D : Int} {T U : Nat → Int} (hT : ∀ k, k < c.length → ow c d k ≠ 0 → T k ≤ U k) {i : Nat} (hi : i < c.length) : val c d D T i ≤ val c d D U i := by
  have : sumF (fun k => T k * db d k i) c.length ≤ sumF (fun k => U k * db d k i) c.length := by
    refine sumF_le (fun k hk => ?_)
    by_cases hz : ow c d k = 0
    · rw [db_zero h hi hk hz]; simp
    · exact Int.mul_le_mul_of_nonneg_right (hT k hk hz) (db_bd h hi hk).1
  unfold val
  omega
theorem val_all (c : List Int) (d : List (List Int)) (D : Int) (i : Nat) : val c d D (fun _ => D) i = (rd c (i : Int) + sumF (fun k => db d k i) c.length) * D := by
  have key : ∀ n : Nat, sumF (fun k => D * db d k i) n = sumF (fun k => db d k i) n * D := by
    intro n
    induction n with
    | zero => show (0 : Int) = 0 * D; simp
    | succ n ih => show sumF (fun k => D * db d k i) n + D * db d n i = (sumF (fun k => db d k i) n + db d n i) * D; rw [ih, Int.add_mul, Int.mul_comm D]
  unfold val
  rw [key, Int.add_mul]
theorem val_le (h : BookP c d) {D : Int} {T : Nat → Int} (hT : ∀ k, k < c.length → ow c d k ≠ 0 → T k ≤ D) {i : Nat} (hi : i < c.length) : val c d D T i ≤ (rd c (i : Int) + sumF (fun k => db d k i) c.length) * D := by
  rw [← val_all]; exact val_mono h hT hi
theorem none_fits (h : BookP c d) : Fits c d (none_ c.length) := fits_of (none_ok h) (fun k hk => by unfold fd; rw [none_get hk]; show (1 : Int) ≤ 3000000; omega)
theorem all_fits (h : BookP c d) : Fits c d (all_ c d) := fits_of (all_ok h) (fun k hk => by unfold fd; rw [all_get hk]; show (1 : Int) ≤ 3000000; omega)
theorem none_tm (h : BookP c d) {i k : Nat} (hi : i < c.length) (hk : k < c.length) (h0 : ow c d k ≠ 0) : tm c d (none_ c.length) i k = (0, 1, true) := by
  have hp := (pt_ok h hi hk h0).2
  unfold tm timesL fu fd
  rw [none_get hk]
  have := hp.2.2.1
  exact low_of (show 0 < 1 * (pt c d i k).2.1 by omega) (one_ok (by omega) (by omega)) (by show 0 * (1 * (pt c d i k).2.1) = 0 * (pt c d i k).1 * 1; simp)
theorem none_acc (h : BookP c d) {i : Nat} (hi : i < c.length) : ∀ (e k : Nat) (a b : Int), c.length - k = e → k ≤ c.length → FracP a b → acc c d (none_ c.length) i e k a b = some (a, b) := by
  intro e
  induction e with
  | zero => intro k a b _ _ _; rfl
  | succ e ih =>
    intro k a b he hk hf
    simp only [acc]
    by_cases hz : ow c d k = 0
    · rw [if_pos hz]; exact ih (k + 1) a b (by omega) (by omega) hf
    · have hpl : plusL a b 0 1 = (a, b, true) := by
        unfold plusL
        exact low_of (by have := hf.2.2.1; omega) hf (by grind)
      rw [if_neg hz, none_tm h hi (by omega) hz, hpl, if_pos rfl]
      exact ih (k + 1) a b (by omega) (by omega) hf
def wholes (f : Nat → Int) (n : Nat) : List F := (List.range n).map (fun i => (⟨f i, 1⟩ : F))
theorem wholes_len (f : Nat → Int) (n : Nat) : (wholes f n).length = n := by simp [wholes]
theorem wholes_get {f : Nat → Int} {n i : Nat} (h : i < n) : rd_T36 (wholes f n) (i : Int) = (⟨f i, 1⟩ : F) := by
  rw [Vl.rF, List.getD_eq_getElem?_getD, List.getElem?_eq_getElem (by rw [wholes_len]; exact h)]; simp [wholes]
theorem gv_whole {f : Nat → Int} (hf : ∀ i, i < c.length → acc c d ps i c.length 0 (rd c (i : Int)) 1 = some (f i, 1)) : ∀ (e i : Nat), c.length - i = e → i ≤ c.length → gv c d ps e i (wholes f i) = (wholes f c.length, true) := by
  intro e
  induction e with
  | zero =>
    intro i he hi
    obtain rfl : i = c.length := by omega
    rfl
  | succ e ih =>
    intro i he hi
    simp only [gv]
    rw [hf i (by omega)]
    have := ih (i + 1) (by omega) (by omega)
    rw [← this, wholes, wholes, List.range_succ, List.map_append]
    rfl
theorem none_gets (h : BookP c d) : getsV c d (none_ c.length) = (wholes (fun i => rd c (i : Int)) c.length, true) := by
  refine gv_whole (f := fun i => rd c (i : Int)) (fun i hi => ?_) c.length 0 rfl (by omega)
  have hc := h.2.2.2 i hi
  exact none_acc h hi c.length 0 _ _ rfl (by omega) (one_ok hc.1 (by have := hc.2.1; omega))
theorem all_tm (h : BookP c d) {i k : Nat} (hi : i < c.length) (hk : k < c.length) (h0 : ow c d k ≠ 0) : tm c d (all_ c d) i k = (db d k i, 1, true) := by
  have ho := ow_bd h hk
  have hb := db_bd h hi hk
  obtain ⟨p, q, e, hpf, hq⟩ := low_fits (x := db d k i) (y := ow c d k) ⟨by omega, by omega⟩ (by omega) (by omega)
  have hv := (low_val (by omega) e).2
  have q1 := hpf.2.2.1
  unfold tm timesL fu fd
  rw [all_get hk]
  have e2 : pt c d i k = (p, q, true) := e
  rw [e2]
  exact low_of (show 0 < 1 * q by omega) (one_ok hb.1 (by omega)) (by show db d k i * (1 * q) = ow c d k * p * 1; grind)
theorem all_acc (h : BookP c d) {i : Nat} (hi : i < c.length) : ∀ (e k : Nat) (a : Int), c.length - k = e → k ≤ c.length → 0 ≤ a → a ≤ 100 + 9 * k → acc c d (all_ c d) i e k a 1 = some (a + (sumF (fun k => db d k i) (k + e) - sumF (fun k => db d k i) k), 1) := by
  have h4 := h.2.1
  intro e
  induction e with
  | zero => intro k a _ _ _ _; simp [acc]
  | succ e ih =>
    intro k a he hk h0 h1
    have hlt : k < c.length := by omega
    have hb := db_bd h hi hlt
    have hs : sumF (fun k => db d k i) (k + (e + 1)) = sumF (fun k => db d k i) (k + 1 + e) := by rw [show k + (e + 1) = k + 1 + e by omega]
    have hs2 : sumF (fun k => db d k i) (k + 1) = sumF (fun k => db d k i) k + db d k i := rfl
    simp only [acc]
    by_cases hz : ow c d k = 0
    · rw [if_pos hz, ih (k + 1) a (by omega) (by omega) h0 (by omega), hs, hs2, db_zero h hi hlt hz]; simp
    · have hpl : plusL a 1 (db d k i) 1 = (a + db d k i, 1, true) := by
        unfold plusL
        exact low_of (by decide) (one_ok (by omega) (by omega)) (by simp)
      rw [if_neg hz, all_tm h hi hlt hz, hpl, if_pos rfl, ih (k + 1) (a + db d k i) (by omega) (by omega) (by omega) (by omega), hs, hs2]
      congr 1; congr 1; omega
theorem all_gets (h : BookP c d) : getsV c d (all_ c d) = (wholes (fun i => rd c (i : Int) + sumF (fun k => db d k i) c.length) c.length, true) := by
  refine gv_whole (f := fun i => rd c (i : Int) + sumF (fun k => db d k i) c.length) (fun i hi => ?_) c.length 0 rfl (by omega)
  have hc := h.2.2.2 i hi
  rw [all_acc h hi c.length 0 _ rfl (by omega) hc.1 (by have := hc.2.1; omega), Nat.zero_add, show sumF (fun k => db d k i) 0 = 0 from rfl, Int.sub_zero]
end Go.Proofs.Ytigpmfoagkhaeaa.Vf
namespace Go.Proofs.Ytigpmfoagkhaeaa.Pd
open Go.RowKit Go.Proofs.Ytigpmfoagkhaeaa.PU Go.Proofs.Ytigpmfoagkhaeaa.Qh Go.Proofs.Ytigpmfoagkhaeaa.Dr Go.Proofs.Ytigpmfoagkhaeaa.Db Go.Proofs.Ytigpmfoagkhaeaa.Bk Go.Proofs.Ytigpmfoagkhaeaa.Ow Go.Proofs.Ytigpmfoagkhaeaa.Fr Go.Proofs.Ytigpmfoagkhaeaa.Py Go.Proofs.Ytigpmfoagkhaeaa.Dp Go.Proofs.Ytigpmfoagkhaeaa.Gv Go.Proofs.Ytigpmfoagkhaeaa.Vl Go.Proofs.Ytigpmfoagkhaeaa.Vf Go.Proofs.YtigpmfoagkhaeaaW.PrintWords Go.Proofs.YtigpmfoagkhaeaaW.PrintMore
set_option linter.unusedVariables false
set_option linter.unusedSimpArgs false
abbrev F := S36
theorem paid {b : List Int} (hb : Bytes b) : ∃ (c : List Int) (d : List (List Int)) (ps : List F) (q : Int), ps.length ≤ 5 ∧ LowD ps ∧ Ev (fun k => spec_l20Paid.f k b 0) (c, d, ps, q) := by
  obtain ⟨⟨c, d, q⟩, hr, hbk⟩ := book hb 20 (by omega) (by omega) 0 (by omega) (by omega)
  have hq0 : 0 ≤ q := hr.2.2.2.1
  have hq1 : q ≤ 0 + 50 := hr.2.2.2.2
  obtain ⟨⟨ps, q2⟩, hg, hps⟩ := Dp.pays hb 14 (by omega) (by omega) c d q hq0 (by omega)
  refine ⟨c, d, ps, q2, hg.1, hg.2.1, ?_⟩
  unfold spec_l20Paid.f
  exact Ev.bind hbk (Ev.bind hps (Ev.now _))
theorem low_fits {c : List Int} {d : List (List Int)} {ps : List F} (h : PaysP c d ps) (hl : LowD ps) : Fits c d ps := by
  refine fits_of h (fun k hk => ?_)
  have hm : rd_T36 ps (k : Int) ∈ ps := by
    rw [Vl.rF]; exact getD_mem _ ps k (by rw [h.2.1]; exact hk)
  have := (hl _ hm).2
  unfold fd
  omega
end Go.Proofs.Ytigpmfoagkhaeaa.Pd
namespace Go.Proofs.Ytigpmfoagkhaeaa.PU
open Go.RowKit Go.Proofs.YtigpmfoagkhaeaaW.PrintWords Go.Proofs.YtigpmfoagkhaeaaW.PrintLast Go.Proofs.YtigpmfoagkhaeaaW.PrintMore Go.Proofs.Ytigpmfoagkhaeaa.Qd
attribute [local go_sem] max2_int min2_int max_two min_two max_three min_three max_four min_four
set_option linter.unusedVariables false
set_option linter.unusedSimpArgs false
end Go.Proofs.Ytigpmfoagkhaeaa.PU
namespace Go.Proofs.Ytigpmfoagkhaeaa.Bf
open Go.RowKit Go.Proofs.Ytigpmfoagkhaeaa.PU Go.Proofs.Ytigpmfoagkhaeaa.Qh Go.Proofs.Ytigpmfoagkhaeaa.Bk Go.Proofs.Ytigpmfoagkhaeaa.Ow Go.Proofs.Ytigpmfoagkhaeaa.Fr Go.Proofs.Ytigpmfoagkhaeaa.Py Go.Proofs.Ytigpmfoagkhaeaa.Vl Go.Proofs.Ytigpmfoagkhaeaa.Vf Go.Proofs.YtigpmfoagkhaeaaW.PrintWords Go.Proofs.YtigpmfoagkhaeaaW.PrintMore
set_option linter.unusedVariables false
set_option linter.unusedSimpArgs false
theorem ibefore {a b p q : Int} (ha : FracP a b) (hp : FracP p q) : Ev (fun k => impl_BeforeOf.f k a b p q) (if a * q < p * b then -1 else if a * q > p * b then 1 else 0) := by
  have g1 := hp.1; have g2 := hp.2.1; have g3 := hp.2.2.1; have g4 := hp.2.2.2.1
  unfold impl_BeforeOf.f
  exact Ev.bind ((isFrac a b).yes ha) (evPos rfl (Ev.bind ((isFrac p q).yes hp) (evPos rfl (evBind0 (icmp ha (by omega) (by omega)) (Ev.now _)))))
theorem cmp_lt (x y : Int) : ((if x < y then (-1 : Int) else if x > y then 1 else 0) < 0) ↔ x < y := by
  by_cases h : x < y
  · rw [if_pos h]; omega
  · rw [if_neg h]
    by_cases h2 : x > y
    · rw [if_pos h2]; omega
    · rw [if_neg h2]; omega
def od (c : List Int) (d : List (List Int)) (j : Nat) : Int := sumF (fun k => db d k j) c.length
theorem sumF_bd {c : List Int} {d : List (List Int)} (h : BookP c d) {j : Nat} (hj : j < c.length) : ∀ n : Nat, n ≤ c.length → 0 ≤ sumF (fun k => db d k j) n ∧ sumF (fun k => db d k j) n ≤ 9 * n
  | 0, _ => by simp [sumF]
  | n + 1, hn => by
    have h1 := sumF_bd h hj n (by omega)
    have h2 := db_bd h hj (show n < c.length by omega)
    show 0 ≤ sumF (fun k => db d k j) n + db d n j ∧ sumF (fun k => db d k j) n + db d n j ≤ 9 * ((n + 1 : Nat) : Int)
    omega
theorem od_bd {c : List Int} {d : List (List Int)} (h : BookP c d) {j : Nat} (hj : j < c.length) : 0 ≤ od c d j ∧ od c d j ≤ 36 := by
  have := sumF_bd h hj c.length (Nat.le_refl _); have := h.2.1; unfold od; omega
end Go.Proofs.Ytigpmfoagkhaeaa.Bf
namespace Go.Proofs.Ytigpmfoagkhaeaa.Li
open Go.RowKit Go.Proofs.Ytigpmfoagkhaeaa.PU Go.Proofs.Ytigpmfoagkhaeaa.Qh Go.Proofs.Ytigpmfoagkhaeaa.Bk Go.Proofs.Ytigpmfoagkhaeaa.Ow Go.Proofs.Ytigpmfoagkhaeaa.Fr Go.Proofs.Ytigpmfoagkhaeaa.Py Go.Proofs.Ytigpmfoagkhaeaa.Gt Go.Proofs.Ytigpmfoagkhaeaa.Gv Go.Proofs.Ytigpmfoagkhaeaa.Np Go.Proofs.Ytigpmfoagkhaeaa.Vl Go.Proofs.Ytigpmfoagkhaeaa.Vf Go.Proofs.Ytigpmfoagkhaeaa.Bf Go.Proofs.YtigpmfoagkhaeaaW.PrintWords Go.Proofs.YtigpmfoagkhaeaaW.PrintMore
set_option linter.unusedVariables false
set_option linter.unusedSimpArgs false
abbrev F := S36
def LI (n : Nat) (D : Int) (X : Nat → Int) (L : List F) : Prop := L.length = n ∧ ∀ i : Nat, i < n → FracP (fu L i) (fd L i) ∧ Is D (X i) (fu L i) (fd L i)
variable {c : List Int} {d : List (List Int)} {ps : List F}
theorem take_get {α : Type} {out res : List α} {dflt : α} {i : Nat} (hl : out.length = i) : (out ++ res.drop i).getD i dflt = res.getD i dflt := by
  rw [List.getD_eq_getElem?_getD, List.getD_eq_getElem?_getD, List.getElem?_append_right (by omega), List.getElem?_drop, hl, Nat.sub_self, Nat.add_zero]
theorem take_set {α : Type} {out res : List α} {v : α} {i : Nat} (hl : out.length = i) (hi : i < res.length) : (out ++ res.drop i).set i v = out ++ [v] ++ res.drop (i + 1) := by
  rw [List.set_append, if_neg (by omega), hl, Nat.sub_self, List.drop_eq_getElem_cons hi, List.set_cons_zero, List.append_assoc]
  rfl
def led (c : List Int) (d : List (List Int)) (res : List F) (i : Nat) : F := if fu res i * 1 > ow c d i * fd res i then (⟨ow c d i, 1⟩ : F) else rd_T36 res (i : Int)
def leadL (c : List Int) (d : List (List Int)) (res : List F) : List F := (List.range c.length).map (led c d res)
theorem leadL_len (res : List F) : (leadL c d res).length = c.length := by simp [leadL]
theorem leadL_get {res : List F} {i : Nat} (h : i < c.length) : rd_T36 (leadL c d res) (i : Int) = led c d res i := by
  rw [Vl.rF, List.getD_eq_getElem?_getD, List.getElem?_eq_getElem (by rw [leadL_len]; exact h)]; simp [leadL]
theorem lead_li (h : BookP c d) {D : Int} (hD : 0 < D) {X : Nat → Int} {res : List F} (hX : LI c.length D X res) : LI c.length D (fun i => min (X i) (ow c d i * D)) (leadL c d res) := by
  refine ⟨leadL_len res, fun i hi => ?_⟩
  have ho := ow_bd h hi
  obtain ⟨hf, hI⟩ := hX.2 i hi
  unfold fu fd
  rw [leadL_get hi]
  unfold led
  have hlt := is_lt hD (one_is (ow c d i) D) hI
  by_cases hc : fu res i * 1 > ow c d i * fd res i
  · rw [if_pos hc]
    have := hlt.1 (by omega)
    show FracP (ow c d i) 1 ∧ Is D (min (X i) (ow c d i * D)) (ow c d i) 1
    rw [Int.min_eq_right (by omega)]
    exact ⟨one_ok ho.1 (by omega), one_is _ _⟩
  · rw [if_neg hc]
    have := mt hlt.2 (by omega)
    show FracP (fu res i) (fd res i) ∧ Is D (min (X i) (ow c d i * D)) (fu res i) (fd res i)
    rw [Int.min_eq_left (by omega)]
    exact ⟨hf, hI⟩
theorem lead_pays (h : BookP c d) {D : Int} (hD : 0 < D) {X : Nat → Int} {res : List F} (hX : LI c.length D X res) (h0 : ∀ i : Nat, i < c.length → 0 ≤ X i) : PaysP c d (leadL c d res) := by
  refine ⟨h, leadL_len res, fun i hi => ?_⟩
  have ho := ow_bd h hi
  obtain ⟨hf, hI0⟩ := (lead_li h hD hX).2 i hi
  have hI : Is D (min (X i) (ow c d i * D)) (fu (leadL c d res) i) (fd (leadL c d res) i) := hI0
  have h0i := h0 i hi
  have hm : 0 ≤ ow c d i * D := Int.mul_nonneg ho.1 (by omega)
  refine ⟨hf, ?_, ?_⟩
  · have := mt (is_lt hD hI (one_is 0 D)).1 (by simp only [Int.zero_mul]; omega)
    rw [Int.mul_one, Int.zero_mul] at this
    omega
  · have := mt (is_lt hD (one_is (ow c d i) D) hI).1 (by omega)
    rw [Int.mul_one] at this
    omega
end Go.Proofs.Ytigpmfoagkhaeaa.Li
namespace Go.Proofs.Ytigpmfoagkhaeaa.PU
open Go.RowKit Go.Proofs.YtigpmfoagkhaeaaW.PrintWords Go.Proofs.YtigpmfoagkhaeaaW.PrintLast Go.Proofs.YtigpmfoagkhaeaaW.PrintMore Go.Proofs.Ytigpmfoagkhaeaa.Qd
attribute [local go_sem] max2_int min2_int max_two min_two max_three min_three max_four min_four
set_option linter.unusedVariables false
set_option linter.unusedSimpArgs false
end Go.Proofs.Ytigpmfoagkhaeaa.PU
namespace Go.Proofs.Ytigpmfoagkhaeaa.Sp
open Go.RowKit Go.Proofs.Ytigpmfoagkhaeaa.PU Go.Proofs.Ytigpmfoagkhaeaa.Qh Go.Proofs.Ytigpmfoagkhaeaa.Bk Go.Proofs.Ytigpmfoagkhaeaa.Ow Go.Proofs.Ytigpmfoagkhaeaa.Fr Go.Proofs.Ytigpmfoagkhaeaa.Py Go.Proofs.YtigpmfoagkhaeaaW.PrintWords Go.Proofs.YtigpmfoagkhaeaaW.PrintMore
set_option linter.unusedVariables false
set_option linter.unusedSimpArgs false
abbrev F := S36
theorem same_l (l : List F) (hl : l.length ≤ 4611686018427387904) : ∀ (e i : Nat), l.length - i = e → i ≤ l.length → Ev (fun k => laws_samePays.l0 k l l (i : Int)) true := by
  intro e
  induction e with
  | zero =>
    intro i he hi
    refine Ev.step (fun k => by rw [laws_samePays.l0]) ?_
    exact evNeg (by omega) (Ev.now _)
  | succ e ih =>
    intro i he hi
    have hlt : i < l.length := by omega
    have hs : wrap64 ((i : Int) + 1) = ((i + 1 : Nat) : Int) := wsucc hlt hl
    refine Ev.step (fun k => by rw [laws_samePays.l0]) ?_
    refine evPos (by omega) (evPos (by omega) (evPos (by omega) (evNeg (by simp) ?_)))
    rw [hs]
    exact ih (i + 1) (by omega) (by omega)
theorem same (l : List F) (hl : l.length ≤ 4611686018427387904) : Ev (fun k => laws_samePays.f k l l) true := by
  unfold laws_samePays.f
  exact evPos rfl (same_l l hl _ 0 rfl (by omega))
end Go.Proofs.Ytigpmfoagkhaeaa.Sp
namespace Go.Proofs.Ytigpmfoagkhaeaa.Al
open Go.RowKit Go.Proofs.Ytigpmfoagkhaeaa.PU Go.Proofs.Ytigpmfoagkhaeaa.Qh Go.Proofs.YtigpmfoagkhaeaaW.PrintWords Go.Proofs.YtigpmfoagkhaeaaW.PrintMore
set_option linter.unusedVariables false
set_option linter.unusedSimpArgs false
theorem alive : Ev (fun k => laws_alive.f k) true := Ev.of (fun k => laws_alive.mono k) (k := 12) (by decide +kernel)
end Go.Proofs.Ytigpmfoagkhaeaa.Al
namespace Go.Proofs.Ytigpmfoagkhaeaa.Flt
open Go.RowKit Go.Proofs.Ytigpmfoagkhaeaa.PU Go.Proofs.Ytigpmfoagkhaeaa.Qh Go.Proofs.Ytigpmfoagkhaeaa.Dr Go.Proofs.Ytigpmfoagkhaeaa.Db Go.Proofs.Ytigpmfoagkhaeaa.Bk Go.Proofs.Ytigpmfoagkhaeaa.Ow Go.Proofs.Ytigpmfoagkhaeaa.Fr Go.Proofs.Ytigpmfoagkhaeaa.Py Go.Proofs.Ytigpmfoagkhaeaa.Dp Go.Proofs.Ytigpmfoagkhaeaa.Gt Go.Proofs.Ytigpmfoagkhaeaa.Gv Go.Proofs.Ytigpmfoagkhaeaa.Np Go.Proofs.Ytigpmfoagkhaeaa.Vl Go.Proofs.Ytigpmfoagkhaeaa.Vf Go.Proofs.Ytigpmfoagkhaeaa.Li Go.Proofs.Ytigpmfoagkhaeaa.Pd Go.Proofs.Ytigpmfoagkhaeaa.Bf Go.Proofs.Ytigpmfoagkhaeaa.Sp Go.Proofs.YtigpmfoagkhaeaaW.PrintWords Go.Proofs.YtigpmfoagkhaeaaW.PrintMore
set_option linter.unusedVariables false
set_option linter.unusedSimpArgs false
abbrev F := S36
variable {c : List Int} {d : List (List Int)} {ps res : List F}
theorem rF (xs : List F) (i : Nat) : rd_T36 xs (i : Int) = xs.getD i z36 := rfl
theorem il_l0 (h : BookP c d) (hrl : res.length = c.length) (hr : ∀ j : Nat, j < c.length → FracP (fu res j) (fd res j)) : ∀ (e i : Nat), c.length - i = e → i ≤ c.length →
    Ev (fun k => impl_leadsTo.l0 k ((List.range i).map (led c d res) ++ res.drop i) (owes c d) ((owes c d).length : Int) (i : Int)) (leadL c d res, true) := by
  have h4 := h.2.1
  have hol := owes_len c d
  intro e
  induction e with
  | zero =>
    intro i he hi
    obtain rfl : i = c.length := by omega
    refine Ev.step (fun k => by rw [impl_leadsTo.l0]) ?_
    refine evNeg (by omega) (evEq (Ev.now _) ?_)
    rw [List.drop_of_length_le (by omega), List.append_nil]; rfl
  | succ e ih =>
    intro i he hi
    have hlt : i < c.length := by omega
    have hs : Aside0 (wrap64 ((i : Int) + 1) = ((i + 1 : Nat) : Int)) := ⟨wsucc hlt (by omega)⟩
    have hob := ow_bd h hlt
    have hout : ((List.range i).map (led c d res)).length = i := by simp
    have hx : rd_T36 ((List.range i).map (led c d res) ++ res.drop i) (i : Int) = rd_T36 res (i : Int) := by rw [rF, rF, take_get hout]
    have hll : ((List.range i).map (led c d res) ++ res.drop i).length = c.length := by rw [List.length_append, List.length_drop]; omega
    have hi' := ih (i + 1) (by omega) (by omega)
    rw [List.range_succ, List.map_append] at hi'
    refine Ev.step (fun k => by rw [impl_leadsTo.l0]) ?_
    rw [hx, hs.out, rd_owes hlt, Int.toNat_natCast]
    refine evPos (by omega) (evPos (by omega) (evPos (by omega) (evPos (by omega) ?_)))
    refine evBind0 (a := (ow c d i, 1)) rfl ?_
    refine evBind0 (icmp (p := ow c d i) (q := 1) (hr i hlt) (by omega) (by decide)) ?_
    by_cases hc : fu res i * 1 > ow c d i * fd res i
    · refine evPos ((cmp_gt _ _).2 hc) (evBind0 (a := (ow c d i, 1)) rfl ?_)
      rw [take_set hout (by omega)]
      have e2 : led c d res i = (⟨ow c d i, 1⟩ : F) := by unfold led; rw [if_pos hc]
      simp only [List.map_cons, List.map_nil, e2] at hi'
      exact hi'
    · refine evNeg (fun z => hc ((cmp_gt _ _).1 z)) ?_
      have e2 : led c d res i = rd_T36 res (i : Int) := by unfold led; rw [if_neg hc]
      simp only [List.map_cons, List.map_nil, e2] at hi'
      have e3 : res.drop i = rd_T36 res (i : Int) :: res.drop (i + 1) := by rw [rF]; exact drop_of _ _ _ (by omega)
      rw [e3]
      rw [List.append_assoc] at hi'
      exact hi'
theorem sall_l {c : List Int} {d : List (List Int)} (h : BookP c d) : ∀ (e i : Nat), c.length - i = e → i ≤ c.length → Ev (fun k => spec_AllPaid.l0 k (owes c d) ((List.range i).map (fun i => (⟨ow c d i, 1⟩ : F))) (i : Int)) (all_ c d) := by
  have h4 := h.2.1
  have hol := owes_len c d
  intro e
  induction e with
  | zero =>
    intro i he hi
    obtain rfl : i = c.length := by omega
    refine Ev.step (fun k => by rw [spec_AllPaid.l0]) ?_
    exact evNeg (by omega) (Ev.now _)
  | succ e ih =>
    intro i he hi
    have hlt : i < c.length := by omega
    have hs : Aside0 (wrap64 ((i : Int) + 1) = ((i + 1 : Nat) : Int)) := ⟨wsucc hlt (by omega)⟩
    have hl : ((List.range i).map (fun i => (⟨ow c d i, 1⟩ : F))).length = i := by simp
    refine Ev.step (fun k => by rw [spec_AllPaid.l0]) ?_
    refine evPos (by omega) (evPos (by omega) (evPos (by omega) ?_))
    rw [rd_owes hlt, hs.out]
    have := ih (i + 1) (by omega) (by omega)
    rwa [List.range_succ, List.map_append] at this
theorem sall {c : List Int} {d : List (List Int)} (h : BookP c d) : Ev (fun k => spec_AllPaid.f k c d) (all_ c d) := by
  unfold spec_AllPaid.f
  exact Ev.bind (sowes h) (sall_l h _ 0 rfl (by omega))
theorem sall_no {c : List Int} {d : List (List Int)} (h : ¬ BookP c d) : Ev (fun k => spec_AllPaid.f k c d) [] := by
  unfold spec_AllPaid.f
  exact Ev.bind (sowes_no h) (Ev.step (fun k => by rw [spec_AllPaid.l0]) (evNeg (by simp) (Ev.now _)))
theorem led_eq (h : BookP c d) {i : Nat} (hi : i < c.length) (hr : FracP (fu res i) (fd res i)) (h1 : ¬ fu res i * 1 < ow c d i * fd res i) : led c d res i = (⟨ow c d i, 1⟩ : F) := by
  have ho := ow_bd h hi
  unfold led
  by_cases hc : fu res i * 1 > ow c d i * fd res i
  · rw [if_pos hc]
  · rw [if_neg hc]
    have e : fu res i * 1 = ow c d i * fd res i := by omega
    have l1 := low_of (up := fu res i) (down := fd res i) (by have := hr.2.2.1; omega) hr rfl
    have l2 := low_of (up := fu res i) (down := fd res i) (p := ow c d i) (q := 1) (by have := hr.2.2.1; omega) (one_ok ho.1 (by omega)) (by omega)
    rw [l1] at l2
    simp only [Prod.mk.injEq, and_true] at l2
    obtain ⟨a1, a2⟩ := l2
    have : rd_T36 res (i : Int) = (⟨fu res i, fd res i⟩ : F) := rfl
    rw [this, a1, a2]
theorem sl_l0 (h : BookP c d) (hrl : res.length = c.length) (hr : ∀ j : Nat, j < c.length → FracP (fu res j) (fd res j)) : ∀ (e i : Nat), c.length - i = e → i ≤ c.length →
    Ev (fun k => spec_LeadsTo.l0 k res true (all_ c d) ((List.range i).map (led c d res)) (i : Int)) (leadL c d res, true) := by
  have h4 := h.2.1
  have hal := all_len c d
  intro e
  induction e with
  | zero =>
    intro i he hi
    obtain rfl : i = c.length := by omega
    refine Ev.step (fun k => by rw [spec_LeadsTo.l0]) ?_
    refine evNeg (by omega) (Ev.step (fun k => by rw [spec_LeadsTo.j1]) ?_)
    exact evNeg (by decide) (Ev.now _)
  | succ e ih =>
    intro i he hi
    have hlt : i < c.length := by omega
    have hs : Aside0 (wrap64 ((i : Int) + 1) = ((i + 1 : Nat) : Int)) := ⟨wsucc hlt (by omega)⟩
    have hob := ow_bd h hlt
    have hll : ((List.range i).map (led c d res)).length = i := by simp
    have hi' := ih (i + 1) (by omega) (by omega)
    rw [List.range_succ, List.map_append] at hi'
    refine Ev.step (fun k => by rw [spec_LeadsTo.l0]) ?_
    refine evPos (by omega) (Ev.step (fun k => by rw [spec_LeadsTo.j1]) ?_)
    rw [hs.out, all_get hlt]
    refine evPos rfl (evPos (by omega) (evPos (by omega) (evPos (by omega) ?_)))
    refine Ev.bind (sbefore (p := ow c d i) (q := 1) (hr i hlt) (one_ok hob.1 (by omega))) ?_
    by_cases hc : fu res i * 1 < ow c d i * fd res i
    · refine evPos ((cmp_lt _ _).2 hc) (evPos (by omega) ?_)
      have e2 : led c d res i = rd_T36 res (i : Int) := by unfold led; rw [if_neg (by omega)]
      simp only [List.map_cons, List.map_nil, e2] at hi'
      exact hi'
    · refine evNeg (fun z => hc ((cmp_lt _ _).1 z)) (evPos (by omega) ?_)
      have e2 := led_eq h hlt (hr i hlt) hc
      simp only [List.map_cons, List.map_nil, e2] at hi'
      exact hi'
theorem ileads (h : PaysP c d ps) (hf : Fits c d ps) {res : List F} (e : getsV c d ps = (res, true)) (hrl : res.length = c.length) (hr : ∀ j : Nat, j < c.length → FracP (fu res j) (fd res j)) : Ev (fun k => impl_LeadsTo.f k c d ps) (leadL c d res, true) := by
  have h1 := igets h hf
  rw [e] at h1
  have h2 : Ev (fun k => impl_leadsTo.f k c d ps) (leadL c d res, true) := by
    unfold impl_leadsTo.f
    exact Ev.bind h1 (evPos rfl (Ev.bind (iowes h.1) (il_l0 h.1 hrl hr _ 0 rfl (by omega))))
  unfold impl_LeadsTo.f
  exact Ev.bind ((arePays c d ps).yes h) (evPos rfl (Ev.bind h2 (Ev.now _)))
theorem leads_both (hl : ps.length ≤ 5) (hlow : LowD ps) :
    (Ev (fun n => impl_LeadsTo.f n c d ps) ([], false) ∧ Ev (fun n => spec_LeadsTo.f n c d ps) ([], false)) ∨
    ∃ res : List F, Ev (fun n => impl_LeadsTo.f n c d ps) (leadL c d res, true) ∧ Ev (fun n => spec_LeadsTo.f n c d ps) (leadL c d res, true) ∧ PaysP c d ps ∧
      ∀ (D : Int) (T : Nat → Int), (∀ i, Rep c d ps D T i) → LI c.length D (val c d D T) res := by
  have none_ : ∀ (h2 : Ev (fun n => spec_GetsOf.f n c d ps) ([], false)), Ev (fun n => spec_LeadsTo.f n c d ps) ([], false) := by
    intro h2
    unfold spec_LeadsTo.f
    have fin : ∀ al : List F, Ev (fun k => spec_LeadsTo.l0 k [] false al [] 0) ([], false) := fun al =>
      Ev.step (fun k => by rw [spec_LeadsTo.l0]) (evNeg (by simp) (Ev.step (fun k => by rw [spec_LeadsTo.j1]) (evNeg (by decide) (Ev.now _))))
    by_cases hb : BookP c d
    · exact Ev.bind h2 (Ev.bind (sall hb) (fin _))
    · exact Ev.bind h2 (Ev.bind (sall_no hb) (fin _))
  by_cases h : PaysP c d ps
  · have hf := Pd.low_fits h hlow
    have h1 := igets h hf
    have h2 := sgetsOf h hf
    rcases gets_cases h hf with e | ⟨res, e, hrl, hrf, hri⟩
    · rw [e] at h1 h2
      refine .inl ⟨?_, none_ h2⟩
      have h3 : Ev (fun k => impl_leadsTo.f k c d ps) ([], false) := by
        unfold impl_leadsTo.f
        exact Ev.bind h1 (evNeg (by decide) (Ev.now _))
      unfold impl_LeadsTo.f
      exact Ev.bind ((arePays c d ps).yes h) (evPos rfl (Ev.bind h3 (Ev.now _)))
    · rw [e] at h2
      refine .inr ⟨res, ileads h hf e hrl hrf, ?_, h, fun D T hR => ⟨hrl, fun i hi => ⟨hrf i hi, hri (fun _ => D) (fun _ => T) (fun i _ => hR i) i hi⟩⟩⟩
      unfold spec_LeadsTo.f
      exact Ev.bind h2 (Ev.bind (sall h.1) (sl_l0 h.1 hrl hrf _ 0 rfl (by omega)))
  · refine .inl ⟨?_, none_ (sgetsOf_no (by omega) h)⟩
    unfold impl_LeadsTo.f
    exact Ev.bind ((arePays c d ps).no h) (evNeg (by decide) (Ev.now _))
theorem below {n : Nat} (hn : n ≤ 5) {D : Int} (hD : 0 < D) {X Y : Nat → Int} {a b : List F} (ha : LI n D X a) (hb : LI n D Y b) (hle : ∀ i : Nat, i < n → X i ≤ Y i) : Ev (fun k => laws_belowPays.f k a b) true := by
  have la := ha.1
  have lb := hb.1
  have key : ∀ (e i : Nat), n - i = e → i ≤ n → Ev (fun k => laws_belowPays.l0 k a b (i : Int)) true := by
    intro e
    induction e with
    | zero =>
      intro i he hi
      refine Ev.step (fun k => by rw [laws_belowPays.l0]) ?_
      refine evNeg (by omega) (Ev.step (fun k => by rw [laws_belowPays.j1]) ?_)
      refine evNeg (by decide) (evEq (Ev.now _) ?_)
      rw [la, lb]; simp
    | succ e ih =>
      intro i he hi
      have hlt : i < n := by omega
      have hs : Aside0 (wrap64 ((i : Int) + 1) = ((i + 1 : Nat) : Int)) := ⟨wsucc hlt (by omega)⟩
      obtain ⟨fa, Ia⟩ := ha.2 i hlt
      obtain ⟨fb, Ib⟩ := hb.2 i hlt
      refine Ev.step (fun k => by rw [laws_belowPays.l0]) ?_
      have hd : decide ((i : Int) < (b.length : Int)) = true := decide_eq_true (by omega)
      rw [hd]
      refine evPos (by omega) (Ev.step (fun k => by rw [laws_belowPays.j1]) ?_)
      rw [hs.out]
      refine evPos rfl (evPos (by omega) (evPos (by omega) (evPos (by omega) ?_)))
      refine Ev.bind (ibefore fa fb) (evNeg (fun z => ?_) (ih (i + 1) (by omega) (by omega)))
      have h1 := (is_lt hD Ib Ia).1 ((cmp_gt _ _).1 z)
      have := hle i hlt
      omega
  unfold laws_belowPays.f
  exact key n 0 rfl (by omega)
def pk (ps : List F) (c : List Int) (d : List (List Int)) (l1 : List Int) (i : Nat) : F := if (l1.length : Int) > (i : Int) ∧ Int.tmod (rd l1 (i : Int)) 2 = 0 then (⟨ow c d i, 1⟩ : F) else rd_T36 ps (i : Int)
def moreL (ps : List F) (c : List Int) (d : List (List Int)) (l1 : List Int) : List F := (List.range c.length).map (pk ps c d l1)
theorem moreL_len (ps : List F) (c : List Int) (d : List (List Int)) (l1 : List Int) : (moreL ps c d l1).length = c.length := by simp [moreL]
theorem moreL_get {l1 : List Int} {i : Nat} (h : i < c.length) : rd_T36 (moreL ps c d l1) (i : Int) = pk ps c d l1 i := by
  rw [rF, List.getD_eq_getElem?_getD, List.getElem?_eq_getElem (by rw [moreL_len]; exact h)]; simp [moreL]
theorem more_low {l1 : List Int} (h : PaysP c d ps) (hl : LowD ps) : LowD (moreL ps c d l1) := by
  intro x hx
  unfold moreL at hx
  obtain ⟨i, hi, rfl⟩ := List.mem_map.mp hx
  have hi2 : i < c.length := List.mem_range.mp hi
  unfold pk
  split
  · exact ⟨by show (0 : Int) ≤ 1; omega, by show (1 : Int) ≤ 6; omega⟩
  · have hm : rd_T36 ps (i : Int) ∈ ps := by rw [rF]; exact getD_mem _ ps i (by rw [h.2.1]; exact hi2)
    exact hl _ hm
theorem fin {l1 : List Int} (h : BookP c d) {D : Int} (hD : 0 < D) (hp : PaysP c d ps) (hlow : LowD ps) (hpl : ps.length ≤ 5) {res : List F}
    (hres : ∀ (D : Int) (T : Nat → Int), (∀ i, Rep c d ps D T i) → LI c.length D (val c d D T) res) {a n : List F} {A N : Nat → Int} {T : Nat → Int} (hT : ∀ i, Rep c d ps D T i) (hT0 : ∀ k, k < c.length → 0 ≤ T k) (ha : LI c.length D A a) (hn : LI c.length D N n)
    (hA : ∀ i : Nat, i < c.length → min (val c d D T i) (ow c d i * D) ≤ A i) (hN : ∀ i : Nat, i < c.length → N i ≤ min (val c d D T i) (ow c d i * D)) :
    ∀ (e i : Nat), c.length - i = e → i ≤ c.length → Ev (fun k => laws_FnLeadsTo.l0 k l1 ps (leadL c d res) a true n true ((List.range i).map (pk ps c d l1)) (i : Int) c d) true := by
  have h4 := h.2.1
  have hal := all_len c d
  have hpl2 := hp.2.1
  intro e
  induction e with
  | zero =>
    intro i he hi
    obtain rfl : i = c.length := by omega
    refine Ev.step (fun k => by rw [laws_FnLeadsTo.l0]) ?_
    refine evNeg (by omega) ?_
    have hX := hres D T hT
    have hL := lead_li h hD hX
    have hpos : ∀ i : Nat, i < c.length → 0 ≤ val c d D T i := by
      intro i hi
      have h1 := val_ge h (D := D) hT0 hi
      have h2 := Int.mul_nonneg (h.2.2.2 i hi).1 (show 0 ≤ D by omega)
      omega
    have hpay := (ipays c d (leadL c d res)).yes (lead_pays h hD hX hpos)
    have b1 := below (by omega) hD hL ha hA
    have b2 := below (by omega) hD hn hL hN
    rcases leads_both (c := c) (d := d) (ps := moreL ps c d l1) (by rw [moreL_len]; omega) (more_low hp hlow) with ⟨o1, _⟩ | ⟨r2, o1, _, hp2, hr2⟩
    · refine Ev.bind o1 (Ev.bind hpay (evPos rfl (evPos rfl (Ev.bind b1 (evPos rfl (evPos rfl (Ev.bind b2 (evPos rfl (evNeg (by decide) (Ev.now _))))))))))
    · obtain ⟨D2, T2, hD2, hT2, hR2⟩ := rep_ex hp2
      have hDD : 0 < D * D2 := Int.mul_pos hD hD2
      have r1 : ∀ i, Rep c d ps (D * D2) (fun k => T k * D2) i := by
        intro i k hk hki
        have := hT i k hk hki
        show fu ps k * (D * D2) = T k * D2 * ow c d k * fd ps k
        rw [← Int.mul_assoc, this]; grind
      have r2' : ∀ i, Rep c d (moreL ps c d l1) (D * D2) (fun k => T2 k * D) i := by
        intro i k hk hki
        have := hR2 i k hk hki
        show fu (moreL ps c d l1) k * (D * D2) = T2 k * D * ow c d k * fd (moreL ps c d l1) k
        rw [Int.mul_comm D, ← Int.mul_assoc, this]; grind
      have hle : ∀ i : Nat, i < c.length → val c d (D * D2) (fun k => T k * D2) i ≤ val c d (D * D2) (fun k => T2 k * D) i := by
        intro i hi
        refine val_mono h (fun k hk h0 => ?_) hi
        have ho := ow_bd h hk
        have e1 := r1 (k + 1) k hk (by omega)
        have e2 := r2' (k + 1) k hk (by omega)
        have f1 := (hp.2.2 k hk).1.2.2.1
        have f2 := (hp2.2.2 k hk).1.2.2.1
        have hcmp : fu ps k * fd (moreL ps c d l1) k ≤ fu (moreL ps c d l1) k * fd ps k := by
          unfold fu fd
          rw [moreL_get hk]
          unfold pk
          split
          · have := (hp.2.2 k hk).2.2
            show fu ps k * 1 ≤ ow c d k * fd ps k
            omega
          · exact Int.le_refl _
        have hm : 0 < ow c d k * (fd ps k * fd (moreL ps c d l1) k) := Int.mul_pos (by omega) (Int.mul_pos (by omega) (by omega))
        have h1 := Int.mul_le_mul_of_nonneg_right hcmp (show 0 ≤ D * D2 by omega)
        have a1 : fu ps k * fd (moreL ps c d l1) k * (D * D2) = T k * D2 * (ow c d k * (fd ps k * fd (moreL ps c d l1) k)) := by
          have : fu ps k * fd (moreL ps c d l1) k * (D * D2) = (fu ps k * (D * D2)) * fd (moreL ps c d l1) k := by grind
          rw [this, e1]; grind
        have a2 : fu (moreL ps c d l1) k * fd ps k * (D * D2) = T2 k * D * (ow c d k * (fd ps k * fd (moreL ps c d l1) k)) := by
          have : fu (moreL ps c d l1) k * fd ps k * (D * D2) = (fu (moreL ps c d l1) k * (D * D2)) * fd ps k := by grind
          rw [this, e2]; grind
        rw [a1, a2] at h1
        exact Int.le_of_mul_le_mul_right h1 hm
      have L1 := lead_li h hDD (hres (D * D2) _ r1)
      have L2 := lead_li h hDD (hr2 (D * D2) _ r2')
      have b3 := below (by omega) hDD L1 L2 (fun i hi => by have := hle i hi; show min _ _ ≤ min _ _; omega)
      refine Ev.bind o1 (Ev.bind hpay (evPos rfl (evPos rfl (Ev.bind b1 (evPos rfl (evPos rfl (Ev.bind b2 (evPos rfl (evPos rfl (Ev.bind b3 (Ev.now _)))))))))))
  | succ e ih =>
    intro i he hi
    have hlt : i < c.length := by omega
    have hs : Aside0 (wrap64 ((i : Int) + 1) = ((i + 1 : Nat) : Int)) := ⟨wsucc hlt (by omega)⟩
    have hll : ((List.range i).map (pk ps c d l1)).length = i := by simp
    have hi' := ih (i + 1) (by omega) (by omega)
    rw [List.range_succ, List.map_append] at hi'
    refine Ev.step (fun k => by rw [laws_FnLeadsTo.l0]) ?_
    rw [hs.out]
    refine evPos (by omega) (Ev.bind (sall h) ?_)
    rw [all_get hlt]
    refine evPos (by omega) (evPos (by omega) ?_)
    by_cases h1 : (l1.length : Int) > (i : Int)
    · refine evPos h1 (evPos (by omega) ?_)
      by_cases h2 : Int.tmod (rd l1 (i : Int)) 2 = 0
      · refine evPos h2 (evPos (by omega) ?_)
        have e2 : pk ps c d l1 i = (⟨ow c d i, 1⟩ : F) := by unfold pk; rw [if_pos ⟨h1, h2⟩]
        simp only [List.map_cons, List.map_nil, e2] at hi'
        exact hi'
      · refine evNeg h2 (evPos (by omega) ?_)
        have e2 : pk ps c d l1 i = rd_T36 ps (i : Int) := by unfold pk; rw [if_neg (fun z => h2 z.2)]
        simp only [List.map_cons, List.map_nil, e2] at hi'
        exact hi'
    · refine evNeg h1 (evPos (by omega) ?_)
      have e2 : pk ps c d l1 i = rd_T36 ps (i : Int) := by unfold pk; rw [if_neg (fun z => h1 z.1)]
      simp only [List.map_cons, List.map_nil, e2] at hi'
      exact hi'
theorem wholes_li {f : Nat → Int} {n : Nat} (D : Int) (hf : ∀ i : Nat, i < n → 0 ≤ f i ∧ f i ≤ 1000000000) : LI n D (fun i => f i * D) (wholes f n) := by
  refine ⟨wholes_len f n, fun i hi => ?_⟩
  unfold fu fd
  rw [wholes_get hi]
  exact ⟨one_ok (hf i hi).1 (hf i hi).2, one_is _ _⟩
theorem holds : laws_FnLeadsTo.Pure := by
  intro l0 l1 _ _ hu _ _ _
  refine Ev.rounds (g := fun k => laws_FnLeadsTo.f k l0 l1) ?_
  unfold laws_FnLeadsTo.f
  have skip : Ev (fun k => laws_FnLeadsTo.j0 k l0 l1 true) true := Ev.step (fun k => by rw [laws_FnLeadsTo.j0]) (evPos rfl (Ev.now _))
  by_cases a : (l0.length : Int) > 1048576
  · exact evPos a skip
  refine evNeg a ?_
  by_cases a2 : (l1.length : Int) > 1048576
  · rw [decide_eq_true a2]; exact skip
  rw [decide_eq_false a2]
  refine Ev.step (fun k => by rw [laws_FnLeadsTo.j0]) (evNeg (by decide) ?_)
  obtain ⟨b, hb, ho⟩ := Dr.open_ l0 hu
  obtain ⟨c, d, ps, q, hpl, hlow, hpd⟩ := paid hb
  have hd : Ev (fun k => spec_DrawLeadsTo.f k l0) (c, d, ps) := by
    unfold spec_DrawLeadsTo.f
    exact evBind0 ho (Ev.bind hpd (Ev.now _))
  refine Ev.bind hd ?_
  rcases leads_both (c := c) (d := d) hpl hlow with ⟨h1, h2⟩ | ⟨res, h1, h2, hp, hres⟩
  · refine Ev.bind h1 (Ev.bind h2 (Ev.bind (same [] (by simp)) (evPos rfl ?_)))
    refine Ev.step (fun k => by rw [laws_FnLeadsTo.j1]) ?_
    exact evNeg (by decide) (evNeg (by decide) (evPos rfl (Ev.bind Al.alive (Ev.now _))))
  · have h := hp.1
    have h4 := h.2.1
    have hl := leadL_len (c := c) (d := d) res
    refine Ev.bind h1 (Ev.bind h2 (Ev.bind (same (leadL c d res) (by omega)) (evPos rfl ?_)))
    refine Ev.step (fun k => by rw [laws_FnLeadsTo.j1]) ?_
    refine evNeg (by simp) (evPos rfl (Ev.bind (iall c d) ?_))
    rw [if_pos h]
    obtain ⟨D, T, hD, hT0, hTD, hT⟩ := rep_le hp
    have wa : ∀ j : Nat, j < c.length → 0 ≤ rd c (j : Int) + sumF (fun k => db d k j) c.length ∧ rd c (j : Int) + sumF (fun k => db d k j) c.length ≤ 1000000000 := by
      intro j hj
      have hc := h.2.2.2 j hj
      have ho := od_bd h hj
      unfold od at ho
      exact ⟨by have := hc.1; omega, by have := hc.2.1; omega⟩
    have wn : ∀ j : Nat, j < c.length → 0 ≤ rd c (j : Int) ∧ rd c (j : Int) ≤ 1000000000 := by
      intro j hj
      have hc := h.2.2.2 j hj
      exact ⟨hc.1, by have := hc.2.1; omega⟩
    have Wa := wholes_li (f := fun i => rd c (i : Int) + sumF (fun k => db d k i) c.length) D wa
    have Wn := wholes_li (f := fun i => rd c (i : Int)) D wn
    have i1 := ileads (all_ok h) (all_fits h) (all_gets h) Wa.1 (fun j hj => (Wa.2 j hj).1)
    have i2 := ileads (none_ok h) (none_fits h) (none_gets h) Wn.1 (fun j hj => (Wn.2 j hj).1)
    refine Ev.bind i1 (Ev.bind (inone c d) ?_)
    rw [if_pos h]
    refine Ev.bind i2 ?_
    refine fin h hD hp hlow hpl hres hT hT0 (lead_li h hD Wa) (lead_li h hD Wn) ?_ ?_ _ 0 rfl (by omega)
    · intro i hi
      have := val_le h hTD hi (D := D)
      show min (val c d D T i) (ow c d i * D) ≤ min ((rd c (i : Int) + sumF (fun k => db d k i) c.length) * D) (ow c d i * D)
      omega
    · intro i hi
      have := val_ge h hT0 hi (D := D)
      show min (rd c (i : Int) * D) (ow c d i * D) ≤ min (val c d D T i) (ow c d i * D)
      omega
end Go.Proofs.Ytigpmfoagkhaeaa.Flt
namespace Go.Proofs.Ytigpmfoagkhaeaa.Pure
open Go.RowKit Go.Proofs.Ytigpmfoagkhaeaa.PU
theorem FnLeadsTo : laws_FnLeadsTo.Pure := Go.Proofs.Ytigpmfoagkhaeaa.Flt.holds
end Go.Proofs.Ytigpmfoagkhaeaa.Pure
namespace Go.Proofs.YtigpmfoagkhaeaaW.PrintWords
open Go.ChangeShapes Go.WideShapes
theorem sized_ints {H : Type} {enc : TypeId × Value → H} {P : Program} {W : World} {base : Nat} {spare : Nat → Bool} {held : Bool} {t e : TypeId} {k : IntKind} {a : Option Addr} {len cap : Nat} {d : DataW H} {ps : List MemPlace} {ts : List TypeId} {ds : List (DataW H)} {j : Nat}
    (hsz : (DataW.weightsEach P ts ds).all (· ≤ reachBytes) = true) (ht : ts[j]? = some t) (hd : ds[j]? = some d) (hu : P.underlying t = some (.slice e)) (he : P.underlying e = some (.int k)) (hc : P.cellsOf e = 1) {B : Nat} (hB : P.bytesOf e = B)
    (h : DataW.Trod enc P W base spare held t (.slice a len cap) d ps) : len * B ≤ 140737488351232 := by
  obtain ⟨fuel, hf⟩ := h
  rcases open_ints hu he hc hf with ⟨hcs, _⟩ | ⟨x, l, c, zs, hcs, _, hl, _, hz, hx, _, _⟩
  · simp [Value.cells] at hcs
    obtain ⟨rfl, rfl, rfl⟩ := hcs
    simp
  · simp [Value.cells] at hcs
    obtain ⟨rfl, rfl, rfl⟩ := hcs
    obtain ⟨hx, _⟩ := Prod.mk.inj hx
    subst hx
    have z := sized_slice hsz ht hd hu
    rw [hB] at z
    have hl2 : len ≤ zs.length := by
      rw [hz]
      split
      · exact hl
      · exact Nat.le_refl _
    have h1 : (lits (H := H) k (zs.take len)).length + (lits (H := H) k (zs.drop len)).length = zs.length := by
      simp [lits]
      omega
    rw [h1] at z
    exact Nat.le_trans (Nat.mul_le_mul_right _ hl2) z
end Go.Proofs.YtigpmfoagkhaeaaW.PrintWords
namespace Go.Proofs.Ytigpmfoagkhaeaa.fnLeadsTo
open Go.ChangeShapes Go.WideShapes Go.ChangeAt Go.RowKit
open Go.ChangeMaps (open_string shut_string)
set_option linter.unusedVariables false
theorem own : ownKnob Try.prog.godebug = none := by kernel_rfl
theorem laidOut : laidOutB Try.prog = true := by kernel_rfl
def IsRow (k : IntKind) (w : World) (a : Option Addr) (len cap : Nat) (zs : List Int) : Prop :=
  (a = none ∧ len = 0 ∧ cap = 0 ∧ zs = []) ∨
  ∃ x, a = some x ∧ len ≤ cap ∧ cap ≤ maxLen ∧ zs.length = cap ∧ (∀ i, i < zs.length → w.cell? (x.add i) = some (.int k (zs.getD i 0))) ∧ ∀ n ∈ zs, (Lit.int k n).wf = true
set_option maxRecDepth 100000 in
theorem lifted (os : Os) (started : os.Started) (H : Type) (enc : TypeId × Value → H) :
    ReturnsInHanded {} Try.checked os 10 .any (Rows.fnLeadsToSpec.pre6 enc Try.prog Try.f10 Rows.fnLeadsToRow.domain false) (Rows.fnLeadsToSpec.post enc Try.prog Try.f10 false true false false) := by
  refine returnsInHanded_of_change_sized (C := Try.checked) own started (by kernel_rfl) Try.func10
    (ChangeSpec.witness6 (enc := enc) (C := Try.checked) false ⟨#[], #[.slice none 0 0, .slice none 0 0], []⟩ 8 (by kernel_rfl) (by kernel_rfl) (by kernel_rfl) (by kernel_rfl)) ?_
  intro W base args ds gs before hval0 hW hcnd hsz0 _
  have hsz : (DataW.weightsEach Try.prog (Try.f10.params.toList ++ Rows.fnLeadsToSpec.plain.varTypes Try.prog) (ds ++ gs)).all (· ≤ reachBytes) = true := hsz0
  have hval : ∀ (j : Nat) t v, Try.f10.params[j]? = some t → args[j]? = some v → Value.okWide Try.prog W .any base t v := hval0
  have hW' := hW
  obtain ⟨p, q, hA0, hV, rfl, hfz, hnd⟩ := hW
  have hA : DataW.TrodAll enc Try.prog W 0 (fun _ => true) true Try.f10.params.toList args.toList ds p := hA0
  rw [Try.params10] at hA hval hsz
  obtain ⟨v0, vs0, d0, ds0, p0, q0, hargs, rfl, rfl, h0, r0⟩ := trodAll_cons hA
  obtain ⟨v1, vs1, d1, ds1, p1, q1, rfl, rfl, rfl, h1, r1⟩ := trodAll_cons r0
  obtain ⟨rfl, rfl, rfl⟩ := trodAll_nil r1
  obtain rfl : args = #[v0, v1] := by cases args; simp_all
  obtain ⟨rfl, rfl⟩ := trodVars_none hV
  obtain ⟨a0, len0, cap0, rfl⟩ := okWide_slice Try.underlying22 (hval 0 22 v0 rfl rfl)
  have k0 := h0
  have lt0 : ∀ x ∈ p0, x.block < W.heap.size := by obtain ⟨m, hm⟩ := k0; exact DataW.trod_lt m _ _ _ hm
  obtain ⟨z0, w0⟩ : ∃ zs, IsRow .u8 W a0 len0 cap0 zs := by
    obtain ⟨fuel, hf⟩ := h0
    rcases open_ints Try.underlying22 Try.underlying5 (by kernel_rfl) hf with ⟨hcs, _⟩ | ⟨x, l, c, zs, hcs, _, hl, hm, hz, _, hcell, hwz⟩
    · simp [Value.cells] at hcs
      obtain ⟨rfl, rfl, rfl⟩ := hcs
      exact ⟨[], .inl ⟨rfl, rfl, rfl, rfl⟩⟩
    · simp [Value.cells] at hcs
      obtain ⟨rfl, rfl, rfl⟩ := hcs
      exact ⟨zs, .inr ⟨_, rfl, hl, hm, by simpa using hz, hcell, hwz⟩⟩
  have y0 : len0 * 1 ≤ 140737488351232 := Go.Proofs.YtigpmfoagkhaeaaW.PrintWords.sized_ints hsz (j := 0) (t := 22) rfl rfl Try.underlying22 Try.underlying5 (by kernel_rfl) (by kernel_rfl) h0
  obtain ⟨a1, len1, cap1, rfl⟩ := okWide_slice Try.underlying22 (hval 1 22 v1 rfl rfl)
  have k1 := h1
  have lt1 : ∀ x ∈ p1, x.block < W.heap.size := by obtain ⟨m, hm⟩ := k1; exact DataW.trod_lt m _ _ _ hm
  obtain ⟨z1, w1⟩ : ∃ zs, IsRow .u8 W a1 len1 cap1 zs := by
    obtain ⟨fuel, hf⟩ := h1
    rcases open_ints Try.underlying22 Try.underlying5 (by kernel_rfl) hf with ⟨hcs, _⟩ | ⟨x, l, c, zs, hcs, _, hl, hm, hz, _, hcell, hwz⟩
    · simp [Value.cells] at hcs
      obtain ⟨rfl, rfl, rfl⟩ := hcs
      exact ⟨[], .inl ⟨rfl, rfl, rfl, rfl⟩⟩
    · simp [Value.cells] at hcs
      obtain ⟨rfl, rfl, rfl⟩ := hcs
      exact ⟨zs, .inr ⟨_, rfl, hl, hm, by simpa using hz, hcell, hwz⟩⟩
  have y1 : len1 * 1 ≤ 140737488351232 := Go.Proofs.YtigpmfoagkhaeaaW.PrintWords.sized_ints hsz (j := 1) (t := 22) rfl rfl Try.underlying22 Try.underlying5 (by kernel_rfl) (by kernel_rfl) h1
  clear hA0 hval0 hsz0 hsz
  refine (PU.laws_FnLeadsTo.walk Pure.FnLeadsTo a0 len0 cap0 z0 a1 len1 cap1 z1 W w0 y0 w1 y1).mono fun e W' ⟨he, bel⟩ => ?_
  subst he
  exact ⟨_, rfl, _, _, _, [], _, [], hW', trodAll_mk1 (shut_bool Try.underlying4 _), (trodAll_cons_mk (Below.trod laidOut (by kernel_rfl) (of_decide_eq_true (by kernel_rfl)) k0 bel lt0) (trodAll_cons_mk (Below.trod laidOut (by kernel_rfl) (of_decide_eq_true (by kernel_rfl)) k1 bel lt1) trodAll_mk0)), rfl, bel.frame _, fun h => by cases h⟩
theorem over : Rows.fnLeadsToRow.holds Try.pinned (OpenSpec.ofChange Rows.fnLeadsToSpec) :=
  OpenClaim.holds_of_wide 10 Try.f10 rfl rfl rfl rfl rfl rfl rfl ⟨rfl, rfl, rfl, rfl, rfl⟩ rfl rfl rfl rfl rfl (by kernel_rfl) Try.func10 (by kernel_rfl)
    (of_decide_eq_true (by kernel_rfl)) (by unfold Func.isWrapper; first | (rw [if_pos (by decide +kernel)]; kernel_rfl) | (rw [if_neg (by decide +kernel)]; exact ⟨rfl, rfl⟩))
    (fun os started H enc _ => lifted os started H enc)
theorem proved : Rows.FnLeadsToSaid := over
end Go.Proofs.Ytigpmfoagkhaeaa.fnLeadsTo
namespace Go.Proofs.Ytigpmfoagkhaeaa
theorem fnLeadsTo_holds : Rows.FnLeadsToSaid := fnLeadsTo.proved
end Go.Proofs.Ytigpmfoagkhaeaa
