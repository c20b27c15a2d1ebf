/- FnKeepsOf: for every input the law holds. No condition. -/
import Derived.Test.YtigpmfoagkhaeaaZFnKeepsOf1
import Derived.Test.YtigpmfoagkhaeaaZFnKeepsOf2
import Derived.Below
import Derived.Deep.Draws
import Derived.Deep.AppendLies
import Derived.Maps.AppendAt
import Derived.OwnWalk
import Derived.Laws.BytesArg
import Derived.Laws.MakeOwn
import Derived.Laws.OwnMore
import Derived.Deep.OwnRows
import Derived.Tactics
import Derived.Lib.ConvBytes
import Derived.Laws.Slices
import Derived.WalkKit
import Derived.KernelRfl
import Derived.RowKit3
import Derived.Deep.LoopGhost
import Derived.Deep.QuietTactic
import Derived.BigQuiet
import Derived.WideLaws
import Derived.Deep.DeepCutAuto
import Derived.Deep.CutBlock
import Derived.Deep.RegionHeld3
import Derived.Laws.Rows
import Derived.Lib.AppendStr
import Derived.ArgAppend
import Derived.Laws.IdiomCopy
import Derived.RowKit
import Derived.OrdersHeld
import Derived.Laws.BitsLemmas
import Derived.Laws.StructEq
import Derived.Test.YtigpmfoagkhaeaaProg
namespace Go.Proofs.Ytigpmfoagkhaeaa.PU
open Go.RowKit Go.Proofs.YtigpmfoagkhaeaaW.PrintWords Go.Proofs.YtigpmfoagkhaeaaW.PrintLast Go.Proofs.YtigpmfoagkhaeaaW.PrintMore Go.Proofs.Ytigpmfoagkhaeaa.Qd
attribute [local go_sem] max2_int min2_int max_two min_two max_three min_three max_four min_four
set_option linter.unusedVariables false
set_option linter.unusedSimpArgs false
def spec_l20Paid.f (k : Nat) (s0_0 : List Int) (s0_1 : Int) : Option (List Int × (List (List Int)) × (List (S36)) × Int) := (spec_l20Book.f k s0_0 s0_1 20).bind fun bt551 => ((spec_l20Pays.f k s0_0 bt551.2.2 bt551.1 bt551.2.1 14).bind fun bt559 => (some (bt551.1, bt551.2.1, bt559.1, bt559.2)))
theorem spec_l20Paid.mq {p : Prop} (h : p := by
 repeat' first
 | (with_reducible exact spec_l20Book.mono _ _ _ _)
 | (with_reducible exact spec_l20Pays.mono _ _ _ _ _ _)
 | (with_reducible exact LeO.refl _)
 | (with_reducible exact LeO.none _)
 | (with_reducible refine LeO.ite ?_ ?_)
 | (with_reducible refine LeO.bind ?_ (fun _ => ?_))
 | exact spec_l20Book.mono _ _ _ _
 | exact spec_l20Pays.mono _ _ _ _ _ _
 | exact LeO.none _
 | refine LeO.ite ?_ ?_
 | refine LeO.bind ?_ (fun _ => ?_)) : p := h
theorem spec_l20Paid.mono : ∀ a0 a1 k, LeO (spec_l20Paid.f k a0 a1) (spec_l20Paid.f (k + 1) a0 a1) := by
 intro a0 a1 k
 unfold spec_l20Paid.f
 exact spec_l20Paid.mq
theorem spec_l20Paid.calls_q0 {p : Prop} (h : p := by repeat (first | (with_reducible first | exact HI0.out | apply IsS79.alloc | apply IsS79.drewN | apply IsS79.drew | apply IsS79.set_1 | refine IsS79.far ?_ NB0_550.out _ | refine IsS79.far ?_ NB0_558.out _) | exact HI0.out)) : p := h
theorem spec_l20Paid.calls_q1 {p : Prop} (h : p := by repeat (first | (with_reducible first | exact HK.out | apply KeepBut.set_ | apply keep_drewN | apply keep_drew | apply keep_alloc | refine keep_far ?_ GW550.out _ | refine keep_far ?_ GW558.out _) | exact HK.out)) : p := h
theorem spec_l20Paid.calls_q2 {p : Prop} (h : p := by repeat (first | (with_reducible first | exact HB.out | apply below_alloc | apply pw_below_drewN | apply below_drew1 | refine below_set ?_ (IsS79.ge HI0.out) | refine below_set ?_ GE550.out | refine below_set ?_ GE558.out) | exact HB.out)) : p := h
set_option maxHeartbeats 8000000 in
set_option maxRecDepth 100000 in
theorem spec_l20Paid.calls (k : Nat) (g : Nat) (s0_0 : List Int) (s0_1 : Int) (r1 : List Int) (r2 : List (List Int)) (r3 : List (S36)) (r4 : Int) (w0 w : World) (hI : IsS79 w0 w g s0_0 s0_1) (hB : Below w0.heap.size w0 w) (h : spec_l20Paid.f k s0_0 s0_1 = some (r1, r2, r3, r4)) :
  Calls Try.prog 73 #[.pointer (some ⟨g, 0, none⟩)] w fun e w' => ∃ v0_ v1_ v2_ : Value, e = .returned (.tuple #[.agg #[v0_, v1_], v2_]) ∧ Kd.R (Kd.int .i64) 3 w' w.heap.size (fun k_ => (w.heap.size ≤ k_)) v0_ r1 ∧ Kd.V (Kd.slice 3 (Kd.int .i64)) 23 w' w.heap.size (fun k_ => (w.heap.size ≤ k_) ∧ some k_ ≠ (v0_ : Value).ownBlock ∧ some k_ ≠ (v2_ : Value).ownBlock) v1_ r2 ∧ Kd.R k36 36 w' w.heap.size (fun k_ => (w.heap.size ≤ k_)) v2_ r3 ∧ IsS79 w0 w' g s0_0 r4 ∧ Below w0.heap.size w0 w' ∧ KeepBut w w' g none := by
 have hu26 := Try.underlying26
 have HI0 := Aside0.mk hI
 have HK := Aside0.mk (KeepBut.refl w g none)
 have HL := Aside0.mk hB.size
 clear hI
 have HW0 := Aside0.mk hB.size
 have HB := Aside0.mk hB
 clear hB
 have H : ((spec_l20Book.f k s0_0 s0_1 20).bind fun bt551 => ((spec_l20Pays.f k s0_0 bt551.2.2 bt551.1 bt551.2.1 14).bind fun bt559 => (some (bt551.1, bt551.2.1, bt559.1, bt559.2)))) = some (r1, r2, r3, r4) := h
 clear h
 replace H := Option.bind_eq_some_iff.mp H
 obtain ⟨⟨t551, t554, t557⟩, A20, H⟩ := H
 replace H : ((spec_l20Pays.f k s0_0 t557 t551 t554 14).bind fun bt559 => (some (t551, t554, bt559.1, bt559.2))) = some (r1, r2, r3, r4) := H
 have A2 := Aside0.mk A20
 clear A20
 replace H := Option.bind_eq_some_iff.mp H
 obtain ⟨⟨t559, t562⟩, A30, H⟩ := H
 replace H : (some (t551, t554, t559, t562)) = some (r1, r2, r3, r4) := H
 have A3 := Aside0.mk A30
 clear A30
 simp only [Option.some.injEq, Prod.mk.injEq] at H
 obtain ⟨rfl, rfl, rfl, rfl⟩ := H
 go_enter Try.func73, Try.ntmps73
 try go_wp2_with (first | ((with_reducible refine gate_dst (N := 2) rfl ?_); refine bx_ (N := 2) #[.slice none 0 0, .slice none 0 0] 26 ?_; intro gb550 hg w4 hbox hb; replace HB := Aside0.mk (below_step (spec_l20Paid.calls_q2) hb); have BK550 := Aside0.mk (hbox); have GW550 := Aside0.mk ((g100_ : w.heap.size ≤ gb550)); have GE550 := Aside0.mk ((Nat.le_trans HW0.out (g100_ : w.heap.size ≤ gb550) : w0.heap.size ≤ gb550)); replace HK := Aside0.mk (KeepBut.trans (spec_l20Paid.calls_q1) (KeepBut.of_below hb g none) (.inl rfl)); have NB0_550 := Aside0.mk ((by rw [hg]; exact Nat.ne_of_lt (IsS79.lt (show IsS79 w0 _ g s0_0 s0_1 from spec_l20Paid.calls_q0)) : g ≠ gb550)); have NB550_0 := Aside0.mk ((by rw [hg]; exact Nat.ne_of_gt (IsS79.lt (show IsS79 w0 _ g s0_0 s0_1 from spec_l20Paid.calls_q0)) : gb550 ≠ g)); replace HI0 := Aside0.mk (IsS79.below (spec_l20Paid.calls_q0) hb); clear hb hbox hg) | ((with_reducible refine gate_callee (f := 52) rfl ?_); refine goesL_ (some 6) rfl rfl Try.func52 k_ rfl #[.pointer (some ⟨g, 0, none⟩), .int .i64 20] rfl (g2_) ?_; (with_reducible refine (spec_l20Book.calls k g s0_0 s0_1 20 t551 t554 t557 w0 _ ?side1 ?side2 A2.out).mono ?_); (case side1 => exact spec_l20Paid.calls_q0); (case side2 => exact spec_l20Paid.calls_q2); rintro e w5 ⟨v552, v555, rfl, ho0, ho1, hi, hb, hk⟩; refine ⟨_, rfl, ?_⟩; have HO553 := Aside0.mk (Kd.R_lower (Kd.R_newM (M := fun k_ => (w.heap.size ≤ k_)) (Kd.R_mono (ok' := fun k_ => True) ho0 (fun _ hk_ => trivial)) (keep_size (w := w) (g := g) (row := none) (spec_l20Paid.calls_q1)) (fun k_ h_ => h_)) (keep_size (w := w) (g := g) (row := none) (spec_l20Paid.calls_q1))); have HO556 := Aside0.mk (Kd.V_lower (Kd.V_mono (ok' := fun k_ => (w.heap.size ≤ k_) ∧ some k_ ≠ (v552 : Value).ownBlock ∧ k_ ≠ gb550 ∧ k_ ≠ g) ho1 (fun k_ hk_ => ⟨(Nat.le_trans (keep_size (w := w) (g := g) (row := none) (spec_l20Paid.calls_q1)) hk_.1), hk_.2, (Kd.freshB (g := gb550) (o := .cells #[.slice none 0 0, .slice none 0 0] 26 (0, 0)) (uf0_ BK550) k_ hk_.1), (IsS79.fresh (spec_l20Paid.calls_q0) k_ hk_.1)⟩)) (keep_size (w := w) (g := g) (row := none) (spec_l20Paid.calls_q1))); replace BK550 := Aside0.mk (KeepBut.blk hk (g' := gb550) (o := .cells #[.slice none 0 0, .slice none 0 0] 26 (0, 0)) (uf0_ BK550) NB550_0.out (by simp)); replace HK := Aside0.mk (KeepBut.trans (spec_l20Paid.calls_q1) hk (.inl rfl)); replace HB := Aside0.mk (hb); replace HI0 := Aside0.mk (hi); (try clear hb); (try clear hk hi); (try clear ho0); (try clear ho1)) | ((with_reducible refine gate_dst (N := 4) rfl ?_); refine bx_ (N := 4) #[.slice none 0 0, .slice none 0 0] 26 ?_; intro gb558 hg w6 hbox hb; replace HO553 := Aside0.mk (Kd.R_below (uf1_ HO553) hb); replace HO556 := Aside0.mk (Kd.V_below (Kd.V_elderB (uf5_ HO556) gb558 (Nat.le_of_eq hg.symm)) hb); replace HB := Aside0.mk (below_step (spec_l20Paid.calls_q2) hb); have BK558 := Aside0.mk (hbox); have GW558 := Aside0.mk ((g100_ : w.heap.size ≤ gb558)); have GE558 := Aside0.mk ((Nat.le_trans HW0.out (g100_ : w.heap.size ≤ gb558) : w0.heap.size ≤ gb558)); replace HK := Aside0.mk (KeepBut.trans (spec_l20Paid.calls_q1) (KeepBut.of_below hb g none) (.inl rfl)); have NB550_558 := Aside0.mk ((by rw [hg]; exact Nat.ne_of_lt (blk_lt (g := gb550) (o := .cells #[.slice none 0 0, .slice none 0 0] 26 (0, 0)) (uf0_ BK550)) : gb550 ≠ gb558)); have NB558_550 := Aside0.mk ((by rw [hg]; exact Nat.ne_of_gt (blk_lt (g := gb550) (o := .cells #[.slice none 0 0, .slice none 0 0] 26 (0, 0)) (uf0_ BK550)) : gb558 ≠ gb550)); replace BK550 := bb_ BK550 hb; have NB0_558 := Aside0.mk ((by rw [hg]; exact Nat.ne_of_lt (IsS79.lt (show IsS79 w0 _ g s0_0 t557 from spec_l20Paid.calls_q0)) : g ≠ gb558)); have NB558_0 := Aside0.mk ((by rw [hg]; exact Nat.ne_of_gt (IsS79.lt (show IsS79 w0 _ g s0_0 t557 from spec_l20Paid.calls_q0)) : gb558 ≠ g)); replace HI0 := Aside0.mk (IsS79.below (spec_l20Paid.calls_q0) hb); clear hb hbox hg; obtain ⟨Ao7, co7, eo7⟩ := Kd.R_slice HO553.out; subst eo7; have hnb8 := NB558_550.out; have hnc8 := NB550_558.out; have hnb9 := NB558_0.out; have hnc9 := NB0_558.out; obtain ⟨hcz10_0, hcz10_1, hfz10_0, hfz10_1⟩ := blk2_ BK558; obtain ⟨Ao11, co11, eo11⟩ := Kd.V_slice HO556.out; subst eo11))
 have n0_ : Aside0 (Kd.R (Kd.int .i64) 3 ((w6.setCell ⟨gb558, 0, none⟩ (.slice Ao7 t551.length co7)).setCell ⟨gb558, 1, none⟩ (.slice Ao11 t554.length co11)) w.heap.size (fun k_ => (w.heap.size ≤ k_)) (.slice Ao7 t551.length co7) t551) := ⟨by (with_reducible repeat (first | apply Kd.R_alloc | apply Kd.R_drewN | apply Kd.R_drew)); exact Kd.R_mono (Kd.R_far (p := ⟨gb558, 1, none⟩) (Kd.R_far (p := ⟨gb558, 0, none⟩) (Kd.R_types HO553.out BK558.out (by decide)) (fun _ hk => hk.2) (.slice Ao7 t551.length co7)) (fun _ hk => hk.2) (.slice Ao11 t554.length co11)) (fun _ hk => hk.1.1)⟩
 have n1_ : Aside0 (Kd.V (Kd.slice 3 (Kd.int .i64)) 23 ((w6.setCell ⟨gb558, 0, none⟩ (.slice Ao7 t551.length co7)).setCell ⟨gb558, 1, none⟩ (.slice Ao11 t554.length co11)) w.heap.size (fun k_ => (w.heap.size ≤ k_) ∧ some k_ ≠ (.slice Ao7 t551.length co7 : Value).ownBlock ∧ k_ ≠ gb550 ∧ k_ ≠ g ∧ k_ ≠ gb558) (.slice Ao11 t554.length co11) t554) := ⟨by (with_reducible repeat (first | apply Kd.V_alloc | apply Kd.V_drewN | apply Kd.V_drew)); exact Kd.V_mono (Kd.V_far (p := ⟨gb558, 1, none⟩) (Kd.V_far (p := ⟨gb558, 0, none⟩) (Kd.V_mono HO556.out (fun k_ hk => (⟨hk, hk.2⟩ : _ ∧ k_ ≠ gb558))) (fun _ hk => hk.2) (.slice Ao7 t551.length co7)) (fun _ hk => hk.2) (.slice Ao11 t554.length co11)) (fun _ hk => ⟨hk.1.1.1, ⟨hk.1.1.2.1, ⟨hk.1.1.2.2.1, ⟨hk.1.1.2.2.2, hk.1.2⟩⟩⟩⟩)⟩
 have n2_ : Aside0 (((w6.setCell ⟨gb558, 0, none⟩ (.slice Ao7 t551.length co7)).setCell ⟨gb558, 1, none⟩ (.slice Ao11 t554.length co11)).heap[gb550]? = some (.cells #[.slice none 0 0, .slice none 0 0] 26 (0, 0))) := ⟨by (with_reducible repeat (first | refine blk_drewN ?_ _ | refine blk_drew ?_ | refine blk_alloc ?_ _)); refine blk_far ?_ NB550_558.out _; (with_reducible repeat (first | refine blk_drewN ?_ _ | refine blk_drew ?_ | refine blk_alloc ?_ _)); refine blk_far ?_ NB550_558.out _; (with_reducible repeat (first | refine blk_drewN ?_ _ | refine blk_drew ?_ | refine blk_alloc ?_ _)); exact BK550.out⟩
 have n3_ : Aside0 (((w6.setCell ⟨gb558, 0, none⟩ (.slice Ao7 t551.length co7)).setCell ⟨gb558, 1, none⟩ (.slice Ao11 t554.length co11)).heap[gb558]? = some (.cells #[.slice Ao7 t551.length co7, .slice Ao11 t554.length co11] 26 (0, 0))) := ⟨by (with_reducible repeat (first | refine blk_drewN ?_ _ | refine blk_drew ?_ | refine blk_alloc ?_ _)); refine blk_put (cs := #[.slice Ao7 t551.length co7, .slice none 0 0]) ?_ 1 _ rfl; (with_reducible repeat (first | refine blk_drewN ?_ _ | refine blk_drew ?_ | refine blk_alloc ?_ _)); refine blk_put (cs := #[.slice none 0 0, .slice none 0 0]) ?_ 0 _ rfl; (with_reducible repeat (first | refine blk_drewN ?_ _ | refine blk_drew ?_ | refine blk_alloc ?_ _)); exact BK558.out⟩
 have n4_ : Aside0 (IsS79 w0 ((w6.setCell ⟨gb558, 0, none⟩ (.slice Ao7 t551.length co7)).setCell ⟨gb558, 1, none⟩ (.slice Ao11 t554.length co11)) g s0_0 t557) := ⟨spec_l20Paid.calls_q0⟩
 have n5_ : Aside0 (KeepBut w ((w6.setCell ⟨gb558, 0, none⟩ (.slice Ao7 t551.length co7)).setCell ⟨gb558, 1, none⟩ (.slice Ao11 t554.length co11)) g none) := ⟨spec_l20Paid.calls_q1⟩
 have n6_ : Aside0 (Below w0.heap.size w0 ((w6.setCell ⟨gb558, 0, none⟩ (.slice Ao7 t551.length co7)).setCell ⟨gb558, 1, none⟩ (.slice Ao11 t554.length co11))) := ⟨spec_l20Paid.calls_q2⟩
 (try clear HO553)
 (try clear HO556)
 (try clear BK550)
 (try clear BK558)
 (try clear HI0)
 (try clear HK)
 (try clear HB)
 generalize ((w6.setCell ⟨gb558, 0, none⟩ (.slice Ao7 t551.length co7)).setCell ⟨gb558, 1, none⟩ (.slice Ao11 t554.length co11)) = w12 at n0_ n1_ n2_ n3_ n4_ n5_ n6_ ⊢
 have HO553 := n0_
 have HO556 := n1_
 have BK550 := n2_
 have BK558 := n3_
 have HI0 := n4_
 have HK := n5_
 have HB := n6_
 clear n0_ n1_ n2_ n3_ n4_ n5_ n6_
 replace HO553 := Aside0.mk (Kd.R_drew HO553.out)
 replace HO556 := Aside0.mk (Kd.V_drew HO556.out)
 replace BK550 := Aside0.mk (blk_drew BK550.out)
 replace BK558 := Aside0.mk (blk_drew BK558.out)
 replace HI0 := Aside0.mk (IsS79.drew HI0.out)
 replace HK := Aside0.mk (keep_drew HK.out)
 replace HB := Aside0.mk (below_drew1 HB.out)
 refine start_ (n := 6) (S := fun w' => w'.cell? ⟨gb558, 0, none⟩ = some (.slice Ao7 t551.length co7) ∧ w'.cell? ⟨gb558, 1, none⟩ = some (.slice Ao11 t554.length co11)) (ds := []) (tl_ 6 0) (g0_) rfl (g0_) ⟨(blk_cell BK558.out 0).trans rfl, (blk_cell BK558.out 1).trans rfl⟩ (fun hHeld => ?_)
 generalize w12.drew = w13 at HO553 HO556 BK550 BK558 HI0 HK HB hHeld ⊢
 refine pure_ (i := 1) (N := some 8) (v := ?_) (a' := ?_) (tl_ 6 2) rfl rfl (g0_) (fun _ _ _ h => h) (Or.inl ⟨by rfl, ?_⟩) ?_ ?_
 rotate_left
 ·intro w'
  go_simp
  with_reducible rfl
 rotate_left
 ·simp only [Act.put, List.setIfInBounds_toArray, List.set_cons_zero, List.set_cons_succ, i64_w, i32_w]
  rfl
 refine take_ (i := 0) (N := some 7) (v := ?_) (a' := ?_) (tl_ 6 3) rfl rfl (g0_) (fun _ _ _ h => h) (Or.inl ⟨by rfl, ?_⟩) hHeld ?_ ?_
 rotate_left
 ·rintro w' ⟨s0, s1⟩
  go_simp
  with_reducible rfl
 rotate_left
 ·simp only [Act.put, List.setIfInBounds_toArray, List.set_cons_zero, List.set_cons_succ, i64_w, i32_w]
  rfl
 refine take_ (i := 2) (N := some 9) (v := ?_) (a' := ?_) (tl_ 6 7) rfl rfl (g0_) (fun _ _ _ h => h) (Or.inl ⟨by rfl, ?_⟩) hHeld ?_ ?_
 rotate_left
 ·rintro w' ⟨s0, s1⟩
  go_simp
  with_reducible rfl
 rotate_left
 ·simp only [Act.put, List.setIfInBounds_toArray, List.set_cons_zero, List.set_cons_succ, i64_w, i32_w]
  rfl
 refine one_ (i := 3) (N := some 10) (tl_ 6 15) rfl rfl (g0_) (by decide) (fun K hK => ?_)
 refine goes_ Try.func71 (g0_) rfl #[.pointer (some ⟨g, 0, none⟩), .agg #[.slice Ao7 t551.length co7, .slice Ao11 t554.length co11], .int .i64 14] (by rfl) rfl rfl (g2_) ?_
 with_reducible refine (spec_l20Pays.calls k g s0_0 t557 _ _ t551 _ _ t554 14 t559 t562 w0 _ ?side1 ?side2 ?side3 ?side4 ?side5 ?side6 ?side7 A3.out).mono ?_
 (case side1 => exact spec_l20Paid.calls_q0)
 (case side2 => exact spec_l20Paid.calls_q2)
 (case side3 => repeat (first | exact (Kd.R_reads' HO553.out).2.2 | (with_reducible refine Kd.C_alloc ?_ _) | (with_reducible refine Kd.C_drewN ?_ _) | (with_reducible refine Kd.C_drew ?_)))
 (case side4 => exact (Kd.R_reads' HO553.out).2.1)
 (case side5 => exact far_slice (IsS79.own_ne HI0.out HO553.out (by decide)))
 (case side6 => exact Kd.C_foot_ownV (e := 0) (base := 0) (Kd.V_mono (ok := fun k_ => (((w.heap.size ≤ k_)) ∧ (some k_ ≠ (.slice Ao7 t551.length co7 : Value).ownBlock ∧ (k_ ≠ gb550 ∧ (k_ ≠ g ∧ k_ ≠ gb558))))) (uf5_ HO556) (fun k_ hk_ => (⟨hk_, hk_.2.2.2.1⟩ : _ ∧ k_ ≠ g))) (fun _ h_ => h_.2))
 (case side7 => exact (Kd.V_reads' HO556.out).2.1)
 rintro e w14 ⟨v560, rfl, ho0, hi, hb, hk⟩
 refine ⟨_, rfl, ?_⟩
 replace BK550 := Aside0.mk (KeepBut.blk hk (g' := gb550) (o := .cells #[.slice none 0 0, .slice none 0 0] 26 (0, 0)) (uf0_ BK550) NB550_0.out (by simp))
 replace HO553 := Aside0.mk (Kd.R_mono (Kd.R_keep (IsS79.apart (show IsS79 w0 _ g s0_0 t557 from spec_l20Paid.calls_q0) (uf1_ HO553) (by decide)) hk (fun _ h => h.2)) (fun _ h => h.1))
 replace HO556 := Aside0.mk (Kd.V_mono (Kd.V_told (Kd.V_oldK (Kd.V_mono (ok := fun k_ => (((w.heap.size ≤ k_)) ∧ (some k_ ≠ (.slice Ao7 t551.length co7 : Value).ownBlock ∧ (k_ ≠ gb550 ∧ (k_ ≠ g ∧ k_ ≠ gb558))))) (uf5_ HO556) (fun k_ hk_ => (⟨hk_, hk_.2.2.2.1⟩ : _ ∧ k_ ≠ g))) hk) (Kd.R_base ho0)) (fun _ h_ => h_.1))
 replace BK558 := Aside0.mk (KeepBut.blk hk (g' := gb558) (o := .cells #[.slice Ao7 t551.length co7, .slice Ao11 t554.length co11] 26 (0, 0)) (uf0_ BK558) NB558_0.out (by simp))
 have HO561 := Aside0.mk (Kd.R_lower (Kd.R_newM (M := fun k_ => (w.heap.size ≤ k_)) ho0 (keep_size (w := w) (g := g) (row := none) (spec_l20Paid.calls_q1)) (fun k_ h_ => h_)) (keep_size (w := w) (g := g) (row := none) (spec_l20Paid.calls_q1)))
 replace HK := Aside0.mk (KeepBut.trans (spec_l20Paid.calls_q1) hk (.inl rfl))
 replace HB := Aside0.mk (hb)
 replace HI0 := Aside0.mk (hi)
 (try clear hb)
 (try clear hk hi)
 (try clear ho0)
 refine hK.out _ _ ⟨(blk_cell BK558.out 0).trans rfl, (blk_cell BK558.out 1).trans rfl⟩ (fun hHeld => ?_)
 clear hK K
 refine nm_ ?_
 refine one_ (i := 4) (N := none) (tl_ 6 31) rfl rfl (g0_) (by decide) (fun K hK => ?_)
 have hs15 : w14.cell? ⟨gb550, 0, none⟩ = some (.slice none 0 0) := (blk_cell BK550.out 0).trans rfl
 have hfs15 := blk_frozen BK550.out 0
 have hns15_1 := NB558_550.out
 have hms15_1 := NB550_558.out
 have hs16 : w14.cell? ⟨gb550, 1, none⟩ = some (.slice none 0 0) := (blk_cell BK550.out 1).trans rfl
 have hfs16 := blk_frozen BK550.out 1
 have hns16_1 := NB558_550.out
 have hms16_1 := NB550_558.out
 refine skip_ (w1 := ?_) (by rfl) rfl ?_ ?_
 rotate_left
 ·go_simp
  rfl
 refine hK.out _ _ ⟨(cf_ NB558_550 ((cf_ NB558_550 (hHeld.1)))), (cf_ NB558_550 ((cf_ NB558_550 (hHeld.2))))⟩ (fun hHeld => ?_)
 clear hK K
 refine pure_ (i := 5) (N := some 3) (v := ?_) (a' := ?_) (tl_ 6 63) rfl rfl (g0_) (fun _ _ _ h => h) (Or.inl ⟨by rfl, ?_⟩) ?_ ?_
 rotate_left
 ·intro w'
  go_simp
  with_reducible rfl
 rotate_left
 ·simp only [Act.put, List.setIfInBounds_toArray, List.set_cons_zero, List.set_cons_succ, i64_w, i32_w]
  rfl
 refine done_ (g0_) ?_
 try go_wp2
 refine bodyPost_ret (results_ct rfl _ _ gb550 26 #[.slice Ao7 t551.length co7, .slice Ao11 t554.length co11] (0, 0) _ rfl (by (with_reducible repeat (first | refine blk_drewN ?_ _ | refine blk_drew ?_ | refine blk_alloc ?_ _)); refine blk_put (cs := #[.slice Ao7 t551.length co7, .slice none 0 0]) ?_ 1 _ rfl; (with_reducible repeat (first | refine blk_drewN ?_ _ | refine blk_drew ?_ | refine blk_alloc ?_ _)); refine blk_put (cs := #[.slice none 0 0, .slice none 0 0]) ?_ 0 _ rfl; (with_reducible repeat (first | refine blk_drewN ?_ _ | refine blk_drew ?_ | refine blk_alloc ?_ _)); exact BK550.out) Try.underlying26 rfl (g0_)) rfl ?_
 exact ⟨_, _, _, g4_, by (with_reducible repeat (first | apply Kd.R_alloc | apply Kd.R_drewN | apply Kd.R_drew)); exact Kd.R_mono (Kd.R_far (p := ⟨gb550, 1, none⟩) (Kd.R_far (p := ⟨gb550, 0, none⟩) (Kd.R_types HO553.out BK550.out (by decide)) (fun _ hk => hk.2) (.slice Ao7 t551.length co7)) (fun _ hk => hk.2) (.slice Ao11 t554.length co11)) (fun _ hk => hk.1), by (with_reducible repeat (first | apply Kd.V_alloc | apply Kd.V_drewN | apply Kd.V_drew)); exact Kd.V_mono (Kd.V_far (p := ⟨gb550, 1, none⟩) (Kd.V_far (p := ⟨gb550, 0, none⟩) (Kd.V_mono HO556.out (fun k_ hk => (⟨hk, hk.1.2.2.1⟩ : _ ∧ k_ ≠ gb550))) (fun _ hk => hk.2) (.slice Ao7 t551.length co7)) (fun _ hk => hk.2) (.slice Ao11 t554.length co11)) (fun _ hk => ⟨hk.1.1.1, ⟨hk.1.1.2.1, hk.1.2⟩⟩), by (with_reducible repeat (first | apply Kd.R_alloc | apply Kd.R_drewN | apply Kd.R_drew)); exact Kd.R_mono (Kd.R_far (p := ⟨gb550, 1, none⟩) (Kd.R_far (p := ⟨gb550, 0, none⟩) (Kd.R_types HO561.out BK550.out (by decide)) (fun _ hk => hk.2) (.slice Ao7 t551.length co7)) (fun _ hk => hk.2) (.slice Ao11 t554.length co11)) (fun _ hk => hk.1.1), spec_l20Paid.calls_q0, spec_l20Paid.calls_q2, spec_l20Paid.calls_q1⟩
def spec_DrawKeepsOf.f (k : Nat) (l0 : List Int) : Option (List Int × (List (List Int)) × (List (S36))) := (spec_l20Open.f l0).bind fun bt687 => ((spec_l20Paid.f k bt687.1 bt687.2).bind fun bt690 => (some (bt690.1, bt690.2.1, bt690.2.2.1)))
theorem spec_DrawKeepsOf.mq {p : Prop} (h : p := by
 repeat' first
 | (with_reducible exact spec_l20Paid.mono _ _ _)
 | (with_reducible exact LeO.refl _)
 | (with_reducible exact LeO.none _)
 | (with_reducible refine LeO.ite ?_ ?_)
 | (with_reducible refine LeO.bind ?_ (fun _ => ?_))
 | exact spec_l20Paid.mono _ _ _
 | exact LeO.none _
 | refine LeO.ite ?_ ?_
 | refine LeO.bind ?_ (fun _ => ?_)) : p := h
theorem spec_DrawKeepsOf.mono : ∀ a0 k, LeO (spec_DrawKeepsOf.f k a0) (spec_DrawKeepsOf.f (k + 1) a0) := by
 intro a0 k
 unfold spec_DrawKeepsOf.f
 exact spec_DrawKeepsOf.mq
theorem spec_DrawKeepsOf.calls_q0 {p : Prop} (h : p := by repeat (first | (with_reducible first | exact HB.out | apply below_alloc | apply pw_below_drewN | apply below_drew1 | refine below_set ?_ GE686.out | refine below_set ?_ (IsS79.ge HI689.out)) | exact HB.out)) : p := h
theorem spec_DrawKeepsOf.calls_q1 {p : Prop} (h : p := by repeat (first | (with_reducible first | exact HI689.out | apply IsS79.alloc | apply IsS79.drewN | apply IsS79.drew | apply IsS79.set_1 | refine IsS79.far ?_ NB689_686.out _) | exact HI689.out)) : p := h
set_option maxHeartbeats 8000000 in
set_option maxRecDepth 100000 in
theorem spec_DrawKeepsOf.calls (k : Nat) (A0 : Option Addr) (c0 : Nat) (l0 : List Int) (r1 : List Int) (r2 : List (List Int)) (r3 : List (S36)) (w : World) (hr0 : Kd.C (Kd.int .u8) w A0 l0.length l0) (hc0 : l0.length ≤ c0) (h : spec_DrawKeepsOf.f k l0 = some (r1, r2, r3)) :
  Calls Try.prog 33 #[.slice A0 l0.length c0] w fun e w' => ∃ v0_ v1_ v2_ : Value, e = .returned (.tuple #[.agg #[v0_, v1_], v2_]) ∧ Kd.R (Kd.int .i64) 3 w' w.heap.size (fun k_ => (w.heap.size ≤ k_)) v0_ r1 ∧ Kd.V (Kd.slice 3 (Kd.int .i64)) 23 w' w.heap.size (fun k_ => (w.heap.size ≤ k_) ∧ some k_ ≠ (v0_ : Value).ownBlock ∧ some k_ ≠ (v2_ : Value).ownBlock) v1_ r2 ∧ Kd.R k36 36 w' w.heap.size (fun k_ => (w.heap.size ≤ k_)) v2_ r3 ∧ Below w.heap.size w w' := by
 have hu26 := Try.underlying26
 have HR0 := Aside0.mk hr0
 have HC0 := Aside0.mk hc0
 clear hr0 hc0
 have HB := Aside0.mk (Below.refl w.heap.size w)
 have H : ((spec_l20Open.f l0).bind fun bt687 => ((spec_l20Paid.f k bt687.1 bt687.2).bind fun bt690 => (some (bt690.1, bt690.2.1, bt690.2.2.1)))) = some (r1, r2, r3) := h
 clear h
 replace H := Option.bind_eq_some_iff.mp H
 obtain ⟨⟨t687, t688⟩, A20, H⟩ := H
 replace H : ((spec_l20Paid.f k t687 t688).bind fun bt690 => (some (bt690.1, bt690.2.1, bt690.2.2.1))) = some (r1, r2, r3) := H
 have A2 := Aside0.mk A20
 clear A20
 replace H := Option.bind_eq_some_iff.mp H
 obtain ⟨⟨t690, t693, t696, t699⟩, A30, H⟩ := H
 replace H : (some (t690, t693, t696)) = some (r1, r2, r3) := H
 have A3 := Aside0.mk A30
 clear A30
 simp only [Option.some.injEq, Prod.mk.injEq] at H
 obtain ⟨rfl, rfl, rfl⟩ := H
 go_enter Try.func33, Try.ntmps33
 go_wp2_with (first | ((with_reducible refine gate_dst (N := 2) rfl ?_); refine bx_ (N := 2) #[.slice none 0 0, .slice none 0 0] 26 ?_; intro gb686 hg w4 hbox hb; have BK686 := Aside0.mk (hbox); have GW686 := Aside0.mk ((by rw [hg]; exact (below_size (spec_DrawKeepsOf.calls_q0)) : w.heap.size ≤ gb686)); have GE686 := Aside0.mk ((by rw [hg]; exact (below_size (spec_DrawKeepsOf.calls_q0)) : w.heap.size ≤ gb686)); replace HB := Aside0.mk (below_step (spec_DrawKeepsOf.calls_q0) hb); clear hb hbox hg) | ((with_reducible refine gate_callee (f := 53) rfl ?_); refine goesL_ (some 5) rfl rfl Try.func53 k_ rfl #[.slice A0 l0.length c0] rfl (g2_) ?_; (with_reducible refine (spec_l20Open.calls _ _ l0 t687 t688 w _ ?side1 ?side2 ?side3 A2.out).mono ?_); (case side1 => exact spec_DrawKeepsOf.calls_q0); (case side2 => exact HR0.out); (case side3 => exact HC0.out); rintro e w5 ⟨g689, rfl, hi, hb, hb2⟩; refine ⟨_, rfl, ?_⟩; replace HB := Aside0.mk (hb); have HI689 := Aside0.mk (hi); have NB689_686 := Aside0.mk (IsS79.ne_blk hi (blk_below (g := gb686) (o := .cells #[.slice none 0 0, .slice none 0 0] 26 (0, 0)) (uf0_ BK686) hb2) (by decide)); have NB686_689 := Aside0.mk (Ne.symm (IsS79.ne_blk hi (blk_below (g := gb686) (o := .cells #[.slice none 0 0, .slice none 0 0] 26 (0, 0)) (uf0_ BK686) hb2) (by decide))); replace BK686 := Aside0.mk (blk_below (g := gb686) (o := .cells #[.slice none 0 0, .slice none 0 0] 26 (0, 0)) (uf0_ BK686) hb2); (try clear hb); (try clear hb2); (try clear hk); (try clear hi)) | ((with_reducible refine gate_callee (f := 73) rfl ?_); refine goesL_ (some 6) rfl rfl Try.func73 k_ rfl #[.pointer (some ⟨g689, 0, none⟩)] rfl (g2_) ?_; (with_reducible refine (spec_l20Paid.calls k g689 t687 t688 t690 t693 t696 t699 w _ ?side1 ?side2 A3.out).mono ?_); (case side1 => exact spec_DrawKeepsOf.calls_q1); (case side2 => exact spec_DrawKeepsOf.calls_q0); rintro e w6 ⟨v691, v694, v697, rfl, ho0, ho1, ho2, hi, hb, hk⟩; refine ⟨_, rfl, ?_⟩; have HO692 := Aside0.mk (Kd.R_lower (Kd.R_newM (M := fun k_ => (w.heap.size ≤ k_)) (Kd.R_mono (ok' := fun k_ => True) ho0 (fun _ hk_ => trivial)) (below_size (spec_DrawKeepsOf.calls_q0)) (fun k_ h_ => h_)) (below_size (spec_DrawKeepsOf.calls_q0))); have HO695 := Aside0.mk (Kd.V_lower (Kd.V_mono (ok' := fun k_ => (w.heap.size ≤ k_) ∧ some k_ ≠ (v691 : Value).ownBlock ∧ some k_ ≠ (v697 : Value).ownBlock ∧ k_ ≠ gb686 ∧ k_ ≠ g689) ho1 (fun k_ hk_ => ⟨(Nat.le_trans (below_size (spec_DrawKeepsOf.calls_q0)) hk_.1), hk_.2.1, hk_.2.2, (Kd.freshB (g := gb686) (o := .cells #[.slice none 0 0, .slice none 0 0] 26 (0, 0)) (uf0_ BK686) k_ hk_.1), (IsS79.fresh (spec_DrawKeepsOf.calls_q1) k_ hk_.1)⟩)) (below_size (spec_DrawKeepsOf.calls_q0))); replace BK686 := Aside0.mk (KeepBut.blk hk (g' := gb686) (o := .cells #[.slice none 0 0, .slice none 0 0] 26 (0, 0)) (uf0_ BK686) NB686_689.out (by simp)); have HO698 := Aside0.mk (Kd.R_lower (Kd.R_newM (M := fun k_ => (w.heap.size ≤ k_)) (Kd.R_mono (ok' := fun k_ => True) ho2 (fun _ hk_ => trivial)) (below_size (spec_DrawKeepsOf.calls_q0)) (fun k_ h_ => h_)) (below_size (spec_DrawKeepsOf.calls_q0))); replace HB := Aside0.mk (hb); replace HI689 := Aside0.mk (hi); (try clear hb); (try clear hb2); (try clear hk); (try clear hi); (try clear ho0); (try clear ho1); (try clear ho2); obtain ⟨Ao7, co7, eo7⟩ := Kd.R_slice HO692.out; subst eo7; have hnb8 := NB686_689.out; have hnc8 := NB689_686.out; obtain ⟨hcz9_0, hcz9_1, hfz9_0, hfz9_1⟩ := blk2_ BK686; obtain ⟨Ao10, co10, eo10⟩ := Kd.V_slice HO695.out; subst eo10))
 refine bodyPost_ret (results_ct rfl _ _ gb686 26 #[.slice Ao7 t690.length co7, .slice Ao10 t693.length co10] (0, 0) _ rfl (by (with_reducible repeat (first | refine blk_drewN ?_ _ | refine blk_drew ?_ | refine blk_alloc ?_ _)); refine blk_put (cs := #[.slice Ao7 t690.length co7, .slice none 0 0]) ?_ 1 _ rfl; (with_reducible repeat (first | refine blk_drewN ?_ _ | refine blk_drew ?_ | refine blk_alloc ?_ _)); refine blk_put (cs := #[.slice none 0 0, .slice none 0 0]) ?_ 0 _ rfl; (with_reducible repeat (first | refine blk_drewN ?_ _ | refine blk_drew ?_ | refine blk_alloc ?_ _)); exact BK686.out) Try.underlying26 rfl (g0_)) rfl ?_
 exact ⟨_, _, _, g4_, by (with_reducible repeat (first | apply Kd.R_alloc | apply Kd.R_drewN | apply Kd.R_drew)); exact Kd.R_mono (Kd.R_far (p := ⟨gb686, 1, none⟩) (Kd.R_far (p := ⟨gb686, 0, none⟩) (Kd.R_types HO692.out BK686.out (by decide)) (fun _ hk => hk.2) (.slice Ao7 t690.length co7)) (fun _ hk => hk.2) (.slice Ao10 t693.length co10)) (fun _ hk => hk.1.1), by (with_reducible repeat (first | apply Kd.V_alloc | apply Kd.V_drewN | apply Kd.V_drew)); exact Kd.V_mono (Kd.V_far (p := ⟨gb686, 1, none⟩) (Kd.V_far (p := ⟨gb686, 0, none⟩) (Kd.V_mono HO695.out (fun k_ hk => (⟨hk, hk.2.2.2.1⟩ : _ ∧ k_ ≠ gb686))) (fun _ hk => hk.2) (.slice Ao7 t690.length co7)) (fun _ hk => hk.2) (.slice Ao10 t693.length co10)) (fun _ hk => ⟨hk.1.1, ⟨hk.1.2.1, hk.1.2.2.1⟩⟩), by (with_reducible repeat (first | apply Kd.R_alloc | apply Kd.R_drewN | apply Kd.R_drew)); exact Kd.R_mono (Kd.R_far (p := ⟨gb686, 1, none⟩) (Kd.R_far (p := ⟨gb686, 0, none⟩) (Kd.R_types HO698.out BK686.out (by decide)) (fun _ hk => hk.2) (.slice Ao7 t690.length co7)) (fun _ hk => hk.2) (.slice Ao10 t693.length co10)) (fun _ hk => hk.1.1), spec_DrawKeepsOf.calls_q0⟩
mutual
def impl_isBook.j0 : Nat → Int → Bool → List Int → List (List Int) → Option (Bool)
 | 0, _, _, _, _ => none
 | k + 1, x3, x23, x171000, x171001 => if x23 = true then (some false) else (impl_isBook.l0 k x3 x171001 (x171001.length : Int) 0 x171000 x171001)
def impl_isBook.l0 : Nat → Int → List (List Int) → Int → Int → List Int → List (List Int) → Option (Bool)
 | 0, _, _, _, _, _, _ => none
 | k + 1, x3, x25, x26, x27, x171000, x171001 => if x27 < x26 then (if 0 ≤ x27 then (if x27 < (x25.length : Int) then (if x27 < (x171000.length : Int) then (if (rd x171000 x27) < 0 then (impl_isBook.j2 k x3 (rd_L2 x25 x27) x25 x26 x27 true x171000 x171001) else (if (rd x171000 x27) > 20 then (impl_isBook.j2 k x3 (rd_L2 x25 x27) x25 x26 x27 true x171000 x171001) else (if ((rd_L2 x25 x27).length : Int) = x3 then (if x27 < ((rd_L2 x25 x27).length : Int) then (impl_isBook.j2 k x3 (rd_L2 x25 x27) x25 x26 x27 ((rd (rd_L2 x25 x27) x27) != 0) x171000 x171001) else (none)) else (impl_isBook.j2 k x3 (rd_L2 x25 x27) x25 x26 x27 true x171000 x171001)))) else (none)) else (none)) else (none)) else (some true)
def impl_isBook.j2 : Nat → Int → List Int → List (List Int) → Int → Int → Bool → List Int → List (List Int) → Option (Bool)
 | 0, _, _, _, _, _, _, _, _ => none
 | k + 1, x3, x5, x25, x26, x27, x58, x171000, x171001 => if x58 = true then (some false) else (impl_isBook.l1 k x3 x25 x26 x27 x5 (x5.length : Int) 0 x171000 x171001)
def impl_isBook.l1 : Nat → Int → List (List Int) → Int → Int → List Int → Int → Int → List Int → List (List Int) → Option (Bool)
 | 0, _, _, _, _, _, _, _, _, _ => none
 | k + 1, x3, x25, x26, x27, x59, x60, x61, x171000, x171001 => if x61 < x60 then (if 0 ≤ x61 then (if x61 < (x59.length : Int) then (if (rd x59 x61) < 0 then (some false) else (if (rd x59 x61) > 9 then (some false) else (impl_isBook.l1 k x3 x25 x26 x27 x59 x60 (wrap64 (x61 + 1)) x171000 x171001))) else (none)) else (none)) else (impl_isBook.l0 k x3 x25 x26 (wrap64 (x27 + 1)) x171000 x171001)
end
def impl_isBook.f (k : Nat) (l0_0 : List Int) (l0_1 : List (List Int)) : Option (Bool) := if (l0_0.length : Int) < 1 then (impl_isBook.j0 k (l0_0.length : Int) true l0_0 l0_1) else (if (l0_0.length : Int) > 4 then (impl_isBook.j0 k (l0_0.length : Int) true l0_0 l0_1) else (impl_isBook.j0 k (l0_0.length : Int) ((l0_1.length : Int) != (l0_0.length : Int)) l0_0 l0_1))
theorem impl_isBook.mq {p : Prop} (h : p := by
 repeat' first
 | (with_reducible exact ih0 _ _ _ _)
 | (with_reducible exact ih1 _ _ _ _ _ _)
 | (with_reducible exact ih2 _ _ _ _ _ _ _ _)
 | (with_reducible exact ih3 _ _ _ _ _ _ _ _ _)
 | (with_reducible exact LeO.refl _)
 | (with_reducible exact LeO.none _)
 | (with_reducible refine LeO.ite ?_ ?_)
 | (with_reducible refine LeO.bind ?_ (fun _ => ?_))
 | exact ih0 _ _ _ _
 | exact ih1 _ _ _ _ _ _
 | exact ih2 _ _ _ _ _ _ _ _
 | exact ih3 _ _ _ _ _ _ _ _ _
 | exact LeO.none _
 | refine LeO.ite ?_ ?_
 | refine LeO.bind ?_ (fun _ => ?_)) : p := h
theorem impl_isBook.mono_l : ∀ k, (∀ y0 y1 y2 y3, LeO (impl_isBook.j0 k y0 y1 y2 y3) (impl_isBook.j0 (k + 1) y0 y1 y2 y3)) ∧ (∀ y0 y1 y2 y3 y4 y5, LeO (impl_isBook.l0 k y0 y1 y2 y3 y4 y5) (impl_isBook.l0 (k + 1) y0 y1 y2 y3 y4 y5)) ∧ (∀ y0 y1 y2 y3 y4 y5 y6 y7, LeO (impl_isBook.j2 k y0 y1 y2 y3 y4 y5 y6 y7) (impl_isBook.j2 (k + 1) y0 y1 y2 y3 y4 y5 y6 y7)) ∧ (∀ y0 y1 y2 y3 y4 y5 y6 y7 y8, LeO (impl_isBook.l1 k y0 y1 y2 y3 y4 y5 y6 y7 y8) (impl_isBook.l1 (k + 1) y0 y1 y2 y3 y4 y5 y6 y7 y8))
 | 0 => ⟨fun _ _ _ _ r h => by simp [impl_isBook.j0] at h, fun _ _ _ _ _ _ r h => by simp [impl_isBook.l0] at h, fun _ _ _ _ _ _ _ _ r h => by simp [impl_isBook.j2] at h, fun _ _ _ _ _ _ _ _ _ r h => by simp [impl_isBook.l1] at h⟩
 | k + 1 => by
  obtain ⟨ih0, ih1, ih2, ih3⟩ := impl_isBook.mono_l k
  refine ⟨?_, ?_, ?_, ?_⟩
  ·intro y0 y1 y2 y3
   unfold impl_isBook.j0
   exact impl_isBook.mq
  ·intro y0 y1 y2 y3 y4 y5
   unfold impl_isBook.l0
   exact impl_isBook.mq
  ·intro y0 y1 y2 y3 y4 y5 y6 y7
   unfold impl_isBook.j2
   exact impl_isBook.mq
  ·intro y0 y1 y2 y3 y4 y5 y6 y7 y8
   unfold impl_isBook.l1
   exact impl_isBook.mq
theorem impl_isBook.mono : ∀ a0 a1 k, LeO (impl_isBook.f k a0 a1) (impl_isBook.f (k + 1) a0 a1) := by
 intro a0 a1 k
 obtain ⟨ih0, ih1, ih2, ih3⟩ := impl_isBook.mono_l k
 unfold impl_isBook.f
 exact impl_isBook.mq
theorem impl_isBook.calls_q0 {p : Prop} (h : p := by repeat (first | (with_reducible first | exact HB.out | apply below_alloc | apply pw_below_drewN | apply below_drew1 | refine below_set ?_ GE170.out) | exact HB.out)) : p := h
set_option maxHeartbeats 8000000 in
set_option maxRecDepth 100000 in
theorem impl_isBook.calls (k : Nat) (A0_0 : Option Addr) (c0_0 : Nat) (l0_0 : List Int) (A0_1 : Option Addr) (c0_1 : Nat) (l0_1 : List (List Int)) (r : Bool) (w : World) (hr0_0 : Kd.C (Kd.int .i64) w A0_0 l0_0.length l0_0) (hc0_0 : l0_0.length ≤ c0_0) (hr0_1 : Kd.C (Kd.slice 3 (Kd.int .i64)) w A0_1 l0_1.length l0_1) (hc0_1 : l0_1.length ≤ c0_1) (h : impl_isBook.f k l0_0 l0_1 = some r) :
  Calls Try.prog 54 #[.agg #[.slice A0_0 l0_0.length c0_0, .slice A0_1 l0_1.length c0_1]] w fun e w' => e = .returned (.bool r) ∧ Below w.heap.size w w' := by
 have hu26 := Try.underlying26
 have HR0_0 := Aside0.mk hr0_0
 have HC0_0 := Aside0.mk hc0_0
 clear hr0_0 hc0_0
 have HR0_1 := Aside0.mk hr0_1
 have HC0_1 := Aside0.mk hc0_1
 clear hr0_1 hc0_1
 have HB := Aside0.mk (Below.refl w.heap.size w)
 have H : (if (l0_0.length : Int) < 1 then (impl_isBook.j0 k (l0_0.length : Int) true l0_0 l0_1) else (if (l0_0.length : Int) > 4 then (impl_isBook.j0 k (l0_0.length : Int) true l0_0 l0_1) else (impl_isBook.j0 k (l0_0.length : Int) ((l0_1.length : Int) != (l0_0.length : Int)) l0_0 l0_1))) = some r := h
 clear h
 have HC2 := Aside0.mk H
 clear H
 go_enter Try.func54, Try.ntmps54
 go_upto_region 2 with (first | ((with_reducible refine gate_dst (N := 1) rfl ?_); (try (refine gate_guard (by rfl) ?_; dsimp only)); refine bx_ (N := 1) #[.slice A0_0 l0_0.length c0_0, .slice A0_1 l0_1.length c0_1] 26 ?_; intro gb170 hg w3 hbox hb; have BK170 := Aside0.mk (hbox); have GW170 := Aside0.mk ((by rw [hg]; exact (below_size (impl_isBook.calls_q0)) : w.heap.size ≤ gb170)); have GE170 := Aside0.mk ((by rw [hg]; exact (below_size (impl_isBook.calls_q0)) : w.heap.size ≤ gb170)); replace HB := Aside0.mk (below_step (impl_isBook.calls_q0) hb); clear hb hbox hg; obtain ⟨hcz4_0, hcz4_1, hfz4_0, hfz4_1⟩ := blk2_ BK170))
 (try simp only [Act.put, List.setIfInBounds_toArray, List.set_cons_zero, List.set_cons_succ])
 go_cut [23] (fun v23 wc => ∃ (kq : Nat) (x23_1 : Bool), v23 = .bool x23_1 ∧ Aside0 (impl_isBook.j0 kq (l0_0.length : Int) x23_1 l0_0 l0_1 = some r) ∧ Aside0 (kq ≤ k) ∧ Aside0 (wc.heap[gb170]? = some (.cells #[(.slice A0_0 l0_0.length c0_0), (.slice A0_1 l0_1.length c0_1)] 26 (0, 0))) ∧ Aside0 (Below w.heap.size w wc))
 case first =>
  have H := HC2.out
  clear HC2
  by_cases c5 : (l0_0.length : Int) < 1
  ·rw [if_pos c5] at H
   have c5b0 := decide_eq_true c5
   have c5b1 : decide (l0_0.length < 1) = true := decide_eq_true (by omega)
   clear c5
   (first | rw [c5b0] | (simp only [i64_w, i32_w]; rw [c5b0]) | skip)
   have H' := Aside0.mk H
   clear H
   go_wp2
   go_meet
   case rel => exact ⟨_, (true), (g3_), H', ⟨g13_⟩, ⟨uf0_ BK170⟩, ⟨impl_isBook.calls_q0⟩⟩
  ·rw [if_neg c5] at H
   have c5b0 := decide_eq_false c5
   have c5b1 : decide (l0_0.length < 1) = false := decide_eq_false (by omega)
   clear c5
   (first | rw [c5b0] | (simp only [i64_w, i32_w]; rw [c5b0]) | skip)
   by_cases c6 : (l0_0.length : Int) > 4
   ·rw [if_pos c6] at H
    have c6b0 := decide_eq_true c6
    have c6b1 : decide (4 < l0_0.length) = true := decide_eq_true (by omega)
    clear c6
    have H' := Aside0.mk H
    clear H
    go_wp2
    go_meet
    case rel => exact ⟨_, (true), (g3_), H', ⟨g13_⟩, ⟨uf0_ BK170⟩, ⟨impl_isBook.calls_q0⟩⟩
   ·rw [if_neg c6] at H
    have c6b0 := decide_eq_false c6
    have c6b1 : decide (4 < l0_0.length) = false := decide_eq_false (by omega)
    clear c6
    have H' := Aside0.mk H
    clear H
    obtain ⟨hcz7_0, hcz7_1, hfz7_0, hfz7_1⟩ := blk2_ BK170
    go_wp2
    go_meet
    case rel => exact ⟨_, (((l0_1.length : Int) != (l0_0.length : Int))), (g3_), H', ⟨g13_⟩, ⟨uf0_ BK170⟩, ⟨impl_isBook.calls_q0⟩⟩
 case rest =>
  clear HC2
  try clear p2
  try clear c5
  try clear c5b0
  try clear c5b1
  try clear c6
  try clear c6b0
  try clear c6b1
  try clear hcz4_0
  try clear hcz4_1
  try clear hcz7_0
  try clear hcz7_1
  try clear hfz4_0
  try clear hfz4_1
  try clear hfz7_0
  try clear hfz7_1
  obtain ⟨kq, x23_1, rfl, HA, HJ1, BK170, HB⟩ := hcut
  cases kq with
  | zero => exact absurd HA.out (by simp [impl_isBook.j0])
  | succ kj1 =>
   have H := HA.out
   clear HA
   simp only [impl_isBook.j0] at H
   by_cases c8 : x23_1 = true
   ·subst c8
    replace H := ifp_ H
    obtain rfl := Option.some.inj H
    go_wp2
    go_ret
    exact ⟨g4_, impl_isBook.calls_q0⟩
   ·replace c8 := Bool.eq_false_iff.mpr c8
    subst c8
    replace H := ifn_ H
    have H' := Aside0.mk H
    clear H
    obtain ⟨hcz9_0, hcz9_1, hfz9_0, hfz9_1⟩ := blk2_ BK170
    go_wp2
    go_loopg [27] kj1 (fun kq v27 w' => ∃ (x27_2 : Int), v27 = .int .i64 x27_2 ∧ Aside0 (impl_isBook.l0 kq (l0_0.length : Int) l0_1 (l0_1.length : Int) x27_2 l0_0 l0_1 = some r) ∧ Aside0 (kq ≤ kj1) ∧ Aside0 (w'.heap[gb170]? = some (.cells #[(.slice A0_0 l0_0.length c0_0), (.slice A0_1 l0_1.length c0_1)] 26 (0, 0))) ∧ Aside0 (Below w.heap.size w w'))
    case atStart => exact ⟨(0), (g3_), H', ⟨Nat.le_refl _⟩, ⟨uf0_ BK170⟩, ⟨impl_isBook.calls_q0⟩⟩
    case round =>
     clear H'
     try clear p2
     try clear c5
     try clear c5b0
     try clear c5b1
     try clear c6
     try clear c6b0
     try clear c6b1
     try clear c8
     try clear hcz4_0
     try clear hcz4_1
     try clear hcz7_0
     try clear hcz7_1
     try clear hcz9_0
     try clear hcz9_1
     try clear hfz4_0
     try clear hfz4_1
     try clear hfz7_0
     try clear hfz7_1
     try clear hfz9_0
     try clear hfz9_1
     try clear p2
     obtain ⟨x27_2, rfl, HA, HK2, BK170, HB⟩ := hrel
     cases gk with
     | zero => exact absurd HA.out (by simp [impl_isBook.l0])
     | succ k2 =>
      have H := HA.out
      clear HA
      simp only [impl_isBook.l0] at H
      by_cases c10 : x27_2 < (l0_1.length : Int)
      ·rw [if_pos c10] at H
       have c10b0 := decide_eq_true c10
       clear c10
       obtain ⟨c11, H⟩ := pos_ H
       have c11b0 := decide_eq_true c11
       clear c11
       obtain ⟨c12, H⟩ := pos_ H
       have c12b0 := decide_eq_true c12
       clear c12
       have HC13 := Aside0.mk H
       clear H
       have p171 : 0 ≤ (x27_2 : Int) := of_decide_eq_true (g1_)
       have q171 : x27_2 < (l0_1.length : Int) := of_decide_eq_true (g1_)
       obtain ⟨ad171, A171_0, c171_0, e171, hx171_0, hl171_0, hi171_0⟩ := at_L2 HR0_1.out x27_2 p171 q171
       cases e171
       replace hx171_0 := cl_ HB hx171_0
       have HR171_0 := Aside0.mk hi171_0
       have HC171_0 := Aside0.mk hl171_0
       clear hi171_0 hl171_0
       replace p171 := eq_true p171
       replace q171 := eq_true q171
       go_upto_region 7 with (fail)
       go_cut [58] (fun v58 wc => ∃ (kq : Nat) (x58_12 : Bool), v58 = .bool x58_12 ∧ Aside0 (impl_isBook.j2 kq (l0_0.length : Int) (rd_L2 l0_1 x27_2) l0_1 (l0_1.length : Int) x27_2 x58_12 l0_0 l0_1 = some r) ∧ Aside0 (kq ≤ k2) ∧ Aside0 (wc.heap[gb170]? = some (.cells #[(.slice A0_0 l0_0.length c0_0), (.slice (some ad171) l0_1.length c0_1)] 26 (0, 0))) ∧ Aside0 (Below w.heap.size w wc))
       case first =>
        have H := HC13.out
        clear HC13
        obtain ⟨c14, H⟩ := pos_ H
        have c14b0 := decide_eq_true c14
        clear c14
        (first | rw [c14b0] | (simp only [i64_w, i32_w]; rw [c14b0]) | skip)
        by_cases c15 : (rd l0_0 x27_2) < 0
        ·rw [if_pos c15] at H
         have c15b0 := decide_eq_true c15
         clear c15
         have H' := Aside0.mk H
         clear H
         obtain ⟨hcz16_0, hcz16_1, hfz16_0, hfz16_1⟩ := blk2_ BK170
         have p172 : 0 ≤ (x27_2 : Int) := of_decide_eq_true (g1_)
         have q172 : x27_2 < (l0_0.length : Int) := of_decide_eq_true (g1_)
         obtain ⟨ad172, e172, hx172_0⟩ := Kd.at_int HR0_0.out x27_2 p172 q172
         cases e172
         replace hx172_0 := cl_ HB hx172_0
         replace p172 := eq_true p172
         replace q172 := eq_true q172
         go_wp2
         go_meet
         case rel => exact ⟨_, (true), (g3_), H', ⟨g47_⟩, ⟨uf0_ BK170⟩, ⟨impl_isBook.calls_q0⟩⟩
        ·rw [if_neg c15] at H
         have c15b0 := decide_eq_false c15
         clear c15
         by_cases c17 : (rd l0_0 x27_2) > 20
         ·rw [if_pos c17] at H
          have c17b0 := decide_eq_true c17
          clear c17
          have H' := Aside0.mk H
          clear H
          obtain ⟨hcz18_0, hcz18_1, hfz18_0, hfz18_1⟩ := blk2_ BK170
          have p172 : 0 ≤ (x27_2 : Int) := of_decide_eq_true (g1_)
          have q172 : x27_2 < (l0_0.length : Int) := of_decide_eq_true (g1_)
          obtain ⟨ad172, e172, hx172_0⟩ := Kd.at_int HR0_0.out x27_2 p172 q172
          cases e172
          replace hx172_0 := cl_ HB hx172_0
          replace p172 := eq_true p172
          replace q172 := eq_true q172
          have p173 : 0 ≤ (x27_2 : Int) := of_decide_eq_true (g1_)
          have q173 : x27_2 < (l0_0.length : Int) := of_decide_eq_true (g1_)
          obtain ⟨ad173, e173, hx173_0⟩ := Kd.at_int HR0_0.out x27_2 p173 q173
          obtain rfl : ad172 = ad173 := (by injection e173)
          replace hx173_0 := cl_ HB hx173_0
          replace p173 := eq_true p173
          replace q173 := eq_true q173
          go_wp2
          go_meet
          case rel => exact ⟨_, (true), (g3_), H', ⟨g47_⟩, ⟨uf0_ BK170⟩, ⟨impl_isBook.calls_q0⟩⟩
         ·rw [if_neg c17] at H
          have c17b0 := decide_eq_false c17
          clear c17
          by_cases c19 : ((rd_L2 l0_1 x27_2).length : Int) = (l0_0.length : Int)
          ·rw [if_pos c19] at H
           have c19b0 : (((rd_L2 l0_1 x27_2).length : Int) == (l0_0.length : Int)) = true := beq_iff_eq.mpr c19
           have c19b1 : (((rd_L2 l0_1 x27_2).length : Int) != (l0_0.length : Int)) = false := bne_eq_false_iff_eq.mpr c19
           have c19b2 : ((rd_L2 l0_1 x27_2).length == l0_0.length) = true := by first | simpa using c19 | (simp at c19 ⊢; omega)
           clear c19
           obtain ⟨c20, H⟩ := pos_ H
           have c20b0 := decide_eq_true c20
           clear c20
           have H' := Aside0.mk H
           clear H
           obtain ⟨hcz21_0, hcz21_1, hfz21_0, hfz21_1⟩ := blk2_ BK170
           have p172 : 0 ≤ (x27_2 : Int) := of_decide_eq_true (g1_)
           have q172 : x27_2 < (l0_0.length : Int) := of_decide_eq_true (g1_)
           obtain ⟨ad172, e172, hx172_0⟩ := Kd.at_int HR0_0.out x27_2 p172 q172
           cases e172
           replace hx172_0 := cl_ HB hx172_0
           replace p172 := eq_true p172
           replace q172 := eq_true q172
           have p173 : 0 ≤ (x27_2 : Int) := of_decide_eq_true (g1_)
           have q173 : x27_2 < (l0_0.length : Int) := of_decide_eq_true (g1_)
           obtain ⟨ad173, e173, hx173_0⟩ := Kd.at_int HR0_0.out x27_2 p173 q173
           obtain rfl : ad172 = ad173 := (by injection e173)
           replace hx173_0 := cl_ HB hx173_0
           replace p173 := eq_true p173
           replace q173 := eq_true q173
           have p174 : 0 ≤ (x27_2 : Int) := of_decide_eq_true (g1_)
           have q174 : x27_2 < ((rd_L2 l0_1 x27_2).length : Int) := of_decide_eq_true (g1_)
           obtain ⟨ad174, e174, hx174_0⟩ := Kd.at_int HR171_0.out x27_2 p174 q174
           cases e174
           replace hx174_0 := cl_ HB hx174_0
           replace p174 := eq_true p174
           replace q174 := eq_true q174
           go_wp2
           go_meet
           case rel => exact ⟨_, (((rd (rd_L2 l0_1 x27_2) x27_2) != 0)), (g3_), H', ⟨g47_⟩, ⟨uf0_ BK170⟩, ⟨impl_isBook.calls_q0⟩⟩
          ·rw [if_neg c19] at H
           have c19b0 : (((rd_L2 l0_1 x27_2).length : Int) == (l0_0.length : Int)) = false := beq_eq_false_iff_ne.mpr c19
           have c19b1 : (((rd_L2 l0_1 x27_2).length : Int) != (l0_0.length : Int)) = true := bne_iff_ne.mpr c19
           have c19b2 : ((rd_L2 l0_1 x27_2).length == l0_0.length) = false := by first | simpa using c19 | (simp at c19 ⊢; omega)
           have H' := Aside0.mk H
           clear H
           obtain ⟨hcz22_0, hcz22_1, hfz22_0, hfz22_1⟩ := blk2_ BK170
           have p172 : 0 ≤ (x27_2 : Int) := of_decide_eq_true (g1_)
           have q172 : x27_2 < (l0_0.length : Int) := of_decide_eq_true (g1_)
           obtain ⟨ad172, e172, hx172_0⟩ := Kd.at_int HR0_0.out x27_2 p172 q172
           cases e172
           replace hx172_0 := cl_ HB hx172_0
           replace p172 := eq_true p172
           replace q172 := eq_true q172
           have p173 : 0 ≤ (x27_2 : Int) := of_decide_eq_true (g1_)
           have q173 : x27_2 < (l0_0.length : Int) := of_decide_eq_true (g1_)
           obtain ⟨ad173, e173, hx173_0⟩ := Kd.at_int HR0_0.out x27_2 p173 q173
           obtain rfl : ad172 = ad173 := (by injection e173)
           replace hx173_0 := cl_ HB hx173_0
           replace p173 := eq_true p173
           replace q173 := eq_true q173
           go_wp2
           go_meet
           case rel => exact ⟨_, (true), (g3_), H', ⟨g47_⟩, ⟨uf0_ BK170⟩, ⟨impl_isBook.calls_q0⟩⟩
       case rest =>
        clear HC13
        try clear c1
        try clear p1
        try clear q1
        try clear hx1
        try clear c2
        try clear p2
        try clear c5
        try clear c5b0
        try clear c5b1
        try clear c6
        try clear c6b0
        try clear c6b1
        try clear c8
        try clear c10
        try clear c10b0
        try clear c11
        try clear c11b0
        try clear c12
        try clear c12b0
        try clear c14
        try clear c14b0
        try clear c15
        try clear c15b0
        try clear c17
        try clear c17b0
        try clear p17
        try clear q17
        try clear hx17
        try clear c19
        try clear c19b0
        try clear c19b1
        try clear c19b2
        try clear c20
        try clear c20b0
        try clear hcz16_0
        try clear hcz16_1
        try clear hcz18_0
        try clear hcz18_1
        try clear hcz21_0
        try clear hcz21_1
        try clear hcz22_0
        try clear hcz22_1
        try clear hcz4_0
        try clear hcz4_1
        try clear hcz7_0
        try clear hcz7_1
        try clear hcz9_0
        try clear hcz9_1
        try clear hfz16_0
        try clear hfz16_1
        try clear hfz18_0
        try clear hfz18_1
        try clear hfz21_0
        try clear hfz21_1
        try clear hfz22_0
        try clear hfz22_1
        try clear hfz4_0
        try clear hfz4_1
        try clear hfz7_0
        try clear hfz7_1
        try clear hfz9_0
        try clear hfz9_1
        try clear hx171_0
        try clear hx172_0
        try clear hx173_0
        try clear hx174_0
        try clear p171
        try clear p172
        try clear p173
        try clear p174
        try clear p2
        try clear q171
        try clear q172
        try clear q173
        try clear q174
        obtain ⟨kq, x58_12, rfl, HA, HJ12, BK170, HB⟩ := hcut
        cases kq with
        | zero => exact absurd HA.out (by simp [impl_isBook.j2])
        | succ kj12 =>
         have H := HA.out
         clear HA
         simp only [impl_isBook.j2] at H
         by_cases c23 : x58_12 = true
         ·subst c23
          replace H := ifp_ H
          obtain rfl := Option.some.inj H
          go_wp2
          go_ret
          exact ⟨g4_, impl_isBook.calls_q0⟩
         ·replace c23 := Bool.eq_false_iff.mpr c23
          subst c23
          replace H := ifn_ H
          have H' := Aside0.mk H
          clear H
          go_wp2
          go_loopg [61] kj12 (fun kq v61 w' => ∃ (x61_4 : Int), v61 = .int .i64 x61_4 ∧ Aside0 (impl_isBook.l1 kq (l0_0.length : Int) l0_1 (l0_1.length : Int) x27_2 (rd_L2 l0_1 x27_2) ((rd_L2 l0_1 x27_2).length : Int) x61_4 l0_0 l0_1 = some r) ∧ Aside0 (kq ≤ kj12) ∧ Aside0 (w'.heap[gb170]? = some (.cells #[(.slice A0_0 l0_0.length c0_0), (.slice (some ad171) l0_1.length c0_1)] 26 (0, 0))) ∧ Aside0 (Below w.heap.size w w'))
          case atStart => exact ⟨(0), (g3_), H', ⟨Nat.le_refl _⟩, ⟨uf0_ BK170⟩, ⟨impl_isBook.calls_q0⟩⟩
          case round =>
           clear H'
           try clear c1
           try clear p1
           try clear q1
           try clear hx1
           try clear c2
           try clear p2
           try clear c5
           try clear c5b0
           try clear c5b1
           try clear c6
           try clear c6b0
           try clear c6b1
           try clear c8
           try clear c10
           try clear c10b0
           try clear c11
           try clear c11b0
           try clear c12
           try clear c12b0
           try clear c14
           try clear c14b0
           try clear c15
           try clear c15b0
           try clear c17
           try clear c17b0
           try clear p17
           try clear q17
           try clear hx17
           try clear c19
           try clear c19b0
           try clear c19b1
           try clear c19b2
           try clear c20
           try clear c20b0
           try clear c23
           try clear hcz16_0
           try clear hcz16_1
           try clear hcz18_0
           try clear hcz18_1
           try clear hcz21_0
           try clear hcz21_1
           try clear hcz22_0
           try clear hcz22_1
           try clear hcz4_0
           try clear hcz4_1
           try clear hcz7_0
           try clear hcz7_1
           try clear hcz9_0
           try clear hcz9_1
           try clear hfz16_0
           try clear hfz16_1
           try clear hfz18_0
           try clear hfz18_1
           try clear hfz21_0
           try clear hfz21_1
           try clear hfz22_0
           try clear hfz22_1
           try clear hfz4_0
           try clear hfz4_1
           try clear hfz7_0
           try clear hfz7_1
           try clear hfz9_0
           try clear hfz9_1
           try clear hx171_0
           try clear hx172_0
           try clear hx173_0
           try clear hx174_0
           try clear p1
           try clear p17
           try clear p171
           try clear p172
           try clear p173
           try clear p174
           try clear p2
           try clear q1
           try clear q17
           try clear q171
           try clear q172
           try clear q173
           try clear q174
           obtain ⟨x61_4, rfl, HA, HK4, BK170, HB⟩ := hrel
           cases gk with
           | zero => exact absurd HA.out (by simp [impl_isBook.l1])
           | succ k4 =>
            have H := HA.out
            clear HA
            simp only [impl_isBook.l1] at H
            by_cases c24 : x61_4 < ((rd_L2 l0_1 x27_2).length : Int)
            ·rw [if_pos c24] at H
             have c24b0 := decide_eq_true c24
             clear c24
             obtain ⟨c25, H⟩ := pos_ H
             have c25b0 := decide_eq_true c25
             clear c25
             obtain ⟨c26, H⟩ := pos_ H
             have c26b0 := decide_eq_true c26
             clear c26
             by_cases c27 : (rd (rd_L2 l0_1 x27_2) x61_4) < 0
             ·rw [if_pos c27] at H
              have c27b0 := decide_eq_true c27
              clear c27
              obtain rfl := Option.some.inj H
              have p175 : 0 ≤ (x61_4 : Int) := of_decide_eq_true (g1_)
              have q175 : x61_4 < ((rd_L2 l0_1 x27_2).length : Int) := of_decide_eq_true (g1_)
              obtain ⟨ad175, e175, hx175_0⟩ := Kd.at_int HR171_0.out x61_4 p175 q175
              cases e175
              replace hx175_0 := cl_ HB hx175_0
              replace p175 := eq_true p175
              replace q175 := eq_true q175
              go_wp2
              go_ret
              exact ⟨g4_, impl_isBook.calls_q0⟩
             ·rw [if_neg c27] at H
              have c27b0 := decide_eq_false c27
              clear c27
              by_cases c28 : (rd (rd_L2 l0_1 x27_2) x61_4) > 9
              ·rw [if_pos c28] at H
               have c28b0 := decide_eq_true c28
               clear c28
               obtain rfl := Option.some.inj H
               have p175 : 0 ≤ (x61_4 : Int) := of_decide_eq_true (g1_)
               have q175 : x61_4 < ((rd_L2 l0_1 x27_2).length : Int) := of_decide_eq_true (g1_)
               obtain ⟨ad175, e175, hx175_0⟩ := Kd.at_int HR171_0.out x61_4 p175 q175
               cases e175
               replace hx175_0 := cl_ HB hx175_0
               replace p175 := eq_true p175
               replace q175 := eq_true q175
               go_wp2
               go_ret
               exact ⟨g4_, impl_isBook.calls_q0⟩
              ·rw [if_neg c28] at H
               have c28b0 := decide_eq_false c28
               clear c28
               have H' := Aside0.mk H
               clear H
               have p175 : 0 ≤ (x61_4 : Int) := of_decide_eq_true (g1_)
               have q175 : x61_4 < ((rd_L2 l0_1 x27_2).length : Int) := of_decide_eq_true (g1_)
               obtain ⟨ad175, e175, hx175_0⟩ := Kd.at_int HR171_0.out x61_4 p175 q175
               cases e175
               replace hx175_0 := cl_ HB hx175_0
               replace p175 := eq_true p175
               replace q175 := eq_true q175
               go_wp2
               go_roundg k4
               case measure => have := HJ1.out; have := HK2.out; have := HJ12.out; have := HK4.out; omega
               case rel => exact ⟨(wrap64 (x61_4 + 1)), (g3_), H', ⟨by have := HJ1.out; have := HK2.out; have := HJ12.out; have := HK4.out; omega⟩, ⟨uf0_ BK170⟩, ⟨impl_isBook.calls_q0⟩⟩
            ·rw [if_neg c24] at H
             have c24b0 := decide_eq_false c24
             clear c24
             have H' := Aside0.mk H
             clear H
             go_wp2
             go_roundg k4
             case measure => have := HJ1.out; have := HK2.out; have := HJ12.out; have := HK4.out; omega
             case rel => exact ⟨(wrap64 (x27_2 + 1)), (g3_), H', ⟨by have := HJ1.out; have := HK2.out; have := HJ12.out; have := HK4.out; omega⟩, ⟨uf0_ BK170⟩, ⟨impl_isBook.calls_q0⟩⟩
      ·rw [if_neg c10] at H
       have c10b0 := decide_eq_false c10
       clear c10
       obtain rfl := Option.some.inj H
       go_wp2
       go_ret
       exact ⟨g4_, impl_isBook.calls_q0⟩
def impl_whole.f (a0 : Int) : Option (Int × Int) := some (a0, 1)
theorem impl_whole.calls_q0 {p : Prop} (h : p := by repeat (first | (with_reducible first | exact HB.out | apply below_alloc | apply pw_below_drewN | apply below_drew1 | refine below_set ?_ GE176.out) | exact HB.out)) : p := h
set_option maxHeartbeats 8000000 in
set_option maxRecDepth 100000 in
theorem impl_whole.calls (a0 : Int) (r1 : Int) (r2 : Int) (w : World) (h : impl_whole.f a0 = some (r1, r2)) :
  Calls Try.prog 89 #[.int .i64 a0] w fun e w' => e = .returned (.agg #[.int .i64 r1, .int .i64 r2]) ∧ Below w.heap.size w w' := by
 have hu36 := Try.underlying36
 have HB := Aside0.mk (Below.refl w.heap.size w)
 have H : (some (a0, 1)) = some (r1, r2) := h
 clear h
 simp only [Option.some.injEq, Prod.mk.injEq] at H
 obtain ⟨rfl, rfl⟩ := H
 go_enter Try.func89, Try.ntmps89
 go_wp2_with (first | ((with_reducible refine gate_dst (N := 2) rfl ?_); refine bx_ (N := 2) #[.int .i64 0, .int .i64 0] 36 ?_; intro gb176 hg w2 hbox hb; have BK176 := Aside0.mk (hbox); have GW176 := Aside0.mk ((by rw [hg]; exact (below_size (impl_whole.calls_q0)) : w.heap.size ≤ gb176)); have GE176 := Aside0.mk ((by rw [hg]; exact (below_size (impl_whole.calls_q0)) : w.heap.size ≤ gb176)); replace HB := Aside0.mk (below_step (impl_whole.calls_q0) hb); clear hb hbox hg; obtain ⟨hcz3_0, hcz3_1, hfz3_0, hfz3_1⟩ := blk2_ BK176))
 refine bodyPost_ret (results_cell_row rfl _ _ gb176 36 #[.int .i64 a0, .int .i64 1] (0, 0) _ rfl (by (with_reducible repeat (first | refine blk_drewN ?_ _ | refine blk_drew ?_ | refine blk_alloc ?_ _)); refine blk_put (cs := #[.int .i64 a0, .int .i64 0]) ?_ 1 _ rfl; (with_reducible repeat (first | refine blk_drewN ?_ _ | refine blk_drew ?_ | refine blk_alloc ?_ _)); refine blk_put (cs := #[.int .i64 0, .int .i64 0]) ?_ 0 _ rfl; (with_reducible repeat (first | refine blk_drewN ?_ _ | refine blk_drew ?_ | refine blk_alloc ?_ _)); exact BK176.out) Try.underlying36 rfl (g0_)) rfl ?_
 exact ⟨g4_, impl_whole.calls_q0⟩
def cmp_isNaN_int.f (a0 : Int) : Option (Bool) := some (a0 != a0)
set_option maxHeartbeats 8000000 in
set_option maxRecDepth 100000 in
theorem cmp_isNaN_int.calls (a0 : Int) (r : Bool) (w : World) (h : cmp_isNaN_int.f a0 = some r) :
  Calls Try.prog 101 #[.int .i64 a0] w fun e w' => e = .returned (.bool r) ∧ Drawn0 w w' := by
 have H : (some (a0 != a0)) = some r := h
 clear h
 obtain rfl := Option.some.inj H
 go_enter Try.func101, Try.ntmps101
 go_wp2
 go_ret
 exact ⟨g3_, g5_⟩
def cmp_Compare_int.f (a0 : Int) (a1 : Int) : Option (Int) := (cmp_isNaN_int.f a0).bind fun t221 => ((cmp_isNaN_int.f a1).bind fun t222 => (if t221 = true then (if t222 = true then (some 0) else (some (-1))) else (if t222 = true then (some 1) else (if a0 < a1 then (some (-1)) else (if a0 > a1 then (some 1) else (some 0))))))
set_option maxHeartbeats 8000000 in
set_option maxRecDepth 100000 in
theorem cmp_Compare_int.calls (a0 : Int) (a1 : Int) (r : Int) (w : World) (h : cmp_Compare_int.f a0 a1 = some r) :
  Calls Try.prog 98 #[.int .i64 a0, .int .i64 a1] w fun e w' => e = .returned (.int .i64 r) ∧ Drawn0 w w' := by
 have H : ((cmp_isNaN_int.f a0).bind fun t221 => ((cmp_isNaN_int.f a1).bind fun t222 => (if t221 = true then (if t222 = true then (some 0) else (some (-1))) else (if t222 = true then (some 1) else (if a0 < a1 then (some (-1)) else (if a0 > a1 then (some 1) else (some 0))))))) = some r := h
 clear h
 obtain ⟨t221, A3, H⟩ := bind_ H
 obtain ⟨t222, A4, H⟩ := bind_ H
 by_cases c5 : t221 = true
 ·subst c5
  replace H := ifp_ H
  by_cases c6 : t222 = true
  ·subst c6
   replace H := ifp_ H
   obtain rfl := Option.some.inj H
   go_enter Try.func98, Try.ntmps98
   go_wp2_with (first | ((with_reducible refine gate_callee (f := 101) rfl ?_); refine goesL_ (some 8) rfl rfl Try.func101 k_ rfl #[.int .i64 a0] rfl (g2_) ?_; (with_reducible refine (cmp_isNaN_int.calls a0 true _ A3.out).mono ?_); rintro e w' ⟨rfl, ⟨nd, rfl⟩⟩; refine ⟨_, rfl, ?_⟩) | ((with_reducible refine gate_callee (f := 101) rfl ?_); refine goesL_ (some 10) rfl rfl Try.func101 k_ rfl #[.int .i64 a1] rfl (g2_) ?_; (with_reducible refine (cmp_isNaN_int.calls a1 true _ A4.out).mono ?_); rintro e w' ⟨rfl, ⟨nd, rfl⟩⟩; refine ⟨_, rfl, ?_⟩))
   go_ret
   exact ⟨g3_, g5_⟩
  ·replace c6 := Bool.eq_false_iff.mpr c6
   subst c6
   replace H := ifn_ H
   obtain rfl := Option.some.inj H
   go_enter Try.func98, Try.ntmps98
   go_wp2_with (first | ((with_reducible refine gate_callee (f := 101) rfl ?_); refine goesL_ (some 8) rfl rfl Try.func101 k_ rfl #[.int .i64 a0] rfl (g2_) ?_; (with_reducible refine (cmp_isNaN_int.calls a0 true _ A3.out).mono ?_); rintro e w' ⟨rfl, ⟨nd, rfl⟩⟩; refine ⟨_, rfl, ?_⟩) | ((with_reducible refine gate_callee (f := 101) rfl ?_); refine goesL_ (some 10) rfl rfl Try.func101 k_ rfl #[.int .i64 a1] rfl (g2_) ?_; (with_reducible refine (cmp_isNaN_int.calls a1 false _ A4.out).mono ?_); rintro e w' ⟨rfl, ⟨nd, rfl⟩⟩; refine ⟨_, rfl, ?_⟩))
   go_ret
   exact ⟨g3_, g5_⟩
 ·replace c5 := Bool.eq_false_iff.mpr c5
  subst c5
  replace H := ifn_ H
  by_cases c7 : t222 = true
  ·subst c7
   replace H := ifp_ H
   obtain rfl := Option.some.inj H
   go_enter Try.func98, Try.ntmps98
   go_wp2_with (first | ((with_reducible refine gate_callee (f := 101) rfl ?_); refine goesL_ (some 8) rfl rfl Try.func101 k_ rfl #[.int .i64 a0] rfl (g2_) ?_; (with_reducible refine (cmp_isNaN_int.calls a0 false _ A3.out).mono ?_); rintro e w' ⟨rfl, ⟨nd, rfl⟩⟩; refine ⟨_, rfl, ?_⟩) | ((with_reducible refine gate_callee (f := 101) rfl ?_); refine goesL_ (some 10) rfl rfl Try.func101 k_ rfl #[.int .i64 a1] rfl (g2_) ?_; (with_reducible refine (cmp_isNaN_int.calls a1 true _ A4.out).mono ?_); rintro e w' ⟨rfl, ⟨nd, rfl⟩⟩; refine ⟨_, rfl, ?_⟩))
   go_ret
   exact ⟨g3_, g5_⟩
  ·replace c7 := Bool.eq_false_iff.mpr c7
   subst c7
   replace H := ifn_ H
   by_cases c8 : a0 < a1
   ·rw [if_pos c8] at H
    have c8b0 := decide_eq_true c8
    clear c8
    obtain rfl := Option.some.inj H
    go_enter Try.func98, Try.ntmps98
    go_wp2_with (first | ((with_reducible refine gate_callee (f := 101) rfl ?_); refine goesL_ (some 8) rfl rfl Try.func101 k_ rfl #[.int .i64 a0] rfl (g2_) ?_; (with_reducible refine (cmp_isNaN_int.calls a0 false _ A3.out).mono ?_); rintro e w' ⟨rfl, ⟨nd, rfl⟩⟩; refine ⟨_, rfl, ?_⟩) | ((with_reducible refine gate_callee (f := 101) rfl ?_); refine goesL_ (some 10) rfl rfl Try.func101 k_ rfl #[.int .i64 a1] rfl (g2_) ?_; (with_reducible refine (cmp_isNaN_int.calls a1 false _ A4.out).mono ?_); rintro e w' ⟨rfl, ⟨nd, rfl⟩⟩; refine ⟨_, rfl, ?_⟩))
    go_ret
    exact ⟨g3_, g5_⟩
   ·rw [if_neg c8] at H
    have c8b0 := decide_eq_false c8
    clear c8
    by_cases c9 : a0 > a1
    ·rw [if_pos c9] at H
     have c9b0 := decide_eq_true c9
     clear c9
     obtain rfl := Option.some.inj H
     go_enter Try.func98, Try.ntmps98
     go_wp2_with (first | ((with_reducible refine gate_callee (f := 101) rfl ?_); refine goesL_ (some 8) rfl rfl Try.func101 k_ rfl #[.int .i64 a0] rfl (g2_) ?_; (with_reducible refine (cmp_isNaN_int.calls a0 false _ A3.out).mono ?_); rintro e w' ⟨rfl, ⟨nd, rfl⟩⟩; refine ⟨_, rfl, ?_⟩) | ((with_reducible refine gate_callee (f := 101) rfl ?_); refine goesL_ (some 10) rfl rfl Try.func101 k_ rfl #[.int .i64 a1] rfl (g2_) ?_; (with_reducible refine (cmp_isNaN_int.calls a1 false _ A4.out).mono ?_); rintro e w' ⟨rfl, ⟨nd, rfl⟩⟩; refine ⟨_, rfl, ?_⟩))
     go_ret
     exact ⟨g3_, g5_⟩
    ·rw [if_neg c9] at H
     have c9b0 := decide_eq_false c9
     clear c9
     obtain rfl := Option.some.inj H
     go_enter Try.func98, Try.ntmps98
     go_wp2_with (first | ((with_reducible refine gate_callee (f := 101) rfl ?_); refine goesL_ (some 8) rfl rfl Try.func101 k_ rfl #[.int .i64 a0] rfl (g2_) ?_; (with_reducible refine (cmp_isNaN_int.calls a0 false _ A3.out).mono ?_); rintro e w' ⟨rfl, ⟨nd, rfl⟩⟩; refine ⟨_, rfl, ?_⟩) | ((with_reducible refine gate_callee (f := 101) rfl ?_); refine goesL_ (some 10) rfl rfl Try.func101 k_ rfl #[.int .i64 a1] rfl (g2_) ?_; (with_reducible refine (cmp_isNaN_int.calls a1 false _ A4.out).mono ?_); rintro e w' ⟨rfl, ⟨nd, rfl⟩⟩; refine ⟨_, rfl, ?_⟩))
     go_ret
     exact ⟨g3_, g5_⟩
def impl_compare.f (a0_0 : Int) (a0_1 : Int) (a1_0 : Int) (a1_1 : Int) : Option (Int) := (cmp_Compare_int.f (wrap64 (a0_0 * a1_1)) (wrap64 (a1_0 * a0_1))).bind fun t225 => (some t225)
theorem impl_compare.calls_q0 {p : Prop} (h : p := by repeat (first | (with_reducible first | exact HB.out | apply below_alloc | apply pw_below_drewN | apply below_drew1 | refine below_set ?_ GE223.out | refine below_set ?_ GE224.out) | exact HB.out)) : p := h
set_option maxHeartbeats 8000000 in
set_option maxRecDepth 100000 in
theorem impl_compare.calls (a0_0 : Int) (a0_1 : Int) (a1_0 : Int) (a1_1 : Int) (r : Int) (w : World) (h : impl_compare.f a0_0 a0_1 a1_0 a1_1 = some r) :
  Calls Try.prog 78 #[.agg #[.int .i64 a0_0, .int .i64 a0_1], .agg #[.int .i64 a1_0, .int .i64 a1_1]] w fun e w' => e = .returned (.int .i64 r) ∧ Below w.heap.size w w' := by
 have hu36 := Try.underlying36
 have HB := Aside0.mk (Below.refl w.heap.size w)
 have H : ((cmp_Compare_int.f (wrap64 (a0_0 * a1_1)) (wrap64 (a1_0 * a0_1))).bind fun t225 => (some t225)) = some r := h
 clear h
 obtain ⟨t225, A3, H⟩ := bind_ H
 obtain rfl := Option.some.inj H
 go_enter Try.func78, Try.ntmps78
 go_wp2_with (first | ((with_reducible refine gate_dst (N := 2) rfl ?_); refine bx_ (N := 2) #[.int .i64 a0_0, .int .i64 a0_1] 36 ?_; intro gb223 hg w4 hbox hb; have BK223 := Aside0.mk (hbox); have GW223 := Aside0.mk ((g87_ : w.heap.size ≤ gb223)); have GE223 := Aside0.mk ((g87_ : w.heap.size ≤ gb223)); replace HB := Aside0.mk (below_step (impl_compare.calls_q0) hb); clear hb hbox hg) | ((with_reducible refine gate_dst (N := 3) rfl ?_); refine bx_ (N := 3) #[.int .i64 a1_0, .int .i64 a1_1] 36 ?_; intro gb224 hg w5 hbox hb; have BK224 := Aside0.mk (hbox); have GW224 := Aside0.mk ((g87_ : w.heap.size ≤ gb224)); have GE224 := Aside0.mk ((g87_ : w.heap.size ≤ gb224)); replace HB := Aside0.mk (below_step (impl_compare.calls_q0) hb); have NB223_224 := Aside0.mk ((by rw [hg]; exact Nat.ne_of_lt (blk_lt (g := gb223) (o := .cells #[.int .i64 a0_0, .int .i64 a0_1] 36 (0, 0)) (uf0_ BK223)) : gb223 ≠ gb224)); have NB224_223 := Aside0.mk ((by rw [hg]; exact Nat.ne_of_gt (blk_lt (g := gb223) (o := .cells #[.int .i64 a0_0, .int .i64 a0_1] 36 (0, 0)) (uf0_ BK223)) : gb224 ≠ gb223)); replace BK223 := bb_ BK223 hb; clear hb hbox hg; have hnb6 := NB223_224.out; have hnc6 := NB224_223.out; obtain ⟨hcz7_0, hcz7_1, hfz7_0, hfz7_1⟩ := blk2_ BK223; obtain ⟨hcz8_0, hcz8_1, hfz8_0, hfz8_1⟩ := blk2_ BK224) | ((with_reducible refine gate_callee (f := 98) rfl ?_); refine goesL_ (some 15) rfl rfl Try.func98 k_ rfl #[.int .i64 (wrap64 (a0_0 * a1_1)), .int .i64 (wrap64 (a1_0 * a0_1))] rfl (g2_) ?_; (with_reducible refine (cmp_Compare_int.calls (wrap64 (a0_0 * a1_1)) (wrap64 (a1_0 * a0_1)) t225 _ A3.out).mono ?_); rintro e w' ⟨rfl, ⟨nd, rfl⟩⟩; refine ⟨_, rfl, ?_⟩))
 go_ret
 exact ⟨g4_, impl_compare.calls_q0⟩
mutual
def impl_owes.l0 : Nat → List Int → List (List Int) → Int → Int → Option (List Int)
 | 0, _, _, _, _ => none
 | k + 1, x3, x13, x14, x15 => if x15 < x14 then (if 0 ≤ x15 then (if x15 < (x13.length : Int) then (impl_owes.l1 k x3 x15 x13 x14 x15 (rd_L2 x13 x15) ((rd_L2 x13 x15).length : Int) 0) else (none)) else (none)) else (some x3)
def impl_owes.l1 : Nat → List Int → Int → List (List Int) → Int → Int → List Int → Int → Int → Option (List Int)
 | 0, _, _, _, _, _, _, _, _ => none
 | k + 1, x3, x4, x13, x14, x15, x20, x21, x22 => if x22 < x21 then (if 0 ≤ x22 then (if x22 < (x20.length : Int) then (if 0 ≤ x4 then (if x4 < (x3.length : Int) then (impl_owes.l1 k (x3.set (x4 : Int).toNat (wrap64 ((rd x3 x4) + (rd x20 x22)))) x4 x13 x14 x15 x20 x21 (wrap64 (x22 + 1))) else (none)) else (none)) else (none)) else (none)) else (impl_owes.l0 k x3 x13 x14 (wrap64 (x15 + 1)))
end
def impl_owes.f (k : Nat) (l0_0 : List Int) (l0_1 : List (List Int)) : Option (List Int) := if 0 ≤ (l0_0.length : Int) then (if ((l0_0.length : Int) : Int).toNat ≤ 35184372088832 then (impl_owes.l0 k (List.replicate ((l0_0.length : Int) : Int).toNat 0) l0_1 (l0_1.length : Int) 0) else (none)) else (none)
theorem impl_owes.mq {p : Prop} (h : p := by
 repeat' first
 | (with_reducible exact ih0 _ _ _ _)
 | (with_reducible exact ih1 _ _ _ _ _ _ _ _)
 | (with_reducible exact LeO.refl _)
 | (with_reducible exact LeO.none _)
 | (with_reducible refine LeO.ite ?_ ?_)
 | (with_reducible refine LeO.bind ?_ (fun _ => ?_))
 | exact ih0 _ _ _ _
 | exact ih1 _ _ _ _ _ _ _ _
 | exact LeO.none _
 | refine LeO.ite ?_ ?_
 | refine LeO.bind ?_ (fun _ => ?_)) : p := h
theorem impl_owes.mono_l : ∀ k, (∀ y0 y1 y2 y3, LeO (impl_owes.l0 k y0 y1 y2 y3) (impl_owes.l0 (k + 1) y0 y1 y2 y3)) ∧ (∀ y0 y1 y2 y3 y4 y5 y6 y7, LeO (impl_owes.l1 k y0 y1 y2 y3 y4 y5 y6 y7) (impl_owes.l1 (k + 1) y0 y1 y2 y3 y4 y5 y6 y7))
 | 0 => ⟨fun _ _ _ _ r h => by simp [impl_owes.l0] at h, fun _ _ _ _ _ _ _ _ r h => by simp [impl_owes.l1] at h⟩
 | k + 1 => by
  obtain ⟨ih0, ih1⟩ := impl_owes.mono_l k
  refine ⟨?_, ?_⟩
  ·intro y0 y1 y2 y3
   unfold impl_owes.l0
   exact impl_owes.mq
  ·intro y0 y1 y2 y3 y4 y5 y6 y7
   unfold impl_owes.l1
   exact impl_owes.mq
theorem impl_owes.mono : ∀ a0 a1 k, LeO (impl_owes.f k a0 a1) (impl_owes.f (k + 1) a0 a1) := by
 intro a0 a1 k
 obtain ⟨ih0, ih1⟩ := impl_owes.mono_l k
 unfold impl_owes.f
 exact impl_owes.mq
theorem impl_owes.calls_q0 {p : Prop} (h : p := by repeat (first | (with_reducible first | exact HB.out | apply below_alloc | apply pw_below_drewN | apply below_drew1 | refine below_set ?_ GE226.out) | exact HB.out)) : p := h
set_option maxHeartbeats 8000000 in
set_option maxRecDepth 100000 in
theorem impl_owes.calls (k : Nat) (A0_0 : Option Addr) (c0_0 : Nat) (l0_0 : List Int) (A0_1 : Option Addr) (c0_1 : Nat) (l0_1 : List (List Int)) (r : List Int) (w : World) (hr0_0 : Kd.C (Kd.int .i64) w A0_0 l0_0.length l0_0) (hc0_0 : l0_0.length ≤ c0_0) (hr0_1 : Kd.C (Kd.slice 3 (Kd.int .i64)) w A0_1 l0_1.length l0_1) (hc0_1 : l0_1.length ≤ c0_1) (h : impl_owes.f k l0_0 l0_1 = some r) :
  Calls Try.prog 91 #[.agg #[.slice A0_0 l0_0.length c0_0, .slice A0_1 l0_1.length c0_1]] w fun e w' => ∃ v0_ : Value, e = .returned (v0_) ∧ Kd.R (Kd.int .i64) 3 w' w.heap.size (fun _ => True) v0_ r ∧ Below w.heap.size w w' := by
 have hu26 := Try.underlying26
 have HR0_0 := Aside0.mk hr0_0
 have HC0_0 := Aside0.mk hc0_0
 clear hr0_0 hc0_0
 have HR0_1 := Aside0.mk hr0_1
 have HC0_1 := Aside0.mk hc0_1
 clear hr0_1 hc0_1
 have HB := Aside0.mk (Below.refl w.heap.size w)
 have H : (if 0 ≤ (l0_0.length : Int) then (if ((l0_0.length : Int) : Int).toNat ≤ 35184372088832 then (impl_owes.l0 k (List.replicate ((l0_0.length : Int) : Int).toNat 0) l0_1 (l0_1.length : Int) 0) else (none)) else (none)) = some r := h
 clear h
 obtain ⟨c2, H⟩ := pos_ H
 have c2b0 := eq_true c2
 have c2b1 := decide_eq_true c2
 clear c2
 obtain ⟨c3, H⟩ := pos_ H
 have c3b0 := eq_true c3
 have c3b1 := decide_eq_true c3
 clear c3
 obtain ⟨y227, hy227⟩ : ∃ y_ : List Int, y_ = (List.replicate ((l0_0.length : Int) : Int).toNat 0) := ⟨_, rfl⟩
 replace H : (impl_owes.l0 k y227 l0_1 (l0_1.length : Int) 0) = some r := by first | (rw [hy227]; with_reducible exact H) | (have H2_ := (Option.bind_some _ _).symm.trans H; rw [hy227]; with_reducible exact H2_) | (have H2_ := (Option.bind_some _ _).symm.trans H; with_reducible exact H2_) | with_reducible exact H | (rw [hy227]; exact H) | exact H
 have Ny227 := Aside0.mk hy227
 clear hy227
 have H' := Aside0.mk H
 clear H
 go_enter Try.func91, Try.ntmps91
 go_wp2_with (first | ((with_reducible refine gate_dst (N := 1) rfl ?_); refine bx_ (N := 1) #[.slice A0_0 l0_0.length c0_0, .slice A0_1 l0_1.length c0_1] 26 ?_; intro gb226 hg w4 hbox hb; have BK226 := Aside0.mk (hbox); have GW226 := Aside0.mk ((by rw [hg]; exact (below_size (impl_owes.calls_q0)) : w.heap.size ≤ gb226)); have GE226 := Aside0.mk ((by rw [hg]; exact (below_size (impl_owes.calls_q0)) : w.heap.size ≤ gb226)); replace HB := Aside0.mk (below_step (impl_owes.calls_q0) hb); clear hb hbox hg; obtain ⟨hcz5_0, hcz5_1, hfz5_0, hfz5_1⟩ := blk2_ BK226) | ((with_reducible refine gate_dst (N := 11) rfl ?_); refine Kd.R_make (Kd.int .i64) _ 3 rfl (N := 11) rfl 23 _ _ rfl (l0_0.length : Int) rfl rfl Try.underlying23 (.int .i64 0) 8 info3 rfl (by decide) (by omega) 0 (ok := fun _ => True) (okp := fun _ => True) rfl (fun _ hk => hk) trivial (of_decide_eq_true (g1_)) (Nat.le_trans (Nat.mul_le_mul_right _ (of_decide_eq_true (g1_) : (l0_0.length : Int).toNat ≤ 35184372088832)) (by omega)) (Below.refl _ _) (Nat.le_refl _) ?_; intro v228 w6 ho7 hb hg_ hnew_; clear hg_ hnew_; (first | rw [← Ny227.out] at ho7 | (simp only [Int.reduceToNat] at ho7; rw [← Ny227.out] at ho7)); have HO229 := Aside0.mk (Kd.R_lower ho7 (below_size (impl_owes.calls_q0))); replace BK226 := bb_ BK226 hb; replace HB := Aside0.mk (below_step (impl_owes.calls_q0) hb); clear hb ho7; obtain ⟨hcz8_0, hcz8_1, hfz8_0, hfz8_1⟩ := blk2_ BK226))
 go_loopg [15] k (fun kq v15 w' => ∃ (x3_1 : List Int) (x15_1 : Int), v15 = .int .i64 x15_1 ∧ Aside0 (impl_owes.l0 kq x3_1 l0_1 (l0_1.length : Int) x15_1 = some r) ∧ Aside0 (kq ≤ k) ∧ Aside0 (Kd.R (Kd.int .i64) 3 w' w.heap.size (fun _ => True) v228 x3_1) ∧ Aside0 (w'.heap[gb226]? = some (.cells #[(.slice A0_0 l0_0.length c0_0), (.slice A0_1 l0_1.length c0_1)] 26 (0, 0))) ∧ Aside0 (Below w.heap.size w w'))
 case atStart => exact ⟨(y227), (0), (g3_), H', ⟨Nat.le_refl _⟩, ⟨uf1_ HO229⟩, ⟨uf0_ BK226⟩, ⟨impl_owes.calls_q0⟩⟩
 case round =>
  clear H'
  try clear c2
  try clear c2b0
  try clear c2b1
  try clear p2
  try clear c3
  try clear c3b0
  try clear c3b1
  try clear hcz5_0
  try clear hcz5_1
  try clear hcz8_0
  try clear hcz8_1
  try clear hfz5_0
  try clear hfz5_1
  try clear hfz8_0
  try clear hfz8_1
  obtain ⟨x3_1, x15_1, rfl, HA, HK1, HO_3, BK226, HB⟩ := hrel
  cases gk with
  | zero => exact absurd HA.out (by simp [impl_owes.l0])
  | succ k1 =>
   have H := HA.out
   clear HA
   simp only [impl_owes.l0] at H
   by_cases c9 : x15_1 < (l0_1.length : Int)
   ·rw [if_pos c9] at H
    have c9b0 := decide_eq_true c9
    clear c9
    obtain ⟨c10, H⟩ := pos_ H
    have c10b0 := decide_eq_true c10
    clear c10
    obtain ⟨c11, H⟩ := pos_ H
    have c11b0 := decide_eq_true c11
    clear c11
    have H' := Aside0.mk H
    clear H
    have p230 : 0 ≤ (x15_1 : Int) := of_decide_eq_true (g1_)
    have q230 : x15_1 < (l0_1.length : Int) := of_decide_eq_true (g1_)
    obtain ⟨ad230, A230_0, c230_0, e230, hx230_0, hl230_0, hi230_0⟩ := at_L2 HR0_1.out x15_1 p230 q230
    cases e230
    replace hx230_0 := cl_ HB hx230_0
    have HR230_0 := Aside0.mk hi230_0
    have HC230_0 := Aside0.mk hl230_0
    clear hi230_0 hl230_0
    replace p230 := eq_true p230
    replace q230 := eq_true q230
    go_wp2
    go_loopg [22] k1 (fun kq v22 w' => ∃ (x3_2 : List Int) (x22_2 : Int), v22 = .int .i64 x22_2 ∧ Aside0 (impl_owes.l1 kq x3_2 x15_1 l0_1 (l0_1.length : Int) x15_1 (rd_L2 l0_1 x15_1) ((rd_L2 l0_1 x15_1).length : Int) x22_2 = some r) ∧ Aside0 (kq ≤ k1) ∧ Aside0 (Kd.R (Kd.int .i64) 3 w' w.heap.size (fun _ => True) v228 x3_2) ∧ Aside0 (w'.heap[gb226]? = some (.cells #[(.slice A0_0 l0_0.length c0_0), (.slice (some ad230) l0_1.length c0_1)] 26 (0, 0))) ∧ Aside0 (Below w.heap.size w w'))
    case atStart => exact ⟨(x3_1), (0), (g3_), H', ⟨Nat.le_refl _⟩, ⟨uf1_ HO_3⟩, ⟨uf0_ BK226⟩, ⟨impl_owes.calls_q0⟩⟩
    case round =>
     clear H'
     try clear c1
     try clear c2
     try clear c2b0
     try clear c2b1
     try clear p2
     try clear q2
     try clear hx2
     try clear c3
     try clear c3b0
     try clear c3b1
     try clear c9
     try clear c9b0
     try clear c10
     try clear c10b0
     try clear c11
     try clear c11b0
     try clear hcz5_0
     try clear hcz5_1
     try clear hcz8_0
     try clear hcz8_1
     try clear hfz5_0
     try clear hfz5_1
     try clear hfz8_0
     try clear hfz8_1
     try clear hx230_0
     try clear p2
     try clear p230
     try clear q230
     obtain ⟨x3_2, x22_2, rfl, HA, HK2, HO_3, BK226, HB⟩ := hrel
     cases gk with
     | zero => exact absurd HA.out (by simp [impl_owes.l1])
     | succ k2 =>
      have H := HA.out
      clear HA
      simp only [impl_owes.l1] at H
      by_cases c12 : x22_2 < ((rd_L2 l0_1 x15_1).length : Int)
      ·rw [if_pos c12] at H
       have c12b0 := decide_eq_true c12
       clear c12
       obtain ⟨c13, H⟩ := pos_ H
       have c13b0 := decide_eq_true c13
       clear c13
       obtain ⟨c14, H⟩ := pos_ H
       have c14b0 := decide_eq_true c14
       clear c14
       obtain ⟨c15, H⟩ := pos_ H
       have c15b0 := decide_eq_true c15
       clear c15
       obtain ⟨c16, H⟩ := pos_ H
       have c16b0 := decide_eq_true c16
       clear c16
       obtain ⟨y233, hy233⟩ : ∃ y_ : List Int, y_ = (x3_2.set (x15_1 : Int).toNat (wrap64 ((rd x3_2 x15_1) + (rd (rd_L2 l0_1 x15_1) x22_2)))) := ⟨_, rfl⟩
       replace H : (impl_owes.l1 k2 y233 x15_1 l0_1 (l0_1.length : Int) x15_1 (rd_L2 l0_1 x15_1) ((rd_L2 l0_1 x15_1).length : Int) (wrap64 (x22_2 + 1))) = some r := by first | (rw [hy233]; with_reducible exact H) | (have H2_ := (Option.bind_some _ _).symm.trans H; rw [hy233]; with_reducible exact H2_) | (have H2_ := (Option.bind_some _ _).symm.trans H; with_reducible exact H2_) | with_reducible exact H | (rw [hy233]; exact H) | exact H
       have Ny233 := Aside0.mk hy233
       clear hy233
       have H' := Aside0.mk H
       clear H
       have p231 : 0 ≤ (x22_2 : Int) := of_decide_eq_true (g1_)
       have q231 : x22_2 < ((rd_L2 l0_1 x15_1).length : Int) := of_decide_eq_true (g1_)
       obtain ⟨ad231, e231, hx231_0⟩ := Kd.at_int HR230_0.out x22_2 p231 q231
       cases e231
       replace hx231_0 := cl_ HB hx231_0
       replace p231 := eq_true p231
       replace q231 := eq_true q231
       obtain ⟨Ao18, co18, eo18⟩ := Kd.R_slice HO_3.out
       subst eo18
       have p232 : 0 ≤ (x15_1 : Int) := of_decide_eq_true (g1_)
       have q232 : x15_1 < (x3_2.length : Int) := of_decide_eq_true (g1_)
       obtain ⟨ad232, e232, hx232_0⟩ := Kd.at_int (Kd.R_reads' HO_3.out).2.2 x15_1 p232 q232
       cases e232
       replace p232 := eq_true p232
       replace q232 := eq_true q232
       have p17 : 0 ≤ (x15_1 : Int) := of_decide_eq_true (g1_)
       have q17 : (x15_1 : Int) < ((x3_2.length : Int) : Int) := of_decide_eq_true (g1_)
       obtain ⟨go17, co17, eo17, gb17, gl17, cl17, HG17⟩ := Kd.R_form HO_3.out (by omega)
       (first | cases eo17 | (injection eo17 with ea_ en_ ec_; (first | subst ea_ | (injection ea_ with ea_; subst ea_)); subst ec_; clear en_))
       have GB17 := Aside0.mk gb17
       have GG17 := Aside0.mk HG17
       clear gb17 gl17 HG17
       (first | simp only [add_plain] at hx232_0 | skip)
       obtain ⟨hx17_0, hf17_0⟩ := Kd.R_celln 0 HO_3.out (x15_1 : Int) p17 q17
       replace p17 := eq_true p17
       replace q17 := eq_true q17
       have HP19 := Kd.R_putg HO_3.out (x15_1 : Int) (wrap64 ((rd x3_2 x15_1) + (rd (rd_L2 l0_1 x15_1) x22_2)))
       go_wp2_with (first | ((with_reducible refine gate_store (t := 3) (p := 32) rfl ?_); refine store_event (t := 3) (p := 32) (v := ?vo_w20) (w1 := (wr.setCell ⟨go17, (x15_1 : Int).toNat, none⟩ (.int .i64 (wrap64 ((rd x3_2 x15_1) + (rd (rd_L2 l0_1 x15_1) x22_2)))))) ?hg ?ho ?hn ?hr ?_; (case ho => rfl); (case hg => rfl); (case hn => rfl); (case hr => first | (go_simp; done) | (go_simp; rfl)); intro w20 hw; have hg : wr.grownBy w20 (some go17) := (by rw [hw]; exact HP19.2); have hp_ : Kd.R (Kd.int .i64) 3 w20 w.heap.size (fun _ => True) (.slice (some ⟨go17, 0, none⟩) x3_2.length co18) y233 := (by rw [hw, Ny233.out]; exact HP19.1); clear HP19; replace BK226 := Aside0.mk (blk_grown (g := gb226) (o := .cells #[.slice A0_0 l0_0.length c0_0, .slice (some ad230) l0_1.length c0_1] 26 (0, 0)) (uf0_ BK226) hg (Kd.R_ne HO_3.out BK226.out (by decide))); replace HO_3 := Aside0.mk (hp_); replace HB := Aside0.mk ((by rw [hw]; exact below_set (HB.out) GB17.out : Below w.heap.size w w20)); clear hg hw hp_))
       go_roundg k2
       case measure => have := HK1.out; have := HK2.out; omega
       case rel => exact ⟨(y233), (wrap64 (x22_2 + 1)), (g3_), H', ⟨g34_⟩, ⟨uf1_ HO_3⟩, ⟨uf0_ BK226⟩, ⟨impl_owes.calls_q0⟩⟩
      ·rw [if_neg c12] at H
       have c12b0 := decide_eq_false c12
       clear c12
       have H' := Aside0.mk H
       clear H
       go_wp2
       go_roundg k2
       case measure => have := HK1.out; have := HK2.out; omega
       case rel => exact ⟨(x3_2), (wrap64 (x15_1 + 1)), (g3_), H', ⟨g34_⟩, ⟨uf1_ HO_3⟩, ⟨uf0_ BK226⟩, ⟨impl_owes.calls_q0⟩⟩
   ·rw [if_neg c9] at H
    have c9b0 := decide_eq_false c9
    clear c9
    obtain rfl := Option.some.inj H
    go_wp2
    go_ret
    exact ⟨_, g4_, uf1_ HO_3, impl_owes.calls_q0⟩
mutual
def impl_arePays.j0 : Nat → List (S36) → Bool → List Int → List (List Int) → Option (Bool)
 | 0, _, _, _, _ => none
 | k + 1, x1, x17, x235000, x235001 => if x17 = true then (some false) else ((impl_owes.f k x235000 x235001).bind fun t236 => (impl_arePays.l0 k x1 t236 (t236.length : Int) 0))
def impl_arePays.l0 : Nat → List (S36) → List Int → Int → Int → Option (Bool)
 | 0, _, _, _, _ => none
 | k + 1, x1, x19, x20, x21 => if x21 < x20 then (if 0 ≤ x21 then (if x21 < (x19.length : Int) then (if x21 < (x1.length : Int) then ((impl_isFrac.f k ((rd_T36 x1 x21).f0) ((rd_T36 x1 x21).f1)).bind fun t241 => (if t241 = true then (if ((rd_T36 x1 x21).f0) < 0 then (some false) else ((impl_whole.f (rd x19 x21)).bind fun bt244 => ((impl_compare.f ((rd_T36 x1 x21).f0) ((rd_T36 x1 x21).f1) bt244.1 bt244.2).bind fun t246 => (if t246 > 0 then (some false) else (impl_arePays.l0 k x1 x19 x20 (wrap64 (x21 + 1))))))) else (some false))) else (none)) else (none)) else (none)) else (some true)
end
def impl_arePays.f (k : Nat) (l0_0 : List Int) (l0_1 : List (List Int)) (l1 : List (S36)) : Option (Bool) := (impl_isBook.f k l0_0 l0_1).bind fun t235 => (if t235 = true then (impl_arePays.j0 k l1 ((l1.length : Int) != (l0_0.length : Int)) l0_0 l0_1) else (impl_arePays.j0 k l1 true l0_0 l0_1))
theorem impl_arePays.mq {p : Prop} (h : p := by
 repeat' first
 | (with_reducible exact ih0 _ _ _ _)
 | (with_reducible exact ih1 _ _ _ _)
 | (with_reducible exact impl_isBook.mono _ _ _)
 | (with_reducible exact impl_isFrac.mono _ _ _)
 | (with_reducible exact impl_owes.mono _ _ _)
 | (with_reducible exact LeO.refl _)
 | (with_reducible exact LeO.none _)
 | (with_reducible refine LeO.ite ?_ ?_)
 | (with_reducible refine LeO.bind ?_ (fun _ => ?_))
 | exact ih0 _ _ _ _
 | exact ih1 _ _ _ _
 | exact impl_isBook.mono _ _ _
 | exact impl_isFrac.mono _ _ _
 | exact impl_owes.mono _ _ _
 | exact LeO.none _
 | refine LeO.ite ?_ ?_
 | refine LeO.bind ?_ (fun _ => ?_)) : p := h
theorem impl_arePays.mono_l : ∀ k, (∀ y0 y1 y2 y3, LeO (impl_arePays.j0 k y0 y1 y2 y3) (impl_arePays.j0 (k + 1) y0 y1 y2 y3)) ∧ (∀ y0 y1 y2 y3, LeO (impl_arePays.l0 k y0 y1 y2 y3) (impl_arePays.l0 (k + 1) y0 y1 y2 y3))
 | 0 => ⟨fun _ _ _ _ r h => by simp [impl_arePays.j0] at h, fun _ _ _ _ r h => by simp [impl_arePays.l0] at h⟩
 | k + 1 => by
  obtain ⟨ih0, ih1⟩ := impl_arePays.mono_l k
  refine ⟨?_, ?_⟩
  ·intro y0 y1 y2 y3
   unfold impl_arePays.j0
   exact impl_arePays.mq
  ·intro y0 y1 y2 y3
   unfold impl_arePays.l0
   exact impl_arePays.mq
theorem impl_arePays.mono : ∀ a0 a1 a2 k, LeO (impl_arePays.f k a0 a1 a2) (impl_arePays.f (k + 1) a0 a1 a2) := by
 intro a0 a1 a2 k
 obtain ⟨ih0, ih1⟩ := impl_arePays.mono_l k
 unfold impl_arePays.f
 exact impl_arePays.mq
def impl_arePays.T6 : Bool × List (List Nat × List Nat) := (true, [([], []), ([], []), ([0, 1], [0, 1]), ([2], [2]), ([3], [3]), ([4], [4]), ([5, 4], [5]), ([6], [6]), ([6], [6]), ([7, 8, 6], [6, 7, 8]), ([9, 6], [6, 9]), ([10, 6], [6, 10]), ([11, 6], [6, 11]), ([6, 12], [6, 12]), ([13, 6], [13]), ([14], [14]), ([14], [14]), ([15, 16, 14], [14, 15, 16]), ([17, 14], [14, 17]), ([14], [14]), ([19, 14, 14], [14, 19]), ([18, 20, 20, 14], [14, 18, 20]), ([21, 14], [14, 21]), ([14, 22], [14, 22])])
def impl_arePays.B6 : List Nat := [0, 0, 3, 7, 15, 31, 63, 127, 127, 511, 1023, 2047, 4095, 8191, 16383, 32767, 32767, 131071, 262143, 32767, 557055, 2097151, 4194303, 8388607]
theorem impl_arePays.tab6 : rtab .any (opsOf Try.f58 6) = impl_arePays.T6 := by kernel_rfl
theorem impl_arePays.bits6 : waitsOk impl_arePays.T6.2 impl_arePays.B6 = true := by kernel_rfl
theorem impl_arePays.calls_q0 {p : Prop} (h : p := by repeat (first | (with_reducible first | exact HB.out | apply below_alloc | apply pw_below_drewN | apply below_drew1 | refine below_set ?_ GE234.out) | exact HB.out)) : p := h
set_option maxHeartbeats 8000000 in
set_option maxRecDepth 100000 in
theorem impl_arePays.calls (k : Nat) (A0_0 : Option Addr) (c0_0 : Nat) (l0_0 : List Int) (A0_1 : Option Addr) (c0_1 : Nat) (l0_1 : List (List Int)) (A1 : Option Addr) (c1 : Nat) (l1 : List (S36)) (r : Bool) (w : World) (hr0_0 : Kd.C (Kd.int .i64) w A0_0 l0_0.length l0_0) (hc0_0 : l0_0.length ≤ c0_0) (hr0_1 : Kd.C (Kd.slice 3 (Kd.int .i64)) w A0_1 l0_1.length l0_1) (hc0_1 : l0_1.length ≤ c0_1) (hr1 : Kd.C k36 w A1 l1.length l1) (hc1 : l1.length ≤ c1) (h : impl_arePays.f k l0_0 l0_1 l1 = some r) :
  Calls Try.prog 58 #[.agg #[.slice A0_0 l0_0.length c0_0, .slice A0_1 l0_1.length c0_1], .slice A1 l1.length c1] w fun e w' => e = .returned (.bool r) ∧ Below w.heap.size w w' := by
 have hu26 := Try.underlying26
 have hu36 := Try.underlying36
 have HR0_0 := Aside0.mk hr0_0
 have HC0_0 := Aside0.mk hc0_0
 clear hr0_0 hc0_0
 have HR0_1 := Aside0.mk hr0_1
 have HC0_1 := Aside0.mk hc0_1
 clear hr0_1 hc0_1
 have HR1 := Aside0.mk hr1
 have HC1 := Aside0.mk hc1
 clear hr1 hc1
 have HB := Aside0.mk (Below.refl w.heap.size w)
 have H : ((impl_isBook.f k l0_0 l0_1).bind fun t235 => (if t235 = true then (impl_arePays.j0 k l1 ((l1.length : Int) != (l0_0.length : Int)) l0_0 l0_1) else (impl_arePays.j0 k l1 true l0_0 l0_1))) = some r := h
 clear h
 have HC3 := Aside0.mk H
 clear H
 go_enter Try.func58, Try.ntmps58
 go_upto_region 1 with (first | ((with_reducible refine gate_dst (N := 2) rfl ?_); (try (refine gate_guard (by rfl) ?_; dsimp only)); refine bx_ (N := 2) #[.slice A0_0 l0_0.length c0_0, .slice A0_1 l0_1.length c0_1] 26 ?_; intro gb234 hg w4 hbox hb; have BK234 := Aside0.mk (hbox); have GW234 := Aside0.mk ((by rw [hg]; exact (below_size (impl_arePays.calls_q0)) : w.heap.size ≤ gb234)); have GE234 := Aside0.mk ((by rw [hg]; exact (below_size (impl_arePays.calls_q0)) : w.heap.size ≤ gb234)); replace HB := Aside0.mk (below_step (impl_arePays.calls_q0) hb); clear hb hbox hg))
 (try simp only [Act.put, List.setIfInBounds_toArray, List.set_cons_zero, List.set_cons_succ])
 go_cut [17] (fun v17 wc => ∃ (kq : Nat) (x17_2 : Bool), v17 = .bool x17_2 ∧ Aside0 (impl_arePays.j0 kq l1 x17_2 l0_0 l0_1 = some r) ∧ Aside0 (kq ≤ k) ∧ Aside0 (wc.heap[gb234]? = some (.cells #[(.slice A0_0 l0_0.length c0_0), (.slice A0_1 l0_1.length c0_1)] 26 (0, 0))) ∧ Aside0 (Below w.heap.size w wc))
 case first =>
  have H := HC3.out
  clear HC3
  obtain ⟨t235, A5, H⟩ := bind_ H
  by_cases c6 : t235 = true
  ·subst c6
   replace H := ifp_ H
   have H' := Aside0.mk H
   clear H
   obtain ⟨hcz7_0, hcz7_1, hfz7_0, hfz7_1⟩ := blk2_ BK234
   go_wp2_with (first | ((with_reducible refine gate_callee (f := 54) rfl ?_); refine goesL_ (some 8) rfl rfl Try.func54 k_ rfl #[.agg #[.slice A0_0 l0_0.length c0_0, .slice A0_1 l0_1.length c0_1]] rfl (g2_) ?_; (with_reducible refine (impl_isBook.calls k _ _ l0_0 _ _ l0_1 true _ ?side1 ?side2 ?side3 ?side4 A5.out).mono ?_); (case side1 => exact uf4_ HR0_0); (case side2 => exact HC0_0.out); (case side3 => exact uf4_ HR0_1); (case side4 => exact HC0_1.out); rintro e w8 ⟨rfl, hb⟩; refine ⟨_, rfl, ?_⟩; replace BK234 := bb_ BK234 hb; replace HB := Aside0.mk (below_step (impl_arePays.calls_q0) hb); (try clear hb); (try clear hk hi); obtain ⟨hcz9_0, hcz9_1, hfz9_0, hfz9_1⟩ := blk2_ BK234))
   go_meet
   case rel => exact ⟨_, (((l1.length : Int) != (l0_0.length : Int))), (g3_), H', ⟨g13_⟩, ⟨uf0_ BK234⟩, ⟨impl_arePays.calls_q0⟩⟩
  ·replace c6 := Bool.eq_false_iff.mpr c6
   subst c6
   replace H := ifn_ H
   have H' := Aside0.mk H
   clear H
   obtain ⟨hcz10_0, hcz10_1, hfz10_0, hfz10_1⟩ := blk2_ BK234
   go_wp2_with (first | ((with_reducible refine gate_callee (f := 54) rfl ?_); refine goesL_ (some 8) rfl rfl Try.func54 k_ rfl #[.agg #[.slice A0_0 l0_0.length c0_0, .slice A0_1 l0_1.length c0_1]] rfl (g2_) ?_; (with_reducible refine (impl_isBook.calls k _ _ l0_0 _ _ l0_1 false _ ?side1 ?side2 ?side3 ?side4 A5.out).mono ?_); (case side1 => exact uf4_ HR0_0); (case side2 => exact HC0_0.out); (case side3 => exact uf4_ HR0_1); (case side4 => exact HC0_1.out); rintro e w11 ⟨rfl, hb⟩; refine ⟨_, rfl, ?_⟩; replace BK234 := bb_ BK234 hb; replace HB := Aside0.mk (below_step (impl_arePays.calls_q0) hb); (try clear hb); (try clear hk hi)))
   go_meet
   case rel => exact ⟨_, (true), (g3_), H', ⟨g13_⟩, ⟨uf0_ BK234⟩, ⟨impl_arePays.calls_q0⟩⟩
 case rest =>
  clear HC3
  try clear c1
  try clear p2
  try clear c5
  try clear c6
  try clear hcz10_0
  try clear hcz10_1
  try clear hcz7_0
  try clear hcz7_1
  try clear hcz9_0
  try clear hcz9_1
  try clear hfz10_0
  try clear hfz10_1
  try clear hfz7_0
  try clear hfz7_1
  try clear hfz9_0
  try clear hfz9_1
  obtain ⟨kq, x17_2, rfl, HA, HJ2, BK234, HB⟩ := hcut
  cases kq with
  | zero => exact absurd HA.out (by simp [impl_arePays.j0])
  | succ kj2 =>
   have H := HA.out
   clear HA
   simp only [impl_arePays.j0] at H
   by_cases c12 : x17_2 = true
   ·subst c12
    replace H := ifp_ H
    obtain rfl := Option.some.inj H
    go_wp2
    go_ret
    exact ⟨g4_, impl_arePays.calls_q0⟩
   ·replace c12 := Bool.eq_false_iff.mpr c12
    subst c12
    replace H := ifn_ H
    obtain ⟨t236, A13, H⟩ := bind_ H
    have H' := Aside0.mk H
    clear H
    obtain ⟨hcz14_0, hcz14_1, hfz14_0, hfz14_1⟩ := blk2_ BK234
    go_wp2_with (first | ((with_reducible refine gate_callee (f := 91) rfl ?_); refine goesL_ (some 19) rfl rfl Try.func91 k_ rfl #[.agg #[.slice A0_0 l0_0.length c0_0, .slice A0_1 l0_1.length c0_1]] rfl (g2_) ?_; (with_reducible refine (impl_owes.calls kj2 _ _ l0_0 _ _ l0_1 t236 _ ?side1 ?side2 ?side3 ?side4 A13.out).mono ?_); (case side1 => exact uf4_ HR0_0); (case side2 => exact HC0_0.out); (case side3 => exact uf4_ HR0_1); (case side4 => exact HC0_1.out); rintro e w15 ⟨v237, rfl, ho0, hb⟩; refine ⟨_, rfl, ?_⟩; have HO238 := Aside0.mk (Kd.R_lower ho0 (below_size (impl_arePays.calls_q0))); replace BK234 := bb_ BK234 hb; replace HB := Aside0.mk (below_step (impl_arePays.calls_q0) hb); (try clear hb); (try clear hk hi); (try clear ho0); obtain ⟨Ao16, co16, eo16⟩ := Kd.R_slice HO238.out; subst eo16))
    go_loopg [21] kj2 (fun kq v21 w' => ∃ (x21_2 : Int), v21 = .int .i64 x21_2 ∧ Aside0 (impl_arePays.l0 kq l1 t236 (t236.length : Int) x21_2 = some r) ∧ Aside0 (kq ≤ kj2) ∧ Aside0 (Kd.R (Kd.int .i64) 3 w' w.heap.size (fun _ => True) (.slice Ao16 t236.length co16) t236) ∧ Aside0 (w'.heap[gb234]? = some (.cells #[(.slice A0_0 l0_0.length c0_0), (.slice A0_1 l0_1.length c0_1)] 26 (0, 0))) ∧ Aside0 (Below w.heap.size w w'))
    case atStart => exact ⟨(0), (g3_), H', ⟨Nat.le_refl _⟩, ⟨uf1_ HO238⟩, ⟨uf0_ BK234⟩, ⟨impl_arePays.calls_q0⟩⟩
    case round =>
     clear H'
     try clear c1
     try clear p2
     try clear c5
     try clear c6
     try clear c9
     try clear c12
     try clear hcz10_0
     try clear hcz10_1
     try clear hcz14_0
     try clear hcz14_1
     try clear hcz7_0
     try clear hcz7_1
     try clear hcz9_0
     try clear hcz9_1
     try clear hfz10_0
     try clear hfz10_1
     try clear hfz14_0
     try clear hfz14_1
     try clear hfz7_0
     try clear hfz7_1
     try clear hfz9_0
     try clear hfz9_1
     try clear p2
     obtain ⟨x21_2, rfl, HA, HK2, HO_19, BK234, HB⟩ := hrel
     cases gk with
     | zero => exact absurd HA.out (by simp [impl_arePays.l0])
     | succ k2 =>
      have H := HA.out
      clear HA
      simp only [impl_arePays.l0] at H
      by_cases c17 : x21_2 < (t236.length : Int)
      ·rw [if_pos c17] at H
       have c17b0 := decide_eq_true c17
       clear c17
       obtain ⟨c18, H⟩ := pos_ H
       have c18b0 := decide_eq_true c18
       clear c18
       obtain ⟨c19, H⟩ := pos_ H
       have c19b0 := decide_eq_true c19
       clear c19
       obtain ⟨c20, H⟩ := pos_ H
       have c20b0 := decide_eq_true c20
       clear c20
       obtain ⟨t241, A21, H⟩ := bind_ H
       by_cases c22 : t241 = true
       ·subst c22
        replace H := ifp_ H
        by_cases c23 : ((rd_T36 l1 x21_2).f0) < 0
        ·rw [if_pos c23] at H
         have c23b0 := decide_eq_true c23
         clear c23
         obtain rfl := Option.some.inj H
         have p239 : 0 ≤ (x21_2 : Int) := of_decide_eq_true (g1_)
         have q239 : x21_2 < (t236.length : Int) := of_decide_eq_true (g1_)
         obtain ⟨ad239, e239, hx239_0⟩ := Kd.at_int (Kd.R_reads' HO_19.out).2.2 x21_2 p239 q239
         cases e239
         replace p239 := eq_true p239
         replace q239 := eq_true q239
         try go_wp2
         replace HO_19 := Aside0.mk (Kd.R_drew HO_19.out)
         replace BK234 := Aside0.mk (blk_drew BK234.out)
         replace HB := Aside0.mk (below_drew1 HB.out)
         have p240 : 0 ≤ (x21_2 : Int) := of_decide_eq_true (g1_)
         have q240 : x21_2 < (l1.length : Int) := of_decide_eq_true (g1_)
         obtain ⟨ad240, e240, hx240_0, hx240_1⟩ := at_T36 HR1.out x21_2 p240 q240
         have hw240_1 := hx240_1
         have hw240_0 := hx240_0
         cases e240
         replace hx240_0 := cl_ HB hx240_0
         replace hx240_1 := cl_ HB hx240_1
         replace p240 := eq_true p240
         replace q240 := eq_true q240
         have p242 : 0 ≤ (x21_2 : Int) := of_decide_eq_true (g1_)
         have q242 : x21_2 < (l1.length : Int) := of_decide_eq_true (g1_)
         obtain ⟨ad242, e242, hx242_0, hx242_1⟩ := at_T36 HR1.out x21_2 p242 q242
         have hw242_1 := hx242_1
         have hw242_0 := hx242_0
         obtain rfl : ad240 = ad242 := (by injection e242)
         replace hx242_0 := cl_ HB hx242_0
         replace hx242_1 := cl_ HB hx242_1
         replace p242 := eq_true p242
         replace q242 := eq_true q242
         refine start_ (n := 24) (S := fun w' => w'.cell? (ad240.add ((x21_2).toNat * 2)) = some (.int .i64 ((rd_T36 l1 x21_2).f0)) ∧ w'.cell? ⟨(ad240.add ((x21_2).toNat * 2)).block, (ad240.add ((x21_2).toNat * 2)).off + 1, none⟩ = some (.int .i64 ((rd_T36 l1 x21_2).f1)) ∧ w'.cell? (ad240.add ((x21_2).toNat * 2)) = some (.int .i64 ((rd_T36 l1 x21_2).f0)) ∧ w'.cell? ⟨(ad240.add ((x21_2).toNat * 2)).block, (ad240.add ((x21_2).toNat * 2)).off + 1, none⟩ = some (.int .i64 ((rd_T36 l1 x21_2).f1))) (ds := []) (tl_ 24 0) (g0_) rfl (g0_) ⟨((cl_ HB hw240_0).trans rfl), ((cl_ HB hw240_1).trans rfl), ((cl_ HB hw242_0).trans rfl), ((cl_ HB hw242_1).trans rfl)⟩ (fun hHeld => ?_); refine with_tabW impl_arePays.tab6 impl_arePays.bits6 (fun HT_ HW_ => ?_)
         generalize wr.drew = w24 at HO_19 BK234 HB hx240_0 hx240_1 hx242_0 hx242_1 hHeld ⊢
         refine pw_ 0 26 (tl_ 24 1) rfl rfl ?_
         refine pw_ 1 27 (tl_ 24 3) rfl rfl ?_
         refine pw_ 2 28 (tl_ 24 7) rfl rfl ?_
         refine tk3_ 3 29 (tl_ 24 15) rfl rfl hHeld ?_
         refine one_ (i := 4) (N := some 30) (tl_ 24 31) rfl rfl (one_of HT_.out (g0_)) (by decide) (fun K hK => ?_)
         refine goes_ Try.func77 (g0_) rfl #[.agg #[.int .i64 ((rd_T36 l1 x21_2).f0), .int .i64 ((rd_T36 l1 x21_2).f1)]] (by rfl) rfl rfl (g2_) ?_
         with_reducible refine (impl_isFrac.calls k2 ((rd_T36 l1 x21_2).f0) ((rd_T36 l1 x21_2).f1) true _ A21.out).mono ?_
         rintro e w25 ⟨rfl, hb⟩
         refine ⟨_, rfl, ?_⟩
         replace HO_19 := Aside0.mk (Kd.R_below (uf1_ HO_19) hb)
         replace BK234 := bb_ BK234 hb
         replace HB := Aside0.mk (below_step (impl_arePays.calls_q0) hb)
         (try clear hb)
         (try clear hk hi)
         refine hK.out _ _ ⟨((cl_ HB hw240_0).trans rfl), ((cl_ HB hw240_1).trans rfl), ((cl_ HB hw242_0).trans rfl), ((cl_ HB hw242_1).trans rfl)⟩ (fun hHeld => ?_)
         clear hK K
         refine nm_ ?_
         refine pw_ 5 31 (tl_ 24 63) rfl rfl ?_
         refine pw_ 6 32 (tl_ 24 127) rfl rfl ?_
         refine pw_ 7 33 (tl_ 24 255) rfl rfl ?_
         refine pw_ 8 34 (tl_ 24 511) rfl rfl ?_
         refine pw_ 9 35 (tl_ 24 1023) rfl rfl ?_
         refine pw_ 10 36 (tl_ 24 2047) rfl rfl ?_
         refine tk3_ 11 37 (tl_ 24 4095) rfl rfl hHeld ?_
         refine pw_ 12 38 (tl_ 24 8191) rfl rfl ?_
         refine pw_ 13 39 (tl_ 24 16383) rfl rfl ?_
         refine pw_ 14 40 (tl_ 24 32767) rfl rfl ?_
         refine pu_ 15 41 (tl_ 24 65535) rfl rfl ?_
         refine pu_ 16 42 (tl_ 24 131071) rfl rfl ?_
         refine pu_ 17 43 (tl_ 24 262143) rfl rfl ?_
         refine pu_ 18 44 (tl_ 24 524287) rfl rfl ?_
         refine pu_ 19 45 (tl_ 24 1048575) rfl rfl ?_
         refine pu_ 20 46 (tl_ 24 2097151) rfl rfl ?_
         refine pu_ 21 47 (tl_ 24 4194303) rfl rfl ?_
         refine pu_ 22 48 (tl_ 24 8388607) rfl rfl ?_
         refine pw_ 23 49 (tl_ 24 16777215) rfl rfl ?_
         refine done_ (done_of HT_.out (g0_)) ?_
         try go_wp2
         go_ret
         exact ⟨g4_, impl_arePays.calls_q0⟩
        ·rw [if_neg c23] at H
         have c23b0 := decide_eq_false c23
         clear c23
         replace H := Option.bind_eq_some_iff.mp H
         obtain ⟨⟨t244, t245⟩, A260, H⟩ := H
         replace H : ((impl_compare.f ((rd_T36 l1 x21_2).f0) ((rd_T36 l1 x21_2).f1) t244 t245).bind fun t246 => (if t246 > 0 then (some false) else (impl_arePays.l0 k2 l1 t236 (t236.length : Int) (wrap64 (x21_2 + 1))))) = some r := H
         have A26 := Aside0.mk A260
         clear A260
         obtain ⟨t246, A27, H⟩ := bind_ H
         by_cases c28 : t246 > 0
         ·rw [if_pos c28] at H
          have c28b0 := decide_eq_true c28
          clear c28
          obtain rfl := Option.some.inj H
          have p239 : 0 ≤ (x21_2 : Int) := of_decide_eq_true (g1_)
          have q239 : x21_2 < (t236.length : Int) := of_decide_eq_true (g1_)
          obtain ⟨ad239, e239, hx239_0⟩ := Kd.at_int (Kd.R_reads' HO_19.out).2.2 x21_2 p239 q239
          cases e239
          replace p239 := eq_true p239
          replace q239 := eq_true q239
          try go_wp2
          replace HO_19 := Aside0.mk (Kd.R_drew HO_19.out)
          replace BK234 := Aside0.mk (blk_drew BK234.out)
          replace HB := Aside0.mk (below_drew1 HB.out)
          have p240 : 0 ≤ (x21_2 : Int) := of_decide_eq_true (g1_)
          have q240 : x21_2 < (l1.length : Int) := of_decide_eq_true (g1_)
          obtain ⟨ad240, e240, hx240_0, hx240_1⟩ := at_T36 HR1.out x21_2 p240 q240
          have hw240_1 := hx240_1
          have hw240_0 := hx240_0
          cases e240
          replace hx240_0 := cl_ HB hx240_0
          replace hx240_1 := cl_ HB hx240_1
          replace p240 := eq_true p240
          replace q240 := eq_true q240
          have p242 : 0 ≤ (x21_2 : Int) := of_decide_eq_true (g1_)
          have q242 : x21_2 < (l1.length : Int) := of_decide_eq_true (g1_)
          obtain ⟨ad242, e242, hx242_0, hx242_1⟩ := at_T36 HR1.out x21_2 p242 q242
          have hw242_1 := hx242_1
          have hw242_0 := hx242_0
          obtain rfl : ad240 = ad242 := (by injection e242)
          replace hx242_0 := cl_ HB hx242_0
          replace hx242_1 := cl_ HB hx242_1
          replace p242 := eq_true p242
          replace q242 := eq_true q242
          have p243 : 0 ≤ (x21_2 : Int) := of_decide_eq_true (g1_)
          have q243 : x21_2 < (l1.length : Int) := of_decide_eq_true (g1_)
          obtain ⟨ad243, e243, hx243_0, hx243_1⟩ := at_T36 HR1.out x21_2 p243 q243
          have hw243_1 := hx243_1
          have hw243_0 := hx243_0
          obtain rfl : ad240 = ad243 := (by injection e243)
          replace hx243_0 := cl_ HB hx243_0
          replace hx243_1 := cl_ HB hx243_1
          replace p243 := eq_true p243
          replace q243 := eq_true q243
          refine start_ (n := 24) (S := fun w' => w'.cell? (ad240.add ((x21_2).toNat * 2)) = some (.int .i64 ((rd_T36 l1 x21_2).f0)) ∧ w'.cell? ⟨(ad240.add ((x21_2).toNat * 2)).block, (ad240.add ((x21_2).toNat * 2)).off + 1, none⟩ = some (.int .i64 ((rd_T36 l1 x21_2).f1)) ∧ w'.cell? (ad240.add ((x21_2).toNat * 2)) = some (.int .i64 ((rd_T36 l1 x21_2).f0)) ∧ w'.cell? ⟨(ad240.add ((x21_2).toNat * 2)).block, (ad240.add ((x21_2).toNat * 2)).off + 1, none⟩ = some (.int .i64 ((rd_T36 l1 x21_2).f1)) ∧ w'.cell? (ad240.add ((x21_2).toNat * 2)) = some (.int .i64 ((rd_T36 l1 x21_2).f0)) ∧ w'.cell? ⟨(ad240.add ((x21_2).toNat * 2)).block, (ad240.add ((x21_2).toNat * 2)).off + 1, none⟩ = some (.int .i64 ((rd_T36 l1 x21_2).f1))) (ds := []) (tl_ 24 0) (g0_) rfl (g0_) ⟨((cl_ HB hw240_0).trans rfl), ((cl_ HB hw240_1).trans rfl), ((cl_ HB hw242_0).trans rfl), ((cl_ HB hw242_1).trans rfl), ((cl_ HB hw243_0).trans rfl), ((cl_ HB hw243_1).trans rfl)⟩ (fun hHeld => ?_); refine with_tabW impl_arePays.tab6 impl_arePays.bits6 (fun HT_ HW_ => ?_)
          generalize wr.drew = w29 at HO_19 BK234 HB hx240_0 hx240_1 hx242_0 hx242_1 hx243_0 hx243_1 hHeld ⊢
          refine pw_ 0 26 (tl_ 24 1) rfl rfl ?_
          refine pw_ 1 27 (tl_ 24 3) rfl rfl ?_
          refine pw_ 2 28 (tl_ 24 7) rfl rfl ?_
          refine tk2_ 3 29 (tl_ 24 15) rfl rfl hHeld ?_
          refine one_ (i := 4) (N := some 30) (tl_ 24 31) rfl rfl (one_of HT_.out (g0_)) (by decide) (fun K hK => ?_)
          refine goes_ Try.func77 (g0_) rfl #[.agg #[.int .i64 ((rd_T36 l1 x21_2).f0), .int .i64 ((rd_T36 l1 x21_2).f1)]] (by rfl) rfl rfl (g2_) ?_
          with_reducible refine (impl_isFrac.calls k2 ((rd_T36 l1 x21_2).f0) ((rd_T36 l1 x21_2).f1) true _ A21.out).mono ?_
          rintro e w30 ⟨rfl, hb⟩
          refine ⟨_, rfl, ?_⟩
          replace HO_19 := Aside0.mk (Kd.R_below (uf1_ HO_19) hb)
          replace BK234 := bb_ BK234 hb
          replace HB := Aside0.mk (below_step (impl_arePays.calls_q0) hb)
          (try clear hb)
          (try clear hk hi)
          refine hK.out _ _ ⟨((cl_ HB hw240_0).trans rfl), ((cl_ HB hw240_1).trans rfl), ((cl_ HB hw242_0).trans rfl), ((cl_ HB hw242_1).trans rfl), ((cl_ HB hw243_0).trans rfl), ((cl_ HB hw243_1).trans rfl)⟩ (fun hHeld => ?_)
          clear hK K
          refine nm_ ?_
          refine pw_ 5 31 (tl_ 24 63) rfl rfl ?_
          refine pw_ 6 32 (tl_ 24 127) rfl rfl ?_
          refine pw_ 7 33 (tl_ 24 255) rfl rfl ?_
          refine pw_ 8 34 (tl_ 24 511) rfl rfl ?_
          refine pw_ 9 35 (tl_ 24 1023) rfl rfl ?_
          refine pw_ 10 36 (tl_ 24 2047) rfl rfl ?_
          refine tk2_ 11 37 (tl_ 24 4095) rfl rfl hHeld ?_
          refine pw_ 12 38 (tl_ 24 8191) rfl rfl ?_
          refine pw_ 13 39 (tl_ 24 16383) rfl rfl ?_
          refine pw_ 14 40 (tl_ 24 32767) rfl rfl ?_
          refine pw_ 15 41 (tl_ 24 65535) rfl rfl ?_
          refine pw_ 16 42 (tl_ 24 131071) rfl rfl ?_
          refine pw_ 17 43 (tl_ 24 262143) rfl rfl ?_
          refine pw_ 19 45 (tl_ 24 786431) rfl rfl ?_
          refine tk2_ 18 44 (tl_ 24 1048575) rfl rfl hHeld ?_
          refine one_ (i := 20) (N := some 46) (tl_ 24 2097151) rfl rfl (one_of HT_.out (g0_)) (by decide) (fun K hK => ?_)
          refine goes_ Try.func89 (g0_) rfl #[.int .i64 (rd t236 x21_2)] (by rfl) rfl rfl (g2_) ?_
          with_reducible refine (impl_whole.calls (rd t236 x21_2) t244 t245 _ A26.out).mono ?_
          rintro e w31 ⟨rfl, hb⟩
          refine ⟨_, rfl, ?_⟩
          replace HO_19 := Aside0.mk (Kd.R_below (uf1_ HO_19) hb)
          replace BK234 := bb_ BK234 hb
          replace HB := Aside0.mk (below_step (impl_arePays.calls_q0) hb)
          (try clear hb)
          (try clear hk hi)
          refine hK.out _ _ ⟨((cl_ HB hw240_0).trans rfl), ((cl_ HB hw240_1).trans rfl), ((cl_ HB hw242_0).trans rfl), ((cl_ HB hw242_1).trans rfl), ((cl_ HB hw243_0).trans rfl), ((cl_ HB hw243_1).trans rfl)⟩ (fun hHeld => ?_)
          clear hK K
          refine nm_ ?_
          refine one_ (i := 21) (N := some 47) (tl_ 24 4194303) rfl rfl (one_of HT_.out (g0_)) (by decide) (fun K hK => ?_)
          refine goes_ Try.func78 (g0_) rfl #[.agg #[.int .i64 ((rd_T36 l1 x21_2).f0), .int .i64 ((rd_T36 l1 x21_2).f1)], .agg #[.int .i64 t244, .int .i64 t245]] (by rfl) rfl rfl (g2_) ?_
          with_reducible refine (impl_compare.calls ((rd_T36 l1 x21_2).f0) ((rd_T36 l1 x21_2).f1) t244 t245 t246 _ A27.out).mono ?_
          rintro e w32 ⟨rfl, hb⟩
          refine ⟨_, rfl, ?_⟩
          replace HO_19 := Aside0.mk (Kd.R_below (uf1_ HO_19) hb)
          replace BK234 := bb_ BK234 hb
          replace HB := Aside0.mk (below_step (impl_arePays.calls_q0) hb)
          (try clear hb)
          (try clear hk hi)
          refine hK.out _ _ ⟨((cl_ HB hw240_0).trans rfl), ((cl_ HB hw240_1).trans rfl), ((cl_ HB hw242_0).trans rfl), ((cl_ HB hw242_1).trans rfl), ((cl_ HB hw243_0).trans rfl), ((cl_ HB hw243_1).trans rfl)⟩ (fun hHeld => ?_)
          clear hK K
          refine nm_ ?_
          refine pw_ 22 48 (tl_ 24 8388607) rfl rfl ?_
          refine pw_ 23 49 (tl_ 24 16777215) rfl rfl ?_
          refine done_ (done_of HT_.out (g0_)) ?_
          try go_wp2
          go_ret
          exact ⟨g4_, impl_arePays.calls_q0⟩
         ·rw [if_neg c28] at H
          have c28b0 := decide_eq_false c28
          clear c28
          have H' := Aside0.mk H
          clear H
          have p239 : 0 ≤ (x21_2 : Int) := of_decide_eq_true (g1_)
          have q239 : x21_2 < (t236.length : Int) := of_decide_eq_true (g1_)
          obtain ⟨ad239, e239, hx239_0⟩ := Kd.at_int (Kd.R_reads' HO_19.out).2.2 x21_2 p239 q239
          cases e239
          replace p239 := eq_true p239
          replace q239 := eq_true q239
          try go_wp2
          replace HO_19 := Aside0.mk (Kd.R_drew HO_19.out)
          replace BK234 := Aside0.mk (blk_drew BK234.out)
          replace HB := Aside0.mk (below_drew1 HB.out)
          have p240 : 0 ≤ (x21_2 : Int) := of_decide_eq_true (g1_)
          have q240 : x21_2 < (l1.length : Int) := of_decide_eq_true (g1_)
          obtain ⟨ad240, e240, hx240_0, hx240_1⟩ := at_T36 HR1.out x21_2 p240 q240
          have hw240_1 := hx240_1
          have hw240_0 := hx240_0
          cases e240
          replace hx240_0 := cl_ HB hx240_0
          replace hx240_1 := cl_ HB hx240_1
          replace p240 := eq_true p240
          replace q240 := eq_true q240
          have p242 : 0 ≤ (x21_2 : Int) := of_decide_eq_true (g1_)
          have q242 : x21_2 < (l1.length : Int) := of_decide_eq_true (g1_)
          obtain ⟨ad242, e242, hx242_0, hx242_1⟩ := at_T36 HR1.out x21_2 p242 q242
          have hw242_1 := hx242_1
          have hw242_0 := hx242_0
          obtain rfl : ad240 = ad242 := (by injection e242)
          replace hx242_0 := cl_ HB hx242_0
          replace hx242_1 := cl_ HB hx242_1
          replace p242 := eq_true p242
          replace q242 := eq_true q242
          have p243 : 0 ≤ (x21_2 : Int) := of_decide_eq_true (g1_)
          have q243 : x21_2 < (l1.length : Int) := of_decide_eq_true (g1_)
          obtain ⟨ad243, e243, hx243_0, hx243_1⟩ := at_T36 HR1.out x21_2 p243 q243
          have hw243_1 := hx243_1
          have hw243_0 := hx243_0
          obtain rfl : ad240 = ad243 := (by injection e243)
          replace hx243_0 := cl_ HB hx243_0
          replace hx243_1 := cl_ HB hx243_1
          replace p243 := eq_true p243
          replace q243 := eq_true q243
          refine start_ (n := 24) (S := fun w' => w'.cell? (ad240.add ((x21_2).toNat * 2)) = some (.int .i64 ((rd_T36 l1 x21_2).f0)) ∧ w'.cell? ⟨(ad240.add ((x21_2).toNat * 2)).block, (ad240.add ((x21_2).toNat * 2)).off + 1, none⟩ = some (.int .i64 ((rd_T36 l1 x21_2).f1)) ∧ w'.cell? (ad240.add ((x21_2).toNat * 2)) = some (.int .i64 ((rd_T36 l1 x21_2).f0)) ∧ w'.cell? ⟨(ad240.add ((x21_2).toNat * 2)).block, (ad240.add ((x21_2).toNat * 2)).off + 1, none⟩ = some (.int .i64 ((rd_T36 l1 x21_2).f1)) ∧ w'.cell? (ad240.add ((x21_2).toNat * 2)) = some (.int .i64 ((rd_T36 l1 x21_2).f0)) ∧ w'.cell? ⟨(ad240.add ((x21_2).toNat * 2)).block, (ad240.add ((x21_2).toNat * 2)).off + 1, none⟩ = some (.int .i64 ((rd_T36 l1 x21_2).f1))) (ds := []) (tl_ 24 0) (g0_) rfl (g0_) ⟨((cl_ HB hw240_0).trans rfl), ((cl_ HB hw240_1).trans rfl), ((cl_ HB hw242_0).trans rfl), ((cl_ HB hw242_1).trans rfl), ((cl_ HB hw243_0).trans rfl), ((cl_ HB hw243_1).trans rfl)⟩ (fun hHeld => ?_); refine with_tabW impl_arePays.tab6 impl_arePays.bits6 (fun HT_ HW_ => ?_)
          generalize wr.drew = w33 at HO_19 BK234 HB hx240_0 hx240_1 hx242_0 hx242_1 hx243_0 hx243_1 hHeld ⊢
          refine pw_ 0 26 (tl_ 24 1) rfl rfl ?_
          refine pw_ 1 27 (tl_ 24 3) rfl rfl ?_
          refine pw_ 2 28 (tl_ 24 7) rfl rfl ?_
          refine tk2_ 3 29 (tl_ 24 15) rfl rfl hHeld ?_
          refine one_ (i := 4) (N := some 30) (tl_ 24 31) rfl rfl (one_of HT_.out (g0_)) (by decide) (fun K hK => ?_)
          refine goes_ Try.func77 (g0_) rfl #[.agg #[.int .i64 ((rd_T36 l1 x21_2).f0), .int .i64 ((rd_T36 l1 x21_2).f1)]] (by rfl) rfl rfl (g2_) ?_
          with_reducible refine (impl_isFrac.calls k2 ((rd_T36 l1 x21_2).f0) ((rd_T36 l1 x21_2).f1) true _ A21.out).mono ?_
          rintro e w34 ⟨rfl, hb⟩
          refine ⟨_, rfl, ?_⟩
          replace HO_19 := Aside0.mk (Kd.R_below (uf1_ HO_19) hb)
          replace BK234 := bb_ BK234 hb
          replace HB := Aside0.mk (below_step (impl_arePays.calls_q0) hb)
          (try clear hb)
          (try clear hk hi)
          refine hK.out _ _ ⟨((cl_ HB hw240_0).trans rfl), ((cl_ HB hw240_1).trans rfl), ((cl_ HB hw242_0).trans rfl), ((cl_ HB hw242_1).trans rfl), ((cl_ HB hw243_0).trans rfl), ((cl_ HB hw243_1).trans rfl)⟩ (fun hHeld => ?_)
          clear hK K
          refine nm_ ?_
          refine pw_ 5 31 (tl_ 24 63) rfl rfl ?_
          refine pw_ 6 32 (tl_ 24 127) rfl rfl ?_
          refine pw_ 7 33 (tl_ 24 255) rfl rfl ?_
          refine pw_ 8 34 (tl_ 24 511) rfl rfl ?_
          refine pw_ 9 35 (tl_ 24 1023) rfl rfl ?_
          refine pw_ 10 36 (tl_ 24 2047) rfl rfl ?_
          refine tk2_ 11 37 (tl_ 24 4095) rfl rfl hHeld ?_
          refine pw_ 12 38 (tl_ 24 8191) rfl rfl ?_
          refine pw_ 13 39 (tl_ 24 16383) rfl rfl ?_
          refine pw_ 14 40 (tl_ 24 32767) rfl rfl ?_
          refine pw_ 15 41 (tl_ 24 65535) rfl rfl ?_
          refine pw_ 16 42 (tl_ 24 131071) rfl rfl ?_
          refine pw_ 17 43 (tl_ 24 262143) rfl rfl ?_
          refine pw_ 19 45 (tl_ 24 786431) rfl rfl ?_
          refine tk2_ 18 44 (tl_ 24 1048575) rfl rfl hHeld ?_
          refine one_ (i := 20) (N := some 46) (tl_ 24 2097151) rfl rfl (one_of HT_.out (g0_)) (by decide) (fun K hK => ?_)
          refine goes_ Try.func89 (g0_) rfl #[.int .i64 (rd t236 x21_2)] (by rfl) rfl rfl (g2_) ?_
          with_reducible refine (impl_whole.calls (rd t236 x21_2) t244 t245 _ A26.out).mono ?_
          rintro e w35 ⟨rfl, hb⟩
          refine ⟨_, rfl, ?_⟩
          replace HO_19 := Aside0.mk (Kd.R_below (uf1_ HO_19) hb)
          replace BK234 := bb_ BK234 hb
          replace HB := Aside0.mk (below_step (impl_arePays.calls_q0) hb)
          (try clear hb)
          (try clear hk hi)
          refine hK.out _ _ ⟨((cl_ HB hw240_0).trans rfl), ((cl_ HB hw240_1).trans rfl), ((cl_ HB hw242_0).trans rfl), ((cl_ HB hw242_1).trans rfl), ((cl_ HB hw243_0).trans rfl), ((cl_ HB hw243_1).trans rfl)⟩ (fun hHeld => ?_)
          clear hK K
          refine nm_ ?_
          refine one_ (i := 21) (N := some 47) (tl_ 24 4194303) rfl rfl (one_of HT_.out (g0_)) (by decide) (fun K hK => ?_)
          refine goes_ Try.func78 (g0_) rfl #[.agg #[.int .i64 ((rd_T36 l1 x21_2).f0), .int .i64 ((rd_T36 l1 x21_2).f1)], .agg #[.int .i64 t244, .int .i64 t245]] (by rfl) rfl rfl (g2_) ?_
          with_reducible refine (impl_compare.calls ((rd_T36 l1 x21_2).f0) ((rd_T36 l1 x21_2).f1) t244 t245 t246 _ A27.out).mono ?_
          rintro e w36 ⟨rfl, hb⟩
          refine ⟨_, rfl, ?_⟩
          replace HO_19 := Aside0.mk (Kd.R_below (uf1_ HO_19) hb)
          replace BK234 := bb_ BK234 hb
          replace HB := Aside0.mk (below_step (impl_arePays.calls_q0) hb)
          (try clear hb)
          (try clear hk hi)
          refine hK.out _ _ ⟨((cl_ HB hw240_0).trans rfl), ((cl_ HB hw240_1).trans rfl), ((cl_ HB hw242_0).trans rfl), ((cl_ HB hw242_1).trans rfl), ((cl_ HB hw243_0).trans rfl), ((cl_ HB hw243_1).trans rfl)⟩ (fun hHeld => ?_)
          clear hK K
          refine nm_ ?_
          refine pw_ 22 48 (tl_ 24 8388607) rfl rfl ?_
          refine pw_ 23 49 (tl_ 24 16777215) rfl rfl ?_
          refine done_ (done_of HT_.out (g0_)) ?_
          try go_wp2
          go_roundg k2
          case measure => have := HJ2.out; have := HK2.out; omega
          case rel => exact ⟨(wrap64 (x21_2 + 1)), (g3_), H', ⟨by have := HJ2.out; have := HK2.out; omega⟩, ⟨uf1_ HO_19⟩, ⟨uf0_ BK234⟩, ⟨impl_arePays.calls_q0⟩⟩
       ·replace c22 := Bool.eq_false_iff.mpr c22
        subst c22
        replace H := ifn_ H
        obtain rfl := Option.some.inj H
        have p239 : 0 ≤ (x21_2 : Int) := of_decide_eq_true (g1_)
        have q239 : x21_2 < (t236.length : Int) := of_decide_eq_true (g1_)
        obtain ⟨ad239, e239, hx239_0⟩ := Kd.at_int (Kd.R_reads' HO_19.out).2.2 x21_2 p239 q239
        cases e239
        replace p239 := eq_true p239
        replace q239 := eq_true q239
        try go_wp2
        replace HO_19 := Aside0.mk (Kd.R_drew HO_19.out)
        replace BK234 := Aside0.mk (blk_drew BK234.out)
        replace HB := Aside0.mk (below_drew1 HB.out)
        have p240 : 0 ≤ (x21_2 : Int) := of_decide_eq_true (g1_)
        have q240 : x21_2 < (l1.length : Int) := of_decide_eq_true (g1_)
        obtain ⟨ad240, e240, hx240_0, hx240_1⟩ := at_T36 HR1.out x21_2 p240 q240
        have hw240_1 := hx240_1
        have hw240_0 := hx240_0
        cases e240
        replace hx240_0 := cl_ HB hx240_0
        replace hx240_1 := cl_ HB hx240_1
        replace p240 := eq_true p240
        replace q240 := eq_true q240
        refine start_ (n := 24) (S := fun w' => w'.cell? (ad240.add ((x21_2).toNat * 2)) = some (.int .i64 ((rd_T36 l1 x21_2).f0)) ∧ w'.cell? ⟨(ad240.add ((x21_2).toNat * 2)).block, (ad240.add ((x21_2).toNat * 2)).off + 1, none⟩ = some (.int .i64 ((rd_T36 l1 x21_2).f1))) (ds := []) (tl_ 24 0) (g0_) rfl (g0_) ⟨((cl_ HB hw240_0).trans rfl), ((cl_ HB hw240_1).trans rfl)⟩ (fun hHeld => ?_); refine with_tabW impl_arePays.tab6 impl_arePays.bits6 (fun HT_ HW_ => ?_)
        generalize wr.drew = w37 at HO_19 BK234 HB hx240_0 hx240_1 hHeld ⊢
        refine pw_ 0 26 (tl_ 24 1) rfl rfl ?_
        refine pw_ 1 27 (tl_ 24 3) rfl rfl ?_
        refine pw_ 2 28 (tl_ 24 7) rfl rfl ?_
        refine tk0_ 3 29 (tl_ 24 15) rfl rfl hHeld ?_
        refine one_ (i := 4) (N := some 30) (tl_ 24 31) rfl rfl (one_of HT_.out (g0_)) (by decide) (fun K hK => ?_)
        refine goes_ Try.func77 (g0_) rfl #[.agg #[.int .i64 ((rd_T36 l1 x21_2).f0), .int .i64 ((rd_T36 l1 x21_2).f1)]] (by rfl) rfl rfl (g2_) ?_
        with_reducible refine (impl_isFrac.calls k2 ((rd_T36 l1 x21_2).f0) ((rd_T36 l1 x21_2).f1) false _ A21.out).mono ?_
        rintro e w38 ⟨rfl, hb⟩
        refine ⟨_, rfl, ?_⟩
        replace HO_19 := Aside0.mk (Kd.R_below (uf1_ HO_19) hb)
        replace BK234 := bb_ BK234 hb
        replace HB := Aside0.mk (below_step (impl_arePays.calls_q0) hb)
        (try clear hb)
        (try clear hk hi)
        refine hK.out _ _ ⟨((cl_ HB hw240_0).trans rfl), ((cl_ HB hw240_1).trans rfl)⟩ (fun hHeld => ?_)
        clear hK K
        refine nm_ ?_
        refine pw_ 5 31 (tl_ 24 63) rfl rfl ?_
        refine pw_ 6 32 (tl_ 24 127) rfl rfl ?_
        refine pu_ 7 33 (tl_ 24 255) rfl rfl ?_
        refine pu_ 8 34 (tl_ 24 511) rfl rfl ?_
        refine pu_ 9 35 (tl_ 24 1023) rfl rfl ?_
        refine pu_ 10 36 (tl_ 24 2047) rfl rfl ?_
        refine pu_ 11 37 (tl_ 24 4095) rfl rfl ?_
        refine pu_ 12 38 (tl_ 24 8191) rfl rfl ?_
        refine pw_ 13 39 (tl_ 24 16383) rfl rfl ?_
        refine pw_ 14 40 (tl_ 24 32767) rfl rfl ?_
        refine pu_ 15 41 (tl_ 24 65535) rfl rfl ?_
        refine pu_ 16 42 (tl_ 24 131071) rfl rfl ?_
        refine pu_ 17 43 (tl_ 24 262143) rfl rfl ?_
        refine pu_ 18 44 (tl_ 24 524287) rfl rfl ?_
        refine pu_ 19 45 (tl_ 24 1048575) rfl rfl ?_
        refine pu_ 20 46 (tl_ 24 2097151) rfl rfl ?_
        refine pu_ 21 47 (tl_ 24 4194303) rfl rfl ?_
        refine pu_ 22 48 (tl_ 24 8388607) rfl rfl ?_
        refine pw_ 23 49 (tl_ 24 16777215) rfl rfl ?_
        refine done_ (done_of HT_.out (g0_)) ?_
        try go_wp2
        go_ret
        exact ⟨g4_, impl_arePays.calls_q0⟩
      ·rw [if_neg c17] at H
       have c17b0 := decide_eq_false c17
       clear c17
       obtain rfl := Option.some.inj H
       go_wp2
       go_ret
       exact ⟨g4_, impl_arePays.calls_q0⟩
def impl_lowest.f (k : Nat) (a0 : Int) (a1 : Int) : Option (Int × Int × Bool) := (impl_gcd.f k a0 a1).bind fun t248 => (if a1 < 0 then (if (wrap64 (-t248)) = 0 then (none) else ((impl_isFrac.f k (wrap64 (Int.tdiv a0 (wrap64 (-t248)))) (wrap64 (Int.tdiv a1 (wrap64 (-t248))))).bind fun t250 => (if t250 = true then (some (wrap64 (Int.tdiv a0 (wrap64 (-t248))), wrap64 (Int.tdiv a1 (wrap64 (-t248))), true)) else (some (0, 0, false))))) else (if t248 = 0 then (none) else ((impl_isFrac.f k (wrap64 (Int.tdiv a0 t248)) (wrap64 (Int.tdiv a1 t248))).bind fun t252 => (if t252 = true then (some (wrap64 (Int.tdiv a0 t248), wrap64 (Int.tdiv a1 t248), true)) else (some (0, 0, false))))))
theorem impl_lowest.mq {p : Prop} (h : p := by
 repeat' first
 | (with_reducible exact impl_gcd.mono _ _ _)
 | (with_reducible exact impl_isFrac.mono _ _ _)
 | (with_reducible exact LeO.refl _)
 | (with_reducible exact LeO.none _)
 | (with_reducible refine LeO.ite ?_ ?_)
 | (with_reducible refine LeO.bind ?_ (fun _ => ?_))
 | exact impl_gcd.mono _ _ _
 | exact impl_isFrac.mono _ _ _
 | exact LeO.none _
 | refine LeO.ite ?_ ?_
 | refine LeO.bind ?_ (fun _ => ?_)) : p := h
theorem impl_lowest.mono : ∀ a0 a1 k, LeO (impl_lowest.f k a0 a1) (impl_lowest.f (k + 1) a0 a1) := by
 intro a0 a1 k
 unfold impl_lowest.f
 exact impl_lowest.mq
def impl_lowest.T4 : Bool × List (List Nat × List Nat) := (true, [([], []), ([], []), ([0, 1], [0, 1]), ([], []), ([], []), ([3, 4], [3, 4]), ([2, 5], [2, 5]), ([], []), ([7, 6, 0, 1, 2, 3, 4, 5, 6, 7], [6, 7])])
def impl_lowest.B4 : List Nat := [0, 0, 3, 0, 0, 24, 63, 0, 255]
theorem impl_lowest.tab4 : rtab .any (opsOf Try.f92 4) = impl_lowest.T4 := by kernel_rfl
theorem impl_lowest.bits4 : waitsOk impl_lowest.T4.2 impl_lowest.B4 = true := by kernel_rfl
theorem impl_lowest.calls_q0 {p : Prop} (h : p := by repeat (first | (with_reducible first | exact HB.out | apply below_alloc | apply pw_below_drewN | apply below_drew1 | refine below_set ?_ GE247.out | refine below_set ?_ GE249.out | refine below_set ?_ GE251.out) | exact HB.out)) : p := h
set_option maxHeartbeats 8000000 in
set_option maxRecDepth 100000 in
theorem impl_lowest.calls (k : Nat) (a0 : Int) (a1 : Int) (r1 : Int) (r2 : Int) (r3 : Bool) (w : World) (h : impl_lowest.f k a0 a1 = some (r1, r2, r3)) :
  Calls Try.prog 92 #[.int .i64 a0, .int .i64 a1] w fun e w' => e = .returned (.tuple #[.agg #[.int .i64 r1, .int .i64 r2], .bool r3]) ∧ Below w.heap.size w w' := by
 have hu36 := Try.underlying36
 have HB := Aside0.mk (Below.refl w.heap.size w)
 have H : ((impl_gcd.f k a0 a1).bind fun t248 => (if a1 < 0 then (if (wrap64 (-t248)) = 0 then (none) else ((impl_isFrac.f k (wrap64 (Int.tdiv a0 (wrap64 (-t248)))) (wrap64 (Int.tdiv a1 (wrap64 (-t248))))).bind fun t250 => (if t250 = true then (some (wrap64 (Int.tdiv a0 (wrap64 (-t248))), wrap64 (Int.tdiv a1 (wrap64 (-t248))), true)) else (some (0, 0, false))))) else (if t248 = 0 then (none) else ((impl_isFrac.f k (wrap64 (Int.tdiv a0 t248)) (wrap64 (Int.tdiv a1 t248))).bind fun t252 => (if t252 = true then (some (wrap64 (Int.tdiv a0 t248), wrap64 (Int.tdiv a1 t248), true)) else (some (0, 0, false))))))) = some (r1, r2, r3) := h
 clear h
 obtain ⟨t248, A3, H⟩ := bind_ H
 by_cases c4 : a1 < 0
 ·rw [if_pos c4] at H
  have c4b0 := decide_eq_true c4
  clear c4
  by_cases c5 : (wrap64 (-t248)) = 0
  ·rw [if_pos c5] at H
   exact absurd H (by simp)
  ·rw [if_neg c5] at H
   have c5b0 : ((wrap64 (-t248)) == 0) = false := beq_eq_false_iff_ne.mpr c5
   have c5b1 : ((wrap64 (-t248)) != 0) = true := bne_iff_ne.mpr c5
   obtain ⟨t250, A6, H⟩ := bind_ H
   by_cases c7 : t250 = true
   ·subst c7
    replace H := ifp_ H
    simp only [Option.some.injEq, Prod.mk.injEq] at H
    obtain ⟨rfl, rfl, rfl⟩ := H
    go_enter Try.func92, Try.ntmps92
    try go_wp2_with (first | ((with_reducible refine gate_dst (N := 4) rfl ?_); refine bx_ (N := 4) #[.int .i64 0, .int .i64 0] 36 ?_; intro gb247 hg w8 hbox hb; have BK247 := Aside0.mk (hbox); have GW247 := Aside0.mk ((g18_ : w.heap.size ≤ gb247)); have GE247 := Aside0.mk ((g18_ : w.heap.size ≤ gb247)); replace HB := Aside0.mk (below_step (impl_lowest.calls_q0) hb); clear hb hbox hg) | ((with_reducible refine gate_callee (f := 97) rfl ?_); refine goesL_ (some 10) rfl rfl Try.func97 k_ rfl #[.int .i64 a0, .int .i64 a1] rfl (g2_) ?_; (with_reducible refine (impl_gcd.calls k a0 a1 t248 _ A3.out).mono ?_); rintro e w9 ⟨rfl, hb⟩; refine ⟨_, rfl, ?_⟩; replace BK247 := bb_ BK247 hb; replace HB := Aside0.mk (below_step (impl_lowest.calls_q0) hb); (try clear hb); (try clear hk hi)))
    replace BK247 := Aside0.mk (blk_drew BK247.out)
    replace HB := Aside0.mk (below_drew1 HB.out)
    refine start_ (n := 9) (S := fun w' => True) (ds := []) (tl_ 9 0) (g0_) rfl (g0_) trivial (fun hHeld => ?_); refine with_tabW impl_lowest.tab4 impl_lowest.bits4 (fun HT_ HW_ => ?_)
    generalize w9.drew = w10 at BK247 HB hHeld ⊢
    refine pw_ 0 15 (tl_ 9 1) rfl rfl ?_
    refine pw_ 1 16 (tl_ 9 3) rfl rfl ?_
    refine pw_ 2 17 (tl_ 9 7) rfl rfl ?_
    refine pw_ 3 18 (tl_ 9 15) rfl rfl ?_
    refine pw_ 4 19 (tl_ 9 31) rfl rfl ?_
    refine pw_ 5 20 (tl_ 9 63) rfl rfl ?_
    refine pw_ 6 21 (tl_ 9 127) rfl rfl ?_
    refine one_ (i := 7) (N := some 7) (tl_ 9 255) rfl rfl (one_of HT_.out (g0_)) (by decide) (fun K hK => ?_)
    refine bs_ (N := 7) #[.int .i64 0, .int .i64 0] 36 ?_
    intro gb249 hg w11 hbox hb
    have BK249 := Aside0.mk (hbox)
    have GW249 := Aside0.mk ((g18_ : w.heap.size ≤ gb249))
    have GE249 := Aside0.mk ((g18_ : w.heap.size ≤ gb249))
    replace HB := Aside0.mk (below_step (impl_lowest.calls_q0) hb)
    have NB247_249 := Aside0.mk ((g88_ : gb247 ≠ gb249))
    have NB249_247 := Aside0.mk ((g89_ : gb249 ≠ gb247))
    replace BK247 := bb_ BK247 hb
    clear hb hbox hg
    refine hK.out _ _ trivial (fun hHeld => ?_)
    clear hK K
    refine nm_ ?_
    refine one_ (i := 8) (N := none) (tl_ 9 511) rfl rfl (one_of HT_.out (g0_)) (by decide) (fun K hK => ?_)
    have hs12 : w11.cell? ⟨gb249, 0, none⟩ = some (.int .i64 0) := (blk_cell BK249.out 0).trans rfl
    have hfs12 := blk_frozen BK249.out 0
    have hns12_0 := NB247_249.out
    have hms12_0 := NB249_247.out
    have hs13 : w11.cell? ⟨gb249, 1, none⟩ = some (.int .i64 0) := (blk_cell BK249.out 1).trans rfl
    have hfs13 := blk_frozen BK249.out 1
    have hns13_0 := NB247_249.out
    have hms13_0 := NB249_247.out
    refine skip_ (w1 := ?_) (by rfl) rfl ?_ ?_
    rotate_left
    ·go_simp
     rfl
    refine hK.out _ _ trivial (fun hHeld => ?_)
    clear hK K
    refine done_ (done_of HT_.out (g0_)) ?_
    have hnb14 := NB249_247.out
    have hnc14 := NB247_249.out
    obtain ⟨hcz15_0, hcz15_1, hfz15_0, hfz15_1⟩ := blk2_ BK249
    try go_wp2_with (first | ((with_reducible refine gate_callee (f := 77) rfl ?_); refine goesL_ (some 23) rfl rfl Try.func77 k_ rfl #[.agg #[.int .i64 (wrap64 (Int.tdiv a0 (wrap64 (-t248)))), .int .i64 (wrap64 (Int.tdiv a1 (wrap64 (-t248))))]] rfl (g2_) ?_; (with_reducible refine (impl_isFrac.calls k (wrap64 (Int.tdiv a0 (wrap64 (-t248)))) (wrap64 (Int.tdiv a1 (wrap64 (-t248)))) true _ A6.out).mono ?_); rintro e w16 ⟨rfl, hb⟩; refine ⟨_, rfl, ?_⟩; replace BK247 := Aside0.mk (blk_below (g := gb247) (o := .cells #[.int .i64 0, .int .i64 0] 36 (0, 0)) (by (with_reducible repeat (first | refine blk_drewN ?_ _ | refine blk_drew ?_ | refine blk_alloc ?_ _)); refine blk_far ?_ NB247_249.out _; (with_reducible repeat (first | refine blk_drewN ?_ _ | refine blk_drew ?_ | refine blk_alloc ?_ _)); refine blk_far ?_ NB247_249.out _; (with_reducible repeat (first | refine blk_drewN ?_ _ | refine blk_drew ?_ | refine blk_alloc ?_ _)); exact BK247.out) hb); replace BK249 := Aside0.mk (blk_below (g := gb249) (o := .cells #[.int .i64 (wrap64 (Int.tdiv a0 (wrap64 (-t248)))), .int .i64 (wrap64 (Int.tdiv a1 (wrap64 (-t248))))] 36 (0, 0)) (by (with_reducible repeat (first | refine blk_drewN ?_ _ | refine blk_drew ?_ | refine blk_alloc ?_ _)); refine blk_put (cs := #[.int .i64 (wrap64 (Int.tdiv a0 (wrap64 (-t248)))), .int .i64 0]) ?_ 1 _ rfl; (with_reducible repeat (first | refine blk_drewN ?_ _ | refine blk_drew ?_ | refine blk_alloc ?_ _)); refine blk_put (cs := #[.int .i64 0, .int .i64 0]) ?_ 0 _ rfl; (with_reducible repeat (first | refine blk_drewN ?_ _ | refine blk_drew ?_ | refine blk_alloc ?_ _)); exact BK249.out) hb); replace HB := Aside0.mk (below_step (impl_lowest.calls_q0) hb); (try clear hb); (try clear hk hi); obtain ⟨hcz17_0, hcz17_1, hfz17_0, hfz17_1⟩ := blk2_ BK249; obtain ⟨hcz18_0, hcz18_1, hfz18_0, hfz18_1⟩ := blk2_ BK247))
    refine bodyPost_ret (results_ct rfl _ _ gb247 36 #[.int .i64 (wrap64 (Int.tdiv a0 (wrap64 (-t248)))), .int .i64 (wrap64 (Int.tdiv a1 (wrap64 (-t248))))] (0, 0) _ rfl (by (with_reducible repeat (first | refine blk_drewN ?_ _ | refine blk_drew ?_ | refine blk_alloc ?_ _)); refine blk_put (cs := #[.int .i64 (wrap64 (Int.tdiv a0 (wrap64 (-t248)))), .int .i64 0]) ?_ 1 _ rfl; (with_reducible repeat (first | refine blk_drewN ?_ _ | refine blk_drew ?_ | refine blk_alloc ?_ _)); refine blk_put (cs := #[.int .i64 0, .int .i64 0]) ?_ 0 _ rfl; (with_reducible repeat (first | refine blk_drewN ?_ _ | refine blk_drew ?_ | refine blk_alloc ?_ _)); exact BK247.out) Try.underlying36 rfl (g0_)) rfl ?_
    exact ⟨g4_, impl_lowest.calls_q0⟩
   ·replace c7 := Bool.eq_false_iff.mpr c7
    subst c7
    replace H := ifn_ H
    simp only [Option.some.injEq, Prod.mk.injEq] at H
    obtain ⟨rfl, rfl, rfl⟩ := H
    go_enter Try.func92, Try.ntmps92
    try go_wp2_with (first | ((with_reducible refine gate_dst (N := 4) rfl ?_); refine bx_ (N := 4) #[.int .i64 0, .int .i64 0] 36 ?_; intro gb247 hg w19 hbox hb; have BK247 := Aside0.mk (hbox); have GW247 := Aside0.mk ((g18_ : w.heap.size ≤ gb247)); have GE247 := Aside0.mk ((g18_ : w.heap.size ≤ gb247)); replace HB := Aside0.mk (below_step (impl_lowest.calls_q0) hb); clear hb hbox hg) | ((with_reducible refine gate_callee (f := 97) rfl ?_); refine goesL_ (some 10) rfl rfl Try.func97 k_ rfl #[.int .i64 a0, .int .i64 a1] rfl (g2_) ?_; (with_reducible refine (impl_gcd.calls k a0 a1 t248 _ A3.out).mono ?_); rintro e w20 ⟨rfl, hb⟩; refine ⟨_, rfl, ?_⟩; replace BK247 := bb_ BK247 hb; replace HB := Aside0.mk (below_step (impl_lowest.calls_q0) hb); (try clear hb); (try clear hk hi)))
    replace BK247 := Aside0.mk (blk_drew BK247.out)
    replace HB := Aside0.mk (below_drew1 HB.out)
    refine start_ (n := 9) (S := fun w' => True) (ds := []) (tl_ 9 0) (g0_) rfl (g0_) trivial (fun hHeld => ?_); refine with_tabW impl_lowest.tab4 impl_lowest.bits4 (fun HT_ HW_ => ?_)
    generalize w20.drew = w21 at BK247 HB hHeld ⊢
    refine pw_ 0 15 (tl_ 9 1) rfl rfl ?_
    refine pw_ 1 16 (tl_ 9 3) rfl rfl ?_
    refine pw_ 2 17 (tl_ 9 7) rfl rfl ?_
    refine pw_ 3 18 (tl_ 9 15) rfl rfl ?_
    refine pw_ 4 19 (tl_ 9 31) rfl rfl ?_
    refine pw_ 5 20 (tl_ 9 63) rfl rfl ?_
    refine pw_ 6 21 (tl_ 9 127) rfl rfl ?_
    refine one_ (i := 7) (N := some 7) (tl_ 9 255) rfl rfl (one_of HT_.out (g0_)) (by decide) (fun K hK => ?_)
    refine bs_ (N := 7) #[.int .i64 0, .int .i64 0] 36 ?_
    intro gb249 hg w22 hbox hb
    have BK249 := Aside0.mk (hbox)
    have GW249 := Aside0.mk ((g18_ : w.heap.size ≤ gb249))
    have GE249 := Aside0.mk ((g18_ : w.heap.size ≤ gb249))
    replace HB := Aside0.mk (below_step (impl_lowest.calls_q0) hb)
    have NB247_249 := Aside0.mk ((g88_ : gb247 ≠ gb249))
    have NB249_247 := Aside0.mk ((g89_ : gb249 ≠ gb247))
    replace BK247 := bb_ BK247 hb
    clear hb hbox hg
    refine hK.out _ _ trivial (fun hHeld => ?_)
    clear hK K
    refine nm_ ?_
    refine one_ (i := 8) (N := none) (tl_ 9 511) rfl rfl (one_of HT_.out (g0_)) (by decide) (fun K hK => ?_)
    have hs23 : w22.cell? ⟨gb249, 0, none⟩ = some (.int .i64 0) := (blk_cell BK249.out 0).trans rfl
    have hfs23 := blk_frozen BK249.out 0
    have hns23_0 := NB247_249.out
    have hms23_0 := NB249_247.out
    have hs24 : w22.cell? ⟨gb249, 1, none⟩ = some (.int .i64 0) := (blk_cell BK249.out 1).trans rfl
    have hfs24 := blk_frozen BK249.out 1
    have hns24_0 := NB247_249.out
    have hms24_0 := NB249_247.out
    refine skip_ (w1 := ?_) (by rfl) rfl ?_ ?_
    rotate_left
    ·go_simp
     rfl
    refine hK.out _ _ trivial (fun hHeld => ?_)
    clear hK K
    refine done_ (done_of HT_.out (g0_)) ?_
    have hnb25 := NB249_247.out
    have hnc25 := NB247_249.out
    obtain ⟨hcz26_0, hcz26_1, hfz26_0, hfz26_1⟩ := blk2_ BK249
    try go_wp2_with (first | ((with_reducible refine gate_callee (f := 77) rfl ?_); refine goesL_ (some 23) rfl rfl Try.func77 k_ rfl #[.agg #[.int .i64 (wrap64 (Int.tdiv a0 (wrap64 (-t248)))), .int .i64 (wrap64 (Int.tdiv a1 (wrap64 (-t248))))]] rfl (g2_) ?_; (with_reducible refine (impl_isFrac.calls k (wrap64 (Int.tdiv a0 (wrap64 (-t248)))) (wrap64 (Int.tdiv a1 (wrap64 (-t248)))) false _ A6.out).mono ?_); rintro e w27 ⟨rfl, hb⟩; refine ⟨_, rfl, ?_⟩; replace BK247 := Aside0.mk (blk_below (g := gb247) (o := .cells #[.int .i64 0, .int .i64 0] 36 (0, 0)) (by (with_reducible repeat (first | refine blk_drewN ?_ _ | refine blk_drew ?_ | refine blk_alloc ?_ _)); refine blk_far ?_ NB247_249.out _; (with_reducible repeat (first | refine blk_drewN ?_ _ | refine blk_drew ?_ | refine blk_alloc ?_ _)); refine blk_far ?_ NB247_249.out _; (with_reducible repeat (first | refine blk_drewN ?_ _ | refine blk_drew ?_ | refine blk_alloc ?_ _)); exact BK247.out) hb); replace BK249 := Aside0.mk (blk_below (g := gb249) (o := .cells #[.int .i64 (wrap64 (Int.tdiv a0 (wrap64 (-t248)))), .int .i64 (wrap64 (Int.tdiv a1 (wrap64 (-t248))))] 36 (0, 0)) (by (with_reducible repeat (first | refine blk_drewN ?_ _ | refine blk_drew ?_ | refine blk_alloc ?_ _)); refine blk_put (cs := #[.int .i64 (wrap64 (Int.tdiv a0 (wrap64 (-t248)))), .int .i64 0]) ?_ 1 _ rfl; (with_reducible repeat (first | refine blk_drewN ?_ _ | refine blk_drew ?_ | refine blk_alloc ?_ _)); refine blk_put (cs := #[.int .i64 0, .int .i64 0]) ?_ 0 _ rfl; (with_reducible repeat (first | refine blk_drewN ?_ _ | refine blk_drew ?_ | refine blk_alloc ?_ _)); exact BK249.out) hb); replace HB := Aside0.mk (below_step (impl_lowest.calls_q0) hb); (try clear hb); (try clear hk hi); obtain ⟨hcz28_0, hcz28_1, hfz28_0, hfz28_1⟩ := blk2_ BK247))
    refine bodyPost_ret (results_ct rfl _ _ gb247 36 #[.int .i64 0, .int .i64 0] (0, 0) _ rfl (by (with_reducible repeat (first | refine blk_drewN ?_ _ | refine blk_drew ?_ | refine blk_alloc ?_ _)); refine blk_put (cs := #[.int .i64 0, .int .i64 0]) ?_ 1 _ rfl; (with_reducible repeat (first | refine blk_drewN ?_ _ | refine blk_drew ?_ | refine blk_alloc ?_ _)); refine blk_put (cs := #[.int .i64 0, .int .i64 0]) ?_ 0 _ rfl; (with_reducible repeat (first | refine blk_drewN ?_ _ | refine blk_drew ?_ | refine blk_alloc ?_ _)); exact BK247.out) Try.underlying36 rfl (g0_)) rfl ?_
    exact ⟨g4_, impl_lowest.calls_q0⟩
 ·rw [if_neg c4] at H
  have c4b0 := decide_eq_false c4
  clear c4
  by_cases c29 : t248 = 0
  ·rw [if_pos c29] at H
   exact absurd H (by simp)
  ·rw [if_neg c29] at H
   have c29b0 : (t248 == 0) = false := beq_eq_false_iff_ne.mpr c29
   have c29b1 : (t248 != 0) = true := bne_iff_ne.mpr c29
   obtain ⟨t252, A30, H⟩ := bind_ H
   by_cases c31 : t252 = true
   ·subst c31
    replace H := ifp_ H
    simp only [Option.some.injEq, Prod.mk.injEq] at H
    obtain ⟨rfl, rfl, rfl⟩ := H
    go_enter Try.func92, Try.ntmps92
    try go_wp2_with (first | ((with_reducible refine gate_dst (N := 4) rfl ?_); refine bx_ (N := 4) #[.int .i64 0, .int .i64 0] 36 ?_; intro gb247 hg w32 hbox hb; have BK247 := Aside0.mk (hbox); have GW247 := Aside0.mk ((g18_ : w.heap.size ≤ gb247)); have GE247 := Aside0.mk ((g18_ : w.heap.size ≤ gb247)); replace HB := Aside0.mk (below_step (impl_lowest.calls_q0) hb); clear hb hbox hg) | ((with_reducible refine gate_callee (f := 97) rfl ?_); refine goesL_ (some 10) rfl rfl Try.func97 k_ rfl #[.int .i64 a0, .int .i64 a1] rfl (g2_) ?_; (with_reducible refine (impl_gcd.calls k a0 a1 t248 _ A3.out).mono ?_); rintro e w33 ⟨rfl, hb⟩; refine ⟨_, rfl, ?_⟩; replace BK247 := bb_ BK247 hb; replace HB := Aside0.mk (below_step (impl_lowest.calls_q0) hb); (try clear hb); (try clear hk hi)))
    replace BK247 := Aside0.mk (blk_drew BK247.out)
    replace HB := Aside0.mk (below_drew1 HB.out)
    refine start_ (n := 9) (S := fun w' => True) (ds := []) (tl_ 9 0) (g0_) rfl (g0_) trivial (fun hHeld => ?_); refine with_tabW impl_lowest.tab4 impl_lowest.bits4 (fun HT_ HW_ => ?_)
    generalize w33.drew = w34 at BK247 HB hHeld ⊢
    refine pw_ 0 15 (tl_ 9 1) rfl rfl ?_
    refine pw_ 1 16 (tl_ 9 3) rfl rfl ?_
    refine pw_ 2 17 (tl_ 9 7) rfl rfl ?_
    refine pw_ 3 18 (tl_ 9 15) rfl rfl ?_
    refine pw_ 4 19 (tl_ 9 31) rfl rfl ?_
    refine pw_ 5 20 (tl_ 9 63) rfl rfl ?_
    refine pw_ 6 21 (tl_ 9 127) rfl rfl ?_
    refine one_ (i := 7) (N := some 7) (tl_ 9 255) rfl rfl (one_of HT_.out (g0_)) (by decide) (fun K hK => ?_)
    refine bs_ (N := 7) #[.int .i64 0, .int .i64 0] 36 ?_
    intro gb251 hg w35 hbox hb
    have BK251 := Aside0.mk (hbox)
    have GW251 := Aside0.mk ((g18_ : w.heap.size ≤ gb251))
    have GE251 := Aside0.mk ((g18_ : w.heap.size ≤ gb251))
    replace HB := Aside0.mk (below_step (impl_lowest.calls_q0) hb)
    have NB247_251 := Aside0.mk ((g88_ : gb247 ≠ gb251))
    have NB251_247 := Aside0.mk ((g89_ : gb251 ≠ gb247))
    replace BK247 := bb_ BK247 hb
    clear hb hbox hg
    refine hK.out _ _ trivial (fun hHeld => ?_)
    clear hK K
    refine nm_ ?_
    refine one_ (i := 8) (N := none) (tl_ 9 511) rfl rfl (one_of HT_.out (g0_)) (by decide) (fun K hK => ?_)
    have hs36 : w35.cell? ⟨gb251, 0, none⟩ = some (.int .i64 0) := (blk_cell BK251.out 0).trans rfl
    have hfs36 := blk_frozen BK251.out 0
    have hns36_0 := NB247_251.out
    have hms36_0 := NB251_247.out
    have hs37 : w35.cell? ⟨gb251, 1, none⟩ = some (.int .i64 0) := (blk_cell BK251.out 1).trans rfl
    have hfs37 := blk_frozen BK251.out 1
    have hns37_0 := NB247_251.out
    have hms37_0 := NB251_247.out
    refine skip_ (w1 := ?_) (by rfl) rfl ?_ ?_
    rotate_left
    ·go_simp
     rfl
    refine hK.out _ _ trivial (fun hHeld => ?_)
    clear hK K
    refine done_ (done_of HT_.out (g0_)) ?_
    have hnb38 := NB251_247.out
    have hnc38 := NB247_251.out
    obtain ⟨hcz39_0, hcz39_1, hfz39_0, hfz39_1⟩ := blk2_ BK251
    try go_wp2_with (first | ((with_reducible refine gate_callee (f := 77) rfl ?_); refine goesL_ (some 23) rfl rfl Try.func77 k_ rfl #[.agg #[.int .i64 (wrap64 (Int.tdiv a0 t248)), .int .i64 (wrap64 (Int.tdiv a1 t248))]] rfl (g2_) ?_; (with_reducible refine (impl_isFrac.calls k (wrap64 (Int.tdiv a0 t248)) (wrap64 (Int.tdiv a1 t248)) true _ A30.out).mono ?_); rintro e w40 ⟨rfl, hb⟩; refine ⟨_, rfl, ?_⟩; replace BK247 := Aside0.mk (blk_below (g := gb247) (o := .cells #[.int .i64 0, .int .i64 0] 36 (0, 0)) (by (with_reducible repeat (first | refine blk_drewN ?_ _ | refine blk_drew ?_ | refine blk_alloc ?_ _)); refine blk_far ?_ NB247_251.out _; (with_reducible repeat (first | refine blk_drewN ?_ _ | refine blk_drew ?_ | refine blk_alloc ?_ _)); refine blk_far ?_ NB247_251.out _; (with_reducible repeat (first | refine blk_drewN ?_ _ | refine blk_drew ?_ | refine blk_alloc ?_ _)); exact BK247.out) hb); replace BK251 := Aside0.mk (blk_below (g := gb251) (o := .cells #[.int .i64 (wrap64 (Int.tdiv a0 t248)), .int .i64 (wrap64 (Int.tdiv a1 t248))] 36 (0, 0)) (by (with_reducible repeat (first | refine blk_drewN ?_ _ | refine blk_drew ?_ | refine blk_alloc ?_ _)); refine blk_put (cs := #[.int .i64 (wrap64 (Int.tdiv a0 t248)), .int .i64 0]) ?_ 1 _ rfl; (with_reducible repeat (first | refine blk_drewN ?_ _ | refine blk_drew ?_ | refine blk_alloc ?_ _)); refine blk_put (cs := #[.int .i64 0, .int .i64 0]) ?_ 0 _ rfl; (with_reducible repeat (first | refine blk_drewN ?_ _ | refine blk_drew ?_ | refine blk_alloc ?_ _)); exact BK251.out) hb); replace HB := Aside0.mk (below_step (impl_lowest.calls_q0) hb); (try clear hb); (try clear hk hi); obtain ⟨hcz41_0, hcz41_1, hfz41_0, hfz41_1⟩ := blk2_ BK251; obtain ⟨hcz42_0, hcz42_1, hfz42_0, hfz42_1⟩ := blk2_ BK247))
    refine bodyPost_ret (results_ct rfl _ _ gb247 36 #[.int .i64 (wrap64 (Int.tdiv a0 t248)), .int .i64 (wrap64 (Int.tdiv a1 t248))] (0, 0) _ rfl (by (with_reducible repeat (first | refine blk_drewN ?_ _ | refine blk_drew ?_ | refine blk_alloc ?_ _)); refine blk_put (cs := #[.int .i64 (wrap64 (Int.tdiv a0 t248)), .int .i64 0]) ?_ 1 _ rfl; (with_reducible repeat (first | refine blk_drewN ?_ _ | refine blk_drew ?_ | refine blk_alloc ?_ _)); refine blk_put (cs := #[.int .i64 0, .int .i64 0]) ?_ 0 _ rfl; (with_reducible repeat (first | refine blk_drewN ?_ _ | refine blk_drew ?_ | refine blk_alloc ?_ _)); exact BK247.out) Try.underlying36 rfl (g0_)) rfl ?_
    exact ⟨g4_, impl_lowest.calls_q0⟩
   ·replace c31 := Bool.eq_false_iff.mpr c31
    subst c31
    replace H := ifn_ H
    simp only [Option.some.injEq, Prod.mk.injEq] at H
    obtain ⟨rfl, rfl, rfl⟩ := H
    go_enter Try.func92, Try.ntmps92
    try go_wp2_with (first | ((with_reducible refine gate_dst (N := 4) rfl ?_); refine bx_ (N := 4) #[.int .i64 0, .int .i64 0] 36 ?_; intro gb247 hg w43 hbox hb; have BK247 := Aside0.mk (hbox); have GW247 := Aside0.mk ((g18_ : w.heap.size ≤ gb247)); have GE247 := Aside0.mk ((g18_ : w.heap.size ≤ gb247)); replace HB := Aside0.mk (below_step (impl_lowest.calls_q0) hb); clear hb hbox hg) | ((with_reducible refine gate_callee (f := 97) rfl ?_); refine goesL_ (some 10) rfl rfl Try.func97 k_ rfl #[.int .i64 a0, .int .i64 a1] rfl (g2_) ?_; (with_reducible refine (impl_gcd.calls k a0 a1 t248 _ A3.out).mono ?_); rintro e w44 ⟨rfl, hb⟩; refine ⟨_, rfl, ?_⟩; replace BK247 := bb_ BK247 hb; replace HB := Aside0.mk (below_step (impl_lowest.calls_q0) hb); (try clear hb); (try clear hk hi)))
    replace BK247 := Aside0.mk (blk_drew BK247.out)
    replace HB := Aside0.mk (below_drew1 HB.out)
    refine start_ (n := 9) (S := fun w' => True) (ds := []) (tl_ 9 0) (g0_) rfl (g0_) trivial (fun hHeld => ?_); refine with_tabW impl_lowest.tab4 impl_lowest.bits4 (fun HT_ HW_ => ?_)
    generalize w44.drew = w45 at BK247 HB hHeld ⊢
    refine pw_ 0 15 (tl_ 9 1) rfl rfl ?_
    refine pw_ 1 16 (tl_ 9 3) rfl rfl ?_
    refine pw_ 2 17 (tl_ 9 7) rfl rfl ?_
    refine pw_ 3 18 (tl_ 9 15) rfl rfl ?_
    refine pw_ 4 19 (tl_ 9 31) rfl rfl ?_
    refine pw_ 5 20 (tl_ 9 63) rfl rfl ?_
    refine pw_ 6 21 (tl_ 9 127) rfl rfl ?_
    refine one_ (i := 7) (N := some 7) (tl_ 9 255) rfl rfl (one_of HT_.out (g0_)) (by decide) (fun K hK => ?_)
    refine bs_ (N := 7) #[.int .i64 0, .int .i64 0] 36 ?_
    intro gb251 hg w46 hbox hb
    have BK251 := Aside0.mk (hbox)
    have GW251 := Aside0.mk ((g18_ : w.heap.size ≤ gb251))
    have GE251 := Aside0.mk ((g18_ : w.heap.size ≤ gb251))
    replace HB := Aside0.mk (below_step (impl_lowest.calls_q0) hb)
    have NB247_251 := Aside0.mk ((g88_ : gb247 ≠ gb251))
    have NB251_247 := Aside0.mk ((g89_ : gb251 ≠ gb247))
    replace BK247 := bb_ BK247 hb
    clear hb hbox hg
    refine hK.out _ _ trivial (fun hHeld => ?_)
    clear hK K
    refine nm_ ?_
    refine one_ (i := 8) (N := none) (tl_ 9 511) rfl rfl (one_of HT_.out (g0_)) (by decide) (fun K hK => ?_)
    have hs47 : w46.cell? ⟨gb251, 0, none⟩ = some (.int .i64 0) := (blk_cell BK251.out 0).trans rfl
    have hfs47 := blk_frozen BK251.out 0
    have hns47_0 := NB247_251.out
    have hms47_0 := NB251_247.out
    have hs48 : w46.cell? ⟨gb251, 1, none⟩ = some (.int .i64 0) := (blk_cell BK251.out 1).trans rfl
    have hfs48 := blk_frozen BK251.out 1
    have hns48_0 := NB247_251.out
    have hms48_0 := NB251_247.out
    refine skip_ (w1 := ?_) (by rfl) rfl ?_ ?_
    rotate_left
    ·go_simp
     rfl
    refine hK.out _ _ trivial (fun hHeld => ?_)
    clear hK K
    refine done_ (done_of HT_.out (g0_)) ?_
    have hnb49 := NB251_247.out
    have hnc49 := NB247_251.out
    obtain ⟨hcz50_0, hcz50_1, hfz50_0, hfz50_1⟩ := blk2_ BK251
    try go_wp2_with (first | ((with_reducible refine gate_callee (f := 77) rfl ?_); refine goesL_ (some 23) rfl rfl Try.func77 k_ rfl #[.agg #[.int .i64 (wrap64 (Int.tdiv a0 t248)), .int .i64 (wrap64 (Int.tdiv a1 t248))]] rfl (g2_) ?_; (with_reducible refine (impl_isFrac.calls k (wrap64 (Int.tdiv a0 t248)) (wrap64 (Int.tdiv a1 t248)) false _ A30.out).mono ?_); rintro e w51 ⟨rfl, hb⟩; refine ⟨_, rfl, ?_⟩; replace BK247 := Aside0.mk (blk_below (g := gb247) (o := .cells #[.int .i64 0, .int .i64 0] 36 (0, 0)) (by (with_reducible repeat (first | refine blk_drewN ?_ _ | refine blk_drew ?_ | refine blk_alloc ?_ _)); refine blk_far ?_ NB247_251.out _; (with_reducible repeat (first | refine blk_drewN ?_ _ | refine blk_drew ?_ | refine blk_alloc ?_ _)); refine blk_far ?_ NB247_251.out _; (with_reducible repeat (first | refine blk_drewN ?_ _ | refine blk_drew ?_ | refine blk_alloc ?_ _)); exact BK247.out) hb); replace BK251 := Aside0.mk (blk_below (g := gb251) (o := .cells #[.int .i64 (wrap64 (Int.tdiv a0 t248)), .int .i64 (wrap64 (Int.tdiv a1 t248))] 36 (0, 0)) (by (with_reducible repeat (first | refine blk_drewN ?_ _ | refine blk_drew ?_ | refine blk_alloc ?_ _)); refine blk_put (cs := #[.int .i64 (wrap64 (Int.tdiv a0 t248)), .int .i64 0]) ?_ 1 _ rfl; (with_reducible repeat (first | refine blk_drewN ?_ _ | refine blk_drew ?_ | refine blk_alloc ?_ _)); refine blk_put (cs := #[.int .i64 0, .int .i64 0]) ?_ 0 _ rfl; (with_reducible repeat (first | refine blk_drewN ?_ _ | refine blk_drew ?_ | refine blk_alloc ?_ _)); exact BK251.out) hb); replace HB := Aside0.mk (below_step (impl_lowest.calls_q0) hb); (try clear hb); (try clear hk hi); obtain ⟨hcz52_0, hcz52_1, hfz52_0, hfz52_1⟩ := blk2_ BK247))
    refine bodyPost_ret (results_ct rfl _ _ gb247 36 #[.int .i64 0, .int .i64 0] (0, 0) _ rfl (by (with_reducible repeat (first | refine blk_drewN ?_ _ | refine blk_drew ?_ | refine blk_alloc ?_ _)); refine blk_put (cs := #[.int .i64 0, .int .i64 0]) ?_ 1 _ rfl; (with_reducible repeat (first | refine blk_drewN ?_ _ | refine blk_drew ?_ | refine blk_alloc ?_ _)); refine blk_put (cs := #[.int .i64 0, .int .i64 0]) ?_ 0 _ rfl; (with_reducible repeat (first | refine blk_drewN ?_ _ | refine blk_drew ?_ | refine blk_alloc ?_ _)); exact BK247.out) Try.underlying36 rfl (g0_)) rfl ?_
    exact ⟨g4_, impl_lowest.calls_q0⟩
def impl_plus.f (k : Nat) (a0_0 : Int) (a0_1 : Int) (a1_0 : Int) (a1_1 : Int) : Option (Int × Int × Bool) := (impl_lowest.f k (wrap64 ((wrap64 (a0_0 * a1_1)) + (wrap64 (a1_0 * a0_1)))) (wrap64 (a0_1 * a1_1))).bind fun bt256 => (some (bt256.1, bt256.2.1, bt256.2.2))
theorem impl_plus.mq {p : Prop} (h : p := by
 repeat' first
 | (with_reducible exact impl_lowest.mono _ _ _)
 | (with_reducible exact LeO.refl _)
 | (with_reducible exact LeO.none _)
 | (with_reducible refine LeO.ite ?_ ?_)
 | (with_reducible refine LeO.bind ?_ (fun _ => ?_))
 | exact impl_lowest.mono _ _ _
 | exact LeO.none _
 | refine LeO.ite ?_ ?_
 | refine LeO.bind ?_ (fun _ => ?_)) : p := h
theorem impl_plus.mono : ∀ a0 a1 a2 a3 k, LeO (impl_plus.f k a0 a1 a2 a3) (impl_plus.f (k + 1) a0 a1 a2 a3) := by
 intro a0 a1 a2 a3 k
 unfold impl_plus.f
 exact impl_plus.mq
theorem impl_plus.calls_q0 {p : Prop} (h : p := by repeat (first | (with_reducible first | exact HB.out | apply below_alloc | apply pw_below_drewN | apply below_drew1 | refine below_set ?_ GE253.out | refine below_set ?_ GE254.out | refine below_set ?_ GE255.out) | exact HB.out)) : p := h
set_option maxHeartbeats 8000000 in
set_option maxRecDepth 100000 in
theorem impl_plus.calls (k : Nat) (a0_0 : Int) (a0_1 : Int) (a1_0 : Int) (a1_1 : Int) (r1 : Int) (r2 : Int) (r3 : Bool) (w : World) (h : impl_plus.f k a0_0 a0_1 a1_0 a1_1 = some (r1, r2, r3)) :
  Calls Try.prog 81 #[.agg #[.int .i64 a0_0, .int .i64 a0_1], .agg #[.int .i64 a1_0, .int .i64 a1_1]] w fun e w' => e = .returned (.tuple #[.agg #[.int .i64 r1, .int .i64 r2], .bool r3]) ∧ Below w.heap.size w w' := by
 have hu36 := Try.underlying36
 have HB := Aside0.mk (Below.refl w.heap.size w)
 have H : ((impl_lowest.f k (wrap64 ((wrap64 (a0_0 * a1_1)) + (wrap64 (a1_0 * a0_1)))) (wrap64 (a0_1 * a1_1))).bind fun bt256 => (some (bt256.1, bt256.2.1, bt256.2.2))) = some (r1, r2, r3) := h
 clear h
 replace H := Option.bind_eq_some_iff.mp H
 obtain ⟨⟨t256, t257, t258⟩, A30, H⟩ := H
 replace H : (some (t256, t257, t258)) = some (r1, r2, r3) := H
 have A3 := Aside0.mk A30
 clear A30
 simp only [Option.some.injEq, Prod.mk.injEq] at H
 obtain ⟨rfl, rfl, rfl⟩ := H
 go_enter Try.func81, Try.ntmps81
 go_wp2_with (first | ((with_reducible refine gate_dst (N := 2) rfl ?_); refine bx_ (N := 2) #[.int .i64 a0_0, .int .i64 a0_1] 36 ?_; intro gb253 hg w4 hbox hb; have BK253 := Aside0.mk (hbox); have GW253 := Aside0.mk ((g50_ : w.heap.size ≤ gb253)); have GE253 := Aside0.mk ((g50_ : w.heap.size ≤ gb253)); replace HB := Aside0.mk (below_step (impl_plus.calls_q0) hb); clear hb hbox hg) | ((with_reducible refine gate_dst (N := 3) rfl ?_); refine bx_ (N := 3) #[.int .i64 a1_0, .int .i64 a1_1] 36 ?_; intro gb254 hg w5 hbox hb; have BK254 := Aside0.mk (hbox); have GW254 := Aside0.mk ((g50_ : w.heap.size ≤ gb254)); have GE254 := Aside0.mk ((g50_ : w.heap.size ≤ gb254)); replace HB := Aside0.mk (below_step (impl_plus.calls_q0) hb); have NB253_254 := Aside0.mk ((by rw [hg]; exact Nat.ne_of_lt (blk_lt (g := gb253) (o := .cells #[.int .i64 a0_0, .int .i64 a0_1] 36 (0, 0)) (uf0_ BK253)) : gb253 ≠ gb254)); have NB254_253 := Aside0.mk ((by rw [hg]; exact Nat.ne_of_gt (blk_lt (g := gb253) (o := .cells #[.int .i64 a0_0, .int .i64 a0_1] 36 (0, 0)) (uf0_ BK253)) : gb254 ≠ gb253)); replace BK253 := bb_ BK253 hb; clear hb hbox hg) | ((with_reducible refine gate_dst (N := 4) rfl ?_); refine bx_ (N := 4) #[.int .i64 0, .int .i64 0] 36 ?_; intro gb255 hg w6 hbox hb; have BK255 := Aside0.mk (hbox); have GW255 := Aside0.mk ((g50_ : w.heap.size ≤ gb255)); have GE255 := Aside0.mk ((g50_ : w.heap.size ≤ gb255)); replace HB := Aside0.mk (below_step (impl_plus.calls_q0) hb); have NB253_255 := Aside0.mk ((by rw [hg]; exact Nat.ne_of_lt (blk_lt (g := gb253) (o := .cells #[.int .i64 a0_0, .int .i64 a0_1] 36 (0, 0)) (uf0_ BK253)) : gb253 ≠ gb255)); have NB255_253 := Aside0.mk ((by rw [hg]; exact Nat.ne_of_gt (blk_lt (g := gb253) (o := .cells #[.int .i64 a0_0, .int .i64 a0_1] 36 (0, 0)) (uf0_ BK253)) : gb255 ≠ gb253)); replace BK253 := bb_ BK253 hb; have NB254_255 := Aside0.mk ((by rw [hg]; exact Nat.ne_of_lt (blk_lt (g := gb254) (o := .cells #[.int .i64 a1_0, .int .i64 a1_1] 36 (0, 0)) (uf0_ BK254)) : gb254 ≠ gb255)); have NB255_254 := Aside0.mk ((by rw [hg]; exact Nat.ne_of_gt (blk_lt (g := gb254) (o := .cells #[.int .i64 a1_0, .int .i64 a1_1] 36 (0, 0)) (uf0_ BK254)) : gb255 ≠ gb254)); replace BK254 := bb_ BK254 hb; clear hb hbox hg; have hnb7 := NB253_254.out; have hnc7 := NB254_253.out; have hnb8 := NB253_255.out; have hnc8 := NB255_253.out; obtain ⟨hcz9_0, hcz9_1, hfz9_0, hfz9_1⟩ := blk2_ BK253; have hnb10 := NB254_255.out; have hnc10 := NB255_254.out; obtain ⟨hcz11_0, hcz11_1, hfz11_0, hfz11_1⟩ := blk2_ BK254) | ((with_reducible refine gate_callee (f := 92) rfl ?_); refine goesL_ (some 22) rfl rfl Try.func92 k_ rfl #[.int .i64 (wrap64 ((wrap64 (a0_0 * a1_1)) + (wrap64 (a1_0 * a0_1)))), .int .i64 (wrap64 (a0_1 * a1_1))] rfl (g2_) ?_; (with_reducible refine (impl_lowest.calls k (wrap64 ((wrap64 (a0_0 * a1_1)) + (wrap64 (a1_0 * a0_1)))) (wrap64 (a0_1 * a1_1)) t256 t257 t258 _ A3.out).mono ?_); rintro e w12 ⟨rfl, hb⟩; refine ⟨_, rfl, ?_⟩; replace BK253 := bb_ BK253 hb; replace BK254 := bb_ BK254 hb; replace BK255 := bb_ BK255 hb; replace HB := Aside0.mk (below_step (impl_plus.calls_q0) hb); (try clear hb); (try clear hk hi); obtain ⟨hcz13_0, hcz13_1, hfz13_0, hfz13_1⟩ := blk2_ BK255))
 refine bodyPost_ret (results_ct rfl _ _ gb255 36 #[.int .i64 t256, .int .i64 t257] (0, 0) _ rfl (by (with_reducible repeat (first | refine blk_drewN ?_ _ | refine blk_drew ?_ | refine blk_alloc ?_ _)); refine blk_put (cs := #[.int .i64 t256, .int .i64 0]) ?_ 1 _ rfl; (with_reducible repeat (first | refine blk_drewN ?_ _ | refine blk_drew ?_ | refine blk_alloc ?_ _)); refine blk_put (cs := #[.int .i64 0, .int .i64 0]) ?_ 0 _ rfl; (with_reducible repeat (first | refine blk_drewN ?_ _ | refine blk_drew ?_ | refine blk_alloc ?_ _)); exact BK255.out) Try.underlying36 rfl (g0_)) rfl ?_
 exact ⟨g4_, impl_plus.calls_q0⟩
def impl_times.f (k : Nat) (a0_0 : Int) (a0_1 : Int) (a1_0 : Int) (a1_1 : Int) : Option (Int × Int × Bool) := (impl_lowest.f k (wrap64 (a0_0 * a1_0)) (wrap64 (a0_1 * a1_1))).bind fun bt262 => (some (bt262.1, bt262.2.1, bt262.2.2))
theorem impl_times.mq {p : Prop} (h : p := by
 repeat' first
 | (with_reducible exact impl_lowest.mono _ _ _)
 | (with_reducible exact LeO.refl _)
 | (with_reducible exact LeO.none _)
 | (with_reducible refine LeO.ite ?_ ?_)
 | (with_reducible refine LeO.bind ?_ (fun _ => ?_))
 | exact impl_lowest.mono _ _ _
 | exact LeO.none _
 | refine LeO.ite ?_ ?_
 | refine LeO.bind ?_ (fun _ => ?_)) : p := h
theorem impl_times.mono : ∀ a0 a1 a2 a3 k, LeO (impl_times.f k a0 a1 a2 a3) (impl_times.f (k + 1) a0 a1 a2 a3) := by
 intro a0 a1 a2 a3 k
 unfold impl_times.f
 exact impl_times.mq
theorem impl_times.calls_q0 {p : Prop} (h : p := by repeat (first | (with_reducible first | exact HB.out | apply below_alloc | apply pw_below_drewN | apply below_drew1 | refine below_set ?_ GE259.out | refine below_set ?_ GE260.out | refine below_set ?_ GE261.out) | exact HB.out)) : p := h
set_option maxHeartbeats 8000000 in
set_option maxRecDepth 100000 in
theorem impl_times.calls (k : Nat) (a0_0 : Int) (a0_1 : Int) (a1_0 : Int) (a1_1 : Int) (r1 : Int) (r2 : Int) (r3 : Bool) (w : World) (h : impl_times.f k a0_0 a0_1 a1_0 a1_1 = some (r1, r2, r3)) :
  Calls Try.prog 93 #[.agg #[.int .i64 a0_0, .int .i64 a0_1], .agg #[.int .i64 a1_0, .int .i64 a1_1]] w fun e w' => e = .returned (.tuple #[.agg #[.int .i64 r1, .int .i64 r2], .bool r3]) ∧ Below w.heap.size w w' := by
 have hu36 := Try.underlying36
 have HB := Aside0.mk (Below.refl w.heap.size w)
 have H : ((impl_lowest.f k (wrap64 (a0_0 * a1_0)) (wrap64 (a0_1 * a1_1))).bind fun bt262 => (some (bt262.1, bt262.2.1, bt262.2.2))) = some (r1, r2, r3) := h
 clear h
 replace H := Option.bind_eq_some_iff.mp H
 obtain ⟨⟨t262, t263, t264⟩, A30, H⟩ := H
 replace H : (some (t262, t263, t264)) = some (r1, r2, r3) := H
 have A3 := Aside0.mk A30
 clear A30
 simp only [Option.some.injEq, Prod.mk.injEq] at H
 obtain ⟨rfl, rfl, rfl⟩ := H
 go_enter Try.func93, Try.ntmps93
 go_wp2_with (first | ((with_reducible refine gate_dst (N := 2) rfl ?_); refine bx_ (N := 2) #[.int .i64 a0_0, .int .i64 a0_1] 36 ?_; intro gb259 hg w4 hbox hb; have BK259 := Aside0.mk (hbox); have GW259 := Aside0.mk ((g51_ : w.heap.size ≤ gb259)); have GE259 := Aside0.mk ((g51_ : w.heap.size ≤ gb259)); replace HB := Aside0.mk (below_step (impl_times.calls_q0) hb); clear hb hbox hg) | ((with_reducible refine gate_dst (N := 3) rfl ?_); refine bx_ (N := 3) #[.int .i64 a1_0, .int .i64 a1_1] 36 ?_; intro gb260 hg w5 hbox hb; have BK260 := Aside0.mk (hbox); have GW260 := Aside0.mk ((g51_ : w.heap.size ≤ gb260)); have GE260 := Aside0.mk ((g51_ : w.heap.size ≤ gb260)); replace HB := Aside0.mk (below_step (impl_times.calls_q0) hb); have NB259_260 := Aside0.mk ((by rw [hg]; exact Nat.ne_of_lt (blk_lt (g := gb259) (o := .cells #[.int .i64 a0_0, .int .i64 a0_1] 36 (0, 0)) (uf0_ BK259)) : gb259 ≠ gb260)); have NB260_259 := Aside0.mk ((by rw [hg]; exact Nat.ne_of_gt (blk_lt (g := gb259) (o := .cells #[.int .i64 a0_0, .int .i64 a0_1] 36 (0, 0)) (uf0_ BK259)) : gb260 ≠ gb259)); replace BK259 := bb_ BK259 hb; clear hb hbox hg) | ((with_reducible refine gate_dst (N := 4) rfl ?_); refine bx_ (N := 4) #[.int .i64 0, .int .i64 0] 36 ?_; intro gb261 hg w6 hbox hb; have BK261 := Aside0.mk (hbox); have GW261 := Aside0.mk ((g51_ : w.heap.size ≤ gb261)); have GE261 := Aside0.mk ((g51_ : w.heap.size ≤ gb261)); replace HB := Aside0.mk (below_step (impl_times.calls_q0) hb); have NB259_261 := Aside0.mk ((by rw [hg]; exact Nat.ne_of_lt (blk_lt (g := gb259) (o := .cells #[.int .i64 a0_0, .int .i64 a0_1] 36 (0, 0)) (uf0_ BK259)) : gb259 ≠ gb261)); have NB261_259 := Aside0.mk ((by rw [hg]; exact Nat.ne_of_gt (blk_lt (g := gb259) (o := .cells #[.int .i64 a0_0, .int .i64 a0_1] 36 (0, 0)) (uf0_ BK259)) : gb261 ≠ gb259)); replace BK259 := bb_ BK259 hb; have NB260_261 := Aside0.mk ((by rw [hg]; exact Nat.ne_of_lt (blk_lt (g := gb260) (o := .cells #[.int .i64 a1_0, .int .i64 a1_1] 36 (0, 0)) (uf0_ BK260)) : gb260 ≠ gb261)); have NB261_260 := Aside0.mk ((by rw [hg]; exact Nat.ne_of_gt (blk_lt (g := gb260) (o := .cells #[.int .i64 a1_0, .int .i64 a1_1] 36 (0, 0)) (uf0_ BK260)) : gb261 ≠ gb260)); replace BK260 := bb_ BK260 hb; clear hb hbox hg; have hnb7 := NB259_260.out; have hnc7 := NB260_259.out; have hnb8 := NB259_261.out; have hnc8 := NB261_259.out; obtain ⟨hcz9_0, hcz9_1, hfz9_0, hfz9_1⟩ := blk2_ BK259; have hnb10 := NB260_261.out; have hnc10 := NB261_260.out; obtain ⟨hcz11_0, hcz11_1, hfz11_0, hfz11_1⟩ := blk2_ BK260) | ((with_reducible refine gate_callee (f := 92) rfl ?_); refine goesL_ (some 16) rfl rfl Try.func92 k_ rfl #[.int .i64 (wrap64 (a0_0 * a1_0)), .int .i64 (wrap64 (a0_1 * a1_1))] rfl (g2_) ?_; (with_reducible refine (impl_lowest.calls k (wrap64 (a0_0 * a1_0)) (wrap64 (a0_1 * a1_1)) t262 t263 t264 _ A3.out).mono ?_); rintro e w12 ⟨rfl, hb⟩; refine ⟨_, rfl, ?_⟩; replace BK259 := bb_ BK259 hb; replace BK260 := bb_ BK260 hb; replace BK261 := bb_ BK261 hb; replace HB := Aside0.mk (below_step (impl_times.calls_q0) hb); (try clear hb); (try clear hk hi); obtain ⟨hcz13_0, hcz13_1, hfz13_0, hfz13_1⟩ := blk2_ BK261))
 refine bodyPost_ret (results_ct rfl _ _ gb261 36 #[.int .i64 t262, .int .i64 t263] (0, 0) _ rfl (by (with_reducible repeat (first | refine blk_drewN ?_ _ | refine blk_drew ?_ | refine blk_alloc ?_ _)); refine blk_put (cs := #[.int .i64 t262, .int .i64 0]) ?_ 1 _ rfl; (with_reducible repeat (first | refine blk_drewN ?_ _ | refine blk_drew ?_ | refine blk_alloc ?_ _)); refine blk_put (cs := #[.int .i64 0, .int .i64 0]) ?_ 0 _ rfl; (with_reducible repeat (first | refine blk_drewN ?_ _ | refine blk_drew ?_ | refine blk_alloc ?_ _)); exact BK261.out) Try.underlying36 rfl (g0_)) rfl ?_
 exact ⟨g4_, impl_times.calls_q0⟩
end Go.Proofs.Ytigpmfoagkhaeaa.PU
