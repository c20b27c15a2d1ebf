/- FnDeskOk: for every input the law holds. No condition. -/
import Derived.Test.YtfooakkhkehpiaaZFnDeskOk1
import Derived.Test.YtfooakkhkehpiaaZFnDeskOk2
import Derived.Test.YtfooakkhkehpiaaZFnDeskOk3
import Derived.Test.YtfooakkhkehpiaaZFnDeskOk4
import Derived.Test.YtfooakkhkehpiaaZFnDeskOk5
import Derived.SizedLaws
import Derived.ChangeSlices
import Derived.Test.YtfooakkhkehpiaaRows
import Derived.ProofKit
import Derived.OpenShut
import Derived.ShutString
import Derived.ChangeOld
namespace Go.Proofs.Ytfooakkhkehpiaa.PU
open Go.RowKit Go.Proofs.YtfooakkhkehpiaaW.PrintWords Go.Proofs.YtfooakkhkehpiaaW.PrintLast Go.Proofs.YtfooakkhkehpiaaW.PrintMore Go.Proofs.Ytfooakkhkehpiaa.Qd
attribute [local go_sem] max2_int min2_int max_two min_two max_three min_three max_four min_four
set_option linter.unusedVariables false
set_option linter.unusedSimpArgs false
def laws_FnDeskOk.f (k : Nat) (l0 : List Int) : Option (Bool) := if (l0.length : Int) > 1048576 then (some true) else ((spec_DrawDeskOk.f k l0).bind fun bt441 => ((impl_DeskOk.f k bt441.1 bt441.2.1 bt441.2.2).bind fun nn => ((spec_DeskOk.f k bt441.1 bt441.2.1 bt441.2.2).bind fun l6 => (if (nn != l6) = true then (some false) else (if nn = true then ((impl_DeskOk.f k bt441.1 bt441.2.1 ([] : List (S25))).bind fun ba8 => (if ba8 = true then ((impl_DeskOk.f k ([] : List Int) ([] : List (List Int)) ([] : List (S25))).bind fun ba9 => (if ba9 = true then (some false) else ((laws_alive.f k).bind fun bb0 => (some bb0)))) else (some false))) else ((impl_DeskOk.f k ([] : List Int) ([] : List (List Int)) ([] : List (S25))).bind fun bb1 => (if bb1 = true then (some false) else ((laws_alive.f k).bind fun bb2 => (some bb2)))))))))
theorem laws_FnDeskOk.mq {p : Prop} (h : p := by
 repeat' first
 | (with_reducible exact impl_DeskOk.mono _ _ _ _)
 | (with_reducible exact laws_alive.mono _)
 | (with_reducible exact spec_DeskOk.mono _ _ _ _)
 | (with_reducible exact spec_DrawDeskOk.mono _ _)
 | (with_reducible exact LeO.refl _)
 | (with_reducible exact LeO.none _)
 | (with_reducible refine LeO.ite ?_ ?_)
 | (with_reducible refine LeO.bind ?_ (fun _ => ?_))
 | exact impl_DeskOk.mono _ _ _ _
 | exact laws_alive.mono _
 | exact spec_DeskOk.mono _ _ _ _
 | exact spec_DrawDeskOk.mono _ _
 | exact LeO.none _
 | refine LeO.ite ?_ ?_
 | refine LeO.bind ?_ (fun _ => ?_)) : p := h
theorem laws_FnDeskOk.mono : ∀ a0 k, LeO (laws_FnDeskOk.f k a0) (laws_FnDeskOk.f (k + 1) a0) := by
 intro a0 k
 unfold laws_FnDeskOk.f
 exact laws_FnDeskOk.mq
theorem dn {p : Prop} (h : p := by repeat (first | (with_reducible first | exact HB.out | apply below_alloc | apply pw_below_drewN | apply below_drew1 | refine below_set ?_ an3.out) | exact HB.out)) : p := h
set_option maxHeartbeats 8000000 in
set_option maxRecDepth 100000 in
theorem laws_FnDeskOk.calls (k : Nat) (A0 : Option Addr) (c0 : Nat) (l0 : List Int) (r : Bool) (w : World) (e8 : Kd.C (Kd.int .u8) w A0 l0.length l0) (go : l0.length ≤ c0) (h : laws_FnDeskOk.f k l0 = some r) :
  Calls Try.prog 6 #[.slice A0 l0.length c0] w fun e w' => e = .returned (.bool r) ∧ Below w.heap.size w w' := by
 have hu28 := Try.underlying28
 have hu25 := Try.underlying25
 have jw := Aside0.mk e8
 have ll := Aside0.mk go
 clear e8 go
 have HB := Aside0.mk (Below.refl w.heap.size w)
 have H : (if (l0.length : Int) > 1048576 then (some true) else ((spec_DrawDeskOk.f k l0).bind fun bt441 => ((impl_DeskOk.f k bt441.1 bt441.2.1 bt441.2.2).bind fun nn => ((spec_DeskOk.f k bt441.1 bt441.2.1 bt441.2.2).bind fun l6 => (if (nn != l6) = true then (some false) else (if nn = true then ((impl_DeskOk.f k bt441.1 bt441.2.1 ([] : List (S25))).bind fun ba8 => (if ba8 = true then ((impl_DeskOk.f k ([] : List Int) ([] : List (List Int)) ([] : List (S25))).bind fun ba9 => (if ba9 = true then (some false) else ((laws_alive.f k).bind fun bb0 => (some bb0)))) else (some false))) else ((impl_DeskOk.f k ([] : List Int) ([] : List (List Int)) ([] : List (S25))).bind fun bb1 => (if bb1 = true then (some false) else ((laws_alive.f k).bind fun bb2 => (some bb2)))))))))) = some r := h
 clear h
 by_cases c2 : (l0.length : Int) > 1048576
 ·rw [if_pos c2] at H
  have aq1 := decide_eq_true c2
  have bv9 : decide (1048576 < l0.length) = true := decide_eq_true (by omega)
  clear c2
  obtain rfl := Option.some.inj H
  go_enter Try.func6, Try.ntmps6
  go_wp2
  go_ret
  exact ⟨g4_, dn⟩
 ·rw [if_neg c2] at H
  have aq1 := decide_eq_false c2
  have bv9 : decide (1048576 < l0.length) = false := decide_eq_false (by omega)
  clear c2
  replace H := Option.bind_eq_some_iff.mp H
  obtain ⟨⟨bd, bv, ch⟩, mj, H⟩ := H
  try dsimp only at H
  have A3 := Aside0.mk mj
  clear mj
  obtain ⟨nn, A4, H⟩ := bind_ H
  obtain ⟨l6, A5, H⟩ := bind_ H
  by_cases c6 : (nn != l6) = true
  ·rw [if_pos c6] at H
   have k9 : (nn != l6) = true := c6
   (try (have ag2 : decide (nn = l6) = false := by simpa using c6))
   (try (have fm5 : (nn == l6) = false := by simpa using c6))
   (try (have hv4 : ¬ (nn = l6) := by simpa using c6))
   clear c6
   obtain rfl := Option.some.inj H
   go_enter Try.func6, Try.ntmps6
   go_wp2_with (first | ((with_reducible refine gate_callee (f := 30) rfl ?_); refine goesL_ (some 9) rfl rfl Try.func30 k_ rfl #[.slice A0 l0.length c0] rfl (g2_) ?_; (with_reducible refine (spec_DrawDeskOk.calls k _ _ l0 bd bv ch _ ?side1 ?side2 A3.out).mono ?_); (case side1 => repeat (first | exact jw.out | (with_reducible refine Kd.C_alloc ?_ _) | (with_reducible refine Kd.C_drewN ?_ _) | (with_reducible refine Kd.C_drew ?_))); (case side2 => exact ll.out); rintro e w7 ⟨bb3, bb4, bb5, rfl, am, ba, d3, hb⟩; refine ⟨_, rfl, ?_⟩; have bq := Aside0.mk (Kd.R_lower am (below_size (dn))); have br := Aside0.mk (Kd.S_lower ba (below_size (dn))); have bw := Aside0.mk (Kd.Q_lower d3 (below_size (dn))); replace HB := Aside0.mk (below_step (dn) hb); (try clear hb); (try clear hk hi); (try clear am); (try clear ba); (try clear d3)) | ((with_reducible refine gate_dst (N := 3) rfl ?_); refine bx_ (N := 3) #[.slice none 0 0, .slice none 0 0, .slice none 0 0] 28 ?_; intro aq hg w8 hbox hb; replace bq := Aside0.mk (Kd.R_below (uf2_ bq) hb); replace br := Aside0.mk (Kd.S_below (uf3_ br) hb); replace bw := Aside0.mk (Kd.Q_below (uf6_ bw) hb); have bm := Aside0.mk (hbox); have bb6 := Aside0.mk ((g13_ : w.heap.size ≤ aq)); have an3 := Aside0.mk ((g13_ : w.heap.size ≤ aq)); replace HB := Aside0.mk (below_step (dn) hb); clear hb hbox hg; obtain ⟨fp, fl, eo9⟩ := Kd.R_slice bq.out; subst eo9; obtain ⟨tn, tp, hv5, tq, tr, hv6⟩ := blk3_ bm; obtain ⟨mm, lv, ay9⟩ := Kd.S_slice br.out; subst ay9; obtain ⟨ws, ui, fm6, _⟩ := Kd.Q_slice bw.out; subst fm6) | ((with_reducible refine gate_callee (f := 24) rfl ?_); refine goesL_ (some 11) rfl rfl Try.func24 k_ rfl #[.agg #[.slice fp bd.length fl, .slice mm bv.length lv, .slice ws ch.length ui]] rfl (g2_) ?_; (with_reducible refine (impl_DeskOk.calls k _ _ bd _ _ bv _ _ ch nn _ ?side1 ?side2 ?side3 ?side4 ?side5 ?side6 A4.out).mono ?_); (case side1 => refine (Kd.R_reads' (e := 3) (base := w.heap.size) (ok := fun k_ => True) (n := bd.length) (c := fl) ?_).2.2; exact (by (with_reducible repeat (first | apply Kd.R_alloc | apply Kd.R_drewN | apply Kd.R_drew)); exact (Kd.R_mono (Kd.R_far (p := ⟨aq, 2, none⟩) (Kd.R_far (p := ⟨aq, 1, none⟩) (Kd.R_far (p := ⟨aq, 0, none⟩) (Kd.R_types bq.out bm.out (by decide)) (fun _ hk => hk.2) (.slice fp bd.length fl)) (fun _ hk => hk.2) (.slice mm bv.length lv)) (fun _ hk => hk.2) (.slice ws ch.length ui)) (fun _ h_ => h_.1)))); (case side2 => exact (Kd.R_reads' bq.out).2.1); (case side3 => refine (Kd.S_reads' (e := 22) (base := w.heap.size) (ok := fun k_ => some k_ ≠ (.slice fp bd.length fl : Value).ownBlock) (n := bv.length) (c := lv) ?_).2.2; exact (by (with_reducible repeat (first | apply Kd.S_alloc | apply Kd.S_drewN | apply Kd.S_drew)); exact (Kd.S_mono (Kd.S_far (p := ⟨aq, 2, none⟩) (Kd.S_far (p := ⟨aq, 1, none⟩) (Kd.S_far (p := ⟨aq, 0, none⟩) (Kd.S_types br.out bm.out (by decide)) (fun _ hk => hk.2) (.slice fp bd.length fl)) (fun _ hk => hk.2) (.slice mm bv.length lv)) (fun _ hk => hk.2) (.slice ws ch.length ui)) (fun _ h_ => h_.1)))); (case side4 => exact (Kd.S_reads' br.out).2.1); (case side5 => refine (Kd.Q_reads' (e := 25) (base := w.heap.size) (ok := fun k_ => (some k_ ≠ (.slice fp bd.length fl : Value).ownBlock ∧ some k_ ≠ (.slice mm bv.length lv : Value).ownBlock)) (n := ch.length) (c := ui) ?_).2.2; exact (by (with_reducible repeat (first | apply Kd.Q_alloc | apply Kd.Q_drewN | apply Kd.Q_drew)); exact (Kd.Q_mono (Kd.Q_far (p := ⟨aq, 2, none⟩) (Kd.Q_far (p := ⟨aq, 1, none⟩) (Kd.Q_far (p := ⟨aq, 0, none⟩) (Kd.Q_types bw.out bm.out (by decide)) (fun _ hk => hk.2) (.slice fp bd.length fl)) (fun _ hk => hk.2) (.slice mm bv.length lv)) (fun _ hk => hk.2) (.slice ws ch.length ui)) (fun _ h_ => h_.1)))); (case side6 => exact (Kd.Q_reads' bw.out).2.1); rintro e w13 ⟨rfl, hb⟩; refine ⟨_, rfl, ?_⟩; replace bq := Aside0.mk (Kd.R_below (by (with_reducible repeat (first | apply Kd.R_alloc | apply Kd.R_drewN | apply Kd.R_drew)); exact (Kd.R_mono (Kd.R_far (p := ⟨aq, 2, none⟩) (Kd.R_far (p := ⟨aq, 1, none⟩) (Kd.R_far (p := ⟨aq, 0, none⟩) (Kd.R_types bq.out bm.out (by decide)) (fun _ hk => hk.2) (.slice fp bd.length fl)) (fun _ hk => hk.2) (.slice mm bv.length lv)) (fun _ hk => hk.2) (.slice ws ch.length ui)) (fun _ h_ => h_.1))) hb); replace br := Aside0.mk (Kd.S_below (by (with_reducible repeat (first | apply Kd.S_alloc | apply Kd.S_drewN | apply Kd.S_drew)); exact (Kd.S_mono (Kd.S_far (p := ⟨aq, 2, none⟩) (Kd.S_far (p := ⟨aq, 1, none⟩) (Kd.S_far (p := ⟨aq, 0, none⟩) (Kd.S_types br.out bm.out (by decide)) (fun _ hk => hk.2) (.slice fp bd.length fl)) (fun _ hk => hk.2) (.slice mm bv.length lv)) (fun _ hk => hk.2) (.slice ws ch.length ui)) (fun _ h_ => h_.1))) hb); replace bw := Aside0.mk (Kd.Q_below (by (with_reducible repeat (first | apply Kd.Q_alloc | apply Kd.Q_drewN | apply Kd.Q_drew)); exact (Kd.Q_mono (Kd.Q_far (p := ⟨aq, 2, none⟩) (Kd.Q_far (p := ⟨aq, 1, none⟩) (Kd.Q_far (p := ⟨aq, 0, none⟩) (Kd.Q_types bw.out bm.out (by decide)) (fun _ hk => hk.2) (.slice fp bd.length fl)) (fun _ hk => hk.2) (.slice mm bv.length lv)) (fun _ hk => hk.2) (.slice ws ch.length ui)) (fun _ h_ => h_.1))) hb); replace bm := Aside0.mk (blk_below (g := aq) (o := .cells #[.slice fp bd.length fl, .slice mm bv.length lv, .slice ws ch.length ui] 28 (0, 0)) (by (with_reducible repeat (first | refine blk_drewN ?_ _ | refine blk_drew ?_ | refine blk_alloc ?_ _)); refine blk_put (cs := #[.slice fp bd.length fl, .slice mm bv.length lv, .slice none 0 0]) ?_ 2 _ rfl; refine blk_put (cs := #[.slice fp bd.length fl, .slice none 0 0, .slice none 0 0]) ?_ 1 _ rfl; refine blk_put (cs := #[.slice none 0 0, .slice none 0 0, .slice none 0 0]) ?_ 0 _ rfl; exact uf0_ bm) hb); replace HB := Aside0.mk (below_step (dn) hb); (try clear hb); (try clear hk hi); obtain ⟨ah4, ah5, be3, ah6, ah7, be4⟩ := blk3_ bm) | ((with_reducible refine gate_callee (f := 28) rfl ?_); refine goesL_ (some 14) rfl rfl Try.func28 k_ rfl #[.agg #[.slice fp bd.length fl, .slice mm bv.length lv, .slice ws ch.length ui]] rfl (g2_) ?_; (with_reducible refine (spec_DeskOk.calls k _ _ bd _ _ bv _ _ ch l6 _ ?side1 ?side2 ?side3 ?side4 ?side5 ?side6 A5.out).mono ?_); (case side1 => repeat (first | exact (Kd.R_reads' bq.out).2.2 | (with_reducible refine Kd.C_alloc ?_ _) | (with_reducible refine Kd.C_drewN ?_ _) | (with_reducible refine Kd.C_drew ?_))); (case side2 => exact (Kd.R_reads' bq.out).2.1); (case side3 => repeat (first | exact (Kd.S_reads' br.out).2.2 | (with_reducible refine Kd.C_alloc ?_ _) | (with_reducible refine Kd.C_drewN ?_ _) | (with_reducible refine Kd.C_drew ?_))); (case side4 => exact (Kd.S_reads' br.out).2.1); (case side5 => repeat (first | exact (Kd.Q_reads' bw.out).2.2 | (with_reducible refine Kd.C_alloc ?_ _) | (with_reducible refine Kd.C_drewN ?_ _) | (with_reducible refine Kd.C_drew ?_))); (case side6 => exact (Kd.Q_reads' bw.out).2.1); rintro e w15 ⟨rfl, hb⟩; refine ⟨_, rfl, ?_⟩; replace bq := Aside0.mk (Kd.R_below (uf2_ bq) hb); replace br := Aside0.mk (Kd.S_below (uf3_ br) hb); replace bw := Aside0.mk (Kd.Q_below (uf6_ bw) hb); replace bm := bb_ bm hb; replace HB := Aside0.mk (below_step (dn) hb); (try clear hb); (try clear hk hi)))
   go_ret
   exact ⟨g4_, dn⟩
  ·rw [if_neg c6] at H
   have k9 : (nn != l6) = false := by simpa using c6
   (try (have ag2 : decide (nn = l6) = true := by simpa using c6))
   (try (have fm5 : (nn == l6) = true := by simpa using c6))
   clear c6
   by_cases f7 : nn = true
   ·subst f7
    replace H := ifp_ H
    obtain ⟨ba8, A17, H⟩ := bind_ H
    by_cases fu : ba8 = true
    ·subst fu
     replace H := ifp_ H
     obtain ⟨ba9, A19, H⟩ := bind_ H
     by_cases ir : ba9 = true
     ·subst ir
      replace H := ifp_ H
      obtain rfl := Option.some.inj H
      go_enter Try.func6, Try.ntmps6
      have MK24_4 := True.intro
      go_wp2_with (first | ((with_reducible refine gate_callee (f := 30) rfl ?_); refine goesL_ (some 9) rfl rfl Try.func30 k_ rfl #[.slice A0 l0.length c0] rfl (g2_) ?_; (with_reducible refine (spec_DrawDeskOk.calls k _ _ l0 bd bv ch _ ?side1 ?side2 A3.out).mono ?_); (case side1 => repeat (first | exact jw.out | (with_reducible refine Kd.C_alloc ?_ _) | (with_reducible refine Kd.C_drewN ?_ _) | (with_reducible refine Kd.C_drew ?_))); (case side2 => exact ll.out); rintro e f9 ⟨bb3, bb4, bb5, rfl, am, ba, d3, hb⟩; refine ⟨_, rfl, ?_⟩; have bq := Aside0.mk (Kd.R_lower am (below_size (dn))); have br := Aside0.mk (Kd.S_lower ba (below_size (dn))); have bw := Aside0.mk (Kd.Q_lower d3 (below_size (dn))); replace HB := Aside0.mk (below_step (dn) hb); (try clear hb); (try clear hk hi); (try clear am); (try clear ba); (try clear d3)) | ((with_reducible refine gate_dst (N := 3) rfl ?_); refine bx_ (N := 3) #[.slice none 0 0, .slice none 0 0, .slice none 0 0] 28 ?_; intro aq hg qp hbox hb; replace bq := Aside0.mk (Kd.R_below (uf2_ bq) hb); replace br := Aside0.mk (Kd.S_below (uf3_ br) hb); replace bw := Aside0.mk (Kd.Q_below (uf6_ bw) hb); have bm := Aside0.mk (hbox); have bb6 := Aside0.mk ((g13_ : w.heap.size ≤ aq)); have an3 := Aside0.mk ((g13_ : w.heap.size ≤ aq)); replace HB := Aside0.mk (below_step (dn) hb); clear hb hbox hg; obtain ⟨ei, cn, ad7⟩ := Kd.R_slice bq.out; subst ad7; obtain ⟨eq5, eq6, hv7, eq7, eq8, hv8⟩ := blk3_ bm; obtain ⟨lh, k7, yb⟩ := Kd.S_slice br.out; subst yb; obtain ⟨i6, iq, u4, _⟩ := Kd.Q_slice bw.out; subst u4) | ((with_reducible refine gate_callee (f := 24) rfl ?_); refine goesL_ (some 11) rfl rfl Try.func24 k_ rfl #[.agg #[.slice ei bd.length cn, .slice lh bv.length k7, .slice i6 ch.length iq]] rfl (g2_) ?_; (with_reducible refine (impl_DeskOk.calls k _ _ bd _ _ bv _ _ ch true _ ?side1 ?side2 ?side3 ?side4 ?side5 ?side6 A4.out).mono ?_); (case side1 => refine (Kd.R_reads' (e := 3) (base := w.heap.size) (ok := fun k_ => True) (n := bd.length) (c := cn) ?_).2.2; exact (by (with_reducible repeat (first | apply Kd.R_alloc | apply Kd.R_drewN | apply Kd.R_drew)); exact (Kd.R_mono (Kd.R_far (p := ⟨aq, 2, none⟩) (Kd.R_far (p := ⟨aq, 1, none⟩) (Kd.R_far (p := ⟨aq, 0, none⟩) (Kd.R_types bq.out bm.out (by decide)) (fun _ hk => hk.2) (.slice ei bd.length cn)) (fun _ hk => hk.2) (.slice lh bv.length k7)) (fun _ hk => hk.2) (.slice i6 ch.length iq)) (fun _ h_ => h_.1)))); (case side2 => exact (Kd.R_reads' bq.out).2.1); (case side3 => refine (Kd.S_reads' (e := 22) (base := w.heap.size) (ok := fun k_ => some k_ ≠ (.slice ei bd.length cn : Value).ownBlock) (n := bv.length) (c := k7) ?_).2.2; exact (by (with_reducible repeat (first | apply Kd.S_alloc | apply Kd.S_drewN | apply Kd.S_drew)); exact (Kd.S_mono (Kd.S_far (p := ⟨aq, 2, none⟩) (Kd.S_far (p := ⟨aq, 1, none⟩) (Kd.S_far (p := ⟨aq, 0, none⟩) (Kd.S_types br.out bm.out (by decide)) (fun _ hk => hk.2) (.slice ei bd.length cn)) (fun _ hk => hk.2) (.slice lh bv.length k7)) (fun _ hk => hk.2) (.slice i6 ch.length iq)) (fun _ h_ => h_.1)))); (case side4 => exact (Kd.S_reads' br.out).2.1); (case side5 => refine (Kd.Q_reads' (e := 25) (base := w.heap.size) (ok := fun k_ => (some k_ ≠ (.slice ei bd.length cn : Value).ownBlock ∧ some k_ ≠ (.slice lh bv.length k7 : Value).ownBlock)) (n := ch.length) (c := iq) ?_).2.2; exact (by (with_reducible repeat (first | apply Kd.Q_alloc | apply Kd.Q_drewN | apply Kd.Q_drew)); exact (Kd.Q_mono (Kd.Q_far (p := ⟨aq, 2, none⟩) (Kd.Q_far (p := ⟨aq, 1, none⟩) (Kd.Q_far (p := ⟨aq, 0, none⟩) (Kd.Q_types bw.out bm.out (by decide)) (fun _ hk => hk.2) (.slice ei bd.length cn)) (fun _ hk => hk.2) (.slice lh bv.length k7)) (fun _ hk => hk.2) (.slice i6 ch.length iq)) (fun _ h_ => h_.1)))); (case side6 => exact (Kd.Q_reads' bw.out).2.1); rintro e w27 ⟨rfl, hb⟩; refine ⟨_, rfl, ?_⟩; replace bq := Aside0.mk (Kd.R_below (by (with_reducible repeat (first | apply Kd.R_alloc | apply Kd.R_drewN | apply Kd.R_drew)); exact (Kd.R_mono (Kd.R_far (p := ⟨aq, 2, none⟩) (Kd.R_far (p := ⟨aq, 1, none⟩) (Kd.R_far (p := ⟨aq, 0, none⟩) (Kd.R_types bq.out bm.out (by decide)) (fun _ hk => hk.2) (.slice ei bd.length cn)) (fun _ hk => hk.2) (.slice lh bv.length k7)) (fun _ hk => hk.2) (.slice i6 ch.length iq)) (fun _ h_ => h_.1))) hb); replace br := Aside0.mk (Kd.S_below (by (with_reducible repeat (first | apply Kd.S_alloc | apply Kd.S_drewN | apply Kd.S_drew)); exact (Kd.S_mono (Kd.S_far (p := ⟨aq, 2, none⟩) (Kd.S_far (p := ⟨aq, 1, none⟩) (Kd.S_far (p := ⟨aq, 0, none⟩) (Kd.S_types br.out bm.out (by decide)) (fun _ hk => hk.2) (.slice ei bd.length cn)) (fun _ hk => hk.2) (.slice lh bv.length k7)) (fun _ hk => hk.2) (.slice i6 ch.length iq)) (fun _ h_ => h_.1))) hb); replace bw := Aside0.mk (Kd.Q_below (by (with_reducible repeat (first | apply Kd.Q_alloc | apply Kd.Q_drewN | apply Kd.Q_drew)); exact (Kd.Q_mono (Kd.Q_far (p := ⟨aq, 2, none⟩) (Kd.Q_far (p := ⟨aq, 1, none⟩) (Kd.Q_far (p := ⟨aq, 0, none⟩) (Kd.Q_types bw.out bm.out (by decide)) (fun _ hk => hk.2) (.slice ei bd.length cn)) (fun _ hk => hk.2) (.slice lh bv.length k7)) (fun _ hk => hk.2) (.slice i6 ch.length iq)) (fun _ h_ => h_.1))) hb); replace bm := Aside0.mk (blk_below (g := aq) (o := .cells #[.slice ei bd.length cn, .slice lh bv.length k7, .slice i6 ch.length iq] 28 (0, 0)) (by (with_reducible repeat (first | refine blk_drewN ?_ _ | refine blk_drew ?_ | refine blk_alloc ?_ _)); refine blk_put (cs := #[.slice ei bd.length cn, .slice lh bv.length k7, .slice none 0 0]) ?_ 2 _ rfl; refine blk_put (cs := #[.slice ei bd.length cn, .slice none 0 0, .slice none 0 0]) ?_ 1 _ rfl; refine blk_put (cs := #[.slice none 0 0, .slice none 0 0, .slice none 0 0]) ?_ 0 _ rfl; exact uf0_ bm) hb); replace HB := Aside0.mk (below_step (dn) hb); (try clear hb); (try clear hk hi); obtain ⟨bt7, bt8, dm1, bt9, bu0, dm2⟩ := blk3_ bm) | ((with_reducible refine gate_callee (f := 28) rfl ?_); refine goesL_ (some 14) rfl rfl Try.func28 k_ rfl #[.agg #[.slice ei bd.length cn, .slice lh bv.length k7, .slice i6 ch.length iq]] rfl (g2_) ?_; (with_reducible refine (spec_DeskOk.calls k _ _ bd _ _ bv _ _ ch l6 _ ?side1 ?side2 ?side3 ?side4 ?side5 ?side6 A5.out).mono ?_); (case side1 => repeat (first | exact (Kd.R_reads' bq.out).2.2 | (with_reducible refine Kd.C_alloc ?_ _) | (with_reducible refine Kd.C_drewN ?_ _) | (with_reducible refine Kd.C_drew ?_))); (case side2 => exact (Kd.R_reads' bq.out).2.1); (case side3 => repeat (first | exact (Kd.S_reads' br.out).2.2 | (with_reducible refine Kd.C_alloc ?_ _) | (with_reducible refine Kd.C_drewN ?_ _) | (with_reducible refine Kd.C_drew ?_))); (case side4 => exact (Kd.S_reads' br.out).2.1); (case side5 => repeat (first | exact (Kd.Q_reads' bw.out).2.2 | (with_reducible refine Kd.C_alloc ?_ _) | (with_reducible refine Kd.C_drewN ?_ _) | (with_reducible refine Kd.C_drew ?_))); (case side6 => exact (Kd.Q_reads' bw.out).2.1); rintro e w29 ⟨rfl, hb⟩; refine ⟨_, rfl, ?_⟩; replace bq := Aside0.mk (Kd.R_below (uf2_ bq) hb); replace br := Aside0.mk (Kd.S_below (uf3_ br) hb); replace bw := Aside0.mk (Kd.Q_below (uf6_ bw) hb); replace bm := bb_ bm hb; replace HB := Aside0.mk (below_step (dn) hb); (try clear hb); (try clear hk hi); obtain ⟨ag9, ah0, bh2, ah1, ah2, bh3⟩ := blk3_ bm) | (clear MK24_4; go_at_call 24; (refine (impl_DeskOk.calls k _ _ bd _ _ bv _ _ ([] : List (S25)) true _ ?side1 ?side2 ?side3 ?side4 ?side5 ?side6 A17.out).mono ?_); (case side1 => repeat (first | exact (Kd.R_reads' bq.out).2.2 | (with_reducible refine Kd.C_alloc ?_ _) | (with_reducible refine Kd.C_drewN ?_ _) | (with_reducible refine Kd.C_drew ?_))); (case side2 => exact (Kd.R_reads' bq.out).2.1); (case side3 => repeat (first | exact (Kd.S_reads' br.out).2.2 | (with_reducible refine Kd.C_alloc ?_ _) | (with_reducible refine Kd.C_drewN ?_ _) | (with_reducible refine Kd.C_drew ?_))); (case side4 => exact (Kd.S_reads' br.out).2.1); (case side5 => exact Kd.C_nil _ _); (case side6 => exact Nat.le_refl _); rintro e w31 ⟨rfl, hb⟩; replace bq := Aside0.mk (Kd.R_below (uf2_ bq) hb); replace br := Aside0.mk (Kd.S_below (uf3_ br) hb); replace bw := Aside0.mk (Kd.Q_below (uf6_ bw) hb); replace bm := bb_ bm hb; replace HB := Aside0.mk (below_step (dn) hb); (try clear hb); (try clear hk hi)) | (go_at_call 24; (refine (impl_DeskOk.calls k _ _ ([] : List Int) _ _ ([] : List (List Int)) _ _ ([] : List (S25)) true _ ?side1 ?side2 ?side3 ?side4 ?side5 ?side6 A19.out).mono ?_); (case side1 => exact Kd.C_nil _ _); (case side2 => exact Nat.le_refl _); (case side3 => exact Kd.C_nil _ _); (case side4 => exact Nat.le_refl _); (case side5 => exact Kd.C_nil _ _); (case side6 => exact Nat.le_refl _); rintro e w32 ⟨rfl, hb⟩; replace bq := Aside0.mk (Kd.R_below (uf2_ bq) hb); replace br := Aside0.mk (Kd.S_below (uf3_ br) hb); replace bw := Aside0.mk (Kd.Q_below (uf6_ bw) hb); replace bm := bb_ bm hb; replace HB := Aside0.mk (below_step (dn) hb); (try clear hb); (try clear hk hi)))
      go_ret
      exact ⟨g4_, dn⟩
     ·replace ir := Bool.eq_false_iff.mpr ir
      subst ir
      replace H := ifn_ H
      obtain ⟨bb0, A33, H⟩ := bind_ H
      obtain rfl := Option.some.inj H
      go_enter Try.func6, Try.ntmps6
      have MK24_4 := True.intro
      go_wp2_with (first | ((with_reducible refine gate_callee (f := 30) rfl ?_); refine goesL_ (some 9) rfl rfl Try.func30 k_ rfl #[.slice A0 l0.length c0] rfl (g2_) ?_; (with_reducible refine (spec_DrawDeskOk.calls k _ _ l0 bd bv ch _ ?side1 ?side2 A3.out).mono ?_); (case side1 => repeat (first | exact jw.out | (with_reducible refine Kd.C_alloc ?_ _) | (with_reducible refine Kd.C_drewN ?_ _) | (with_reducible refine Kd.C_drew ?_))); (case side2 => exact ll.out); rintro e w34 ⟨bb3, bb4, bb5, rfl, am, ba, d3, hb⟩; refine ⟨_, rfl, ?_⟩; have bq := Aside0.mk (Kd.R_lower am (below_size (dn))); have br := Aside0.mk (Kd.S_lower ba (below_size (dn))); have bw := Aside0.mk (Kd.Q_lower d3 (below_size (dn))); replace HB := Aside0.mk (below_step (dn) hb); (try clear hb); (try clear hk hi); (try clear am); (try clear ba); (try clear d3)) | ((with_reducible refine gate_dst (N := 3) rfl ?_); refine bx_ (N := 3) #[.slice none 0 0, .slice none 0 0, .slice none 0 0] 28 ?_; intro aq hg w35 hbox hb; replace bq := Aside0.mk (Kd.R_below (uf2_ bq) hb); replace br := Aside0.mk (Kd.S_below (uf3_ br) hb); replace bw := Aside0.mk (Kd.Q_below (uf6_ bw) hb); have bm := Aside0.mk (hbox); have bb6 := Aside0.mk ((g13_ : w.heap.size ≤ aq)); have an3 := Aside0.mk ((g13_ : w.heap.size ≤ aq)); replace HB := Aside0.mk (below_step (dn) hb); clear hb hbox hg; obtain ⟨hz, gz, aq9⟩ := Kd.R_slice bq.out; subst aq9; obtain ⟨cz2, cz3, hv9, cz4, cz5, hw1⟩ := blk3_ bm; obtain ⟨pi, k8, ai8⟩ := Kd.S_slice br.out; subst ai8; obtain ⟨fm, fi, yz, _⟩ := Kd.Q_slice bw.out; subst yz) | ((with_reducible refine gate_callee (f := 24) rfl ?_); refine goesL_ (some 11) rfl rfl Try.func24 k_ rfl #[.agg #[.slice hz bd.length gz, .slice pi bv.length k8, .slice fm ch.length fi]] rfl (g2_) ?_; (with_reducible refine (impl_DeskOk.calls k _ _ bd _ _ bv _ _ ch true _ ?side1 ?side2 ?side3 ?side4 ?side5 ?side6 A4.out).mono ?_); (case side1 => refine (Kd.R_reads' (e := 3) (base := w.heap.size) (ok := fun k_ => True) (n := bd.length) (c := gz) ?_).2.2; exact (by (with_reducible repeat (first | apply Kd.R_alloc | apply Kd.R_drewN | apply Kd.R_drew)); exact (Kd.R_mono (Kd.R_far (p := ⟨aq, 2, none⟩) (Kd.R_far (p := ⟨aq, 1, none⟩) (Kd.R_far (p := ⟨aq, 0, none⟩) (Kd.R_types bq.out bm.out (by decide)) (fun _ hk => hk.2) (.slice hz bd.length gz)) (fun _ hk => hk.2) (.slice pi bv.length k8)) (fun _ hk => hk.2) (.slice fm ch.length fi)) (fun _ h_ => h_.1)))); (case side2 => exact (Kd.R_reads' bq.out).2.1); (case side3 => refine (Kd.S_reads' (e := 22) (base := w.heap.size) (ok := fun k_ => some k_ ≠ (.slice hz bd.length gz : Value).ownBlock) (n := bv.length) (c := k8) ?_).2.2; exact (by (with_reducible repeat (first | apply Kd.S_alloc | apply Kd.S_drewN | apply Kd.S_drew)); exact (Kd.S_mono (Kd.S_far (p := ⟨aq, 2, none⟩) (Kd.S_far (p := ⟨aq, 1, none⟩) (Kd.S_far (p := ⟨aq, 0, none⟩) (Kd.S_types br.out bm.out (by decide)) (fun _ hk => hk.2) (.slice hz bd.length gz)) (fun _ hk => hk.2) (.slice pi bv.length k8)) (fun _ hk => hk.2) (.slice fm ch.length fi)) (fun _ h_ => h_.1)))); (case side4 => exact (Kd.S_reads' br.out).2.1); (case side5 => refine (Kd.Q_reads' (e := 25) (base := w.heap.size) (ok := fun k_ => (some k_ ≠ (.slice hz bd.length gz : Value).ownBlock ∧ some k_ ≠ (.slice pi bv.length k8 : Value).ownBlock)) (n := ch.length) (c := fi) ?_).2.2; exact (by (with_reducible repeat (first | apply Kd.Q_alloc | apply Kd.Q_drewN | apply Kd.Q_drew)); exact (Kd.Q_mono (Kd.Q_far (p := ⟨aq, 2, none⟩) (Kd.Q_far (p := ⟨aq, 1, none⟩) (Kd.Q_far (p := ⟨aq, 0, none⟩) (Kd.Q_types bw.out bm.out (by decide)) (fun _ hk => hk.2) (.slice hz bd.length gz)) (fun _ hk => hk.2) (.slice pi bv.length k8)) (fun _ hk => hk.2) (.slice fm ch.length fi)) (fun _ h_ => h_.1)))); (case side6 => exact (Kd.Q_reads' bw.out).2.1); rintro e w40 ⟨rfl, hb⟩; refine ⟨_, rfl, ?_⟩; replace bq := Aside0.mk (Kd.R_below (by (with_reducible repeat (first | apply Kd.R_alloc | apply Kd.R_drewN | apply Kd.R_drew)); exact (Kd.R_mono (Kd.R_far (p := ⟨aq, 2, none⟩) (Kd.R_far (p := ⟨aq, 1, none⟩) (Kd.R_far (p := ⟨aq, 0, none⟩) (Kd.R_types bq.out bm.out (by decide)) (fun _ hk => hk.2) (.slice hz bd.length gz)) (fun _ hk => hk.2) (.slice pi bv.length k8)) (fun _ hk => hk.2) (.slice fm ch.length fi)) (fun _ h_ => h_.1))) hb); replace br := Aside0.mk (Kd.S_below (by (with_reducible repeat (first | apply Kd.S_alloc | apply Kd.S_drewN | apply Kd.S_drew)); exact (Kd.S_mono (Kd.S_far (p := ⟨aq, 2, none⟩) (Kd.S_far (p := ⟨aq, 1, none⟩) (Kd.S_far (p := ⟨aq, 0, none⟩) (Kd.S_types br.out bm.out (by decide)) (fun _ hk => hk.2) (.slice hz bd.length gz)) (fun _ hk => hk.2) (.slice pi bv.length k8)) (fun _ hk => hk.2) (.slice fm ch.length fi)) (fun _ h_ => h_.1))) hb); replace bw := Aside0.mk (Kd.Q_below (by (with_reducible repeat (first | apply Kd.Q_alloc | apply Kd.Q_drewN | apply Kd.Q_drew)); exact (Kd.Q_mono (Kd.Q_far (p := ⟨aq, 2, none⟩) (Kd.Q_far (p := ⟨aq, 1, none⟩) (Kd.Q_far (p := ⟨aq, 0, none⟩) (Kd.Q_types bw.out bm.out (by decide)) (fun _ hk => hk.2) (.slice hz bd.length gz)) (fun _ hk => hk.2) (.slice pi bv.length k8)) (fun _ hk => hk.2) (.slice fm ch.length fi)) (fun _ h_ => h_.1))) hb); replace bm := Aside0.mk (blk_below (g := aq) (o := .cells #[.slice hz bd.length gz, .slice pi bv.length k8, .slice fm ch.length fi] 28 (0, 0)) (by (with_reducible repeat (first | refine blk_drewN ?_ _ | refine blk_drew ?_ | refine blk_alloc ?_ _)); refine blk_put (cs := #[.slice hz bd.length gz, .slice pi bv.length k8, .slice none 0 0]) ?_ 2 _ rfl; refine blk_put (cs := #[.slice hz bd.length gz, .slice none 0 0, .slice none 0 0]) ?_ 1 _ rfl; refine blk_put (cs := #[.slice none 0 0, .slice none 0 0, .slice none 0 0]) ?_ 0 _ rfl; exact uf0_ bm) hb); replace HB := Aside0.mk (below_step (dn) hb); (try clear hb); (try clear hk hi); obtain ⟨hw2, hw3, hw4, hw5, hw6, hw7⟩ := blk3_ bm) | ((with_reducible refine gate_callee (f := 28) rfl ?_); refine goesL_ (some 14) rfl rfl Try.func28 k_ rfl #[.agg #[.slice hz bd.length gz, .slice pi bv.length k8, .slice fm ch.length fi]] rfl (g2_) ?_; (with_reducible refine (spec_DeskOk.calls k _ _ bd _ _ bv _ _ ch l6 _ ?side1 ?side2 ?side3 ?side4 ?side5 ?side6 A5.out).mono ?_); (case side1 => repeat (first | exact (Kd.R_reads' bq.out).2.2 | (with_reducible refine Kd.C_alloc ?_ _) | (with_reducible refine Kd.C_drewN ?_ _) | (with_reducible refine Kd.C_drew ?_))); (case side2 => exact (Kd.R_reads' bq.out).2.1); (case side3 => repeat (first | exact (Kd.S_reads' br.out).2.2 | (with_reducible refine Kd.C_alloc ?_ _) | (with_reducible refine Kd.C_drewN ?_ _) | (with_reducible refine Kd.C_drew ?_))); (case side4 => exact (Kd.S_reads' br.out).2.1); (case side5 => repeat (first | exact (Kd.Q_reads' bw.out).2.2 | (with_reducible refine Kd.C_alloc ?_ _) | (with_reducible refine Kd.C_drewN ?_ _) | (with_reducible refine Kd.C_drew ?_))); (case side6 => exact (Kd.Q_reads' bw.out).2.1); rintro e w42 ⟨rfl, hb⟩; refine ⟨_, rfl, ?_⟩; replace bq := Aside0.mk (Kd.R_below (uf2_ bq) hb); replace br := Aside0.mk (Kd.S_below (uf3_ br) hb); replace bw := Aside0.mk (Kd.Q_below (uf6_ bw) hb); replace bm := bb_ bm hb; replace HB := Aside0.mk (below_step (dn) hb); (try clear hb); (try clear hk hi); obtain ⟨hw8, hw9, hx5, hx6, hx7, hx8⟩ := blk3_ bm) | (clear MK24_4; go_at_call 24; (refine (impl_DeskOk.calls k _ _ bd _ _ bv _ _ ([] : List (S25)) true _ ?side1 ?side2 ?side3 ?side4 ?side5 ?side6 A17.out).mono ?_); (case side1 => repeat (first | exact (Kd.R_reads' bq.out).2.2 | (with_reducible refine Kd.C_alloc ?_ _) | (with_reducible refine Kd.C_drewN ?_ _) | (with_reducible refine Kd.C_drew ?_))); (case side2 => exact (Kd.R_reads' bq.out).2.1); (case side3 => repeat (first | exact (Kd.S_reads' br.out).2.2 | (with_reducible refine Kd.C_alloc ?_ _) | (with_reducible refine Kd.C_drewN ?_ _) | (with_reducible refine Kd.C_drew ?_))); (case side4 => exact (Kd.S_reads' br.out).2.1); (case side5 => exact Kd.C_nil _ _); (case side6 => exact Nat.le_refl _); rintro e w44 ⟨rfl, hb⟩; replace bq := Aside0.mk (Kd.R_below (uf2_ bq) hb); replace br := Aside0.mk (Kd.S_below (uf3_ br) hb); replace bw := Aside0.mk (Kd.Q_below (uf6_ bw) hb); replace bm := bb_ bm hb; replace HB := Aside0.mk (below_step (dn) hb); (try clear hb); (try clear hk hi)) | (go_at_call 24; (refine (impl_DeskOk.calls k _ _ ([] : List Int) _ _ ([] : List (List Int)) _ _ ([] : List (S25)) false _ ?side1 ?side2 ?side3 ?side4 ?side5 ?side6 A19.out).mono ?_); (case side1 => exact Kd.C_nil _ _); (case side2 => exact Nat.le_refl _); (case side3 => exact Kd.C_nil _ _); (case side4 => exact Nat.le_refl _); (case side5 => exact Kd.C_nil _ _); (case side6 => exact Nat.le_refl _); rintro e w45 ⟨rfl, hb⟩; replace bq := Aside0.mk (Kd.R_below (uf2_ bq) hb); replace br := Aside0.mk (Kd.S_below (uf3_ br) hb); replace bw := Aside0.mk (Kd.Q_below (uf6_ bw) hb); replace bm := bb_ bm hb; replace HB := Aside0.mk (below_step (dn) hb); (try clear hb); (try clear hk hi)) | (go_at_call 23; (with_reducible refine (laws_alive.calls k  bb0 _ A33.out).mono ?_); rintro e kr ⟨rfl, hb⟩; replace bq := Aside0.mk (Kd.R_below (uf2_ bq) hb); replace br := Aside0.mk (Kd.S_below (uf3_ br) hb); replace bw := Aside0.mk (Kd.Q_below (uf6_ bw) hb); replace bm := bb_ bm hb; replace HB := Aside0.mk (below_step (dn) hb); (try clear hb); (try clear hk hi)))
      go_ret
      exact ⟨g4_, dn⟩
    ·replace fu := Bool.eq_false_iff.mpr fu
     subst fu
     replace H := ifn_ H
     obtain rfl := Option.some.inj H
     go_enter Try.func6, Try.ntmps6
     go_wp2_with (first | ((with_reducible refine gate_callee (f := 30) rfl ?_); refine goesL_ (some 9) rfl rfl Try.func30 k_ rfl #[.slice A0 l0.length c0] rfl (g2_) ?_; (with_reducible refine (spec_DrawDeskOk.calls k _ _ l0 bd bv ch _ ?side1 ?side2 A3.out).mono ?_); (case side1 => repeat (first | exact jw.out | (with_reducible refine Kd.C_alloc ?_ _) | (with_reducible refine Kd.C_drewN ?_ _) | (with_reducible refine Kd.C_drew ?_))); (case side2 => exact ll.out); rintro e w47 ⟨bb3, bb4, bb5, rfl, am, ba, d3, hb⟩; refine ⟨_, rfl, ?_⟩; have bq := Aside0.mk (Kd.R_lower am (below_size (dn))); have br := Aside0.mk (Kd.S_lower ba (below_size (dn))); have bw := Aside0.mk (Kd.Q_lower d3 (below_size (dn))); replace HB := Aside0.mk (below_step (dn) hb); (try clear hb); (try clear hk hi); (try clear am); (try clear ba); (try clear d3)) | ((with_reducible refine gate_dst (N := 3) rfl ?_); refine bx_ (N := 3) #[.slice none 0 0, .slice none 0 0, .slice none 0 0] 28 ?_; intro aq hg w48 hbox hb; replace bq := Aside0.mk (Kd.R_below (uf2_ bq) hb); replace br := Aside0.mk (Kd.S_below (uf3_ br) hb); replace bw := Aside0.mk (Kd.Q_below (uf6_ bw) hb); have bm := Aside0.mk (hbox); have bb6 := Aside0.mk ((g13_ : w.heap.size ≤ aq)); have an3 := Aside0.mk ((g13_ : w.heap.size ≤ aq)); replace HB := Aside0.mk (below_step (dn) hb); clear hb hbox hg; obtain ⟨mu, l5, bq7⟩ := Kd.R_slice bq.out; subst bq7; obtain ⟨eo4, eo5, hx9, eo6, ep0, hy0⟩ := blk3_ bm; obtain ⟨ek, ej, al7⟩ := Kd.S_slice br.out; subst al7; obtain ⟨pk, op, ca2, _⟩ := Kd.Q_slice bw.out; subst ca2) | ((with_reducible refine gate_callee (f := 24) rfl ?_); refine goesL_ (some 11) rfl rfl Try.func24 k_ rfl #[.agg #[.slice mu bd.length l5, .slice ek bv.length ej, .slice pk ch.length op]] rfl (g2_) ?_; (with_reducible refine (impl_DeskOk.calls k _ _ bd _ _ bv _ _ ch true _ ?side1 ?side2 ?side3 ?side4 ?side5 ?side6 A4.out).mono ?_); (case side1 => refine (Kd.R_reads' (e := 3) (base := w.heap.size) (ok := fun k_ => True) (n := bd.length) (c := l5) ?_).2.2; exact (by (with_reducible repeat (first | apply Kd.R_alloc | apply Kd.R_drewN | apply Kd.R_drew)); exact (Kd.R_mono (Kd.R_far (p := ⟨aq, 2, none⟩) (Kd.R_far (p := ⟨aq, 1, none⟩) (Kd.R_far (p := ⟨aq, 0, none⟩) (Kd.R_types bq.out bm.out (by decide)) (fun _ hk => hk.2) (.slice mu bd.length l5)) (fun _ hk => hk.2) (.slice ek bv.length ej)) (fun _ hk => hk.2) (.slice pk ch.length op)) (fun _ h_ => h_.1)))); (case side2 => exact (Kd.R_reads' bq.out).2.1); (case side3 => refine (Kd.S_reads' (e := 22) (base := w.heap.size) (ok := fun k_ => some k_ ≠ (.slice mu bd.length l5 : Value).ownBlock) (n := bv.length) (c := ej) ?_).2.2; exact (by (with_reducible repeat (first | apply Kd.S_alloc | apply Kd.S_drewN | apply Kd.S_drew)); exact (Kd.S_mono (Kd.S_far (p := ⟨aq, 2, none⟩) (Kd.S_far (p := ⟨aq, 1, none⟩) (Kd.S_far (p := ⟨aq, 0, none⟩) (Kd.S_types br.out bm.out (by decide)) (fun _ hk => hk.2) (.slice mu bd.length l5)) (fun _ hk => hk.2) (.slice ek bv.length ej)) (fun _ hk => hk.2) (.slice pk ch.length op)) (fun _ h_ => h_.1)))); (case side4 => exact (Kd.S_reads' br.out).2.1); (case side5 => refine (Kd.Q_reads' (e := 25) (base := w.heap.size) (ok := fun k_ => (some k_ ≠ (.slice mu bd.length l5 : Value).ownBlock ∧ some k_ ≠ (.slice ek bv.length ej : Value).ownBlock)) (n := ch.length) (c := op) ?_).2.2; exact (by (with_reducible repeat (first | apply Kd.Q_alloc | apply Kd.Q_drewN | apply Kd.Q_drew)); exact (Kd.Q_mono (Kd.Q_far (p := ⟨aq, 2, none⟩) (Kd.Q_far (p := ⟨aq, 1, none⟩) (Kd.Q_far (p := ⟨aq, 0, none⟩) (Kd.Q_types bw.out bm.out (by decide)) (fun _ hk => hk.2) (.slice mu bd.length l5)) (fun _ hk => hk.2) (.slice ek bv.length ej)) (fun _ hk => hk.2) (.slice pk ch.length op)) (fun _ h_ => h_.1)))); (case side6 => exact (Kd.Q_reads' bw.out).2.1); rintro e oq ⟨rfl, hb⟩; refine ⟨_, rfl, ?_⟩; replace bq := Aside0.mk (Kd.R_below (by (with_reducible repeat (first | apply Kd.R_alloc | apply Kd.R_drewN | apply Kd.R_drew)); exact (Kd.R_mono (Kd.R_far (p := ⟨aq, 2, none⟩) (Kd.R_far (p := ⟨aq, 1, none⟩) (Kd.R_far (p := ⟨aq, 0, none⟩) (Kd.R_types bq.out bm.out (by decide)) (fun _ hk => hk.2) (.slice mu bd.length l5)) (fun _ hk => hk.2) (.slice ek bv.length ej)) (fun _ hk => hk.2) (.slice pk ch.length op)) (fun _ h_ => h_.1))) hb); replace br := Aside0.mk (Kd.S_below (by (with_reducible repeat (first | apply Kd.S_alloc | apply Kd.S_drewN | apply Kd.S_drew)); exact (Kd.S_mono (Kd.S_far (p := ⟨aq, 2, none⟩) (Kd.S_far (p := ⟨aq, 1, none⟩) (Kd.S_far (p := ⟨aq, 0, none⟩) (Kd.S_types br.out bm.out (by decide)) (fun _ hk => hk.2) (.slice mu bd.length l5)) (fun _ hk => hk.2) (.slice ek bv.length ej)) (fun _ hk => hk.2) (.slice pk ch.length op)) (fun _ h_ => h_.1))) hb); replace bw := Aside0.mk (Kd.Q_below (by (with_reducible repeat (first | apply Kd.Q_alloc | apply Kd.Q_drewN | apply Kd.Q_drew)); exact (Kd.Q_mono (Kd.Q_far (p := ⟨aq, 2, none⟩) (Kd.Q_far (p := ⟨aq, 1, none⟩) (Kd.Q_far (p := ⟨aq, 0, none⟩) (Kd.Q_types bw.out bm.out (by decide)) (fun _ hk => hk.2) (.slice mu bd.length l5)) (fun _ hk => hk.2) (.slice ek bv.length ej)) (fun _ hk => hk.2) (.slice pk ch.length op)) (fun _ h_ => h_.1))) hb); replace bm := Aside0.mk (blk_below (g := aq) (o := .cells #[.slice mu bd.length l5, .slice ek bv.length ej, .slice pk ch.length op] 28 (0, 0)) (by (with_reducible repeat (first | refine blk_drewN ?_ _ | refine blk_drew ?_ | refine blk_alloc ?_ _)); refine blk_put (cs := #[.slice mu bd.length l5, .slice ek bv.length ej, .slice none 0 0]) ?_ 2 _ rfl; refine blk_put (cs := #[.slice mu bd.length l5, .slice none 0 0, .slice none 0 0]) ?_ 1 _ rfl; refine blk_put (cs := #[.slice none 0 0, .slice none 0 0, .slice none 0 0]) ?_ 0 _ rfl; exact uf0_ bm) hb); replace HB := Aside0.mk (below_step (dn) hb); (try clear hb); (try clear hk hi); obtain ⟨hy1, hy2, hy3, hy4, hy5, hy6⟩ := blk3_ bm) | ((with_reducible refine gate_callee (f := 28) rfl ?_); refine goesL_ (some 14) rfl rfl Try.func28 k_ rfl #[.agg #[.slice mu bd.length l5, .slice ek bv.length ej, .slice pk ch.length op]] rfl (g2_) ?_; (with_reducible refine (spec_DeskOk.calls k _ _ bd _ _ bv _ _ ch l6 _ ?side1 ?side2 ?side3 ?side4 ?side5 ?side6 A5.out).mono ?_); (case side1 => repeat (first | exact (Kd.R_reads' bq.out).2.2 | (with_reducible refine Kd.C_alloc ?_ _) | (with_reducible refine Kd.C_drewN ?_ _) | (with_reducible refine Kd.C_drew ?_))); (case side2 => exact (Kd.R_reads' bq.out).2.1); (case side3 => repeat (first | exact (Kd.S_reads' br.out).2.2 | (with_reducible refine Kd.C_alloc ?_ _) | (with_reducible refine Kd.C_drewN ?_ _) | (with_reducible refine Kd.C_drew ?_))); (case side4 => exact (Kd.S_reads' br.out).2.1); (case side5 => repeat (first | exact (Kd.Q_reads' bw.out).2.2 | (with_reducible refine Kd.C_alloc ?_ _) | (with_reducible refine Kd.C_drewN ?_ _) | (with_reducible refine Kd.C_drew ?_))); (case side6 => exact (Kd.Q_reads' bw.out).2.1); rintro e w55 ⟨rfl, hb⟩; refine ⟨_, rfl, ?_⟩; replace bq := Aside0.mk (Kd.R_below (uf2_ bq) hb); replace br := Aside0.mk (Kd.S_below (uf3_ br) hb); replace bw := Aside0.mk (Kd.Q_below (uf6_ bw) hb); replace bm := bb_ bm hb; replace HB := Aside0.mk (below_step (dn) hb); (try clear hb); (try clear hk hi); obtain ⟨cx3, cx4, hy7, cx5, cx6, hy8⟩ := blk3_ bm) | (go_at_call 24; (refine (impl_DeskOk.calls k _ _ bd _ _ bv _ _ ([] : List (S25)) false _ ?side1 ?side2 ?side3 ?side4 ?side5 ?side6 A17.out).mono ?_); (case side1 => repeat (first | exact (Kd.R_reads' bq.out).2.2 | (with_reducible refine Kd.C_alloc ?_ _) | (with_reducible refine Kd.C_drewN ?_ _) | (with_reducible refine Kd.C_drew ?_))); (case side2 => exact (Kd.R_reads' bq.out).2.1); (case side3 => repeat (first | exact (Kd.S_reads' br.out).2.2 | (with_reducible refine Kd.C_alloc ?_ _) | (with_reducible refine Kd.C_drewN ?_ _) | (with_reducible refine Kd.C_drew ?_))); (case side4 => exact (Kd.S_reads' br.out).2.1); (case side5 => exact Kd.C_nil _ _); (case side6 => exact Nat.le_refl _); rintro e w57 ⟨rfl, hb⟩; replace bq := Aside0.mk (Kd.R_below (uf2_ bq) hb); replace br := Aside0.mk (Kd.S_below (uf3_ br) hb); replace bw := Aside0.mk (Kd.Q_below (uf6_ bw) hb); replace bm := bb_ bm hb; replace HB := Aside0.mk (below_step (dn) hb); (try clear hb); (try clear hk hi)))
     go_ret
     exact ⟨g4_, dn⟩
   ·replace f7 := Bool.eq_false_iff.mpr f7
    subst f7
    replace H := ifn_ H
    obtain ⟨bb1, A58, H⟩ := bind_ H
    by_cases pz : bb1 = true
    ·subst pz
     replace H := ifp_ H
     obtain rfl := Option.some.inj H
     go_enter Try.func6, Try.ntmps6
     go_wp2_with (first | ((with_reducible refine gate_callee (f := 30) rfl ?_); refine goesL_ (some 9) rfl rfl Try.func30 k_ rfl #[.slice A0 l0.length c0] rfl (g2_) ?_; (with_reducible refine (spec_DrawDeskOk.calls k _ _ l0 bd bv ch _ ?side1 ?side2 A3.out).mono ?_); (case side1 => repeat (first | exact jw.out | (with_reducible refine Kd.C_alloc ?_ _) | (with_reducible refine Kd.C_drewN ?_ _) | (with_reducible refine Kd.C_drew ?_))); (case side2 => exact ll.out); rintro e w60 ⟨bb3, bb4, bb5, rfl, am, ba, d3, hb⟩; refine ⟨_, rfl, ?_⟩; have bq := Aside0.mk (Kd.R_lower am (below_size (dn))); have br := Aside0.mk (Kd.S_lower ba (below_size (dn))); have bw := Aside0.mk (Kd.Q_lower d3 (below_size (dn))); replace HB := Aside0.mk (below_step (dn) hb); (try clear hb); (try clear hk hi); (try clear am); (try clear ba); (try clear d3)) | ((with_reducible refine gate_dst (N := 3) rfl ?_); refine bx_ (N := 3) #[.slice none 0 0, .slice none 0 0, .slice none 0 0] 28 ?_; intro aq hg w61 hbox hb; replace bq := Aside0.mk (Kd.R_below (uf2_ bq) hb); replace br := Aside0.mk (Kd.S_below (uf3_ br) hb); replace bw := Aside0.mk (Kd.Q_below (uf6_ bw) hb); have bm := Aside0.mk (hbox); have bb6 := Aside0.mk ((g13_ : w.heap.size ≤ aq)); have an3 := Aside0.mk ((g13_ : w.heap.size ≤ aq)); replace HB := Aside0.mk (below_step (dn) hb); clear hb hbox hg; obtain ⟨gx, gy, ay5⟩ := Kd.R_slice bq.out; subst ay5; obtain ⟨dn0, dn1, dn2, dn3, dn4, dn5⟩ := blk3_ bm; obtain ⟨sx, ro, fm7⟩ := Kd.S_slice br.out; subst fm7; obtain ⟨qb, o2, cl1, _⟩ := Kd.Q_slice bw.out; subst cl1) | ((with_reducible refine gate_callee (f := 24) rfl ?_); refine goesL_ (some 11) rfl rfl Try.func24 k_ rfl #[.agg #[.slice gx bd.length gy, .slice sx bv.length ro, .slice qb ch.length o2]] rfl (g2_) ?_; (with_reducible refine (impl_DeskOk.calls k _ _ bd _ _ bv _ _ ch false _ ?side1 ?side2 ?side3 ?side4 ?side5 ?side6 A4.out).mono ?_); (case side1 => refine (Kd.R_reads' (e := 3) (base := w.heap.size) (ok := fun k_ => True) (n := bd.length) (c := gy) ?_).2.2; exact (by (with_reducible repeat (first | apply Kd.R_alloc | apply Kd.R_drewN | apply Kd.R_drew)); exact (Kd.R_mono (Kd.R_far (p := ⟨aq, 2, none⟩) (Kd.R_far (p := ⟨aq, 1, none⟩) (Kd.R_far (p := ⟨aq, 0, none⟩) (Kd.R_types bq.out bm.out (by decide)) (fun _ hk => hk.2) (.slice gx bd.length gy)) (fun _ hk => hk.2) (.slice sx bv.length ro)) (fun _ hk => hk.2) (.slice qb ch.length o2)) (fun _ h_ => h_.1)))); (case side2 => exact (Kd.R_reads' bq.out).2.1); (case side3 => refine (Kd.S_reads' (e := 22) (base := w.heap.size) (ok := fun k_ => some k_ ≠ (.slice gx bd.length gy : Value).ownBlock) (n := bv.length) (c := ro) ?_).2.2; exact (by (with_reducible repeat (first | apply Kd.S_alloc | apply Kd.S_drewN | apply Kd.S_drew)); exact (Kd.S_mono (Kd.S_far (p := ⟨aq, 2, none⟩) (Kd.S_far (p := ⟨aq, 1, none⟩) (Kd.S_far (p := ⟨aq, 0, none⟩) (Kd.S_types br.out bm.out (by decide)) (fun _ hk => hk.2) (.slice gx bd.length gy)) (fun _ hk => hk.2) (.slice sx bv.length ro)) (fun _ hk => hk.2) (.slice qb ch.length o2)) (fun _ h_ => h_.1)))); (case side4 => exact (Kd.S_reads' br.out).2.1); (case side5 => refine (Kd.Q_reads' (e := 25) (base := w.heap.size) (ok := fun k_ => (some k_ ≠ (.slice gx bd.length gy : Value).ownBlock ∧ some k_ ≠ (.slice sx bv.length ro : Value).ownBlock)) (n := ch.length) (c := o2) ?_).2.2; exact (by (with_reducible repeat (first | apply Kd.Q_alloc | apply Kd.Q_drewN | apply Kd.Q_drew)); exact (Kd.Q_mono (Kd.Q_far (p := ⟨aq, 2, none⟩) (Kd.Q_far (p := ⟨aq, 1, none⟩) (Kd.Q_far (p := ⟨aq, 0, none⟩) (Kd.Q_types bw.out bm.out (by decide)) (fun _ hk => hk.2) (.slice gx bd.length gy)) (fun _ hk => hk.2) (.slice sx bv.length ro)) (fun _ hk => hk.2) (.slice qb ch.length o2)) (fun _ h_ => h_.1)))); (case side6 => exact (Kd.Q_reads' bw.out).2.1); rintro e w66 ⟨rfl, hb⟩; refine ⟨_, rfl, ?_⟩; replace bq := Aside0.mk (Kd.R_below (by (with_reducible repeat (first | apply Kd.R_alloc | apply Kd.R_drewN | apply Kd.R_drew)); exact (Kd.R_mono (Kd.R_far (p := ⟨aq, 2, none⟩) (Kd.R_far (p := ⟨aq, 1, none⟩) (Kd.R_far (p := ⟨aq, 0, none⟩) (Kd.R_types bq.out bm.out (by decide)) (fun _ hk => hk.2) (.slice gx bd.length gy)) (fun _ hk => hk.2) (.slice sx bv.length ro)) (fun _ hk => hk.2) (.slice qb ch.length o2)) (fun _ h_ => h_.1))) hb); replace br := Aside0.mk (Kd.S_below (by (with_reducible repeat (first | apply Kd.S_alloc | apply Kd.S_drewN | apply Kd.S_drew)); exact (Kd.S_mono (Kd.S_far (p := ⟨aq, 2, none⟩) (Kd.S_far (p := ⟨aq, 1, none⟩) (Kd.S_far (p := ⟨aq, 0, none⟩) (Kd.S_types br.out bm.out (by decide)) (fun _ hk => hk.2) (.slice gx bd.length gy)) (fun _ hk => hk.2) (.slice sx bv.length ro)) (fun _ hk => hk.2) (.slice qb ch.length o2)) (fun _ h_ => h_.1))) hb); replace bw := Aside0.mk (Kd.Q_below (by (with_reducible repeat (first | apply Kd.Q_alloc | apply Kd.Q_drewN | apply Kd.Q_drew)); exact (Kd.Q_mono (Kd.Q_far (p := ⟨aq, 2, none⟩) (Kd.Q_far (p := ⟨aq, 1, none⟩) (Kd.Q_far (p := ⟨aq, 0, none⟩) (Kd.Q_types bw.out bm.out (by decide)) (fun _ hk => hk.2) (.slice gx bd.length gy)) (fun _ hk => hk.2) (.slice sx bv.length ro)) (fun _ hk => hk.2) (.slice qb ch.length o2)) (fun _ h_ => h_.1))) hb); replace bm := Aside0.mk (blk_below (g := aq) (o := .cells #[.slice gx bd.length gy, .slice sx bv.length ro, .slice qb ch.length o2] 28 (0, 0)) (by (with_reducible repeat (first | refine blk_drewN ?_ _ | refine blk_drew ?_ | refine blk_alloc ?_ _)); refine blk_put (cs := #[.slice gx bd.length gy, .slice sx bv.length ro, .slice none 0 0]) ?_ 2 _ rfl; refine blk_put (cs := #[.slice gx bd.length gy, .slice none 0 0, .slice none 0 0]) ?_ 1 _ rfl; refine blk_put (cs := #[.slice none 0 0, .slice none 0 0, .slice none 0 0]) ?_ 0 _ rfl; exact uf0_ bm) hb); replace HB := Aside0.mk (below_step (dn) hb); (try clear hb); (try clear hk hi); obtain ⟨fc1, fc2, hy9, fc3, fc4, hz0⟩ := blk3_ bm) | ((with_reducible refine gate_callee (f := 28) rfl ?_); refine goesL_ (some 14) rfl rfl Try.func28 k_ rfl #[.agg #[.slice gx bd.length gy, .slice sx bv.length ro, .slice qb ch.length o2]] rfl (g2_) ?_; (with_reducible refine (spec_DeskOk.calls k _ _ bd _ _ bv _ _ ch l6 _ ?side1 ?side2 ?side3 ?side4 ?side5 ?side6 A5.out).mono ?_); (case side1 => repeat (first | exact (Kd.R_reads' bq.out).2.2 | (with_reducible refine Kd.C_alloc ?_ _) | (with_reducible refine Kd.C_drewN ?_ _) | (with_reducible refine Kd.C_drew ?_))); (case side2 => exact (Kd.R_reads' bq.out).2.1); (case side3 => repeat (first | exact (Kd.S_reads' br.out).2.2 | (with_reducible refine Kd.C_alloc ?_ _) | (with_reducible refine Kd.C_drewN ?_ _) | (with_reducible refine Kd.C_drew ?_))); (case side4 => exact (Kd.S_reads' br.out).2.1); (case side5 => repeat (first | exact (Kd.Q_reads' bw.out).2.2 | (with_reducible refine Kd.C_alloc ?_ _) | (with_reducible refine Kd.C_drewN ?_ _) | (with_reducible refine Kd.C_drew ?_))); (case side6 => exact (Kd.Q_reads' bw.out).2.1); rintro e w68 ⟨rfl, hb⟩; refine ⟨_, rfl, ?_⟩; replace bq := Aside0.mk (Kd.R_below (uf2_ bq) hb); replace br := Aside0.mk (Kd.S_below (uf3_ br) hb); replace bw := Aside0.mk (Kd.Q_below (uf6_ bw) hb); replace bm := bb_ bm hb; replace HB := Aside0.mk (below_step (dn) hb); (try clear hb); (try clear hk hi)) | (go_at_call 24; (refine (impl_DeskOk.calls k _ _ ([] : List Int) _ _ ([] : List (List Int)) _ _ ([] : List (S25)) true _ ?side1 ?side2 ?side3 ?side4 ?side5 ?side6 A58.out).mono ?_); (case side1 => exact Kd.C_nil _ _); (case side2 => exact Nat.le_refl _); (case side3 => exact Kd.C_nil _ _); (case side4 => exact Nat.le_refl _); (case side5 => exact Kd.C_nil _ _); (case side6 => exact Nat.le_refl _); rintro e w69 ⟨rfl, hb⟩; replace bq := Aside0.mk (Kd.R_below (uf2_ bq) hb); replace br := Aside0.mk (Kd.S_below (uf3_ br) hb); replace bw := Aside0.mk (Kd.Q_below (uf6_ bw) hb); replace bm := bb_ bm hb; replace HB := Aside0.mk (below_step (dn) hb); (try clear hb); (try clear hk hi)))
     go_ret
     exact ⟨g4_, dn⟩
    ·replace pz := Bool.eq_false_iff.mpr pz
     subst pz
     replace H := ifn_ H
     obtain ⟨bb2, A70, H⟩ := bind_ H
     obtain rfl := Option.some.inj H
     go_enter Try.func6, Try.ntmps6
     go_wp2_with (first | ((with_reducible refine gate_callee (f := 30) rfl ?_); refine goesL_ (some 9) rfl rfl Try.func30 k_ rfl #[.slice A0 l0.length c0] rfl (g2_) ?_; (with_reducible refine (spec_DrawDeskOk.calls k _ _ l0 bd bv ch _ ?side1 ?side2 A3.out).mono ?_); (case side1 => repeat (first | exact jw.out | (with_reducible refine Kd.C_alloc ?_ _) | (with_reducible refine Kd.C_drewN ?_ _) | (with_reducible refine Kd.C_drew ?_))); (case side2 => exact ll.out); rintro e w71 ⟨bb3, bb4, bb5, rfl, am, ba, d3, hb⟩; refine ⟨_, rfl, ?_⟩; have bq := Aside0.mk (Kd.R_lower am (below_size (dn))); have br := Aside0.mk (Kd.S_lower ba (below_size (dn))); have bw := Aside0.mk (Kd.Q_lower d3 (below_size (dn))); replace HB := Aside0.mk (below_step (dn) hb); (try clear hb); (try clear hk hi); (try clear am); (try clear ba); (try clear d3)) | ((with_reducible refine gate_dst (N := 3) rfl ?_); refine bx_ (N := 3) #[.slice none 0 0, .slice none 0 0, .slice none 0 0] 28 ?_; intro aq hg w72 hbox hb; replace bq := Aside0.mk (Kd.R_below (uf2_ bq) hb); replace br := Aside0.mk (Kd.S_below (uf3_ br) hb); replace bw := Aside0.mk (Kd.Q_below (uf6_ bw) hb); have bm := Aside0.mk (hbox); have bb6 := Aside0.mk ((g13_ : w.heap.size ≤ aq)); have an3 := Aside0.mk ((g13_ : w.heap.size ≤ aq)); replace HB := Aside0.mk (below_step (dn) hb); clear hb hbox hg; obtain ⟨qe, o7, fm8⟩ := Kd.R_slice bq.out; subst fm8; obtain ⟨hz1, hz2, hz3, hz4, hz5, hz6⟩ := blk3_ bm; obtain ⟨sy, rp, fm9⟩ := Kd.S_slice br.out; subst fm9; obtain ⟨wt, uj, fn0, _⟩ := Kd.Q_slice bw.out; subst fn0) | ((with_reducible refine gate_callee (f := 24) rfl ?_); refine goesL_ (some 11) rfl rfl Try.func24 k_ rfl #[.agg #[.slice qe bd.length o7, .slice sy bv.length rp, .slice wt ch.length uj]] rfl (g2_) ?_; (with_reducible refine (impl_DeskOk.calls k _ _ bd _ _ bv _ _ ch false _ ?side1 ?side2 ?side3 ?side4 ?side5 ?side6 A4.out).mono ?_); (case side1 => refine (Kd.R_reads' (e := 3) (base := w.heap.size) (ok := fun k_ => True) (n := bd.length) (c := o7) ?_).2.2; exact (by (with_reducible repeat (first | apply Kd.R_alloc | apply Kd.R_drewN | apply Kd.R_drew)); exact (Kd.R_mono (Kd.R_far (p := ⟨aq, 2, none⟩) (Kd.R_far (p := ⟨aq, 1, none⟩) (Kd.R_far (p := ⟨aq, 0, none⟩) (Kd.R_types bq.out bm.out (by decide)) (fun _ hk => hk.2) (.slice qe bd.length o7)) (fun _ hk => hk.2) (.slice sy bv.length rp)) (fun _ hk => hk.2) (.slice wt ch.length uj)) (fun _ h_ => h_.1)))); (case side2 => exact (Kd.R_reads' bq.out).2.1); (case side3 => refine (Kd.S_reads' (e := 22) (base := w.heap.size) (ok := fun k_ => some k_ ≠ (.slice qe bd.length o7 : Value).ownBlock) (n := bv.length) (c := rp) ?_).2.2; exact (by (with_reducible repeat (first | apply Kd.S_alloc | apply Kd.S_drewN | apply Kd.S_drew)); exact (Kd.S_mono (Kd.S_far (p := ⟨aq, 2, none⟩) (Kd.S_far (p := ⟨aq, 1, none⟩) (Kd.S_far (p := ⟨aq, 0, none⟩) (Kd.S_types br.out bm.out (by decide)) (fun _ hk => hk.2) (.slice qe bd.length o7)) (fun _ hk => hk.2) (.slice sy bv.length rp)) (fun _ hk => hk.2) (.slice wt ch.length uj)) (fun _ h_ => h_.1)))); (case side4 => exact (Kd.S_reads' br.out).2.1); (case side5 => refine (Kd.Q_reads' (e := 25) (base := w.heap.size) (ok := fun k_ => (some k_ ≠ (.slice qe bd.length o7 : Value).ownBlock ∧ some k_ ≠ (.slice sy bv.length rp : Value).ownBlock)) (n := ch.length) (c := uj) ?_).2.2; exact (by (with_reducible repeat (first | apply Kd.Q_alloc | apply Kd.Q_drewN | apply Kd.Q_drew)); exact (Kd.Q_mono (Kd.Q_far (p := ⟨aq, 2, none⟩) (Kd.Q_far (p := ⟨aq, 1, none⟩) (Kd.Q_far (p := ⟨aq, 0, none⟩) (Kd.Q_types bw.out bm.out (by decide)) (fun _ hk => hk.2) (.slice qe bd.length o7)) (fun _ hk => hk.2) (.slice sy bv.length rp)) (fun _ hk => hk.2) (.slice wt ch.length uj)) (fun _ h_ => h_.1)))); (case side6 => exact (Kd.Q_reads' bw.out).2.1); rintro e w77 ⟨rfl, hb⟩; refine ⟨_, rfl, ?_⟩; replace bq := Aside0.mk (Kd.R_below (by (with_reducible repeat (first | apply Kd.R_alloc | apply Kd.R_drewN | apply Kd.R_drew)); exact (Kd.R_mono (Kd.R_far (p := ⟨aq, 2, none⟩) (Kd.R_far (p := ⟨aq, 1, none⟩) (Kd.R_far (p := ⟨aq, 0, none⟩) (Kd.R_types bq.out bm.out (by decide)) (fun _ hk => hk.2) (.slice qe bd.length o7)) (fun _ hk => hk.2) (.slice sy bv.length rp)) (fun _ hk => hk.2) (.slice wt ch.length uj)) (fun _ h_ => h_.1))) hb); replace br := Aside0.mk (Kd.S_below (by (with_reducible repeat (first | apply Kd.S_alloc | apply Kd.S_drewN | apply Kd.S_drew)); exact (Kd.S_mono (Kd.S_far (p := ⟨aq, 2, none⟩) (Kd.S_far (p := ⟨aq, 1, none⟩) (Kd.S_far (p := ⟨aq, 0, none⟩) (Kd.S_types br.out bm.out (by decide)) (fun _ hk => hk.2) (.slice qe bd.length o7)) (fun _ hk => hk.2) (.slice sy bv.length rp)) (fun _ hk => hk.2) (.slice wt ch.length uj)) (fun _ h_ => h_.1))) hb); replace bw := Aside0.mk (Kd.Q_below (by (with_reducible repeat (first | apply Kd.Q_alloc | apply Kd.Q_drewN | apply Kd.Q_drew)); exact (Kd.Q_mono (Kd.Q_far (p := ⟨aq, 2, none⟩) (Kd.Q_far (p := ⟨aq, 1, none⟩) (Kd.Q_far (p := ⟨aq, 0, none⟩) (Kd.Q_types bw.out bm.out (by decide)) (fun _ hk => hk.2) (.slice qe bd.length o7)) (fun _ hk => hk.2) (.slice sy bv.length rp)) (fun _ hk => hk.2) (.slice wt ch.length uj)) (fun _ h_ => h_.1))) hb); replace bm := Aside0.mk (blk_below (g := aq) (o := .cells #[.slice qe bd.length o7, .slice sy bv.length rp, .slice wt ch.length uj] 28 (0, 0)) (by (with_reducible repeat (first | refine blk_drewN ?_ _ | refine blk_drew ?_ | refine blk_alloc ?_ _)); refine blk_put (cs := #[.slice qe bd.length o7, .slice sy bv.length rp, .slice none 0 0]) ?_ 2 _ rfl; refine blk_put (cs := #[.slice qe bd.length o7, .slice none 0 0, .slice none 0 0]) ?_ 1 _ rfl; refine blk_put (cs := #[.slice none 0 0, .slice none 0 0, .slice none 0 0]) ?_ 0 _ rfl; exact uf0_ bm) hb); replace HB := Aside0.mk (below_step (dn) hb); (try clear hb); (try clear hk hi); obtain ⟨hz7, hz8, hz9, ia0, ia1, ia2⟩ := blk3_ bm) | ((with_reducible refine gate_callee (f := 28) rfl ?_); refine goesL_ (some 14) rfl rfl Try.func28 k_ rfl #[.agg #[.slice qe bd.length o7, .slice sy bv.length rp, .slice wt ch.length uj]] rfl (g2_) ?_; (with_reducible refine (spec_DeskOk.calls k _ _ bd _ _ bv _ _ ch l6 _ ?side1 ?side2 ?side3 ?side4 ?side5 ?side6 A5.out).mono ?_); (case side1 => repeat (first | exact (Kd.R_reads' bq.out).2.2 | (with_reducible refine Kd.C_alloc ?_ _) | (with_reducible refine Kd.C_drewN ?_ _) | (with_reducible refine Kd.C_drew ?_))); (case side2 => exact (Kd.R_reads' bq.out).2.1); (case side3 => repeat (first | exact (Kd.S_reads' br.out).2.2 | (with_reducible refine Kd.C_alloc ?_ _) | (with_reducible refine Kd.C_drewN ?_ _) | (with_reducible refine Kd.C_drew ?_))); (case side4 => exact (Kd.S_reads' br.out).2.1); (case side5 => repeat (first | exact (Kd.Q_reads' bw.out).2.2 | (with_reducible refine Kd.C_alloc ?_ _) | (with_reducible refine Kd.C_drewN ?_ _) | (with_reducible refine Kd.C_drew ?_))); (case side6 => exact (Kd.Q_reads' bw.out).2.1); rintro e w79 ⟨rfl, hb⟩; refine ⟨_, rfl, ?_⟩; replace bq := Aside0.mk (Kd.R_below (uf2_ bq) hb); replace br := Aside0.mk (Kd.S_below (uf3_ br) hb); replace bw := Aside0.mk (Kd.Q_below (uf6_ bw) hb); replace bm := bb_ bm hb; replace HB := Aside0.mk (below_step (dn) hb); (try clear hb); (try clear hk hi)) | (go_at_call 24; (refine (impl_DeskOk.calls k _ _ ([] : List Int) _ _ ([] : List (List Int)) _ _ ([] : List (S25)) false _ ?side1 ?side2 ?side3 ?side4 ?side5 ?side6 A58.out).mono ?_); (case side1 => exact Kd.C_nil _ _); (case side2 => exact Nat.le_refl _); (case side3 => exact Kd.C_nil _ _); (case side4 => exact Nat.le_refl _); (case side5 => exact Kd.C_nil _ _); (case side6 => exact Nat.le_refl _); rintro e w80 ⟨rfl, hb⟩; replace bq := Aside0.mk (Kd.R_below (uf2_ bq) hb); replace br := Aside0.mk (Kd.S_below (uf3_ br) hb); replace bw := Aside0.mk (Kd.Q_below (uf6_ bw) hb); replace bm := bb_ bm hb; replace HB := Aside0.mk (below_step (dn) hb); (try clear hb); (try clear hk hi)) | (go_at_call 23; (with_reducible refine (laws_alive.calls k  bb2 _ A70.out).mono ?_); rintro e w81 ⟨rfl, hb⟩; replace bq := Aside0.mk (Kd.R_below (uf2_ bq) hb); replace br := Aside0.mk (Kd.S_below (uf3_ br) hb); replace bw := Aside0.mk (Kd.Q_below (uf6_ bw) hb); replace bm := bb_ bm hb; replace HB := Aside0.mk (below_step (dn) hb); (try clear hb); (try clear hk hi)))
     go_ret
     exact ⟨g4_, dn⟩
def laws_FnDeskOk.Pure : Prop := ∀ (l0 : List Int), l0.length ≤ maxLen → l0.length * 1 ≤ 140737488351232 → (∀ x ∈ l0, (Lit.int .u8 x).wf = true) → ∃ k, laws_FnDeskOk.f k l0 = some true
theorem laws_FnDeskOk.walk (P : laws_FnDeskOk.Pure) (a0 : Option Addr) (len0 cap0 : Nat) (z0 : List Int) (w : World) (w0 : (a0 = none ∧ len0 = 0 ∧ cap0 = 0 ∧ z0 = []) ∨ ∃ x, a0 = some x ∧ len0 ≤ cap0 ∧ cap0 ≤ maxLen ∧ z0.length = cap0 ∧ (∀ i, i < z0.length → w.cell? (x.add i) = some (.int .u8 (z0.getD i 0))) ∧ ∀ n ∈ z0, (Lit.int .u8 n).wf = true) (y0 : len0 * 1 ≤ 140737488351232) :
  Calls Try.prog 6 #[.slice a0 len0 cap0] w fun e w' => e = .returned (.bool true) ∧ Below w.heap.size w w' := by
 obtain ⟨l0, rfl, e8, hm0, hw0, go⟩ := ReadsInt.ofRowC w0
 obtain ⟨k, h⟩ := P l0 hm0 y0 hw0
 refine (laws_FnDeskOk.calls k _ _ l0 true w (Kd.C_of_reads (d := (0 : Int)) (h1 := fun _ => rfl) e8) go h).mono ?_
 rintro e w' ⟨rfl, hd⟩
 exact ⟨rfl, hd⟩
end Go.Proofs.Ytfooakkhkehpiaa.PU
namespace Go.Proofs.Ytfooakkhkehpiaa.Qh
open Go.RowKit Go.Proofs.YtfooakkhkehpiaaW.PrintWords Go.Proofs.YtfooakkhkehpiaaW.PrintMore
set_option linter.unusedVariables false
set_option linter.unusedSimpArgs false
theorem w64 {n : Int} (h1 : -9223372036854775808 ≤ n) (h2 : n ≤ 9223372036854775807) : wrap64 n = n := by unfold wrap64; omega
theorem wsucc {i n : Nat} (h : i < n) (hn : n ≤ 4611686018427387904) : wrap64 ((i : Int) + 1) = ((i + 1 : Nat) : Int) := by unfold wrap64; omega
section
variable {α β : Type} {r : α}
theorem evPos {c : Prop} [Decidable c] {g f : Nat → Option α} (h : c) (k : Ev g r) : Ev (fun n => if c then g n else f n) r := by
  simp only [if_pos h]; exact k
theorem evNeg {c : Prop} [Decidable c] {g f : Nat → Option α} (h : ¬ c) (k : Ev f r) : Ev (fun n => if c then g n else f n) r := by
  simp only [if_neg h]; exact k
theorem evBind0 {g : Option β} {f : Nat → β → Option α} {a : β} (h : g = some a) (k : Ev (fun n => f n a) r) : Ev (fun n => g.bind (f n)) r := by
  subst h; exact k
theorem evEq {g : Nat → Option α} {q : α} (h : Ev g q) (e : q = r) : Ev g r := e ▸ h
end
theorem rd_get (xs : List Int) (i : Nat) (h : i < xs.length) : rd xs (i : Int) = xs[i] := by
  simp [rd, List.getD_eq_getElem?_getD, List.getElem?_eq_getElem h]
theorem drop_rd (xs : List Int) (i : Nat) (h : i < xs.length) : xs.drop i = rd xs (i : Int) :: xs.drop (i + 1) := by
  rw [rd_get xs i h, List.drop_eq_getElem_cons h]
theorem getD_set {α : Type} (xs : List α) (d v : α) (i j : Nat) (h : i < xs.length) : (xs.set i v).getD j d = if i = j then v else xs.getD j d := by
  simp only [List.getD_eq_getElem?_getD, List.getElem?_set]
  by_cases e : i = j
  · subst e; simp [h]
  · simp [e]
theorem rd_set (xs : List Int) (v : Int) (i j : Int) (h0 : 0 ≤ i) (h : i < xs.length) (hj : 0 ≤ j) : rd (xs.set i.toNat v) j = if i = j then v else rd xs j := by
  unfold rd
  rw [getD_set xs 0 v i.toNat j.toNat (by omega)]
  by_cases e : i = j
  · subst e; simp
  · rw [if_neg e, if_neg (by omega)]
theorem rd_app (xs : List Int) (v : Int) (j : Nat) : rd (xs ++ [v]) (j : Int) = if j < xs.length then rd xs j else if j = xs.length then v else 0 := by
  unfold rd
  simp only [Int.toNat_natCast, List.getD_eq_getElem?_getD, List.getElem?_append]
  by_cases h : j < xs.length
  · simp [h]
  · by_cases e : j = xs.length
    · subst e; simp
    · rw [if_neg h, if_neg h, if_neg e]
      have : 1 ≤ j - xs.length := by omega
      rw [List.getElem?_eq_none (by simp; omega)]; rfl
theorem ext_rd (xs ys : List Int) (hl : xs.length = ys.length) (h : ∀ i : Nat, i < xs.length → rd xs (i : Int) = rd ys (i : Int)) : xs = ys := by
  apply List.ext_getElem hl
  intro i h1 h2
  have := h i h1
  rwa [rd_get xs i h1, rd_get ys i h2] at this
theorem getD_mem {α : Type} (d : α) (xs : List α) (i : Nat) (h : i < xs.length) : xs.getD i d ∈ xs := by
  simp [List.getD_eq_getElem?_getD, List.getElem?_eq_getElem h]
def EvB (g : Nat → Option Bool) (p : Prop) : Prop := ∃ b, (b = true ↔ p) ∧ Ev g b
section
variable {g f : Nat → Option Bool} {p q : Prop}
theorem EvB.congr (h : EvB g p) (e : p ↔ q) : EvB g q := by obtain ⟨b, h1, h2⟩ := h; exact ⟨b, h1.trans e, h2⟩
theorem EvB.tt (h : p) : EvB (fun _ => some true) p := ⟨true, by simp [h], Ev.now _⟩
theorem EvB.ff (h : ¬ p) : EvB (fun _ => some false) p := ⟨false, by simp [h], Ev.now _⟩
theorem EvB.pos {c : Prop} [Decidable c] (h : c) (k : EvB g p) : EvB (fun n => if c then g n else f n) p := by obtain ⟨b, h1, h2⟩ := k; exact ⟨b, h1, evPos h h2⟩
theorem EvB.neg {c : Prop} [Decidable c] (h : ¬ c) (k : EvB f p) : EvB (fun n => if c then g n else f n) p := by obtain ⟨b, h1, h2⟩ := k; exact ⟨b, h1, evNeg h h2⟩
theorem EvB.step {g f : Nat → Option Bool} (h : ∀ k, g (k + 1) = f k) (k : EvB f p) : EvB g p := by obtain ⟨b, h1, h2⟩ := k; exact ⟨b, h1, Ev.step h h2⟩
theorem EvB.bind {β : Type} {g : Nat → Option β} {f : Nat → β → Option Bool} {a : β} (h : Ev g a) (k : EvB (fun n => f n a) p) : EvB (fun n => (g n).bind (f n)) p := by obtain ⟨b, h1, h2⟩ := k; exact ⟨b, h1, Ev.bind h h2⟩
theorem EvB.bind0 {β : Type} {g : Option β} {f : Nat → β → Option Bool} {a : β} (h : g = some a) (k : EvB (fun n => f n a) p) : EvB (fun n => g.bind (f n)) p := by obtain ⟨b, h1, h2⟩ := k; exact ⟨b, h1, evBind0 h h2⟩
theorem EvB.yes (h : EvB g p) (hp : p) : Ev g true := by obtain ⟨b, h1, h2⟩ := h; rw [h1.2 hp] at h2; exact h2
theorem EvB.no (h : EvB g p) (hp : ¬ p) : Ev g false := by
  obtain ⟨b, h1, h2⟩ := h
  have : b = false := by cases b with
    | true => exact absurd (h1.1 rfl) hp
    | false => rfl
  rw [this] at h2; exact h2
end
end Go.Proofs.Ytfooakkhkehpiaa.Qh
namespace Go.Proofs.Ytfooakkhkehpiaa.Bk
open Go.RowKit Go.Proofs.Ytfooakkhkehpiaa.PU Go.Proofs.Ytfooakkhkehpiaa.Qh Go.Proofs.YtfooakkhkehpiaaW.PrintWords Go.Proofs.YtfooakkhkehpiaaW.PrintMore
set_option linter.unusedVariables false
set_option linter.unusedSimpArgs false
def RowP (c : List Int) (d : List (List Int)) (i : Nat) : Prop :=
  0 ≤ rd c (i : Int) ∧ rd c (i : Int) ≤ 20 ∧ (rd_L1 d (i : Int)).length = c.length ∧ rd (rd_L1 d (i : Int)) (i : Int) = 0 ∧ ∀ j : Nat, j < c.length → 0 ≤ rd (rd_L1 d (i : Int)) (j : Int) ∧ rd (rd_L1 d (i : Int)) (j : Int) ≤ 9
def BookP (c : List Int) (d : List (List Int)) : Prop := 1 ≤ c.length ∧ c.length ≤ 4 ∧ d.length = c.length ∧ ∀ i : Nat, i < c.length → RowP c d i
theorem ib_l1 (c : List Int) (d : List (List Int)) (row : List Int) (x3 : Int) (i : Nat) (hrow : row.length ≤ 4) (hi : i < d.length) (hd : d.length ≤ 4) {R : Prop}
    (hR : EvB (fun k => impl_isBook.l0 k x3 d (d.length : Int) ((i + 1 : Nat) : Int) c d) R) : ∀ (e j : Nat), row.length - j = e → j ≤ row.length →
    EvB (fun k => impl_isBook.l1 k x3 d (d.length : Int) (i : Int) row (row.length : Int) (j : Int) c d) ((∀ j' : Nat, j ≤ j' → j' < row.length → 0 ≤ rd row (j' : Int) ∧ rd row (j' : Int) ≤ 9) ∧ R) := by
  have hs : wrap64 ((i : Int) + 1) = ((i + 1 : Nat) : Int) := wsucc hi (by omega)
  intro e
  induction e with
  | zero =>
    intro j he hj
    refine EvB.step (fun k => by rw [impl_isBook.l1]) ?_
    rw [hs]
    exact EvB.neg (by omega) (hR.congr ⟨fun h => ⟨fun j' h1 h2 => by omega, h⟩, fun h => h.2⟩)
  | succ e ih =>
    intro j he hj
    have hlt : j < row.length := by omega
    have hj1 : wrap64 ((j : Int) + 1) = ((j + 1 : Nat) : Int) := wsucc hlt (by omega)
    refine EvB.step (fun k => by rw [impl_isBook.l1]) ?_
    refine EvB.pos (by omega) (EvB.pos (by omega) (EvB.pos (by omega) ?_))
    by_cases h1 : rd row (j : Int) < 0
    · exact EvB.pos h1 (EvB.ff (fun h => by have := h.1 j (Nat.le_refl _) hlt; omega))
    · refine EvB.neg h1 ?_
      by_cases h2 : rd row (j : Int) > 9
      · exact EvB.pos h2 (EvB.ff (fun h => by have := h.1 j (Nat.le_refl _) hlt; omega))
      · refine EvB.neg h2 ?_
        rw [hj1]
        refine (ih (j + 1) (by omega) (by omega)).congr ⟨fun h => ⟨fun j' h3 h4 => ?_, h.2⟩, fun h => ⟨fun j' h3 h4 => h.1 j' (by omega) h4, h.2⟩⟩
        by_cases e' : j' = j
        · subst e'; exact ⟨by omega, by omega⟩
        · exact h.1 j' (by omega) h4
theorem ib_l0 (c : List Int) (d : List (List Int)) (h4 : c.length ≤ 4) (hl : d.length = c.length) : ∀ (e i : Nat), c.length - i = e → i ≤ c.length →
    EvB (fun k => impl_isBook.l0 k (c.length : Int) d (d.length : Int) (i : Int) c d) (∀ i' : Nat, i ≤ i' → i' < c.length → RowP c d i') := by
  intro e
  induction e with
  | zero =>
    intro i he hi
    refine EvB.step (fun k => by rw [impl_isBook.l0]) ?_
    exact EvB.neg (by omega) (EvB.tt (fun i' h1 h2 => by omega))
  | succ e ih =>
    intro i he hi
    have hlt : i < c.length := by omega
    refine EvB.step (fun k => by rw [impl_isBook.l0]) ?_
    refine EvB.pos (by omega) (EvB.pos (by omega) (EvB.pos (by omega) (EvB.pos (by omega) ?_)))
    have bad : ∀ (P : Prop), (P → ¬ RowP c d i) → P → EvB (fun k => impl_isBook.j2 k (c.length : Int) (rd_L1 d (i : Int)) d (d.length : Int) (i : Int) true c d) (∀ i' : Nat, i ≤ i' → i' < c.length → RowP c d i') := by
      intro P hP p
      refine EvB.step (fun k => by rw [impl_isBook.j2]) ?_
      exact EvB.pos rfl (EvB.ff (fun h => hP p (h i (Nat.le_refl _) hlt)))
    by_cases h1 : rd c (i : Int) < 0
    · exact EvB.pos h1 (bad _ (fun p h => by have := h.1; omega) h1)
    refine EvB.neg h1 ?_
    by_cases h2 : rd c (i : Int) > 20
    · exact EvB.pos h2 (bad _ (fun p h => by have := h.2.1; omega) h2)
    refine EvB.neg h2 ?_
    by_cases h3 : ((rd_L1 d (i : Int)).length : Int) = (c.length : Int)
    · refine EvB.pos h3 (EvB.pos (by omega) ?_)
      by_cases h5 : rd (rd_L1 d (i : Int)) (i : Int) = 0
      · refine EvB.step (fun k => by rw [impl_isBook.j2]) ?_
        refine EvB.neg (by rw [h5]; decide) ?_
        refine (ib_l1 c d (rd_L1 d (i : Int)) (c.length : Int) i (by omega) (by omega) (by omega) (ih (i + 1) (by omega) (by omega)) _ 0 rfl (by omega)).congr ?_
        constructor
        · intro h i' h6 h7
          by_cases e' : i' = i
          · subst e'; exact ⟨by omega, by omega, by omega, h5, fun j hj => h.1 j (by omega) (by omega)⟩
          · exact h.2 i' (by omega) h7
        · intro h
          have hr := h i (Nat.le_refl _) hlt
          exact ⟨fun j' _ h7 => hr.2.2.2.2 j' (by omega), fun i' h6 h7 => h i' (by omega) h7⟩
      · have hb : (rd (rd_L1 d (i : Int)) (i : Int) != 0) = true := bne_iff_ne.mpr h5
        rw [hb]
        exact bad _ (fun p h => p h.2.2.2.1) h5
    · exact EvB.neg h3 (bad _ (fun p h => p (by rw [h.2.2.1])) h3)
theorem isBook (c : List Int) (d : List (List Int)) : EvB (fun k => impl_isBook.f k c d) (BookP c d) := by
  unfold impl_isBook.f
  by_cases h1 : (c.length : Int) < 1
  · refine EvB.pos h1 (EvB.step (fun k => by rw [impl_isBook.j0]) ?_)
    exact EvB.pos rfl (EvB.ff (fun h => by have := h.1; omega))
  refine EvB.neg h1 ?_
  by_cases h2 : (c.length : Int) > 4
  · refine EvB.pos h2 (EvB.step (fun k => by rw [impl_isBook.j0]) ?_)
    exact EvB.pos rfl (EvB.ff (fun h => by have := h.2.1; omega))
  refine EvB.neg h2 (EvB.step (fun k => by rw [impl_isBook.j0]) ?_)
  by_cases h3 : d.length = c.length
  · refine EvB.neg (by rw [h3]; simp) ?_
    refine (ib_l0 c d (by omega) h3 _ 0 rfl (by omega)).congr ⟨fun h => ⟨by omega, by omega, h3, fun i hi => h i (by omega) hi⟩, fun h i _ hi => h.2.2.2 i hi⟩
  · exact EvB.pos (bne_iff_ne.mpr (by omega)) (EvB.ff (fun h => h3 h.2.2.1))
theorem sIn (a lo hi : Int) : spec_l1In.f a lo hi = some (decide (lo ≤ a ∧ a ≤ hi)) := by
  unfold spec_l1In.f
  by_cases h : a ≥ lo
  · rw [if_pos h]; simp [h]
  · rw [if_neg h]; congr 1; symm; exact decide_eq_false (fun h' => h h'.1)
theorem sb_l1 (c : List Int) (d : List (List Int)) (i : Nat) (hrow : (rd_L1 d (i : Int)).length ≤ 4) (hi : i < d.length) (hd : d.length ≤ 4) {R : Prop}
    (hR : EvB (fun k => spec_BookOk.l0 k ((i + 1 : Nat) : Int) c d) R) : ∀ (e j : Nat), (rd_L1 d (i : Int)).length - j = e → j ≤ (rd_L1 d (i : Int)).length →
    EvB (fun k => spec_BookOk.l1 k (i : Int) (j : Int) c d) ((∀ j' : Nat, j ≤ j' → j' < (rd_L1 d (i : Int)).length → 0 ≤ rd (rd_L1 d (i : Int)) (j' : Int) ∧ rd (rd_L1 d (i : Int)) (j' : Int) ≤ 9) ∧ R) := by
  have hs : wrap64 ((i : Int) + 1) = ((i + 1 : Nat) : Int) := wsucc hi (by omega)
  intro e
  induction e with
  | zero =>
    intro j he hj
    refine EvB.step (fun k => by rw [spec_BookOk.l1]) ?_
    rw [hs]
    exact EvB.pos (by omega) (EvB.pos (by omega) (EvB.neg (by omega) (hR.congr ⟨fun h => ⟨fun j' h1 h2 => by omega, h⟩, fun h => h.2⟩)))
  | succ e ih =>
    intro j he hj
    have hlt : j < (rd_L1 d (i : Int)).length := by omega
    have hj1 : wrap64 ((j : Int) + 1) = ((j + 1 : Nat) : Int) := wsucc hlt (by omega)
    refine EvB.step (fun k => by rw [spec_BookOk.l1]) ?_
    refine EvB.pos (by omega) (EvB.pos (by omega) (EvB.pos (by omega) (EvB.pos (by omega) (EvB.bind0 (sIn _ _ _) ?_))))
    by_cases h1 : 0 ≤ rd (rd_L1 d (i : Int)) (j : Int) ∧ rd (rd_L1 d (i : Int)) (j : Int) ≤ 9
    · refine EvB.pos (decide_eq_true h1) ?_
      rw [hj1]
      refine (ih (j + 1) (by omega) (by omega)).congr ⟨fun h => ⟨fun j' h3 h4 => ?_, h.2⟩, fun h => ⟨fun j' h3 h4 => h.1 j' (by omega) h4, h.2⟩⟩
      by_cases e' : j' = j
      · subst e'; exact h1
      · exact h.1 j' (by omega) h4
    · exact EvB.neg (by simpa using h1) (EvB.ff (fun h => h1 (h.1 j (Nat.le_refl _) hlt)))
theorem sb_l0 (c : List Int) (d : List (List Int)) (h4 : c.length ≤ 4) (hl : d.length = c.length) : ∀ (e i : Nat), c.length - i = e → i ≤ c.length →
    EvB (fun k => spec_BookOk.l0 k (i : Int) c d) (∀ i' : Nat, i ≤ i' → i' < c.length → RowP c d i') := by
  intro e
  induction e with
  | zero =>
    intro i he hi
    refine EvB.step (fun k => by rw [spec_BookOk.l0]) ?_
    exact EvB.neg (by omega) (EvB.tt (fun i' h1 h2 => by omega))
  | succ e ih =>
    intro i he hi
    have hlt : i < c.length := by omega
    refine EvB.step (fun k => by rw [spec_BookOk.l0]) ?_
    refine EvB.pos (by omega) (EvB.pos (by omega) (EvB.bind0 (sIn _ _ _) ?_))
    have bad : ∀ (P : Prop), (P → ¬ RowP c d i) → P → EvB (fun k => spec_BookOk.j2 k (i : Int) true c d) (∀ i' : Nat, i ≤ i' → i' < c.length → RowP c d i') := by
      intro P hP p
      refine EvB.step (fun k => by rw [spec_BookOk.j2]) ?_
      exact EvB.pos rfl (EvB.ff (fun h => hP p (h i (Nat.le_refl _) hlt)))
    by_cases h1 : 0 ≤ rd c (i : Int) ∧ rd c (i : Int) ≤ 20
    · refine EvB.pos (decide_eq_true h1) (EvB.pos (by omega) ?_)
      by_cases h3 : ((rd_L1 d (i : Int)).length : Int) = (c.length : Int)
      · refine EvB.pos h3 (EvB.pos (by omega) ?_)
        by_cases h5 : rd (rd_L1 d (i : Int)) (i : Int) = 0
        · refine EvB.step (fun k => by rw [spec_BookOk.j2]) ?_
          refine EvB.neg (by rw [h5]; decide) ?_
          refine (sb_l1 c d i (by omega) (by omega) (by omega) (ih (i + 1) (by omega) (by omega)) _ 0 rfl (by omega)).congr ?_
          constructor
          · intro h i' h6 h7
            by_cases e' : i' = i
            · subst e'; exact ⟨h1.1, h1.2, by omega, h5, fun j hj => h.1 j (by omega) (by omega)⟩
            · exact h.2 i' (by omega) h7
          · intro h
            have hr := h i (Nat.le_refl _) hlt
            exact ⟨fun j' _ h7 => hr.2.2.2.2 j' (by omega), fun i' h6 h7 => h i' (by omega) h7⟩
        · have hb : (rd (rd_L1 d (i : Int)) (i : Int) != 0) = true := bne_iff_ne.mpr h5
          rw [hb]
          exact bad _ (fun p h => p h.2.2.2.1) h5
      · exact EvB.neg h3 (bad _ (fun p h => p (by rw [h.2.2.1])) h3)
    · exact EvB.neg (by simpa using h1) (bad _ (fun p h => p ⟨h.1, h.2.1⟩) h1)
theorem bookOk (c : List Int) (d : List (List Int)) : EvB (fun k => spec_BookOk.f k c d) (BookP c d) := by
  unfold spec_BookOk.f
  refine EvB.bind0 (sIn _ _ _) ?_
  by_cases h1 : 1 ≤ (c.length : Int) ∧ (c.length : Int) ≤ 4
  · refine EvB.pos (decide_eq_true h1) (EvB.step (fun k => by rw [spec_BookOk.j0]) ?_)
    by_cases h3 : d.length = c.length
    · refine EvB.neg (by rw [h3]; simp) ?_
      refine (sb_l0 c d (by omega) h3 _ 0 rfl (by omega)).congr ⟨fun h => ⟨by omega, by omega, h3, fun i hi => h i (by omega) hi⟩, fun h i _ hi => h.2.2.2 i hi⟩
    · exact EvB.pos (bne_iff_ne.mpr (by omega)) (EvB.ff (fun h => h3 h.2.2.1))
  · refine EvB.neg (by simpa using h1) (EvB.step (fun k => by rw [spec_BookOk.j0]) ?_)
    exact EvB.pos rfl (EvB.ff (fun h => h1 ⟨by have := h.1; omega, by have := h.2.1; omega⟩))
end Go.Proofs.Ytfooakkhkehpiaa.Bk
namespace Go.Proofs.Ytfooakkhkehpiaa.Mx
open Go.RowKit Go.Proofs.Ytfooakkhkehpiaa.PU Go.Proofs.Ytfooakkhkehpiaa.Qh Go.Proofs.Ytfooakkhkehpiaa.Bk Go.Proofs.YtfooakkhkehpiaaW.PrintWords Go.Proofs.YtfooakkhkehpiaaW.PrintMore
set_option linter.unusedVariables false
set_option linter.unusedSimpArgs false
abbrev db (d : List (List Int)) (i j : Nat) : Int := rd (rd_L1 d (i : Int)) (j : Int)
theorem rL (xs : List (List Int)) (i : Nat) : rd_L1 xs (i : Int) = xs.getD i [] := rfl
def rowF (n : Nat) (f : Nat → Int) : List Int := (List.range n).map f
def mk (n : Nat) (f : Nat → Nat → Int) : List (List Int) := (List.range n).map (fun i => rowF n (f i))
theorem rowF_len (n : Nat) (f : Nat → Int) : (rowF n f).length = n := by simp [rowF]
theorem mk_len (n : Nat) (f : Nat → Nat → Int) : (mk n f).length = n := by simp [mk]
theorem rd_rowF {n j : Nat} {f : Nat → Int} (h : j < n) : rd (rowF n f) (j : Int) = f j := by
  rw [rd_get _ _ (by rw [rowF_len]; exact h)]; simp [rowF]
theorem mk_get {n i : Nat} {f : Nat → Nat → Int} (h : i < n) : rd_L1 (mk n f) (i : Int) = rowF n (f i) := by
  rw [rL, List.getD_eq_getElem?_getD, List.getElem?_eq_getElem (by rw [mk_len]; exact h)]; simp [mk]
theorem rowF_congr {n : Nat} {f g : Nat → Int} (h : ∀ j, j < n → f j = g j) : rowF n f = rowF n g := by
  unfold rowF
  exact List.map_congr_left (fun j hj => h j (List.mem_range.mp hj))
theorem mk_congr {n : Nat} {f g : Nat → Nat → Int} (h : ∀ i, i < n → ∀ j, j < n → f i j = g i j) : mk n f = mk n g := by
  unfold mk
  exact List.map_congr_left (fun i hi => rowF_congr (h i (List.mem_range.mp hi)))
theorem rowF_of (l : List Int) {n : Nat} (h : l.length = n) : l = rowF n (fun j => rd l (j : Int)) := by
  apply List.ext_getElem (by rw [rowF_len, h])
  intro i h1 h2
  rw [← rd_get l i h1, ← rd_get _ i h2, rd_rowF (by rw [rowF_len] at h2; exact h2)]
theorem mk_of {c : List Int} {d : List (List Int)} (h : BookP c d) : d = mk c.length (db d) := by
  apply List.ext_getElem (by rw [mk_len, h.2.2.1])
  intro i h1 h2
  have hi : i < c.length := by rw [mk_len] at h2; exact h2
  have hr := (h.2.2.2 i hi).2.2.1
  have e1 : d[i] = rd_L1 d (i : Int) := by rw [rL, List.getD_eq_getElem?_getD, List.getElem?_eq_getElem h1]; rfl
  have e2 : (mk c.length (db d))[i] = rowF c.length (db d i) := by simp [mk]
  rw [e1, e2]
  exact rowF_of _ hr
theorem rowF_set {n j : Nat} {f : Nat → Int} {v : Int} (h : j < n) : (rowF n f).set j v = rowF n (fun j' => if j' = j then v else f j') := by
  apply List.ext_getElem (by simp [rowF])
  intro i h1 h2
  have hi : i < n := by rw [rowF_len] at h2; exact h2
  rw [List.getElem_set]
  by_cases e : j = i
  · subst e; simp [rowF]
  · rw [if_neg e]; simp only [rowF, List.getElem_map, List.getElem_range]; rw [if_neg (fun z => e z.symm)]
theorem mk_set {n i j : Nat} {f : Nat → Nat → Int} {v : Int} (hi : i < n) (hj : j < n) : (mk n f).set i ((rd_L1 (mk n f) (i : Int)).set j v) = mk n (fun i' j' => if i' = i ∧ j' = j then v else f i' j') := by
  rw [mk_get hi, rowF_set hj]
  apply List.ext_getElem (by simp [mk])
  intro a h1 h2
  have ha : a < n := by rw [mk_len] at h2; exact h2
  rw [List.getElem_set]
  by_cases e : i = a
  · subst e
    rw [if_pos rfl]
    simp only [mk, List.getElem_map, List.getElem_range]
    exact rowF_congr (fun j' _ => by simp)
  · rw [if_neg e]
    simp only [mk, List.getElem_map, List.getElem_range]
    exact rowF_congr (fun j' _ => by rw [if_neg (fun z => e z.1.symm)])
theorem scopy {c : List Int} {d : List (List Int)} (h : BookP c d) : Ev (fun k => spec_l2Copy.f k c d) (c, d) := by
  have h4 := h.2.1
  have hdl := h.2.2.1
  unfold spec_l2Copy.f
  refine evBind0 rfl (evPos (by simp only [List.length_nil]; omega) ?_)
  rw [List.nil_append]
  have key : ∀ (e i : Nat), d.length - i = e → i ≤ d.length → Ev (fun k => spec_l2Copy.l0 k (i : Int) c d c (d.take i)) (c, d) := by
    intro e
    induction e with
    | zero =>
      intro i he hi
      obtain rfl : i = d.length := by omega
      refine Ev.step (fun k => by rw [spec_l2Copy.l0]) ?_
      rw [List.take_length]
      exact evNeg (by omega) (Ev.now _)
    | succ e ih =>
      intro i he hi
      have hlt : i < d.length := by omega
      have hr := (h.2.2.2 i (by omega)).2.2.1
      have hs : Aside0 (wrap64 ((i : Int) + 1) = ((i + 1 : Nat) : Int)) := ⟨wsucc hlt (by omega)⟩
      have htl : (d.take i).length = i := by rw [List.length_take]; omega
      have e2 : d.take i ++ [rd_L1 d (i : Int)] = d.take (i + 1) := by
        rw [rL, List.getD_eq_getElem?_getD, List.getElem?_eq_getElem hlt, List.take_succ_eq_append_getElem hlt]; rfl
      refine Ev.step (fun k => by rw [spec_l2Copy.l0]) ?_
      rw [hs.out]
      refine evPos (by omega) (evBind0 rfl (evPos (by omega) (evPos (by simp only [List.length_nil]; omega) (evPos (by omega) ?_))))
      rw [List.nil_append, e2]
      exact ih (i + 1) (by omega) (by omega)
  exact key d.length 0 rfl (by omega)
end Go.Proofs.Ytfooakkhkehpiaa.Mx
namespace Go.Proofs.Ytfooakkhkehpiaa.Cr
open Go.RowKit Go.Proofs.Ytfooakkhkehpiaa.PU Go.Proofs.Ytfooakkhkehpiaa.Qh Go.Proofs.Ytfooakkhkehpiaa.Bk Go.Proofs.Ytfooakkhkehpiaa.Mx Go.Proofs.YtfooakkhkehpiaaW.PrintWords Go.Proofs.YtfooakkhkehpiaaW.PrintMore
set_option linter.unusedVariables false
set_option linter.unusedSimpArgs false
theorem wpred {n : Nat} (h : 0 < n) (hn : n ≤ 4611686018427387904) : wrap64 ((n : Int) - 1) = ((n - 1 : Nat) : Int) := by rw [w64 (by omega) (by omega)]; omega
def la (p : List Int) : Int := rd p ((p.length - 1 : Nat) : Int)
def self (d : List (List Int)) (p : List Int) : List (List Int) := if 1 < p.length ∧ 0 < rd (rd_L1 d (la p)) (rd p 0) then [p] else []
def rest (F : List Int → List (List Int)) (d : List (List Int)) (p : List Int) : Nat → Nat → List (List Int)
  | 0, _ => []
  | e + 1, j => (if rd (rd_L1 d (la p)) (j : Int) = 0 ∨ (j : Int) ∈ p then [] else F (p ++ [(j : Int)])) ++ rest F d p e (j + 1)
def P (n : Nat) (d : List (List Int)) : Nat → List Int → List (List Int)
  | 0, _ => []
  | m + 1, p => self d p ++ rest (P n d m) d p (n - ((rd p 0).toNat + 1)) ((rd p 0).toNat + 1)
def PathP (n : Nat) (d : List (List Int)) (p : List Int) : Prop :=
  0 < p.length ∧ p.Nodup ∧ (∀ x ∈ p, rd p 0 ≤ x ∧ 0 ≤ x ∧ x < (n : Int)) ∧ ∀ i : Nat, i + 1 < p.length → 0 < rd (rd_L1 d (rd p (i : Int))) (rd p ((i + 1 : Nat) : Int))
theorem pigeon : ∀ (n : Nat) (p : List Int), p.Nodup → (∀ x ∈ p, 0 ≤ x ∧ x < (n : Int)) → p.length ≤ n
  | 0, p, _, h => by
    cases p with
    | nil => simp
    | cons a r => have := h a List.mem_cons_self; omega
  | n + 1, p, hd, h => by
    by_cases hm : (n : Int) ∈ p
    · have h1 := pigeon n (p.erase (n : Int)) (hd.erase _) (fun x hx => by
        have h2 := h x (List.mem_of_mem_erase hx)
        have h3 : x ≠ (n : Int) := (List.Nodup.mem_erase_iff hd).1 hx |>.1
        omega)
      have h2 := List.length_erase_of_mem hm
      omega
    · have h1 := pigeon n p hd (fun x hx => by
        have h2 := h x hx
        have h3 : x ≠ (n : Int) := fun e => hm (e ▸ hx)
        omega)
      omega
theorem rd_mem {p : List Int} {i : Nat} (h : i < p.length) : rd p (i : Int) ∈ p := by rw [rd_get p i h]; exact List.getElem_mem h
theorem mem_rd {p : List Int} {x : Int} (h : x ∈ p) : ∃ i : Nat, i < p.length ∧ rd p (i : Int) = x := by
  obtain ⟨i, hi, e⟩ := List.mem_iff_getElem.mp h
  exact ⟨i, hi, by rw [rd_get p i hi]; exact e⟩
theorem rd0 (p : List Int) : rd p 0 = rd p ((0 : Nat) : Int) := rfl
theorem la_mem {p : List Int} (h : 0 < p.length) : la p ∈ p := rd_mem (by omega)
section
variable {n : Nat} {d : List (List Int)} {p : List Int}
theorem PathP.len (h : PathP n d p) : p.length ≤ n := pigeon n p h.2.1 (fun x hx => (h.2.2.1 x hx).2)
theorem PathP.head (h : PathP n d p) : 0 ≤ rd p 0 ∧ rd p 0 < (n : Int) := by
  have := h.2.2.1 (rd p 0) (by rw [rd0]; exact rd_mem h.1)
  exact ⟨this.2.1, this.2.2⟩
theorem PathP.last (h : PathP n d p) : 0 ≤ la p ∧ la p < (n : Int) := by
  have := h.2.2.1 (la p) (la_mem h.1)
  exact ⟨this.2.1, this.2.2⟩
theorem PathP.one {i : Nat} (hi : i < n) : PathP n d [(i : Int)] :=
  ⟨by simp, by simp, fun x hx => by rw [List.mem_singleton.1 hx]; exact ⟨Int.le_refl _, by omega, by omega⟩, fun k hk => by simp at hk⟩
theorem PathP.snoc (h : PathP n d p) {j : Nat} (hj : rd p 0 < (j : Int)) (hn : j < n) (hm : (j : Int) ∉ p) (he : 0 < rd (rd_L1 d (la p)) (j : Int)) : PathP n d (p ++ [(j : Int)]) := by
  have h0 : rd (p ++ [(j : Int)]) 0 = rd p 0 := by rw [rd0, rd_app, if_pos h.1]; rfl
  refine ⟨by simp, ?_, fun x hx => ?_, fun i hi => ?_⟩
  · rw [List.nodup_append]
    exact ⟨h.2.1, by simp, fun a ha b hb e => hm (by rw [List.mem_singleton.1 hb] at e; exact e ▸ ha)⟩
  · rw [h0]
    rcases List.mem_append.1 hx with hx | hx
    · exact h.2.2.1 x hx
    · rw [List.mem_singleton.1 hx]; exact ⟨by omega, by omega, by omega⟩
  · rw [List.length_append, List.length_singleton] at hi
    rw [rd_app, rd_app, if_pos (by omega)]
    by_cases hl : i + 1 < p.length
    · rw [if_pos hl]; exact h.2.2.2 i hl
    · rw [if_neg hl, if_pos (by omega)]
      have : i = p.length - 1 := by omega
      rw [this]
      exact he
end
def CirP (n : Nat) (d : List (List Int)) (q : List Int) : Prop := PathP n d q ∧ 1 < q.length ∧ 0 < rd (rd_L1 d (la q)) (rd q 0)
theorem mem_rest {F : List Int → List (List Int)} {d : List (List Int)} {p : List Int} {y : List Int} : ∀ (e j : Nat), y ∈ rest F d p e j → ∃ j' : Nat, j ≤ j' ∧ j' < j + e ∧ rd (rd_L1 d (la p)) (j' : Int) ≠ 0 ∧ (j' : Int) ∉ p ∧ y ∈ F (p ++ [(j' : Int)])
  | 0, j, h => by simp [rest] at h
  | e + 1, j, h => by
    rw [rest] at h
    rcases List.mem_append.1 h with h | h
    · by_cases hc : rd (rd_L1 d (la p)) (j : Int) = 0 ∨ (j : Int) ∈ p
      · rw [if_pos hc] at h; simp at h
      · rw [if_neg hc] at h
        exact ⟨j, by omega, by omega, fun z => hc (.inl z), fun z => hc (.inr z), h⟩
    · obtain ⟨j', h1, h2, h3⟩ := mem_rest e (j + 1) h
      exact ⟨j', by omega, by omega, h3⟩
theorem row_ge {c : List Int} {d : List (List Int)} (h : BookP c d) {i j : Int} (hi : 0 ≤ i ∧ i < (c.length : Int)) (hj : 0 ≤ j ∧ j < (c.length : Int)) : 0 ≤ rd (rd_L1 d i) j ∧ rd (rd_L1 d i) j ≤ 9 := by
  obtain ⟨i, rfl⟩ := Int.eq_ofNat_of_zero_le hi.1
  obtain ⟨j, rfl⟩ := Int.eq_ofNat_of_zero_le hj.1
  exact (h.2.2.2 i (by omega)).2.2.2.2 j (by omega)
theorem row_len {c : List Int} {d : List (List Int)} (h : BookP c d) {i : Int} (hi : 0 ≤ i ∧ i < (c.length : Int)) : (rd_L1 d i).length = c.length := by
  obtain ⟨i, rfl⟩ := Int.eq_ofNat_of_zero_le hi.1
  exact (h.2.2.2 i (by omega)).2.2.1
theorem mem_P {c : List Int} {d : List (List Int)} (h : BookP c d) {y : List Int} : ∀ (m : Nat) (p : List Int), PathP c.length d p → y ∈ P c.length d m p → CirP c.length d y
  | 0, p, _, hy => by simp [P] at hy
  | m + 1, p, hp, hy => by
    rw [P] at hy
    rcases List.mem_append.1 hy with hy | hy
    · unfold self at hy
      by_cases hc : 1 < p.length ∧ 0 < rd (rd_L1 d (la p)) (rd p 0)
      · rw [if_pos hc] at hy
        rw [List.mem_singleton.1 hy]
        exact ⟨hp, hc.1, hc.2⟩
      · rw [if_neg hc] at hy; simp at hy
    · obtain ⟨j, h1, h2, h3, h4, h5⟩ := mem_rest _ _ hy
      have hh := hp.head
      have hjn : j < c.length := by omega
      have hge := row_ge h hp.last (j := (j : Int)) ⟨by omega, by omega⟩
      exact mem_P h m _ (hp.snoc (by omega) hjn h4 (by omega)) h5
theorem rest_len {F : List Int → List (List Int)} {d : List (List Int)} {p : List Int} {B : Nat} (hF : ∀ q, (F q).length ≤ B) : ∀ (e j : Nat), (rest F d p e j).length ≤ e * B
  | 0, j => by simp [rest]
  | e + 1, j => by
    have ih := rest_len hF (d := d) (p := p) e (j + 1)
    rw [rest, List.length_append, Nat.succ_mul]
    have : (if rd (rd_L1 d (la p)) (j : Int) = 0 ∨ (j : Int) ∈ p then [] else F (p ++ [(j : Int)])).length ≤ B := by
      split
      · simp
      · exact hF _
    omega
theorem P_len {n : Nat} (hn : n ≤ 4) (d : List (List Int)) : ∀ (m : Nat) (p : List Int), (P n d m p).length ≤ 5 ^ m
  | 0, p => by simp [P]
  | m + 1, p => by
    have h1 := rest_len (P_len hn d m) (d := d) (p := p) (n - ((rd p 0).toNat + 1)) ((rd p 0).toNat + 1)
    have h2 : (self d p).length ≤ 1 := by unfold self; split <;> simp
    have h3 : (n - ((rd p 0).toNat + 1)) * 5 ^ m ≤ 4 * 5 ^ m := Nat.mul_le_mul_right _ (by omega)
    have h4 : 1 ≤ 5 ^ m := Nat.one_le_pow _ _ (by omega)
    rw [P, List.length_append, Nat.pow_succ]
    omega
theorem inL (p : List Int) (j : Int) (i : Nat) (h : ∀ i' : Nat, i' < i → rd p (i' : Int) ≠ j) (hi : p.length ≤ i) : j ∉ p := fun hm => by
  obtain ⟨k, hk, e⟩ := mem_rd hm
  exact h k (by omega) e
section
variable {c : List Int} {d : List (List Int)}
theorem paths (h : BookP c d) : ∀ (m : Nat) (p : List Int), PathP c.length d p → c.length + 1 ≤ m + p.length → m ≤ 4 → Ev (fun k => spec_l3Paths.f k c d p) (P c.length d m p)
  | 0, p, hp, hm, _ => by have := hp.len; omega
  | m + 1, p, hp, hm, hm4 => by
    have h4 := h.2.1
    have hdl := h.2.2.1
    have hpl := hp.len
    have hp0 := hp.1
    have hh := hp.head
    have hl := hp.last
    have hrl := row_len h hl
    have hlw : Aside0 (wrap64 ((p.length : Int) - 1) = ((p.length - 1 : Nat) : Int)) := ⟨wpred hp0 (by omega)⟩
    have hla : rd p ((p.length - 1 : Nat) : Int) = la p := rfl
    have h5 : 5 ^ m ≤ 125 := by
      have : m ≤ 3 := by omega
      calc 5 ^ m ≤ 5 ^ 3 := Nat.pow_le_pow_right (by omega) this
        _ = 125 := rfl
    obtain ⟨a, ha⟩ := Int.eq_ofNat_of_zero_le hh.1
    have haw : Aside0 (wrap64 (rd p 0 + 1) = ((a + 1 : Nat) : Int)) := ⟨by rw [ha]; exact wsucc (n := c.length) (by omega) (by omega)⟩
    -- the banks that may follow
    have loop : ∀ (e j : Nat) (acc : List (List Int)), c.length - j = e → j ≤ c.length → a < j → acc.length + e * 5 ^ m ≤ 1000 → Ev (fun k => spec_l3Paths.l0 k p acc (la p) (j : Int) c d) (acc ++ rest (P c.length d m) d p e j) := by
      intro e
      induction e with
      | zero =>
        intro j acc he hj _ _
        refine Ev.step (fun k => by rw [spec_l3Paths.l0]) ?_
        exact evNeg (by omega) (evEq (Ev.now _) (by simp [rest]))
      | succ e ih =>
        intro j acc he hj haj hacc
        have hlt : j < c.length := by omega
        have hj1 : Aside0 (wrap64 ((j : Int) + 1) = ((j + 1 : Nat) : Int)) := ⟨wsucc hlt (by omega)⟩
        have hmul : acc.length + (e * 5 ^ m + 5 ^ m) ≤ 1000 := by have z := hacc; rw [Nat.succ_mul] at z; exact z
        have h1p : 1 ≤ 5 ^ m := Nat.one_le_pow _ _ (by omega)
        refine Ev.step (fun k => by rw [spec_l3Paths.l0]) ?_
        rw [hj1.out]
        refine evPos (by omega) (evPos hl.1 (evPos (by omega) (evPos (by omega) (evPos (by omega) ?_))))
        by_cases hz : rd (rd_L1 d (la p)) (j : Int) = 0
        · refine evPos hz (evEq (ih (j + 1) acc (by omega) (by omega) (by omega) (by omega)) ?_)
          rw [rest, if_pos (.inl hz), List.nil_append]
        · refine evNeg hz ?_
          have inner : ∀ (f i : Nat), p.length - i = f → i ≤ p.length → (∀ i' : Nat, i' < i → rd p (i' : Int) ≠ (j : Int)) → Ev (fun k => spec_l3Paths.l1 k p acc (la p) (j : Int) (i : Int) c d) (acc ++ rest (P c.length d m) d p (e + 1) j) := by
            intro f
            induction f with
            | zero =>
              intro i hf hi hno
              have hmem := inL p (j : Int) i hno (by omega)
              have hge := row_ge h hl (j := (j : Int)) ⟨by omega, by omega⟩
              have hps := hp.snoc (j := j) (by omega) hlt hmem (by omega)
              refine Ev.step (fun k => by rw [spec_l3Paths.l1]) ?_
              rw [hj1.out]
              refine evNeg (by omega) (evBind0 rfl (evPos (by simp; omega) (evBind0 rfl (evBind0 rfl (evPos (by simp; omega) ?_)))))
              rw [List.nil_append]
              have hlen : (p ++ [(j : Int)]).length = p.length + 1 := by simp
              have hPl := P_len h4 d m (p ++ [(j : Int)])
              refine Ev.bind (paths h m _ hps (by omega) (by omega)) (evPos (by omega) ?_)
              refine evEq (ih (j + 1) _ (by omega) (by omega) (by omega) (by rw [List.length_append]; omega)) ?_
              rw [rest, if_neg (fun z => z.elim hz hmem), List.append_assoc]
            | succ f ih2 =>
              intro i hf hi hno
              have hi1 : Aside0 (wrap64 ((i : Int) + 1) = ((i + 1 : Nat) : Int)) := ⟨wsucc (n := p.length) (by omega) (by omega)⟩
              refine Ev.step (fun k => by rw [spec_l3Paths.l1]) ?_
              rw [hj1.out, hi1.out]
              refine evPos (by omega) (evPos (by omega) ?_)
              by_cases hij : rd p (i : Int) = (j : Int)
              · refine evPos hij (evEq (ih (j + 1) acc (by omega) (by omega) (by omega) (by omega)) ?_)
                rw [rest, if_pos (.inr (hij ▸ rd_mem (by omega))), List.nil_append]
              · refine evNeg hij (ih2 (i + 1) (by omega) (by omega) (fun i' hi' => ?_))
                by_cases e' : i' = i
                · subst e'; exact hij
                · exact hno i' (by omega)
          exact inner p.length 0 rfl (by omega) (fun i' hi' => by omega)
    have ha' : (rd p 0).toNat = a := by rw [ha]; rfl
    have he4 : (c.length - (a + 1)) * 5 ^ m ≤ 3 * 5 ^ m := Nat.mul_le_mul_right _ (by omega)
    have tail : ∀ acc : List (List Int), acc.length ≤ 1 → Ev (fun k => spec_l3Paths.j1 k p acc (la p) c d) (acc ++ rest (P c.length d m) d p (c.length - ((rd p 0).toNat + 1)) ((rd p 0).toNat + 1)) := by
      intro acc hacc
      refine Ev.step (fun k => by rw [spec_l3Paths.j1]) ?_
      rw [haw.out, ha']
      refine evPos (by omega) (loop _ (a + 1) acc rfl (by omega) (by omega) (by omega))
    refine Ev.step (fun k => by rw [spec_l3Paths.f]) ?_
    rw [hlw.out, hla]
    refine evBind0 rfl (evPos (by omega) (evPos (by omega) ?_))
    rw [P]
    by_cases h1 : 1 < p.length
    · refine evPos (by omega) (evPos hl.1 (evPos (by omega) (evPos (by omega) (evPos hh.1 (evPos (by omega) ?_)))))
      refine Ev.step (fun k => by rw [spec_l3Paths.j0]) ?_
      by_cases hc : 0 < rd (rd_L1 d (la p)) (rd p 0)
      · refine evPos (decide_eq_true (by omega)) (evBind0 rfl (evPos (by simp; omega) (evBind0 rfl (evPos (by simp) ?_))))
        rw [List.nil_append, List.nil_append]
        have : self d p = [p] := if_pos ⟨h1, hc⟩
        rw [this]
        exact tail [p] (by simp)
      · refine evNeg (by simpa using hc) ?_
        have : self d p = [] := if_neg (fun z => hc z.2)
        rw [this]
        exact tail [] (by simp)
    · refine evNeg (by omega) ?_
      refine Ev.step (fun k => by rw [spec_l3Paths.j0]) ?_
      refine evNeg (by decide) ?_
      have : self d p = [] := if_neg (fun z => h1 z.1)
      rw [this]
      exact tail [] (by simp)
end
def lexlt : List Int → List Int → Bool
  | a :: r, b :: s => if a = b then lexlt r s else decide (a < b)
  | _, _ => false
def bef (a b : List Int) : Bool := if a.length = b.length then lexlt a b else decide (a.length < b.length)
theorem before (a b : List Int) (ha : a.length ≤ 4611686018427387904) : Ev (fun k => spec_l3Before.f k a b) (bef a b) := by
  unfold spec_l3Before.f bef
  by_cases hl : a.length = b.length
  · rw [if_pos hl]
    refine evPos (by omega) ?_
    have key : ∀ (e i : Nat), a.length - i = e → i ≤ a.length → Ev (fun k => spec_l3Before.l0 k a b (i : Int)) (lexlt (a.drop i) (b.drop i)) := by
      intro e
      induction e with
      | zero =>
        intro i he hi
        refine Ev.step (fun k => by rw [spec_l3Before.l0]) ?_
        rw [List.drop_of_length_le (by omega)]
        exact evNeg (by omega) (evEq (Ev.now _) (by simp [lexlt]))
      | succ e ih =>
        intro i he hi
        have hi1 : Aside0 (wrap64 ((i : Int) + 1) = ((i + 1 : Nat) : Int)) := ⟨wsucc (n := a.length) (by omega) ha⟩
        refine Ev.step (fun k => by rw [spec_l3Before.l0]) ?_
        rw [hi1.out]
        refine evPos (by omega) (evPos (by omega) (evPos (by omega) ?_))
        rw [drop_rd a i (by omega), drop_rd b i (by omega), lexlt]
        by_cases hc : rd a (i : Int) = rd b (i : Int)
        · rw [if_pos hc]; exact evPos hc (ih (i + 1) (by omega) (by omega))
        · rw [if_neg hc]; exact evNeg hc (Ev.now _)
    have := key a.length 0 rfl (by omega)
    simpa using this
  · rw [if_neg hl]
    refine evNeg (by omega) (evEq (Ev.now _) ?_)
    rw [decide_eq_decide]; omega
def ins (lt : List Int → List Int → Bool) : Nat → List (List Int) → List (List Int)
  | 0, xs => xs
  | j + 1, xs => if lt (xs.getD (j + 1) []) (xs.getD j []) = true then ins lt j ((xs.set (j + 1) (xs.getD j [])).set j (xs.getD (j + 1) [])) else xs
def srt (lt : List Int → List Int → Bool) : Nat → Nat → List (List Int) → List (List Int)
  | 0, _, xs => xs
  | e + 1, i, xs => srt lt e (i + 1) (ins lt i xs)
theorem ins_len (lt : List Int → List Int → Bool) : ∀ (j : Nat) (xs : List (List Int)), (ins lt j xs).length = xs.length
  | 0, xs => rfl
  | j + 1, xs => by
    rw [ins]; split
    · rw [ins_len]; simp
    · rfl
theorem ins_mem (lt : List Int → List Int → Bool) {y : List Int} : ∀ (j : Nat) (xs : List (List Int)), j < xs.length → y ∈ ins lt j xs → y ∈ xs
  | 0, xs, _, h => h
  | j + 1, xs, hj, h => by
    rw [ins] at h; split at h
    · have h1 := ins_mem lt j _ (by simp; omega) h
      rcases List.mem_or_eq_of_mem_set h1 with h2 | h2
      · rcases List.mem_or_eq_of_mem_set h2 with h3 | h3
        · exact h3
        · rw [h3]; exact getD_mem [] xs j (by omega)
      · rw [h2]; exact getD_mem [] xs (j + 1) hj
    · exact h
theorem srt_len (lt : List Int → List Int → Bool) : ∀ (e i : Nat) (xs : List (List Int)), (srt lt e i xs).length = xs.length
  | 0, _, xs => rfl
  | e + 1, i, xs => by rw [srt, srt_len, ins_len]
theorem srt_mem (lt : List Int → List Int → Bool) {y : List Int} : ∀ (e i : Nat) (xs : List (List Int)), i + e ≤ xs.length → y ∈ srt lt e i xs → y ∈ xs
  | 0, _, xs, _, h => h
  | e + 1, i, xs, hi, h => by
    rw [srt] at h
    exact ins_mem lt i xs (by omega) (srt_mem lt e (i + 1) _ (by rw [ins_len]; omega) h)
def found (n : Nat) (d : List (List Int)) : Nat → Nat → List (List Int)
  | 0, _ => []
  | e + 1, i => P n d 4 [(i : Int)] ++ found n d e (i + 1)
theorem found_len {n : Nat} (hn : n ≤ 4) (d : List (List Int)) : ∀ (e i : Nat), (found n d e i).length ≤ e * 625
  | 0, i => by simp [found]
  | e + 1, i => by
    have h1 := P_len hn d 4 [(i : Int)]
    have h2 := found_len hn d e (i + 1)
    rw [found, List.length_append, Nat.succ_mul]; omega
def circ (c : List Int) (d : List (List Int)) : List (List Int) := srt bef ((found c.length d c.length 0).length - 1) 1 (found c.length d c.length 0)
section
variable {c : List Int} {d : List (List Int)}
theorem mem_found (h : BookP c d) {y : List Int} : ∀ (e i : Nat), i + e = c.length → y ∈ found c.length d e i → CirP c.length d y
  | 0, i, _, hy => by simp [found] at hy
  | e + 1, i, hi, hy => by
    rw [found] at hy
    rcases List.mem_append.1 hy with hy | hy
    · exact mem_P h 4 _ (PathP.one (by omega)) hy
    · exact mem_found h e (i + 1) (by omega) hy
theorem circ_len (c : List Int) (d : List (List Int)) : (circ c d).length = (found c.length d c.length 0).length := srt_len _ _ _ _
theorem mem_circ (h : BookP c d) {y : List Int} (hy : y ∈ circ c d) : CirP c.length d y := by
  by_cases h0 : (found c.length d c.length 0).length = 0
  · have := circ_len c d
    rw [h0, List.length_eq_zero_iff] at this
    rw [this] at hy; simp at hy
  · exact mem_found h c.length 0 (by omega) (srt_mem bef _ 1 _ (by omega) hy)
theorem sort_l2 {r : List (List Int)} (n : Nat) (hn : n ≤ 100000) (x5 : Int) (hrow : Nat) (hr4 : hrow ≤ 4611686018427387904) : ∀ (j : Nat) (xs : List (List Int)), j < xs.length → xs.length = n → (∀ y ∈ xs, y.length ≤ hrow) →
    Ev (fun k => spec_CirclesOf.l1 k (ins bef j xs) (wrap64 (x5 + 1))) r → Ev (fun k => spec_CirclesOf.l2 k xs x5 (j : Int)) r
  | 0, xs, hj, hxn, hrw, hR => by
    refine Ev.step (fun k => by rw [spec_CirclesOf.l2]) ?_
    exact evNeg (by omega) hR
  | j + 1, xs, hj, hxn, hrw, hR => by
    have hj1 : Aside0 (wrap64 (((j + 1 : Nat) : Int) - 1) = (j : Int)) := ⟨by rw [w64 (by omega) (by omega)]; omega⟩
    refine Ev.step (fun k => by rw [spec_CirclesOf.l2]) ?_
    rw [hj1.out]
    refine evPos (by omega) (evPos (by omega) (evPos (by omega) (evPos (by omega) (evPos (by omega) ?_))))
    have e1 : rd_L1 xs ((j + 1 : Nat) : Int) = xs.getD (j + 1) [] := rfl
    have e2 : rd_L1 xs (j : Int) = xs.getD j [] := rfl
    rw [e1, e2]
    have m1 := hrw _ (getD_mem [] xs (j + 1) hj)
    have m2 := hrw _ (getD_mem [] xs j (by omega))
    refine Ev.bind (before _ _ (by omega)) ?_
    rw [ins] at hR
    by_cases hb : bef (xs.getD (j + 1) []) (xs.getD j []) = true
    · rw [if_pos hb] at hR
      refine evPos hb ?_
      refine sort_l2 n hn x5 hrow hr4 j _ (by simp; omega) (by simp [hxn]) (fun y hy => ?_) hR
      rcases List.mem_or_eq_of_mem_set hy with h2 | h2
      · rcases List.mem_or_eq_of_mem_set h2 with h3 | h3
        · exact hrw y h3
        · rw [h3]; exact m2
      · rw [h2]; exact m1
    · rw [if_neg hb] at hR
      exact evNeg hb hR
theorem sort_l1 (n : Nat) (hn : n ≤ 100000) (hrow : Nat) (hr4 : hrow ≤ 4611686018427387904) : ∀ (e i : Nat) (xs : List (List Int)), xs.length = n → n - i = e → (∀ y ∈ xs, y.length ≤ hrow) → Ev (fun k => spec_CirclesOf.l1 k xs (i : Int)) (srt bef e i xs)
  | 0, i, xs, hxn, he, hrw => by
    refine Ev.step (fun k => by rw [spec_CirclesOf.l1]) ?_
    exact evNeg (by omega) (Ev.now _)
  | e + 1, i, xs, hxn, he, hrw => by
    have hi1 : wrap64 ((i : Int) + 1) = ((i + 1 : Nat) : Int) := wsucc (n := n) (by omega) (by omega)
    refine Ev.step (fun k => by rw [spec_CirclesOf.l1]) ?_
    refine evPos (by omega) ?_
    refine sort_l2 n hn (i : Int) hrow hr4 i xs (by omega) hxn hrw ?_
    rw [hi1, srt]
    exact sort_l1 n hn hrow hr4 e (i + 1) _ (by rw [ins_len, hxn]) (by omega) (fun y hy => hrw y (ins_mem bef i xs (by omega) hy))
theorem sCircles (h : BookP c d) : Ev (fun k => spec_CirclesOf.f k c d) (circ c d) := by
  have h4 := h.2.1
  unfold spec_CirclesOf.f circ
  have key : ∀ (e i : Nat) (acc : List (List Int)), c.length - i = e → i ≤ c.length → acc.length ≤ i * 625 → acc ++ found c.length d e i = found c.length d c.length 0 → Ev (fun k => spec_CirclesOf.l0 k acc (i : Int) c d) (srt bef ((found c.length d c.length 0).length - 1) 1 (found c.length d c.length 0)) := by
    intro e
    induction e with
    | zero =>
      intro i acc he hi hacc hE
      refine Ev.step (fun k => by rw [spec_CirclesOf.l0]) ?_
      refine evNeg (by omega) (Ev.step (fun k => by rw [spec_CirclesOf.j1]) ?_)
      rw [found, List.append_nil] at hE
      have hfl := found_len h4 d c.length 0
      rw [hE]
      exact sort_l1 (found c.length d c.length 0).length (by omega) c.length (by omega) _ 1 _ rfl rfl (fun y hy => (mem_found h c.length 0 (by omega) hy).1.len)
    | succ e ih =>
      intro i acc he hi hacc hE
      have hlt : i < c.length := by omega
      have hi1 : Aside0 (wrap64 ((i : Int) + 1) = ((i + 1 : Nat) : Int)) := ⟨wsucc hlt (by omega)⟩
      have hPl := P_len h4 d 4 [(i : Int)]
      refine Ev.step (fun k => by rw [spec_CirclesOf.l0]) ?_
      rw [hi1.out]
      refine evPos (by omega) (Ev.bind ((bookOk c d).yes h) (evPos rfl (Ev.bind (paths h 4 _ (PathP.one hlt) (by simp; omega) (by omega)) (evPos (by omega) ?_))))
      refine ih (i + 1) _ (by omega) (by omega) (by rw [List.length_append, Nat.succ_mul]; omega) ?_
      rw [List.append_assoc]
      rw [found] at hE
      exact hE
  exact key c.length 0 [] rfl (by omega) (by simp) (by simp)
end
end Go.Proofs.Ytfooakkhkehpiaa.Cr
namespace Go.Proofs.Ytfooakkhkehpiaa.Sk
open Go.RowKit Go.Proofs.Ytfooakkhkehpiaa.PU Go.Proofs.Ytfooakkhkehpiaa.Qh Go.Proofs.Ytfooakkhkehpiaa.Bk Go.Proofs.Ytfooakkhkehpiaa.Mx Go.Proofs.Ytfooakkhkehpiaa.Cr Go.Proofs.YtfooakkhkehpiaaW.PrintWords Go.Proofs.YtfooakkhkehpiaaW.PrintMore
set_option linter.unusedVariables false
set_option linter.unusedSimpArgs false
theorem mn_le (a b : Int) : mn a b ≤ a ∧ mn a b ≤ b ∧ (mn a b = a ∨ mn a b = b) := by
  unfold mn
  split <;> omega
def nx (q : List Int) (k : Nat) : Nat := (k + 1) % q.length
def edge (d : List (List Int)) (q : List Int) (k : Nat) : Int := rd (rd_L1 d (rd q (k : Int))) (rd q ((nx q k : Nat) : Int))
def low (d : List (List Int)) (q : List Int) : Nat → Nat → Int → Int
  | 0, _, x => x
  | e + 1, k, x => low d q e (k + 1) (mn x (edge d q k))
theorem low_le (d : List (List Int)) (q : List Int) : ∀ (e k : Nat) (x : Int), low d q e k x ≤ x ∧ (∀ i, k ≤ i → i < k + e → low d q e k x ≤ edge d q i) ∧ (low d q e k x = x ∨ ∃ i, k ≤ i ∧ i < k + e ∧ low d q e k x = edge d q i)
  | 0, k, x => ⟨Int.le_refl _, fun i _ _ => by omega, .inl rfl⟩
  | e + 1, k, x => by
    obtain ⟨h1, h2, h3⟩ := low_le d q e (k + 1) (mn x (edge d q k))
    obtain ⟨m1, m2, m3⟩ := mn_le x (edge d q k)
    refine ⟨by rw [low]; omega, fun i hi hi2 => ?_, ?_⟩
    · rw [low]
      by_cases e' : i = k
      · subst e'; omega
      · exact h2 i (by omega) (by omega)
    · rw [low]
      rcases h3 with h3 | ⟨i, i1, i2, i3⟩
      · rcases m3 with m3 | m3
        · left; omega
        · right; exact ⟨k, by omega, by omega, by omega⟩
      · right; exact ⟨i, by omega, by omega, i3⟩
def lowest (d : List (List Int)) (q : List Int) : Int := low d q q.length 0 9
def hit (q : List Int) (k i j : Nat) : Bool := (List.range k).any (fun k' => decide (rd q (k' : Int) = (i : Int) ∧ rd q ((nx q k' : Nat) : Int) = (j : Int)))
theorem hit_iff {q : List Int} {k i j : Nat} : hit q k i j = true ↔ ∃ k', k' < k ∧ rd q (k' : Int) = (i : Int) ∧ rd q ((nx q k' : Nat) : Int) = (j : Int) := by
  unfold hit
  rw [List.any_eq_true]
  constructor
  · rintro ⟨k', h1, h2⟩
    exact ⟨k', List.mem_range.1 h1, (of_decide_eq_true h2).1, (of_decide_eq_true h2).2⟩
  · rintro ⟨k', h1, h2, h3⟩
    exact ⟨k', List.mem_range.2 h1, decide_eq_true ⟨h2, h3⟩⟩
def part (d : List (List Int)) (q : List Int) (k i j : Nat) : Int := if hit q k i j = true then db d i j - lowest d q else db d i j
def struck (c : List Int) (d : List (List Int)) (q : List Int) : List (List Int) := mk c.length (part d q q.length)
section
variable {c : List Int} {d : List (List Int)} {q : List Int}
theorem nx_lt {q : List Int} (h : 0 < q.length) (k : Nat) : nx q k < q.length := Nat.mod_lt _ h
theorem cir_at (hq : CirP c.length d q) {k : Nat} (hk : k < q.length) : 0 ≤ rd q (k : Int) ∧ rd q (k : Int) < (c.length : Int) := by
  have := hq.1.2.2.1 _ (rd_mem hk)
  exact ⟨this.2.1, this.2.2⟩
theorem cir_inj (hq : CirP c.length d q) {k l : Nat} (hk : k < q.length) (hl : l < q.length) (h : rd q (k : Int) = rd q (l : Int)) : k = l := by
  rw [rd_get q k hk, rd_get q l hl] at h
  exact (List.getElem_inj hq.1.2.1).1 h
theorem nx_ne (hq : CirP c.length d q) {k : Nat} (hk : k < q.length) : nx q k ≠ k := by
  have := hq.2.1
  unfold nx
  by_cases h : k + 1 = q.length
  · rw [h, Nat.mod_self]; omega
  · rw [Nat.mod_eq_of_lt (by omega)]; omega
theorem edge_pos (hq : CirP c.length d q) {k : Nat} (hk : k < q.length) : 0 < edge d q k := by
  unfold edge nx
  by_cases h : k + 1 = q.length
  · rw [h, Nat.mod_self]
    have : k = q.length - 1 := by omega
    rw [this]
    exact hq.2.2
  · rw [Nat.mod_eq_of_lt (by omega)]
    exact hq.1.2.2.2 k (by omega)
theorem edge_le (h : BookP c d) (hq : CirP c.length d q) {k : Nat} (hk : k < q.length) : edge d q k ≤ 9 :=
  (row_ge h (cir_at hq hk) (cir_at hq (nx_lt hq.1.1 k))).2
theorem lowest_pos (hq : CirP c.length d q) : 1 ≤ lowest d q := by
  have h0 := hq.1.1
  rcases (low_le d q q.length 0 9).2.2 with h | ⟨i, _, h2, h3⟩
  · unfold lowest; omega
  · have := edge_pos hq (k := i) (by omega)
    unfold lowest; omega
theorem lowest_le (hq : CirP c.length d q) {k : Nat} (hk : k < q.length) : lowest d q ≤ edge d q k := (low_le d q q.length 0 9).2.1 k (by omega) (by omega)
theorem hit_edge (hq : CirP c.length d q) {k i j : Nat} (hk : k ≤ q.length) (h : hit q k i j = true) : lowest d q ≤ db d i j ∧ i ≠ j := by
  obtain ⟨k', h1, h2, h3⟩ := hit_iff.1 h
  have hk' : k' < q.length := by omega
  have := lowest_le hq hk'
  refine ⟨?_, fun e => ?_⟩
  · unfold edge at this
    rw [h2, h3] at this
    exact this
  · rw [← e, ← h2] at h3
    exact nx_ne hq hk' (cir_inj hq (nx_lt hq.1.1 k') hk' h3)
theorem part_bd (h : BookP c d) (hq : CirP c.length d q) {k i j : Nat} (hk : k ≤ q.length) (hi : i < c.length) (hj : j < c.length) : 0 ≤ part d q k i j ∧ part d q k i j ≤ db d i j := by
  have hb := (h.2.2.2 i hi).2.2.2.2 j hj
  have hp := lowest_pos hq
  unfold part
  by_cases hh : hit q k i j = true
  · rw [if_pos hh]
    have := (hit_edge hq hk hh).1
    omega
  · rw [if_neg hh]; exact ⟨hb.1, Int.le_refl _⟩
theorem struck_get {i j : Nat} (hi : i < c.length) (hj : j < c.length) : db (struck c d q) i j = part d q q.length i j := by
  show rd (rd_L1 (mk c.length (part d q q.length)) (i : Int)) (j : Int) = _
  rw [mk_get hi, rd_rowF hj]
theorem struck_ok (h : BookP c d) (hq : CirP c.length d q) : BookP c (struck c d q) := by
  refine ⟨h.1, h.2.1, mk_len _ _, fun i hi => ?_⟩
  have hc := h.2.2.2 i hi
  refine ⟨hc.1, hc.2.1, ?_, ?_, fun j hj => ?_⟩
  · show (rd_L1 (mk c.length (part d q q.length)) (i : Int)).length = _
    rw [mk_get hi, rowF_len]
  · refine (struck_get hi hi).trans ?_
    unfold part
    rw [if_neg (fun z => (hit_edge hq (Nat.le_refl _) z).2 rfl)]
    exact hc.2.2.2.1
  · have h1 := struck_get (c := c) (d := d) (q := q) hi hj
    have h2 := part_bd h hq (Nat.le_refl _) hi hj
    have h3 := hc.2.2.2.2 j hj
    show 0 ≤ db (struck c d q) i j ∧ db (struck c d q) i j ≤ 9
    have h4 : db d i j ≤ 9 := h3.2
    rw [h1]; omega
theorem ki (q : List Int) (k : Nat) (h : k < q.length) (hq : q.length ≤ 4) : wrap64 ((k : Int) + 1) = ((k + 1 : Nat) : Int) := wsucc h (by omega)
theorem tm (q : List Int) (k : Nat) : Int.tmod ((k + 1 : Nat) : Int) (q.length : Int) = ((nx q k : Nat) : Int) := by
  unfold nx
  rw [Int.tmod_eq_emod_of_nonneg (by omega)]
  rfl
theorem st_l0 (h : BookP c d) (hq : CirP c.length d q) {r : List Int × List (List Int)} (hR : Ev (fun k => spec_l3Struck.l1 k q (lowest d q) 0 c d c d) r) : ∀ (e k : Nat) (x : Int), q.length - k = e → k ≤ q.length → low d q e k x = lowest d q → Ev (fun n => spec_l3Struck.l0 n q x (k : Int) c d c d) r := by
  have h4 := h.2.1
  have hdl := h.2.2.1
  have hql := hq.1.len
  have hq0 := hq.1.1
  intro e
  induction e with
  | zero =>
    intro k x he hk hx
    refine Ev.step (fun n => by rw [spec_l3Struck.l0]) ?_
    refine evNeg (by omega) ?_
    rw [low] at hx
    rw [hx]
    exact hR
  | succ e ih =>
    intro k x he hk hx
    have hlt : k < q.length := by omega
    have hk1 : Aside0 (wrap64 ((k : Int) + 1) = ((k + 1 : Nat) : Int)) := ⟨ki q k hlt (by omega)⟩
    have htm : Aside0 (Int.tmod ((k + 1 : Nat) : Int) (q.length : Int) = ((nx q k : Nat) : Int)) := ⟨tm q k⟩
    have a1 := cir_at hq hlt
    have a2 := cir_at hq (nx_lt hq0 k)
    have hn := nx_lt hq0 k
    have hrl := row_len h a1
    refine Ev.step (fun n => by rw [spec_l3Struck.l0]) ?_
    rw [hk1.out, htm.out]
    refine evPos (by omega) (evPos (by omega) (evPos a1.1 (evPos (by omega) (evNeg (by omega) (evPos (by omega) (evPos (by omega) (evPos a2.1 (evPos (by omega) ?_))))))))
    exact ih (k + 1) _ (by omega) (by omega) (by rw [low] at hx; exact hx)
theorem st_l1 (h : BookP c d) (hq : CirP c.length d q) : ∀ (e k : Nat), q.length - k = e → k ≤ q.length → Ev (fun n => spec_l3Struck.l1 n q (lowest d q) (k : Int) c d c (mk c.length (part d q k))) (c, struck c d q) := by
  have h4 := h.2.1
  have hdl := h.2.2.1
  have hql := hq.1.len
  have hq0 := hq.1.1
  intro e
  induction e with
  | zero =>
    intro k he hk
    refine Ev.step (fun n => by rw [spec_l3Struck.l1]) ?_
    have : k = q.length := by omega
    subst this
    exact evNeg (by omega) (Ev.now _)
  | succ e ih =>
    intro k he hk
    have hlt : k < q.length := by omega
    have hk1 : Aside0 (wrap64 ((k : Int) + 1) = ((k + 1 : Nat) : Int)) := ⟨ki q k hlt (by omega)⟩
    have htm : Aside0 (Int.tmod ((k + 1 : Nat) : Int) (q.length : Int) = ((nx q k : Nat) : Int)) := ⟨tm q k⟩
    have a1 := cir_at hq hlt
    have a2 := cir_at hq (nx_lt hq0 k)
    have hn := nx_lt hq0 k
    have hrl := row_len h a1
    have hml := mk_len c.length (part d q k)
    have hle := lowest_le hq hlt
    have hlp := lowest_pos hq
    have hee := edge_le h hq hlt
    obtain ⟨a, ha⟩ := Int.eq_ofNat_of_zero_le a1.1
    obtain ⟨b, hb⟩ := Int.eq_ofNat_of_zero_le a2.1
    have hac : a < c.length := by omega
    have hbc : b < c.length := by omega
    have hmr : (rd_L1 (mk c.length (part d q k)) (rd q (k : Int))).length = c.length := by rw [ha, mk_get hac, rowF_len]
    have hw : Aside0 (wrap64 (rd (rd_L1 d (rd q (k : Int))) (rd q ((nx q k : Nat) : Int)) - lowest d q) = db d a b - lowest d q) := ⟨by
      have e1 : rd (rd_L1 d (rd q (k : Int))) (rd q ((nx q k : Nat) : Int)) = edge d q k := rfl
      rw [e1, w64 (by omega) (by omega)]
      have e2 : edge d q k = db d a b := by unfold edge; rw [ha, hb]
      rw [e2]⟩
    refine Ev.step (fun n => by rw [spec_l3Struck.l1]) ?_
    rw [hk1.out, htm.out]
    refine evPos (by omega) (evPos (by omega) (evNeg (by omega) (evPos (by omega) (evPos (by omega) (evPos a1.1 (evPos (by omega) (evPos (by omega) (evPos a2.1 (evPos (by omega) (evPos (by omega) ?_))))))))))
    rw [hw.out, ha, hb, Int.toNat_natCast, Int.toNat_natCast, mk_set hac hbc]
    have : mk c.length (fun i' j' => if i' = a ∧ j' = b then db d a b - lowest d q else part d q k i' j') = mk c.length (part d q (k + 1)) := mk_congr (fun i hi j hj => by
      by_cases z : i = a ∧ j = b
      · rw [if_pos z]
        unfold part
        rw [if_pos (hit_iff.2 ⟨k, by omega, by rw [ha, z.1], by rw [hb, z.2]⟩), z.1, z.2]
      · rw [if_neg z]
        unfold part
        have : hit q (k + 1) i j = hit q k i j := by
          rw [Bool.eq_iff_iff, hit_iff, hit_iff]
          constructor
          · rintro ⟨k', h1, h2, h3⟩
            by_cases e' : k' = k
            · subst e'
              rw [ha] at h2; rw [hb] at h3
              exact absurd ⟨by omega, by omega⟩ z
            · exact ⟨k', by omega, h2, h3⟩
          · rintro ⟨k', h1, h2⟩
            exact ⟨k', by omega, h2⟩
        rw [this])
    rw [this]
    exact ih (k + 1) (by omega) (by omega)
theorem sStruck (h : BookP c d) (hq : CirP c.length d q) : Ev (fun k => spec_l3Struck.f k c d q) (c, struck c d q) := by
  unfold spec_l3Struck.f
  refine Ev.bind (scopy h) (st_l0 h hq ?_ q.length 0 9 rfl (by omega) rfl)
  have := st_l1 h hq q.length 0 rfl (by omega)
  have e : mk c.length (part d q 0) = d := (mk_congr (fun i _ j _ => by unfold part hit; simp)).trans (mk_of h).symm
  rw [e] at this
  exact this
def s1 (f : Nat → Int) : Nat → Int
  | 0 => 0
  | m + 1 => s1 f m + f m
theorem s1_le {f g : Nat → Int} : ∀ m : Nat, (∀ i, i < m → f i ≤ g i) → s1 f m ≤ s1 g m
  | 0, _ => Int.le_refl _
  | m + 1, h => by
    have := s1_le m (fun i hi => h i (by omega))
    have := h m (by omega)
    simp only [s1]; omega
theorem s1_lt {f g : Nat → Int} : ∀ m : Nat, (∀ i, i < m → f i ≤ g i) → (∃ i, i < m ∧ f i < g i) → s1 f m < s1 g m
  | 0, _, ⟨i, hi, _⟩ => by omega
  | m + 1, h, ⟨i, hi, hl⟩ => by
    have h1 := s1_le m (fun i hi => h i (by omega))
    have h2 := h m (by omega)
    simp only [s1]
    by_cases e : i = m
    · subst e; omega
    · have := s1_lt m (fun i hi => h i (by omega)) ⟨i, by omega, hl⟩
      omega
theorem s1_ge {f : Nat → Int} {a b : Int} : ∀ m : Nat, (∀ i, i < m → a ≤ f i ∧ f i ≤ b) → a * m ≤ s1 f m ∧ s1 f m ≤ b * m
  | 0, _ => by simp [s1]
  | m + 1, h => by
    have h1 := s1_ge m (fun i hi => h i (by omega))
    have h2 := h m (by omega)
    have e1 : a * ((m + 1 : Nat) : Int) = a * m + a := by rw [Int.natCast_add, Int.mul_add]; simp
    have e2 : b * ((m + 1 : Nat) : Int) = b * m + b := by rw [Int.natCast_add, Int.mul_add]; simp
    simp only [s1]
    rw [e1, e2]; omega
def tot (c : List Int) (d : List (List Int)) : Int := s1 (fun i => s1 (db d i) c.length) c.length
theorem tot_bd (h : BookP c d) : 0 ≤ tot c d ∧ tot c d ≤ 144 := by
  have h4 := h.2.1
  have hr : ∀ i, i < c.length → 0 ≤ s1 (db d i) c.length ∧ s1 (db d i) c.length ≤ 36 := fun i hi => by
    have := s1_ge (f := db d i) (a := 0) (b := 9) c.length (fun j hj => (h.2.2.2 i hi).2.2.2.2 j hj)
    omega
  have := s1_ge (f := fun i => s1 (db d i) c.length) (a := 0) (b := 36) c.length hr
  unfold tot
  omega
theorem struck_less (h : BookP c d) (hq : CirP c.length d q) : tot c (struck c d q) < tot c d := by
  have hb : ∀ i, i < c.length → ∀ j, j < c.length → db (struck c d q) i j ≤ db d i j := fun i hi j hj => by
    rw [struck_get hi hj]; exact (part_bd h hq (Nat.le_refl _) hi hj).2
  have h0 := hq.1.1
  have a1 := cir_at hq h0
  have a2 := cir_at hq (nx_lt h0 0)
  obtain ⟨a, ha⟩ := Int.eq_ofNat_of_zero_le a1.1
  obtain ⟨b, hb2⟩ := Int.eq_ofNat_of_zero_le a2.1
  have hlp := lowest_pos hq
  refine s1_lt c.length (fun i hi => s1_le c.length (hb i hi)) ⟨a, by omega, s1_lt c.length (hb a (by omega)) ⟨b, by omega, ?_⟩⟩
  rw [struck_get (by omega) (by omega)]
  unfold part
  rw [if_pos (hit_iff.2 ⟨0, h0, ha, hb2⟩)]
  omega
def woc (c : List Int) : Nat → List (List Int) → Int → List (List Int) × Int
  | 0, d, n => (d, n)
  | N + 1, d, n => if (circ c d).length = 0 then (d, n) else woc c N (struck c d ((circ c d).getD 0 [])) (n + 1)
theorem woc_ok : ∀ (N : Nat) (d : List (List Int)) (n : Int), BookP c d → BookP c (woc c N d n).1
  | 0, d, n, h => h
  | N + 1, d, n, h => by
    rw [woc]
    split
    · exact h
    · next hz => exact woc_ok N _ _ (struck_ok h (mem_circ h (getD_mem [] _ 0 (by omega))))
theorem sWoc : ∀ (N : Nat) (d : List (List Int)) (n : Int), BookP c d → tot c d ≤ (N : Int) → 0 ≤ n → n + N ≤ 1000 → Ev (fun k => spec_WithoutCircles.l0 k n c d) (c, (woc c N d n).1, (woc c N d n).2) := by
  intro N
  induction N with
  | zero =>
    intro d n h ht hn hN
    have hb := tot_bd h
    refine Ev.step (fun k => by rw [spec_WithoutCircles.l0]) ?_
    refine Ev.bind (sCircles h) ?_
    have hz : (circ c d).length = 0 := by
      apply Classical.byContradiction
      intro hz
      have hq := mem_circ h (getD_mem [] (circ c d) 0 (by omega))
      have h1 := struck_less h hq
      have h2 := tot_bd (struck_ok h hq)
      omega
    exact evPos (by omega) (Ev.now _)
  | succ N ih =>
    intro d n h ht hn hN
    refine Ev.step (fun k => by rw [spec_WithoutCircles.l0]) ?_
    refine Ev.bind (sCircles h) ?_
    by_cases hz : (circ c d).length = 0
    · refine evPos (by omega) (evEq (Ev.now _) ?_)
      rw [woc, if_pos hz]
    · refine evNeg (by omega) (evPos (by omega) ?_)
      have hq := mem_circ h (getD_mem [] (circ c d) 0 (by omega))
      have e1 : rd_L1 (circ c d) 0 = (circ c d).getD 0 [] := rfl
      rw [e1]
      refine Ev.bind (sStruck h hq) ?_
      have hw : wrap64 (n + 1) = n + 1 := w64 (by omega) (by omega)
      rw [hw]
      have h1 := struck_less h hq
      refine evEq (ih _ (n + 1) (struck_ok h hq) (by show tot c (struck c d ((circ c d).getD 0 [])) ≤ (N : Int); omega) (by omega) (by omega)) ?_
      rw [woc, if_neg hz]
def without (c : List Int) (d : List (List Int)) : List (List Int) × Int := woc c 144 d 0
theorem without_ok (h : BookP c d) : BookP c (without c d).1 := woc_ok _ _ _ h
theorem sWithout (c : List Int) (d : List (List Int)) : Ev (fun k => spec_WithoutCircles.f k c d) (@ite _ (BookP c d) (Classical.propDecidable _) (c, (without c d).1, (without c d).2) ([], [], -1)) := by
  unfold spec_WithoutCircles.f
  by_cases h : BookP c d
  · rw [if_pos h]
    refine Ev.bind ((bookOk c d).yes h) (evPos rfl (Ev.bind (scopy h) ?_))
    exact sWoc 144 d 0 h (tot_bd h).2 (by omega) (by omega)
  · rw [if_neg h]
    exact Ev.bind ((bookOk c d).no h) (evNeg (by decide) (Ev.now _))
end
end Go.Proofs.Ytfooakkhkehpiaa.Sk
namespace Go.Proofs.Ytfooakkhkehpiaa.Nt
open Go.RowKit Go.Proofs.Ytfooakkhkehpiaa.PU Go.Proofs.Ytfooakkhkehpiaa.Qh Go.Proofs.Ytfooakkhkehpiaa.Bk Go.Proofs.Ytfooakkhkehpiaa.Mx Go.Proofs.YtfooakkhkehpiaaW.PrintWords Go.Proofs.YtfooakkhkehpiaaW.PrintMore
set_option linter.unusedVariables false
set_option linter.unusedSimpArgs false
def N (d : List (List Int)) (i j : Nat) : Int := db d i j - mn (db d i j) (db d j i)
def netL (c : List Int) (d : List (List Int)) : List (List Int) := mk c.length (N d)
variable {c : List Int} {d : List (List Int)}
theorem db_bd (h : BookP c d) {i j : Nat} (hi : i < c.length) (hj : j < c.length) : 0 ≤ db d i j ∧ db d i j ≤ 9 := (h.2.2.2 i hi).2.2.2.2 j hj
theorem db_diag (h : BookP c d) {i : Nat} (hi : i < c.length) : db d i i = 0 := (h.2.2.2 i hi).2.2.2.1
theorem mn_le (a b : Int) : mn a b ≤ a ∧ mn a b ≤ b ∧ (mn a b = a ∨ mn a b = b) := by
  unfold mn
  split <;> omega
theorem mn_comm (a b : Int) : mn a b = mn b a := by
  have h1 := mn_le a b
  have h2 := mn_le b a
  omega
theorem N_bd (h : BookP c d) {i j : Nat} (hi : i < c.length) (hj : j < c.length) : 0 ≤ N d i j ∧ N d i j ≤ db d i j := by
  have h1 := mn_le (db d i j) (db d j i)
  have h2 := db_bd h hi hj
  have h3 := db_bd h hj hi
  unfold N
  omega
theorem N_diag (h : BookP c d) {i : Nat} (hi : i < c.length) : N d i i = 0 := by
  have h1 := N_bd h hi hi
  have h2 := db_diag h hi
  omega
theorem net_len (c : List Int) (d : List (List Int)) : (netL c d).length = c.length := mk_len _ _
theorem net_get (h : BookP c d) {i j : Nat} (hi : i < c.length) (hj : j < c.length) : db (netL c d) i j = N d i j := by
  show rd (rd_L1 (mk c.length (N d)) (i : Int)) (j : Int) = _
  rw [mk_get hi, rd_rowF hj]
theorem net_ok (h : BookP c d) : BookP c (netL c d) := by
  refine ⟨h.1, h.2.1, net_len c d, fun i hi => ?_⟩
  have hc := h.2.2.2 i hi
  refine ⟨hc.1, hc.2.1, ?_, ?_, fun j hj => ?_⟩
  · show (rd_L1 (mk c.length (N d)) (i : Int)).length = _
    rw [mk_get hi, rowF_len]
  · exact (net_get h hi hi).trans (N_diag h hi)
  · have h1 := net_get h hi hj
    have h2 := N_bd h hi hj
    have h3 := db_bd h hi hj
    show 0 ≤ db (netL c d) i j ∧ db (netL c d) i j ≤ 9
    rw [h1]; omega
def fi (d : List (List Int)) (i k : Nat) (i' j' : Nat) : Int := if i' < i ∨ i' = i ∧ j' < k then N d i' j' else db d i' j'
def fs (d : List (List Int)) (i k : Nat) (a b : Nat) : Int := if a ≠ b ∧ (max a b < i ∨ max a b = i ∧ min a b < k) then N d a b else db d a b
theorem sn_l1 (h : BookP c d) {i : Nat} (hi : i < c.length) {r : List Int × List (List Int)} (hR : Ev (fun n => spec_Netted.l0 n ((i + 1 : Nat) : Int) c d c (mk c.length (fs d (i + 1) 0))) r) : ∀ (e k : Nat), i - k = e → k ≤ i →
    Ev (fun n => spec_Netted.l1 n (i : Int) (k : Int) c d c (mk c.length (fs d i k))) r := by
  have h4 := h.2.1
  have hdl := h.2.2.1
  have hri := (h.2.2.2 i hi).2.2.1
  have hs : Aside0 (wrap64 ((i : Int) + 1) = ((i + 1 : Nat) : Int)) := ⟨wsucc hi (by omega)⟩
  intro e
  induction e with
  | zero =>
    intro k he hk
    obtain rfl : k = i := by omega
    refine Ev.step (fun n => by rw [spec_Netted.l1]) ?_
    rw [hs.out]
    refine evNeg (by omega) ?_
    have : mk c.length (fs d k k) = mk c.length (fs d (k + 1) 0) := mk_congr (fun a ha b hb => by
      unfold fs
      by_cases z : a ≠ b ∧ (max a b < k ∨ max a b = k ∧ min a b < k)
      · rw [if_pos z, if_pos (by omega)]
      · rw [if_neg z, if_neg (by omega)])
    rw [this]
    exact hR
  | succ e ih =>
    intro k he hk
    have hlt : k < c.length := by omega
    have hk1 : Aside0 (wrap64 ((k : Int) + 1) = ((k + 1 : Nat) : Int)) := ⟨wsucc hlt (by omega)⟩
    have hrk := (h.2.2.2 k hlt).2.2.1
    have hml := mk_len c.length (fs d i k)
    have hmr : (rd_L1 (mk c.length (fs d i k)) (i : Int)).length = c.length := by rw [mk_get hi, rowF_len]
    have b1 := db_bd h hi hlt
    have b2 := N_bd h hi hlt
    have b3 := db_bd h hlt hi
    have b4 := N_bd h hlt hi
    have hw : Aside0 (wrap64 (rd (rd_L1 d (i : Int)) (k : Int) - mn (rd (rd_L1 d (i : Int)) (k : Int)) (rd (rd_L1 d (k : Int)) (i : Int))) = N d i k) := ⟨by
      have e1 : rd (rd_L1 d (i : Int)) (k : Int) - mn (rd (rd_L1 d (i : Int)) (k : Int)) (rd (rd_L1 d (k : Int)) (i : Int)) = N d i k := rfl
      rw [e1, w64 (by omega) (by omega)]⟩
    have hw2 : Aside0 (wrap64 (rd (rd_L1 d (k : Int)) (i : Int) - mn (rd (rd_L1 d (i : Int)) (k : Int)) (rd (rd_L1 d (k : Int)) (i : Int))) = N d k i) := ⟨by
      have e1 : rd (rd_L1 d (k : Int)) (i : Int) - mn (rd (rd_L1 d (i : Int)) (k : Int)) (rd (rd_L1 d (k : Int)) (i : Int)) = N d k i := by
        rw [mn_comm]; rfl
      rw [e1, w64 (by omega) (by omega)]⟩
    refine Ev.step (fun n => by rw [spec_Netted.l1]) ?_
    rw [hk1.out, hw.out, hw2.out, Int.toNat_natCast, Int.toNat_natCast, mk_set hi hlt]
    refine evPos (by omega) (evPos (by omega) (evPos (by omega) (evPos (by omega) (evPos (by omega) (evPos (by omega) (evPos (by omega) (evPos (by omega) (evPos (by omega) (evBind0 rfl ?_)))))))))
    have hml2 := mk_len c.length (fun i' j' => if i' = i ∧ j' = k then N d i k else fs d i k i' j')
    have hmr2 : (rd_L1 (mk c.length (fun i' j' => if i' = i ∧ j' = k then N d i k else fs d i k i' j')) (k : Int)).length = c.length := by rw [mk_get hlt, rowF_len]
    refine evPos (by omega) (evPos (by omega) ?_)
    rw [mk_set hlt hi]
    have : mk c.length (fun i' j' => if i' = k ∧ j' = i then N d k i else if i' = i ∧ j' = k then N d i k else fs d i k i' j') = mk c.length (fs d i (k + 1)) := mk_congr (fun a ha b hb => by
      unfold fs
      by_cases z : a = k ∧ b = i
      · rw [if_pos z, if_pos (by omega), z.1, z.2]
      · rw [if_neg z]
        by_cases z2 : a = i ∧ b = k
        · rw [if_pos z2, if_pos (by omega), z2.1, z2.2]
        · rw [if_neg z2]
          by_cases y : a ≠ b ∧ (max a b < i ∨ max a b = i ∧ min a b < k)
          · rw [if_pos y, if_pos (by omega)]
          · rw [if_neg y, if_neg (by omega)])
    rw [this]
    exact ih (k + 1) (by omega) (by omega)
theorem sn_l0 (h : BookP c d) : ∀ (e i : Nat), c.length - i = e → i ≤ c.length → Ev (fun n => spec_Netted.l0 n (i : Int) c d c (mk c.length (fs d i 0))) (c, netL c d) := by
  have hdl := h.2.2.1
  intro e
  induction e with
  | zero =>
    intro i he hi
    obtain rfl : i = c.length := by omega
    refine Ev.step (fun n => by rw [spec_Netted.l0]) ?_
    refine evNeg (by omega) (evEq (Ev.now _) ?_)
    have : mk c.length (fs d c.length 0) = netL c d := mk_congr (fun a ha b hb => by
      unfold fs
      by_cases z : a = b
      · subst z; rw [if_neg (by omega), db_diag h ha, N_diag h ha]
      · rw [if_pos (by omega)])
    rw [this]
  | succ e ih =>
    intro i he hi
    have hlt : i < c.length := by omega
    refine Ev.step (fun n => by rw [spec_Netted.l0]) ?_
    refine evPos (by omega) ?_
    exact sn_l1 h hlt (ih (i + 1) (by omega) (by omega)) i 0 rfl (by omega)
theorem sNetted (c : List Int) (d : List (List Int)) : Ev (fun n => spec_Netted.f n c d) (@ite _ (BookP c d) (Classical.propDecidable _) (c, netL c d) ([], [])) := by
  unfold spec_Netted.f
  by_cases h : BookP c d
  · rw [if_pos h]
    refine Ev.bind ((bookOk c d).yes h) (evPos rfl (Ev.bind (scopy h) ?_))
    have e : mk c.length (fs d 0 0) = d := (mk_congr (fun a ha b hb => by unfold fs; rw [if_neg (by omega)])).trans (mk_of h).symm
    have := sn_l0 h c.length 0 rfl (by omega)
    rw [e] at this
    exact this
  · rw [if_neg h]; exact Ev.bind ((bookOk c d).no h) (evNeg (by decide) (Ev.now _))
end Go.Proofs.Ytfooakkhkehpiaa.Nt
namespace Go.Proofs.Ytfooakkhkehpiaa.Dk
open Go.RowKit Go.Proofs.Ytfooakkhkehpiaa.PU Go.Proofs.Ytfooakkhkehpiaa.Qh Go.Proofs.Ytfooakkhkehpiaa.Bk Go.Proofs.YtfooakkhkehpiaaW.PrintWords Go.Proofs.YtfooakkhkehpiaaW.PrintMore
set_option linter.unusedVariables false
set_option linter.unusedSimpArgs false
abbrev B := S25
def OkB (n : Nat) (x : B) : Prop := BookP x.f0 x.f1 ∧ x.f0.length = n
def DeskP (c : List Int) (d : List (List Int)) (ps : List B) : Prop := BookP c d ∧ ps.length ≤ 8 ∧ ∀ x ∈ ps, OkB c.length x
theorem bad (n : Nat) : ∀ (l : List B) (i : Nat), ∃ q : Int, (q ≥ 0 ↔ ¬ ∀ x ∈ l, OkB n x) ∧ Ev (fun k => impl_isDesk.bad k (n : Int) l i) q
  | [], i => ⟨-1, by simp, Ev.now _⟩
  | x :: r, i => by
    obtain ⟨b, hb, e⟩ := isBook x.f0 x.f1
    by_cases h1 : BookP x.f0 x.f1
    · by_cases h2 : x.f0.length = n
      · obtain ⟨q, hq, eq⟩ := bad n r (i + 1)
        refine ⟨q, hq.trans ⟨fun z w => z (fun y hy => w y (List.mem_cons_of_mem _ hy)), fun z w => z (fun y hy => ?_)⟩, ?_⟩
        · rcases List.mem_cons.mp hy with rfl | h
          · exact ⟨h1, h2⟩
          · exact w y h
        · show Ev (fun k => (impl_isBook.f k x.f0 x.f1).bind fun t => if t = true then (if (x.f0.length : Int) = (n : Int) then impl_isDesk.bad k (n : Int) r (i + 1) else some (i : Int)) else some (i : Int)) q
          exact Ev.bind e (evPos (hb.2 h1) (evPos (by omega) eq))
      · refine ⟨(i : Int), ⟨fun _ w => h2 (w x (List.mem_cons_self)).2, fun _ => by omega⟩, ?_⟩
        show Ev (fun k => (impl_isBook.f k x.f0 x.f1).bind fun t => if t = true then (if (x.f0.length : Int) = (n : Int) then impl_isDesk.bad k (n : Int) r (i + 1) else some (i : Int)) else some (i : Int)) (i : Int)
        exact Ev.bind e (evPos (hb.2 h1) (evNeg (by omega) (Ev.now _)))
    · refine ⟨(i : Int), ⟨fun _ w => h1 (w x (List.mem_cons_self)).1, fun _ => by omega⟩, ?_⟩
      show Ev (fun k => (impl_isBook.f k x.f0 x.f1).bind fun t => if t = true then (if (x.f0.length : Int) = (n : Int) then impl_isDesk.bad k (n : Int) r (i + 1) else some (i : Int)) else some (i : Int)) (i : Int)
      exact Ev.bind e (evNeg (fun z => h1 (hb.1 z)) (Ev.now _))
theorem isDesk (c : List Int) (d : List (List Int)) (ps : List B) : EvB (fun k => impl_isDesk.f k c d ps) (DeskP c d ps) := by
  unfold impl_isDesk.f
  obtain ⟨b, hb, e⟩ := isBook c d
  refine EvB.bind e ?_
  by_cases h : BookP c d
  · refine EvB.pos (hb.2 h) ?_
    by_cases h8 : (ps.length : Int) ≤ 8
    · refine EvB.pos h8 ?_
      obtain ⟨q, hq, eq⟩ := bad c.length ps 0
      refine EvB.bind eq ⟨_, ?_, Ev.now _⟩
      constructor
      · intro z
        have z2 : ¬ q ≥ 0 := by simpa using z
        exact ⟨h, by omega, Classical.byContradiction (fun w => z2 (hq.2 w))⟩
      · intro z
        have : ¬ q ≥ 0 := fun w => hq.1 w z.2.2
        simpa using this
    · exact EvB.neg h8 (EvB.ff (fun z => h8 (by have := z.2.1; omega)))
  · exact EvB.neg (fun z => h (hb.1 z)) (EvB.ff (fun z => h z.1))
theorem rT (xs : List B) (i : Nat) : rd_T25 xs (i : Int) = xs.getD i z25 := rfl
theorem sd_l0 (c : List Int) (d : List (List Int)) (ps : List B) (hp : ps.length ≤ 4611686018427387904) : ∀ (e i : Nat), ps.length - i = e → i ≤ ps.length →
    EvB (fun k => spec_DeskOk.l0 k (i : Int) c d ps) ((∀ j : Nat, i ≤ j → j < ps.length → OkB c.length (rd_T25 ps (j : Int))) ∧ BookP c d ∧ ps.length ≤ 8) := by
  intro e
  induction e with
  | zero =>
    intro i he hi
    refine EvB.step (fun k => by rw [spec_DeskOk.l0]) ?_
    refine EvB.neg (by omega) ?_
    obtain ⟨b, hb, eb⟩ := bookOk c d
    refine EvB.bind eb ?_
    by_cases h : BookP c d
    · refine EvB.pos (hb.2 h) ⟨_, ?_, Ev.now _⟩
      constructor
      · intro z
        have := of_decide_eq_true z
        exact ⟨fun j h1 h2 => by omega, h, by omega⟩
      · intro z
        exact decide_eq_true (by have := z.2.2; omega)
    · exact EvB.neg (fun z => h (hb.1 z)) (EvB.ff (fun z => h z.2.1))
  | succ e ih =>
    intro i he hi
    have hlt : i < ps.length := by omega
    have hs : wrap64 ((i : Int) + 1) = ((i + 1 : Nat) : Int) := wsucc hlt hp
    refine EvB.step (fun k => by rw [spec_DeskOk.l0]) ?_
    refine EvB.pos (by omega) (EvB.pos (by omega) ?_)
    obtain ⟨b, hb, eb⟩ := bookOk (rd_T25 ps (i : Int)).f0 (rd_T25 ps (i : Int)).f1
    refine EvB.bind eb ?_
    by_cases h : BookP (rd_T25 ps (i : Int)).f0 (rd_T25 ps (i : Int)).f1
    · refine EvB.pos (hb.2 h) ?_
      by_cases h2 : (rd_T25 ps (i : Int)).f0.length = c.length
      · refine EvB.pos (by omega) ?_
        rw [hs]
        refine (ih (i + 1) (by omega) (by omega)).congr ⟨fun z => ⟨fun j h5 h6 => ?_, z.2⟩, fun z => ⟨fun j h5 h6 => z.1 j (by omega) h6, z.2⟩⟩
        by_cases e' : j = i
        · subst e'; exact ⟨h, h2⟩
        · exact z.1 j (by omega) h6
      · exact EvB.neg (by omega) (EvB.ff (fun z => h2 (z.1 i (Nat.le_refl _) hlt).2))
    · exact EvB.neg (fun z => h (hb.1 z)) (EvB.ff (fun z => h (z.1 i (Nat.le_refl _) hlt).1))
theorem deskOk (c : List Int) (d : List (List Int)) (ps : List B) (hp : ps.length ≤ 4611686018427387904) : EvB (fun k => spec_DeskOk.f k c d ps) (DeskP c d ps) := by
  unfold spec_DeskOk.f
  refine (sd_l0 c d ps hp ps.length 0 rfl (by omega)).congr ⟨fun z => ⟨z.2.1, z.2.2, fun x hx => ?_⟩, fun z => ⟨fun j _ h2 => z.2.2 _ ?_, z.1, z.2.1⟩⟩
  · obtain ⟨i, hi, rfl⟩ := List.mem_iff_getElem.mp hx
    have := z.1 i (by omega) hi
    rwa [rT, List.getD_eq_getElem?_getD, List.getElem?_eq_getElem hi] at this
  · rw [rT]; exact getD_mem _ ps j h2
end Go.Proofs.Ytfooakkhkehpiaa.Dk
namespace Go.Proofs.Ytfooakkhkehpiaa.Dd
open Go.RowKit Go.Proofs.Ytfooakkhkehpiaa.PU Go.Proofs.Ytfooakkhkehpiaa.Qh Go.Proofs.Ytfooakkhkehpiaa.Bk Go.Proofs.Ytfooakkhkehpiaa.Mx Go.Proofs.Ytfooakkhkehpiaa.Nt Go.Proofs.Ytfooakkhkehpiaa.Dk Go.Proofs.Ytfooakkhkehpiaa.Sk Go.Proofs.YtfooakkhkehpiaaW.PrintWords Go.Proofs.YtfooakkhkehpiaaW.PrintMore
set_option linter.unusedVariables false
set_option linter.unusedSimpArgs false
section
variable {c c' : List Int} {d d' : List (List Int)}
theorem ext_book (h : BookP c d) (h' : BookP c' d') (hl : c'.length = c.length) (e : ∀ i : Nat, i < c.length → rd c' (i : Int) = rd c (i : Int) ∧ ∀ j : Nat, j < c.length → db d' i j = db d i j) : c' = c ∧ d' = d := by
  constructor
  · exact ext_rd _ _ hl (fun i hi => (e i (by omega)).1)
  · rw [mk_of h, mk_of h', hl]
    exact mk_congr (fun i hi j hj => (e i hi).2 j hj)
theorem same (h : BookP c d) (h' : BookP c' d') (hl : c'.length = c.length) : EvB (fun k => spec_l9Same.f k c' d' c d) (c' = c ∧ d' = d) := by
  have h4 := h.2.1
  have hd := h.2.2.1
  have hd' := h'.2.2.1
  unfold spec_l9Same.f
  have l1 : ∀ (i : Nat), i < c.length → ∀ {R : Prop}, EvB (fun k => spec_l9Same.l0 k ((i + 1 : Nat) : Int) c' d' c d) R → ∀ (e j : Nat), c.length - j = e → j ≤ c.length → EvB (fun k => spec_l9Same.l1 k (i : Int) (j : Int) c' d' c d) ((∀ j' : Nat, j ≤ j' → j' < c.length → db d' i j' = db d i j') ∧ R) := by
    intro i hi R hR e
    have hs : Aside0 (wrap64 ((i : Int) + 1) = ((i + 1 : Nat) : Int)) := ⟨wsucc hi (by omega)⟩
    have hri := (h.2.2.2 i hi).2.2.1
    have hri' := (h'.2.2.2 i (by omega)).2.2.1
    induction e with
    | zero =>
      intro j he hj
      refine EvB.step (fun k => by rw [spec_l9Same.l1]) ?_
      rw [hs.out]
      exact EvB.neg (by omega) (hR.congr ⟨fun z => ⟨fun j' h1 h2 => by omega, z⟩, fun z => z.2⟩)
    | succ e ih =>
      intro j he hj
      have hlt : j < c.length := by omega
      have hj1 : Aside0 (wrap64 ((j : Int) + 1) = ((j + 1 : Nat) : Int)) := ⟨wsucc hlt (by omega)⟩
      refine EvB.step (fun k => by rw [spec_l9Same.l1]) ?_
      rw [hj1.out]
      refine EvB.pos (by omega) (EvB.pos (by omega) (EvB.pos (by omega) (EvB.pos (by omega) (EvB.pos (by omega) (EvB.pos (by omega) (EvB.pos (by omega) ?_))))))
      by_cases he2 : rd (rd_L1 d' (i : Int)) (j : Int) = rd (rd_L1 d (i : Int)) (j : Int)
      · refine EvB.pos he2 ((ih (j + 1) (by omega) (by omega)).congr ⟨fun z => ⟨fun j' h1 h2 => ?_, z.2⟩, fun z => ⟨fun j' h1 h2 => z.1 j' (by omega) h2, z.2⟩⟩)
        by_cases e' : j' = j
        · subst e'; exact he2
        · exact z.1 j' (by omega) h2
      · exact EvB.neg he2 (EvB.ff (fun z => he2 (z.1 j (Nat.le_refl _) hlt)))
  have l0 : ∀ (e i : Nat), c.length - i = e → i ≤ c.length → EvB (fun k => spec_l9Same.l0 k (i : Int) c' d' c d) (∀ i' : Nat, i ≤ i' → i' < c.length → rd c' (i' : Int) = rd c (i' : Int) ∧ ∀ j : Nat, j < c.length → db d' i' j = db d i' j) := by
    intro e
    induction e with
    | zero =>
      intro i he hi
      refine EvB.step (fun k => by rw [spec_l9Same.l0]) ?_
      exact EvB.neg (by omega) (EvB.tt (fun i' h1 h2 => by omega))
    | succ e ih =>
      intro i he hi
      have hlt : i < c.length := by omega
      refine EvB.step (fun k => by rw [spec_l9Same.l0]) ?_
      refine EvB.pos (by omega) (EvB.pos (by omega) (EvB.pos (by omega) ?_))
      by_cases he2 : rd c' (i : Int) = rd c (i : Int)
      · refine EvB.pos he2 ((l1 i hlt (ih (i + 1) (by omega) (by omega)) c.length 0 rfl (by omega)).congr ⟨fun z i' h1 h2 => ?_, fun z => ⟨fun j' _ h2 => (z i (Nat.le_refl _) hlt).2 j' h2, fun i' h1 h2 => z i' (by omega) h2⟩⟩)
        by_cases e' : i' = i
        · subst e'; exact ⟨he2, fun j hj => z.1 j (by omega) hj⟩
        · exact z.2 i' (by omega) h2
      · exact EvB.neg he2 (EvB.ff (fun z => he2 (z i (Nat.le_refl _) hlt).1))
  refine (l0 c.length 0 rfl (by omega)).congr ⟨fun z => ext_book h h' hl (fun i hi => z i (by omega) hi), fun z i' _ _ => ?_⟩
  rw [z.1, z.2]
  exact ⟨rfl, fun _ _ => rfl⟩
end
def made (c : List Int) (d : List (List Int)) (a0 a1 a2 a3 : Int) : Option (List Int × List (List Int)) :=
  if a0 = 0 ∧ (0 ≤ a1 ∧ a1 < (c.length : Int)) ∧ a2 = 0 ∧ 0 ≤ a3 ∧ a3 ≤ 20 then some (c.set a1.toNat a3, d)
  else if a0 = 1 ∧ (0 ≤ a1 ∧ a1 < (c.length : Int)) ∧ (0 ≤ a2 ∧ a2 < (c.length : Int)) ∧ a1 ≠ a2 ∧ 0 ≤ a3 ∧ a3 ≤ 9 then some (c, d.set a1.toNat ((rd_L1 d a1).set a2.toNat a3))
  else if a0 = 2 ∧ a1 = 0 ∧ a2 = 0 ∧ a3 = 0 then some (c, netL c d)
  else if a0 = 3 ∧ a1 = 0 ∧ a2 = 0 ∧ a3 = 0 then some (c, (without c d).1)
  else none
section
variable {c : List Int} {d : List (List Int)} {a0 a1 a2 a3 : Int}
theorem cash_ok (h : BookP c d) (h1 : 0 ≤ a1 ∧ a1 < (c.length : Int)) (h2 : 0 ≤ a3 ∧ a3 ≤ 20) : BookP (c.set a1.toNat a3) d := by
  have hl : (c.set a1.toNat a3).length = c.length := List.length_set
  refine ⟨by rw [hl]; exact h.1, by rw [hl]; exact h.2.1, by rw [hl]; exact h.2.2.1, fun i hi => ?_⟩
  rw [hl] at hi
  have hr := h.2.2.2 i hi
  unfold RowP
  rw [hl, rd_set c a3 a1 (i : Int) h1.1 h1.2 (by omega)]
  refine ⟨?_, ?_, hr.2.2⟩
  · split
    · exact h2.1
    · exact hr.1
  · split
    · exact h2.2
    · exact hr.2.1
theorem debt_mk (h : BookP c d) (h1 : 0 ≤ a1 ∧ a1 < (c.length : Int)) (h2 : 0 ≤ a2 ∧ a2 < (c.length : Int)) (v : Int) : d.set a1.toNat ((rd_L1 d a1).set a2.toNat v) = mk c.length (fun i j => if i = a1.toNat ∧ j = a2.toNat then v else db d i j) := by
  obtain ⟨i, rfl⟩ := Int.eq_ofNat_of_zero_le h1.1
  obtain ⟨j, rfl⟩ := Int.eq_ofNat_of_zero_le h2.1
  rw [Int.toNat_natCast, Int.toNat_natCast]
  have := mk_set (n := c.length) (i := i) (j := j) (f := db d) (v := v) (by omega) (by omega)
  rw [← mk_of h] at this
  exact this
theorem mk_ok (h : BookP c d) (f : Nat → Nat → Int) (hf : ∀ i, i < c.length → f i i = 0 ∧ ∀ j, j < c.length → 0 ≤ f i j ∧ f i j ≤ 9) : BookP c (mk c.length f) := by
  refine ⟨h.1, h.2.1, mk_len _ _, fun i hi => ?_⟩
  have hc := h.2.2.2 i hi
  refine ⟨hc.1, hc.2.1, ?_, ?_, fun j hj => ?_⟩
  · rw [mk_get hi, rowF_len]
  · rw [mk_get hi, rd_rowF hi]; exact (hf i hi).1
  · rw [mk_get hi, rd_rowF hj]; exact (hf i hi).2 j hj
theorem debt_ok (h : BookP c d) (h1 : 0 ≤ a1 ∧ a1 < (c.length : Int)) (h2 : 0 ≤ a2 ∧ a2 < (c.length : Int)) (hne : a1 ≠ a2) (h3 : 0 ≤ a3 ∧ a3 ≤ 9) : BookP c (d.set a1.toNat ((rd_L1 d a1).set a2.toNat a3)) := by
  rw [debt_mk h h1 h2]
  refine mk_ok h _ (fun i hi => ⟨?_, fun j hj => ?_⟩)
  · rw [if_neg (fun z => hne (by omega))]
    exact (h.2.2.2 i hi).2.2.2.1
  · have := (h.2.2.2 i hi).2.2.2.2 j hj
    show 0 ≤ (if i = a1.toNat ∧ j = a2.toNat then a3 else db d i j) ∧ (if i = a1.toNat ∧ j = a2.toNat then a3 else db d i j) ≤ 9
    split
    · exact h3
    · exact this
theorem made_ok (h : BookP c d) {x : List Int × List (List Int)} (hm : made c d a0 a1 a2 a3 = some x) : BookP x.1 x.2 ∧ x.1.length = c.length := by
  unfold made at hm
  split at hm
  · next g => obtain rfl := Option.some.inj hm; exact ⟨cash_ok h g.2.1 g.2.2.2, List.length_set⟩
  split at hm
  · next g => obtain rfl := Option.some.inj hm; exact ⟨debt_ok h g.2.1 g.2.2.1 g.2.2.2.1 g.2.2.2.2, rfl⟩
  split at hm
  · obtain rfl := Option.some.inj hm; exact ⟨net_ok h, rfl⟩
  split at hm
  · obtain rfl := Option.some.inj hm; exact ⟨without_ok h, rfl⟩
  · cases hm
def Mp (c : List Int) (d : List (List Int)) (o : Option (List Int × List (List Int))) (g : Nat → Option (List Int × List (List Int) × Bool)) : Prop :=
  ∃ c' d' b, Ev g (c', d', b) ∧ (b = true ↔ ∃ x, o = some x ∧ x ≠ (c, d)) ∧ (b = true → o = some (c', d'))
theorem Mp.step {o : Option (List Int × List (List Int))} {g f : Nat → Option (List Int × List (List Int) × Bool)} (e : ∀ k, g (k + 1) = f k) (h : Mp c d o f) : Mp c d o g := by
  obtain ⟨c', d', b, h1, h2⟩ := h
  exact ⟨c', d', b, Ev.step e h1, h2⟩
theorem Mp.pos {o : Option (List Int × List (List Int))} {p : Prop} [Decidable p] {g f : Nat → Option (List Int × List (List Int) × Bool)} (hp : p) (h : Mp c d o g) : Mp c d o (fun k => if p then g k else f k) := by
  obtain ⟨c', d', b, h1, h2⟩ := h
  exact ⟨c', d', b, evPos hp h1, h2⟩
theorem Mp.neg {o : Option (List Int × List (List Int))} {p : Prop} [Decidable p] {g f : Nat → Option (List Int × List (List Int) × Bool)} (hp : ¬ p) (h : Mp c d o f) : Mp c d o (fun k => if p then g k else f k) := by
  obtain ⟨c', d', b, h1, h2⟩ := h
  exact ⟨c', d', b, evNeg hp h1, h2⟩
theorem Mp.bind {β : Type} {o : Option (List Int × List (List Int))} {g : Nat → Option β} {f : Nat → β → Option (List Int × List (List Int) × Bool)} {a : β} (e : Ev g a) (h : Mp c d o (fun k => f k a)) : Mp c d o (fun k => (g k).bind (f k)) := by
  obtain ⟨c', d', b, h1, h2⟩ := h
  exact ⟨c', d', b, Ev.bind e h1, h2⟩
theorem Mp.bind0 {β : Type} {o : Option (List Int × List (List Int))} {g : Option β} {f : Nat → β → Option (List Int × List (List Int) × Bool)} {a : β} (e : g = some a) (h : Mp c d o (fun k => f k a)) : Mp c d o (fun k => g.bind (f k)) := by
  obtain ⟨c', d', b, h1, h2⟩ := h
  exact ⟨c', d', b, evBind0 e h1, h2⟩
theorem Mp.fin (h : BookP c d) {c' : List Int} {d' : List (List Int)} (h' : BookP c' d') (hl : c'.length = c.length) : Mp c d (some (c', d')) (fun k => (spec_l9Same.f k c' d' c d).bind fun t => (some (c', d', !t))) := by
  obtain ⟨b, hb, he⟩ := same h h' hl
  refine ⟨c', d', !b, Ev.bind he (Ev.now _), ?_, fun _ => rfl⟩
  constructor
  · intro z
    refine ⟨_, rfl, fun e => ?_⟩
    have : b = true := hb.2 (by simpa using e)
    rw [this] at z; simp at z
  · rintro ⟨x, hx, hne⟩
    obtain rfl := Option.some.inj hx
    have : ¬ b = true := fun z => hne (by have := hb.1 z; rw [this.1, this.2])
    simpa using this
theorem Mp.none_ : Mp c d none (fun _ => some ([], [], false)) := ⟨[], [], false, Ev.now _, by simp, by simp⟩
theorem j1f (h : BookP c d) (h01 : ¬ (a0 = 0 ∧ (0 ≤ a1 ∧ a1 < (c.length : Int)) ∧ a2 = 0 ∧ 0 ≤ a3 ∧ a3 ≤ 20)) (h02 : ¬ (a0 = 1 ∧ (0 ≤ a1 ∧ a1 < (c.length : Int)) ∧ (0 ≤ a2 ∧ a2 < (c.length : Int)) ∧ a1 ≠ a2 ∧ 0 ≤ a3 ∧ a3 ≤ 9)) :
    Mp c d (made c d a0 a1 a2 a3) (fun k => spec_l9Made.j1 k false c d a0 a1 a2 a3 c d) := by
  refine Mp.step (fun k => by rw [spec_l9Made.j1]) ?_
  refine Mp.neg (by decide) ?_
  unfold made
  rw [if_neg h01, if_neg h02]
  by_cases g2 : a0 = 2 ∧ a1 = 0 ∧ a2 = 0 ∧ a3 = 0
  · rw [if_pos g2]
    refine Mp.pos (by simp [g2]) (Mp.bind (sNetted c d) ?_)
    rw [if_pos h]
    exact Mp.fin h (net_ok h) rfl
  rw [if_neg g2]
  refine Mp.neg (by simpa using g2) ?_
  by_cases g3 : a0 = 3 ∧ a1 = 0 ∧ a2 = 0 ∧ a3 = 0
  · rw [if_pos g3]
    refine Mp.pos (by simp [g3]) (Mp.bind (sWithout c d) ?_)
    rw [if_pos h]
    exact Mp.fin h (without_ok h) rfl
  rw [if_neg g3]
  exact Mp.neg (by simpa using g3) Mp.none_
theorem j0f (h : BookP c d) (h01 : ¬ (a0 = 0 ∧ (0 ≤ a1 ∧ a1 < (c.length : Int)) ∧ a2 = 0 ∧ 0 ≤ a3 ∧ a3 ≤ 20)) :
    Mp c d (made c d a0 a1 a2 a3) (fun k => spec_l9Made.j0 k (c.length : Int) false c d a0 a1 a2 a3 c d) := by
  have h4 := h.2.1
  have h1l := h.1
  have hdl := h.2.2.1
  have hw : Aside0 (wrap64 ((c.length : Int) - 1) = (c.length : Int) - 1) := ⟨w64 (by omega) (by omega)⟩
  refine Mp.step (fun k => by rw [spec_l9Made.j0]) ?_
  rw [hw.out]
  refine Mp.neg (by decide) ?_
  by_cases k1 : a0 = 1
  · refine Mp.pos k1 (Mp.bind0 (sIn _ _ _) ?_)
    by_cases k2 : 0 ≤ a1 ∧ a1 ≤ (c.length : Int) - 1
    · refine Mp.pos (decide_eq_true k2) (Mp.bind0 (sIn _ _ _) ?_)
      by_cases k3 : 0 ≤ a2 ∧ a2 ≤ (c.length : Int) - 1
      · refine Mp.pos (decide_eq_true k3) ?_
        by_cases k4 : a1 = a2
        · exact Mp.pos k4 (j1f h h01 (fun z => z.2.2.2.1 k4))
        · refine Mp.neg k4 (Mp.bind0 (sIn _ _ _) ?_)
          by_cases k5 : 0 ≤ a3 ∧ a3 ≤ 9
          · rw [decide_eq_true k5]
            refine Mp.step (fun k => by rw [spec_l9Made.j1]) ?_
            have hrl := (Cr.row_len h (i := a1) ⟨by omega, by omega⟩)
            refine Mp.pos rfl (Mp.pos (by omega) (Mp.pos (by omega) (Mp.pos (by omega) (Mp.pos (by omega) (Mp.bind0 rfl ?_)))))
            unfold made
            rw [if_neg h01, if_pos ⟨k1, ⟨by omega, by omega⟩, ⟨by omega, by omega⟩, k4, k5⟩]
            exact Mp.fin h (debt_ok h ⟨by omega, by omega⟩ ⟨by omega, by omega⟩ k4 k5) rfl
          · rw [decide_eq_false k5]
            exact j1f h h01 (fun z => k5 z.2.2.2.2)
      · exact Mp.neg (by simpa using k3) (j1f h h01 (fun z => k3 ⟨by omega, by omega⟩))
    · exact Mp.neg (by simpa using k2) (j1f h h01 (fun z => k2 ⟨by omega, by omega⟩))
  · exact Mp.neg k1 (j1f h h01 (fun z => k1 z.1))
theorem sMade (h : BookP c d) : Mp c d (made c d a0 a1 a2 a3) (fun k => spec_l9Made.f k c d a0 a1 a2 a3) := by
  have h4 := h.2.1
  have h1l := h.1
  have hw : Aside0 (wrap64 ((c.length : Int) - 1) = (c.length : Int) - 1) := ⟨w64 (by omega) (by omega)⟩
  unfold spec_l9Made.f
  refine Mp.bind (scopy h) ?_
  by_cases k1 : a0 = 0
  · refine Mp.pos k1 ?_
    rw [hw.out]
    refine Mp.bind0 (sIn _ _ _) ?_
    by_cases k2 : 0 ≤ a1 ∧ a1 ≤ (c.length : Int) - 1
    · refine Mp.pos (decide_eq_true k2) ?_
      by_cases k3 : a2 = 0
      · refine Mp.pos k3 (Mp.bind0 (sIn _ _ _) ?_)
        by_cases k4 : 0 ≤ a3 ∧ a3 ≤ 20
        · rw [decide_eq_true k4]
          refine Mp.step (fun k => by rw [spec_l9Made.j0]) ?_
          refine Mp.pos rfl (Mp.pos (by omega) (Mp.pos (by show a1 < (c.length : Int); omega) (Mp.bind0 rfl ?_)))
          unfold made
          rw [if_pos ⟨k1, ⟨by omega, by omega⟩, k3, k4⟩]
          exact Mp.fin h (cash_ok h ⟨by omega, by omega⟩ k4) List.length_set
        · rw [decide_eq_false k4]
          exact j0f h (fun z => k4 z.2.2.2)
      · exact Mp.neg k3 (j0f h (fun z => k3 z.2.2.1))
    · exact Mp.neg (by simpa using k2) (j0f h (fun z => k2 ⟨by omega, by omega⟩))
  · exact Mp.neg k1 (j0f h (fun z => k1 z.1))
end
section
variable {c : List Int} {d : List (List Int)} {ps : List B} {a0 a1 a2 a3 : Int}
theorem sDcopy (h : DeskP c d ps) : Ev (fun k => spec_l9Copy.f k c d ps) (c, d, ps) := by
  unfold spec_l9Copy.f
  refine Ev.bind (scopy h.1) ?_
  have h8 := h.2.1
  have key : ∀ (e i : Nat), ps.length - i = e → i ≤ ps.length → Ev (fun k => spec_l9Copy.l0 k (i : Int) c d ps c d (ps.take i)) (c, d, ps) := by
    intro e
    induction e with
    | zero =>
      intro i he hi
      obtain rfl : i = ps.length := by omega
      refine Ev.step (fun k => by rw [spec_l9Copy.l0]) ?_
      rw [List.take_length]
      exact evNeg (by omega) (Ev.now _)
    | succ e ih =>
      intro i he hi
      have hlt : i < ps.length := by omega
      have hs : Aside0 (wrap64 ((i : Int) + 1) = ((i + 1 : Nat) : Int)) := ⟨wsucc hlt (by omega)⟩
      have htl : (ps.take i).length = i := by rw [List.length_take]; omega
      have hmem : rd_T25 ps (i : Int) ∈ ps := by rw [rT]; exact getD_mem _ ps i hlt
      have e2 : ps.take i ++ [rd_T25 ps (i : Int)] = ps.take (i + 1) := by
        rw [rT, List.getD_eq_getElem?_getD, List.getElem?_eq_getElem hlt, List.take_succ_eq_append_getElem hlt]; rfl
      refine Ev.step (fun k => by rw [spec_l9Copy.l0]) ?_
      rw [hs.out]
      refine evPos (by omega) (evPos (by omega) (Ev.bind (scopy (h.2.2 _ hmem).1) (evPos (by omega) ?_)))
      show Ev (fun k => spec_l9Copy.l0 k ((i + 1 : Nat) : Int) c d ps c d (ps.take i ++ [rd_T25 ps (i : Int)])) _
      rw [e2]
      exact ih (i + 1) (by omega) (by omega)
  exact key ps.length 0 rfl (by omega)
def push (c : List Int) (d : List (List Int)) (ps : List B) : List B := if ps.length + 1 > 8 then (ps ++ [(⟨c, d⟩ : B)]).drop 1 else ps ++ [(⟨c, d⟩ : B)]
open Classical in
noncomputable def dd (c : List Int) (d : List (List Int)) (ps : List B) (a0 a1 a2 a3 : Int) : List Int × List (List Int) × List B × Bool :=
  if DeskP c d ps then
    (if (a0 = 4 ∧ a1 = 0 ∧ a2 = 0 ∧ a3 = 0) ∧ 0 < ps.length then ((rd_T25 ps ((ps.length - 1 : Nat) : Int)).f0, (rd_T25 ps ((ps.length - 1 : Nat) : Int)).f1, ps.take (ps.length - 1), true)
    else if made c d a0 a1 a2 a3 = none ∨ made c d a0 a1 a2 a3 = some (c, d) then (c, d, ps, false)
    else (((made c d a0 a1 a2 a3).getD (c, d)).1, ((made c d a0 a1 a2 a3).getD (c, d)).2, push c d ps, true))
  else ([], [], [], false)
theorem sDo (hp : ps.length ≤ 4611686018427387904) : Ev (fun k => spec_DeskDo.f k c d ps a0 a1 a2 a3) (dd c d ps a0 a1 a2 a3) := by
  unfold spec_DeskDo.f dd
  have eA : ((a0 == 4 && (a1 == 0 && (a2 == 0 && (a3 == 0)))) = true) = (a0 = 4 ∧ a1 = 0 ∧ a2 = 0 ∧ a3 = 0) := by simp
  by_cases h : DeskP c d ps
  · rw [if_pos h]
    have h8 := h.2.1
    by_cases hb : (a0 = 4 ∧ a1 = 0 ∧ a2 = 0 ∧ a3 = 0) ∧ 0 < ps.length
    · rw [if_pos hb]
      refine evPos (by rw [eA]; exact hb) (Ev.bind ((deskOk c d ps hp).yes h) (evPos rfl (Ev.bind (sDcopy h) ?_)))
      exact evPos ⟨by show 0 < ps.length; exact hb.2, by show ps.length < 2932031007402; omega⟩ (Ev.now _)
    · rw [if_neg hb]
      refine evNeg (by rw [eA]; exact hb) ?_
      unfold spec_DeskDo1.f
      refine Ev.bind ((deskOk c d ps hp).yes h) (evPos rfl (Ev.bind (sDcopy h) ?_))
      have key : Ev (fun k => spec_DeskDo1.j0 k false c d ps a0 a1 a2 a3 c d ps) (if made c d a0 a1 a2 a3 = none ∨ made c d a0 a1 a2 a3 = some (c, d) then (c, d, ps, false) else (((made c d a0 a1 a2 a3).getD (c, d)).1, ((made c d a0 a1 a2 a3).getD (c, d)).2, push c d ps, true)) := by
        obtain ⟨c', d', b, h1, h2, h3⟩ := sMade (a0 := a0) (a1 := a1) (a2 := a2) (a3 := a3) h.1
        refine Ev.step (fun k => by rw [spec_DeskDo1.j0]) ?_
        refine evNeg (by decide) (Ev.bind h1 ?_)
        by_cases hbt : b = true
        · have hm := h3 hbt
          obtain ⟨x, hx, hne⟩ := h2.1 hbt
          rw [hm] at hx
          obtain rfl := Option.some.inj hx
          have hR : (if made c d a0 a1 a2 a3 = none ∨ made c d a0 a1 a2 a3 = some (c, d) then (c, d, ps, false) else (((made c d a0 a1 a2 a3).getD (c, d)).1, ((made c d a0 a1 a2 a3).getD (c, d)).2, push c d ps, true)) = (c', d', push c d ps, true) := by
            rw [hm]
            exact if_neg (fun z => z.elim (fun z => by cases z) (fun z => hne (Option.some.inj z)))
          rw [hR]
          refine evPos hbt (evPos (by omega) (evBind0 rfl ?_))
          have hlen : (ps ++ [(⟨c, d⟩ : B)]).length = ps.length + 1 := by simp
          unfold push
          by_cases h9 : ps.length + 1 > 8
          · rw [if_pos h9]
            exact evPos (by omega) (evPos (by omega) (Ev.now _))
          · rw [if_neg h9]
            exact evNeg (by omega) (Ev.now _)
        · have hR : (if made c d a0 a1 a2 a3 = none ∨ made c d a0 a1 a2 a3 = some (c, d) then (c, d, ps, false) else (((made c d a0 a1 a2 a3).getD (c, d)).1, ((made c d a0 a1 a2 a3).getD (c, d)).2, push c d ps, true)) = (c, d, ps, false) := by
            refine if_pos ?_
            cases hm : made c d a0 a1 a2 a3 with
            | none => exact .inl rfl
            | some x =>
              right
              apply Classical.byContradiction
              intro hne
              exact hbt (h2.2 ⟨x, hm, fun e => hne (by rw [e])⟩)
          rw [hR]
          exact evNeg hbt (Ev.now _)
      by_cases hA : a0 = 4 ∧ a1 = 0 ∧ a2 = 0 ∧ a3 = 0
      · have hz : decide ((ps.length : Int) > 0) = false := decide_eq_false (fun z => hb ⟨hA, by omega⟩)
        refine evPos (by rw [eA]; exact hA) ?_
        rw [hz]
        exact key
      · exact evNeg (by rw [eA]; exact hA) key
  · rw [if_neg h]
    by_cases hb : (a0 = 4 ∧ a1 = 0 ∧ a2 = 0 ∧ a3 = 0) ∧ 0 < ps.length
    · exact evPos (by rw [eA]; exact hb) (Ev.bind ((deskOk c d ps hp).no h) (evNeg (by decide) (Ev.now _)))
    · refine evNeg (by rw [eA]; exact hb) ?_
      unfold spec_DeskDo1.f
      exact Ev.bind ((deskOk c d ps hp).no h) (evNeg (by decide) (Ev.now _))
theorem push_len (h8 : ps.length ≤ 8) : (push c d ps).length ≤ 8 ∧ (push c d ps).length ≤ ps.length + 1 := by
  unfold push
  split
  · simp; omega
  · simp; omega
theorem push_mem {x : B} (h : x ∈ push c d ps) : x ∈ ps ∨ x = ⟨c, d⟩ := by
  unfold push at h
  split at h
  · have := List.mem_of_mem_drop h
    simpa using this
  · simpa using h
theorem dd_ok (h : DeskP c d ps) : DeskP (dd c d ps a0 a1 a2 a3).1 (dd c d ps a0 a1 a2 a3).2.1 (dd c d ps a0 a1 a2 a3).2.2.1 ∧ (dd c d ps a0 a1 a2 a3).1.length = c.length ∧ (dd c d ps a0 a1 a2 a3).2.2.1.length ≤ ps.length + 1 := by
  have h8 := h.2.1
  unfold dd
  rw [if_pos h]
  split
  · next hb =>
    have hmem : rd_T25 ps ((ps.length - 1 : Nat) : Int) ∈ ps := by rw [rT]; exact getD_mem _ ps _ (by omega)
    have hk := h.2.2 _ hmem
    refine ⟨⟨hk.1, by simp; omega, fun x hx => ?_⟩, hk.2, by simp; omega⟩
    have := h.2.2 x (List.mem_of_mem_take hx)
    exact ⟨this.1, by rw [this.2, hk.2]⟩
  split
  · exact ⟨h, rfl, by show ps.length ≤ _; omega⟩
  · next hm =>
    have hl := push_len (c := c) (d := d) h8
    cases hq : made c d a0 a1 a2 a3 with
    | none => exact absurd (.inl hq) hm
    | some x =>
      have hx := made_ok h.1 hq
      refine ⟨⟨hx.1, hl.1, fun y hy => ?_⟩, hx.2, hl.2⟩
      rcases push_mem hy with hy | rfl
      · have := h.2.2 y hy
        exact ⟨this.1, by rw [this.2]; exact hx.2.symm⟩
      · exact ⟨h.1, hx.2.symm⟩
end
end Go.Proofs.Ytfooakkhkehpiaa.Dd
namespace Go.Proofs.Ytfooakkhkehpiaa.Dr
open Go.RowKit Go.Proofs.Ytfooakkhkehpiaa.PU Go.Proofs.Ytfooakkhkehpiaa.Qh Go.Proofs.YtfooakkhkehpiaaW.PrintWords Go.Proofs.YtfooakkhkehpiaaW.PrintMore
set_option linter.unusedVariables false
set_option linter.unusedSimpArgs false
theorem xor_nonneg (a b : Int) (ha : 0 ≤ a) (ha2 : a < 4611686018427387904) (hb : 0 ≤ b) (hb2 : b < 4611686018427387904) : 0 ≤ Go.bits .xor .i64 a b := by
  obtain ⟨m, rfl⟩ := Int.eq_ofNat_of_zero_le ha
  obtain ⟨n, rfl⟩ := Int.eq_ofNat_of_zero_le hb
  have hm : m < 2 ^ 62 := by omega
  have hn : n < 2 ^ 62 := by omega
  have hx : m ^^^ n < 2 ^ 62 := Nat.xor_lt_two_pow hm hn
  have e1 : m % 2 ^ 64 = m := Nat.mod_eq_of_lt (by omega)
  have e2 : n % 2 ^ 64 = n := Nat.mod_eq_of_lt (by omega)
  have : Go.bits .xor .i64 (m : Int) (n : Int) = ((m ^^^ n : Nat) : Int) := by
    simp only [Go.bits, BitVec.ofInt_natCast, BitVec.toNat_xor, BitVec.toNat_ofNat]
    show IntKind.i64.wrap (((m % 2 ^ 64) ^^^ (n % 2 ^ 64) : Nat) : Int) = _
    rw [e1, e2, IntKind.wrap_i64]
    omega
  rw [this]
  omega
def Bytes (b : List Int) : Prop := b.length ≤ 2000 ∧ ∀ x ∈ b, 0 ≤ x ∧ x ≤ 255
theorem rd_byte {b : List Int} (h : Bytes b) (i : Int) : 0 ≤ rd b i ∧ rd b i ≤ 255 := by
  unfold rd
  by_cases hi : i.toNat < b.length
  · exact h.2 _ (getD_mem 0 b _ hi)
  · simp [List.getD_eq_getElem?_getD, List.getElem?_eq_none (by omega : b.length ≤ i.toNat)]
theorem pick {b : List Int} (hb : Bytes b) (p n : Int) (h0 : 0 ≤ p) (h1 : p ≤ 1000000000) :
    ∃ v, 0 ≤ v ∧ (1 ≤ n → v < n) ∧ (n < 1 → v = 0) ∧ Ev (fun k => spec_l20Rd_pick.f k b p n) (v, p + 1) := by
  have hp : wrap64 (p + 1) = p + 1 := w64 (by omega) (by omega)
  have hp1 : wrap64 (p + 1 - 1) = p := by rw [w64 (by omega) (by omega)]; omega
  unfold spec_l20Rd_pick.f
  rw [hp]
  by_cases hn : n < 1
  · refine ⟨0, by omega, by omega, fun _ => rfl, evPos hn ?_⟩
    refine Ev.step (fun k => by rw [spec_l20Rd_pick.j0]) ?_
    exact evPos rfl (Ev.now _)
  by_cases hz : b.length = 0
  · refine ⟨0, by omega, by omega, fun h => absurd h hn, evNeg hn ?_⟩
    refine Ev.step (fun k => by rw [spec_l20Rd_pick.j0]) ?_
    exact evPos (by simp [hz]) (Ev.now _)
  have hlen : 0 < (b.length : Int) := by omega
  by_cases hlt : p < (b.length : Int)
  · have hr := rd_byte hb p
    refine ⟨Int.tmod (rd b p) n, Int.tmod_nonneg _ hr.1, fun _ => Int.tmod_lt_of_pos _ (by omega), fun h => absurd h hn, evNeg hn ?_⟩
    refine Ev.step (fun k => by rw [spec_l20Rd_pick.j0]) ?_
    rw [hp1]
    refine evNeg (fun h => by have := beq_iff_eq.mp h; omega) (evPos hlt (evPos h0 (evNeg (by omega) ?_)))
    rw [w64 (by omega) (by omega)]
    exact Ev.now _
  · have hp7 : wrap64 (p * 7) = p * 7 := w64 (by omega) (by omega)
    have hp73 : wrap64 (p * 7 + 3) = p * 7 + 3 := w64 (by omega) (by omega)
    have hp29 : wrap64 (p * 29) = p * 29 := w64 (by omega) (by omega)
    have i1 := Int.tmod_nonneg (b.length : Int) h0
    have i2 := Int.tmod_lt_of_pos p hlen
    have j1 := Int.tmod_nonneg (b.length : Int) (show 0 ≤ p * 7 + 3 by omega)
    have j2 := Int.tmod_lt_of_pos (p * 7 + 3) hlen
    have d1 : 0 ≤ Int.tdiv p (b.length : Int) := Int.tdiv_nonneg h0 (by omega)
    have d2 : Int.tdiv p (b.length : Int) ≤ p := Int.tdiv_le_self _ h0
    have r1 := rd_byte hb (Int.tmod p (b.length : Int))
    have r2 := rd_byte hb (Int.tmod (p * 7 + 3) (b.length : Int))
    have key : ∃ x, 0 ≤ x ∧ x < 4611686018427387904 ∧ wrap64 ((wrap64 ((wrap64 ((wrap64 ((wrap64 (rd b (Int.tmod p (b.length : Int)))) * 131)) + (wrap64 ((wrap64 (rd b (Int.tmod (p * 7 + 3) (b.length : Int)))) * 1117)))) + (p * 29))) + (wrap64 ((wrap64 (Int.tdiv p (b.length : Int))) * 53))) = x := by
      generalize rd b (Int.tmod p (b.length : Int)) = u at *
      generalize rd b (Int.tmod (p * 7 + 3) (b.length : Int)) = v at *
      generalize Int.tdiv p (b.length : Int) = d at *
      have e1 : wrap64 u = u := w64 (by omega) (by omega)
      have e2 : wrap64 v = v := w64 (by omega) (by omega)
      have e3 : wrap64 d = d := w64 (by omega) (by omega)
      have e4 : wrap64 (u * 131) = u * 131 := w64 (by omega) (by omega)
      have e5 : wrap64 (v * 1117) = v * 1117 := w64 (by omega) (by omega)
      have e6 : wrap64 (d * 53) = d * 53 := w64 (by omega) (by omega)
      have e7 : wrap64 (u * 131 + v * 1117) = u * 131 + v * 1117 := w64 (by omega) (by omega)
      have e8 : wrap64 (u * 131 + v * 1117 + p * 29) = u * 131 + v * 1117 + p * 29 := w64 (by omega) (by omega)
      refine ⟨u * 131 + v * 1117 + p * 29 + d * 53, by omega, by omega, ?_⟩
      rw [e1, e2, e3, e4, e5, e6, e7, e8]
      exact w64 (by omega) (by omega)
    obtain ⟨x, hx0, hx1, hx⟩ := key
    have t0 : 0 ≤ Int.tdiv x 64 := Int.tdiv_nonneg hx0 (by omega)
    have t1 : Int.tdiv x 64 ≤ x := Int.tdiv_le_self _ hx0
    have ht : wrap64 (Int.tdiv x 64) = Int.tdiv x 64 := w64 (by omega) (by omega)
    have hq := xor_nonneg x (Int.tdiv x 64) hx0 hx1 t0 (by omega)
    refine ⟨Int.tmod (Go.bits .xor .i64 x (Int.tdiv x 64)) n, Int.tmod_nonneg _ hq, fun _ => Int.tmod_lt_of_pos _ (by omega), fun h => absurd h hn, evNeg hn ?_⟩
    refine Ev.step (fun k => by rw [spec_l20Rd_pick.j0]) ?_
    rw [hp1, hp7, hp73, hp29, hx, ht]
    refine evNeg (fun h => by have := beq_iff_eq.mp h; omega) (evNeg hlt (evNeg (by omega) (evPos i1 (evPos i2 (evPos j1 (evPos j2 (evNeg (by omega) (Ev.now _))))))))
theorem open_ (l : List Int) (hu : ∀ x ∈ l, (Lit.int .u8 x).wf = true) : ∃ b, Bytes b ∧ spec_l20Open.f l = some (b, 0) := by
  have hb : ∀ x ∈ l, 0 ≤ x ∧ x ≤ 255 := fun x hx => by
    have := hu x hx
    simp [Lit.wf, IntKind.min, IntKind.max, IntKind.bits, IntKind.signed] at this
    omega
  unfold spec_l20Open.f
  by_cases h : (l.length : Int) > 2000
  · exact ⟨l.take 2000, ⟨by rw [List.length_take]; omega, fun x hx => hb x (List.mem_of_mem_take hx)⟩, by rw [if_pos h, if_pos (by omega)]⟩
  · exact ⟨l, ⟨by omega, hb⟩, by rw [if_neg h]⟩
end Go.Proofs.Ytfooakkhkehpiaa.Dr
namespace Go.Proofs.Ytfooakkhkehpiaa.Db
open Go.RowKit Go.Proofs.Ytfooakkhkehpiaa.PU Go.Proofs.Ytfooakkhkehpiaa.Qh Go.Proofs.Ytfooakkhkehpiaa.Dr Go.Proofs.YtfooakkhkehpiaaW.PrintWords Go.Proofs.YtfooakkhkehpiaaW.PrintMore
set_option linter.unusedVariables false
set_option linter.unusedSimpArgs false
def EvX {α : Type} (g : Nat → Option α) (P : α → Prop) : Prop := ∃ r, P r ∧ Ev g r
section
variable {α β : Type} {P Q : α → Prop} {g f : Nat → Option α}
theorem EvX.imp (h : EvX g P) (k : ∀ r, P r → Q r) : EvX g Q := by obtain ⟨r, h1, h2⟩ := h; exact ⟨r, k r h1, h2⟩
theorem EvX.now {r : α} (h : P r) : EvX (fun _ => some r) P := ⟨r, h, Ev.now _⟩
theorem EvX.step {g f : Nat → Option α} (h : ∀ k, g (k + 1) = f k) (k : EvX f P) : EvX g P := by obtain ⟨r, h1, h2⟩ := k; exact ⟨r, h1, Ev.step h h2⟩
theorem EvX.pos {c : Prop} [Decidable c] (h : c) (k : EvX g P) : EvX (fun n => if c then g n else f n) P := by obtain ⟨r, h1, h2⟩ := k; exact ⟨r, h1, evPos h h2⟩
theorem EvX.neg {c : Prop} [Decidable c] (h : ¬ c) (k : EvX f P) : EvX (fun n => if c then g n else f n) P := by obtain ⟨r, h1, h2⟩ := k; exact ⟨r, h1, evNeg h h2⟩
theorem EvX.bind {g : Nat → Option β} {f : Nat → β → Option α} {a : β} (h : Ev g a) (k : EvX (fun n => f n a) P) : EvX (fun n => (g n).bind (f n)) P := by obtain ⟨r, h1, h2⟩ := k; exact ⟨r, h1, Ev.bind h h2⟩
theorem EvX.bind0 {g : Option β} {f : Nat → β → Option α} {a : β} (h : g = some a) (k : EvX (fun n => f n a) P) : EvX (fun n => g.bind (f n)) P := by obtain ⟨r, h1, h2⟩ := k; exact ⟨r, h1, evBind0 h h2⟩
theorem EvX.bindX {R : β → Prop} {g : Nat → Option β} {f : Nat → β → Option α} (h : EvX g R) (k : ∀ a, R a → EvX (fun n => f n a) P) : EvX (fun n => (g n).bind (f n)) P := by
  obtain ⟨a, h1, h2⟩ := h; exact EvX.bind h2 (k a h1)
end
theorem podd {b : List Int} (hb : Bytes b) (p n : Int) (hn : 1 ≤ n) (hn2 : n ≤ 1000) (h0 : 0 ≤ p) (h1 : p ≤ 1000000000) : ∃ v, Ev (fun k => spec_l20Rd_odd.f k b p n) (v, p + 1) := by
  obtain ⟨x, _, _, _, hx⟩ := pick hb p n h0 h1
  unfold spec_l20Rd_odd.f
  exact ⟨_, evPos (by omega) (Ev.bind hx (Ev.now _))⟩
end Go.Proofs.Ytfooakkhkehpiaa.Db
namespace Go.Proofs.Ytfooakkhkehpiaa.Dz
open Go.RowKit Go.Proofs.Ytfooakkhkehpiaa.PU Go.Proofs.Ytfooakkhkehpiaa.Qh Go.Proofs.Ytfooakkhkehpiaa.Bk Go.Proofs.Ytfooakkhkehpiaa.Dr Go.Proofs.Ytfooakkhkehpiaa.Db Go.Proofs.Ytfooakkhkehpiaa.Dk Go.Proofs.Ytfooakkhkehpiaa.Dd Go.Proofs.YtfooakkhkehpiaaW.PrintWords Go.Proofs.YtfooakkhkehpiaaW.PrintMore
set_option linter.unusedVariables false
set_option linter.unusedSimpArgs false
theorem rL2 (xs : List (List Int)) (i : Nat) : rd_L1 xs (i : Int) = xs.getD i [] := rfl
theorem odd0 (b : List Int) (p : Int) : Ev (fun k => spec_l20Rd_odd.f k b p 0) (false, p) := by
  unfold spec_l20Rd_odd.f
  exact evNeg (by omega) (Ev.now _)
def RowK (i j : Nat) (row : List Int) : Prop := row.length = j ∧ (∀ j' : Nat, j' < j → 0 ≤ rd row (j' : Int) ∧ rd row (j' : Int) ≤ 9) ∧ (i < j → rd row (i : Int) = 0)
theorem RowK.snoc {i j : Nat} {row : List Int} (h : RowK i j row) {v : Int} (h0 : 0 ≤ v) (h9 : v ≤ 9) (hz : i = j → v = 0) : RowK i (j + 1) (row ++ [v]) := by
  have hl := h.1
  refine ⟨by simp [hl], fun j' hj => ?_, fun hi => ?_⟩
  · rw [rd_app]
    by_cases e : j' < row.length
    · rw [if_pos e]; exact h.2.1 j' (by omega)
    · rw [if_neg e, if_pos (by omega)]; exact ⟨h0, h9⟩
  · rw [rd_app]
    by_cases e : i < row.length
    · rw [if_pos e]; exact h.2.2 (by omega)
    · rw [if_neg e, if_pos (by omega)]; exact hz (by omega)
theorem k_l1 {b : List Int} (hb : Bytes b) (m : Nat) (hm : m ≤ 4) (kind : Int) (i : Nat) (hi : i < m) (cs : List Int) (ds : List (List Int)) (hds : ds.length = i) (P : List Int × List (List Int) × Int → Prop) (p0 : Int) (hp0 : 0 ≤ p0) (hp1 : p0 ≤ 100000)
    (hR : ∀ (row : List Int) (p : Int), RowK i m row → p0 ≤ p → p ≤ p0 + 2 * m → EvX (fun k => spec_l20Book.l0 k 0 (m : Int) kind ((i + 1 : Nat) : Int) b p cs (ds ++ [row])) P) :
    ∀ (e j : Nat) (row : List Int) (p : Int), m - j = e → j ≤ m → RowK i j row → p0 ≤ p → p ≤ p0 + 2 * j →
    EvX (fun k => spec_l20Book.l1 k 0 (m : Int) kind (i : Int) row (j : Int) b p cs ds) P := by
  have hs : Aside0 (wrap64 ((i : Int) + 1) = ((i + 1 : Nat) : Int)) := ⟨wsucc hi (by omega)⟩
  intro e
  induction e with
  | zero =>
    intro j row p he hj hr h0 h1
    obtain rfl : j = m := by omega
    refine EvX.step (fun k => by rw [spec_l20Book.l1]) ?_
    rw [hs.out]
    exact EvX.neg (by omega) (EvX.pos (by omega) (hR row p hr h0 h1))
  | succ e ih =>
    intro j row p he hj hr h0 h1
    have hlt : j < m := by omega
    have hj1 : Aside0 (wrap64 ((j : Int) + 1) = ((j + 1 : Nat) : Int)) := ⟨wsucc hlt (by omega)⟩
    refine EvX.step (fun k => by rw [spec_l20Book.l1]) ?_
    rw [hj1.out]
    have hc : (j : Int) < (m : Int) := by clear ih hR; omega
    refine EvX.pos hc ?_
    have go : ∀ (v p' : Int), 0 ≤ v → v ≤ 9 → (i = j → v = 0) → p0 ≤ p' → p' ≤ p0 + 2 * ((j + 1 : Nat) : Int) → EvX (fun k => if row.length < 17592186044416 then spec_l20Book.l1 k 0 (m : Int) kind (i : Int) (row ++ [v]) ((j + 1 : Nat) : Int) b p' cs ds else none) P := by
      intro v p' v0 v9 vz h2 h3
      have hl : row.length < 17592186044416 := by have := hr.1; clear hj1 hs ih hR; omega
      have q1 : m - (j + 1) = e := by clear hj1 hs ih hR; omega
      exact EvX.pos hl (ih (j + 1) (row ++ [v]) p' q1 hlt (hr.snoc v0 v9 vz) h2 h3)
    by_cases hij : (i : Int) = (j : Int)
    · exact EvX.pos hij (go 0 p (by omega) (by omega) (fun _ => rfl) h0 (by omega))
    · refine EvX.neg hij ?_
      obtain ⟨v, _, _, _, hv⟩ := pick hb p 3 (by omega) (by omega)
      refine EvX.bind hv ?_
      by_cases h2 : v > 0
      · refine EvX.pos h2 ?_
        obtain ⟨v2, a0, a1, _, hv2⟩ := pick hb (p + 1) 10 (by omega) (by omega)
        exact EvX.bind hv2 (go v2 (p + 1 + 1) a0 (by have := a1 (by omega); omega) (fun z => absurd (by rw [z]) hij) (by omega) (by omega))
      · exact EvX.neg h2 (go 0 (p + 1) (by omega) (by omega) (fun _ => rfl) (by omega) (by omega))
def BkK (m i : Nat) (cs : List Int) (ds : List (List Int)) : Prop := cs.length = i ∧ ds.length = i ∧ (∀ j : Nat, j < i → 0 ≤ rd cs (j : Int) ∧ rd cs (j : Int) ≤ 20) ∧ ∀ j : Nat, j < i → RowK j m (rd_L1 ds (j : Int))
theorem BkK.book {m : Nat} {cs : List Int} {ds : List (List Int)} (h : BkK m m cs ds) (h1 : 1 ≤ m) (h4 : m ≤ 4) : BookP cs ds := by
  obtain ⟨a, b, c, d⟩ := h
  refine ⟨by omega, by omega, by omega, fun i hi => ?_⟩
  have hr := d i (by omega)
  exact ⟨(c i (by omega)).1, (c i (by omega)).2, by rw [hr.1, a], hr.2.2 (by omega), fun j hj => hr.2.1 j (by omega)⟩
theorem k_l0 {b : List Int} (hb : Bytes b) (m : Nat) (hm1 : 1 ≤ m) (hm : m ≤ 4) (kind : Int) (hk0 : 0 ≤ kind) (hk1 : kind < 3) : ∀ (e i : Nat) (cs : List Int) (ds : List (List Int)) (p : Int), m - i = e → i ≤ m →
    BkK m i cs ds → 0 ≤ p → p ≤ 1000 + 10 * i →
    EvX (fun k => spec_l20Book.l0 k 0 (m : Int) kind (i : Int) b p cs ds) (fun r => BookP r.1 r.2.1 ∧ p ≤ r.2.2 ∧ r.2.2 ≤ p + 10 * e) := by
  intro e
  induction e with
  | zero =>
    intro i cs ds p he hi hK h0 h1
    obtain rfl : i = m := by omega
    refine EvX.step (fun k => by rw [spec_l20Book.l0]) ?_
    exact EvX.neg (by omega) (EvX.bind (odd0 b p) (EvX.neg (by simp) (EvX.now ⟨hK.book hm1 hm, by show p ≤ p; omega, by show p ≤ _; omega⟩)))
  | succ e ih =>
    intro i cs ds p he hi hK h0 h1
    have hlt : i < m := by omega
    obtain ⟨hcs, hds, hcv, hrw⟩ := hK
    refine EvX.step (fun k => by rw [spec_l20Book.l0]) ?_
    refine EvX.pos (by omega) ?_
    obtain ⟨v, v0, v1, _, hv⟩ := pick hb p 4 h0 (by omega)
    refine EvX.bind hv ?_
    obtain ⟨w, w0, w1, _, hw⟩ := pick hb (p + 1) 21 (by omega) (by omega)
    have v3 := v1 (by omega)
    have w3 := w1 (by omega)
    refine EvX.bind hw (EvX.bind0 rfl (EvX.pos hk0 (EvX.pos (by simp; omega) (EvX.pos (by omega) ?_))))
    have hval : 0 ≤ rd [0, v, w] kind ∧ rd [0, v, w] kind ≤ 20 := by
      rcases (by omega : kind = 0 ∨ kind = 1 ∨ kind = 2) with z | z | z <;> subst z
      · exact ⟨by show (0 : Int) ≤ 0; omega, by show (0 : Int) ≤ 20; omega⟩
      · exact ⟨by show (0 : Int) ≤ v; omega, by show v ≤ 20; omega⟩
      · exact ⟨by show (0 : Int) ≤ w; omega, by show w ≤ 20; omega⟩
    refine k_l1 hb m hm kind i hlt _ ds hds _ (p + 1 + 1) (by omega) (by omega) ?_ _ 0 [] (p + 1 + 1) rfl (by omega) ⟨rfl, fun j' hj => by omega, fun z => by omega⟩ (by omega) (by omega)
    intro row q hr hq0 hq1
    refine (ih (i + 1) _ (ds ++ [row]) q (by omega) (by omega) ⟨by simp; omega, by simp; omega, fun j hj => ?_, fun j hj => ?_⟩ (by omega) (by omega)).imp ?_
    · rw [rd_app]
      by_cases e' : j < cs.length
      · rw [if_pos e']; exact hcv j (by omega)
      · rw [if_neg e', if_pos (by omega)]; exact hval
    · rw [rL2, List.getD_eq_getElem?_getD, List.getElem?_append]
      by_cases hjl : j < ds.length
      · rw [if_pos hjl]
        have := hrw j (by omega)
        rw [rL2, List.getD_eq_getElem?_getD] at this
        exact this
      · rw [if_neg hjl]
        have : j = ds.length := by omega
        subst this
        rw [hds]
        simpa using hr
    · intro r hr
      exact ⟨hr.1, by have := hr.2.1; omega, by have := hr.2.2; omega⟩
theorem book0 {b : List Int} (hb : Bytes b) (p : Int) (h0 : 0 ≤ p) (h1 : p ≤ 100) : EvX (fun k => spec_l20Book.f k b p 0) (fun r => BookP r.1 r.2.1 ∧ p ≤ r.2.2 ∧ r.2.2 ≤ p + 50) := by
  unfold spec_l20Book.f
  obtain ⟨v, v0, v1, _, hv⟩ := pick hb p 6 h0 (by omega)
  have v2 := v1 (by omega)
  obtain ⟨w, w0, w1, _, hw⟩ := pick hb (p + 1) 3 (by omega) (by omega)
  have w2 := w1 (by omega)
  refine EvX.bind0 rfl (EvX.bind hv (EvX.pos v0 (EvX.pos (by simp; omega) (EvX.bind hw ?_))))
  have hm : ∃ m : Nat, 1 ≤ m ∧ m ≤ 4 ∧ rd [1, 2, 3, 3, 4, 4] v = (m : Int) := by
    rcases (by omega : v = 0 ∨ v = 1 ∨ v = 2 ∨ v = 3 ∨ v = 4 ∨ v = 5) with z | z | z | z | z | z <;> subst z
    · exact ⟨1, by omega, by omega, rfl⟩
    · exact ⟨2, by omega, by omega, rfl⟩
    · exact ⟨3, by omega, by omega, rfl⟩
    · exact ⟨3, by omega, by omega, rfl⟩
    · exact ⟨4, by omega, by omega, rfl⟩
    · exact ⟨4, by omega, by omega, rfl⟩
  obtain ⟨m, m1, m4, em⟩ := hm
  show EvX (fun k => spec_l20Book.l0 k 0 (rd [1, 2, 3, 3, 4, 4] v) w 0 b (p + 1 + 1) [] []) _
  rw [em]
  refine (k_l0 hb m m1 m4 w w0 (by omega) m 0 [] [] (p + 1 + 1) rfl (by omega) ⟨rfl, rfl, fun j hj => by omega, fun j hj => by omega⟩ (by omega) (by omega)).imp ?_
  intro r hr
  exact ⟨hr.1, by have := hr.2.1; omega, by have := hr.2.2; omega⟩
theorem deed1 {b : List Int} (hb : Bytes b) (p q : Int) (h0 : 0 ≤ p) (hq : q ≤ p) (h1 : p ≤ q + 7) (hq0 : q ≤ 1000) (a0 a1 a2 a3 : Int) : EvX (fun k => spec_l20Deed.j1 k b p a0 a1 a2 a3) (fun r => q ≤ r.2.2.2.2 ∧ r.2.2.2.2 ≤ q + 9) := by
  refine EvX.step (fun k => by rw [spec_l20Deed.j1]) ?_
  obtain ⟨v, hv⟩ := podd hb p 40 (by omega) (by omega) h0 (by omega)
  refine EvX.bind hv ?_
  by_cases hvt : v = true
  · obtain ⟨w, _, _, _, hw⟩ := pick hb (p + 1) 7 (by omega) (by omega)
    exact EvX.pos hvt (EvX.bind hw (EvX.now ⟨by show q ≤ p + 1 + 1; omega, by show p + 1 + 1 ≤ _; omega⟩))
  · exact EvX.neg hvt (EvX.now ⟨by show q ≤ p + 1; omega, by show p + 1 ≤ _; omega⟩)
theorem deed0 {b : List Int} (hb : Bytes b) (p q : Int) (h0 : 0 ≤ p) (hq : q ≤ p) (h1 : p ≤ q + 5) (hq0 : q ≤ 1000) (a0 a1 a2 a3 : Int) : EvX (fun k => spec_l20Deed.j0 k b p a0 a1 a2 a3) (fun r => q ≤ r.2.2.2.2 ∧ r.2.2.2.2 ≤ q + 9) := by
  refine EvX.step (fun k => by rw [spec_l20Deed.j0]) ?_
  obtain ⟨v, hv⟩ := podd hb p 40 (by omega) (by omega) h0 (by omega)
  refine EvX.bind hv ?_
  by_cases hvt : v = true
  · obtain ⟨w, _, _, _, hw⟩ := pick hb (p + 1) 120 (by omega) (by omega)
    exact EvX.pos hvt (EvX.bind hw (deed1 hb _ q (by omega) (by omega) (by omega) hq0 _ _ _ _))
  · exact EvX.neg hvt (deed1 hb _ q (by omega) (by omega) (by omega) hq0 _ _ _ _)
theorem deed {b : List Int} (hb : Bytes b) (p : Int) (h0 : 0 ≤ p) (h1 : p ≤ 1000) (c : List Int) (d : List (List Int)) (ps : List B) : EvX (fun k => spec_l20Deed.f k b p c d ps) (fun r => p ≤ r.2.2.2.2 ∧ r.2.2.2.2 ≤ p + 9) := by
  unfold spec_l20Deed.f
  obtain ⟨v, v0, v1, _, hv⟩ := pick hb p 9 h0 (by omega)
  have v2 := v1 (by omega)
  obtain ⟨w, _, _, _, hw⟩ := pick hb (p + 1) 60 (by omega) (by omega)
  refine EvX.bind0 rfl (EvX.bind hv (EvX.pos v0 (EvX.pos (by simp; omega) (EvX.bind hw ?_))))
  obtain ⟨x, _, _, _, hx⟩ := pick hb (p + 1 + 1) (mx (c.length : Int) 1) (by omega) (by omega)
  by_cases hA : wrap64 (rd [0, 0, 1, 1, 1, 1, 2, 3, 4] v + wrap64 (wrap64 (Int.tdiv w 59) * 5)) = 0
  · obtain ⟨y, _, _, _, hy⟩ := pick hb (p + 1 + 1 + 1) 21 (by omega) (by omega)
    exact EvX.pos hA (EvX.bind hx (EvX.bind hy (deed0 hb _ p (by omega) (by omega) (by omega) h1 _ _ _ _)))
  refine EvX.neg hA ?_
  by_cases hB : wrap64 (rd [0, 0, 1, 1, 1, 1, 2, 3, 4] v + wrap64 (wrap64 (Int.tdiv w 59) * 5)) = 1
  · obtain ⟨y, _, _, _, hy⟩ := pick hb (p + 1 + 1 + 1) (mx (c.length : Int) 1) (by omega) (by omega)
    obtain ⟨z, _, _, _, hz⟩ := pick hb (p + 1 + 1 + 1 + 1) 10 (by omega) (by omega)
    exact EvX.pos hB (EvX.bind hx (EvX.bind hy (EvX.bind hz (deed0 hb _ p (by omega) (by omega) (by omega) h1 _ _ _ _))))
  · exact EvX.neg hB (deed0 hb _ p (by omega) (by omega) (by omega) h1 _ _ _ _)
def SmD (r : List Int × List (List Int) × List B × Int) (p m : Int) : Prop := r.2.2.1.length ≤ 5 ∧ p ≤ r.2.2.2 ∧ r.2.2.2 ≤ p + m
theorem desk_l0 {b : List Int} (hb : Bytes b) (n : Int) (hn : 1 ≤ n) (hn2 : n ≤ 1000) : ∀ (m : Nat) (c : List Int) (d : List (List Int)) (ps : List B) (p : Int), DeskP c d ps → ps.length + m ≤ 4 → 0 ≤ p → p ≤ 500 - 9 * m →
    EvX (fun k => spec_l20Desk.l0 k n (m : Int) b p c d ps) (fun r => SmD r p (9 * m + 2)) := by
  intro m
  induction m with
  | zero =>
    intro c d ps p h hm h0 h1
    refine EvX.step (fun k => by rw [spec_l20Desk.l0]) ?_
    refine EvX.neg (by omega) ?_
    obtain ⟨v, hv⟩ := podd hb p n hn hn2 h0 (by omega)
    refine EvX.bind hv ?_
    by_cases hvt : v = true
    · refine EvX.pos hvt ?_
      obtain ⟨w, _, _, _, hw⟩ := pick hb (p + 1) 3 (by omega) (by omega)
      refine EvX.bind hw ?_
      have hc1 := h.1.1
      by_cases e0 : w = 0
      · exact EvX.pos e0 (EvX.pos (by omega) (EvX.now ⟨by show ps.length ≤ 5; omega, by show p ≤ p + 1 + 1; omega, by show p + 1 + 1 ≤ _; omega⟩))
      refine EvX.neg e0 ?_
      by_cases e1 : w = 1
      · exact EvX.pos e1 (EvX.pos (by omega) (EvX.pos (by omega) (EvX.now ⟨by show (ps ++ [_]).length ≤ 5; simp; omega, by show p ≤ p + 1 + 1; omega, by show p + 1 + 1 ≤ _; omega⟩)))
      · exact EvX.neg e1 (EvX.now ⟨by show ([] : List B).length ≤ 5; simp, by show p ≤ p + 1 + 1; omega, by show p + 1 + 1 ≤ _; omega⟩)
    · exact EvX.neg hvt (EvX.now ⟨by show ps.length ≤ 5; omega, by show p ≤ p + 1; omega, by show p + 1 ≤ _; omega⟩)
  | succ m ih =>
    intro c d ps p h hm h0 h1
    have hw : Aside0 (wrap64 (((m + 1 : Nat) : Int) - 1) = (m : Int)) := ⟨by rw [w64 (by omega) (by omega)]; omega⟩
    refine EvX.step (fun k => by rw [spec_l20Desk.l0]) ?_
    rw [hw.out]
    refine EvX.pos (by omega) (EvX.bindX (deed hb p h0 (by omega) c d ps) (fun a ha => ?_))
    have hq0 := ha.1
    have hq1 := ha.2
    have hdd := dd_ok (a0 := a.1) (a1 := a.2.1) (a2 := a.2.2.1) (a3 := a.2.2.2.1) h
    refine EvX.bind (sDo (by have := h.2.1; omega)) ?_
    have fin : ∀ r, SmD r a.2.2.2.2 (9 * m + 2) → SmD r p (9 * ((m + 1 : Nat) : Int) + 2) := fun r hr => ⟨hr.1, by have := hr.2.1; omega, by have := hr.2.2; omega⟩
    by_cases hok : (dd c d ps a.1 a.2.1 a.2.2.1 a.2.2.2.1).2.2.2 = true
    · exact EvX.pos hok ((ih _ _ _ a.2.2.2.2 hdd.1 (by have := hdd.2.2; omega) (by omega) (by omega)).imp fin)
    · exact EvX.neg hok ((ih c d ps a.2.2.2.2 h (by omega) (by omega) (by omega)).imp fin)
theorem desk {b : List Int} (hb : Bytes b) (n : Int) (hn : 1 ≤ n) (hn2 : n ≤ 1000) (p : Int) (h0 : 0 ≤ p) (h1 : p ≤ 100) : EvX (fun k => spec_l20Desk.f k b p n) (fun r => SmD r p 100) := by
  unfold spec_l20Desk.f
  refine EvX.bindX (book0 hb p h0 h1) (fun r hr => ?_)
  have r1 := hr.2.1
  have r2 := hr.2.2
  obtain ⟨v, v0, v1, _, hv⟩ := pick hb r.2.2 5 (by omega) (by omega)
  have v2 := v1 (by omega)
  refine EvX.bind hv ?_
  obtain ⟨m, rfl⟩ := Int.eq_ofNat_of_zero_le v0
  refine (desk_l0 hb n hn hn2 m r.1 r.2.1 [] (r.2.2 + 1) ⟨hr.1, by simp, fun x hx => by simp at hx⟩ (by simp; omega) (by omega) (by omega)).imp ?_
  intro q hq
  exact ⟨hq.1, by have := hq.2.1; omega, by have := hq.2.2; omega⟩
end Go.Proofs.Ytfooakkhkehpiaa.Dz
namespace Go.Proofs.Ytfooakkhkehpiaa.Al
open Go.RowKit Go.Proofs.Ytfooakkhkehpiaa.PU Go.Proofs.Ytfooakkhkehpiaa.Qh Go.Proofs.YtfooakkhkehpiaaW.PrintWords Go.Proofs.YtfooakkhkehpiaaW.PrintMore
set_option linter.unusedVariables false
set_option linter.unusedSimpArgs false
theorem alive : Ev (fun k => laws_alive.f k) true := Ev.of (fun k => laws_alive.mono k) (k := 12) (by decide +kernel)
end Go.Proofs.Ytfooakkhkehpiaa.Al
namespace Go.Proofs.Ytfooakkhkehpiaa.Fdk
open Go.RowKit Go.Proofs.Ytfooakkhkehpiaa.PU Go.Proofs.Ytfooakkhkehpiaa.Qh Go.Proofs.Ytfooakkhkehpiaa.Bk Go.Proofs.Ytfooakkhkehpiaa.Dk Go.Proofs.Ytfooakkhkehpiaa.Dz Go.Proofs.YtfooakkhkehpiaaW.PrintWords Go.Proofs.YtfooakkhkehpiaaW.PrintMore
set_option linter.unusedVariables false
set_option linter.unusedSimpArgs false
theorem iOk (c : List Int) (d : List (List Int)) (ps : List B) : EvB (fun k => impl_DeskOk.f k c d ps) (DeskP c d ps) := by
  unfold impl_DeskOk.f
  obtain ⟨b, hb, e⟩ := isDesk c d ps
  exact ⟨b, hb, Ev.bind e (Ev.now _)⟩
theorem nil_no : ¬ DeskP ([] : List Int) ([] : List (List Int)) ([] : List B) := fun h => by have := h.1.1; simp at this
theorem holds : laws_FnDeskOk.Pure := by
  intro l0 _ _ hu
  refine Ev.rounds (g := fun k => laws_FnDeskOk.f k l0) ?_
  unfold laws_FnDeskOk.f
  by_cases a : (l0.length : Int) > 1048576
  · exact evPos a (Ev.now _)
  refine evNeg a ?_
  obtain ⟨b, hb, ho⟩ := Dr.open_ l0 hu
  obtain ⟨⟨c, d, ps, q⟩, hr, hdk⟩ := desk hb 2 (by omega) (by omega) 0 (by omega) (by omega)
  have hps : ps.length ≤ 5 := hr.1
  have hd : Ev (fun k => spec_DrawDeskOk.f k l0) (c, d, ps) := by
    unfold spec_DrawDeskOk.f
    exact evBind0 ho (Ev.bind hdk (Ev.now _))
  refine Ev.bind hd ?_
  have no := (iOk [] [] []).no nil_no
  by_cases h : DeskP c d ps
  · refine Ev.bind ((iOk c d ps).yes h) (Ev.bind ((deskOk c d ps (by omega)).yes h) (evNeg (by decide) (evPos rfl ?_)))
    refine Ev.bind ((iOk c d []).yes ⟨h.1, by simp, fun x hx => by simp at hx⟩) (evPos rfl (Ev.bind no (evNeg (by decide) (Ev.bind Al.alive (Ev.now _)))))
  · refine Ev.bind ((iOk c d ps).no h) (Ev.bind ((deskOk c d ps (by omega)).no h) (evNeg (by decide) (evNeg (by decide) ?_)))
    exact Ev.bind no (evNeg (by decide) (Ev.bind Al.alive (Ev.now _)))
end Go.Proofs.Ytfooakkhkehpiaa.Fdk
namespace Go.Proofs.Ytfooakkhkehpiaa.Pure
open Go.RowKit Go.Proofs.Ytfooakkhkehpiaa.PU
theorem FnDeskOk : laws_FnDeskOk.Pure := Go.Proofs.Ytfooakkhkehpiaa.Fdk.holds
end Go.Proofs.Ytfooakkhkehpiaa.Pure
namespace Go.Proofs.YtfooakkhkehpiaaW.PrintWords
open Go.ChangeShapes Go.WideShapes
theorem sized_ints {H : Type} {enc : TypeId × Value → H} {P : Program} {W : World} {base : Nat} {spare : Nat → Bool} {held : Bool} {t e : TypeId} {k : IntKind} {a : Option Addr} {len cap : Nat} {d : DataW H} {ps : List MemPlace} {ts : List TypeId} {ds : List (DataW H)} {j : Nat}
    (hsz : (DataW.weightsEach P ts ds).all (· ≤ reachBytes) = true) (ht : ts[j]? = some t) (hd : ds[j]? = some d) (hu : P.underlying t = some (.slice e)) (he : P.underlying e = some (.int k)) (hc : P.cellsOf e = 1) {B : Nat} (hB : P.bytesOf e = B)
    (h : DataW.Trod enc P W base spare held t (.slice a len cap) d ps) : len * B ≤ 140737488351232 := by
  obtain ⟨fuel, hf⟩ := h
  rcases open_ints hu he hc hf with ⟨hcs, _⟩ | ⟨x, l, c, zs, hcs, _, hl, _, hz, hx, _, _⟩
  · simp [Value.cells] at hcs
    obtain ⟨rfl, rfl, rfl⟩ := hcs
    simp
  · simp [Value.cells] at hcs
    obtain ⟨rfl, rfl, rfl⟩ := hcs
    obtain ⟨hx, _⟩ := Prod.mk.inj hx
    subst hx
    have z := sized_slice hsz ht hd hu
    rw [hB] at z
    have hl2 : len ≤ zs.length := by
      rw [hz]
      split
      · exact hl
      · exact Nat.le_refl _
    have h1 : (lits (H := H) k (zs.take len)).length + (lits (H := H) k (zs.drop len)).length = zs.length := by
      simp [lits]
      omega
    rw [h1] at z
    exact Nat.le_trans (Nat.mul_le_mul_right _ hl2) z
end Go.Proofs.YtfooakkhkehpiaaW.PrintWords
namespace Go.Proofs.Ytfooakkhkehpiaa.fnDeskOk
open Go.ChangeShapes Go.WideShapes Go.ChangeAt Go.RowKit
open Go.ChangeMaps (open_string shut_string)
set_option linter.unusedVariables false
theorem own : ownKnob Try.prog.godebug = none := by kernel_rfl
theorem laidOut : laidOutB Try.prog = true := by kernel_rfl
def IsRow (k : IntKind) (w : World) (a : Option Addr) (len cap : Nat) (zs : List Int) : Prop :=
  (a = none ∧ len = 0 ∧ cap = 0 ∧ zs = []) ∨
  ∃ x, a = some x ∧ len ≤ cap ∧ cap ≤ maxLen ∧ zs.length = cap ∧ (∀ i, i < zs.length → w.cell? (x.add i) = some (.int k (zs.getD i 0))) ∧ ∀ n ∈ zs, (Lit.int k n).wf = true
set_option maxRecDepth 100000 in
theorem lifted (os : Os) (started : os.Started) (H : Type) (enc : TypeId × Value → H) :
    ReturnsInHanded {} Try.checked os 6 .any (Rows.fnDeskOkSpec.pre6 enc Try.prog Try.f6 Rows.fnDeskOkRow.domain false) (Rows.fnDeskOkSpec.post enc Try.prog Try.f6 false true false false) := by
  refine returnsInHanded_of_change_sized (C := Try.checked) own started (by kernel_rfl) Try.func6
    (ChangeSpec.witness6 (enc := enc) (C := Try.checked) false ⟨#[], #[.slice none 0 0], []⟩ 8 (by kernel_rfl) (by kernel_rfl) (by kernel_rfl) (by kernel_rfl)) ?_
  intro W base args ds gs before hval0 hW hcnd hsz0 _
  have hsz : (DataW.weightsEach Try.prog (Try.f6.params.toList ++ Rows.fnDeskOkSpec.plain.varTypes Try.prog) (ds ++ gs)).all (· ≤ reachBytes) = true := hsz0
  have hval : ∀ (j : Nat) t v, Try.f6.params[j]? = some t → args[j]? = some v → Value.okWide Try.prog W .any base t v := hval0
  have hW' := hW
  obtain ⟨p, q, hA0, hV, rfl, hfz, hnd⟩ := hW
  have hA : DataW.TrodAll enc Try.prog W 0 (fun _ => true) true Try.f6.params.toList args.toList ds p := hA0
  rw [Try.params6] at hA hval hsz
  obtain ⟨v0, vs0, d0, ds0, p0, q0, hargs, rfl, rfl, h0, r0⟩ := trodAll_cons hA
  obtain ⟨rfl, rfl, rfl⟩ := trodAll_nil r0
  obtain rfl : args = #[v0] := by cases args; simp_all
  obtain ⟨rfl, rfl⟩ := trodVars_none hV
  obtain ⟨a0, len0, cap0, rfl⟩ := okWide_slice Try.underlying33 (hval 0 33 v0 rfl rfl)
  have k0 := h0
  have lt0 : ∀ x ∈ p0, x.block < W.heap.size := by obtain ⟨m, hm⟩ := k0; exact DataW.trod_lt m _ _ _ hm
  obtain ⟨z0, w0⟩ : ∃ zs, IsRow .u8 W a0 len0 cap0 zs := by
    obtain ⟨fuel, hf⟩ := h0
    rcases open_ints Try.underlying33 Try.underlying5 (by kernel_rfl) hf with ⟨hcs, _⟩ | ⟨x, l, c, zs, hcs, _, hl, hm, hz, _, hcell, hwz⟩
    · simp [Value.cells] at hcs
      obtain ⟨rfl, rfl, rfl⟩ := hcs
      exact ⟨[], .inl ⟨rfl, rfl, rfl, rfl⟩⟩
    · simp [Value.cells] at hcs
      obtain ⟨rfl, rfl, rfl⟩ := hcs
      exact ⟨zs, .inr ⟨_, rfl, hl, hm, by simpa using hz, hcell, hwz⟩⟩
  have y0 : len0 * 1 ≤ 140737488351232 := Go.Proofs.YtfooakkhkehpiaaW.PrintWords.sized_ints hsz (j := 0) (t := 33) rfl rfl Try.underlying33 Try.underlying5 (by kernel_rfl) (by kernel_rfl) h0
  clear hA0 hval0 hsz0 hsz
  refine (PU.laws_FnDeskOk.walk Pure.FnDeskOk a0 len0 cap0 z0 W w0 y0).mono fun e W' ⟨he, bel⟩ => ?_
  subst he
  exact ⟨_, rfl, _, _, _, [], _, [], hW', trodAll_mk1 (shut_bool Try.underlying4 _), (trodAll_cons_mk (Below.trod laidOut (by kernel_rfl) (of_decide_eq_true (by kernel_rfl)) k0 bel lt0) trodAll_mk0), rfl, bel.frame _, fun h => by cases h⟩
theorem over : Rows.fnDeskOkRow.holds Try.pinned (OpenSpec.ofChange Rows.fnDeskOkSpec) :=
  OpenClaim.holds_of_wide 6 Try.f6 rfl rfl rfl rfl rfl rfl rfl ⟨rfl, rfl, rfl, rfl, rfl⟩ rfl rfl rfl rfl rfl (by kernel_rfl) Try.func6 (by kernel_rfl)
    (of_decide_eq_true (by kernel_rfl)) (by unfold Func.isWrapper; first | (rw [if_pos (by decide +kernel)]; kernel_rfl) | (rw [if_neg (by decide +kernel)]; exact ⟨rfl, rfl⟩))
    (fun os started H enc _ => lifted os started H enc)
theorem proved : Rows.FnDeskOkSaid := over
end Go.Proofs.Ytfooakkhkehpiaa.fnDeskOk
namespace Go.Proofs.Ytfooakkhkehpiaa
theorem fnDeskOk_holds : Rows.FnDeskOkSaid := fnDeskOk.proved
end Go.Proofs.Ytfooakkhkehpiaa
