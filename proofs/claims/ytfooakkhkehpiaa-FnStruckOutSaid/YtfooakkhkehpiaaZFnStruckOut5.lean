/- FnStruckOut: for every input the law holds. No condition. -/
import Derived.Test.YtfooakkhkehpiaaZFnStruckOut1
import Derived.Test.YtfooakkhkehpiaaZFnStruckOut2
import Derived.Test.YtfooakkhkehpiaaZFnStruckOut3
import Derived.Test.YtfooakkhkehpiaaZFnStruckOut4
import Derived.SizedLaws
import Derived.ChangeSlices
import Derived.Test.YtfooakkhkehpiaaRows
import Derived.ProofKit
import Derived.OpenShut
import Derived.ShutString
import Derived.ChangeOld
namespace Go.Proofs.Ytfooakkhkehpiaa.PU
open Go.RowKit Go.Proofs.YtfooakkhkehpiaaW.PrintWords Go.Proofs.YtfooakkhkehpiaaW.PrintLast Go.Proofs.YtfooakkhkehpiaaW.PrintMore Go.Proofs.Ytfooakkhkehpiaa.Qd
attribute [local go_sem] max2_int min2_int max_two min_two max_three min_three max_four min_four
set_option linter.unusedVariables false
set_option linter.unusedSimpArgs false
def laws_FnStruckOut.j0 : Nat → Bool → Bool → List Int → List (List Int) → List Int → List (List Int) → Option (Bool)
 | 0, _, _, _, _, _, _ => none
 | k + 1, x6, x37, bk4, bk5, ad8, ad9 => if x37 = true then (some false) else (if x6 = true then ((impl_BookOk.f k ad8 ad9).bind fun bk6 => (if bk6 = true then ((impl_NetsOf.f k ad8 ad9).bind fun ld => ((impl_NetsOf.f k bk4 bk5).bind fun lf => ((laws_sameInts.f k ld lf).bind fun bk7 => (if bk7 = true then ((impl_AllDebts.f k ad8 ad9).bind fun ae0 => ((impl_AllDebts.f k bk4 bk5).bind fun ae1 => (if ae0 < ae1 then ((impl_CirclesOf.f k ad8 ad9).bind fun as3 => ((impl_CirclesOf.f k bk4 bk5).bind fun bk8 => (some (decide ((as3.length : Int) < (bk8.length : Int)))))) else (some false)))) else (some false))))) else (some false))) else ((laws_noBook.f k ad8 ad9).bind fun bk9 => (if bk9 = true then ((laws_alive.f k).bind fun bl0 => (some bl0)) else (some false))))
def laws_FnStruckOut.f (k : Nat) (l0 : List Int) : Option (Bool) := if (l0.length : Int) > 1048576 then (some true) else ((spec_DrawStruckOut.f k l0).bind fun bt437 => ((impl_StruckOut.f k bt437.1 bt437.2.1 bt437.2.2).bind fun bt445 => ((spec_StruckOut.f k bt437.1 bt437.2.1 bt437.2.2).bind fun bt453 => ((laws_sameBook.f k bt445.1 bt445.2.1 bt453.1 bt453.2.1).bind fun ae2 => (if ae2 = true then (laws_FnStruckOut.j0 k bt445.2.2 (bt445.2.2 != bt453.2.2) bt437.1 bt437.2.1 bt445.1 bt445.2.1) else (laws_FnStruckOut.j0 k bt445.2.2 true bt437.1 bt437.2.1 bt445.1 bt445.2.1))))))
theorem laws_FnStruckOut.mq {p : Prop} (h : p := by
 repeat' first
 | (with_reducible exact ih0 _ _ _ _ _ _)
 | (with_reducible exact impl_AllDebts.mono _ _ _)
 | (with_reducible exact impl_BookOk.mono _ _ _)
 | (with_reducible exact impl_CirclesOf.mono _ _ _)
 | (with_reducible exact impl_NetsOf.mono _ _ _)
 | (with_reducible exact impl_StruckOut.mono _ _ _ _)
 | (with_reducible exact laws_alive.mono _)
 | (with_reducible exact laws_noBook.mono _ _ _)
 | (with_reducible exact laws_sameBook.mono _ _ _ _ _)
 | (with_reducible exact laws_sameInts.mono _ _ _)
 | (with_reducible exact spec_DrawStruckOut.mono _ _)
 | (with_reducible exact spec_StruckOut.mono _ _ _ _)
 | (with_reducible exact LeO.refl _)
 | (with_reducible exact LeO.none _)
 | (with_reducible refine LeO.ite ?_ ?_)
 | (with_reducible refine LeO.bind ?_ (fun _ => ?_))
 | exact ih0 _ _ _ _ _ _
 | exact impl_AllDebts.mono _ _ _
 | exact impl_BookOk.mono _ _ _
 | exact impl_CirclesOf.mono _ _ _
 | exact impl_NetsOf.mono _ _ _
 | exact impl_StruckOut.mono _ _ _ _
 | exact laws_alive.mono _
 | exact laws_noBook.mono _ _ _
 | exact laws_sameBook.mono _ _ _ _ _
 | exact laws_sameInts.mono _ _ _
 | exact spec_DrawStruckOut.mono _ _
 | exact spec_StruckOut.mono _ _ _ _
 | exact LeO.none _
 | refine LeO.ite ?_ ?_
 | refine LeO.bind ?_ (fun _ => ?_)) : p := h
theorem laws_FnStruckOut.mono_l : ∀ k, (∀ y0 y1 y2 y3 y4 y5, LeO (laws_FnStruckOut.j0 k y0 y1 y2 y3 y4 y5) (laws_FnStruckOut.j0 (k + 1) y0 y1 y2 y3 y4 y5))
 | 0 => fun _ _ _ _ _ _ r h => by simp [laws_FnStruckOut.j0] at h
 | k + 1 => by
  have ih0 := laws_FnStruckOut.mono_l k
  ·intro y0 y1 y2 y3 y4 y5
   unfold laws_FnStruckOut.j0
   exact laws_FnStruckOut.mq
theorem laws_FnStruckOut.mono : ∀ a0 k, LeO (laws_FnStruckOut.f k a0) (laws_FnStruckOut.f (k + 1) a0) := by
 intro a0 k
 have ih0 := laws_FnStruckOut.mono_l k
 unfold laws_FnStruckOut.f
 exact laws_FnStruckOut.mq
def laws_FnStruckOut.T10 : Bool × List (List Nat × List Nat) := (true, [([], []), ([0], [0]), ([1, 1], [1]), ([2], [2]), ([3, 2, 2], [2, 3]), ([2], [2]), ([5, 4, 2], [2, 5]), ([4, 6, 6, 2], [2, 4, 6]), ([2, 7], [2, 7]), ([8, 7], [8]), ([9], [9]), ([10, 9, 9], [9, 10]), ([9], [9]), ([12, 11, 9], [9, 12]), ([11, 13, 9], [9, 11, 13]), ([9, 14], [9, 14]), ([15, 13], [15]), ([16], [16]), ([17, 16, 16], [16, 17]), ([18, 16], [16, 18]), ([16], [16]), ([20, 18, 16], [16, 20]), ([21, 16], [16, 21]), ([19, 22, 16], [16, 19, 22]), ([16, 23], [16, 23]), ([24, 21, 0, 1, 2, 3, 4, 5, 6, 7, 8, 9, 10, 11, 12, 13, 14, 15, 16, 17, 18, 19, 20, 21, 22, 23, 24], [24])])
def laws_FnStruckOut.B10 : List Nat := [0, 1, 3, 7, 15, 7, 63, 127, 255, 511, 1023, 2047, 1023, 8191, 16383, 32767, 65535, 131071, 262143, 524287, 131071, 1572863, 3670015, 8388607, 16777215, 33554431]
theorem laws_FnStruckOut.tab10 : rtab .any (opsOf Try.f9 10) = laws_FnStruckOut.T10 := by kernel_rfl
theorem laws_FnStruckOut.bits10 : waitsOk laws_FnStruckOut.T10.2 laws_FnStruckOut.B10 = true := by kernel_rfl
theorem ch {p : Prop} (h : p := by repeat (first | (with_reducible first | exact HB.out | apply below_alloc | apply pw_below_drewN | apply below_drew1 | refine below_set ?_ dn9.out | refine below_set ?_ do0.out | refine below_set ?_ do1.out) | exact HB.out)) : p := h
set_option maxHeartbeats 8000000 in
set_option maxRecDepth 100000 in
theorem laws_FnStruckOut.calls (k : Nat) (A0 : Option Addr) (c0 : Nat) (l0 : List Int) (r : Bool) (w : World) (br : Kd.C (Kd.int .u8) w A0 l0.length l0) (cx : l0.length ≤ c0) (h : laws_FnStruckOut.f k l0 = some r) :
  Calls Try.prog 9 #[.slice A0 l0.length c0] w fun e w' => e = .returned (.bool r) ∧ Below w.heap.size w w' := by
 have hu25 := Try.underlying25
 have dz := Aside0.mk br
 have kt := Aside0.mk cx
 clear br cx
 have HB := Aside0.mk (Below.refl w.heap.size w)
 have H : (if (l0.length : Int) > 1048576 then (some true) else ((spec_DrawStruckOut.f k l0).bind fun bt437 => ((impl_StruckOut.f k bt437.1 bt437.2.1 bt437.2.2).bind fun bt445 => ((spec_StruckOut.f k bt437.1 bt437.2.1 bt437.2.2).bind fun bt453 => ((laws_sameBook.f k bt445.1 bt445.2.1 bt453.1 bt453.2.1).bind fun ae2 => (if ae2 = true then (laws_FnStruckOut.j0 k bt445.2.2 (bt445.2.2 != bt453.2.2) bt437.1 bt437.2.1 bt445.1 bt445.2.1) else (laws_FnStruckOut.j0 k bt445.2.2 true bt437.1 bt437.2.1 bt445.1 bt445.2.1))))))) = some r := h
 clear h
 by_cases c2 : (l0.length : Int) > 1048576
 ·rw [if_pos c2] at H
  have jx := decide_eq_true c2
  have nw : decide (1048576 < l0.length) = true := decide_eq_true (by omega)
  clear c2
  obtain rfl := Option.some.inj H
  go_enter Try.func9, Try.ntmps9
  go_wp2
  go_ret
  exact ⟨g4_, ch⟩
 ·rw [if_neg c2] at H
  have jx := decide_eq_false c2
  have nw : decide (1048576 < l0.length) = false := decide_eq_false (by omega)
  clear c2
  replace H := Option.bind_eq_some_iff.mp H
  obtain ⟨⟨bl, cw, ae3⟩, j3, H⟩ := H
  try dsimp only at H
  have A3 := Aside0.mk j3
  clear j3
  replace H := Option.bind_eq_some_iff.mp H
  obtain ⟨⟨bd, bn, as4⟩, sp, H⟩ := H
  try dsimp only at H
  have A4 := Aside0.mk sp
  clear sp
  replace H := Option.bind_eq_some_iff.mp H
  obtain ⟨⟨dj, ep, cj0⟩, A50, H⟩ := H
  try dsimp only at H
  have A5 := Aside0.mk A50
  clear A50
  have tc := Aside0.mk H
  clear H
  go_enter Try.func9, Try.ntmps9
  go_upto_region 6 with (first | ((with_reducible refine gate_callee (f := 47) rfl ?_); refine goesL_ (some 14) rfl rfl Try.func47 k_ rfl #[.slice A0 l0.length c0] rfl (g3_) ?_; (with_reducible refine (spec_DrawStruckOut.calls k _ _ l0 bl cw ae3 _ ?side1 ?side2 A3.out).mono ?_); (case side1 => repeat (first | exact dz.out | (with_reducible refine Kd.C_alloc ?_ _) | (with_reducible refine Kd.C_drewN ?_ _) | (with_reducible refine Kd.C_drew ?_))); (case side2 => exact kt.out); rintro e w7 ⟨do2, es8, rfl, aj, em, hb⟩; refine ⟨_, rfl, ?_⟩; have gx := Aside0.mk (Kd.R_lower (Kd.R_mono (ok' := fun k_ => True) aj (fun _ hk_ => trivial)) (below_size (ch))); have gg := Aside0.mk (Kd.V_lower (Kd.V_mono (ok' := fun k_ => some k_ ≠ (do2 : Value).ownBlock) em (fun k_ hk_ => hk_.2)) (below_size (ch))); replace HB := Aside0.mk (below_step (ch) hb); (try clear hb); (try clear hk hi); (try clear aj); (try clear em)) | ((with_reducible refine gate_dst (N := 3) rfl ?_); (try (refine gate_guard (by rfl) ?_; dsimp only)); refine bx_ (N := 3) #[.slice none 0 0, .slice none 0 0] 25 ?_; intro cl hg w8 hbox hb; replace gx := Aside0.mk (Kd.R_below (uf1_ gx) hb); replace gg := Aside0.mk (Kd.V_below (Kd.V_elderB (uf5_ gg) cl (Nat.le_of_eq hg.symm)) hb); have ao := Aside0.mk (hbox); have es9 := Aside0.mk ((g28_ : w.heap.size ≤ cl)); have dn9 := Aside0.mk ((g28_ : w.heap.size ≤ cl)); replace HB := Aside0.mk (below_step (ch) hb); clear hb hbox hg; obtain ⟨cb, b6, eo9⟩ := Kd.R_slice gx.out; subst eo9; obtain ⟨av0, av1, av2, av3⟩ := blk2_ ao; obtain ⟨b7, bv, yl⟩ := Kd.V_slice gg.out; subst yl) | ((with_reducible refine gate_callee (f := 48) rfl ?_); refine goesL_ (some 20) rfl rfl Try.func48 k_ rfl #[.agg #[.slice cb bl.length b6, .slice b7 cw.length bv], .int .i64 ae3] rfl (g3_) ?_; (with_reducible refine (impl_StruckOut.calls k _ _ bl _ _ cw ae3 bd bn as4 _ ?side1 ?side2 ?side3 ?side4 A4.out).mono ?_); (case side1 => refine (Kd.R_reads' (e := 3) (base := w.heap.size) (ok := fun k_ => True) (n := bl.length) (c := b6) ?_).2.2; exact (g43_)); (case side2 => exact (Kd.R_reads' gx.out).2.1); (case side3 => refine (Kd.V_reads' (e := 22) (base := w.heap.size) (ok := fun k_ => (some k_ ≠ (.slice cb bl.length b6 : Value).ownBlock ∧ k_ ≠ cl)) (n := cw.length) (c := bv) ?_).2.2; exact (by (with_reducible repeat (first | apply Kd.V_alloc | apply Kd.V_drewN | apply Kd.V_drew)); exact (Kd.V_mono (Kd.V_far (p := ⟨cl, 1, none⟩) (Kd.V_far (p := ⟨cl, 0, none⟩) (Kd.V_mono gg.out (fun k_ hk => (⟨hk, hk.2⟩ : _ ∧ k_ ≠ cl))) (fun _ hk => hk.2) (.slice cb bl.length b6)) (fun _ hk => hk.2) (.slice b7 cw.length bv)) (fun _ h_ => h_.1)))); (case side4 => exact (Kd.V_reads' gg.out).2.1); rintro e qg ⟨do3, et0, rfl, aj, em, hb⟩; refine ⟨_, rfl, ?_⟩; replace gg := Aside0.mk (Kd.V_mono (Kd.V_told (Kd.V_told (Kd.V_old (by (with_reducible repeat (first | apply Kd.V_alloc | apply Kd.V_drewN | apply Kd.V_drew)); exact (Kd.V_mono (Kd.V_far (p := ⟨cl, 1, none⟩) (Kd.V_far (p := ⟨cl, 0, none⟩) (Kd.V_mono gg.out (fun k_ hk => (⟨hk, hk.2⟩ : _ ∧ k_ ≠ cl))) (fun _ hk => hk.2) (.slice cb bl.length b6)) (fun _ hk => hk.2) (.slice b7 cw.length bv)) (fun _ h_ => h_.1))) hb) (Kd.R_base aj)) (Kd.N_base em)) (fun _ h_ => h_.1)); have kk := Aside0.mk (Kd.R_lower (Kd.R_new' (Kd.R_mono (ok' := fun k_ => True) aj (fun _ hk_ => trivial)) (Kd.R_lt (g43_))) (below_size (ch))); have jr := Aside0.mk (Kd.N_lower (Kd.N_mono (ok' := fun k_ => some k_ ≠ (do3 : Value).ownBlock ∧ some k_ ≠ (.slice cb bl.length b6 : Value).ownBlock ∧ k_ ≠ cl) em (fun k_ hk_ => ⟨hk_.2, (Kd.fresh' (Kd.R_lt (g43_)) k_ hk_.1), (Kd.freshB (g := cl) (o := .cells #[.slice cb bl.length b6, .slice b7 cw.length bv] 25 (0, 0)) (by (with_reducible repeat (first | refine blk_drewN ?_ _ | refine blk_drew ?_ | refine blk_alloc ?_ _)); refine blk_put (cs := #[.slice cb bl.length b6, .slice none 0 0]) ?_ 1 _ rfl; refine blk_put (cs := #[.slice none 0 0, .slice none 0 0]) ?_ 0 _ rfl; exact uf0_ ao) k_ hk_.1)⟩)) (below_size (ch))); replace gx := Aside0.mk (Kd.R_elder' (g43_) (Kd.R_base aj) hb); replace ao := Aside0.mk (blk_below (g := cl) (o := .cells #[.slice cb bl.length b6, .slice b7 cw.length bv] 25 (0, 0)) (by (with_reducible repeat (first | refine blk_drewN ?_ _ | refine blk_drew ?_ | refine blk_alloc ?_ _)); refine blk_put (cs := #[.slice cb bl.length b6, .slice none 0 0]) ?_ 1 _ rfl; refine blk_put (cs := #[.slice none 0 0, .slice none 0 0]) ?_ 0 _ rfl; exact uf0_ ao) hb); replace HB := Aside0.mk (below_step (ch) hb); (try clear hb); (try clear hk hi); (try clear aj); (try clear em)) | ((with_reducible refine gate_dst (N := 5) rfl ?_); (try (refine gate_guard (by rfl) ?_; dsimp only)); refine bx_ (N := 5) #[.slice none 0 0, .slice none 0 0] 25 ?_; intro ce hg kh hbox hb; replace gx := Aside0.mk (Kd.R_below (uf1_ gx) hb); replace gg := Aside0.mk (Kd.V_below (Kd.V_elderB (uf5_ gg) ce (Nat.le_of_eq hg.symm)) hb); replace kk := Aside0.mk (Kd.R_below (uf1_ kk) hb); replace jr := Aside0.mk (Kd.N_below (Kd.N_elderB (uf4_ jr) ce (Nat.le_of_eq hg.symm)) hb); have an := Aside0.mk (hbox); have et1 := Aside0.mk ((g28_ : w.heap.size ≤ ce)); have do0 := Aside0.mk ((g28_ : w.heap.size ≤ ce)); replace HB := Aside0.mk (below_step (ch) hb); have qc := Aside0.mk ((by rw [hg]; exact Nat.ne_of_lt (blk_lt (g := cl) (o := .cells #[.slice cb bl.length b6, .slice b7 cw.length bv] 25 (0, 0)) (uf0_ ao)) : cl ≠ ce)); have ae4 := Aside0.mk ((by rw [hg]; exact Nat.ne_of_gt (blk_lt (g := cl) (o := .cells #[.slice cb bl.length b6, .slice b7 cw.length bv] 25 (0, 0)) (uf0_ ao)) : ce ≠ cl)); replace ao := bb_ ao hb; clear hb hbox hg; obtain ⟨bj, be, ny⟩ := Kd.R_slice kk.out; subst ny; have et2 := ae4.out; have et3 := qc.out; obtain ⟨ag3, ag4, ag5, ag6⟩ := blk2_ an; obtain ⟨cj, ca, o6⟩ := Kd.N_slice jr.out; subst o6; obtain ⟨ag7, ag8, ag9, ah0⟩ := blk2_ ao) | ((with_reducible refine gate_callee (f := 49) rfl ?_); refine goesL_ (some 26) rfl rfl Try.func49 k_ rfl #[.agg #[.slice cb bl.length b6, .slice b7 cw.length bv], .int .i64 ae3] rfl (g3_) ?_; (with_reducible refine (spec_StruckOut.calls k _ _ bl _ _ cw ae3 dj ep cj0 _ ?side1 ?side2 ?side3 ?side4 A5.out).mono ?_); (case side1 => refine (Kd.R_reads' (e := 3) (base := w.heap.size) (ok := fun k_ => (True ∧ some k_ ≠ (.slice bj bd.length be : Value).ownBlock)) (n := bl.length) (c := b6) ?_).2.2; exact (g44_)); (case side2 => exact (Kd.R_reads' gx.out).2.1); (case side3 => refine (Kd.V_reads' (e := 22) (base := w.heap.size) (ok := fun k_ => ((((some k_ ≠ (.slice cb bl.length b6 : Value).ownBlock ∧ k_ ≠ cl) ∧ some k_ ≠ (.slice bj bd.length be : Value).ownBlock) ∧ some k_ ≠ (.slice cj bn.length ca : Value).ownBlock) ∧ k_ ≠ ce)) (n := cw.length) (c := bv) ?_).2.2; exact (by (with_reducible repeat (first | apply Kd.V_alloc | apply Kd.V_drewN | apply Kd.V_drew)); exact (Kd.V_mono (Kd.V_far (p := ⟨ce, 1, none⟩) (Kd.V_far (p := ⟨ce, 0, none⟩) (Kd.V_mono gg.out (fun k_ hk => (⟨hk, hk.2⟩ : _ ∧ k_ ≠ ce))) (fun _ hk => hk.2) (.slice bj bd.length be)) (fun _ hk => hk.2) (.slice cj bn.length ca)) (fun _ h_ => h_.1)))); (case side4 => exact (Kd.V_reads' gg.out).2.1); rintro e yb ⟨do4, et4, rfl, aj, em, hb⟩; refine ⟨_, rfl, ?_⟩; replace gg := Aside0.mk (Kd.V_mono (Kd.V_told (Kd.V_told (Kd.V_old (by (with_reducible repeat (first | apply Kd.V_alloc | apply Kd.V_drewN | apply Kd.V_drew)); exact (Kd.V_mono (Kd.V_far (p := ⟨ce, 1, none⟩) (Kd.V_far (p := ⟨ce, 0, none⟩) (Kd.V_mono gg.out (fun k_ hk => (⟨hk, hk.2⟩ : _ ∧ k_ ≠ ce))) (fun _ hk => hk.2) (.slice bj bd.length be)) (fun _ hk => hk.2) (.slice cj bn.length ca)) (fun _ h_ => h_.1))) hb) (Kd.R_base aj)) (Kd.N_base em)) (fun _ h_ => h_.1)); have op := Aside0.mk (Kd.R_lower (Kd.R_new' (Kd.R_new' (Kd.R_mono (ok' := fun k_ => True) aj (fun _ hk_ => trivial)) (Kd.R_lt (g44_))) (Kd.R_lt (g63_))) (below_size (ch))); have oq := Aside0.mk (Kd.N_lower (Kd.N_mono (ok' := fun k_ => some k_ ≠ (do4 : Value).ownBlock ∧ some k_ ≠ (.slice cb bl.length b6 : Value).ownBlock ∧ some k_ ≠ (.slice bj bd.length be : Value).ownBlock ∧ some k_ ≠ (.slice cj bn.length ca : Value).ownBlock ∧ k_ ≠ cl ∧ k_ ≠ ce) em (fun k_ hk_ => ⟨hk_.2, (Kd.fresh' (Kd.R_lt (g44_)) k_ hk_.1), (Kd.fresh' (Kd.R_lt (g63_)) k_ hk_.1), (Kd.fresh' (Kd.N_lt (by (with_reducible repeat (first | apply Kd.N_alloc | apply Kd.N_drewN | apply Kd.N_drew)); exact (Kd.N_mono (Kd.N_far (p := ⟨ce, 1, none⟩) (Kd.N_far (p := ⟨ce, 0, none⟩) (Kd.N_mono jr.out (fun k_ hk => (⟨hk, hk.2⟩ : _ ∧ k_ ≠ ce))) (fun _ hk => hk.2) (.slice bj bd.length be)) (fun _ hk => hk.2) (.slice cj bn.length ca)) (fun _ h_ => h_.1)))) k_ hk_.1), (Kd.freshB (g := cl) (o := .cells #[.slice cb bl.length b6, .slice b7 cw.length bv] 25 (0, 0)) (by (with_reducible repeat (first | refine blk_drewN ?_ _ | refine blk_drew ?_ | refine blk_alloc ?_ _)); refine blk_far ?_ qc.out _; refine blk_far ?_ qc.out _; exact uf0_ ao) k_ hk_.1), (Kd.freshB (g := ce) (o := .cells #[.slice bj bd.length be, .slice cj bn.length ca] 25 (0, 0)) (by (with_reducible repeat (first | refine blk_drewN ?_ _ | refine blk_drew ?_ | refine blk_alloc ?_ _)); refine blk_put (cs := #[.slice bj bd.length be, .slice none 0 0]) ?_ 1 _ rfl; refine blk_put (cs := #[.slice none 0 0, .slice none 0 0]) ?_ 0 _ rfl; exact uf0_ an) k_ hk_.1)⟩)) (below_size (ch))); replace gx := Aside0.mk (Kd.R_elder' (g44_) (Kd.R_base aj) hb); replace kk := Aside0.mk (Kd.R_elder' (g63_) (Kd.R_base aj) hb); replace jr := Aside0.mk (Kd.N_mono (Kd.N_told (Kd.N_told (Kd.N_old (by (with_reducible repeat (first | apply Kd.N_alloc | apply Kd.N_drewN | apply Kd.N_drew)); exact (Kd.N_mono (Kd.N_far (p := ⟨ce, 1, none⟩) (Kd.N_far (p := ⟨ce, 0, none⟩) (Kd.N_mono jr.out (fun k_ hk => (⟨hk, hk.2⟩ : _ ∧ k_ ≠ ce))) (fun _ hk => hk.2) (.slice bj bd.length be)) (fun _ hk => hk.2) (.slice cj bn.length ca)) (fun _ h_ => h_.1))) hb) (Kd.R_base aj)) (Kd.N_base em)) (fun _ h_ => h_.1)); replace ao := Aside0.mk (blk_below (g := cl) (o := .cells #[.slice cb bl.length b6, .slice b7 cw.length bv] 25 (0, 0)) (by (with_reducible repeat (first | refine blk_drewN ?_ _ | refine blk_drew ?_ | refine blk_alloc ?_ _)); refine blk_far ?_ qc.out _; refine blk_far ?_ qc.out _; exact uf0_ ao) hb); replace an := Aside0.mk (blk_below (g := ce) (o := .cells #[.slice bj bd.length be, .slice cj bn.length ca] 25 (0, 0)) (by (with_reducible repeat (first | refine blk_drewN ?_ _ | refine blk_drew ?_ | refine blk_alloc ?_ _)); refine blk_put (cs := #[.slice bj bd.length be, .slice none 0 0]) ?_ 1 _ rfl; refine blk_put (cs := #[.slice none 0 0, .slice none 0 0]) ?_ 0 _ rfl; exact uf0_ an) hb); replace HB := Aside0.mk (below_step (ch) hb); (try clear hb); (try clear hk hi); (try clear aj); (try clear em)) | ((with_reducible refine gate_dst (N := 7) rfl ?_); (try (refine gate_guard (by rfl) ?_; dsimp only)); refine bx_ (N := 7) #[.slice none 0 0, .slice none 0 0] 25 ?_; intro ct hg sc hbox hb; replace gx := Aside0.mk (Kd.R_below (uf1_ gx) hb); replace gg := Aside0.mk (Kd.V_below (Kd.V_elderB (uf5_ gg) ct (Nat.le_of_eq hg.symm)) hb); replace kk := Aside0.mk (Kd.R_below (uf1_ kk) hb); replace jr := Aside0.mk (Kd.N_below (Kd.N_elderB (uf4_ jr) ct (Nat.le_of_eq hg.symm)) hb); replace op := Aside0.mk (Kd.R_below (uf1_ op) hb); replace oq := Aside0.mk (Kd.N_below (Kd.N_elderB (uf4_ oq) ct (Nat.le_of_eq hg.symm)) hb); have bk := Aside0.mk (hbox); have et5 := Aside0.mk ((g28_ : w.heap.size ≤ ct)); have do1 := Aside0.mk ((g28_ : w.heap.size ≤ ct)); replace HB := Aside0.mk (below_step (ch) hb); have ui := Aside0.mk ((by rw [hg]; exact Nat.ne_of_lt (blk_lt (g := cl) (o := .cells #[.slice cb bl.length b6, .slice b7 cw.length bv] 25 (0, 0)) (uf0_ ao)) : cl ≠ ct)); have bl1 := Aside0.mk ((by rw [hg]; exact Nat.ne_of_gt (blk_lt (g := cl) (o := .cells #[.slice cb bl.length b6, .slice b7 cw.length bv] 25 (0, 0)) (uf0_ ao)) : ct ≠ cl)); replace ao := bb_ ao hb; have qd := Aside0.mk ((by rw [hg]; exact Nat.ne_of_lt (blk_lt (g := ce) (o := .cells #[.slice bj bd.length be, .slice cj bn.length ca] 25 (0, 0)) (uf0_ an)) : ce ≠ ct)); have ae5 := Aside0.mk ((by rw [hg]; exact Nat.ne_of_gt (blk_lt (g := ce) (o := .cells #[.slice bj bd.length be, .slice cj bn.length ca] 25 (0, 0)) (uf0_ an)) : ct ≠ ce)); replace an := bb_ an hb; clear hb hbox hg; obtain ⟨d6, dy, do5⟩ := Kd.R_slice op.out; subst do5; have et6 := bl1.out; have et7 := ui.out; have dn5 := ae5.out; have dn6 := qd.out; obtain ⟨bh4, bh5, bh6, bh7⟩ := blk2_ bk; obtain ⟨ej, ea, zp⟩ := Kd.N_slice oq.out; subst zp))
  (try simp only [Act.put, List.setIfInBounds_toArray, List.set_cons_zero, List.set_cons_succ])
  go_cut [37] (fun v37 wc => ∃ (kq : Nat) (as5 : Bool), v37 = .bool as5 ∧ Aside0 (laws_FnStruckOut.j0 kq as4 as5 bl cw bd bn = some r) ∧ Aside0 (kq ≤ k) ∧ Aside0 (Kd.R (Kd.int .i64) 3 wc w.heap.size (fun k_ => some k_ ≠ ((.slice bj bd.length be) : Value).ownBlock ∧ some k_ ≠ ((.slice d6 dj.length dy) : Value).ownBlock) (.slice cb bl.length b6) bl) ∧ Aside0 (Kd.V (Kd.slice 3 (Kd.int .i64)) 22 wc w.heap.size (fun k_ => some k_ ≠ ((.slice cb bl.length b6) : Value).ownBlock ∧ some k_ ≠ ((.slice bj bd.length be) : Value).ownBlock ∧ some k_ ≠ ((.slice cj bn.length ca) : Value).ownBlock ∧ some k_ ≠ ((.slice d6 dj.length dy) : Value).ownBlock ∧ some k_ ≠ ((.slice ej ep.length ea) : Value).ownBlock ∧ k_ ≠ cl ∧ k_ ≠ ce ∧ k_ ≠ ct) (.slice b7 cw.length bv) cw) ∧ Aside0 (Kd.R (Kd.int .i64) 3 wc w.heap.size (fun k_ => some k_ ≠ ((.slice cb bl.length b6) : Value).ownBlock ∧ some k_ ≠ ((.slice d6 dj.length dy) : Value).ownBlock) (.slice bj bd.length be) bd) ∧ Aside0 (Kd.N (Kd.slice 3 (Kd.int .i64)) 22 wc w.heap.size (fun k_ => some k_ ≠ ((.slice cb bl.length b6) : Value).ownBlock ∧ some k_ ≠ ((.slice bj bd.length be) : Value).ownBlock ∧ some k_ ≠ ((.slice d6 dj.length dy) : Value).ownBlock ∧ some k_ ≠ ((.slice ej ep.length ea) : Value).ownBlock ∧ k_ ≠ cl ∧ k_ ≠ ce ∧ k_ ≠ ct) (.slice cj bn.length ca) bn) ∧ Aside0 (Kd.R (Kd.int .i64) 3 wc w.heap.size (fun k_ => some k_ ≠ ((.slice cb bl.length b6) : Value).ownBlock ∧ some k_ ≠ ((.slice bj bd.length be) : Value).ownBlock) (.slice d6 dj.length dy) dj) ∧ Aside0 (Kd.N (Kd.slice 3 (Kd.int .i64)) 22 wc w.heap.size (fun k_ => some k_ ≠ ((.slice cb bl.length b6) : Value).ownBlock ∧ some k_ ≠ ((.slice bj bd.length be) : Value).ownBlock ∧ some k_ ≠ ((.slice cj bn.length ca) : Value).ownBlock ∧ some k_ ≠ ((.slice d6 dj.length dy) : Value).ownBlock ∧ k_ ≠ cl ∧ k_ ≠ ce ∧ k_ ≠ ct) (.slice ej ep.length ea) ep) ∧ Aside0 (wc.heap[cl]? = some (.cells #[(.slice cb bl.length b6), (.slice b7 cw.length bv)] 25 (0, 0))) ∧ Aside0 (wc.heap[ce]? = some (.cells #[(.slice bj bd.length be), (.slice cj bn.length ca)] 25 (0, 0))) ∧ Aside0 (wc.heap[ct]? = some (.cells #[(.slice d6 dj.length dy), (.slice ej ep.length ea)] 25 (0, 0))) ∧ Aside0 (Below w.heap.size w wc))
  case first =>
   have H := tc.out
   clear tc
   obtain ⟨ae2, zi, H⟩ := bind_ H
   by_cases es : ae2 = true
   ·subst es
    replace H := ifp_ H
    have H' := Aside0.mk H
    clear H
    have et8 := ae4.out
    have et9 := qc.out
    have dd1 := qd.out
    have dd2 := ae5.out
    obtain ⟨bv8, bv9, bw0, bw1⟩ := blk2_ an
    have dj9 := bl1.out
    have dk0 := ui.out
    obtain ⟨cf7, cf8, cf9, cg0⟩ := blk2_ bk
    go_wp2_with (first | ((with_reducible refine gate_callee (f := 40) rfl ?_); refine goesL_ (some 31) rfl rfl Try.func40 k_ rfl #[.agg #[.slice bj bd.length be, .slice cj bn.length ca], .agg #[.slice d6 dj.length dy, .slice ej ep.length ea]] rfl (g3_) ?_; (with_reducible refine (laws_sameBook.calls k _ _ bd _ _ bn _ _ dj _ _ ep true _ ?side1 ?side2 ?side3 ?side4 ?side5 ?side6 ?side7 ?side8 zi.out).mono ?_); (case side1 => refine (Kd.R_reads' (e := 3) (base := w.heap.size) (ok := fun k_ => ((True ∧ some k_ ≠ (.slice cb bl.length b6 : Value).ownBlock) ∧ some k_ ≠ (.slice d6 dj.length dy : Value).ownBlock)) (n := bd.length) (c := be) ?_).2.2; exact (g45_)); (case side2 => exact (Kd.R_reads' kk.out).2.1); (case side3 => refine (Kd.N_reads' (e := 22) (base := w.heap.size) (ok := fun k_ => (((((some k_ ≠ (.slice bj bd.length be : Value).ownBlock ∧ (some k_ ≠ (.slice cb bl.length b6 : Value).ownBlock ∧ k_ ≠ cl)) ∧ k_ ≠ ce) ∧ some k_ ≠ (.slice d6 dj.length dy : Value).ownBlock) ∧ some k_ ≠ (.slice ej ep.length ea : Value).ownBlock) ∧ k_ ≠ ct)) (n := bn.length) (c := ca) ?_).2.2; exact (g46_)); (case side4 => exact (Kd.N_reads' jr.out).2.1); (case side5 => refine (Kd.R_reads' (e := 3) (base := w.heap.size) (ok := fun k_ => ((True ∧ some k_ ≠ (.slice cb bl.length b6 : Value).ownBlock) ∧ some k_ ≠ (.slice bj bd.length be : Value).ownBlock)) (n := dj.length) (c := dy) ?_).2.2; exact (g47_)); (case side6 => exact (Kd.R_reads' op.out).2.1); (case side7 => refine (Kd.N_reads' (e := 22) (base := w.heap.size) (ok := fun k_ => ((some k_ ≠ (.slice d6 dj.length dy : Value).ownBlock ∧ (some k_ ≠ (.slice cb bl.length b6 : Value).ownBlock ∧ (some k_ ≠ (.slice bj bd.length be : Value).ownBlock ∧ (some k_ ≠ (.slice cj bn.length ca : Value).ownBlock ∧ (k_ ≠ cl ∧ k_ ≠ ce))))) ∧ k_ ≠ ct)) (n := ep.length) (c := ea) ?_).2.2; exact (g48_)); (case side8 => exact (Kd.N_reads' oq.out).2.1); rintro e w33 ⟨rfl, hb⟩; refine ⟨_, rfl, ?_⟩; replace gx := Aside0.mk (Kd.R_below (by (with_reducible repeat (first | apply Kd.R_alloc | apply Kd.R_drewN | apply Kd.R_drew)); exact (Kd.R_mono (Kd.R_far (p := ⟨ct, 1, none⟩) (Kd.R_far (p := ⟨ct, 0, none⟩) (Kd.R_types gx.out bk.out (by decide)) (fun _ hk => hk.2) (.slice d6 dj.length dy)) (fun _ hk => hk.2) (.slice ej ep.length ea)) (fun _ h_ => h_.1))) hb); replace gg := Aside0.mk (Kd.V_below (by (with_reducible repeat (first | apply Kd.V_alloc | apply Kd.V_drewN | apply Kd.V_drew)); exact (Kd.V_mono (Kd.V_far (p := ⟨ct, 1, none⟩) (Kd.V_far (p := ⟨ct, 0, none⟩) (Kd.V_mono gg.out (fun k_ hk => (⟨hk, hk.2⟩ : _ ∧ k_ ≠ ct))) (fun _ hk => hk.2) (.slice d6 dj.length dy)) (fun _ hk => hk.2) (.slice ej ep.length ea)) (fun _ h_ => h_.1))) hb); replace kk := Aside0.mk (Kd.R_below (g45_) hb); replace jr := Aside0.mk (Kd.N_below (g46_) hb); replace op := Aside0.mk (Kd.R_below (g47_) hb); replace oq := Aside0.mk (Kd.N_below (g48_) hb); replace ao := Aside0.mk (blk_below (g := cl) (o := .cells #[.slice cb bl.length b6, .slice b7 cw.length bv] 25 (0, 0)) (by (with_reducible repeat (first | refine blk_drewN ?_ _ | refine blk_drew ?_ | refine blk_alloc ?_ _)); refine blk_far ?_ ui.out _; refine blk_far ?_ ui.out _; exact uf0_ ao) hb); replace an := Aside0.mk (blk_below (g := ce) (o := .cells #[.slice bj bd.length be, .slice cj bn.length ca] 25 (0, 0)) (by (with_reducible repeat (first | refine blk_drewN ?_ _ | refine blk_drew ?_ | refine blk_alloc ?_ _)); refine blk_far ?_ qd.out _; refine blk_far ?_ qd.out _; exact uf0_ an) hb); replace bk := Aside0.mk (blk_below (g := ct) (o := .cells #[.slice d6 dj.length dy, .slice ej ep.length ea] 25 (0, 0)) (by (with_reducible repeat (first | refine blk_drewN ?_ _ | refine blk_drew ?_ | refine blk_alloc ?_ _)); refine blk_put (cs := #[.slice d6 dj.length dy, .slice none 0 0]) ?_ 1 _ rfl; refine blk_put (cs := #[.slice none 0 0, .slice none 0 0]) ?_ 0 _ rfl; exact uf0_ bk) hb); replace HB := Aside0.mk (below_step (ch) hb); (try clear hb); (try clear hk hi)))
    go_meet
    case rel => exact ⟨_, ((as4 != cj0)), (g2_), H', ⟨g9_⟩, ⟨by (with_reducible repeat (first | apply Kd.R_alloc | apply Kd.R_drewN | apply Kd.R_drew)); exact Kd.R_mono gx.out (fun _ hk => ⟨hk.1.2, hk.2⟩)⟩, ⟨by (with_reducible repeat (first | apply Kd.V_alloc | apply Kd.V_drewN | apply Kd.V_drew)); exact Kd.V_mono gg.out (fun _ hk => ⟨hk.1.1.1.1.1.1.1, ⟨hk.1.1.1.1.1.2, ⟨hk.1.1.1.1.2, ⟨hk.1.1.2, ⟨hk.1.2, ⟨hk.1.1.1.1.1.1.2, ⟨hk.1.1.1.2, hk.2⟩⟩⟩⟩⟩⟩⟩)⟩, ⟨by (with_reducible repeat (first | apply Kd.R_alloc | apply Kd.R_drewN | apply Kd.R_drew)); exact Kd.R_mono kk.out (fun _ hk => ⟨hk.1.2, hk.2⟩)⟩, ⟨by (with_reducible repeat (first | apply Kd.N_alloc | apply Kd.N_drewN | apply Kd.N_drew)); exact Kd.N_mono jr.out (fun _ hk => ⟨hk.1.1.1.1.2.1, ⟨hk.1.1.1.1.1, ⟨hk.1.1.2, ⟨hk.1.2, ⟨hk.1.1.1.1.2.2, ⟨hk.1.1.1.2, hk.2⟩⟩⟩⟩⟩⟩)⟩, ⟨by (with_reducible repeat (first | apply Kd.R_alloc | apply Kd.R_drewN | apply Kd.R_drew)); exact Kd.R_mono op.out (fun _ hk => ⟨hk.1.2, hk.2⟩)⟩, ⟨by (with_reducible repeat (first | apply Kd.N_alloc | apply Kd.N_drewN | apply Kd.N_drew)); exact Kd.N_mono oq.out (fun _ hk => ⟨hk.1.2.1, ⟨hk.1.2.2.1, ⟨hk.1.2.2.2.1, ⟨hk.1.1, ⟨hk.1.2.2.2.2.1, ⟨hk.1.2.2.2.2.2, hk.2⟩⟩⟩⟩⟩⟩)⟩, ⟨uf0_ ao⟩, ⟨uf0_ an⟩, ⟨uf0_ bk⟩, ⟨ch⟩⟩
   ·replace es := Bool.eq_false_iff.mpr es
    subst es
    replace H := ifn_ H
    have H' := Aside0.mk H
    clear H
    have eu0 := ae4.out
    have eu1 := qc.out
    have eu2 := qd.out
    have eu3 := ae5.out
    obtain ⟨do6, do7, do8, do9⟩ := blk2_ an
    have eu4 := bl1.out
    have eu5 := ui.out
    obtain ⟨bb2, bb3, bb4, bb5⟩ := blk2_ bk
    go_wp2_with (first | ((with_reducible refine gate_callee (f := 40) rfl ?_); refine goesL_ (some 31) rfl rfl Try.func40 k_ rfl #[.agg #[.slice bj bd.length be, .slice cj bn.length ca], .agg #[.slice d6 dj.length dy, .slice ej ep.length ea]] rfl (g3_) ?_; (with_reducible refine (laws_sameBook.calls k _ _ bd _ _ bn _ _ dj _ _ ep false _ ?side1 ?side2 ?side3 ?side4 ?side5 ?side6 ?side7 ?side8 zi.out).mono ?_); (case side1 => refine (Kd.R_reads' (e := 3) (base := w.heap.size) (ok := fun k_ => ((True ∧ some k_ ≠ (.slice cb bl.length b6 : Value).ownBlock) ∧ some k_ ≠ (.slice d6 dj.length dy : Value).ownBlock)) (n := bd.length) (c := be) ?_).2.2; exact (g45_)); (case side2 => exact (Kd.R_reads' kk.out).2.1); (case side3 => refine (Kd.N_reads' (e := 22) (base := w.heap.size) (ok := fun k_ => (((((some k_ ≠ (.slice bj bd.length be : Value).ownBlock ∧ (some k_ ≠ (.slice cb bl.length b6 : Value).ownBlock ∧ k_ ≠ cl)) ∧ k_ ≠ ce) ∧ some k_ ≠ (.slice d6 dj.length dy : Value).ownBlock) ∧ some k_ ≠ (.slice ej ep.length ea : Value).ownBlock) ∧ k_ ≠ ct)) (n := bn.length) (c := ca) ?_).2.2; exact (g46_)); (case side4 => exact (Kd.N_reads' jr.out).2.1); (case side5 => refine (Kd.R_reads' (e := 3) (base := w.heap.size) (ok := fun k_ => ((True ∧ some k_ ≠ (.slice cb bl.length b6 : Value).ownBlock) ∧ some k_ ≠ (.slice bj bd.length be : Value).ownBlock)) (n := dj.length) (c := dy) ?_).2.2; exact (g47_)); (case side6 => exact (Kd.R_reads' op.out).2.1); (case side7 => refine (Kd.N_reads' (e := 22) (base := w.heap.size) (ok := fun k_ => ((some k_ ≠ (.slice d6 dj.length dy : Value).ownBlock ∧ (some k_ ≠ (.slice cb bl.length b6 : Value).ownBlock ∧ (some k_ ≠ (.slice bj bd.length be : Value).ownBlock ∧ (some k_ ≠ (.slice cj bn.length ca : Value).ownBlock ∧ (k_ ≠ cl ∧ k_ ≠ ce))))) ∧ k_ ≠ ct)) (n := ep.length) (c := ea) ?_).2.2; exact (g48_)); (case side8 => exact (Kd.N_reads' oq.out).2.1); rintro e w39 ⟨rfl, hb⟩; refine ⟨_, rfl, ?_⟩; replace gx := Aside0.mk (Kd.R_below (by (with_reducible repeat (first | apply Kd.R_alloc | apply Kd.R_drewN | apply Kd.R_drew)); exact (Kd.R_mono (Kd.R_far (p := ⟨ct, 1, none⟩) (Kd.R_far (p := ⟨ct, 0, none⟩) (Kd.R_types gx.out bk.out (by decide)) (fun _ hk => hk.2) (.slice d6 dj.length dy)) (fun _ hk => hk.2) (.slice ej ep.length ea)) (fun _ h_ => h_.1))) hb); replace gg := Aside0.mk (Kd.V_below (by (with_reducible repeat (first | apply Kd.V_alloc | apply Kd.V_drewN | apply Kd.V_drew)); exact (Kd.V_mono (Kd.V_far (p := ⟨ct, 1, none⟩) (Kd.V_far (p := ⟨ct, 0, none⟩) (Kd.V_mono gg.out (fun k_ hk => (⟨hk, hk.2⟩ : _ ∧ k_ ≠ ct))) (fun _ hk => hk.2) (.slice d6 dj.length dy)) (fun _ hk => hk.2) (.slice ej ep.length ea)) (fun _ h_ => h_.1))) hb); replace kk := Aside0.mk (Kd.R_below (g45_) hb); replace jr := Aside0.mk (Kd.N_below (g46_) hb); replace op := Aside0.mk (Kd.R_below (g47_) hb); replace oq := Aside0.mk (Kd.N_below (g48_) hb); replace ao := Aside0.mk (blk_below (g := cl) (o := .cells #[.slice cb bl.length b6, .slice b7 cw.length bv] 25 (0, 0)) (by (with_reducible repeat (first | refine blk_drewN ?_ _ | refine blk_drew ?_ | refine blk_alloc ?_ _)); refine blk_far ?_ ui.out _; refine blk_far ?_ ui.out _; exact uf0_ ao) hb); replace an := Aside0.mk (blk_below (g := ce) (o := .cells #[.slice bj bd.length be, .slice cj bn.length ca] 25 (0, 0)) (by (with_reducible repeat (first | refine blk_drewN ?_ _ | refine blk_drew ?_ | refine blk_alloc ?_ _)); refine blk_far ?_ qd.out _; refine blk_far ?_ qd.out _; exact uf0_ an) hb); replace bk := Aside0.mk (blk_below (g := ct) (o := .cells #[.slice d6 dj.length dy, .slice ej ep.length ea] 25 (0, 0)) (by (with_reducible repeat (first | refine blk_drewN ?_ _ | refine blk_drew ?_ | refine blk_alloc ?_ _)); refine blk_put (cs := #[.slice d6 dj.length dy, .slice none 0 0]) ?_ 1 _ rfl; refine blk_put (cs := #[.slice none 0 0, .slice none 0 0]) ?_ 0 _ rfl; exact uf0_ bk) hb); replace HB := Aside0.mk (below_step (ch) hb); (try clear hb); (try clear hk hi)))
    go_meet
    case rel => exact ⟨_, (true), (g2_), H', ⟨g9_⟩, ⟨by (with_reducible repeat (first | apply Kd.R_alloc | apply Kd.R_drewN | apply Kd.R_drew)); exact Kd.R_mono gx.out (fun _ hk => ⟨hk.1.2, hk.2⟩)⟩, ⟨by (with_reducible repeat (first | apply Kd.V_alloc | apply Kd.V_drewN | apply Kd.V_drew)); exact Kd.V_mono gg.out (fun _ hk => ⟨hk.1.1.1.1.1.1.1, ⟨hk.1.1.1.1.1.2, ⟨hk.1.1.1.1.2, ⟨hk.1.1.2, ⟨hk.1.2, ⟨hk.1.1.1.1.1.1.2, ⟨hk.1.1.1.2, hk.2⟩⟩⟩⟩⟩⟩⟩)⟩, ⟨by (with_reducible repeat (first | apply Kd.R_alloc | apply Kd.R_drewN | apply Kd.R_drew)); exact Kd.R_mono kk.out (fun _ hk => ⟨hk.1.2, hk.2⟩)⟩, ⟨by (with_reducible repeat (first | apply Kd.N_alloc | apply Kd.N_drewN | apply Kd.N_drew)); exact Kd.N_mono jr.out (fun _ hk => ⟨hk.1.1.1.1.2.1, ⟨hk.1.1.1.1.1, ⟨hk.1.1.2, ⟨hk.1.2, ⟨hk.1.1.1.1.2.2, ⟨hk.1.1.1.2, hk.2⟩⟩⟩⟩⟩⟩)⟩, ⟨by (with_reducible repeat (first | apply Kd.R_alloc | apply Kd.R_drewN | apply Kd.R_drew)); exact Kd.R_mono op.out (fun _ hk => ⟨hk.1.2, hk.2⟩)⟩, ⟨by (with_reducible repeat (first | apply Kd.N_alloc | apply Kd.N_drewN | apply Kd.N_drew)); exact Kd.N_mono oq.out (fun _ hk => ⟨hk.1.2.1, ⟨hk.1.2.2.1, ⟨hk.1.2.2.2.1, ⟨hk.1.1, ⟨hk.1.2.2.2.2.1, ⟨hk.1.2.2.2.2.2, hk.2⟩⟩⟩⟩⟩⟩)⟩, ⟨uf0_ ao⟩, ⟨uf0_ an⟩, ⟨uf0_ bk⟩, ⟨ch⟩⟩
  case rest =>
   clear tc
   try clear c1
   try clear c2
   try clear jx
   try clear nw
   try clear p2
   try clear c3
   try clear c4
   try clear c9
   try clear bq
   try clear je
   try clear fa
   try clear es
   try clear h8
   try clear ly
   try clear j8
   try clear j4
   try clear g2
   try clear wj
   try clear av0
   try clear av1
   try clear ag3
   try clear ag4
   try clear ag7
   try clear ag8
   try clear bh4
   try clear bh5
   try clear bv8
   try clear bv9
   try clear cf7
   try clear cf8
   try clear do6
   try clear do7
   try clear bb2
   try clear bb3
   try clear av2
   try clear av3
   try clear ag5
   try clear ag6
   try clear ag9
   try clear ah0
   try clear bh6
   try clear bh7
   try clear bw0
   try clear bw1
   try clear cf9
   try clear cg0
   try clear do8
   try clear do9
   try clear bb4
   try clear bb5
   obtain ⟨kq, as5, rfl, HA, HJ5, bf, bm, az, a9, bu, cg, ao, an, bk, HB⟩ := hcut
   cases kq with
   | zero => exact absurd HA.out (by simp [laws_FnStruckOut.j0])
   | succ kj5 =>
    have H := HA.out
    clear HA
    simp only [laws_FnStruckOut.j0] at H
    by_cases tl : as5 = true
    ·subst tl
     replace H := ifp_ H
     obtain rfl := Option.some.inj H
     go_wp2
     go_ret
     exact ⟨g4_, ch⟩
    ·replace tl := Bool.eq_false_iff.mpr tl
     subst tl
     replace H := ifn_ H
     by_cases jh : as4 = true
     ·subst jh
      replace H := ifp_ H
      obtain ⟨bk6, A42, H⟩ := bind_ H
      by_cases tp : bk6 = true
      ·subst tp
       replace H := ifp_ H
       obtain ⟨ld, zw, H⟩ := bind_ H
       obtain ⟨lf, A45, H⟩ := bind_ H
       obtain ⟨bk7, A46, H⟩ := bind_ H
       by_cases c47 : bk7 = true
       ·subst c47
        replace H := ifp_ H
        obtain ⟨ae0, A48, H⟩ := bind_ H
        obtain ⟨ae1, A49, H⟩ := bind_ H
        by_cases ws : ae0 < ae1
        ·rw [if_pos ws] at H
         have dp0 := decide_eq_true ws
         clear ws
         obtain ⟨as3, A51, H⟩ := bind_ H
         obtain ⟨bk8, A52, H⟩ := bind_ H
         obtain rfl := Option.some.inj H
         try go_wp2
         replace bf := Aside0.mk (Kd.R_drew bf.out)
         replace bm := Aside0.mk (Kd.V_drew bm.out)
         replace az := Aside0.mk (Kd.R_drew az.out)
         replace a9 := Aside0.mk (Kd.N_drew a9.out)
         replace bu := Aside0.mk (Kd.R_drew bu.out)
         replace cg := Aside0.mk (Kd.N_drew cg.out)
         replace ao := Aside0.mk (blk_drew ao.out)
         replace an := Aside0.mk (blk_drew an.out)
         replace bk := Aside0.mk (blk_drew bk.out)
         replace HB := Aside0.mk (below_drew1 HB.out)
         refine start_ (n := 26) (S := fun w' => w'.cell? ⟨ce, 0, none⟩ = some (.slice bj bd.length be) ∧ w'.cell? ⟨ce, 1, none⟩ = some (.slice cj bn.length ca) ∧ w'.cell? ⟨cl, 0, none⟩ = some (.slice cb bl.length b6) ∧ w'.cell? ⟨cl, 1, none⟩ = some (.slice b7 cw.length bv)) (ds := []) (tl_ 26 0) (g1_) rfl (g1_) ⟨(blk_cell an.out 0).trans rfl, (blk_cell an.out 1).trans rfl, (blk_cell ao.out 0).trans rfl, (blk_cell ao.out 1).trans rfl⟩ (fun hHeld => ?_); refine with_tabW laws_FnStruckOut.tab10 laws_FnStruckOut.bits10 (fun HT_ HW_ => ?_)
         generalize wc.drew = pn at bf bm az a9 bu cg ao an bk HB hHeld ⊢
         refine tk3_ 0 45 (tl_ 26 1) rfl rfl hHeld ?_
         refine one_ (i := 1) (N := some 46) (tl_ 26 3) rfl rfl (one_of HT_.out (g1_)) (by decide) (fun K hK => ?_)
         refine goes_ Try.func44 (g1_) rfl #[.agg #[.slice bj bd.length be, .slice cj bn.length ca]] (by rfl) rfl rfl (g3_) ?_
         with_reducible refine (impl_BookOk.calls kj5 _ _ bd _ _ bn true _ ?side1 ?side2 ?side3 ?side4 A42.out).mono ?_
         (case side1 => repeat (first | exact (Kd.R_reads' az.out).2.2 | (with_reducible refine Kd.C_alloc ?_ _) | (with_reducible refine Kd.C_drewN ?_ _) | (with_reducible refine Kd.C_drew ?_)))
         (case side2 => exact (Kd.R_reads' az.out).2.1)
         (case side3 => repeat (first | exact (Kd.N_reads' a9.out).2.2 | (with_reducible refine Kd.C_alloc ?_ _) | (with_reducible refine Kd.C_drewN ?_ _) | (with_reducible refine Kd.C_drew ?_)))
         (case side4 => exact (Kd.N_reads' a9.out).2.1)
         rintro e w54 ⟨rfl, hb⟩
         refine ⟨_, rfl, ?_⟩
         replace bf := Aside0.mk (Kd.R_below (uf1_ bf) hb)
         replace bm := Aside0.mk (Kd.V_below (uf5_ bm) hb)
         replace az := Aside0.mk (Kd.R_below (uf1_ az) hb)
         replace a9 := Aside0.mk (Kd.N_below (uf4_ a9) hb)
         replace bu := Aside0.mk (Kd.R_below (uf1_ bu) hb)
         replace cg := Aside0.mk (Kd.N_below (uf4_ cg) hb)
         replace ao := bb_ ao hb
         replace an := bb_ an hb
         replace bk := bb_ bk hb
         replace HB := Aside0.mk (below_step (ch) hb)
         (try clear hb)
         (try clear hk hi)
         refine hK.out _ _ ⟨(blk_cell an.out 0).trans rfl, (blk_cell an.out 1).trans rfl, (blk_cell ao.out 0).trans rfl, (blk_cell ao.out 1).trans rfl⟩ (fun hHeld => ?_)
         clear hK K
         refine nm_ ?_
         refine pw_ 2 47 (tl_ 26 7) rfl rfl ?_
         refine tk3_ 3 48 (tl_ 26 15) rfl rfl hHeld ?_
         refine tk3_ 5 50 (tl_ 26 47) rfl rfl hHeld ?_
         refine one_ (i := 4) (N := some 49) (tl_ 26 63) rfl rfl (one_of HT_.out (g1_)) (by decide) (fun K hK => ?_)
         refine goes_ Try.func46 (g1_) rfl #[.agg #[.slice bj bd.length be, .slice cj bn.length ca]] (by rfl) rfl rfl (g3_) ?_
         with_reducible refine (impl_NetsOf.calls kj5 _ _ bd _ _ bn ld _ ?side1 ?side2 ?side3 ?side4 zw.out).mono ?_
         (case side1 => repeat (first | exact (Kd.R_reads' az.out).2.2 | (with_reducible refine Kd.C_alloc ?_ _) | (with_reducible refine Kd.C_drewN ?_ _) | (with_reducible refine Kd.C_drew ?_)))
         (case side2 => exact (Kd.R_reads' az.out).2.1)
         (case side3 => repeat (first | exact (Kd.N_reads' a9.out).2.2 | (with_reducible refine Kd.C_alloc ?_ _) | (with_reducible refine Kd.C_drewN ?_ _) | (with_reducible refine Kd.C_drew ?_)))
         (case side4 => exact (Kd.N_reads' a9.out).2.1)
         rintro e w55 ⟨cj1, rfl, aj, hb⟩
         refine ⟨_, rfl, ?_⟩
         replace bm := Aside0.mk (Kd.V_elder' (uf5_ bm) (Kd.R_base aj) hb)
         replace a9 := Aside0.mk (Kd.N_elder' (uf4_ a9) (Kd.R_base aj) hb)
         replace cg := Aside0.mk (Kd.N_elder' (uf4_ cg) (Kd.R_base aj) hb)
         have du := Aside0.mk (Kd.R_lower (Kd.R_new' (Kd.R_new' (Kd.R_new' aj (Kd.R_lt (uf1_ bf))) (Kd.R_lt (uf1_ az))) (Kd.R_lt (uf1_ bu))) (below_size (ch)))
         replace bf := Aside0.mk (Kd.R_elder' (uf1_ bf) (Kd.R_base aj) hb)
         replace az := Aside0.mk (Kd.R_elder' (uf1_ az) (Kd.R_base aj) hb)
         replace bu := Aside0.mk (Kd.R_elder' (uf1_ bu) (Kd.R_base aj) hb)
         replace ao := bb_ ao hb
         replace an := bb_ an hb
         replace bk := bb_ bk hb
         replace HB := Aside0.mk (below_step (ch) hb)
         (try clear hb)
         (try clear hk hi)
         (try clear aj)
         refine hK.out _ _ ⟨(blk_cell an.out 0).trans rfl, (blk_cell an.out 1).trans rfl, (blk_cell ao.out 0).trans rfl, (blk_cell ao.out 1).trans rfl⟩ (fun hHeld => ?_)
         clear hK K
         refine nm_ ?_
         refine one_ (i := 6) (N := some 51) (tl_ 26 127) rfl rfl (one_of HT_.out (g1_)) (by decide) (fun K hK => ?_)
         refine goes_ Try.func46 (g1_) rfl #[.agg #[.slice cb bl.length b6, .slice b7 cw.length bv]] (by rfl) rfl rfl (g3_) ?_
         with_reducible refine (impl_NetsOf.calls kj5 _ _ bl _ _ cw lf _ ?side1 ?side2 ?side3 ?side4 A45.out).mono ?_
         (case side1 => repeat (first | exact (Kd.R_reads' bf.out).2.2 | (with_reducible refine Kd.C_alloc ?_ _) | (with_reducible refine Kd.C_drewN ?_ _) | (with_reducible refine Kd.C_drew ?_)))
         (case side2 => exact (Kd.R_reads' bf.out).2.1)
         (case side3 => repeat (first | exact (Kd.V_reads' bm.out).2.2 | (with_reducible refine Kd.C_alloc ?_ _) | (with_reducible refine Kd.C_drewN ?_ _) | (with_reducible refine Kd.C_drew ?_)))
         (case side4 => exact (Kd.V_reads' bm.out).2.1)
         rintro e w56 ⟨cj2, rfl, aj, hb⟩
         refine ⟨_, rfl, ?_⟩
         replace bm := Aside0.mk (Kd.V_elder' (uf5_ bm) (Kd.R_base aj) hb)
         replace a9 := Aside0.mk (Kd.N_elder' (uf4_ a9) (Kd.R_base aj) hb)
         replace cg := Aside0.mk (Kd.N_elder' (uf4_ cg) (Kd.R_base aj) hb)
         have fh := Aside0.mk (Kd.R_lower (Kd.R_new' (Kd.R_new' (Kd.R_new' (Kd.R_new' aj (Kd.R_lt (uf1_ bf))) (Kd.R_lt (uf1_ az))) (Kd.R_lt (uf1_ bu))) (Kd.R_lt (uf1_ du))) (below_size (ch)))
         replace bf := Aside0.mk (Kd.R_elder' (uf1_ bf) (Kd.R_base aj) hb)
         replace az := Aside0.mk (Kd.R_elder' (uf1_ az) (Kd.R_base aj) hb)
         replace bu := Aside0.mk (Kd.R_elder' (uf1_ bu) (Kd.R_base aj) hb)
         replace du := Aside0.mk (Kd.R_elder' (uf1_ du) (Kd.R_base aj) hb)
         replace ao := bb_ ao hb
         replace an := bb_ an hb
         replace bk := bb_ bk hb
         replace HB := Aside0.mk (below_step (ch) hb)
         (try clear hb)
         (try clear hk hi)
         (try clear aj)
         obtain ⟨bl2, bl3, cj3⟩ := Kd.R_slice du.out
         (first | subst cj3 | (injection cj3 with f1_ f2_ f3_; have f4_ := f1_.symm; have f5_ := f3_.symm; clear f1_ f2_ f3_; subst f4_; subst f5_))
         obtain ⟨bl4, bl5, cj4⟩ := Kd.R_slice fh.out
         (first | subst cj4 | (injection cj4 with f1_ f2_ f3_; have f4_ := f1_.symm; have f5_ := f3_.symm; clear f1_ f2_ f3_; subst f4_; subst f5_))
         refine hK.out _ _ ⟨(blk_cell an.out 0).trans rfl, (blk_cell an.out 1).trans rfl, (blk_cell ao.out 0).trans rfl, (blk_cell ao.out 1).trans rfl⟩ (fun hHeld => ?_)
         clear hK K
         refine nm_ ?_
         refine one_ (i := 7) (N := some 52) (tl_ 26 255) rfl rfl (one_of HT_.out (g1_)) (by decide) (fun K hK => ?_)
         refine goes_ Try.func45 (g1_) rfl #[.slice bl2 ld.length bl3, .slice bl4 lf.length bl5] (by rfl) rfl rfl (g3_) ?_
         with_reducible refine (laws_sameInts.calls kj5 _ _ ld _ _ lf true _ ?side1 ?side2 ?side3 ?side4 A46.out).mono ?_
         (case side1 => repeat (first | exact (Kd.R_reads' du.out).2.2 | (with_reducible refine Kd.C_alloc ?_ _) | (with_reducible refine Kd.C_drewN ?_ _) | (with_reducible refine Kd.C_drew ?_)))
         (case side2 => exact (Kd.R_reads' du.out).2.1)
         (case side3 => repeat (first | exact (Kd.R_reads' fh.out).2.2 | (with_reducible refine Kd.C_alloc ?_ _) | (with_reducible refine Kd.C_drewN ?_ _) | (with_reducible refine Kd.C_drew ?_)))
         (case side4 => exact (Kd.R_reads' fh.out).2.1)
         rintro e w' ⟨rfl, ⟨nd, rfl⟩⟩
         refine ⟨_, rfl, ?_⟩
         refine hK.out _ _ ⟨(blk_cell an.out 0).trans rfl, (blk_cell an.out 1).trans rfl, (blk_cell ao.out 0).trans rfl, (blk_cell ao.out 1).trans rfl⟩ (fun hHeld => ?_)
         clear hK K
         refine nm_ ?_
         refine pw_ 8 53 (tl_ 26 511) rfl rfl ?_
         refine pw_ 9 54 (tl_ 26 1023) rfl rfl ?_
         refine tk3_ 10 55 (tl_ 26 2047) rfl rfl hHeld ?_
         refine tk3_ 12 57 (tl_ 26 6143) rfl rfl hHeld ?_
         refine one_ (i := 11) (N := some 56) (tl_ 26 8191) rfl rfl (one_of HT_.out (g1_)) (by decide) (fun K hK => ?_)
         refine goes_ Try.func25 (g1_) rfl #[.agg #[.slice bj bd.length be, .slice cj bn.length ca]] (by rfl) rfl rfl (g3_) ?_
         with_reducible refine (impl_AllDebts.calls kj5 _ _ bd _ _ bn ae0 _ ?side1 ?side2 ?side3 ?side4 A48.out).mono ?_
         (case side1 => repeat (first | exact (Kd.R_reads' az.out).2.2 | (with_reducible refine Kd.C_alloc ?_ _) | (with_reducible refine Kd.C_drewN ?_ _) | (with_reducible refine Kd.C_drew ?_)))
         (case side2 => exact (Kd.R_reads' az.out).2.1)
         (case side3 => repeat (first | exact (Kd.N_reads' a9.out).2.2 | (with_reducible refine Kd.C_alloc ?_ _) | (with_reducible refine Kd.C_drewN ?_ _) | (with_reducible refine Kd.C_drew ?_)))
         (case side4 => exact (Kd.N_reads' a9.out).2.1)
         rintro e w59 ⟨rfl, hb⟩
         refine ⟨_, rfl, ?_⟩
         replace bf := Aside0.mk (Kd.R_below (uf1_ bf) hb)
         replace bm := Aside0.mk (Kd.V_below (uf5_ bm) hb)
         replace az := Aside0.mk (Kd.R_below (uf1_ az) hb)
         replace a9 := Aside0.mk (Kd.N_below (uf4_ a9) hb)
         replace bu := Aside0.mk (Kd.R_below (uf1_ bu) hb)
         replace cg := Aside0.mk (Kd.N_below (uf4_ cg) hb)
         replace du := Aside0.mk (Kd.R_below (uf1_ du) hb)
         replace fh := Aside0.mk (Kd.R_below (uf1_ fh) hb)
         replace ao := bb_ ao hb
         replace an := bb_ an hb
         replace bk := bb_ bk hb
         replace HB := Aside0.mk (below_step (ch) hb)
         (try clear hb)
         (try clear hk hi)
         refine hK.out _ _ ⟨(blk_cell an.out 0).trans rfl, (blk_cell an.out 1).trans rfl, (blk_cell ao.out 0).trans rfl, (blk_cell ao.out 1).trans rfl⟩ (fun hHeld => ?_)
         clear hK K
         refine nm_ ?_
         refine one_ (i := 13) (N := some 58) (tl_ 26 16383) rfl rfl (one_of HT_.out (g1_)) (by decide) (fun K hK => ?_)
         refine goes_ Try.func25 (g1_) rfl #[.agg #[.slice cb bl.length b6, .slice b7 cw.length bv]] (by rfl) rfl rfl (g3_) ?_
         with_reducible refine (impl_AllDebts.calls kj5 _ _ bl _ _ cw ae1 _ ?side1 ?side2 ?side3 ?side4 A49.out).mono ?_
         (case side1 => repeat (first | exact (Kd.R_reads' bf.out).2.2 | (with_reducible refine Kd.C_alloc ?_ _) | (with_reducible refine Kd.C_drewN ?_ _) | (with_reducible refine Kd.C_drew ?_)))
         (case side2 => exact (Kd.R_reads' bf.out).2.1)
         (case side3 => repeat (first | exact (Kd.V_reads' bm.out).2.2 | (with_reducible refine Kd.C_alloc ?_ _) | (with_reducible refine Kd.C_drewN ?_ _) | (with_reducible refine Kd.C_drew ?_)))
         (case side4 => exact (Kd.V_reads' bm.out).2.1)
         rintro e w60 ⟨rfl, hb⟩
         refine ⟨_, rfl, ?_⟩
         replace bf := Aside0.mk (Kd.R_below (uf1_ bf) hb)
         replace bm := Aside0.mk (Kd.V_below (uf5_ bm) hb)
         replace az := Aside0.mk (Kd.R_below (uf1_ az) hb)
         replace a9 := Aside0.mk (Kd.N_below (uf4_ a9) hb)
         replace bu := Aside0.mk (Kd.R_below (uf1_ bu) hb)
         replace cg := Aside0.mk (Kd.N_below (uf4_ cg) hb)
         replace du := Aside0.mk (Kd.R_below (uf1_ du) hb)
         replace fh := Aside0.mk (Kd.R_below (uf1_ fh) hb)
         replace ao := bb_ ao hb
         replace an := bb_ an hb
         replace bk := bb_ bk hb
         replace HB := Aside0.mk (below_step (ch) hb)
         (try clear hb)
         (try clear hk hi)
         refine hK.out _ _ ⟨(blk_cell an.out 0).trans rfl, (blk_cell an.out 1).trans rfl, (blk_cell ao.out 0).trans rfl, (blk_cell ao.out 1).trans rfl⟩ (fun hHeld => ?_)
         clear hK K
         refine nm_ ?_
         refine pw_ 14 59 (tl_ 26 32767) rfl rfl ?_
         refine pw_ 15 60 (tl_ 26 65535) rfl rfl ?_
         refine pw_ 16 61 (tl_ 26 131071) rfl rfl ?_
         refine tk3_ 17 62 (tl_ 26 262143) rfl rfl hHeld ?_
         refine tk3_ 20 65 (tl_ 26 1310719) rfl rfl hHeld ?_
         refine one_ (i := 18) (N := some 63) (tl_ 26 1572863) rfl rfl (one_of HT_.out (g1_)) (by decide) (fun K hK => ?_)
         refine goes_ Try.func50 (g1_) rfl #[.agg #[.slice bj bd.length be, .slice cj bn.length ca]] (by rfl) rfl rfl (g3_) ?_
         with_reducible refine (impl_CirclesOf.calls kj5 _ _ bd _ _ bn as3 _ ?side1 ?side2 ?side3 ?side4 A51.out).mono ?_
         (case side1 => repeat (first | exact (Kd.R_reads' az.out).2.2 | (with_reducible refine Kd.C_alloc ?_ _) | (with_reducible refine Kd.C_drewN ?_ _) | (with_reducible refine Kd.C_drew ?_)))
         (case side2 => exact (Kd.R_reads' az.out).2.1)
         (case side3 => repeat (first | exact (Kd.N_reads' a9.out).2.2 | (with_reducible refine Kd.C_alloc ?_ _) | (with_reducible refine Kd.C_drewN ?_ _) | (with_reducible refine Kd.C_drew ?_)))
         (case side4 => exact (Kd.N_reads' a9.out).2.1)
         rintro e w61 ⟨eu6, rfl, aj, hb⟩
         refine ⟨_, rfl, ?_⟩
         replace bm := Aside0.mk (Kd.V_elder' (uf5_ bm) (Kd.N_base aj) hb)
         have as6 := Aside0.mk (Kd.N_lower (Kd.N_mono (ok' := fun k_ => some k_ ≠ (.slice cb bl.length b6 : Value).ownBlock ∧ some k_ ≠ (.slice bj bd.length be : Value).ownBlock ∧ some k_ ≠ (.slice cj bn.length ca : Value).ownBlock ∧ some k_ ≠ (.slice d6 dj.length dy : Value).ownBlock ∧ some k_ ≠ (.slice ej ep.length ea : Value).ownBlock ∧ some k_ ≠ (.slice bl2 ld.length bl3 : Value).ownBlock ∧ some k_ ≠ (.slice bl4 lf.length bl5 : Value).ownBlock ∧ k_ ≠ cl ∧ k_ ≠ ce ∧ k_ ≠ ct) aj (fun k_ hk_ => ⟨(Kd.fresh' (Kd.R_lt (uf1_ bf)) k_ hk_), (Kd.fresh' (Kd.R_lt (uf1_ az)) k_ hk_), (Kd.fresh' (Kd.N_lt (uf4_ a9)) k_ hk_), (Kd.fresh' (Kd.R_lt (uf1_ bu)) k_ hk_), (Kd.fresh' (Kd.N_lt (uf4_ cg)) k_ hk_), (Kd.fresh' (Kd.R_lt (uf1_ du)) k_ hk_), (Kd.fresh' (Kd.R_lt (uf1_ fh)) k_ hk_), (Kd.freshB (g := cl) (o := .cells #[.slice cb bl.length b6, .slice b7 cw.length bv] 25 (0, 0)) (uf0_ ao) k_ hk_), (Kd.freshB (g := ce) (o := .cells #[.slice bj bd.length be, .slice cj bn.length ca] 25 (0, 0)) (uf0_ an) k_ hk_), (Kd.freshB (g := ct) (o := .cells #[.slice d6 dj.length dy, .slice ej ep.length ea] 25 (0, 0)) (uf0_ bk) k_ hk_)⟩)) (below_size (ch)))
         replace bf := Aside0.mk (Kd.R_below (uf1_ bf) hb)
         replace az := Aside0.mk (Kd.R_below (uf1_ az) hb)
         replace a9 := Aside0.mk (Kd.N_elder' (uf4_ a9) (Kd.N_base aj) hb)
         replace bu := Aside0.mk (Kd.R_below (uf1_ bu) hb)
         replace cg := Aside0.mk (Kd.N_elder' (uf4_ cg) (Kd.N_base aj) hb)
         replace du := Aside0.mk (Kd.R_below (uf1_ du) hb)
         replace fh := Aside0.mk (Kd.R_below (uf1_ fh) hb)
         replace ao := bb_ ao hb
         replace an := bb_ an hb
         replace bk := bb_ bk hb
         replace HB := Aside0.mk (below_step (ch) hb)
         (try clear hb)
         (try clear hk hi)
         (try clear aj)
         obtain ⟨dp1, dp2, cj5⟩ := Kd.N_slice as6.out
         (first | subst cj5 | (injection cj5 with f1_ f2_ f3_; have f4_ := f1_.symm; have f5_ := f3_.symm; clear f1_ f2_ f3_; subst f4_; subst f5_))
         refine hK.out _ _ ⟨(blk_cell an.out 0).trans rfl, (blk_cell an.out 1).trans rfl, (blk_cell ao.out 0).trans rfl, (blk_cell ao.out 1).trans rfl⟩ (fun hHeld => ?_)
         clear hK K
         refine nm_ ?_
         refine pw_ 19 64 (tl_ 26 2097151) rfl rfl ?_
         refine one_ (i := 21) (N := some 66) (tl_ 26 4194303) rfl rfl (one_of HT_.out (g1_)) (by decide) (fun K hK => ?_)
         refine goes_ Try.func50 (g1_) rfl #[.agg #[.slice cb bl.length b6, .slice b7 cw.length bv]] (by rfl) rfl rfl (g3_) ?_
         with_reducible refine (impl_CirclesOf.calls kj5 _ _ bl _ _ cw bk8 _ ?side1 ?side2 ?side3 ?side4 A52.out).mono ?_
         (case side1 => repeat (first | exact (Kd.R_reads' bf.out).2.2 | (with_reducible refine Kd.C_alloc ?_ _) | (with_reducible refine Kd.C_drewN ?_ _) | (with_reducible refine Kd.C_drew ?_)))
         (case side2 => exact (Kd.R_reads' bf.out).2.1)
         (case side3 => repeat (first | exact (Kd.V_reads' bm.out).2.2 | (with_reducible refine Kd.C_alloc ?_ _) | (with_reducible refine Kd.C_drewN ?_ _) | (with_reducible refine Kd.C_drew ?_)))
         (case side4 => exact (Kd.V_reads' bm.out).2.1)
         rintro e w63 ⟨eu7, rfl, aj, hb⟩
         refine ⟨_, rfl, ?_⟩
         replace bm := Aside0.mk (Kd.V_elder' (uf5_ bm) (Kd.N_base aj) hb)
         have dp3 := Aside0.mk (Kd.N_lower (Kd.N_mono (ok' := fun k_ => some k_ ≠ (.slice cb bl.length b6 : Value).ownBlock ∧ some k_ ≠ (.slice bj bd.length be : Value).ownBlock ∧ some k_ ≠ (.slice cj bn.length ca : Value).ownBlock ∧ some k_ ≠ (.slice d6 dj.length dy : Value).ownBlock ∧ some k_ ≠ (.slice ej ep.length ea : Value).ownBlock ∧ some k_ ≠ (.slice bl2 ld.length bl3 : Value).ownBlock ∧ some k_ ≠ (.slice bl4 lf.length bl5 : Value).ownBlock ∧ some k_ ≠ (.slice dp1 as3.length dp2 : Value).ownBlock ∧ k_ ≠ cl ∧ k_ ≠ ce ∧ k_ ≠ ct) aj (fun k_ hk_ => ⟨(Kd.fresh' (Kd.R_lt (uf1_ bf)) k_ hk_), (Kd.fresh' (Kd.R_lt (uf1_ az)) k_ hk_), (Kd.fresh' (Kd.N_lt (uf4_ a9)) k_ hk_), (Kd.fresh' (Kd.R_lt (uf1_ bu)) k_ hk_), (Kd.fresh' (Kd.N_lt (uf4_ cg)) k_ hk_), (Kd.fresh' (Kd.R_lt (uf1_ du)) k_ hk_), (Kd.fresh' (Kd.R_lt (uf1_ fh)) k_ hk_), (Kd.fresh' (Kd.N_lt (uf4_ as6)) k_ hk_), (Kd.freshB (g := cl) (o := .cells #[.slice cb bl.length b6, .slice b7 cw.length bv] 25 (0, 0)) (uf0_ ao) k_ hk_), (Kd.freshB (g := ce) (o := .cells #[.slice bj bd.length be, .slice cj bn.length ca] 25 (0, 0)) (uf0_ an) k_ hk_), (Kd.freshB (g := ct) (o := .cells #[.slice d6 dj.length dy, .slice ej ep.length ea] 25 (0, 0)) (uf0_ bk) k_ hk_)⟩)) (below_size (ch)))
         replace bf := Aside0.mk (Kd.R_below (uf1_ bf) hb)
         replace az := Aside0.mk (Kd.R_below (uf1_ az) hb)
         replace a9 := Aside0.mk (Kd.N_elder' (uf4_ a9) (Kd.N_base aj) hb)
         replace bu := Aside0.mk (Kd.R_below (uf1_ bu) hb)
         replace cg := Aside0.mk (Kd.N_elder' (uf4_ cg) (Kd.N_base aj) hb)
         replace du := Aside0.mk (Kd.R_below (uf1_ du) hb)
         replace fh := Aside0.mk (Kd.R_below (uf1_ fh) hb)
         replace as6 := Aside0.mk (Kd.N_elder' (uf4_ as6) (Kd.N_base aj) hb)
         replace ao := bb_ ao hb
         replace an := bb_ an hb
         replace bk := bb_ bk hb
         replace HB := Aside0.mk (below_step (ch) hb)
         (try clear hb)
         (try clear hk hi)
         (try clear aj)
         obtain ⟨eu8, eu9, cj6⟩ := Kd.N_slice dp3.out
         (first | subst cj6 | (injection cj6 with f1_ f2_ f3_; have f4_ := f1_.symm; have f5_ := f3_.symm; clear f1_ f2_ f3_; subst f4_; subst f5_))
         refine hK.out _ _ ⟨(blk_cell an.out 0).trans rfl, (blk_cell an.out 1).trans rfl, (blk_cell ao.out 0).trans rfl, (blk_cell ao.out 1).trans rfl⟩ (fun hHeld => ?_)
         clear hK K
         refine nm_ ?_
         refine pw_ 22 67 (tl_ 26 8388607) rfl rfl ?_
         refine pw_ 23 68 (tl_ 26 16777215) rfl rfl ?_
         refine pw_ 24 69 (tl_ 26 33554431) rfl rfl ?_
         refine pw_ 25 2 (tl_ 26 67108863) rfl rfl ?_
         refine done_ (done_of HT_.out (g1_)) ?_
         try go_wp2
         go_ret
         exact ⟨g4_, ch⟩
        ·rw [if_neg ws] at H
         have dp0 := decide_eq_false ws
         clear ws
         obtain rfl := Option.some.inj H
         try go_wp2
         replace bf := Aside0.mk (Kd.R_drew bf.out)
         replace bm := Aside0.mk (Kd.V_drew bm.out)
         replace az := Aside0.mk (Kd.R_drew az.out)
         replace a9 := Aside0.mk (Kd.N_drew a9.out)
         replace bu := Aside0.mk (Kd.R_drew bu.out)
         replace cg := Aside0.mk (Kd.N_drew cg.out)
         replace ao := Aside0.mk (blk_drew ao.out)
         replace an := Aside0.mk (blk_drew an.out)
         replace bk := Aside0.mk (blk_drew bk.out)
         replace HB := Aside0.mk (below_drew1 HB.out)
         refine start_ (n := 26) (S := fun w' => w'.cell? ⟨ce, 0, none⟩ = some (.slice bj bd.length be) ∧ w'.cell? ⟨ce, 1, none⟩ = some (.slice cj bn.length ca) ∧ w'.cell? ⟨cl, 0, none⟩ = some (.slice cb bl.length b6) ∧ w'.cell? ⟨cl, 1, none⟩ = some (.slice b7 cw.length bv)) (ds := []) (tl_ 26 0) (g1_) rfl (g1_) ⟨(blk_cell an.out 0).trans rfl, (blk_cell an.out 1).trans rfl, (blk_cell ao.out 0).trans rfl, (blk_cell ao.out 1).trans rfl⟩ (fun hHeld => ?_); refine with_tabW laws_FnStruckOut.tab10 laws_FnStruckOut.bits10 (fun HT_ HW_ => ?_)
         generalize wc.drew = w65 at bf bm az a9 bu cg ao an bk HB hHeld ⊢
         refine tk3_ 0 45 (tl_ 26 1) rfl rfl hHeld ?_
         refine one_ (i := 1) (N := some 46) (tl_ 26 3) rfl rfl (one_of HT_.out (g1_)) (by decide) (fun K hK => ?_)
         refine goes_ Try.func44 (g1_) rfl #[.agg #[.slice bj bd.length be, .slice cj bn.length ca]] (by rfl) rfl rfl (g3_) ?_
         with_reducible refine (impl_BookOk.calls kj5 _ _ bd _ _ bn true _ ?side1 ?side2 ?side3 ?side4 A42.out).mono ?_
         (case side1 => repeat (first | exact (Kd.R_reads' az.out).2.2 | (with_reducible refine Kd.C_alloc ?_ _) | (with_reducible refine Kd.C_drewN ?_ _) | (with_reducible refine Kd.C_drew ?_)))
         (case side2 => exact (Kd.R_reads' az.out).2.1)
         (case side3 => repeat (first | exact (Kd.N_reads' a9.out).2.2 | (with_reducible refine Kd.C_alloc ?_ _) | (with_reducible refine Kd.C_drewN ?_ _) | (with_reducible refine Kd.C_drew ?_)))
         (case side4 => exact (Kd.N_reads' a9.out).2.1)
         rintro e w66 ⟨rfl, hb⟩
         refine ⟨_, rfl, ?_⟩
         replace bf := Aside0.mk (Kd.R_below (uf1_ bf) hb)
         replace bm := Aside0.mk (Kd.V_below (uf5_ bm) hb)
         replace az := Aside0.mk (Kd.R_below (uf1_ az) hb)
         replace a9 := Aside0.mk (Kd.N_below (uf4_ a9) hb)
         replace bu := Aside0.mk (Kd.R_below (uf1_ bu) hb)
         replace cg := Aside0.mk (Kd.N_below (uf4_ cg) hb)
         replace ao := bb_ ao hb
         replace an := bb_ an hb
         replace bk := bb_ bk hb
         replace HB := Aside0.mk (below_step (ch) hb)
         (try clear hb)
         (try clear hk hi)
         refine hK.out _ _ ⟨(blk_cell an.out 0).trans rfl, (blk_cell an.out 1).trans rfl, (blk_cell ao.out 0).trans rfl, (blk_cell ao.out 1).trans rfl⟩ (fun hHeld => ?_)
         clear hK K
         refine nm_ ?_
         refine pw_ 2 47 (tl_ 26 7) rfl rfl ?_
         refine tk3_ 3 48 (tl_ 26 15) rfl rfl hHeld ?_
         refine tk3_ 5 50 (tl_ 26 47) rfl rfl hHeld ?_
         refine one_ (i := 4) (N := some 49) (tl_ 26 63) rfl rfl (one_of HT_.out (g1_)) (by decide) (fun K hK => ?_)
         refine goes_ Try.func46 (g1_) rfl #[.agg #[.slice bj bd.length be, .slice cj bn.length ca]] (by rfl) rfl rfl (g3_) ?_
         with_reducible refine (impl_NetsOf.calls kj5 _ _ bd _ _ bn ld _ ?side1 ?side2 ?side3 ?side4 zw.out).mono ?_
         (case side1 => repeat (first | exact (Kd.R_reads' az.out).2.2 | (with_reducible refine Kd.C_alloc ?_ _) | (with_reducible refine Kd.C_drewN ?_ _) | (with_reducible refine Kd.C_drew ?_)))
         (case side2 => exact (Kd.R_reads' az.out).2.1)
         (case side3 => repeat (first | exact (Kd.N_reads' a9.out).2.2 | (with_reducible refine Kd.C_alloc ?_ _) | (with_reducible refine Kd.C_drewN ?_ _) | (with_reducible refine Kd.C_drew ?_)))
         (case side4 => exact (Kd.N_reads' a9.out).2.1)
         rintro e w67 ⟨cj1, rfl, aj, hb⟩
         refine ⟨_, rfl, ?_⟩
         replace bm := Aside0.mk (Kd.V_elder' (uf5_ bm) (Kd.R_base aj) hb)
         replace a9 := Aside0.mk (Kd.N_elder' (uf4_ a9) (Kd.R_base aj) hb)
         replace cg := Aside0.mk (Kd.N_elder' (uf4_ cg) (Kd.R_base aj) hb)
         have du := Aside0.mk (Kd.R_lower (Kd.R_new' (Kd.R_new' (Kd.R_new' aj (Kd.R_lt (uf1_ bf))) (Kd.R_lt (uf1_ az))) (Kd.R_lt (uf1_ bu))) (below_size (ch)))
         replace bf := Aside0.mk (Kd.R_elder' (uf1_ bf) (Kd.R_base aj) hb)
         replace az := Aside0.mk (Kd.R_elder' (uf1_ az) (Kd.R_base aj) hb)
         replace bu := Aside0.mk (Kd.R_elder' (uf1_ bu) (Kd.R_base aj) hb)
         replace ao := bb_ ao hb
         replace an := bb_ an hb
         replace bk := bb_ bk hb
         replace HB := Aside0.mk (below_step (ch) hb)
         (try clear hb)
         (try clear hk hi)
         (try clear aj)
         refine hK.out _ _ ⟨(blk_cell an.out 0).trans rfl, (blk_cell an.out 1).trans rfl, (blk_cell ao.out 0).trans rfl, (blk_cell ao.out 1).trans rfl⟩ (fun hHeld => ?_)
         clear hK K
         refine nm_ ?_
         refine one_ (i := 6) (N := some 51) (tl_ 26 127) rfl rfl (one_of HT_.out (g1_)) (by decide) (fun K hK => ?_)
         refine goes_ Try.func46 (g1_) rfl #[.agg #[.slice cb bl.length b6, .slice b7 cw.length bv]] (by rfl) rfl rfl (g3_) ?_
         with_reducible refine (impl_NetsOf.calls kj5 _ _ bl _ _ cw lf _ ?side1 ?side2 ?side3 ?side4 A45.out).mono ?_
         (case side1 => repeat (first | exact (Kd.R_reads' bf.out).2.2 | (with_reducible refine Kd.C_alloc ?_ _) | (with_reducible refine Kd.C_drewN ?_ _) | (with_reducible refine Kd.C_drew ?_)))
         (case side2 => exact (Kd.R_reads' bf.out).2.1)
         (case side3 => repeat (first | exact (Kd.V_reads' bm.out).2.2 | (with_reducible refine Kd.C_alloc ?_ _) | (with_reducible refine Kd.C_drewN ?_ _) | (with_reducible refine Kd.C_drew ?_)))
         (case side4 => exact (Kd.V_reads' bm.out).2.1)
         rintro e w68 ⟨cj2, rfl, aj, hb⟩
         refine ⟨_, rfl, ?_⟩
         replace bm := Aside0.mk (Kd.V_elder' (uf5_ bm) (Kd.R_base aj) hb)
         replace a9 := Aside0.mk (Kd.N_elder' (uf4_ a9) (Kd.R_base aj) hb)
         replace cg := Aside0.mk (Kd.N_elder' (uf4_ cg) (Kd.R_base aj) hb)
         have fh := Aside0.mk (Kd.R_lower (Kd.R_new' (Kd.R_new' (Kd.R_new' (Kd.R_new' aj (Kd.R_lt (uf1_ bf))) (Kd.R_lt (uf1_ az))) (Kd.R_lt (uf1_ bu))) (Kd.R_lt (uf1_ du))) (below_size (ch)))
         replace bf := Aside0.mk (Kd.R_elder' (uf1_ bf) (Kd.R_base aj) hb)
         replace az := Aside0.mk (Kd.R_elder' (uf1_ az) (Kd.R_base aj) hb)
         replace bu := Aside0.mk (Kd.R_elder' (uf1_ bu) (Kd.R_base aj) hb)
         replace du := Aside0.mk (Kd.R_elder' (uf1_ du) (Kd.R_base aj) hb)
         replace ao := bb_ ao hb
         replace an := bb_ an hb
         replace bk := bb_ bk hb
         replace HB := Aside0.mk (below_step (ch) hb)
         (try clear hb)
         (try clear hk hi)
         (try clear aj)
         obtain ⟨dp4, dp5, cj7⟩ := Kd.R_slice du.out
         (first | subst cj7 | (injection cj7 with f1_ f2_ f3_; have f4_ := f1_.symm; have f5_ := f3_.symm; clear f1_ f2_ f3_; subst f4_; subst f5_))
         obtain ⟨dp6, dp7, cj8⟩ := Kd.R_slice fh.out
         (first | subst cj8 | (injection cj8 with f1_ f2_ f3_; have f4_ := f1_.symm; have f5_ := f3_.symm; clear f1_ f2_ f3_; subst f4_; subst f5_))
         refine hK.out _ _ ⟨(blk_cell an.out 0).trans rfl, (blk_cell an.out 1).trans rfl, (blk_cell ao.out 0).trans rfl, (blk_cell ao.out 1).trans rfl⟩ (fun hHeld => ?_)
         clear hK K
         refine nm_ ?_
         refine one_ (i := 7) (N := some 52) (tl_ 26 255) rfl rfl (one_of HT_.out (g1_)) (by decide) (fun K hK => ?_)
         refine goes_ Try.func45 (g1_) rfl #[.slice dp4 ld.length dp5, .slice dp6 lf.length dp7] (by rfl) rfl rfl (g3_) ?_
         with_reducible refine (laws_sameInts.calls kj5 _ _ ld _ _ lf true _ ?side1 ?side2 ?side3 ?side4 A46.out).mono ?_
         (case side1 => repeat (first | exact (Kd.R_reads' du.out).2.2 | (with_reducible refine Kd.C_alloc ?_ _) | (with_reducible refine Kd.C_drewN ?_ _) | (with_reducible refine Kd.C_drew ?_)))
         (case side2 => exact (Kd.R_reads' du.out).2.1)
         (case side3 => repeat (first | exact (Kd.R_reads' fh.out).2.2 | (with_reducible refine Kd.C_alloc ?_ _) | (with_reducible refine Kd.C_drewN ?_ _) | (with_reducible refine Kd.C_drew ?_)))
         (case side4 => exact (Kd.R_reads' fh.out).2.1)
         rintro e w' ⟨rfl, ⟨nd, rfl⟩⟩
         refine ⟨_, rfl, ?_⟩
         refine hK.out _ _ ⟨(blk_cell an.out 0).trans rfl, (blk_cell an.out 1).trans rfl, (blk_cell ao.out 0).trans rfl, (blk_cell ao.out 1).trans rfl⟩ (fun hHeld => ?_)
         clear hK K
         refine nm_ ?_
         refine pw_ 8 53 (tl_ 26 511) rfl rfl ?_
         refine pw_ 9 54 (tl_ 26 1023) rfl rfl ?_
         refine tk3_ 10 55 (tl_ 26 2047) rfl rfl hHeld ?_
         refine tk3_ 12 57 (tl_ 26 6143) rfl rfl hHeld ?_
         refine one_ (i := 11) (N := some 56) (tl_ 26 8191) rfl rfl (one_of HT_.out (g1_)) (by decide) (fun K hK => ?_)
         refine goes_ Try.func25 (g1_) rfl #[.agg #[.slice bj bd.length be, .slice cj bn.length ca]] (by rfl) rfl rfl (g3_) ?_
         with_reducible refine (impl_AllDebts.calls kj5 _ _ bd _ _ bn ae0 _ ?side1 ?side2 ?side3 ?side4 A48.out).mono ?_
         (case side1 => repeat (first | exact (Kd.R_reads' az.out).2.2 | (with_reducible refine Kd.C_alloc ?_ _) | (with_reducible refine Kd.C_drewN ?_ _) | (with_reducible refine Kd.C_drew ?_)))
         (case side2 => exact (Kd.R_reads' az.out).2.1)
         (case side3 => repeat (first | exact (Kd.N_reads' a9.out).2.2 | (with_reducible refine Kd.C_alloc ?_ _) | (with_reducible refine Kd.C_drewN ?_ _) | (with_reducible refine Kd.C_drew ?_)))
         (case side4 => exact (Kd.N_reads' a9.out).2.1)
         rintro e w71 ⟨rfl, hb⟩
         refine ⟨_, rfl, ?_⟩
         replace bf := Aside0.mk (Kd.R_below (uf1_ bf) hb)
         replace bm := Aside0.mk (Kd.V_below (uf5_ bm) hb)
         replace az := Aside0.mk (Kd.R_below (uf1_ az) hb)
         replace a9 := Aside0.mk (Kd.N_below (uf4_ a9) hb)
         replace bu := Aside0.mk (Kd.R_below (uf1_ bu) hb)
         replace cg := Aside0.mk (Kd.N_below (uf4_ cg) hb)
         replace du := Aside0.mk (Kd.R_below (uf1_ du) hb)
         replace fh := Aside0.mk (Kd.R_below (uf1_ fh) hb)
         replace ao := bb_ ao hb
         replace an := bb_ an hb
         replace bk := bb_ bk hb
         replace HB := Aside0.mk (below_step (ch) hb)
         (try clear hb)
         (try clear hk hi)
         refine hK.out _ _ ⟨(blk_cell an.out 0).trans rfl, (blk_cell an.out 1).trans rfl, (blk_cell ao.out 0).trans rfl, (blk_cell ao.out 1).trans rfl⟩ (fun hHeld => ?_)
         clear hK K
         refine nm_ ?_
         refine one_ (i := 13) (N := some 58) (tl_ 26 16383) rfl rfl (one_of HT_.out (g1_)) (by decide) (fun K hK => ?_)
         refine goes_ Try.func25 (g1_) rfl #[.agg #[.slice cb bl.length b6, .slice b7 cw.length bv]] (by rfl) rfl rfl (g3_) ?_
         with_reducible refine (impl_AllDebts.calls kj5 _ _ bl _ _ cw ae1 _ ?side1 ?side2 ?side3 ?side4 A49.out).mono ?_
         (case side1 => repeat (first | exact (Kd.R_reads' bf.out).2.2 | (with_reducible refine Kd.C_alloc ?_ _) | (with_reducible refine Kd.C_drewN ?_ _) | (with_reducible refine Kd.C_drew ?_)))
         (case side2 => exact (Kd.R_reads' bf.out).2.1)
         (case side3 => repeat (first | exact (Kd.V_reads' bm.out).2.2 | (with_reducible refine Kd.C_alloc ?_ _) | (with_reducible refine Kd.C_drewN ?_ _) | (with_reducible refine Kd.C_drew ?_)))
         (case side4 => exact (Kd.V_reads' bm.out).2.1)
         rintro e w72 ⟨rfl, hb⟩
         refine ⟨_, rfl, ?_⟩
         replace bf := Aside0.mk (Kd.R_below (uf1_ bf) hb)
         replace bm := Aside0.mk (Kd.V_below (uf5_ bm) hb)
         replace az := Aside0.mk (Kd.R_below (uf1_ az) hb)
         replace a9 := Aside0.mk (Kd.N_below (uf4_ a9) hb)
         replace bu := Aside0.mk (Kd.R_below (uf1_ bu) hb)
         replace cg := Aside0.mk (Kd.N_below (uf4_ cg) hb)
         replace du := Aside0.mk (Kd.R_below (uf1_ du) hb)
         replace fh := Aside0.mk (Kd.R_below (uf1_ fh) hb)
         replace ao := bb_ ao hb
         replace an := bb_ an hb
         replace bk := bb_ bk hb
         replace HB := Aside0.mk (below_step (ch) hb)
         (try clear hb)
         (try clear hk hi)
         refine hK.out _ _ ⟨(blk_cell an.out 0).trans rfl, (blk_cell an.out 1).trans rfl, (blk_cell ao.out 0).trans rfl, (blk_cell ao.out 1).trans rfl⟩ (fun hHeld => ?_)
         clear hK K
         refine nm_ ?_
         refine pw_ 14 59 (tl_ 26 32767) rfl rfl ?_
         refine pw_ 15 60 (tl_ 26 65535) rfl rfl ?_
         refine pw_ 16 61 (tl_ 26 131071) rfl rfl ?_
         refine pu_ 17 62 (tl_ 26 262143) rfl rfl ?_
         refine pu_ 18 63 (tl_ 26 524287) rfl rfl ?_
         refine pu_ 19 64 (tl_ 26 1048575) rfl rfl ?_
         refine pu_ 20 65 (tl_ 26 2097151) rfl rfl ?_
         refine pu_ 21 66 (tl_ 26 4194303) rfl rfl ?_
         refine pu_ 22 67 (tl_ 26 8388607) rfl rfl ?_
         refine pu_ 23 68 (tl_ 26 16777215) rfl rfl ?_
         refine pw_ 24 69 (tl_ 26 33554431) rfl rfl ?_
         refine pw_ 25 2 (tl_ 26 67108863) rfl rfl ?_
         refine done_ (done_of HT_.out (g1_)) ?_
         try go_wp2
         go_ret
         exact ⟨g4_, ch⟩
       ·replace c47 := Bool.eq_false_iff.mpr c47
        subst c47
        replace H := ifn_ H
        obtain rfl := Option.some.inj H
        try go_wp2
        replace bf := Aside0.mk (Kd.R_drew bf.out)
        replace bm := Aside0.mk (Kd.V_drew bm.out)
        replace az := Aside0.mk (Kd.R_drew az.out)
        replace a9 := Aside0.mk (Kd.N_drew a9.out)
        replace bu := Aside0.mk (Kd.R_drew bu.out)
        replace cg := Aside0.mk (Kd.N_drew cg.out)
        replace ao := Aside0.mk (blk_drew ao.out)
        replace an := Aside0.mk (blk_drew an.out)
        replace bk := Aside0.mk (blk_drew bk.out)
        replace HB := Aside0.mk (below_drew1 HB.out)
        refine start_ (n := 26) (S := fun w' => w'.cell? ⟨ce, 0, none⟩ = some (.slice bj bd.length be) ∧ w'.cell? ⟨ce, 1, none⟩ = some (.slice cj bn.length ca) ∧ w'.cell? ⟨cl, 0, none⟩ = some (.slice cb bl.length b6) ∧ w'.cell? ⟨cl, 1, none⟩ = some (.slice b7 cw.length bv)) (ds := []) (tl_ 26 0) (g1_) rfl (g1_) ⟨(blk_cell an.out 0).trans rfl, (blk_cell an.out 1).trans rfl, (blk_cell ao.out 0).trans rfl, (blk_cell ao.out 1).trans rfl⟩ (fun hHeld => ?_); refine with_tabW laws_FnStruckOut.tab10 laws_FnStruckOut.bits10 (fun HT_ HW_ => ?_)
        generalize wc.drew = w73 at bf bm az a9 bu cg ao an bk HB hHeld ⊢
        refine tk3_ 0 45 (tl_ 26 1) rfl rfl hHeld ?_
        refine one_ (i := 1) (N := some 46) (tl_ 26 3) rfl rfl (one_of HT_.out (g1_)) (by decide) (fun K hK => ?_)
        refine goes_ Try.func44 (g1_) rfl #[.agg #[.slice bj bd.length be, .slice cj bn.length ca]] (by rfl) rfl rfl (g3_) ?_
        with_reducible refine (impl_BookOk.calls kj5 _ _ bd _ _ bn true _ ?side1 ?side2 ?side3 ?side4 A42.out).mono ?_
        (case side1 => repeat (first | exact (Kd.R_reads' az.out).2.2 | (with_reducible refine Kd.C_alloc ?_ _) | (with_reducible refine Kd.C_drewN ?_ _) | (with_reducible refine Kd.C_drew ?_)))
        (case side2 => exact (Kd.R_reads' az.out).2.1)
        (case side3 => repeat (first | exact (Kd.N_reads' a9.out).2.2 | (with_reducible refine Kd.C_alloc ?_ _) | (with_reducible refine Kd.C_drewN ?_ _) | (with_reducible refine Kd.C_drew ?_)))
        (case side4 => exact (Kd.N_reads' a9.out).2.1)
        rintro e w74 ⟨rfl, hb⟩
        refine ⟨_, rfl, ?_⟩
        replace bf := Aside0.mk (Kd.R_below (uf1_ bf) hb)
        replace bm := Aside0.mk (Kd.V_below (uf5_ bm) hb)
        replace az := Aside0.mk (Kd.R_below (uf1_ az) hb)
        replace a9 := Aside0.mk (Kd.N_below (uf4_ a9) hb)
        replace bu := Aside0.mk (Kd.R_below (uf1_ bu) hb)
        replace cg := Aside0.mk (Kd.N_below (uf4_ cg) hb)
        replace ao := bb_ ao hb
        replace an := bb_ an hb
        replace bk := bb_ bk hb
        replace HB := Aside0.mk (below_step (ch) hb)
        (try clear hb)
        (try clear hk hi)
        refine hK.out _ _ ⟨(blk_cell an.out 0).trans rfl, (blk_cell an.out 1).trans rfl, (blk_cell ao.out 0).trans rfl, (blk_cell ao.out 1).trans rfl⟩ (fun hHeld => ?_)
        clear hK K
        refine nm_ ?_
        refine pw_ 2 47 (tl_ 26 7) rfl rfl ?_
        refine tk3_ 3 48 (tl_ 26 15) rfl rfl hHeld ?_
        refine tk3_ 5 50 (tl_ 26 47) rfl rfl hHeld ?_
        refine one_ (i := 4) (N := some 49) (tl_ 26 63) rfl rfl (one_of HT_.out (g1_)) (by decide) (fun K hK => ?_)
        refine goes_ Try.func46 (g1_) rfl #[.agg #[.slice bj bd.length be, .slice cj bn.length ca]] (by rfl) rfl rfl (g3_) ?_
        with_reducible refine (impl_NetsOf.calls kj5 _ _ bd _ _ bn ld _ ?side1 ?side2 ?side3 ?side4 zw.out).mono ?_
        (case side1 => repeat (first | exact (Kd.R_reads' az.out).2.2 | (with_reducible refine Kd.C_alloc ?_ _) | (with_reducible refine Kd.C_drewN ?_ _) | (with_reducible refine Kd.C_drew ?_)))
        (case side2 => exact (Kd.R_reads' az.out).2.1)
        (case side3 => repeat (first | exact (Kd.N_reads' a9.out).2.2 | (with_reducible refine Kd.C_alloc ?_ _) | (with_reducible refine Kd.C_drewN ?_ _) | (with_reducible refine Kd.C_drew ?_)))
        (case side4 => exact (Kd.N_reads' a9.out).2.1)
        rintro e w75 ⟨cj1, rfl, aj, hb⟩
        refine ⟨_, rfl, ?_⟩
        replace bm := Aside0.mk (Kd.V_elder' (uf5_ bm) (Kd.R_base aj) hb)
        replace a9 := Aside0.mk (Kd.N_elder' (uf4_ a9) (Kd.R_base aj) hb)
        replace cg := Aside0.mk (Kd.N_elder' (uf4_ cg) (Kd.R_base aj) hb)
        have du := Aside0.mk (Kd.R_lower (Kd.R_new' (Kd.R_new' (Kd.R_new' aj (Kd.R_lt (uf1_ bf))) (Kd.R_lt (uf1_ az))) (Kd.R_lt (uf1_ bu))) (below_size (ch)))
        replace bf := Aside0.mk (Kd.R_elder' (uf1_ bf) (Kd.R_base aj) hb)
        replace az := Aside0.mk (Kd.R_elder' (uf1_ az) (Kd.R_base aj) hb)
        replace bu := Aside0.mk (Kd.R_elder' (uf1_ bu) (Kd.R_base aj) hb)
        replace ao := bb_ ao hb
        replace an := bb_ an hb
        replace bk := bb_ bk hb
        replace HB := Aside0.mk (below_step (ch) hb)
        (try clear hb)
        (try clear hk hi)
        (try clear aj)
        refine hK.out _ _ ⟨(blk_cell an.out 0).trans rfl, (blk_cell an.out 1).trans rfl, (blk_cell ao.out 0).trans rfl, (blk_cell ao.out 1).trans rfl⟩ (fun hHeld => ?_)
        clear hK K
        refine nm_ ?_
        refine one_ (i := 6) (N := some 51) (tl_ 26 127) rfl rfl (one_of HT_.out (g1_)) (by decide) (fun K hK => ?_)
        refine goes_ Try.func46 (g1_) rfl #[.agg #[.slice cb bl.length b6, .slice b7 cw.length bv]] (by rfl) rfl rfl (g3_) ?_
        with_reducible refine (impl_NetsOf.calls kj5 _ _ bl _ _ cw lf _ ?side1 ?side2 ?side3 ?side4 A45.out).mono ?_
        (case side1 => repeat (first | exact (Kd.R_reads' bf.out).2.2 | (with_reducible refine Kd.C_alloc ?_ _) | (with_reducible refine Kd.C_drewN ?_ _) | (with_reducible refine Kd.C_drew ?_)))
        (case side2 => exact (Kd.R_reads' bf.out).2.1)
        (case side3 => repeat (first | exact (Kd.V_reads' bm.out).2.2 | (with_reducible refine Kd.C_alloc ?_ _) | (with_reducible refine Kd.C_drewN ?_ _) | (with_reducible refine Kd.C_drew ?_)))
        (case side4 => exact (Kd.V_reads' bm.out).2.1)
        rintro e w76 ⟨cj2, rfl, aj, hb⟩
        refine ⟨_, rfl, ?_⟩
        replace bm := Aside0.mk (Kd.V_elder' (uf5_ bm) (Kd.R_base aj) hb)
        replace a9 := Aside0.mk (Kd.N_elder' (uf4_ a9) (Kd.R_base aj) hb)
        replace cg := Aside0.mk (Kd.N_elder' (uf4_ cg) (Kd.R_base aj) hb)
        have fh := Aside0.mk (Kd.R_lower (Kd.R_new' (Kd.R_new' (Kd.R_new' (Kd.R_new' aj (Kd.R_lt (uf1_ bf))) (Kd.R_lt (uf1_ az))) (Kd.R_lt (uf1_ bu))) (Kd.R_lt (uf1_ du))) (below_size (ch)))
        replace bf := Aside0.mk (Kd.R_elder' (uf1_ bf) (Kd.R_base aj) hb)
        replace az := Aside0.mk (Kd.R_elder' (uf1_ az) (Kd.R_base aj) hb)
        replace bu := Aside0.mk (Kd.R_elder' (uf1_ bu) (Kd.R_base aj) hb)
        replace du := Aside0.mk (Kd.R_elder' (uf1_ du) (Kd.R_base aj) hb)
        replace ao := bb_ ao hb
        replace an := bb_ an hb
        replace bk := bb_ bk hb
        replace HB := Aside0.mk (below_step (ch) hb)
        (try clear hb)
        (try clear hk hi)
        (try clear aj)
        obtain ⟨dp8, dp9, cj9⟩ := Kd.R_slice du.out
        (first | subst cj9 | (injection cj9 with f1_ f2_ f3_; have f4_ := f1_.symm; have f5_ := f3_.symm; clear f1_ f2_ f3_; subst f4_; subst f5_))
        obtain ⟨yv, yw, aj4⟩ := Kd.R_slice fh.out
        (first | subst aj4 | (injection aj4 with f1_ f2_ f3_; have f4_ := f1_.symm; have f5_ := f3_.symm; clear f1_ f2_ f3_; subst f4_; subst f5_))
        refine hK.out _ _ ⟨(blk_cell an.out 0).trans rfl, (blk_cell an.out 1).trans rfl, (blk_cell ao.out 0).trans rfl, (blk_cell ao.out 1).trans rfl⟩ (fun hHeld => ?_)
        clear hK K
        refine nm_ ?_
        refine one_ (i := 7) (N := some 52) (tl_ 26 255) rfl rfl (one_of HT_.out (g1_)) (by decide) (fun K hK => ?_)
        refine goes_ Try.func45 (g1_) rfl #[.slice dp8 ld.length dp9, .slice yv lf.length yw] (by rfl) rfl rfl (g3_) ?_
        with_reducible refine (laws_sameInts.calls kj5 _ _ ld _ _ lf false _ ?side1 ?side2 ?side3 ?side4 A46.out).mono ?_
        (case side1 => repeat (first | exact (Kd.R_reads' du.out).2.2 | (with_reducible refine Kd.C_alloc ?_ _) | (with_reducible refine Kd.C_drewN ?_ _) | (with_reducible refine Kd.C_drew ?_)))
        (case side2 => exact (Kd.R_reads' du.out).2.1)
        (case side3 => repeat (first | exact (Kd.R_reads' fh.out).2.2 | (with_reducible refine Kd.C_alloc ?_ _) | (with_reducible refine Kd.C_drewN ?_ _) | (with_reducible refine Kd.C_drew ?_)))
        (case side4 => exact (Kd.R_reads' fh.out).2.1)
        rintro e w' ⟨rfl, ⟨nd, rfl⟩⟩
        refine ⟨_, rfl, ?_⟩
        refine hK.out _ _ ⟨(blk_cell an.out 0).trans rfl, (blk_cell an.out 1).trans rfl, (blk_cell ao.out 0).trans rfl, (blk_cell ao.out 1).trans rfl⟩ (fun hHeld => ?_)
        clear hK K
        refine nm_ ?_
        refine pw_ 8 53 (tl_ 26 511) rfl rfl ?_
        refine pw_ 9 54 (tl_ 26 1023) rfl rfl ?_
        refine pu_ 10 55 (tl_ 26 2047) rfl rfl ?_
        refine pu_ 11 56 (tl_ 26 4095) rfl rfl ?_
        refine pu_ 12 57 (tl_ 26 8191) rfl rfl ?_
        refine pu_ 13 58 (tl_ 26 16383) rfl rfl ?_
        refine pu_ 14 59 (tl_ 26 32767) rfl rfl ?_
        refine pw_ 15 60 (tl_ 26 65535) rfl rfl ?_
        refine pw_ 16 61 (tl_ 26 131071) rfl rfl ?_
        refine pu_ 17 62 (tl_ 26 262143) rfl rfl ?_
        refine pu_ 18 63 (tl_ 26 524287) rfl rfl ?_
        refine pu_ 19 64 (tl_ 26 1048575) rfl rfl ?_
        refine pu_ 20 65 (tl_ 26 2097151) rfl rfl ?_
        refine pu_ 21 66 (tl_ 26 4194303) rfl rfl ?_
        refine pu_ 22 67 (tl_ 26 8388607) rfl rfl ?_
        refine pu_ 23 68 (tl_ 26 16777215) rfl rfl ?_
        refine pw_ 24 69 (tl_ 26 33554431) rfl rfl ?_
        refine pw_ 25 2 (tl_ 26 67108863) rfl rfl ?_
        refine done_ (done_of HT_.out (g1_)) ?_
        try go_wp2
        go_ret
        exact ⟨g4_, ch⟩
      ·replace tp := Bool.eq_false_iff.mpr tp
       subst tp
       replace H := ifn_ H
       obtain rfl := Option.some.inj H
       try go_wp2
       replace bf := Aside0.mk (Kd.R_drew bf.out)
       replace bm := Aside0.mk (Kd.V_drew bm.out)
       replace az := Aside0.mk (Kd.R_drew az.out)
       replace a9 := Aside0.mk (Kd.N_drew a9.out)
       replace bu := Aside0.mk (Kd.R_drew bu.out)
       replace cg := Aside0.mk (Kd.N_drew cg.out)
       replace ao := Aside0.mk (blk_drew ao.out)
       replace an := Aside0.mk (blk_drew an.out)
       replace bk := Aside0.mk (blk_drew bk.out)
       replace HB := Aside0.mk (below_drew1 HB.out)
       refine start_ (n := 26) (S := fun w' => w'.cell? ⟨ce, 0, none⟩ = some (.slice bj bd.length be) ∧ w'.cell? ⟨ce, 1, none⟩ = some (.slice cj bn.length ca)) (ds := []) (tl_ 26 0) (g1_) rfl (g1_) ⟨(blk_cell an.out 0).trans rfl, (blk_cell an.out 1).trans rfl⟩ (fun hHeld => ?_); refine with_tabW laws_FnStruckOut.tab10 laws_FnStruckOut.bits10 (fun HT_ HW_ => ?_)
       generalize wc.drew = w79 at bf bm az a9 bu cg ao an bk HB hHeld ⊢
       refine tk0_ 0 45 (tl_ 26 1) rfl rfl hHeld ?_
       refine one_ (i := 1) (N := some 46) (tl_ 26 3) rfl rfl (one_of HT_.out (g1_)) (by decide) (fun K hK => ?_)
       refine goes_ Try.func44 (g1_) rfl #[.agg #[.slice bj bd.length be, .slice cj bn.length ca]] (by rfl) rfl rfl (g3_) ?_
       with_reducible refine (impl_BookOk.calls kj5 _ _ bd _ _ bn false _ ?side1 ?side2 ?side3 ?side4 A42.out).mono ?_
       (case side1 => repeat (first | exact (Kd.R_reads' az.out).2.2 | (with_reducible refine Kd.C_alloc ?_ _) | (with_reducible refine Kd.C_drewN ?_ _) | (with_reducible refine Kd.C_drew ?_)))
       (case side2 => exact (Kd.R_reads' az.out).2.1)
       (case side3 => repeat (first | exact (Kd.N_reads' a9.out).2.2 | (with_reducible refine Kd.C_alloc ?_ _) | (with_reducible refine Kd.C_drewN ?_ _) | (with_reducible refine Kd.C_drew ?_)))
       (case side4 => exact (Kd.N_reads' a9.out).2.1)
       rintro e w80 ⟨rfl, hb⟩
       refine ⟨_, rfl, ?_⟩
       replace bf := Aside0.mk (Kd.R_below (uf1_ bf) hb)
       replace bm := Aside0.mk (Kd.V_below (uf5_ bm) hb)
       replace az := Aside0.mk (Kd.R_below (uf1_ az) hb)
       replace a9 := Aside0.mk (Kd.N_below (uf4_ a9) hb)
       replace bu := Aside0.mk (Kd.R_below (uf1_ bu) hb)
       replace cg := Aside0.mk (Kd.N_below (uf4_ cg) hb)
       replace ao := bb_ ao hb
       replace an := bb_ an hb
       replace bk := bb_ bk hb
       replace HB := Aside0.mk (below_step (ch) hb)
       (try clear hb)
       (try clear hk hi)
       refine hK.out _ _ ⟨(blk_cell an.out 0).trans rfl, (blk_cell an.out 1).trans rfl⟩ (fun hHeld => ?_)
       clear hK K
       refine nm_ ?_
       refine pw_ 2 47 (tl_ 26 7) rfl rfl ?_
       refine pu_ 3 48 (tl_ 26 15) rfl rfl ?_
       refine pu_ 4 49 (tl_ 26 31) rfl rfl ?_
       refine pu_ 5 50 (tl_ 26 63) rfl rfl ?_
       refine pu_ 6 51 (tl_ 26 127) rfl rfl ?_
       refine pu_ 7 52 (tl_ 26 255) rfl rfl ?_
       refine pw_ 8 53 (tl_ 26 511) rfl rfl ?_
       refine pw_ 9 54 (tl_ 26 1023) rfl rfl ?_
       refine pu_ 10 55 (tl_ 26 2047) rfl rfl ?_
       refine pu_ 11 56 (tl_ 26 4095) rfl rfl ?_
       refine pu_ 12 57 (tl_ 26 8191) rfl rfl ?_
       refine pu_ 13 58 (tl_ 26 16383) rfl rfl ?_
       refine pu_ 14 59 (tl_ 26 32767) rfl rfl ?_
       refine pw_ 15 60 (tl_ 26 65535) rfl rfl ?_
       refine pw_ 16 61 (tl_ 26 131071) rfl rfl ?_
       refine pu_ 17 62 (tl_ 26 262143) rfl rfl ?_
       refine pu_ 18 63 (tl_ 26 524287) rfl rfl ?_
       refine pu_ 19 64 (tl_ 26 1048575) rfl rfl ?_
       refine pu_ 20 65 (tl_ 26 2097151) rfl rfl ?_
       refine pu_ 21 66 (tl_ 26 4194303) rfl rfl ?_
       refine pu_ 22 67 (tl_ 26 8388607) rfl rfl ?_
       refine pu_ 23 68 (tl_ 26 16777215) rfl rfl ?_
       refine pw_ 24 69 (tl_ 26 33554431) rfl rfl ?_
       refine pw_ 25 2 (tl_ 26 67108863) rfl rfl ?_
       refine done_ (done_of HT_.out (g1_)) ?_
       try go_wp2
       go_ret
       exact ⟨g4_, ch⟩
     ·replace jh := Bool.eq_false_iff.mpr jh
      subst jh
      replace H := ifn_ H
      obtain ⟨bk9, A81, H⟩ := bind_ H
      by_cases sw : bk9 = true
      ·subst sw
       replace H := ifp_ H
       obtain ⟨bl0, A83, H⟩ := bind_ H
       obtain rfl := Option.some.inj H
       have ev0 := ae4.out
       have ev1 := qc.out
       have ct9 := qd.out
       have cu0 := ae5.out
       obtain ⟨ev2, ev3, ev4, ev5⟩ := blk2_ an
       go_wp2_with (first | ((with_reducible refine gate_callee (f := 43) rfl ?_); refine goesL_ (some 41) rfl rfl Try.func43 k_ rfl #[.agg #[.slice bj bd.length be, .slice cj bn.length ca]] rfl (g3_) ?_; (with_reducible refine (laws_noBook.calls kj5 _ _ bd _ _ bn true _ ?side1 ?side2 ?side3 ?side4 A81.out).mono ?_); (case side1 => repeat (first | exact (Kd.R_reads' az.out).2.2 | (with_reducible refine Kd.C_alloc ?_ _) | (with_reducible refine Kd.C_drewN ?_ _) | (with_reducible refine Kd.C_drew ?_))); (case side2 => exact (Kd.R_reads' az.out).2.1); (case side3 => repeat (first | exact (Kd.N_reads' a9.out).2.2 | (with_reducible refine Kd.C_alloc ?_ _) | (with_reducible refine Kd.C_drewN ?_ _) | (with_reducible refine Kd.C_drew ?_))); (case side4 => exact (Kd.N_reads' a9.out).2.1); rintro e mu ⟨rfl, hb⟩; refine ⟨_, rfl, ?_⟩; replace bf := Aside0.mk (Kd.R_below (uf1_ bf) hb); replace bm := Aside0.mk (Kd.V_below (uf5_ bm) hb); replace az := Aside0.mk (Kd.R_below (uf1_ az) hb); replace a9 := Aside0.mk (Kd.N_below (uf4_ a9) hb); replace bu := Aside0.mk (Kd.R_below (uf1_ bu) hb); replace cg := Aside0.mk (Kd.N_below (uf4_ cg) hb); replace ao := bb_ ao hb; replace an := bb_ an hb; replace bk := bb_ bk hb; replace HB := Aside0.mk (below_step (ch) hb); (try clear hb); (try clear hk hi)) | (go_at_call 23; (with_reducible refine (laws_alive.calls kj5  bl0 _ A83.out).mono ?_); rintro e w88 ⟨rfl, hb⟩; replace bf := Aside0.mk (Kd.R_below (uf1_ bf) hb); replace bm := Aside0.mk (Kd.V_below (uf5_ bm) hb); replace az := Aside0.mk (Kd.R_below (uf1_ az) hb); replace a9 := Aside0.mk (Kd.N_below (uf4_ a9) hb); replace bu := Aside0.mk (Kd.R_below (uf1_ bu) hb); replace cg := Aside0.mk (Kd.N_below (uf4_ cg) hb); replace ao := bb_ ao hb; replace an := bb_ an hb; replace bk := bb_ bk hb; replace HB := Aside0.mk (below_step (ch) hb); (try clear hb); (try clear hk hi)))
       go_ret
       exact ⟨g4_, ch⟩
      ·replace sw := Bool.eq_false_iff.mpr sw
       subst sw
       replace H := ifn_ H
       obtain rfl := Option.some.inj H
       have ev6 := ae4.out
       have ev7 := qc.out
       have ev8 := qd.out
       have ev9 := ae5.out
       obtain ⟨cu2, cu3, cu4, cu5⟩ := blk2_ an
       go_wp2_with (first | ((with_reducible refine gate_callee (f := 43) rfl ?_); refine goesL_ (some 41) rfl rfl Try.func43 k_ rfl #[.agg #[.slice bj bd.length be, .slice cj bn.length ca]] rfl (g3_) ?_; (with_reducible refine (laws_noBook.calls kj5 _ _ bd _ _ bn false _ ?side1 ?side2 ?side3 ?side4 A81.out).mono ?_); (case side1 => repeat (first | exact (Kd.R_reads' az.out).2.2 | (with_reducible refine Kd.C_alloc ?_ _) | (with_reducible refine Kd.C_drewN ?_ _) | (with_reducible refine Kd.C_drew ?_))); (case side2 => exact (Kd.R_reads' az.out).2.1); (case side3 => repeat (first | exact (Kd.N_reads' a9.out).2.2 | (with_reducible refine Kd.C_alloc ?_ _) | (with_reducible refine Kd.C_drewN ?_ _) | (with_reducible refine Kd.C_drew ?_))); (case side4 => exact (Kd.N_reads' a9.out).2.1); rintro e w92 ⟨rfl, hb⟩; refine ⟨_, rfl, ?_⟩; replace bf := Aside0.mk (Kd.R_below (uf1_ bf) hb); replace bm := Aside0.mk (Kd.V_below (uf5_ bm) hb); replace az := Aside0.mk (Kd.R_below (uf1_ az) hb); replace a9 := Aside0.mk (Kd.N_below (uf4_ a9) hb); replace bu := Aside0.mk (Kd.R_below (uf1_ bu) hb); replace cg := Aside0.mk (Kd.N_below (uf4_ cg) hb); replace ao := bb_ ao hb; replace an := bb_ an hb; replace bk := bb_ bk hb; replace HB := Aside0.mk (below_step (ch) hb); (try clear hb); (try clear hk hi)))
       go_ret
       exact ⟨g4_, ch⟩
def laws_FnStruckOut.Pure : Prop := ∀ (l0 : List Int), l0.length ≤ maxLen → l0.length * 1 ≤ 140737488351232 → (∀ x ∈ l0, (Lit.int .u8 x).wf = true) → ∃ k, laws_FnStruckOut.f k l0 = some true
theorem laws_FnStruckOut.walk (P : laws_FnStruckOut.Pure) (a0 : Option Addr) (len0 cap0 : Nat) (z0 : List Int) (w : World) (w0 : (a0 = none ∧ len0 = 0 ∧ cap0 = 0 ∧ z0 = []) ∨ ∃ x, a0 = some x ∧ len0 ≤ cap0 ∧ cap0 ≤ maxLen ∧ z0.length = cap0 ∧ (∀ i, i < z0.length → w.cell? (x.add i) = some (.int .u8 (z0.getD i 0))) ∧ ∀ n ∈ z0, (Lit.int .u8 n).wf = true) (y0 : len0 * 1 ≤ 140737488351232) :
  Calls Try.prog 9 #[.slice a0 len0 cap0] w fun e w' => e = .returned (.bool true) ∧ Below w.heap.size w w' := by
 obtain ⟨l0, rfl, br, hm0, hw0, cx⟩ := ReadsInt.ofRowC w0
 obtain ⟨k, h⟩ := P l0 hm0 y0 hw0
 refine (laws_FnStruckOut.calls k _ _ l0 true w (Kd.C_of_reads (d := (0 : Int)) (h1 := fun _ => rfl) br) cx h).mono ?_
 rintro e w' ⟨rfl, hd⟩
 exact ⟨rfl, hd⟩
end Go.Proofs.Ytfooakkhkehpiaa.PU
namespace Go.Proofs.Ytfooakkhkehpiaa.Qh
open Go.RowKit Go.Proofs.YtfooakkhkehpiaaW.PrintWords Go.Proofs.YtfooakkhkehpiaaW.PrintMore
set_option linter.unusedVariables false
set_option linter.unusedSimpArgs false
theorem w64 {n : Int} (h1 : -9223372036854775808 ≤ n) (h2 : n ≤ 9223372036854775807) : wrap64 n = n := by unfold wrap64; omega
theorem wsucc {i n : Nat} (h : i < n) (hn : n ≤ 4611686018427387904) : wrap64 ((i : Int) + 1) = ((i + 1 : Nat) : Int) := by unfold wrap64; omega
section
variable {α β : Type} {r : α}
theorem evPos {c : Prop} [Decidable c] {g f : Nat → Option α} (h : c) (k : Ev g r) : Ev (fun n => if c then g n else f n) r := by
  simp only [if_pos h]; exact k
theorem evNeg {c : Prop} [Decidable c] {g f : Nat → Option α} (h : ¬ c) (k : Ev f r) : Ev (fun n => if c then g n else f n) r := by
  simp only [if_neg h]; exact k
theorem evBind0 {g : Option β} {f : Nat → β → Option α} {a : β} (h : g = some a) (k : Ev (fun n => f n a) r) : Ev (fun n => g.bind (f n)) r := by
  subst h; exact k
theorem evEq {g : Nat → Option α} {q : α} (h : Ev g q) (e : q = r) : Ev g r := e ▸ h
end
theorem rd_get (xs : List Int) (i : Nat) (h : i < xs.length) : rd xs (i : Int) = xs[i] := by
  simp [rd, List.getD_eq_getElem?_getD, List.getElem?_eq_getElem h]
theorem drop_rd (xs : List Int) (i : Nat) (h : i < xs.length) : xs.drop i = rd xs (i : Int) :: xs.drop (i + 1) := by
  rw [rd_get xs i h, List.drop_eq_getElem_cons h]
theorem getD_set {α : Type} (xs : List α) (d v : α) (i j : Nat) (h : i < xs.length) : (xs.set i v).getD j d = if i = j then v else xs.getD j d := by
  simp only [List.getD_eq_getElem?_getD, List.getElem?_set]
  by_cases e : i = j
  · subst e; simp [h]
  · simp [e]
theorem rd_app (xs : List Int) (v : Int) (j : Nat) : rd (xs ++ [v]) (j : Int) = if j < xs.length then rd xs j else if j = xs.length then v else 0 := by
  unfold rd
  simp only [Int.toNat_natCast, List.getD_eq_getElem?_getD, List.getElem?_append]
  by_cases h : j < xs.length
  · simp [h]
  · by_cases e : j = xs.length
    · subst e; simp
    · rw [if_neg h, if_neg h, if_neg e]
      have : 1 ≤ j - xs.length := by omega
      rw [List.getElem?_eq_none (by simp; omega)]; rfl
theorem getD_mem {α : Type} (d : α) (xs : List α) (i : Nat) (h : i < xs.length) : xs.getD i d ∈ xs := by
  simp [List.getD_eq_getElem?_getD, List.getElem?_eq_getElem h]
def EvB (g : Nat → Option Bool) (p : Prop) : Prop := ∃ b, (b = true ↔ p) ∧ Ev g b
section
variable {g f : Nat → Option Bool} {p q : Prop}
theorem EvB.congr (h : EvB g p) (e : p ↔ q) : EvB g q := by obtain ⟨b, h1, h2⟩ := h; exact ⟨b, h1.trans e, h2⟩
theorem EvB.tt (h : p) : EvB (fun _ => some true) p := ⟨true, by simp [h], Ev.now _⟩
theorem EvB.ff (h : ¬ p) : EvB (fun _ => some false) p := ⟨false, by simp [h], Ev.now _⟩
theorem EvB.pos {c : Prop} [Decidable c] (h : c) (k : EvB g p) : EvB (fun n => if c then g n else f n) p := by obtain ⟨b, h1, h2⟩ := k; exact ⟨b, h1, evPos h h2⟩
theorem EvB.neg {c : Prop} [Decidable c] (h : ¬ c) (k : EvB f p) : EvB (fun n => if c then g n else f n) p := by obtain ⟨b, h1, h2⟩ := k; exact ⟨b, h1, evNeg h h2⟩
theorem EvB.step {g f : Nat → Option Bool} (h : ∀ k, g (k + 1) = f k) (k : EvB f p) : EvB g p := by obtain ⟨b, h1, h2⟩ := k; exact ⟨b, h1, Ev.step h h2⟩
theorem EvB.bind {β : Type} {g : Nat → Option β} {f : Nat → β → Option Bool} {a : β} (h : Ev g a) (k : EvB (fun n => f n a) p) : EvB (fun n => (g n).bind (f n)) p := by obtain ⟨b, h1, h2⟩ := k; exact ⟨b, h1, Ev.bind h h2⟩
theorem EvB.bind0 {β : Type} {g : Option β} {f : Nat → β → Option Bool} {a : β} (h : g = some a) (k : EvB (fun n => f n a) p) : EvB (fun n => g.bind (f n)) p := by obtain ⟨b, h1, h2⟩ := k; exact ⟨b, h1, evBind0 h h2⟩
theorem EvB.yes (h : EvB g p) (hp : p) : Ev g true := by obtain ⟨b, h1, h2⟩ := h; rw [h1.2 hp] at h2; exact h2
theorem EvB.no (h : EvB g p) (hp : ¬ p) : Ev g false := by
  obtain ⟨b, h1, h2⟩ := h
  have : b = false := by cases b with
    | true => exact absurd (h1.1 rfl) hp
    | false => rfl
  rw [this] at h2; exact h2
end
end Go.Proofs.Ytfooakkhkehpiaa.Qh
namespace Go.Proofs.Ytfooakkhkehpiaa.Bk
open Go.RowKit Go.Proofs.Ytfooakkhkehpiaa.PU Go.Proofs.Ytfooakkhkehpiaa.Qh Go.Proofs.YtfooakkhkehpiaaW.PrintWords Go.Proofs.YtfooakkhkehpiaaW.PrintMore
set_option linter.unusedVariables false
set_option linter.unusedSimpArgs false
def RowP (c : List Int) (d : List (List Int)) (i : Nat) : Prop :=
  0 ≤ rd c (i : Int) ∧ rd c (i : Int) ≤ 20 ∧ (rd_L1 d (i : Int)).length = c.length ∧ rd (rd_L1 d (i : Int)) (i : Int) = 0 ∧ ∀ j : Nat, j < c.length → 0 ≤ rd (rd_L1 d (i : Int)) (j : Int) ∧ rd (rd_L1 d (i : Int)) (j : Int) ≤ 9
def BookP (c : List Int) (d : List (List Int)) : Prop := 1 ≤ c.length ∧ c.length ≤ 4 ∧ d.length = c.length ∧ ∀ i : Nat, i < c.length → RowP c d i
theorem ib_l1 (c : List Int) (d : List (List Int)) (row : List Int) (x3 : Int) (i : Nat) (hrow : row.length ≤ 4) (hi : i < d.length) (hd : d.length ≤ 4) {R : Prop}
    (hR : EvB (fun k => impl_isBook.l0 k x3 d (d.length : Int) ((i + 1 : Nat) : Int) c d) R) : ∀ (e j : Nat), row.length - j = e → j ≤ row.length →
    EvB (fun k => impl_isBook.l1 k x3 d (d.length : Int) (i : Int) row (row.length : Int) (j : Int) c d) ((∀ j' : Nat, j ≤ j' → j' < row.length → 0 ≤ rd row (j' : Int) ∧ rd row (j' : Int) ≤ 9) ∧ R) := by
  have hs : wrap64 ((i : Int) + 1) = ((i + 1 : Nat) : Int) := wsucc hi (by omega)
  intro e
  induction e with
  | zero =>
    intro j he hj
    refine EvB.step (fun k => by rw [impl_isBook.l1]) ?_
    rw [hs]
    exact EvB.neg (by omega) (hR.congr ⟨fun h => ⟨fun j' h1 h2 => by omega, h⟩, fun h => h.2⟩)
  | succ e ih =>
    intro j he hj
    have hlt : j < row.length := by omega
    have hj1 : wrap64 ((j : Int) + 1) = ((j + 1 : Nat) : Int) := wsucc hlt (by omega)
    refine EvB.step (fun k => by rw [impl_isBook.l1]) ?_
    refine EvB.pos (by omega) (EvB.pos (by omega) (EvB.pos (by omega) ?_))
    by_cases h1 : rd row (j : Int) < 0
    · exact EvB.pos h1 (EvB.ff (fun h => by have := h.1 j (Nat.le_refl _) hlt; omega))
    · refine EvB.neg h1 ?_
      by_cases h2 : rd row (j : Int) > 9
      · exact EvB.pos h2 (EvB.ff (fun h => by have := h.1 j (Nat.le_refl _) hlt; omega))
      · refine EvB.neg h2 ?_
        rw [hj1]
        refine (ih (j + 1) (by omega) (by omega)).congr ⟨fun h => ⟨fun j' h3 h4 => ?_, h.2⟩, fun h => ⟨fun j' h3 h4 => h.1 j' (by omega) h4, h.2⟩⟩
        by_cases e' : j' = j
        · subst e'; exact ⟨by omega, by omega⟩
        · exact h.1 j' (by omega) h4
theorem ib_l0 (c : List Int) (d : List (List Int)) (h4 : c.length ≤ 4) (hl : d.length = c.length) : ∀ (e i : Nat), c.length - i = e → i ≤ c.length →
    EvB (fun k => impl_isBook.l0 k (c.length : Int) d (d.length : Int) (i : Int) c d) (∀ i' : Nat, i ≤ i' → i' < c.length → RowP c d i') := by
  intro e
  induction e with
  | zero =>
    intro i he hi
    refine EvB.step (fun k => by rw [impl_isBook.l0]) ?_
    exact EvB.neg (by omega) (EvB.tt (fun i' h1 h2 => by omega))
  | succ e ih =>
    intro i he hi
    have hlt : i < c.length := by omega
    refine EvB.step (fun k => by rw [impl_isBook.l0]) ?_
    refine EvB.pos (by omega) (EvB.pos (by omega) (EvB.pos (by omega) (EvB.pos (by omega) ?_)))
    have bad : ∀ (P : Prop), (P → ¬ RowP c d i) → P → EvB (fun k => impl_isBook.j2 k (c.length : Int) (rd_L1 d (i : Int)) d (d.length : Int) (i : Int) true c d) (∀ i' : Nat, i ≤ i' → i' < c.length → RowP c d i') := by
      intro P hP p
      refine EvB.step (fun k => by rw [impl_isBook.j2]) ?_
      exact EvB.pos rfl (EvB.ff (fun h => hP p (h i (Nat.le_refl _) hlt)))
    by_cases h1 : rd c (i : Int) < 0
    · exact EvB.pos h1 (bad _ (fun p h => by have := h.1; omega) h1)
    refine EvB.neg h1 ?_
    by_cases h2 : rd c (i : Int) > 20
    · exact EvB.pos h2 (bad _ (fun p h => by have := h.2.1; omega) h2)
    refine EvB.neg h2 ?_
    by_cases h3 : ((rd_L1 d (i : Int)).length : Int) = (c.length : Int)
    · refine EvB.pos h3 (EvB.pos (by omega) ?_)
      by_cases h5 : rd (rd_L1 d (i : Int)) (i : Int) = 0
      · refine EvB.step (fun k => by rw [impl_isBook.j2]) ?_
        refine EvB.neg (by rw [h5]; decide) ?_
        refine (ib_l1 c d (rd_L1 d (i : Int)) (c.length : Int) i (by omega) (by omega) (by omega) (ih (i + 1) (by omega) (by omega)) _ 0 rfl (by omega)).congr ?_
        constructor
        · intro h i' h6 h7
          by_cases e' : i' = i
          · subst e'; exact ⟨by omega, by omega, by omega, h5, fun j hj => h.1 j (by omega) (by omega)⟩
          · exact h.2 i' (by omega) h7
        · intro h
          have hr := h i (Nat.le_refl _) hlt
          exact ⟨fun j' _ h7 => hr.2.2.2.2 j' (by omega), fun i' h6 h7 => h i' (by omega) h7⟩
      · have hb : (rd (rd_L1 d (i : Int)) (i : Int) != 0) = true := bne_iff_ne.mpr h5
        rw [hb]
        exact bad _ (fun p h => p h.2.2.2.1) h5
    · exact EvB.neg h3 (bad _ (fun p h => p (by rw [h.2.2.1])) h3)
theorem isBook (c : List Int) (d : List (List Int)) : EvB (fun k => impl_isBook.f k c d) (BookP c d) := by
  unfold impl_isBook.f
  by_cases h1 : (c.length : Int) < 1
  · refine EvB.pos h1 (EvB.step (fun k => by rw [impl_isBook.j0]) ?_)
    exact EvB.pos rfl (EvB.ff (fun h => by have := h.1; omega))
  refine EvB.neg h1 ?_
  by_cases h2 : (c.length : Int) > 4
  · refine EvB.pos h2 (EvB.step (fun k => by rw [impl_isBook.j0]) ?_)
    exact EvB.pos rfl (EvB.ff (fun h => by have := h.2.1; omega))
  refine EvB.neg h2 (EvB.step (fun k => by rw [impl_isBook.j0]) ?_)
  by_cases h3 : d.length = c.length
  · refine EvB.neg (by rw [h3]; simp) ?_
    refine (ib_l0 c d (by omega) h3 _ 0 rfl (by omega)).congr ⟨fun h => ⟨by omega, by omega, h3, fun i hi => h i (by omega) hi⟩, fun h i _ hi => h.2.2.2 i hi⟩
  · exact EvB.pos (bne_iff_ne.mpr (by omega)) (EvB.ff (fun h => h3 h.2.2.1))
theorem sIn (a lo hi : Int) : spec_l1In.f a lo hi = some (decide (lo ≤ a ∧ a ≤ hi)) := by
  unfold spec_l1In.f
  by_cases h : a ≥ lo
  · rw [if_pos h]; simp [h]
  · rw [if_neg h]; congr 1; symm; exact decide_eq_false (fun h' => h h'.1)
theorem sb_l1 (c : List Int) (d : List (List Int)) (i : Nat) (hrow : (rd_L1 d (i : Int)).length ≤ 4) (hi : i < d.length) (hd : d.length ≤ 4) {R : Prop}
    (hR : EvB (fun k => spec_BookOk.l0 k ((i + 1 : Nat) : Int) c d) R) : ∀ (e j : Nat), (rd_L1 d (i : Int)).length - j = e → j ≤ (rd_L1 d (i : Int)).length →
    EvB (fun k => spec_BookOk.l1 k (i : Int) (j : Int) c d) ((∀ j' : Nat, j ≤ j' → j' < (rd_L1 d (i : Int)).length → 0 ≤ rd (rd_L1 d (i : Int)) (j' : Int) ∧ rd (rd_L1 d (i : Int)) (j' : Int) ≤ 9) ∧ R) := by
  have hs : wrap64 ((i : Int) + 1) = ((i + 1 : Nat) : Int) := wsucc hi (by omega)
  intro e
  induction e with
  | zero =>
    intro j he hj
    refine EvB.step (fun k => by rw [spec_BookOk.l1]) ?_
    rw [hs]
    exact EvB.pos (by omega) (EvB.pos (by omega) (EvB.neg (by omega) (hR.congr ⟨fun h => ⟨fun j' h1 h2 => by omega, h⟩, fun h => h.2⟩)))
  | succ e ih =>
    intro j he hj
    have hlt : j < (rd_L1 d (i : Int)).length := by omega
    have hj1 : wrap64 ((j : Int) + 1) = ((j + 1 : Nat) : Int) := wsucc hlt (by omega)
    refine EvB.step (fun k => by rw [spec_BookOk.l1]) ?_
    refine EvB.pos (by omega) (EvB.pos (by omega) (EvB.pos (by omega) (EvB.pos (by omega) (EvB.bind0 (sIn _ _ _) ?_))))
    by_cases h1 : 0 ≤ rd (rd_L1 d (i : Int)) (j : Int) ∧ rd (rd_L1 d (i : Int)) (j : Int) ≤ 9
    · refine EvB.pos (decide_eq_true h1) ?_
      rw [hj1]
      refine (ih (j + 1) (by omega) (by omega)).congr ⟨fun h => ⟨fun j' h3 h4 => ?_, h.2⟩, fun h => ⟨fun j' h3 h4 => h.1 j' (by omega) h4, h.2⟩⟩
      by_cases e' : j' = j
      · subst e'; exact h1
      · exact h.1 j' (by omega) h4
    · exact EvB.neg (by simpa using h1) (EvB.ff (fun h => h1 (h.1 j (Nat.le_refl _) hlt)))
theorem sb_l0 (c : List Int) (d : List (List Int)) (h4 : c.length ≤ 4) (hl : d.length = c.length) : ∀ (e i : Nat), c.length - i = e → i ≤ c.length →
    EvB (fun k => spec_BookOk.l0 k (i : Int) c d) (∀ i' : Nat, i ≤ i' → i' < c.length → RowP c d i') := by
  intro e
  induction e with
  | zero =>
    intro i he hi
    refine EvB.step (fun k => by rw [spec_BookOk.l0]) ?_
    exact EvB.neg (by omega) (EvB.tt (fun i' h1 h2 => by omega))
  | succ e ih =>
    intro i he hi
    have hlt : i < c.length := by omega
    refine EvB.step (fun k => by rw [spec_BookOk.l0]) ?_
    refine EvB.pos (by omega) (EvB.pos (by omega) (EvB.bind0 (sIn _ _ _) ?_))
    have bad : ∀ (P : Prop), (P → ¬ RowP c d i) → P → EvB (fun k => spec_BookOk.j2 k (i : Int) true c d) (∀ i' : Nat, i ≤ i' → i' < c.length → RowP c d i') := by
      intro P hP p
      refine EvB.step (fun k => by rw [spec_BookOk.j2]) ?_
      exact EvB.pos rfl (EvB.ff (fun h => hP p (h i (Nat.le_refl _) hlt)))
    by_cases h1 : 0 ≤ rd c (i : Int) ∧ rd c (i : Int) ≤ 20
    · refine EvB.pos (decide_eq_true h1) (EvB.pos (by omega) ?_)
      by_cases h3 : ((rd_L1 d (i : Int)).length : Int) = (c.length : Int)
      · refine EvB.pos h3 (EvB.pos (by omega) ?_)
        by_cases h5 : rd (rd_L1 d (i : Int)) (i : Int) = 0
        · refine EvB.step (fun k => by rw [spec_BookOk.j2]) ?_
          refine EvB.neg (by rw [h5]; decide) ?_
          refine (sb_l1 c d i (by omega) (by omega) (by omega) (ih (i + 1) (by omega) (by omega)) _ 0 rfl (by omega)).congr ?_
          constructor
          · intro h i' h6 h7
            by_cases e' : i' = i
            · subst e'; exact ⟨h1.1, h1.2, by omega, h5, fun j hj => h.1 j (by omega) (by omega)⟩
            · exact h.2 i' (by omega) h7
          · intro h
            have hr := h i (Nat.le_refl _) hlt
            exact ⟨fun j' _ h7 => hr.2.2.2.2 j' (by omega), fun i' h6 h7 => h i' (by omega) h7⟩
        · have hb : (rd (rd_L1 d (i : Int)) (i : Int) != 0) = true := bne_iff_ne.mpr h5
          rw [hb]
          exact bad _ (fun p h => p h.2.2.2.1) h5
      · exact EvB.neg h3 (bad _ (fun p h => p (by rw [h.2.2.1])) h3)
    · exact EvB.neg (by simpa using h1) (bad _ (fun p h => p ⟨h.1, h.2.1⟩) h1)
theorem bookOk (c : List Int) (d : List (List Int)) : EvB (fun k => spec_BookOk.f k c d) (BookP c d) := by
  unfold spec_BookOk.f
  refine EvB.bind0 (sIn _ _ _) ?_
  by_cases h1 : 1 ≤ (c.length : Int) ∧ (c.length : Int) ≤ 4
  · refine EvB.pos (decide_eq_true h1) (EvB.step (fun k => by rw [spec_BookOk.j0]) ?_)
    by_cases h3 : d.length = c.length
    · refine EvB.neg (by rw [h3]; simp) ?_
      refine (sb_l0 c d (by omega) h3 _ 0 rfl (by omega)).congr ⟨fun h => ⟨by omega, by omega, h3, fun i hi => h i (by omega) hi⟩, fun h i _ hi => h.2.2.2 i hi⟩
    · exact EvB.pos (bne_iff_ne.mpr (by omega)) (EvB.ff (fun h => h3 h.2.2.1))
  · refine EvB.neg (by simpa using h1) (EvB.step (fun k => by rw [spec_BookOk.j0]) ?_)
    exact EvB.pos rfl (EvB.ff (fun h => h1 ⟨by have := h.1; omega, by have := h.2.1; omega⟩))
end Go.Proofs.Ytfooakkhkehpiaa.Bk
namespace Go.Proofs.Ytfooakkhkehpiaa.Mx
open Go.RowKit Go.Proofs.Ytfooakkhkehpiaa.PU Go.Proofs.Ytfooakkhkehpiaa.Qh Go.Proofs.Ytfooakkhkehpiaa.Bk Go.Proofs.YtfooakkhkehpiaaW.PrintWords Go.Proofs.YtfooakkhkehpiaaW.PrintMore
set_option linter.unusedVariables false
set_option linter.unusedSimpArgs false
abbrev db (d : List (List Int)) (i j : Nat) : Int := rd (rd_L1 d (i : Int)) (j : Int)
theorem rL (xs : List (List Int)) (i : Nat) : rd_L1 xs (i : Int) = xs.getD i [] := rfl
def rowF (n : Nat) (f : Nat → Int) : List Int := (List.range n).map f
def mk (n : Nat) (f : Nat → Nat → Int) : List (List Int) := (List.range n).map (fun i => rowF n (f i))
theorem rowF_len (n : Nat) (f : Nat → Int) : (rowF n f).length = n := by simp [rowF]
theorem mk_len (n : Nat) (f : Nat → Nat → Int) : (mk n f).length = n := by simp [mk]
theorem rd_rowF {n j : Nat} {f : Nat → Int} (h : j < n) : rd (rowF n f) (j : Int) = f j := by
  rw [rd_get _ _ (by rw [rowF_len]; exact h)]; simp [rowF]
theorem mk_get {n i : Nat} {f : Nat → Nat → Int} (h : i < n) : rd_L1 (mk n f) (i : Int) = rowF n (f i) := by
  rw [rL, List.getD_eq_getElem?_getD, List.getElem?_eq_getElem (by rw [mk_len]; exact h)]; simp [mk]
theorem rowF_congr {n : Nat} {f g : Nat → Int} (h : ∀ j, j < n → f j = g j) : rowF n f = rowF n g := by
  unfold rowF
  exact List.map_congr_left (fun j hj => h j (List.mem_range.mp hj))
theorem mk_congr {n : Nat} {f g : Nat → Nat → Int} (h : ∀ i, i < n → ∀ j, j < n → f i j = g i j) : mk n f = mk n g := by
  unfold mk
  exact List.map_congr_left (fun i hi => rowF_congr (h i (List.mem_range.mp hi)))
theorem rowF_of (l : List Int) {n : Nat} (h : l.length = n) : l = rowF n (fun j => rd l (j : Int)) := by
  apply List.ext_getElem (by rw [rowF_len, h])
  intro i h1 h2
  rw [← rd_get l i h1, ← rd_get _ i h2, rd_rowF (by rw [rowF_len] at h2; exact h2)]
theorem mk_of {c : List Int} {d : List (List Int)} (h : BookP c d) : d = mk c.length (db d) := by
  apply List.ext_getElem (by rw [mk_len, h.2.2.1])
  intro i h1 h2
  have hi : i < c.length := by rw [mk_len] at h2; exact h2
  have hr := (h.2.2.2 i hi).2.2.1
  have e1 : d[i] = rd_L1 d (i : Int) := by rw [rL, List.getD_eq_getElem?_getD, List.getElem?_eq_getElem h1]; rfl
  have e2 : (mk c.length (db d))[i] = rowF c.length (db d i) := by simp [mk]
  rw [e1, e2]
  exact rowF_of _ hr
theorem rowF_set {n j : Nat} {f : Nat → Int} {v : Int} (h : j < n) : (rowF n f).set j v = rowF n (fun j' => if j' = j then v else f j') := by
  apply List.ext_getElem (by simp [rowF])
  intro i h1 h2
  have hi : i < n := by rw [rowF_len] at h2; exact h2
  rw [List.getElem_set]
  by_cases e : j = i
  · subst e; simp [rowF]
  · rw [if_neg e]; simp only [rowF, List.getElem_map, List.getElem_range]; rw [if_neg (fun z => e z.symm)]
theorem mk_set {n i j : Nat} {f : Nat → Nat → Int} {v : Int} (hi : i < n) (hj : j < n) : (mk n f).set i ((rd_L1 (mk n f) (i : Int)).set j v) = mk n (fun i' j' => if i' = i ∧ j' = j then v else f i' j') := by
  rw [mk_get hi, rowF_set hj]
  apply List.ext_getElem (by simp [mk])
  intro a h1 h2
  have ha : a < n := by rw [mk_len] at h2; exact h2
  rw [List.getElem_set]
  by_cases e : i = a
  · subst e
    rw [if_pos rfl]
    simp only [mk, List.getElem_map, List.getElem_range]
    exact rowF_congr (fun j' _ => by simp)
  · rw [if_neg e]
    simp only [mk, List.getElem_map, List.getElem_range]
    exact rowF_congr (fun j' _ => by rw [if_neg (fun z => e z.1.symm)])
theorem icopy {c : List Int} {d : List (List Int)} (h : BookP c d) : Ev (fun k => impl_copyBook.f k c d) (c, d) := by
  have h4 := h.2.1
  have hdl := h.2.2.1
  unfold impl_copyBook.f
  refine evBind0 rfl (evPos (by simp only [List.length_nil]; omega) ?_)
  rw [List.nil_append]
  have key : ∀ (e i : Nat), d.length - i = e → i ≤ d.length → Ev (fun k => impl_copyBook.l0 k d (d.length : Int) (i : Int) c (d.take i)) (c, d) := by
    intro e
    induction e with
    | zero =>
      intro i he hi
      obtain rfl : i = d.length := by omega
      refine Ev.step (fun k => by rw [impl_copyBook.l0]) ?_
      rw [List.take_length]
      exact evNeg (by omega) (Ev.now _)
    | succ e ih =>
      intro i he hi
      have hlt : i < d.length := by omega
      have hr := (h.2.2.2 i (by omega)).2.2.1
      have hs : Aside0 (wrap64 ((i : Int) + 1) = ((i + 1 : Nat) : Int)) := ⟨wsucc hlt (by omega)⟩
      have htl : (d.take i).length = i := by rw [List.length_take]; omega
      have e2 : d.take i ++ [rd_L1 d (i : Int)] = d.take (i + 1) := by
        rw [rL, List.getD_eq_getElem?_getD, List.getElem?_eq_getElem hlt, List.take_succ_eq_append_getElem hlt]; rfl
      refine Ev.step (fun k => by rw [impl_copyBook.l0]) ?_
      rw [hs.out]
      refine evPos (by omega) (evPos (by omega) (evPos (by omega) (evBind0 rfl (evPos (by simp only [List.length_nil]; omega) (evPos (by omega) ?_)))))
      rw [List.nil_append, e2]
      exact ih (i + 1) (by omega) (by omega)
  exact key d.length 0 rfl (by omega)
theorem scopy {c : List Int} {d : List (List Int)} (h : BookP c d) : Ev (fun k => spec_l2Copy.f k c d) (c, d) := by
  have h4 := h.2.1
  have hdl := h.2.2.1
  unfold spec_l2Copy.f
  refine evBind0 rfl (evPos (by simp only [List.length_nil]; omega) ?_)
  rw [List.nil_append]
  have key : ∀ (e i : Nat), d.length - i = e → i ≤ d.length → Ev (fun k => spec_l2Copy.l0 k (i : Int) c d c (d.take i)) (c, d) := by
    intro e
    induction e with
    | zero =>
      intro i he hi
      obtain rfl : i = d.length := by omega
      refine Ev.step (fun k => by rw [spec_l2Copy.l0]) ?_
      rw [List.take_length]
      exact evNeg (by omega) (Ev.now _)
    | succ e ih =>
      intro i he hi
      have hlt : i < d.length := by omega
      have hr := (h.2.2.2 i (by omega)).2.2.1
      have hs : Aside0 (wrap64 ((i : Int) + 1) = ((i + 1 : Nat) : Int)) := ⟨wsucc hlt (by omega)⟩
      have htl : (d.take i).length = i := by rw [List.length_take]; omega
      have e2 : d.take i ++ [rd_L1 d (i : Int)] = d.take (i + 1) := by
        rw [rL, List.getD_eq_getElem?_getD, List.getElem?_eq_getElem hlt, List.take_succ_eq_append_getElem hlt]; rfl
      refine Ev.step (fun k => by rw [spec_l2Copy.l0]) ?_
      rw [hs.out]
      refine evPos (by omega) (evBind0 rfl (evPos (by omega) (evPos (by simp only [List.length_nil]; omega) (evPos (by omega) ?_))))
      rw [List.nil_append, e2]
      exact ih (i + 1) (by omega) (by omega)
  exact key d.length 0 rfl (by omega)
theorem sameI_l (l : List Int) (hl : l.length ≤ 4611686018427387904) : ∀ (e i : Nat), l.length - i = e → i ≤ l.length → Ev (fun k => laws_sameInts.l0 k l l (i : Int)) true := by
  intro e
  induction e with
  | zero =>
    intro i he hi
    refine Ev.step (fun k => by rw [laws_sameInts.l0]) ?_
    exact evNeg (by omega) (Ev.now _)
  | succ e ih =>
    intro i he hi
    have hlt : i < l.length := by omega
    have hs : wrap64 ((i : Int) + 1) = ((i + 1 : Nat) : Int) := wsucc hlt hl
    refine Ev.step (fun k => by rw [laws_sameInts.l0]) ?_
    refine evPos (by omega) (evPos (by omega) (evPos (by omega) (evPos rfl ?_)))
    rw [hs]
    exact ih (i + 1) (by omega) (by omega)
theorem sameI (l : List Int) (hl : l.length ≤ 4611686018427387904) : Ev (fun k => laws_sameInts.f k l l) true := by
  unfold laws_sameInts.f
  exact evPos rfl (sameI_l l hl _ 0 rfl (by omega))
theorem sameR_l (l : List (List Int)) (hl : l.length ≤ 4611686018427387904) (hr : ∀ i : Nat, i < l.length → (rd_L1 l (i : Int)).length ≤ 4611686018427387904) : ∀ (e i : Nat), l.length - i = e → i ≤ l.length → Ev (fun k => laws_sameRows.l0 k l l (i : Int)) true := by
  intro e
  induction e with
  | zero =>
    intro i he hi
    refine Ev.step (fun k => by rw [laws_sameRows.l0]) ?_
    exact evNeg (by omega) (Ev.now _)
  | succ e ih =>
    intro i he hi
    have hlt : i < l.length := by omega
    have hs : wrap64 ((i : Int) + 1) = ((i + 1 : Nat) : Int) := wsucc hlt hl
    refine Ev.step (fun k => by rw [laws_sameRows.l0]) ?_
    refine evPos (by omega) (evPos (by omega) (evPos (by omega) (Ev.bind (sameI _ (hr i hlt)) (evPos rfl ?_))))
    rw [hs]
    exact ih (i + 1) (by omega) (by omega)
theorem sameB (c : List Int) (l : List (List Int)) (hc : c.length ≤ 4611686018427387904) (hl : l.length ≤ 4611686018427387904) (hr : ∀ i : Nat, i < l.length → (rd_L1 l (i : Int)).length ≤ 4611686018427387904) : Ev (fun k => laws_sameBook.f k c l c l) true := by
  unfold laws_sameBook.f
  refine Ev.bind (sameI c hc) (evPos rfl (Ev.bind ?_ (Ev.now _)))
  unfold laws_sameRows.f
  exact evPos rfl (sameR_l l hl hr _ 0 rfl (by omega))
theorem sameOk {c : List Int} {d : List (List Int)} (h : BookP c d) : Ev (fun k => laws_sameBook.f k c d c d) true := by
  have h4 := h.2.1
  have hdl := h.2.2.1
  exact sameB c d (by omega) (by omega) (fun i hi => by have := (h.2.2.2 i (by omega)).2.2.1; omega)
end Go.Proofs.Ytfooakkhkehpiaa.Mx
namespace Go.Proofs.Ytfooakkhkehpiaa.Ow
open Go.RowKit Go.Proofs.Ytfooakkhkehpiaa.PU Go.Proofs.Ytfooakkhkehpiaa.Qh Go.Proofs.Ytfooakkhkehpiaa.Bk Go.Proofs.YtfooakkhkehpiaaW.PrintWords Go.Proofs.YtfooakkhkehpiaaW.PrintMore
set_option linter.unusedVariables false
set_option linter.unusedSimpArgs false
def sm (xs : List Int) : Nat → Int
  | 0 => 0
  | i + 1 => sm xs i + rd xs (i : Int)
def ow (c : List Int) (d : List (List Int)) (i : Nat) : Int := sm (rd_L1 d (i : Int)) c.length
def owes (c : List Int) (d : List (List Int)) : List Int := (List.range c.length).map (ow c d)
theorem owes_len (c : List Int) (d : List (List Int)) : (owes c d).length = c.length := by simp [owes]
theorem rd_owes {c : List Int} {d : List (List Int)} {i : Nat} (hi : i < c.length) : rd (owes c d) (i : Int) = ow c d i := by
  rw [rd_get _ _ (by rw [owes_len]; exact hi)]; simp [owes]
theorem sm_bd {c : List Int} {d : List (List Int)} (h : BookP c d) {i : Nat} (hi : i < c.length) : ∀ j : Nat, j ≤ c.length → 0 ≤ sm (rd_L1 d (i : Int)) j ∧ sm (rd_L1 d (i : Int)) j ≤ 9 * j
  | 0, _ => by simp [sm]
  | j + 1, hj => by
    have := sm_bd h hi j (by omega)
    have := (h.2.2.2 i hi).2.2.2.2 j (by omega)
    simp only [sm]; omega
theorem ow_bd {c : List Int} {d : List (List Int)} (h : BookP c d) {i : Nat} (hi : i < c.length) : 0 ≤ ow c d i ∧ ow c d i ≤ 36 := by
  have := sm_bd h hi c.length (Nat.le_refl _); have := h.2.1; unfold ow; omega
def mid (c : List Int) (d : List (List Int)) (i : Nat) (s : Int) : List Int := (List.range c.length).map (fun k => if k < i then ow c d k else if k = i then s else 0)
theorem mid_len (c : List Int) (d : List (List Int)) (i : Nat) (s : Int) : (mid c d i s).length = c.length := by simp [mid]
theorem mid_get {c : List Int} {d : List (List Int)} {i : Nat} {s : Int} (hi : i < c.length) : rd (mid c d i s) (i : Int) = s := by
  rw [rd_get _ _ (by rw [mid_len]; exact hi)]; simp [mid]
theorem mid_set {c : List Int} {d : List (List Int)} {i : Nat} {s v : Int} (hi : i < c.length) : (mid c d i s).set ((i : Int)).toNat v = mid c d i v := by
  apply List.ext_getElem (by simp [mid])
  intro k h1 h2
  simp only [mid, List.getElem_set, List.getElem_map, List.getElem_range, Int.toNat_natCast]
  by_cases e : i = k
  · subst e; simp
  · rw [if_neg e]
    by_cases e2 : k < i
    · simp [e2]
    · simp [e2, Ne.symm e, show ¬ k = i from fun h => e h.symm]
theorem mid_next {c : List Int} {d : List (List Int)} (i : Nat) : mid c d i (ow c d i) = mid c d (i + 1) 0 := by
  unfold mid
  apply List.map_congr_left
  intro k _
  by_cases e : k < i
  · simp [e, show k < i + 1 by omega]
  · by_cases e2 : k = i
    · subst e2; simp
    · simp [e, e2, show ¬ k < i + 1 by omega]
theorem mid_start (c : List Int) (d : List (List Int)) : List.replicate c.length (0 : Int) = mid c d 0 0 := by
  apply List.ext_getElem (by simp [mid])
  intro k h1 h2
  simp [mid]
theorem mid_end (c : List Int) (d : List (List Int)) : mid c d c.length 0 = owes c d := by
  unfold mid owes
  apply List.map_congr_left
  intro k hk
  simp [List.mem_range.mp hk]
theorem io_l1 {c : List Int} {d : List (List Int)} (h : BookP c d) {i : Nat} (hi : i < c.length) {r : List Int} (hR : Ev (fun k => impl_owes.l0 k (mid c d (i + 1) 0) d (d.length : Int) ((i + 1 : Nat) : Int)) r) :
    ∀ (e j : Nat), c.length - j = e → j ≤ c.length → Ev (fun k => impl_owes.l1 k (mid c d i (sm (rd_L1 d (i : Int)) j)) (i : Int) d (d.length : Int) (i : Int) (rd_L1 d (i : Int)) ((rd_L1 d (i : Int)).length : Int) (j : Int)) r := by
  have h4 := h.2.1
  have hdl := h.2.2.1
  have hrl := (h.2.2.2 i hi).2.2.1
  have hs : wrap64 ((i : Int) + 1) = ((i + 1 : Nat) : Int) := wsucc hi (by omega)
  intro e
  induction e with
  | zero =>
    intro j he hj
    obtain rfl : j = c.length := by omega
    refine Ev.step (fun k => by rw [impl_owes.l1]) ?_
    rw [hs]
    refine evNeg (by omega) ?_
    have : mid c d i (sm (rd_L1 d (i : Int)) c.length) = mid c d (i + 1) 0 := mid_next i
    rw [this]
    exact hR
  | succ e ih =>
    intro j he hj
    have hlt : j < c.length := by omega
    have hj1 : wrap64 ((j : Int) + 1) = ((j + 1 : Nat) : Int) := wsucc hlt (by omega)
    have hb := sm_bd h hi j (by omega)
    have hx := (h.2.2.2 i hi).2.2.2.2 j hlt
    have hw : wrap64 (sm (rd_L1 d (i : Int)) j + rd (rd_L1 d (i : Int)) (j : Int)) = sm (rd_L1 d (i : Int)) (j + 1) := by rw [w64 (by omega) (by omega)]; rfl
    have hml := mid_len c d i (sm (rd_L1 d (i : Int)) j)
    refine Ev.step (fun k => by rw [impl_owes.l1]) ?_
    refine evPos (by omega) (evPos (by omega) (evPos (by omega) (evPos (by omega) (evPos (by omega) ?_))))
    rw [mid_get hi, hw, hj1, mid_set hi]
    exact ih (j + 1) (by omega) (by omega)
theorem io_l0 {c : List Int} {d : List (List Int)} (h : BookP c d) : ∀ (e i : Nat), c.length - i = e → i ≤ c.length → Ev (fun k => impl_owes.l0 k (mid c d i 0) d (d.length : Int) (i : Int)) (owes c d) := by
  have hdl := h.2.2.1
  intro e
  induction e with
  | zero =>
    intro i he hi
    obtain rfl : i = c.length := by omega
    refine Ev.step (fun k => by rw [impl_owes.l0]) ?_
    exact evNeg (by omega) (evEq (Ev.now _) (mid_end c d))
  | succ e ih =>
    intro i he hi
    refine Ev.step (fun k => by rw [impl_owes.l0]) ?_
    refine evPos (by omega) (evPos (by omega) (evPos (by omega) ?_))
    exact io_l1 h (by omega) (ih (i + 1) (by omega) (by omega)) _ 0 rfl (by omega)
theorem iowes {c : List Int} {d : List (List Int)} (h : BookP c d) : Ev (fun k => impl_owes.f k c d) (owes c d) := by
  have h4 := h.2.1
  unfold impl_owes.f
  refine evPos (by omega) (evPos (by omega) ?_)
  rw [Int.toNat_natCast, mid_start c d]
  exact io_l0 h _ 0 rfl (by omega)
end Go.Proofs.Ytfooakkhkehpiaa.Ow
namespace Go.Proofs.Ytfooakkhkehpiaa.Ne
open Go.RowKit Go.Proofs.Ytfooakkhkehpiaa.PU Go.Proofs.Ytfooakkhkehpiaa.Qh Go.Proofs.Ytfooakkhkehpiaa.Bk Go.Proofs.Ytfooakkhkehpiaa.Mx Go.Proofs.Ytfooakkhkehpiaa.Ow Go.Proofs.YtfooakkhkehpiaaW.PrintWords Go.Proofs.YtfooakkhkehpiaaW.PrintMore
set_option linter.unusedVariables false
set_option linter.unusedSimpArgs false
variable {c : List Int} {d : List (List Int)}
theorem db_bd (h : BookP c d) {i j : Nat} (hi : i < c.length) (hj : j < c.length) : 0 ≤ db d i j ∧ db d i j ≤ 9 := (h.2.2.2 i hi).2.2.2.2 j hj
def cs (d : List (List Int)) : Nat → Nat → Int
  | 0, _ => 0
  | i + 1, j => cs d i j + db d i j
theorem cs_bd (h : BookP c d) {j : Nat} (hj : j < c.length) : ∀ i : Nat, i ≤ c.length → 0 ≤ cs d i j ∧ cs d i j ≤ 9 * i
  | 0, _ => by simp [cs]
  | i + 1, hi => by
    have := cs_bd h hj i (by omega)
    have := db_bd h (show i < c.length by omega) hj
    simp only [cs]; omega
def fo (d : List (List Int)) (i k : Nat) (j : Nat) : Int := if j < k then cs d (i + 1) j else cs d i j
theorem od_l1 (h : BookP c d) {i : Nat} (hi : i < c.length) {r : List Int} (hR : Ev (fun n => impl_owed.l0 n (rowF c.length (fo d (i + 1) 0)) d (d.length : Int) ((i + 1 : Nat) : Int)) r) : ∀ (e k : Nat), c.length - k = e → k ≤ c.length →
    Ev (fun n => impl_owed.l1 n (rowF c.length (fo d i k)) d (d.length : Int) (i : Int) (rd_L1 d (i : Int)) ((rd_L1 d (i : Int)).length : Int) (k : Int)) r := by
  have h4 := h.2.1
  have hdl := h.2.2.1
  have hrl := (h.2.2.2 i hi).2.2.1
  have hs : Aside0 (wrap64 ((i : Int) + 1) = ((i + 1 : Nat) : Int)) := ⟨wsucc hi (by omega)⟩
  intro e
  induction e with
  | zero =>
    intro k he hk
    obtain rfl : k = c.length := by omega
    refine Ev.step (fun n => by rw [impl_owed.l1]) ?_
    rw [hs.out]
    refine evNeg (by omega) ?_
    have : rowF c.length (fo d i c.length) = rowF c.length (fo d (i + 1) 0) := rowF_congr (fun j hj => by unfold fo; rw [if_pos hj, if_neg (by omega)])
    rw [this]
    exact hR
  | succ e ih =>
    intro k he hk
    have hlt : k < c.length := by omega
    have hk1 : Aside0 (wrap64 ((k : Int) + 1) = ((k + 1 : Nat) : Int)) := ⟨wsucc hlt (by omega)⟩
    have b1 := cs_bd h hlt i (by omega)
    have b2 := db_bd h hi hlt
    have b3 : rd (rd_L1 d (i : Int)) (k : Int) = db d i k := rfl
    have hfl := rowF_len c.length (fo d i k)
    have hw : wrap64 (rd (rowF c.length (fo d i k)) (k : Int) + rd (rd_L1 d (i : Int)) (k : Int)) = cs d (i + 1) k := by
      rw [rd_rowF hlt]
      have : fo d i k k = cs d i k := by unfold fo; rw [if_neg (by omega)]
      rw [this, b3, w64 (by omega) (by omega)]
      rfl
    refine Ev.step (fun n => by rw [impl_owed.l1]) ?_
    rw [hk1.out, hw, Int.toNat_natCast, rowF_set hlt]
    refine evPos (by omega) (evPos (by omega) (evPos (by omega) (evPos (by omega) ?_)))
    have : rowF c.length (fun j => if j = k then cs d (i + 1) k else fo d i k j) = rowF c.length (fo d i (k + 1)) := rowF_congr (fun j hj => by
      unfold fo
      by_cases z : j = k
      · subst z; rw [if_pos rfl, if_pos (by omega)]
      · rw [if_neg z]
        by_cases y : j < k
        · rw [if_pos y, if_pos (by omega)]
        · rw [if_neg y, if_neg (by omega)])
    rw [this]
    exact ih (k + 1) (by omega) (by omega)
theorem od_l0 (h : BookP c d) : ∀ (e i : Nat), c.length - i = e → i ≤ c.length → Ev (fun n => impl_owed.l0 n (rowF c.length (fo d i 0)) d (d.length : Int) (i : Int)) (rowF c.length (cs d c.length)) := by
  have hdl := h.2.2.1
  intro e
  induction e with
  | zero =>
    intro i he hi
    obtain rfl : i = c.length := by omega
    refine Ev.step (fun n => by rw [impl_owed.l0]) ?_
    exact evNeg (by omega) (evEq (Ev.now _) (rowF_congr (fun j _ => by unfold fo; rw [if_neg (by omega)])))
  | succ e ih =>
    intro i he hi
    refine Ev.step (fun n => by rw [impl_owed.l0]) ?_
    refine evPos (by omega) (evPos (by omega) (evPos (by omega) ?_))
    exact od_l1 h (by omega) (ih (i + 1) (by omega) (by omega)) _ 0 rfl (by omega)
theorem owed (h : BookP c d) : Ev (fun n => impl_owed.f n c d) (rowF c.length (cs d c.length)) := by
  have h4 := h.2.1
  unfold impl_owed.f
  refine evPos (by omega) (evPos (by omega) ?_)
  have : List.replicate c.length (0 : Int) = rowF c.length (fo d 0 0) := by
    apply List.ext_getElem (by simp [rowF])
    intro k h1 h2
    simp [rowF, fo, cs]
  rw [Int.toNat_natCast, this]
  exact od_l0 h _ 0 rfl (by omega)
def nt (c : List Int) (d : List (List Int)) (j : Nat) : Int := cs d c.length j - ow c d j
def fn (c : List Int) (d : List (List Int)) (k j : Nat) : Int := if j < k then nt c d j else cs d c.length j
theorem ne_l (h : BookP c d) : ∀ (e k : Nat), c.length - k = e → k ≤ c.length → Ev (fun n => impl_nets.l0 n (rowF c.length (fn c d k)) (owes c d) ((owes c d).length : Int) (k : Int)) (rowF c.length (nt c d)) := by
  have h4 := h.2.1
  have hol := owes_len c d
  intro e
  induction e with
  | zero =>
    intro k he hk
    obtain rfl : k = c.length := by omega
    refine Ev.step (fun n => by rw [impl_nets.l0]) ?_
    exact evNeg (by omega) (evEq (Ev.now _) (rowF_congr (fun j hj => by unfold fn; rw [if_pos hj])))
  | succ e ih =>
    intro k he hk
    have hlt : k < c.length := by omega
    have hk1 : Aside0 (wrap64 ((k : Int) + 1) = ((k + 1 : Nat) : Int)) := ⟨wsucc hlt (by omega)⟩
    have b1 := cs_bd h hlt c.length (by omega)
    have b2 := ow_bd h hlt
    have hfl := rowF_len c.length (fn c d k)
    have hw : wrap64 (rd (rowF c.length (fn c d k)) (k : Int) - rd (owes c d) (k : Int)) = nt c d k := by
      rw [rd_rowF hlt, rd_owes hlt]
      have : fn c d k k = cs d c.length k := by unfold fn; rw [if_neg (by omega)]
      rw [this, w64 (by omega) (by omega)]
      rfl
    refine Ev.step (fun n => by rw [impl_nets.l0]) ?_
    rw [hk1.out, hw, Int.toNat_natCast, rowF_set hlt]
    refine evPos (by omega) (evPos (by omega) (evPos (by omega) (evPos (by omega) ?_)))
    have : rowF c.length (fun j => if j = k then nt c d k else fn c d k j) = rowF c.length (fn c d (k + 1)) := rowF_congr (fun j hj => by
      unfold fn
      by_cases z : j = k
      · subst z; rw [if_pos rfl, if_pos (by omega)]
      · rw [if_neg z]
        by_cases y : j < k
        · rw [if_pos y, if_pos (by omega)]
        · rw [if_neg y, if_neg (by omega)])
    rw [this]
    exact ih (k + 1) (by omega) (by omega)
theorem nets (h : BookP c d) : Ev (fun n => impl_NetsOf.f n c d) (rowF c.length (nt c d)) := by
  unfold impl_NetsOf.f impl_nets.f
  refine Ev.bind ((isBook c d).yes h) (evPos rfl (Ev.bind (Ev.bind (owed h) (Ev.bind (iowes h) ?_)) (Ev.now _)))
  have : rowF c.length (cs d c.length) = rowF c.length (fn c d 0) := rowF_congr (fun j _ => by unfold fn; rw [if_neg (by omega)])
  rw [this]
  exact ne_l h _ 0 rfl (by omega)
theorem so_bd (h : BookP c d) : ∀ m : Nat, m ≤ c.length → 0 ≤ sm (owes c d) m ∧ sm (owes c d) m ≤ 36 * m
  | 0, _ => by simp [sm]
  | m + 1, hm => by
    have ih := so_bd h m (by omega)
    have := ow_bd h (show m < c.length by omega)
    simp only [sm]
    rw [rd_owes (by omega)]
    omega
theorem ad_l (h : BookP c d) : ∀ (e k : Nat), c.length - k = e → k ≤ c.length → Ev (fun n => impl_AllDebts.l0 n (sm (owes c d) k) (owes c d) ((owes c d).length : Int) (k : Int)) (sm (owes c d) c.length) := by
  have h4 := h.2.1
  have hol := owes_len c d
  intro e
  induction e with
  | zero =>
    intro k he hk
    obtain rfl : k = c.length := by omega
    refine Ev.step (fun n => by rw [impl_AllDebts.l0]) ?_
    exact evNeg (by omega) (Ev.now _)
  | succ e ih =>
    intro k he hk
    have hlt : k < c.length := by omega
    have hk1 : Aside0 (wrap64 ((k : Int) + 1) = ((k + 1 : Nat) : Int)) := ⟨wsucc hlt (by omega)⟩
    have b1 := so_bd h k (by omega)
    have b2 := so_bd h (k + 1) (by omega)
    have hw : wrap64 (sm (owes c d) k + rd (owes c d) (k : Int)) = sm (owes c d) (k + 1) := by
      have : sm (owes c d) k + rd (owes c d) (k : Int) = sm (owes c d) (k + 1) := rfl
      rw [this, w64 (by omega) (by omega)]
    refine Ev.step (fun n => by rw [impl_AllDebts.l0]) ?_
    rw [hk1.out, hw]
    exact evPos (by omega) (evPos (by omega) (evPos (by omega) (ih (k + 1) (by omega) (by omega))))
theorem allDebts (h : BookP c d) : Ev (fun n => impl_AllDebts.f n c d) (sm (owes c d) c.length) := by
  unfold impl_AllDebts.f
  exact Ev.bind ((isBook c d).yes h) (evPos rfl (Ev.bind (iowes h) (ad_l h _ 0 rfl (by omega))))
end Go.Proofs.Ytfooakkhkehpiaa.Ne
namespace Go.Proofs.Ytfooakkhkehpiaa.Cr
open Go.RowKit Go.Proofs.Ytfooakkhkehpiaa.PU Go.Proofs.Ytfooakkhkehpiaa.Qh Go.Proofs.Ytfooakkhkehpiaa.Bk Go.Proofs.Ytfooakkhkehpiaa.Mx Go.Proofs.YtfooakkhkehpiaaW.PrintWords Go.Proofs.YtfooakkhkehpiaaW.PrintMore
set_option linter.unusedVariables false
set_option linter.unusedSimpArgs false
theorem wpred {n : Nat} (h : 0 < n) (hn : n ≤ 4611686018427387904) : wrap64 ((n : Int) - 1) = ((n - 1 : Nat) : Int) := by rw [w64 (by omega) (by omega)]; omega
def la (p : List Int) : Int := rd p ((p.length - 1 : Nat) : Int)
def self (d : List (List Int)) (p : List Int) : List (List Int) := if 1 < p.length ∧ 0 < rd (rd_L1 d (la p)) (rd p 0) then [p] else []
def rest (F : List Int → List (List Int)) (d : List (List Int)) (p : List Int) : Nat → Nat → List (List Int)
  | 0, _ => []
  | e + 1, j => (if rd (rd_L1 d (la p)) (j : Int) = 0 ∨ (j : Int) ∈ p then [] else F (p ++ [(j : Int)])) ++ rest F d p e (j + 1)
def P (n : Nat) (d : List (List Int)) : Nat → List Int → List (List Int)
  | 0, _ => []
  | m + 1, p => self d p ++ rest (P n d m) d p (n - ((rd p 0).toNat + 1)) ((rd p 0).toNat + 1)
def PathP (n : Nat) (d : List (List Int)) (p : List Int) : Prop :=
  0 < p.length ∧ p.Nodup ∧ (∀ x ∈ p, rd p 0 ≤ x ∧ 0 ≤ x ∧ x < (n : Int)) ∧ ∀ i : Nat, i + 1 < p.length → 0 < rd (rd_L1 d (rd p (i : Int))) (rd p ((i + 1 : Nat) : Int))
theorem pigeon : ∀ (n : Nat) (p : List Int), p.Nodup → (∀ x ∈ p, 0 ≤ x ∧ x < (n : Int)) → p.length ≤ n
  | 0, p, _, h => by
    cases p with
    | nil => simp
    | cons a r => have := h a List.mem_cons_self; omega
  | n + 1, p, hd, h => by
    by_cases hm : (n : Int) ∈ p
    · have h1 := pigeon n (p.erase (n : Int)) (hd.erase _) (fun x hx => by
        have h2 := h x (List.mem_of_mem_erase hx)
        have h3 : x ≠ (n : Int) := (List.Nodup.mem_erase_iff hd).1 hx |>.1
        omega)
      have h2 := List.length_erase_of_mem hm
      omega
    · have h1 := pigeon n p hd (fun x hx => by
        have h2 := h x hx
        have h3 : x ≠ (n : Int) := fun e => hm (e ▸ hx)
        omega)
      omega
theorem rd_mem {p : List Int} {i : Nat} (h : i < p.length) : rd p (i : Int) ∈ p := by rw [rd_get p i h]; exact List.getElem_mem h
theorem mem_rd {p : List Int} {x : Int} (h : x ∈ p) : ∃ i : Nat, i < p.length ∧ rd p (i : Int) = x := by
  obtain ⟨i, hi, e⟩ := List.mem_iff_getElem.mp h
  exact ⟨i, hi, by rw [rd_get p i hi]; exact e⟩
theorem rd0 (p : List Int) : rd p 0 = rd p ((0 : Nat) : Int) := rfl
theorem la_mem {p : List Int} (h : 0 < p.length) : la p ∈ p := rd_mem (by omega)
section
variable {n : Nat} {d : List (List Int)} {p : List Int}
theorem PathP.len (h : PathP n d p) : p.length ≤ n := pigeon n p h.2.1 (fun x hx => (h.2.2.1 x hx).2)
theorem PathP.head (h : PathP n d p) : 0 ≤ rd p 0 ∧ rd p 0 < (n : Int) := by
  have := h.2.2.1 (rd p 0) (by rw [rd0]; exact rd_mem h.1)
  exact ⟨this.2.1, this.2.2⟩
theorem PathP.last (h : PathP n d p) : 0 ≤ la p ∧ la p < (n : Int) := by
  have := h.2.2.1 (la p) (la_mem h.1)
  exact ⟨this.2.1, this.2.2⟩
theorem PathP.one {i : Nat} (hi : i < n) : PathP n d [(i : Int)] :=
  ⟨by simp, by simp, fun x hx => by rw [List.mem_singleton.1 hx]; exact ⟨Int.le_refl _, by omega, by omega⟩, fun k hk => by simp at hk⟩
theorem PathP.snoc (h : PathP n d p) {j : Nat} (hj : rd p 0 < (j : Int)) (hn : j < n) (hm : (j : Int) ∉ p) (he : 0 < rd (rd_L1 d (la p)) (j : Int)) : PathP n d (p ++ [(j : Int)]) := by
  have h0 : rd (p ++ [(j : Int)]) 0 = rd p 0 := by rw [rd0, rd_app, if_pos h.1]; rfl
  refine ⟨by simp, ?_, fun x hx => ?_, fun i hi => ?_⟩
  · rw [List.nodup_append]
    exact ⟨h.2.1, by simp, fun a ha b hb e => hm (by rw [List.mem_singleton.1 hb] at e; exact e ▸ ha)⟩
  · rw [h0]
    rcases List.mem_append.1 hx with hx | hx
    · exact h.2.2.1 x hx
    · rw [List.mem_singleton.1 hx]; exact ⟨by omega, by omega, by omega⟩
  · rw [List.length_append, List.length_singleton] at hi
    rw [rd_app, rd_app, if_pos (by omega)]
    by_cases hl : i + 1 < p.length
    · rw [if_pos hl]; exact h.2.2.2 i hl
    · rw [if_neg hl, if_pos (by omega)]
      have : i = p.length - 1 := by omega
      rw [this]
      exact he
end
def CirP (n : Nat) (d : List (List Int)) (q : List Int) : Prop := PathP n d q ∧ 1 < q.length ∧ 0 < rd (rd_L1 d (la q)) (rd q 0)
theorem mem_rest {F : List Int → List (List Int)} {d : List (List Int)} {p : List Int} {y : List Int} : ∀ (e j : Nat), y ∈ rest F d p e j → ∃ j' : Nat, j ≤ j' ∧ j' < j + e ∧ rd (rd_L1 d (la p)) (j' : Int) ≠ 0 ∧ (j' : Int) ∉ p ∧ y ∈ F (p ++ [(j' : Int)])
  | 0, j, h => by simp [rest] at h
  | e + 1, j, h => by
    rw [rest] at h
    rcases List.mem_append.1 h with h | h
    · by_cases hc : rd (rd_L1 d (la p)) (j : Int) = 0 ∨ (j : Int) ∈ p
      · rw [if_pos hc] at h; simp at h
      · rw [if_neg hc] at h
        exact ⟨j, by omega, by omega, fun z => hc (.inl z), fun z => hc (.inr z), h⟩
    · obtain ⟨j', h1, h2, h3⟩ := mem_rest e (j + 1) h
      exact ⟨j', by omega, by omega, h3⟩
theorem row_ge {c : List Int} {d : List (List Int)} (h : BookP c d) {i j : Int} (hi : 0 ≤ i ∧ i < (c.length : Int)) (hj : 0 ≤ j ∧ j < (c.length : Int)) : 0 ≤ rd (rd_L1 d i) j ∧ rd (rd_L1 d i) j ≤ 9 := by
  obtain ⟨i, rfl⟩ := Int.eq_ofNat_of_zero_le hi.1
  obtain ⟨j, rfl⟩ := Int.eq_ofNat_of_zero_le hj.1
  exact (h.2.2.2 i (by omega)).2.2.2.2 j (by omega)
theorem row_len {c : List Int} {d : List (List Int)} (h : BookP c d) {i : Int} (hi : 0 ≤ i ∧ i < (c.length : Int)) : (rd_L1 d i).length = c.length := by
  obtain ⟨i, rfl⟩ := Int.eq_ofNat_of_zero_le hi.1
  exact (h.2.2.2 i (by omega)).2.2.1
theorem mem_P {c : List Int} {d : List (List Int)} (h : BookP c d) {y : List Int} : ∀ (m : Nat) (p : List Int), PathP c.length d p → y ∈ P c.length d m p → CirP c.length d y
  | 0, p, _, hy => by simp [P] at hy
  | m + 1, p, hp, hy => by
    rw [P] at hy
    rcases List.mem_append.1 hy with hy | hy
    · unfold self at hy
      by_cases hc : 1 < p.length ∧ 0 < rd (rd_L1 d (la p)) (rd p 0)
      · rw [if_pos hc] at hy
        rw [List.mem_singleton.1 hy]
        exact ⟨hp, hc.1, hc.2⟩
      · rw [if_neg hc] at hy; simp at hy
    · obtain ⟨j, h1, h2, h3, h4, h5⟩ := mem_rest _ _ hy
      have hh := hp.head
      have hjn : j < c.length := by omega
      have hge := row_ge h hp.last (j := (j : Int)) ⟨by omega, by omega⟩
      exact mem_P h m _ (hp.snoc (by omega) hjn h4 (by omega)) h5
theorem rest_len {F : List Int → List (List Int)} {d : List (List Int)} {p : List Int} {B : Nat} (hF : ∀ q, (F q).length ≤ B) : ∀ (e j : Nat), (rest F d p e j).length ≤ e * B
  | 0, j => by simp [rest]
  | e + 1, j => by
    have ih := rest_len hF (d := d) (p := p) e (j + 1)
    rw [rest, List.length_append, Nat.succ_mul]
    have : (if rd (rd_L1 d (la p)) (j : Int) = 0 ∨ (j : Int) ∈ p then [] else F (p ++ [(j : Int)])).length ≤ B := by
      split
      · simp
      · exact hF _
    omega
theorem P_len {n : Nat} (hn : n ≤ 4) (d : List (List Int)) : ∀ (m : Nat) (p : List Int), (P n d m p).length ≤ 5 ^ m
  | 0, p => by simp [P]
  | m + 1, p => by
    have h1 := rest_len (P_len hn d m) (d := d) (p := p) (n - ((rd p 0).toNat + 1)) ((rd p 0).toNat + 1)
    have h2 : (self d p).length ≤ 1 := by unfold self; split <;> simp
    have h3 : (n - ((rd p 0).toNat + 1)) * 5 ^ m ≤ 4 * 5 ^ m := Nat.mul_le_mul_right _ (by omega)
    have h4 : 1 ≤ 5 ^ m := Nat.one_le_pow _ _ (by omega)
    rw [P, List.length_append, Nat.pow_succ]
    omega
theorem inL (p : List Int) (j : Int) (i : Nat) (h : ∀ i' : Nat, i' < i → rd p (i' : Int) ≠ j) (hi : p.length ≤ i) : j ∉ p := fun hm => by
  obtain ⟨k, hk, e⟩ := mem_rd hm
  exact h k (by omega) e
section
variable {c : List Int} {d : List (List Int)}
theorem paths (h : BookP c d) : ∀ (m : Nat) (p : List Int), PathP c.length d p → c.length + 1 ≤ m + p.length → m ≤ 4 → Ev (fun k => spec_l3Paths.f k c d p) (P c.length d m p)
  | 0, p, hp, hm, _ => by have := hp.len; omega
  | m + 1, p, hp, hm, hm4 => by
    have h4 := h.2.1
    have hdl := h.2.2.1
    have hpl := hp.len
    have hp0 := hp.1
    have hh := hp.head
    have hl := hp.last
    have hrl := row_len h hl
    have hlw : Aside0 (wrap64 ((p.length : Int) - 1) = ((p.length - 1 : Nat) : Int)) := ⟨wpred hp0 (by omega)⟩
    have hla : rd p ((p.length - 1 : Nat) : Int) = la p := rfl
    have h5 : 5 ^ m ≤ 125 := by
      have : m ≤ 3 := by omega
      calc 5 ^ m ≤ 5 ^ 3 := Nat.pow_le_pow_right (by omega) this
        _ = 125 := rfl
    obtain ⟨a, ha⟩ := Int.eq_ofNat_of_zero_le hh.1
    have haw : Aside0 (wrap64 (rd p 0 + 1) = ((a + 1 : Nat) : Int)) := ⟨by rw [ha]; exact wsucc (n := c.length) (by omega) (by omega)⟩
    -- the banks that may follow
    have loop : ∀ (e j : Nat) (acc : List (List Int)), c.length - j = e → j ≤ c.length → a < j → acc.length + e * 5 ^ m ≤ 1000 → Ev (fun k => spec_l3Paths.l0 k p acc (la p) (j : Int) c d) (acc ++ rest (P c.length d m) d p e j) := by
      intro e
      induction e with
      | zero =>
        intro j acc he hj _ _
        refine Ev.step (fun k => by rw [spec_l3Paths.l0]) ?_
        exact evNeg (by omega) (evEq (Ev.now _) (by simp [rest]))
      | succ e ih =>
        intro j acc he hj haj hacc
        have hlt : j < c.length := by omega
        have hj1 : Aside0 (wrap64 ((j : Int) + 1) = ((j + 1 : Nat) : Int)) := ⟨wsucc hlt (by omega)⟩
        have hmul : acc.length + (e * 5 ^ m + 5 ^ m) ≤ 1000 := by have z := hacc; rw [Nat.succ_mul] at z; exact z
        have h1p : 1 ≤ 5 ^ m := Nat.one_le_pow _ _ (by omega)
        refine Ev.step (fun k => by rw [spec_l3Paths.l0]) ?_
        rw [hj1.out]
        refine evPos (by omega) (evPos hl.1 (evPos (by omega) (evPos (by omega) (evPos (by omega) ?_))))
        by_cases hz : rd (rd_L1 d (la p)) (j : Int) = 0
        · refine evPos hz (evEq (ih (j + 1) acc (by omega) (by omega) (by omega) (by omega)) ?_)
          rw [rest, if_pos (.inl hz), List.nil_append]
        · refine evNeg hz ?_
          have inner : ∀ (f i : Nat), p.length - i = f → i ≤ p.length → (∀ i' : Nat, i' < i → rd p (i' : Int) ≠ (j : Int)) → Ev (fun k => spec_l3Paths.l1 k p acc (la p) (j : Int) (i : Int) c d) (acc ++ rest (P c.length d m) d p (e + 1) j) := by
            intro f
            induction f with
            | zero =>
              intro i hf hi hno
              have hmem := inL p (j : Int) i hno (by omega)
              have hge := row_ge h hl (j := (j : Int)) ⟨by omega, by omega⟩
              have hps := hp.snoc (j := j) (by omega) hlt hmem (by omega)
              refine Ev.step (fun k => by rw [spec_l3Paths.l1]) ?_
              rw [hj1.out]
              refine evNeg (by omega) (evBind0 rfl (evPos (by simp; omega) (evBind0 rfl (evBind0 rfl (evPos (by simp; omega) ?_)))))
              rw [List.nil_append]
              have hlen : (p ++ [(j : Int)]).length = p.length + 1 := by simp
              have hPl := P_len h4 d m (p ++ [(j : Int)])
              refine Ev.bind (paths h m _ hps (by omega) (by omega)) (evPos (by omega) ?_)
              refine evEq (ih (j + 1) _ (by omega) (by omega) (by omega) (by rw [List.length_append]; omega)) ?_
              rw [rest, if_neg (fun z => z.elim hz hmem), List.append_assoc]
            | succ f ih2 =>
              intro i hf hi hno
              have hi1 : Aside0 (wrap64 ((i : Int) + 1) = ((i + 1 : Nat) : Int)) := ⟨wsucc (n := p.length) (by omega) (by omega)⟩
              refine Ev.step (fun k => by rw [spec_l3Paths.l1]) ?_
              rw [hj1.out, hi1.out]
              refine evPos (by omega) (evPos (by omega) ?_)
              by_cases hij : rd p (i : Int) = (j : Int)
              · refine evPos hij (evEq (ih (j + 1) acc (by omega) (by omega) (by omega) (by omega)) ?_)
                rw [rest, if_pos (.inr (hij ▸ rd_mem (by omega))), List.nil_append]
              · refine evNeg hij (ih2 (i + 1) (by omega) (by omega) (fun i' hi' => ?_))
                by_cases e' : i' = i
                · subst e'; exact hij
                · exact hno i' (by omega)
          exact inner p.length 0 rfl (by omega) (fun i' hi' => by omega)
    have ha' : (rd p 0).toNat = a := by rw [ha]; rfl
    have he4 : (c.length - (a + 1)) * 5 ^ m ≤ 3 * 5 ^ m := Nat.mul_le_mul_right _ (by omega)
    have tail : ∀ acc : List (List Int), acc.length ≤ 1 → Ev (fun k => spec_l3Paths.j1 k p acc (la p) c d) (acc ++ rest (P c.length d m) d p (c.length - ((rd p 0).toNat + 1)) ((rd p 0).toNat + 1)) := by
      intro acc hacc
      refine Ev.step (fun k => by rw [spec_l3Paths.j1]) ?_
      rw [haw.out, ha']
      refine evPos (by omega) (loop _ (a + 1) acc rfl (by omega) (by omega) (by omega))
    refine Ev.step (fun k => by rw [spec_l3Paths.f]) ?_
    rw [hlw.out, hla]
    refine evBind0 rfl (evPos (by omega) (evPos (by omega) ?_))
    rw [P]
    by_cases h1 : 1 < p.length
    · refine evPos (by omega) (evPos hl.1 (evPos (by omega) (evPos (by omega) (evPos hh.1 (evPos (by omega) ?_)))))
      refine Ev.step (fun k => by rw [spec_l3Paths.j0]) ?_
      by_cases hc : 0 < rd (rd_L1 d (la p)) (rd p 0)
      · refine evPos (decide_eq_true (by omega)) (evBind0 rfl (evPos (by simp; omega) (evBind0 rfl (evPos (by simp) ?_))))
        rw [List.nil_append, List.nil_append]
        have : self d p = [p] := if_pos ⟨h1, hc⟩
        rw [this]
        exact tail [p] (by simp)
      · refine evNeg (by simpa using hc) ?_
        have : self d p = [] := if_neg (fun z => hc z.2)
        rw [this]
        exact tail [] (by simp)
    · refine evNeg (by omega) ?_
      refine Ev.step (fun k => by rw [spec_l3Paths.j0]) ?_
      refine evNeg (by decide) ?_
      have : self d p = [] := if_neg (fun z => h1 z.1)
      rw [this]
      exact tail [] (by simp)
end
def lexlt : List Int → List Int → Bool
  | a :: r, b :: s => if a = b then lexlt r s else decide (a < b)
  | _, _ => false
def bef (a b : List Int) : Bool := if a.length = b.length then lexlt a b else decide (a.length < b.length)
theorem before (a b : List Int) (ha : a.length ≤ 4611686018427387904) : Ev (fun k => spec_l3Before.f k a b) (bef a b) := by
  unfold spec_l3Before.f bef
  by_cases hl : a.length = b.length
  · rw [if_pos hl]
    refine evPos (by omega) ?_
    have key : ∀ (e i : Nat), a.length - i = e → i ≤ a.length → Ev (fun k => spec_l3Before.l0 k a b (i : Int)) (lexlt (a.drop i) (b.drop i)) := by
      intro e
      induction e with
      | zero =>
        intro i he hi
        refine Ev.step (fun k => by rw [spec_l3Before.l0]) ?_
        rw [List.drop_of_length_le (by omega)]
        exact evNeg (by omega) (evEq (Ev.now _) (by simp [lexlt]))
      | succ e ih =>
        intro i he hi
        have hi1 : Aside0 (wrap64 ((i : Int) + 1) = ((i + 1 : Nat) : Int)) := ⟨wsucc (n := a.length) (by omega) ha⟩
        refine Ev.step (fun k => by rw [spec_l3Before.l0]) ?_
        rw [hi1.out]
        refine evPos (by omega) (evPos (by omega) (evPos (by omega) ?_))
        rw [drop_rd a i (by omega), drop_rd b i (by omega), lexlt]
        by_cases hc : rd a (i : Int) = rd b (i : Int)
        · rw [if_pos hc]; exact evPos hc (ih (i + 1) (by omega) (by omega))
        · rw [if_neg hc]; exact evNeg hc (Ev.now _)
    have := key a.length 0 rfl (by omega)
    simpa using this
  · rw [if_neg hl]
    refine evNeg (by omega) (evEq (Ev.now _) ?_)
    rw [decide_eq_decide]; omega
def ins (lt : List Int → List Int → Bool) : Nat → List (List Int) → List (List Int)
  | 0, xs => xs
  | j + 1, xs => if lt (xs.getD (j + 1) []) (xs.getD j []) = true then ins lt j ((xs.set (j + 1) (xs.getD j [])).set j (xs.getD (j + 1) [])) else xs
def srt (lt : List Int → List Int → Bool) : Nat → Nat → List (List Int) → List (List Int)
  | 0, _, xs => xs
  | e + 1, i, xs => srt lt e (i + 1) (ins lt i xs)
theorem ins_len (lt : List Int → List Int → Bool) : ∀ (j : Nat) (xs : List (List Int)), (ins lt j xs).length = xs.length
  | 0, xs => rfl
  | j + 1, xs => by
    rw [ins]; split
    · rw [ins_len]; simp
    · rfl
theorem ins_mem (lt : List Int → List Int → Bool) {y : List Int} : ∀ (j : Nat) (xs : List (List Int)), j < xs.length → y ∈ ins lt j xs → y ∈ xs
  | 0, xs, _, h => h
  | j + 1, xs, hj, h => by
    rw [ins] at h; split at h
    · have h1 := ins_mem lt j _ (by simp; omega) h
      rcases List.mem_or_eq_of_mem_set h1 with h2 | h2
      · rcases List.mem_or_eq_of_mem_set h2 with h3 | h3
        · exact h3
        · rw [h3]; exact getD_mem [] xs j (by omega)
      · rw [h2]; exact getD_mem [] xs (j + 1) hj
    · exact h
theorem srt_len (lt : List Int → List Int → Bool) : ∀ (e i : Nat) (xs : List (List Int)), (srt lt e i xs).length = xs.length
  | 0, _, xs => rfl
  | e + 1, i, xs => by rw [srt, srt_len, ins_len]
theorem srt_mem (lt : List Int → List Int → Bool) {y : List Int} : ∀ (e i : Nat) (xs : List (List Int)), i + e ≤ xs.length → y ∈ srt lt e i xs → y ∈ xs
  | 0, _, xs, _, h => h
  | e + 1, i, xs, hi, h => by
    rw [srt] at h
    exact ins_mem lt i xs (by omega) (srt_mem lt e (i + 1) _ (by rw [ins_len]; omega) h)
def found (n : Nat) (d : List (List Int)) : Nat → Nat → List (List Int)
  | 0, _ => []
  | e + 1, i => P n d 4 [(i : Int)] ++ found n d e (i + 1)
theorem found_len {n : Nat} (hn : n ≤ 4) (d : List (List Int)) : ∀ (e i : Nat), (found n d e i).length ≤ e * 625
  | 0, i => by simp [found]
  | e + 1, i => by
    have h1 := P_len hn d 4 [(i : Int)]
    have h2 := found_len hn d e (i + 1)
    rw [found, List.length_append, Nat.succ_mul]; omega
def circ (c : List Int) (d : List (List Int)) : List (List Int) := srt bef ((found c.length d c.length 0).length - 1) 1 (found c.length d c.length 0)
section
variable {c : List Int} {d : List (List Int)}
theorem mem_found (h : BookP c d) {y : List Int} : ∀ (e i : Nat), i + e = c.length → y ∈ found c.length d e i → CirP c.length d y
  | 0, i, _, hy => by simp [found] at hy
  | e + 1, i, hi, hy => by
    rw [found] at hy
    rcases List.mem_append.1 hy with hy | hy
    · exact mem_P h 4 _ (PathP.one (by omega)) hy
    · exact mem_found h e (i + 1) (by omega) hy
theorem circ_len (c : List Int) (d : List (List Int)) : (circ c d).length = (found c.length d c.length 0).length := srt_len _ _ _ _
theorem mem_circ (h : BookP c d) {y : List Int} (hy : y ∈ circ c d) : CirP c.length d y := by
  by_cases h0 : (found c.length d c.length 0).length = 0
  · have := circ_len c d
    rw [h0, List.length_eq_zero_iff] at this
    rw [this] at hy; simp at hy
  · exact mem_found h c.length 0 (by omega) (srt_mem bef _ 1 _ (by omega) hy)
theorem sort_l2 {r : List (List Int)} (n : Nat) (hn : n ≤ 100000) (x5 : Int) (hrow : Nat) (hr4 : hrow ≤ 4611686018427387904) : ∀ (j : Nat) (xs : List (List Int)), j < xs.length → xs.length = n → (∀ y ∈ xs, y.length ≤ hrow) →
    Ev (fun k => spec_CirclesOf.l1 k (ins bef j xs) (wrap64 (x5 + 1))) r → Ev (fun k => spec_CirclesOf.l2 k xs x5 (j : Int)) r
  | 0, xs, hj, hxn, hrw, hR => by
    refine Ev.step (fun k => by rw [spec_CirclesOf.l2]) ?_
    exact evNeg (by omega) hR
  | j + 1, xs, hj, hxn, hrw, hR => by
    have hj1 : Aside0 (wrap64 (((j + 1 : Nat) : Int) - 1) = (j : Int)) := ⟨by rw [w64 (by omega) (by omega)]; omega⟩
    refine Ev.step (fun k => by rw [spec_CirclesOf.l2]) ?_
    rw [hj1.out]
    refine evPos (by omega) (evPos (by omega) (evPos (by omega) (evPos (by omega) (evPos (by omega) ?_))))
    have e1 : rd_L1 xs ((j + 1 : Nat) : Int) = xs.getD (j + 1) [] := rfl
    have e2 : rd_L1 xs (j : Int) = xs.getD j [] := rfl
    rw [e1, e2]
    have m1 := hrw _ (getD_mem [] xs (j + 1) hj)
    have m2 := hrw _ (getD_mem [] xs j (by omega))
    refine Ev.bind (before _ _ (by omega)) ?_
    rw [ins] at hR
    by_cases hb : bef (xs.getD (j + 1) []) (xs.getD j []) = true
    · rw [if_pos hb] at hR
      refine evPos hb ?_
      refine sort_l2 n hn x5 hrow hr4 j _ (by simp; omega) (by simp [hxn]) (fun y hy => ?_) hR
      rcases List.mem_or_eq_of_mem_set hy with h2 | h2
      · rcases List.mem_or_eq_of_mem_set h2 with h3 | h3
        · exact hrw y h3
        · rw [h3]; exact m2
      · rw [h2]; exact m1
    · rw [if_neg hb] at hR
      exact evNeg hb hR
theorem sort_l1 (n : Nat) (hn : n ≤ 100000) (hrow : Nat) (hr4 : hrow ≤ 4611686018427387904) : ∀ (e i : Nat) (xs : List (List Int)), xs.length = n → n - i = e → (∀ y ∈ xs, y.length ≤ hrow) → Ev (fun k => spec_CirclesOf.l1 k xs (i : Int)) (srt bef e i xs)
  | 0, i, xs, hxn, he, hrw => by
    refine Ev.step (fun k => by rw [spec_CirclesOf.l1]) ?_
    exact evNeg (by omega) (Ev.now _)
  | e + 1, i, xs, hxn, he, hrw => by
    have hi1 : wrap64 ((i : Int) + 1) = ((i + 1 : Nat) : Int) := wsucc (n := n) (by omega) (by omega)
    refine Ev.step (fun k => by rw [spec_CirclesOf.l1]) ?_
    refine evPos (by omega) ?_
    refine sort_l2 n hn (i : Int) hrow hr4 i xs (by omega) hxn hrw ?_
    rw [hi1, srt]
    exact sort_l1 n hn hrow hr4 e (i + 1) _ (by rw [ins_len, hxn]) (by omega) (fun y hy => hrw y (ins_mem bef i xs (by omega) hy))
theorem sCircles (h : BookP c d) : Ev (fun k => spec_CirclesOf.f k c d) (circ c d) := by
  have h4 := h.2.1
  unfold spec_CirclesOf.f circ
  have key : ∀ (e i : Nat) (acc : List (List Int)), c.length - i = e → i ≤ c.length → acc.length ≤ i * 625 → acc ++ found c.length d e i = found c.length d c.length 0 → Ev (fun k => spec_CirclesOf.l0 k acc (i : Int) c d) (srt bef ((found c.length d c.length 0).length - 1) 1 (found c.length d c.length 0)) := by
    intro e
    induction e with
    | zero =>
      intro i acc he hi hacc hE
      refine Ev.step (fun k => by rw [spec_CirclesOf.l0]) ?_
      refine evNeg (by omega) (Ev.step (fun k => by rw [spec_CirclesOf.j1]) ?_)
      rw [found, List.append_nil] at hE
      have hfl := found_len h4 d c.length 0
      rw [hE]
      exact sort_l1 (found c.length d c.length 0).length (by omega) c.length (by omega) _ 1 _ rfl rfl (fun y hy => (mem_found h c.length 0 (by omega) hy).1.len)
    | succ e ih =>
      intro i acc he hi hacc hE
      have hlt : i < c.length := by omega
      have hi1 : Aside0 (wrap64 ((i : Int) + 1) = ((i + 1 : Nat) : Int)) := ⟨wsucc hlt (by omega)⟩
      have hPl := P_len h4 d 4 [(i : Int)]
      refine Ev.step (fun k => by rw [spec_CirclesOf.l0]) ?_
      rw [hi1.out]
      refine evPos (by omega) (Ev.bind ((bookOk c d).yes h) (evPos rfl (Ev.bind (paths h 4 _ (PathP.one hlt) (by simp; omega) (by omega)) (evPos (by omega) ?_))))
      refine ih (i + 1) _ (by omega) (by omega) (by rw [List.length_append, Nat.succ_mul]; omega) ?_
      rw [List.append_assoc]
      rw [found] at hE
      exact hE
  exact key c.length 0 [] rfl (by omega) (by simp) (by simp)
end
end Go.Proofs.Ytfooakkhkehpiaa.Cr
namespace Go.Proofs.Ytfooakkhkehpiaa.Sk
open Go.RowKit Go.Proofs.Ytfooakkhkehpiaa.PU Go.Proofs.Ytfooakkhkehpiaa.Qh Go.Proofs.Ytfooakkhkehpiaa.Bk Go.Proofs.Ytfooakkhkehpiaa.Mx Go.Proofs.Ytfooakkhkehpiaa.Cr Go.Proofs.YtfooakkhkehpiaaW.PrintWords Go.Proofs.YtfooakkhkehpiaaW.PrintMore
set_option linter.unusedVariables false
set_option linter.unusedSimpArgs false
theorem mn_le (a b : Int) : mn a b ≤ a ∧ mn a b ≤ b ∧ (mn a b = a ∨ mn a b = b) := by
  unfold mn
  split <;> omega
def nx (q : List Int) (k : Nat) : Nat := (k + 1) % q.length
def edge (d : List (List Int)) (q : List Int) (k : Nat) : Int := rd (rd_L1 d (rd q (k : Int))) (rd q ((nx q k : Nat) : Int))
def low (d : List (List Int)) (q : List Int) : Nat → Nat → Int → Int
  | 0, _, x => x
  | e + 1, k, x => low d q e (k + 1) (mn x (edge d q k))
theorem low_le (d : List (List Int)) (q : List Int) : ∀ (e k : Nat) (x : Int), low d q e k x ≤ x ∧ (∀ i, k ≤ i → i < k + e → low d q e k x ≤ edge d q i) ∧ (low d q e k x = x ∨ ∃ i, k ≤ i ∧ i < k + e ∧ low d q e k x = edge d q i)
  | 0, k, x => ⟨Int.le_refl _, fun i _ _ => by omega, .inl rfl⟩
  | e + 1, k, x => by
    obtain ⟨h1, h2, h3⟩ := low_le d q e (k + 1) (mn x (edge d q k))
    obtain ⟨m1, m2, m3⟩ := mn_le x (edge d q k)
    refine ⟨by rw [low]; omega, fun i hi hi2 => ?_, ?_⟩
    · rw [low]
      by_cases e' : i = k
      · subst e'; omega
      · exact h2 i (by omega) (by omega)
    · rw [low]
      rcases h3 with h3 | ⟨i, i1, i2, i3⟩
      · rcases m3 with m3 | m3
        · left; omega
        · right; exact ⟨k, by omega, by omega, by omega⟩
      · right; exact ⟨i, by omega, by omega, i3⟩
def lowest (d : List (List Int)) (q : List Int) : Int := low d q q.length 0 9
def hit (q : List Int) (k i j : Nat) : Bool := (List.range k).any (fun k' => decide (rd q (k' : Int) = (i : Int) ∧ rd q ((nx q k' : Nat) : Int) = (j : Int)))
theorem hit_iff {q : List Int} {k i j : Nat} : hit q k i j = true ↔ ∃ k', k' < k ∧ rd q (k' : Int) = (i : Int) ∧ rd q ((nx q k' : Nat) : Int) = (j : Int) := by
  unfold hit
  rw [List.any_eq_true]
  constructor
  · rintro ⟨k', h1, h2⟩
    exact ⟨k', List.mem_range.1 h1, (of_decide_eq_true h2).1, (of_decide_eq_true h2).2⟩
  · rintro ⟨k', h1, h2, h3⟩
    exact ⟨k', List.mem_range.2 h1, decide_eq_true ⟨h2, h3⟩⟩
def part (d : List (List Int)) (q : List Int) (k i j : Nat) : Int := if hit q k i j = true then db d i j - lowest d q else db d i j
def struck (c : List Int) (d : List (List Int)) (q : List Int) : List (List Int) := mk c.length (part d q q.length)
section
variable {c : List Int} {d : List (List Int)} {q : List Int}
theorem nx_lt {q : List Int} (h : 0 < q.length) (k : Nat) : nx q k < q.length := Nat.mod_lt _ h
theorem cir_at (hq : CirP c.length d q) {k : Nat} (hk : k < q.length) : 0 ≤ rd q (k : Int) ∧ rd q (k : Int) < (c.length : Int) := by
  have := hq.1.2.2.1 _ (rd_mem hk)
  exact ⟨this.2.1, this.2.2⟩
theorem cir_inj (hq : CirP c.length d q) {k l : Nat} (hk : k < q.length) (hl : l < q.length) (h : rd q (k : Int) = rd q (l : Int)) : k = l := by
  rw [rd_get q k hk, rd_get q l hl] at h
  exact (List.getElem_inj hq.1.2.1).1 h
theorem nx_ne (hq : CirP c.length d q) {k : Nat} (hk : k < q.length) : nx q k ≠ k := by
  have := hq.2.1
  unfold nx
  by_cases h : k + 1 = q.length
  · rw [h, Nat.mod_self]; omega
  · rw [Nat.mod_eq_of_lt (by omega)]; omega
theorem edge_pos (hq : CirP c.length d q) {k : Nat} (hk : k < q.length) : 0 < edge d q k := by
  unfold edge nx
  by_cases h : k + 1 = q.length
  · rw [h, Nat.mod_self]
    have : k = q.length - 1 := by omega
    rw [this]
    exact hq.2.2
  · rw [Nat.mod_eq_of_lt (by omega)]
    exact hq.1.2.2.2 k (by omega)
theorem edge_le (h : BookP c d) (hq : CirP c.length d q) {k : Nat} (hk : k < q.length) : edge d q k ≤ 9 :=
  (row_ge h (cir_at hq hk) (cir_at hq (nx_lt hq.1.1 k))).2
theorem lowest_pos (hq : CirP c.length d q) : 1 ≤ lowest d q := by
  have h0 := hq.1.1
  rcases (low_le d q q.length 0 9).2.2 with h | ⟨i, _, h2, h3⟩
  · unfold lowest; omega
  · have := edge_pos hq (k := i) (by omega)
    unfold lowest; omega
theorem lowest_le (hq : CirP c.length d q) {k : Nat} (hk : k < q.length) : lowest d q ≤ edge d q k := (low_le d q q.length 0 9).2.1 k (by omega) (by omega)
theorem lowest_at (h : BookP c d) (hq : CirP c.length d q) : ∃ k, k < q.length ∧ lowest d q = edge d q k := by
  rcases (low_le d q q.length 0 9).2.2 with h1 | ⟨i, _, h2, h3⟩
  · have a := lowest_le hq hq.1.1
    have b := edge_le h hq hq.1.1
    have e : lowest d q = 9 := h1
    exact ⟨0, hq.1.1, by omega⟩
  · exact ⟨i, by omega, h3⟩
theorem hit_edge (hq : CirP c.length d q) {k i j : Nat} (hk : k ≤ q.length) (h : hit q k i j = true) : lowest d q ≤ db d i j ∧ i ≠ j := by
  obtain ⟨k', h1, h2, h3⟩ := hit_iff.1 h
  have hk' : k' < q.length := by omega
  have := lowest_le hq hk'
  refine ⟨?_, fun e => ?_⟩
  · unfold edge at this
    rw [h2, h3] at this
    exact this
  · rw [← e, ← h2] at h3
    exact nx_ne hq hk' (cir_inj hq (nx_lt hq.1.1 k') hk' h3)
theorem part_bd (h : BookP c d) (hq : CirP c.length d q) {k i j : Nat} (hk : k ≤ q.length) (hi : i < c.length) (hj : j < c.length) : 0 ≤ part d q k i j ∧ part d q k i j ≤ db d i j := by
  have hb := (h.2.2.2 i hi).2.2.2.2 j hj
  have hp := lowest_pos hq
  unfold part
  by_cases hh : hit q k i j = true
  · rw [if_pos hh]
    have := (hit_edge hq hk hh).1
    omega
  · rw [if_neg hh]; exact ⟨hb.1, Int.le_refl _⟩
theorem struck_get {i j : Nat} (hi : i < c.length) (hj : j < c.length) : db (struck c d q) i j = part d q q.length i j := by
  show rd (rd_L1 (mk c.length (part d q q.length)) (i : Int)) (j : Int) = _
  rw [mk_get hi, rd_rowF hj]
theorem struck_ok (h : BookP c d) (hq : CirP c.length d q) : BookP c (struck c d q) := by
  refine ⟨h.1, h.2.1, mk_len _ _, fun i hi => ?_⟩
  have hc := h.2.2.2 i hi
  refine ⟨hc.1, hc.2.1, ?_, ?_, fun j hj => ?_⟩
  · show (rd_L1 (mk c.length (part d q q.length)) (i : Int)).length = _
    rw [mk_get hi, rowF_len]
  · refine (struck_get hi hi).trans ?_
    unfold part
    rw [if_neg (fun z => (hit_edge hq (Nat.le_refl _) z).2 rfl)]
    exact hc.2.2.2.1
  · have h1 := struck_get (c := c) (d := d) (q := q) hi hj
    have h2 := part_bd h hq (Nat.le_refl _) hi hj
    have h3 := hc.2.2.2.2 j hj
    show 0 ≤ db (struck c d q) i j ∧ db (struck c d q) i j ≤ 9
    have h4 : db d i j ≤ 9 := h3.2
    rw [h1]; omega
theorem ki (q : List Int) (k : Nat) (h : k < q.length) (hq : q.length ≤ 4) : wrap64 ((k : Int) + 1) = ((k + 1 : Nat) : Int) := wsucc h (by omega)
theorem tm (q : List Int) (k : Nat) : Int.tmod ((k + 1 : Nat) : Int) (q.length : Int) = ((nx q k : Nat) : Int) := by
  unfold nx
  rw [Int.tmod_eq_emod_of_nonneg (by omega)]
  rfl
theorem st_l0 (h : BookP c d) (hq : CirP c.length d q) {r : List Int × List (List Int)} (hR : Ev (fun k => spec_l3Struck.l1 k q (lowest d q) 0 c d c d) r) : ∀ (e k : Nat) (x : Int), q.length - k = e → k ≤ q.length → low d q e k x = lowest d q → Ev (fun n => spec_l3Struck.l0 n q x (k : Int) c d c d) r := by
  have h4 := h.2.1
  have hdl := h.2.2.1
  have hql := hq.1.len
  have hq0 := hq.1.1
  intro e
  induction e with
  | zero =>
    intro k x he hk hx
    refine Ev.step (fun n => by rw [spec_l3Struck.l0]) ?_
    refine evNeg (by omega) ?_
    rw [low] at hx
    rw [hx]
    exact hR
  | succ e ih =>
    intro k x he hk hx
    have hlt : k < q.length := by omega
    have hk1 : Aside0 (wrap64 ((k : Int) + 1) = ((k + 1 : Nat) : Int)) := ⟨ki q k hlt (by omega)⟩
    have htm : Aside0 (Int.tmod ((k + 1 : Nat) : Int) (q.length : Int) = ((nx q k : Nat) : Int)) := ⟨tm q k⟩
    have a1 := cir_at hq hlt
    have a2 := cir_at hq (nx_lt hq0 k)
    have hn := nx_lt hq0 k
    have hrl := row_len h a1
    refine Ev.step (fun n => by rw [spec_l3Struck.l0]) ?_
    rw [hk1.out, htm.out]
    refine evPos (by omega) (evPos (by omega) (evPos a1.1 (evPos (by omega) (evNeg (by omega) (evPos (by omega) (evPos (by omega) (evPos a2.1 (evPos (by omega) ?_))))))))
    exact ih (k + 1) _ (by omega) (by omega) (by rw [low] at hx; exact hx)
theorem st_l1 (h : BookP c d) (hq : CirP c.length d q) : ∀ (e k : Nat), q.length - k = e → k ≤ q.length → Ev (fun n => spec_l3Struck.l1 n q (lowest d q) (k : Int) c d c (mk c.length (part d q k))) (c, struck c d q) := by
  have h4 := h.2.1
  have hdl := h.2.2.1
  have hql := hq.1.len
  have hq0 := hq.1.1
  intro e
  induction e with
  | zero =>
    intro k he hk
    refine Ev.step (fun n => by rw [spec_l3Struck.l1]) ?_
    have : k = q.length := by omega
    subst this
    exact evNeg (by omega) (Ev.now _)
  | succ e ih =>
    intro k he hk
    have hlt : k < q.length := by omega
    have hk1 : Aside0 (wrap64 ((k : Int) + 1) = ((k + 1 : Nat) : Int)) := ⟨ki q k hlt (by omega)⟩
    have htm : Aside0 (Int.tmod ((k + 1 : Nat) : Int) (q.length : Int) = ((nx q k : Nat) : Int)) := ⟨tm q k⟩
    have a1 := cir_at hq hlt
    have a2 := cir_at hq (nx_lt hq0 k)
    have hn := nx_lt hq0 k
    have hrl := row_len h a1
    have hml := mk_len c.length (part d q k)
    have hle := lowest_le hq hlt
    have hlp := lowest_pos hq
    have hee := edge_le h hq hlt
    obtain ⟨a, ha⟩ := Int.eq_ofNat_of_zero_le a1.1
    obtain ⟨b, hb⟩ := Int.eq_ofNat_of_zero_le a2.1
    have hac : a < c.length := by omega
    have hbc : b < c.length := by omega
    have hmr : (rd_L1 (mk c.length (part d q k)) (rd q (k : Int))).length = c.length := by rw [ha, mk_get hac, rowF_len]
    have hw : Aside0 (wrap64 (rd (rd_L1 d (rd q (k : Int))) (rd q ((nx q k : Nat) : Int)) - lowest d q) = db d a b - lowest d q) := ⟨by
      have e1 : rd (rd_L1 d (rd q (k : Int))) (rd q ((nx q k : Nat) : Int)) = edge d q k := rfl
      rw [e1, w64 (by omega) (by omega)]
      have e2 : edge d q k = db d a b := by unfold edge; rw [ha, hb]
      rw [e2]⟩
    refine Ev.step (fun n => by rw [spec_l3Struck.l1]) ?_
    rw [hk1.out, htm.out]
    refine evPos (by omega) (evPos (by omega) (evNeg (by omega) (evPos (by omega) (evPos (by omega) (evPos a1.1 (evPos (by omega) (evPos (by omega) (evPos a2.1 (evPos (by omega) (evPos (by omega) ?_))))))))))
    rw [hw.out, ha, hb, Int.toNat_natCast, Int.toNat_natCast, mk_set hac hbc]
    have : mk c.length (fun i' j' => if i' = a ∧ j' = b then db d a b - lowest d q else part d q k i' j') = mk c.length (part d q (k + 1)) := mk_congr (fun i hi j hj => by
      by_cases z : i = a ∧ j = b
      · rw [if_pos z]
        unfold part
        rw [if_pos (hit_iff.2 ⟨k, by omega, by rw [ha, z.1], by rw [hb, z.2]⟩), z.1, z.2]
      · rw [if_neg z]
        unfold part
        have : hit q (k + 1) i j = hit q k i j := by
          rw [Bool.eq_iff_iff, hit_iff, hit_iff]
          constructor
          · rintro ⟨k', h1, h2, h3⟩
            by_cases e' : k' = k
            · subst e'
              rw [ha] at h2; rw [hb] at h3
              exact absurd ⟨by omega, by omega⟩ z
            · exact ⟨k', by omega, h2, h3⟩
          · rintro ⟨k', h1, h2⟩
            exact ⟨k', by omega, h2⟩
        rw [this])
    rw [this]
    exact ih (k + 1) (by omega) (by omega)
theorem sStruck (h : BookP c d) (hq : CirP c.length d q) : Ev (fun k => spec_l3Struck.f k c d q) (c, struck c d q) := by
  unfold spec_l3Struck.f
  refine Ev.bind (scopy h) (st_l0 h hq ?_ q.length 0 9 rfl (by omega) rfl)
  have := st_l1 h hq q.length 0 rfl (by omega)
  have e : mk c.length (part d q 0) = d := (mk_congr (fun i _ j _ => by unfold part hit; simp)).trans (mk_of h).symm
  rw [e] at this
  exact this
def s1 (f : Nat → Int) : Nat → Int
  | 0 => 0
  | m + 1 => s1 f m + f m
theorem s1_le {f g : Nat → Int} : ∀ m : Nat, (∀ i, i < m → f i ≤ g i) → s1 f m ≤ s1 g m
  | 0, _ => Int.le_refl _
  | m + 1, h => by
    have := s1_le m (fun i hi => h i (by omega))
    have := h m (by omega)
    simp only [s1]; omega
theorem s1_lt {f g : Nat → Int} : ∀ m : Nat, (∀ i, i < m → f i ≤ g i) → (∃ i, i < m ∧ f i < g i) → s1 f m < s1 g m
  | 0, _, ⟨i, hi, _⟩ => by omega
  | m + 1, h, ⟨i, hi, hl⟩ => by
    have h1 := s1_le m (fun i hi => h i (by omega))
    have h2 := h m (by omega)
    simp only [s1]
    by_cases e : i = m
    · subst e; omega
    · have := s1_lt m (fun i hi => h i (by omega)) ⟨i, by omega, hl⟩
      omega
def tot (c : List Int) (d : List (List Int)) : Int := s1 (fun i => s1 (db d i) c.length) c.length
theorem struck_less (h : BookP c d) (hq : CirP c.length d q) : tot c (struck c d q) < tot c d := by
  have hb : ∀ i, i < c.length → ∀ j, j < c.length → db (struck c d q) i j ≤ db d i j := fun i hi j hj => by
    rw [struck_get hi hj]; exact (part_bd h hq (Nat.le_refl _) hi hj).2
  have h0 := hq.1.1
  have a1 := cir_at hq h0
  have a2 := cir_at hq (nx_lt h0 0)
  obtain ⟨a, ha⟩ := Int.eq_ofNat_of_zero_le a1.1
  obtain ⟨b, hb2⟩ := Int.eq_ofNat_of_zero_le a2.1
  have hlp := lowest_pos hq
  refine s1_lt c.length (fun i hi => s1_le c.length (hb i hi)) ⟨a, by omega, s1_lt c.length (hb a (by omega)) ⟨b, by omega, ?_⟩⟩
  rw [struck_get (by omega) (by omega)]
  unfold part
  rw [if_pos (hit_iff.2 ⟨0, h0, ha, hb2⟩)]
  omega
end
end Go.Proofs.Ytfooakkhkehpiaa.Sk
namespace Go.Proofs.Ytfooakkhkehpiaa.Sn
open Go.RowKit Go.Proofs.Ytfooakkhkehpiaa.PU Go.Proofs.Ytfooakkhkehpiaa.Qh Go.Proofs.Ytfooakkhkehpiaa.Bk Go.Proofs.Ytfooakkhkehpiaa.Mx Go.Proofs.Ytfooakkhkehpiaa.Ow Go.Proofs.Ytfooakkhkehpiaa.Cr Go.Proofs.Ytfooakkhkehpiaa.Sk Go.Proofs.YtfooakkhkehpiaaW.PrintWords Go.Proofs.YtfooakkhkehpiaaW.PrintMore
set_option linter.unusedVariables false
set_option linter.unusedSimpArgs false
open Go.Proofs.Ytfooakkhkehpiaa.Ne (nt cs)
variable {c : List Int} {d d' : List (List Int)} {q : List Int}
theorem cs_s1 (d : List (List Int)) (j : Nat) : ∀ m : Nat, cs d m j = s1 (fun i => db d i j) m
  | 0 => rfl
  | m + 1 => by simp only [cs, s1]; rw [cs_s1 d j m]
theorem sm_s1 (xs : List Int) : ∀ m : Nat, sm xs m = s1 (fun i => rd xs (i : Int)) m
  | 0 => rfl
  | m + 1 => by simp only [sm, s1]; rw [sm_s1 xs m]
theorem ow_s1 (c : List Int) (d : List (List Int)) (j : Nat) : ow c d j = s1 (db d j) c.length := sm_s1 _ _
theorem s1_congr {f g : Nat → Int} : ∀ m : Nat, (∀ i, i < m → f i = g i) → s1 f m = s1 g m
  | 0, _ => rfl
  | m + 1, h => by simp only [s1]; rw [s1_congr m (fun i hi => h i (by omega)), h m (by omega)]
theorem all_tot (c : List Int) (d : List (List Int)) : sm (owes c d) c.length = tot c d := by
  rw [sm_s1]
  unfold tot
  exact s1_congr _ (fun i hi => by rw [rd_owes hi, ow_s1])
theorem s1_one {f g : Nat → Int} {a : Nat} {v : Int} : ∀ m : Nat, (∀ i, i < m → g i = f i - (if i = a then v else 0)) → s1 g m = s1 f m - (if a < m then v else 0)
  | 0, _ => by simp [s1]
  | m + 1, h => by
    have h1 := s1_one m (fun i hi => h i (by omega))
    have h2 := h m (by omega)
    simp only [s1]
    rw [h1, h2]
    by_cases e : m = a
    · subst e; rw [if_pos rfl, if_neg (by omega), if_pos (by omega)]; omega
    · rw [if_neg e]
      by_cases y : a < m
      · rw [if_pos y, if_pos (by omega)]; omega
      · rw [if_neg y, if_neg (by omega)]; omega
def pv (q : List Int) (k : Nat) : Nat := if k = 0 then q.length - 1 else k - 1
theorem pv_nx {k : Nat} (hq : 1 < q.length) (hk : k < q.length) : pv q k < q.length ∧ nx q (pv q k) = k ∧ ∀ k', k' < q.length → nx q k' = k → k' = pv q k := by
  unfold pv nx
  by_cases h : k = 0
  · rw [if_pos h]
    refine ⟨by omega, ?_, fun k' h1 h2 => ?_⟩
    · rw [show q.length - 1 + 1 = q.length by omega, Nat.mod_self]; omega
    · by_cases e : k' + 1 = q.length
      · omega
      · rw [Nat.mod_eq_of_lt (by omega)] at h2; omega
  · rw [if_neg h]
    refine ⟨by omega, ?_, fun k' h1 h2 => ?_⟩
    · rw [show k - 1 + 1 = k by omega, Nat.mod_eq_of_lt hk]
    · by_cases e : k' + 1 = q.length
      · rw [e, Nat.mod_self] at h2; omega
      · rw [Nat.mod_eq_of_lt (by omega)] at h2; omega
theorem nt_struck (hq : CirP c.length d q) {j : Nat} (hj : j < c.length) : nt c (struck c d q) j = nt c d j := by
  have hq0 := hq.1.1
  unfold nt
  rw [cs_s1, cs_s1, ow_s1, ow_s1]
  by_cases hm : ∃ k, k < q.length ∧ rd q (k : Int) = (j : Int)
  · obtain ⟨k, hk, hkj⟩ := hm
    obtain ⟨p1, p2, p3⟩ := pv_nx hq.2.1 hk
    have a1 := cir_at hq p1
    have a2 := cir_at hq (nx_lt hq0 k)
    obtain ⟨a, ha⟩ := Int.eq_ofNat_of_zero_le a1.1
    obtain ⟨b, hb⟩ := Int.eq_ofNat_of_zero_le a2.1
    have e1 : s1 (fun i => db (struck c d q) i j) c.length = s1 (fun i => db d i j) c.length - (if a < c.length then lowest d q else 0) := s1_one _ (fun i hi => by
      rw [struck_get hi hj]
      unfold Sk.part
      by_cases z : i = a
      · rw [if_pos (hit_iff.2 ⟨pv q k, p1, by rw [ha, z], by rw [p2, hkj]⟩), if_pos z]
      · rw [if_neg z, if_neg (fun y => by
          obtain ⟨k', h1, h2, h3⟩ := hit_iff.1 y
          have e3 := cir_inj hq (nx_lt hq0 k') hk (by rw [h3, hkj])
          have e4 := p3 k' h1 e3
          rw [e4, ha] at h2
          omega)]
        omega)
    have e2 : s1 (db (struck c d q) j) c.length = s1 (db d j) c.length - (if b < c.length then lowest d q else 0) := s1_one _ (fun i hi => by
      rw [struck_get hj hi]
      unfold Sk.part
      by_cases z : i = b
      · rw [if_pos (hit_iff.2 ⟨k, hk, hkj, by rw [hb, z]⟩), if_pos z]
      · rw [if_neg z, if_neg (fun y => by
          obtain ⟨k', h1, h2, h3⟩ := hit_iff.1 y
          have e3 := cir_inj hq h1 hk (by rw [h2, hkj])
          rw [e3, hb] at h3
          omega)]
        omega)
    rw [e1, e2, if_pos (by omega), if_pos (by omega)]
    omega
  · have no : ∀ k', k' < q.length → rd q (k' : Int) ≠ (j : Int) := fun k' h1 h2 => hm ⟨k', h1, h2⟩
    rw [s1_congr (f := fun i => db (struck c d q) i j) (g := fun i => db d i j) _ (fun i hi => by
      rw [struck_get hi hj]
      unfold Sk.part
      rw [if_neg (fun y => by
        obtain ⟨k', h1, h2, h3⟩ := hit_iff.1 y
        exact no _ (nx_lt hq0 k') h3)])]
    rw [s1_congr (f := db (struck c d q) j) (g := db d j) _ (fun i hi => by
      rw [struck_get hj hi]
      unfold Sk.part
      rw [if_neg (fun y => by
        obtain ⟨k', h1, h2, h3⟩ := hit_iff.1 y
        exact no _ h1 h2)])]
theorem nets_struck (hq : CirP c.length d q) : rowF c.length (nt c (struck c d q)) = rowF c.length (nt c d) := rowF_congr (fun _ hj => nt_struck hq hj)
def Lev (d' d : List (List Int)) : Prop := ∀ x y : Int, rd (rd_L1 d' x) y ≠ 0 → 0 < rd (rd_L1 d x) y
theorem rest_sub (h : Lev d' d) {F' F : List Int → List (List Int)} (hF : ∀ p, (F' p).Sublist (F p)) (p : List Int) : ∀ (e j : Nat), (rest F' d' p e j).Sublist (rest F d p e j)
  | 0, _ => List.Sublist.refl _
  | e + 1, j => by
    rw [rest, rest]
    refine List.Sublist.append ?_ (rest_sub h hF p e (j + 1))
    by_cases z : rd (rd_L1 d' (la p)) (j : Int) = 0 ∨ (j : Int) ∈ p
    · rw [if_pos z]; exact List.nil_sublist _
    · have := h (la p) (j : Int) (fun y => z (.inl y))
      rw [if_neg z, if_neg (fun y => y.elim (fun w => by omega) (fun w => z (.inr w)))]
      exact hF _
theorem self_sub (h : Lev d' d) (p : List Int) : (self d' p).Sublist (self d p) := by
  unfold self
  by_cases z : 1 < p.length ∧ 0 < rd (rd_L1 d' (la p)) (rd p 0)
  · rw [if_pos z, if_pos ⟨z.1, h _ _ (by omega)⟩]; exact List.Sublist.refl _
  · rw [if_neg z]; exact List.nil_sublist _
theorem P_sub (h : Lev d' d) (n : Nat) : ∀ (m : Nat) (p : List Int), (P n d' m p).Sublist (P n d m p)
  | 0, _ => List.Sublist.refl _
  | m + 1, p => by
    rw [P, P]
    exact List.Sublist.append (self_sub h p) (rest_sub h (P_sub h n m) p _ _)
theorem found_sub (h : Lev d' d) (n : Nat) : ∀ (e i : Nat), (found n d' e i).Sublist (found n d e i)
  | 0, _ => List.Sublist.refl _
  | e + 1, i => by
    rw [found, found]
    exact List.Sublist.append (P_sub h n 4 _) (found_sub h n e (i + 1))
theorem lev_of {c : List Int} {d d' : List (List Int)} (h : BookP c d) (h' : BookP c d') (hl : ∀ i, i < c.length → ∀ j, j < c.length → db d' i j ≤ db d i j) : Lev d' d := by
  intro x y hz
  have e1 : ∀ D : List (List Int), rd (rd_L1 D x) y = db D x.toNat y.toNat := fun D => rfl
  rw [e1] at hz ⊢
  by_cases hi : x.toNat < c.length
  · by_cases hj : y.toNat < c.length
    · have h1 := hl _ hi _ hj
      have h2 := ((h'.2.2.2 _ hi).2.2.2.2 _ hj).1
      have h3 : 0 ≤ db d' x.toNat y.toNat := h2
      omega
    · refine absurd ?_ hz
      have hr := (h'.2.2.2 _ hi).2.2.1
      have e2 : db d' x.toNat y.toNat = (rd_L1 d' (x.toNat : Int)).getD y.toNat 0 := rfl
      rw [e2, List.getD_eq_getElem?_getD, List.getElem?_eq_none (by omega)]; rfl
  · refine absurd ?_ hz
    have e2 : rd_L1 d' (x.toNat : Int) = [] := by
      rw [rL, List.getD_eq_getElem?_getD, List.getElem?_eq_none (by have := h'.2.2.1; omega)]; rfl
    show rd (rd_L1 d' (x.toNat : Int)) _ = 0
    rw [e2]; rfl
theorem struck_le (h : BookP c d) (hq : CirP c.length d q) : ∀ i, i < c.length → ∀ j, j < c.length → db (struck c d q) i j ≤ db d i j := fun i hi j hj => by
  rw [struck_get hi hj]; exact (part_bd h hq (Nat.le_refl _) hi hj).2
theorem not_cir (h : BookP c d) (hq : CirP c.length d q) : ¬ CirP c.length (struck c d q) q := fun hs => by
  obtain ⟨k, hk, hle⟩ := lowest_at h hq
  have h1 := edge_pos hs hk
  have a1 := cir_at hq hk
  have a2 := cir_at hq (nx_lt hq.1.1 k)
  obtain ⟨a, ha⟩ := Int.eq_ofNat_of_zero_le a1.1
  obtain ⟨b, hb⟩ := Int.eq_ofNat_of_zero_le a2.1
  unfold edge at h1 hle
  rw [ha, hb] at h1 hle
  have h2 : db (struck c d q) a b = Sk.part d q q.length a b := struck_get (by omega) (by omega)
  have h3 : Sk.part d q q.length a b = db d a b - lowest d q := if_pos (hit_iff.2 ⟨k, hk, ha, hb⟩)
  have h4 : 0 < db (struck c d q) a b := h1
  have h5 : lowest d q = db d a b := hle
  omega
theorem found_mem (hy : q ∈ circ c d) : q ∈ found c.length d c.length 0 := by
  by_cases h0 : (found c.length d c.length 0).length = 0
  · have := circ_len c d
    rw [h0, List.length_eq_zero_iff] at this
    rw [this] at hy; simp at hy
  · exact srt_mem bef _ 1 _ (by omega) hy
theorem fewer (h : BookP c d) (hy : q ∈ circ c d) : (circ c (struck c d q)).length < (circ c d).length := by
  have hq := mem_circ h hy
  have hs := struck_ok h hq
  rw [circ_len, circ_len]
  have hsub := found_sub (lev_of h hs (struck_le h hq)) c.length c.length 0
  have hle := hsub.length_le
  rcases Nat.lt_or_ge (found c.length (struck c d q) c.length 0).length (found c.length d c.length 0).length with h1 | h1
  · exact h1
  · have he := hsub.eq_of_length (by omega)
    have hm := found_mem hy
    rw [← he] at hm
    exact absurd (mem_found hs c.length 0 (by omega) hm) (not_cir h hq)
end Go.Proofs.Ytfooakkhkehpiaa.Sn
namespace Go.Proofs.Ytfooakkhkehpiaa.Si
open Go.RowKit Go.Proofs.Ytfooakkhkehpiaa.PU Go.Proofs.Ytfooakkhkehpiaa.Qh Go.Proofs.Ytfooakkhkehpiaa.Bk Go.Proofs.Ytfooakkhkehpiaa.Mx Go.Proofs.Ytfooakkhkehpiaa.Cr Go.Proofs.Ytfooakkhkehpiaa.Sk Go.Proofs.YtfooakkhkehpiaaW.PrintWords Go.Proofs.YtfooakkhkehpiaaW.PrintMore
set_option linter.unusedVariables false
set_option linter.unusedSimpArgs false
variable {c : List Int} {d : List (List Int)} {q : List Int}
theorem is_l0 (h : BookP c d) (hq : CirP c.length d q) {r : List Int × List (List Int)} (hR : Ev (fun k => impl_struckOut.l1 k q (lowest d q) q (q.length : Int) 0 c d) r) : ∀ (e k : Nat) (x : Int), q.length - k = e → k ≤ q.length → low d q e k x = lowest d q → Ev (fun n => impl_struckOut.l0 n q x q (q.length : Int) (k : Int) c d c d) r := by
  have h4 := h.2.1
  have hdl := h.2.2.1
  have hql := hq.1.len
  have hq0 := hq.1.1
  intro e
  induction e with
  | zero =>
    intro k x he hk hx
    refine Ev.step (fun n => by rw [impl_struckOut.l0]) ?_
    refine evNeg (by omega) ?_
    rw [low] at hx
    rw [hx]
    exact hR
  | succ e ih =>
    intro k x he hk hx
    have hlt : k < q.length := by omega
    have hk1 : Aside0 (wrap64 ((k : Int) + 1) = ((k + 1 : Nat) : Int)) := ⟨ki q k hlt (by omega)⟩
    have htm : Aside0 (Int.tmod ((k + 1 : Nat) : Int) (q.length : Int) = ((nx q k : Nat) : Int)) := ⟨tm q k⟩
    have a1 := cir_at hq hlt
    have a2 := cir_at hq (nx_lt hq0 k)
    have hn := nx_lt hq0 k
    have hrl := row_len h a1
    refine Ev.step (fun n => by rw [impl_struckOut.l0]) ?_
    rw [hk1.out, htm.out]
    refine evPos (by omega) (evPos (by omega) (evPos (by omega) (evPos a1.1 (evPos (by omega) (evNeg (by omega) (evPos (by omega) (evPos (by omega) (evPos a2.1 (evPos (by omega) ?_)))))))))
    exact ih (k + 1) _ (by omega) (by omega) (by rw [low] at hx; exact hx)
theorem is_l1 (h : BookP c d) (hq : CirP c.length d q) : ∀ (e k : Nat), q.length - k = e → k ≤ q.length → Ev (fun n => impl_struckOut.l1 n q (lowest d q) q (q.length : Int) (k : Int) c (mk c.length (Sk.part d q k))) (c, struck c d q) := by
  have h4 := h.2.1
  have hdl := h.2.2.1
  have hql := hq.1.len
  have hq0 := hq.1.1
  intro e
  induction e with
  | zero =>
    intro k he hk
    refine Ev.step (fun n => by rw [impl_struckOut.l1]) ?_
    have : k = q.length := by omega
    subst this
    exact evNeg (by omega) (Ev.now _)
  | succ e ih =>
    intro k he hk
    have hlt : k < q.length := by omega
    have hk1 : Aside0 (wrap64 ((k : Int) + 1) = ((k + 1 : Nat) : Int)) := ⟨ki q k hlt (by omega)⟩
    have htm : Aside0 (Int.tmod ((k + 1 : Nat) : Int) (q.length : Int) = ((nx q k : Nat) : Int)) := ⟨tm q k⟩
    have a1 := cir_at hq hlt
    have a2 := cir_at hq (nx_lt hq0 k)
    have hn := nx_lt hq0 k
    have hml := mk_len c.length (Sk.part d q k)
    have hle := lowest_le hq hlt
    have hlp := lowest_pos hq
    have hee := edge_le h hq hlt
    obtain ⟨a, ha⟩ := Int.eq_ofNat_of_zero_le a1.1
    obtain ⟨b, hb⟩ := Int.eq_ofNat_of_zero_le a2.1
    have hac : a < c.length := by omega
    have hbc : b < c.length := by omega
    have hmr : (rd_L1 (mk c.length (Sk.part d q k)) (rd q (k : Int))).length = c.length := by rw [ha, mk_get hac, rowF_len]
    have hnot : ¬ hit q k a b = true := fun z => by
      obtain ⟨k', h1, h2, _⟩ := hit_iff.1 z
      have := cir_inj hq (show k' < q.length by omega) hlt (by rw [h2, ha])
      omega
    have hw : Aside0 (wrap64 (rd (rd_L1 (mk c.length (Sk.part d q k)) (rd q (k : Int))) (rd q ((nx q k : Nat) : Int)) - lowest d q) = db d a b - lowest d q) := ⟨by
      have e2 : edge d q k = db d a b := by unfold edge; rw [ha, hb]
      rw [ha, hb, mk_get hac, rd_rowF hbc]
      have e3 : Sk.part d q k a b = db d a b := if_neg hnot
      rw [e3, ← e2, w64 (by omega) (by omega)]⟩
    refine Ev.step (fun n => by rw [impl_struckOut.l1]) ?_
    rw [hk1.out, htm.out]
    refine evPos (by omega) (evPos (by omega) (evPos (by omega) (evPos a1.1 (evPos (by omega) (evNeg (by omega) (evPos (by omega) (evPos (by omega) (evPos a2.1 (evPos (by omega) ?_)))))))))
    rw [hw.out, ha, hb, Int.toNat_natCast, Int.toNat_natCast, mk_set hac hbc]
    have : mk c.length (fun i' j' => if i' = a ∧ j' = b then db d a b - lowest d q else Sk.part d q k i' j') = mk c.length (Sk.part d q (k + 1)) := mk_congr (fun i hi j hj => by
      by_cases z : i = a ∧ j = b
      · rw [if_pos z]
        unfold Sk.part
        rw [if_pos (hit_iff.2 ⟨k, by omega, by rw [ha, z.1], by rw [hb, z.2]⟩), z.1, z.2]
      · rw [if_neg z]
        unfold Sk.part
        have : hit q (k + 1) i j = hit q k i j := by
          rw [Bool.eq_iff_iff, hit_iff, hit_iff]
          constructor
          · rintro ⟨k', h1, h2, h3⟩
            by_cases e' : k' = k
            · subst e'
              rw [ha] at h2; rw [hb] at h3
              exact absurd ⟨by omega, by omega⟩ z
            · exact ⟨k', by omega, h2, h3⟩
          · rintro ⟨k', h1, h2⟩
            exact ⟨k', by omega, h2⟩
        rw [this])
    rw [this]
    exact ih (k + 1) (by omega) (by omega)
theorem iStruck (h : BookP c d) (hq : CirP c.length d q) : Ev (fun k => impl_struckOut.f k c d q) (c, struck c d q) := by
  unfold impl_struckOut.f
  refine Ev.bind (icopy h) (is_l0 h hq ?_ q.length 0 9 rfl (by omega) rfl)
  have := is_l1 h hq q.length 0 rfl (by omega)
  have e : mk c.length (Sk.part d q 0) = d := (mk_congr (fun i _ j _ => by unfold Sk.part hit; simp)).trans (mk_of h).symm
  rw [e] at this
  exact this
end Go.Proofs.Ytfooakkhkehpiaa.Si
namespace Go.Proofs.Ytfooakkhkehpiaa.Cq
open Go.RowKit Go.Proofs.Ytfooakkhkehpiaa.PU Go.Proofs.Ytfooakkhkehpiaa.Qh Go.Proofs.Ytfooakkhkehpiaa.Bk Go.Proofs.Ytfooakkhkehpiaa.Mx Go.Proofs.Ytfooakkhkehpiaa.Cr Go.Proofs.YtfooakkhkehpiaaW.PrintWords Go.Proofs.YtfooakkhkehpiaaW.PrintMore
set_option linter.unusedVariables false
set_option linter.unusedSimpArgs false
open Go.Proofs.Ytfooakkhkehpiaa.PU.Circ (walkI rowI stepI lastI foundI cmpI lexc cmpl insL srtL)
variable {c : List Int} {d : List (List Int)}
theorem row_lead {F : List Int → List (List Int)} {p row : List Int} {n a : Nat} (ha : rd p 0 = (a : Int)) (han : a < n) : ∀ (e j : Nat), j + e = n → j ≤ a → rowI F p row e j = rowI F p row (n - a) a
  | 0, j, he, hj => by omega
  | e + 1, j, he, hj => by
    by_cases h : j = a
    · subst h
      have : n - j = e + 1 := by omega
      rw [this]
    · rw [rowI]
      have hs : stepI F p row j = [] := by unfold stepI; rw [if_pos (.inr (by rw [ha]; omega))]
      rw [hs, List.nil_append]
      exact row_lead ha han e (j + 1) (by omega) (by omega)
theorem walk_eq (h : BookP c d) : ∀ (m m' : Nat) (p : List Int), PathP c.length d p → c.length < m + p.length → c.length < m' + p.length → walkI d m p = P c.length d m' p
  | 0, _, p, hp, hm, _ => by have := hp.len; omega
  | _, 0, p, hp, _, hm => by have := hp.len; omega
  | m + 1, m' + 1, p, hp, hm, hm' => by
    have hh := hp.head
    have hl := hp.last
    have hrl := row_len h hl
    obtain ⟨a, ha⟩ := Int.eq_ofNat_of_zero_le hh.1
    have han : a < c.length := by omega
    have e1 : d.getD (lastI p).toNat [] = rd_L1 d (la p) := rfl
    rw [walkI, P, e1, hrl, row_lead ha han c.length 0 (by omega) (by omega)]
    have e2 : c.length - a = (c.length - (a + 1)) + 1 := by omega
    rw [e2, rowI]
    have ha' : (rd p 0).toNat = a := by rw [ha]; rfl
    rw [ha']
    have s0 : stepI (walkI d m) p (rd_L1 d (la p)) a = self d p := by
      unfold stepI self
      have hge := row_ge h hl (j := (a : Int)) ⟨by omega, by omega⟩
      rw [ha]
      by_cases hz : rd (rd_L1 d (la p)) (a : Int) = 0
      · rw [if_pos (.inl hz), if_neg (fun z => by have := z.2; omega)]
      · rw [if_neg (fun z => z.elim hz (fun y => by omega)), if_pos rfl]
        have h1 : 1 < p.length := by
          apply Classical.byContradiction
          intro h1
          have hp0 := hp.1
          have hp1 : p.length = 1 := by omega
          have e3 : la p = (a : Int) := by unfold la; rw [hp1]; exact ha
          rw [e3] at hz
          exact hz (h.2.2.2 a han).2.2.2.1
        rw [if_pos ⟨h1, by omega⟩]
    rw [s0]
    congr 1
    have key : ∀ (e j : Nat), j + e = c.length → a < j → rowI (walkI d m) p (rd_L1 d (la p)) e j = rest (P c.length d m') d p e j := by
      intro e
      induction e with
      | zero => intro j _ _; rfl
      | succ e ih =>
        intro j he hj
        rw [rowI, rest, ih (j + 1) (by omega) (by omega)]
        congr 1
        unfold stepI
        have hge := row_ge h hl (j := (j : Int)) ⟨by omega, by omega⟩
        rw [ha]
        by_cases hz : rd (rd_L1 d (la p)) (j : Int) = 0
        · rw [if_pos (.inl hz), if_pos (.inl hz)]
        · rw [if_neg (fun z => z.elim hz (fun y => by omega)), if_neg (by omega)]
          by_cases hm : (j : Int) ∈ p
          · rw [if_pos hm, if_pos (.inr hm)]
          · rw [if_neg hm, if_neg (fun z => z.elim hz hm)]
            have hs := hp.snoc (j := j) (by omega) (by omega) hm (by omega)
            exact walk_eq h m m' _ hs (by rw [List.length_append, List.length_singleton]; omega) (by rw [List.length_append, List.length_singleton]; omega)
    exact key _ (a + 1) (by omega) (by omega)
theorem found_eq (h : BookP c d) : ∀ (e i : Nat), i + e = c.length → foundI d e i = found c.length d e i
  | 0, _, _ => rfl
  | e + 1, i, hi => by
    have h4 := h.2.1
    have hdl := h.2.2.1
    rw [foundI, found, found_eq h e (i + 1) (by omega), walk_eq h d.length 4 [(i : Int)] (PathP.one (by omega)) (by rw [List.length_singleton]; omega) (by rw [List.length_singleton]; omega)]
def cR (F : List Int → Nat) (p : List Int) : Nat → Nat → Nat
  | 0, _ => 0
  | e + 1, j => (if (j : Int) ∈ p then 0 else F (p ++ [(j : Int)])) + cR F p e (j + 1)
def cP (n : Nat) : Nat → List Int → Nat
  | 0, _ => 0
  | m + 1, p => (if 1 < p.length then 1 else 0) + cR (cP n m) p (n - ((rd p 0).toNat + 1)) ((rd p 0).toNat + 1)
def cF (n : Nat) : Nat → Nat → Nat
  | 0, _ => 0
  | e + 1, i => cP n 4 [(i : Int)] + cF n e (i + 1)
theorem cR_le {F : List Int → List (List Int)} {G : List Int → Nat} (hFG : ∀ q, (F q).length ≤ G q) (p : List Int) : ∀ (e j : Nat), (rest F d p e j).length ≤ cR G p e j
  | 0, _ => Nat.le_refl _
  | e + 1, j => by
    rw [rest, cR, List.length_append]
    have h1 := cR_le hFG p e (j + 1)
    have h2 : (if rd (rd_L1 d (la p)) (j : Int) = 0 ∨ (j : Int) ∈ p then [] else F (p ++ [(j : Int)])).length ≤ (if (j : Int) ∈ p then 0 else G (p ++ [(j : Int)])) := by
      by_cases hm : (j : Int) ∈ p
      · rw [if_pos (.inr hm), if_pos hm]; exact Nat.le_refl _
      · rw [if_neg hm]
        split
        · exact Nat.zero_le _
        · exact hFG _
    omega
theorem cP_le (n : Nat) : ∀ (m : Nat) (p : List Int), (P n d m p).length ≤ cP n m p
  | 0, _ => Nat.le_refl _
  | m + 1, p => by
    rw [P, cP, List.length_append]
    have h1 := cR_le (d := d) (cP_le n m) p (n - ((rd p 0).toNat + 1)) ((rd p 0).toNat + 1)
    have h2 : (self d p).length ≤ if 1 < p.length then 1 else 0 := by
      unfold self
      by_cases h : 1 < p.length
      · rw [if_pos h]; split <;> simp
      · rw [if_neg h, if_neg (fun z => h z.1)]; exact Nat.le_refl _
    omega
theorem cF_le (n : Nat) : ∀ (e i : Nat), (found n d e i).length ≤ cF n e i
  | 0, _ => Nat.le_refl _
  | e + 1, i => by
    rw [found, cF, List.length_append]
    have h1 := cP_le (d := d) n 4 [(i : Int)]
    have h2 := cF_le n e (i + 1)
    omega
theorem cF4 : ∀ n, n ≤ 4 → cF n n 0 ≤ 20
  | 0, _ => by decide
  | 1, _ => by decide
  | 2, _ => by decide
  | 3, _ => by decide
  | 4, _ => by decide
  | n + 5, h => by omega
theorem cmpI_lt (a b : Int) : (cmpI a b < 0 ↔ a < b) ∧ (cmpI a b = 0 ↔ a = b) := by
  unfold cmpI
  by_cases h : a < b
  · rw [if_pos h]; exact ⟨⟨fun _ => h, fun _ => by decide⟩, ⟨fun z => by simp at z, fun z => by omega⟩⟩
  · rw [if_neg h]
    by_cases h2 : a > b
    · rw [if_pos h2]; exact ⟨⟨fun z => by simp at z, fun z => by omega⟩, ⟨fun z => by simp at z, fun z => by omega⟩⟩
    · rw [if_neg h2]; exact ⟨⟨fun z => by simp at z, fun z => by omega⟩, ⟨fun _ => by omega, fun _ => rfl⟩⟩
theorem lex_lt : ∀ (a b : List Int), a.length = b.length → (lexc a b < 0 ↔ lexlt a b = true)
  | [], [], _ => by simp [lexc, lexlt]
  | [], _ :: _, h => by simp at h
  | _ :: _, [], h => by simp at h
  | a :: r, b :: s, h => by
    rw [lexc, lexlt]
    have hc := cmpI_lt a b
    by_cases e : a = b
    · rw [if_pos (hc.2.2 e), if_pos e]; exact lex_lt r s (by simpa using h)
    · rw [if_neg (fun z => e (hc.2.1 z)), if_neg e, hc.1]; simp
theorem cmp_bef (a b : List Int) : cmpl a b < 0 ↔ bef a b = true := by
  unfold cmpl bef
  have hc := cmpI_lt (a.length : Int) (b.length : Int)
  by_cases e : a.length = b.length
  · rw [if_pos (hc.2.2 (by omega)), if_pos e]; exact lex_lt a b e
  · rw [if_neg (fun z => e (by have := hc.2.1 z; omega)), if_neg e, hc.1]; simp
theorem insL_eq : ∀ (j : Nat) (xs : List (List Int)), insL j xs = ins bef j xs
  | 0, _ => rfl
  | j + 1, xs => by
    rw [insL, ins]
    by_cases h : bef (xs.getD (j + 1) []) (xs.getD j []) = true
    · rw [if_pos ((cmp_bef _ _).2 h), if_pos h]; exact insL_eq j _
    · rw [if_neg (fun z => h ((cmp_bef _ _).1 z)), if_neg h]
theorem srtL_eq : ∀ (e i : Nat) (xs : List (List Int)), srtL e i xs = srt bef e i xs
  | 0, _, _ => rfl
  | e + 1, i, xs => by rw [srtL, srt, insL_eq, srtL_eq e]
theorem circ_20 (h : BookP c d) : (circ c d).length ≤ 20 := by
  rw [circ_len]
  exact Nat.le_trans (cF_le c.length c.length 0) (cF4 c.length h.2.1)
theorem iCircles (h : BookP c d) : Ev (fun k => impl_circles.f k c d) (circ c d) := by
  have h4 := h.2.1
  have hdl := h.2.2.1
  have h20 := circ_20 h
  rw [circ_len] at h20
  have e : ∀ k, impl_circles.f k c d = some (circ c d) := fun k => by
    unfold impl_circles.f
    rw [hdl, found_eq h c.length 0 (by omega), if_pos ⟨rfl, h4, fun i hi => (h.2.2.2 i hi).2.2.1, h20⟩, srtL_eq]
    rfl
  simp only [e]
  exact Ev.now _
end Go.Proofs.Ytfooakkhkehpiaa.Cq
namespace Go.Proofs.Ytfooakkhkehpiaa.Dr
open Go.RowKit Go.Proofs.Ytfooakkhkehpiaa.PU Go.Proofs.Ytfooakkhkehpiaa.Qh Go.Proofs.YtfooakkhkehpiaaW.PrintWords Go.Proofs.YtfooakkhkehpiaaW.PrintMore
set_option linter.unusedVariables false
set_option linter.unusedSimpArgs false
theorem xor_nonneg (a b : Int) (ha : 0 ≤ a) (ha2 : a < 4611686018427387904) (hb : 0 ≤ b) (hb2 : b < 4611686018427387904) : 0 ≤ Go.bits .xor .i64 a b := by
  obtain ⟨m, rfl⟩ := Int.eq_ofNat_of_zero_le ha
  obtain ⟨n, rfl⟩ := Int.eq_ofNat_of_zero_le hb
  have hm : m < 2 ^ 62 := by omega
  have hn : n < 2 ^ 62 := by omega
  have hx : m ^^^ n < 2 ^ 62 := Nat.xor_lt_two_pow hm hn
  have e1 : m % 2 ^ 64 = m := Nat.mod_eq_of_lt (by omega)
  have e2 : n % 2 ^ 64 = n := Nat.mod_eq_of_lt (by omega)
  have : Go.bits .xor .i64 (m : Int) (n : Int) = ((m ^^^ n : Nat) : Int) := by
    simp only [Go.bits, BitVec.ofInt_natCast, BitVec.toNat_xor, BitVec.toNat_ofNat]
    show IntKind.i64.wrap (((m % 2 ^ 64) ^^^ (n % 2 ^ 64) : Nat) : Int) = _
    rw [e1, e2, IntKind.wrap_i64]
    omega
  rw [this]
  omega
def Bytes (b : List Int) : Prop := b.length ≤ 2000 ∧ ∀ x ∈ b, 0 ≤ x ∧ x ≤ 255
theorem rd_byte {b : List Int} (h : Bytes b) (i : Int) : 0 ≤ rd b i ∧ rd b i ≤ 255 := by
  unfold rd
  by_cases hi : i.toNat < b.length
  · exact h.2 _ (getD_mem 0 b _ hi)
  · simp [List.getD_eq_getElem?_getD, List.getElem?_eq_none (by omega : b.length ≤ i.toNat)]
theorem pick {b : List Int} (hb : Bytes b) (p n : Int) (h0 : 0 ≤ p) (h1 : p ≤ 1000000000) :
    ∃ v, 0 ≤ v ∧ (1 ≤ n → v < n) ∧ (n < 1 → v = 0) ∧ Ev (fun k => spec_l20Rd_pick.f k b p n) (v, p + 1) := by
  have hp : wrap64 (p + 1) = p + 1 := w64 (by omega) (by omega)
  have hp1 : wrap64 (p + 1 - 1) = p := by rw [w64 (by omega) (by omega)]; omega
  unfold spec_l20Rd_pick.f
  rw [hp]
  by_cases hn : n < 1
  · refine ⟨0, by omega, by omega, fun _ => rfl, evPos hn ?_⟩
    refine Ev.step (fun k => by rw [spec_l20Rd_pick.j0]) ?_
    exact evPos rfl (Ev.now _)
  by_cases hz : b.length = 0
  · refine ⟨0, by omega, by omega, fun h => absurd h hn, evNeg hn ?_⟩
    refine Ev.step (fun k => by rw [spec_l20Rd_pick.j0]) ?_
    exact evPos (by simp [hz]) (Ev.now _)
  have hlen : 0 < (b.length : Int) := by omega
  by_cases hlt : p < (b.length : Int)
  · have hr := rd_byte hb p
    refine ⟨Int.tmod (rd b p) n, Int.tmod_nonneg _ hr.1, fun _ => Int.tmod_lt_of_pos _ (by omega), fun h => absurd h hn, evNeg hn ?_⟩
    refine Ev.step (fun k => by rw [spec_l20Rd_pick.j0]) ?_
    rw [hp1]
    refine evNeg (fun h => by have := beq_iff_eq.mp h; omega) (evPos hlt (evPos h0 (evNeg (by omega) ?_)))
    rw [w64 (by omega) (by omega)]
    exact Ev.now _
  · have hp7 : wrap64 (p * 7) = p * 7 := w64 (by omega) (by omega)
    have hp73 : wrap64 (p * 7 + 3) = p * 7 + 3 := w64 (by omega) (by omega)
    have hp29 : wrap64 (p * 29) = p * 29 := w64 (by omega) (by omega)
    have i1 := Int.tmod_nonneg (b.length : Int) h0
    have i2 := Int.tmod_lt_of_pos p hlen
    have j1 := Int.tmod_nonneg (b.length : Int) (show 0 ≤ p * 7 + 3 by omega)
    have j2 := Int.tmod_lt_of_pos (p * 7 + 3) hlen
    have d1 : 0 ≤ Int.tdiv p (b.length : Int) := Int.tdiv_nonneg h0 (by omega)
    have d2 : Int.tdiv p (b.length : Int) ≤ p := Int.tdiv_le_self _ h0
    have r1 := rd_byte hb (Int.tmod p (b.length : Int))
    have r2 := rd_byte hb (Int.tmod (p * 7 + 3) (b.length : Int))
    have key : ∃ x, 0 ≤ x ∧ x < 4611686018427387904 ∧ wrap64 ((wrap64 ((wrap64 ((wrap64 ((wrap64 (rd b (Int.tmod p (b.length : Int)))) * 131)) + (wrap64 ((wrap64 (rd b (Int.tmod (p * 7 + 3) (b.length : Int)))) * 1117)))) + (p * 29))) + (wrap64 ((wrap64 (Int.tdiv p (b.length : Int))) * 53))) = x := by
      generalize rd b (Int.tmod p (b.length : Int)) = u at *
      generalize rd b (Int.tmod (p * 7 + 3) (b.length : Int)) = v at *
      generalize Int.tdiv p (b.length : Int) = d at *
      have e1 : wrap64 u = u := w64 (by omega) (by omega)
      have e2 : wrap64 v = v := w64 (by omega) (by omega)
      have e3 : wrap64 d = d := w64 (by omega) (by omega)
      have e4 : wrap64 (u * 131) = u * 131 := w64 (by omega) (by omega)
      have e5 : wrap64 (v * 1117) = v * 1117 := w64 (by omega) (by omega)
      have e6 : wrap64 (d * 53) = d * 53 := w64 (by omega) (by omega)
      have e7 : wrap64 (u * 131 + v * 1117) = u * 131 + v * 1117 := w64 (by omega) (by omega)
      have e8 : wrap64 (u * 131 + v * 1117 + p * 29) = u * 131 + v * 1117 + p * 29 := w64 (by omega) (by omega)
      refine ⟨u * 131 + v * 1117 + p * 29 + d * 53, by omega, by omega, ?_⟩
      rw [e1, e2, e3, e4, e5, e6, e7, e8]
      exact w64 (by omega) (by omega)
    obtain ⟨x, hx0, hx1, hx⟩ := key
    have t0 : 0 ≤ Int.tdiv x 64 := Int.tdiv_nonneg hx0 (by omega)
    have t1 : Int.tdiv x 64 ≤ x := Int.tdiv_le_self _ hx0
    have ht : wrap64 (Int.tdiv x 64) = Int.tdiv x 64 := w64 (by omega) (by omega)
    have hq := xor_nonneg x (Int.tdiv x 64) hx0 hx1 t0 (by omega)
    refine ⟨Int.tmod (Go.bits .xor .i64 x (Int.tdiv x 64)) n, Int.tmod_nonneg _ hq, fun _ => Int.tmod_lt_of_pos _ (by omega), fun h => absurd h hn, evNeg hn ?_⟩
    refine Ev.step (fun k => by rw [spec_l20Rd_pick.j0]) ?_
    rw [hp1, hp7, hp73, hp29, hx, ht]
    refine evNeg (fun h => by have := beq_iff_eq.mp h; omega) (evNeg hlt (evNeg (by omega) (evPos i1 (evPos i2 (evPos j1 (evPos j2 (evNeg (by omega) (Ev.now _))))))))
theorem open_ (l : List Int) (hu : ∀ x ∈ l, (Lit.int .u8 x).wf = true) : ∃ b, Bytes b ∧ spec_l20Open.f l = some (b, 0) := by
  have hb : ∀ x ∈ l, 0 ≤ x ∧ x ≤ 255 := fun x hx => by
    have := hu x hx
    simp [Lit.wf, IntKind.min, IntKind.max, IntKind.bits, IntKind.signed] at this
    omega
  unfold spec_l20Open.f
  by_cases h : (l.length : Int) > 2000
  · exact ⟨l.take 2000, ⟨by rw [List.length_take]; omega, fun x hx => hb x (List.mem_of_mem_take hx)⟩, by rw [if_pos h, if_pos (by omega)]⟩
  · exact ⟨l, ⟨by omega, hb⟩, by rw [if_neg h]⟩
end Go.Proofs.Ytfooakkhkehpiaa.Dr
namespace Go.Proofs.Ytfooakkhkehpiaa.Db
open Go.RowKit Go.Proofs.Ytfooakkhkehpiaa.PU Go.Proofs.Ytfooakkhkehpiaa.Qh Go.Proofs.Ytfooakkhkehpiaa.Dr Go.Proofs.YtfooakkhkehpiaaW.PrintWords Go.Proofs.YtfooakkhkehpiaaW.PrintMore
set_option linter.unusedVariables false
set_option linter.unusedSimpArgs false
def EvX {α : Type} (g : Nat → Option α) (P : α → Prop) : Prop := ∃ r, P r ∧ Ev g r
section
variable {α β : Type} {P Q : α → Prop} {g f : Nat → Option α}
theorem EvX.imp (h : EvX g P) (k : ∀ r, P r → Q r) : EvX g Q := by obtain ⟨r, h1, h2⟩ := h; exact ⟨r, k r h1, h2⟩
theorem EvX.now {r : α} (h : P r) : EvX (fun _ => some r) P := ⟨r, h, Ev.now _⟩
theorem EvX.step {g f : Nat → Option α} (h : ∀ k, g (k + 1) = f k) (k : EvX f P) : EvX g P := by obtain ⟨r, h1, h2⟩ := k; exact ⟨r, h1, Ev.step h h2⟩
theorem EvX.pos {c : Prop} [Decidable c] (h : c) (k : EvX g P) : EvX (fun n => if c then g n else f n) P := by obtain ⟨r, h1, h2⟩ := k; exact ⟨r, h1, evPos h h2⟩
theorem EvX.neg {c : Prop} [Decidable c] (h : ¬ c) (k : EvX f P) : EvX (fun n => if c then g n else f n) P := by obtain ⟨r, h1, h2⟩ := k; exact ⟨r, h1, evNeg h h2⟩
theorem EvX.bind {g : Nat → Option β} {f : Nat → β → Option α} {a : β} (h : Ev g a) (k : EvX (fun n => f n a) P) : EvX (fun n => (g n).bind (f n)) P := by obtain ⟨r, h1, h2⟩ := k; exact ⟨r, h1, Ev.bind h h2⟩
theorem EvX.bind0 {g : Option β} {f : Nat → β → Option α} {a : β} (h : g = some a) (k : EvX (fun n => f n a) P) : EvX (fun n => g.bind (f n)) P := by obtain ⟨r, h1, h2⟩ := k; exact ⟨r, h1, evBind0 h h2⟩
end
theorem podd {b : List Int} (hb : Bytes b) (p n : Int) (hn : 1 ≤ n) (hn2 : n ≤ 1000) (h0 : 0 ≤ p) (h1 : p ≤ 1000000000) : ∃ v, Ev (fun k => spec_l20Rd_odd.f k b p n) (v, p + 1) := by
  obtain ⟨x, _, _, _, hx⟩ := pick hb p n h0 h1
  unfold spec_l20Rd_odd.f
  exact ⟨_, evPos (by omega) (Ev.bind hx (Ev.now _))⟩
end Go.Proofs.Ytfooakkhkehpiaa.Db
namespace Go.Proofs.Ytfooakkhkehpiaa.Db
open Go.RowKit Go.Proofs.Ytfooakkhkehpiaa.PU Go.Proofs.Ytfooakkhkehpiaa.Qh Go.Proofs.Ytfooakkhkehpiaa.Dr Go.Proofs.YtfooakkhkehpiaaW.PrintWords Go.Proofs.YtfooakkhkehpiaaW.PrintMore
set_option linter.unusedVariables false
set_option linter.unusedSimpArgs false
def Sm (r : List Int × List (List Int) × Int) (p m : Int) : Prop := r.1.length ≤ 4 ∧ r.2.1.length ≤ 4 ∧ (∀ i : Nat, (rd_L1 r.2.1 (i : Int)).length ≤ 4) ∧ p ≤ r.2.2 ∧ r.2.2 ≤ p + m
theorem rL2 (xs : List (List Int)) (i : Nat) : rd_L1 xs (i : Int) = xs.getD i [] := rfl
theorem rows_set (ds : List (List Int)) (i : Nat) (v : List Int) (hv : v.length ≤ 4) (h : ∀ j : Nat, (rd_L1 ds (j : Int)).length ≤ 4) (j : Nat) : (rd_L1 (ds.set i v) (j : Int)).length ≤ 4 := by
  rw [rL2]
  by_cases hi : i < ds.length
  · rw [getD_set _ _ _ _ _ hi]
    by_cases e : i = j
    · rw [if_pos e]; exact hv
    · rw [if_neg e]; exact h j
  · rw [List.set_eq_of_length_le (by omega)]; exact h j
theorem rows_all (ds : List (List Int)) (m : Nat) (hm : m ≤ 4) (h : ∀ j : Nat, j < ds.length → (rd_L1 ds (j : Int)).length = m) (j : Nat) : (rd_L1 ds (j : Int)).length ≤ 4 := by
  by_cases hj : j < ds.length
  · rw [h j hj]; exact hm
  · rw [rL2]; simp [List.getD_eq_getElem?_getD, List.getElem?_eq_none (by omega : ds.length ≤ j)]
theorem bk_l1 {b : List Int} (hb : Bytes b) (n : Int) (m : Nat) (hm : m ≤ 4) (kind : Int) (i : Nat) (hi : i < m) (cs : List Int) (ds : List (List Int)) (hds : ds.length = i) (P : List Int × List (List Int) × Int → Prop) (p0 : Int) (hp0 : 0 ≤ p0) (hp1 : p0 ≤ 10000)
    (hR : ∀ (row : List Int) (p : Int), row.length = m → p0 ≤ p → p ≤ p0 + 2 * m → EvX (fun k => spec_l20Book.l0 k n (m : Int) kind ((i + 1 : Nat) : Int) b p cs (ds ++ [row])) P) :
    ∀ (e j : Nat) (row : List Int) (p : Int), m - j = e → j ≤ m → row.length = j → p0 ≤ p → p ≤ p0 + 2 * j →
    EvX (fun k => spec_l20Book.l1 k n (m : Int) kind (i : Int) row (j : Int) b p cs ds) P := by
  have hs : Aside0 (wrap64 ((i : Int) + 1) = ((i + 1 : Nat) : Int)) := ⟨wsucc hi (by omega)⟩
  intro e
  induction e with
  | zero =>
    intro j row p he hj hr h0 h1
    obtain rfl : j = m := by omega
    refine EvX.step (fun k => by rw [spec_l20Book.l1]) ?_
    rw [hs.out]
    exact EvX.neg (by omega) (EvX.pos (by omega) (hR row p hr h0 h1))
  | succ e ih =>
    intro j row p he hj hr h0 h1
    have hlt : j < m := by omega
    have hj1 : Aside0 (wrap64 ((j : Int) + 1) = ((j + 1 : Nat) : Int)) := ⟨wsucc hlt (by omega)⟩
    refine EvX.step (fun k => by rw [spec_l20Book.l1]) ?_
    rw [hj1.out]
    have hc : (j : Int) < (m : Int) := by clear ih hR; omega
    refine EvX.pos hc ?_
    have go : ∀ (v p' : Int), p0 ≤ p' → p' ≤ p0 + 2 * ((j + 1 : Nat) : Int) → EvX (fun k => if row.length < 17592186044416 then spec_l20Book.l1 k n (m : Int) kind (i : Int) (row ++ [v]) ((j + 1 : Nat) : Int) b p' cs ds else none) P := by
      intro v p' h2 h3
      have hl : row.length < 17592186044416 := by clear hj1 hs ih hR; omega
      have q1 : m - (j + 1) = e := by clear hj1 hs ih hR; omega
      have q2 : (row ++ [v]).length = j + 1 := by rw [List.length_append, hr]; rfl
      exact EvX.pos hl (ih (j + 1) (row ++ [v]) p' q1 hlt q2 h2 h3)
    by_cases hij : (i : Int) = (j : Int)
    · exact EvX.pos hij (go 0 p h0 (by omega))
    · refine EvX.neg hij ?_
      obtain ⟨v, _, _, _, hv⟩ := pick hb p 3 (by omega) (by omega)
      refine EvX.bind hv ?_
      by_cases h2 : v > 0
      · refine EvX.pos h2 ?_
        obtain ⟨v2, _, _, _, hv2⟩ := pick hb (p + 1) 10 (by omega) (by omega)
        exact EvX.bind hv2 (go v2 (p + 1 + 1) (by omega) (by omega))
      · exact EvX.neg h2 (go 0 (p + 1) (by omega) (by omega))
theorem bk_l0 {b : List Int} (hb : Bytes b) (n : Int) (hn : 1 ≤ n) (hn2 : n ≤ 1000) (m : Nat) (hm1 : 1 ≤ m) (hm : m ≤ 4) (kind : Int) (hk0 : 0 ≤ kind) (hk1 : kind < 3) : ∀ (e i : Nat) (cs : List Int) (ds : List (List Int)) (p : Int), m - i = e → i ≤ m →
    cs.length = i → ds.length = i → (∀ j : Nat, j < ds.length → (rd_L1 ds (j : Int)).length = m) → 0 ≤ p → p ≤ 100 + 10 * i →
    EvX (fun k => spec_l20Book.l0 k n (m : Int) kind (i : Int) b p cs ds) (fun r => Sm r p (10 * e + 2)) := by
  intro e
  induction e with
  | zero =>
    intro i cs ds p he hi hcs hds hrows h0 h1
    obtain rfl : i = m := by omega
    refine EvX.step (fun k => by rw [spec_l20Book.l0]) ?_
    refine EvX.neg (by omega) ?_
    obtain ⟨v, hv⟩ := podd hb p n hn hn2 h0 (by omega)
    refine EvX.bind hv ?_
    have hall := rows_all ds i hm hrows
    by_cases hvt : v = true
    · refine EvX.pos hvt ?_
      obtain ⟨w, hw0, hw1, _, hw⟩ := pick hb (p + 1) 4 (by omega) (by omega)
      refine EvX.bind hw ?_
      by_cases a : w = 0
      · exact EvX.pos a (EvX.now ⟨by simp, by simp, fun j => by simp [rL2], by show p ≤ p + 1 + 1; omega, by show p + 1 + 1 ≤ _; omega⟩)
      refine EvX.neg a ?_
      by_cases a1 : w = 1
      · refine EvX.pos a1 (EvX.pos (by omega) (EvX.now ⟨by simp; omega, by show ds.length ≤ 4; omega, hall, by show p ≤ p + 1 + 1; omega, by show p + 1 + 1 ≤ _; omega⟩))
      refine EvX.neg a1 ?_
      have r0 := hrows 0 (by omega)
      by_cases a2 : w = 2
      · refine EvX.pos a2 (EvX.pos (by omega) (EvX.pos (by rw [show (0 : Int) = ((0 : Nat) : Int) from rfl, r0]; omega) (EvX.now ⟨by show cs.length ≤ 4; omega, by simp; omega, ?_, by show p ≤ p + 1 + 1; omega, by show p + 1 + 1 ≤ _; omega⟩)))
        exact rows_set ds 0 _ (by rw [List.length_set]; exact hall 0) hall
      · have hw1 : Aside0 (wrap64 ((i : Int) - 1) = ((i - 1 : Nat) : Int)) := ⟨by rw [w64 (by omega) (by omega)]; omega⟩
        rw [hw1.out]
        have rl := hrows (i - 1) (by omega)
        refine EvX.neg a2 (EvX.pos (by omega) (EvX.pos (by omega) (EvX.pos (by rw [rl]; omega) (EvX.now ⟨by show cs.length ≤ 4; omega, by simp; omega, ?_, by show p ≤ p + 1 + 1; omega, by show p + 1 + 1 ≤ _; omega⟩))))
        rw [Int.toNat_natCast]
        exact rows_set ds (i - 1) _ (by rw [List.length_drop, rl]; omega) hall
    · exact EvX.neg hvt (EvX.now ⟨by show cs.length ≤ 4; omega, by show ds.length ≤ 4; omega, hall, by show p ≤ p + 1; omega, by show p + 1 ≤ _; omega⟩)
  | succ e ih =>
    intro i cs ds p he hi hcs hds hrows h0 h1
    have hlt : i < m := by omega
    refine EvX.step (fun k => by rw [spec_l20Book.l0]) ?_
    refine EvX.pos (by omega) ?_
    obtain ⟨v, _, _, _, hv⟩ := pick hb p 4 h0 (by omega)
    refine EvX.bind hv ?_
    obtain ⟨w, _, _, _, hw⟩ := pick hb (p + 1) 21 (by omega) (by omega)
    refine EvX.bind hw (EvX.bind0 rfl (EvX.pos hk0 (EvX.pos (by simp; omega) (EvX.pos (by omega) ?_))))
    refine bk_l1 hb n m hm kind i hlt _ ds hds _ (p + 1 + 1) (by omega) (by omega) ?_ _ 0 [] (p + 1 + 1) rfl (by omega) rfl (by omega) (by omega)
    intro row q hr hq0 hq1
    refine (ih (i + 1) _ (ds ++ [row]) q (by omega) (by omega) (by simp; omega) (by simp; omega) ?_ (by omega) (by omega)).imp ?_
    · intro j hj
      rw [rL2, List.getD_eq_getElem?_getD, List.getElem?_append]
      by_cases hjl : j < ds.length
      · rw [if_pos hjl]
        have := hrows j hjl
        rw [rL2, List.getD_eq_getElem?_getD] at this
        exact this
      · rw [if_neg hjl]
        have : j = ds.length := by simp at hj; omega
        subst this
        simpa using hr
    · intro r hr
      exact ⟨hr.1, hr.2.1, hr.2.2.1, by have := hr.2.2.2.1; omega, by have := hr.2.2.2.2; omega⟩
theorem book {b : List Int} (hb : Bytes b) (n : Int) (hn : 1 ≤ n) (hn2 : n ≤ 1000) (p : Int) (h0 : 0 ≤ p) (h1 : p ≤ 50) : EvX (fun k => spec_l20Book.f k b p n) (fun r => Sm r p 50) := by
  unfold spec_l20Book.f
  obtain ⟨v, hv0, hv1, _, hv⟩ := pick hb p 6 h0 (by omega)
  obtain ⟨w, hw0, hw1, _, hw⟩ := pick hb (p + 1) 3 (by omega) (by omega)
  have hv6 := hv1 (by omega)
  have hw3 := hw1 (by omega)
  refine EvX.bind0 rfl (EvX.bind hv (EvX.pos hv0 (EvX.pos (by simp; omega) (EvX.bind hw ?_))))
  obtain ⟨m, hm1, hm4, hm⟩ : ∃ m : Nat, 1 ≤ m ∧ m ≤ 4 ∧ rd ([1, 2, 3, 3, 4, 4] : List Int) v = (m : Int) := by
    rcases (by omega : v = 0 ∨ v = 1 ∨ v = 2 ∨ v = 3 ∨ v = 4 ∨ v = 5) with h | h | h | h | h | h <;> subst h
    · exact ⟨1, by omega, by omega, rfl⟩
    · exact ⟨2, by omega, by omega, rfl⟩
    · exact ⟨3, by omega, by omega, rfl⟩
    · exact ⟨3, by omega, by omega, rfl⟩
    · exact ⟨4, by omega, by omega, rfl⟩
    · exact ⟨4, by omega, by omega, rfl⟩
  rw [hm]
  refine (bk_l0 hb n hn hn2 m hm1 hm4 w hw0 hw3 m 0 [] [] (p + 1 + 1) (by omega) (by omega) rfl rfl (fun j hj => by simp at hj) (by omega) (by omega)).imp ?_
  intro r hr
  exact ⟨hr.1, hr.2.1, hr.2.2.1, by have := hr.2.2.2.1; omega, by have := hr.2.2.2.2; omega⟩
end Go.Proofs.Ytfooakkhkehpiaa.Db
namespace Go.Proofs.Ytfooakkhkehpiaa.Al
open Go.RowKit Go.Proofs.Ytfooakkhkehpiaa.PU Go.Proofs.Ytfooakkhkehpiaa.Qh Go.Proofs.YtfooakkhkehpiaaW.PrintWords Go.Proofs.YtfooakkhkehpiaaW.PrintMore
set_option linter.unusedVariables false
set_option linter.unusedSimpArgs false
theorem alive : Ev (fun k => laws_alive.f k) true := Ev.of (fun k => laws_alive.mono k) (k := 12) (by decide +kernel)
end Go.Proofs.Ytfooakkhkehpiaa.Al
namespace Go.Proofs.Ytfooakkhkehpiaa.Fso
open Go.RowKit Go.Proofs.Ytfooakkhkehpiaa.PU Go.Proofs.Ytfooakkhkehpiaa.Qh Go.Proofs.Ytfooakkhkehpiaa.Dr Go.Proofs.Ytfooakkhkehpiaa.Db Go.Proofs.Ytfooakkhkehpiaa.Bk Go.Proofs.Ytfooakkhkehpiaa.Mx Go.Proofs.Ytfooakkhkehpiaa.Ow Go.Proofs.Ytfooakkhkehpiaa.Ne Go.Proofs.Ytfooakkhkehpiaa.Cr Go.Proofs.Ytfooakkhkehpiaa.Sk Go.Proofs.Ytfooakkhkehpiaa.Sn Go.Proofs.YtfooakkhkehpiaaW.PrintWords Go.Proofs.YtfooakkhkehpiaaW.PrintMore
set_option linter.unusedVariables false
set_option linter.unusedSimpArgs false
variable {c : List Int} {d : List (List Int)} {q : List Int}
theorem sCircles0 (h : ¬ BookP c d) : Ev (fun k => spec_CirclesOf.f k c d) [] := by
  unfold spec_CirclesOf.f
  have e : Ev (fun k => spec_CirclesOf.j1 k []) [] := Ev.step (fun k => by rw [spec_CirclesOf.j1]) (Ev.step (fun k => by rw [spec_CirclesOf.l1]) (evNeg (by simp) (Ev.now _)))
  refine Ev.step (fun k => by rw [spec_CirclesOf.l0]) ?_
  by_cases h0 : (0 : Int) < (c.length : Int)
  · exact evPos h0 (Ev.bind ((bookOk c d).no h) (evNeg (by decide) e))
  · exact evNeg h0 e
theorem iCirc (h : BookP c d) : Ev (fun k => impl_CirclesOf.f k c d) (circ c d) := by
  unfold impl_CirclesOf.f
  exact Ev.bind ((isBook c d).yes h) (evPos rfl (Ev.bind (Cq.iCircles h) (Ev.now _)))
theorem ibookOk (h : BookP c d) : Ev (fun k => impl_BookOk.f k c d) true := by
  unfold impl_BookOk.f
  exact Ev.bind ((isBook c d).yes h) (Ev.now _)
theorem no2 : Ev (fun k => laws_FnStruckOut.j0 k false (false != false) c d [] []) true := by
  have hs : Ev (fun k => laws_sameBook.f k ([] : List Int) ([] : List (List Int)) [] []) true := sameB [] [] (by simp) (by simp) (fun i hi => by simp at hi)
  have hno : Ev (fun k => laws_noBook.f k ([] : List Int) ([] : List (List Int))) true := by
    unfold laws_noBook.f
    exact Ev.bind hs (Ev.now _)
  refine Ev.step (fun k => by rw [laws_FnStruckOut.j0]) ?_
  exact evNeg (by decide) (evNeg (by decide) (Ev.bind hno (evPos rfl (Ev.bind Al.alive (Ev.now _)))))
theorem fin (h : BookP c d) (hy : q ∈ circ c d) : Ev (fun k => laws_FnStruckOut.j0 k true (true != true) c d c (struck c d q)) true := by
  have h4 := h.2.1
  have hq := mem_circ h hy
  have hs := struck_ok h hq
  have hn := nets hs
  rw [nets_struck hq] at hn
  have hl := struck_less h hq
  rw [← all_tot, ← all_tot] at hl
  have hf := fewer h hy
  refine Ev.step (fun k => by rw [laws_FnStruckOut.j0]) ?_
  refine evNeg (by decide) (evPos rfl (Ev.bind (ibookOk hs) (evPos rfl (Ev.bind hn (Ev.bind (nets h) (Ev.bind (sameI _ (by rw [rowF_len]; omega)) (evPos rfl ?_)))))))
  refine Ev.bind (allDebts hs) (Ev.bind (allDebts h) (evPos hl (Ev.bind (iCirc hs) (Ev.bind (iCirc h) (evEq (Ev.now _) ?_)))))
  exact decide_eq_true (by omega)
theorem holds : laws_FnStruckOut.Pure := by
  intro l0 _ _ hu
  refine Ev.rounds (g := fun k => laws_FnStruckOut.f k l0) ?_
  unfold laws_FnStruckOut.f
  by_cases a : (l0.length : Int) > 1048576
  · exact evPos a (Ev.now _)
  refine evNeg a ?_
  obtain ⟨b, hb, ho⟩ := Dr.open_ l0 hu
  obtain ⟨⟨c, d, p⟩, hr, hbk⟩ := book hb 12 (by omega) (by omega) 0 (by omega) (by omega)
  have hp0 : 0 ≤ p := hr.2.2.2.1
  have hp1 : p ≤ 50 := by have := hr.2.2.2.2; simpa using this
  obtain ⟨cs', hc', hcl⟩ : ∃ cs' : List (List Int), Ev (fun k => spec_CirclesOf.f k c d) cs' ∧ cs' = @ite _ (BookP c d) (Classical.propDecidable _) (circ c d) [] := by
    by_cases h : BookP c d
    · exact ⟨circ c d, sCircles h, (if_pos h).symm⟩
    · exact ⟨[], sCircles0 h, (if_neg h).symm⟩
  obtain ⟨v1, _, _, _, hv1⟩ := pick hb p (wrap64 ((cs'.length : Int) + 1)) hp0 (by omega)
  obtain ⟨v2, _, _, _, hv2⟩ := pick hb (p + 1) 20 (by omega) (by omega)
  have hd : ∃ n : Int, Ev (fun k => spec_DrawStruckOut.f k l0) (c, d, n) := by
    refine ⟨wrap64 (v1 - wrap64 (Int.tdiv v2 19)), ?_⟩
    unfold spec_DrawStruckOut.f
    exact evBind0 ho (Ev.bind hbk (Ev.bind hc' (Ev.bind hv1 (Ev.bind hv2 (Ev.now _)))))
  obtain ⟨n, hd⟩ := hd
  have hs0 : Ev (fun k => laws_sameBook.f k ([] : List Int) ([] : List (List Int)) [] []) true := sameB [] [] (by simp) (by simp) (fun i hi => by simp at hi)
  refine Ev.bind hd ?_
  by_cases h : BookP c d
  · rw [if_pos h] at hcl
    subst hcl
    have h20 := Cq.circ_20 h
    have hw : wrap64 (((circ c d).length : Int) - 1) = ((circ c d).length : Int) - 1 := w64 (by omega) (by omega)
    by_cases hn : 0 ≤ n ∧ n < ((circ c d).length : Int)
    · obtain ⟨i, rfl⟩ := Int.eq_ofNat_of_zero_le hn.1
      have hi : i < (circ c d).length := by omega
      have hy : rd_L1 (circ c d) (i : Int) ∈ circ c d := getD_mem [] (circ c d) i hi
      have hq := mem_circ h hy
      have hi1 : Ev (fun k => impl_StruckOut.f k c d (i : Int)) (c, struck c d (rd_L1 (circ c d) (i : Int)), true) := by
        unfold impl_StruckOut.f
        exact Ev.bind ((isBook c d).yes h) (evPos rfl (Ev.bind (Cq.iCircles h) (evNeg (by omega) (evNeg (by omega) (evPos hn.1 (evPos hn.2 (Ev.bind (Si.iStruck h hq) (Ev.now _))))))))
      have hs1 : Ev (fun k => spec_StruckOut.f k c d (i : Int)) (c, struck c d (rd_L1 (circ c d) (i : Int)), true) := by
        unfold spec_StruckOut.f
        refine Ev.bind hc' ?_
        rw [hw]
        exact (evBind0 (show spec_l1In.f (i : Int) 0 (((circ c d).length : Int) - 1) = some true by unfold spec_l1In.f; rw [if_pos (by omega), decide_eq_true (by omega)]) (evPos rfl (evPos hn.1 (evPos hn.2 (Ev.bind (sStruck h hq) (Ev.now _))))))
      exact Ev.bind hi1 (Ev.bind hs1 (Ev.bind (sameOk (struck_ok h hq)) (evPos rfl (fin h hy))))
    · have hi1 : Ev (fun k => impl_StruckOut.f k c d n) ([], [], false) := by
        unfold impl_StruckOut.f
        refine Ev.bind ((isBook c d).yes h) (evPos rfl (Ev.bind (Cq.iCircles h) ?_))
        by_cases h1 : n < 0
        · exact evPos h1 (Ev.now _)
        · exact evNeg h1 (evPos (by omega) (Ev.now _))
      have hs1 : Ev (fun k => spec_StruckOut.f k c d n) ([], [], false) := by
        unfold spec_StruckOut.f
        refine Ev.bind hc' ?_
        rw [hw]
        refine (evBind0 (show spec_l1In.f n 0 (((circ c d).length : Int) - 1) = some false from ?_) (evNeg (by decide) (Ev.now _)))
        unfold spec_l1In.f
        by_cases h1 : n ≥ 0
        · rw [if_pos h1, decide_eq_false (by omega)]
        · rw [if_neg h1]
      exact Ev.bind hi1 (Ev.bind hs1 (Ev.bind hs0 (evPos rfl no2)))
  · rw [if_neg h] at hcl
    subst hcl
    have hi1 : Ev (fun k => impl_StruckOut.f k c d n) ([], [], false) := by
      unfold impl_StruckOut.f
      exact Ev.bind ((isBook c d).no h) (evNeg (by decide) (Ev.now _))
    have hs1 : Ev (fun k => spec_StruckOut.f k c d n) ([], [], false) := by
      unfold spec_StruckOut.f
      have hw : wrap64 ((([] : List (List Int)).length : Int) - 1) = -1 := by show wrap64 (0 - 1) = -1; unfold wrap64; omega
      refine Ev.bind hc' ?_
      rw [hw]
      refine (evBind0 (show spec_l1In.f n 0 (-1) = some false from ?_) (evNeg (by decide) (Ev.now _)))
      unfold spec_l1In.f
      by_cases h1 : n ≥ 0
      · rw [if_pos h1, decide_eq_false (by omega)]
      · rw [if_neg h1]
    exact Ev.bind hi1 (Ev.bind hs1 (Ev.bind hs0 (evPos rfl no2)))
end Go.Proofs.Ytfooakkhkehpiaa.Fso
namespace Go.Proofs.Ytfooakkhkehpiaa.Pure
open Go.RowKit Go.Proofs.Ytfooakkhkehpiaa.PU
theorem FnStruckOut : laws_FnStruckOut.Pure := Go.Proofs.Ytfooakkhkehpiaa.Fso.holds
end Go.Proofs.Ytfooakkhkehpiaa.Pure
namespace Go.Proofs.YtfooakkhkehpiaaW.PrintWords
open Go.ChangeShapes Go.WideShapes
theorem sized_ints {H : Type} {enc : TypeId × Value → H} {P : Program} {W : World} {base : Nat} {spare : Nat → Bool} {held : Bool} {t e : TypeId} {k : IntKind} {a : Option Addr} {len cap : Nat} {d : DataW H} {ps : List MemPlace} {ts : List TypeId} {ds : List (DataW H)} {j : Nat}
    (hsz : (DataW.weightsEach P ts ds).all (· ≤ reachBytes) = true) (ht : ts[j]? = some t) (hd : ds[j]? = some d) (hu : P.underlying t = some (.slice e)) (he : P.underlying e = some (.int k)) (hc : P.cellsOf e = 1) {B : Nat} (hB : P.bytesOf e = B)
    (h : DataW.Trod enc P W base spare held t (.slice a len cap) d ps) : len * B ≤ 140737488351232 := by
  obtain ⟨fuel, hf⟩ := h
  rcases open_ints hu he hc hf with ⟨hcs, _⟩ | ⟨x, l, c, zs, hcs, _, hl, _, hz, hx, _, _⟩
  · simp [Value.cells] at hcs
    obtain ⟨rfl, rfl, rfl⟩ := hcs
    simp
  · simp [Value.cells] at hcs
    obtain ⟨rfl, rfl, rfl⟩ := hcs
    obtain ⟨hx, _⟩ := Prod.mk.inj hx
    subst hx
    have z := sized_slice hsz ht hd hu
    rw [hB] at z
    have hl2 : len ≤ zs.length := by
      rw [hz]
      split
      · exact hl
      · exact Nat.le_refl _
    have h1 : (lits (H := H) k (zs.take len)).length + (lits (H := H) k (zs.drop len)).length = zs.length := by
      simp [lits]
      omega
    rw [h1] at z
    exact Nat.le_trans (Nat.mul_le_mul_right _ hl2) z
end Go.Proofs.YtfooakkhkehpiaaW.PrintWords
namespace Go.Proofs.Ytfooakkhkehpiaa.fnStruckOut
open Go.ChangeShapes Go.WideShapes Go.ChangeAt Go.RowKit
open Go.ChangeMaps (open_string shut_string)
set_option linter.unusedVariables false
theorem own : ownKnob Try.prog.godebug = none := by kernel_rfl
theorem laidOut : laidOutB Try.prog = true := by kernel_rfl
def IsRow (k : IntKind) (w : World) (a : Option Addr) (len cap : Nat) (zs : List Int) : Prop :=
  (a = none ∧ len = 0 ∧ cap = 0 ∧ zs = []) ∨
  ∃ x, a = some x ∧ len ≤ cap ∧ cap ≤ maxLen ∧ zs.length = cap ∧ (∀ i, i < zs.length → w.cell? (x.add i) = some (.int k (zs.getD i 0))) ∧ ∀ n ∈ zs, (Lit.int k n).wf = true
set_option maxRecDepth 100000 in
theorem lifted (os : Os) (started : os.Started) (H : Type) (enc : TypeId × Value → H) :
    ReturnsInHanded {} Try.checked os 9 .any (Rows.fnStruckOutSpec.pre6 enc Try.prog Try.f9 Rows.fnStruckOutRow.domain false) (Rows.fnStruckOutSpec.post enc Try.prog Try.f9 false true false false) := by
  refine returnsInHanded_of_change_sized (C := Try.checked) own started (by kernel_rfl) Try.func9
    (ChangeSpec.witness6 (enc := enc) (C := Try.checked) false ⟨#[], #[.slice none 0 0], []⟩ 8 (by kernel_rfl) (by kernel_rfl) (by kernel_rfl) (by kernel_rfl)) ?_
  intro W base args ds gs before hval0 hW hcnd hsz0 _
  have hsz : (DataW.weightsEach Try.prog (Try.f9.params.toList ++ Rows.fnStruckOutSpec.plain.varTypes Try.prog) (ds ++ gs)).all (· ≤ reachBytes) = true := hsz0
  have hval : ∀ (j : Nat) t v, Try.f9.params[j]? = some t → args[j]? = some v → Value.okWide Try.prog W .any base t v := hval0
  have hW' := hW
  obtain ⟨p, q, hA0, hV, rfl, hfz, hnd⟩ := hW
  have hA : DataW.TrodAll enc Try.prog W 0 (fun _ => true) true Try.f9.params.toList args.toList ds p := hA0
  rw [Try.params9] at hA hval hsz
  obtain ⟨v0, vs0, d0, ds0, p0, q0, hargs, rfl, rfl, h0, r0⟩ := trodAll_cons hA
  obtain ⟨rfl, rfl, rfl⟩ := trodAll_nil r0
  obtain rfl : args = #[v0] := by cases args; simp_all
  obtain ⟨rfl, rfl⟩ := trodVars_none hV
  obtain ⟨a0, len0, cap0, rfl⟩ := okWide_slice Try.underlying33 (hval 0 33 v0 rfl rfl)
  have k0 := h0
  have lt0 : ∀ x ∈ p0, x.block < W.heap.size := by obtain ⟨m, hm⟩ := k0; exact DataW.trod_lt m _ _ _ hm
  obtain ⟨z0, w0⟩ : ∃ zs, IsRow .u8 W a0 len0 cap0 zs := by
    obtain ⟨fuel, hf⟩ := h0
    rcases open_ints Try.underlying33 Try.underlying5 (by kernel_rfl) hf with ⟨hcs, _⟩ | ⟨x, l, c, zs, hcs, _, hl, hm, hz, _, hcell, hwz⟩
    · simp [Value.cells] at hcs
      obtain ⟨rfl, rfl, rfl⟩ := hcs
      exact ⟨[], .inl ⟨rfl, rfl, rfl, rfl⟩⟩
    · simp [Value.cells] at hcs
      obtain ⟨rfl, rfl, rfl⟩ := hcs
      exact ⟨zs, .inr ⟨_, rfl, hl, hm, by simpa using hz, hcell, hwz⟩⟩
  have y0 : len0 * 1 ≤ 140737488351232 := Go.Proofs.YtfooakkhkehpiaaW.PrintWords.sized_ints hsz (j := 0) (t := 33) rfl rfl Try.underlying33 Try.underlying5 (by kernel_rfl) (by kernel_rfl) h0
  clear hA0 hval0 hsz0 hsz
  refine (PU.laws_FnStruckOut.walk Pure.FnStruckOut a0 len0 cap0 z0 W w0 y0).mono fun e W' ⟨he, bel⟩ => ?_
  subst he
  exact ⟨_, rfl, _, _, _, [], _, [], hW', trodAll_mk1 (shut_bool Try.underlying4 _), (trodAll_cons_mk (Below.trod laidOut (by kernel_rfl) (of_decide_eq_true (by kernel_rfl)) k0 bel lt0) trodAll_mk0), rfl, bel.frame _, fun h => by cases h⟩
theorem over : Rows.fnStruckOutRow.holds Try.pinned (OpenSpec.ofChange Rows.fnStruckOutSpec) :=
  OpenClaim.holds_of_wide 9 Try.f9 rfl rfl rfl rfl rfl rfl rfl ⟨rfl, rfl, rfl, rfl, rfl⟩ rfl rfl rfl rfl rfl (by kernel_rfl) Try.func9 (by kernel_rfl)
    (of_decide_eq_true (by kernel_rfl)) (by unfold Func.isWrapper; first | (rw [if_pos (by decide +kernel)]; kernel_rfl) | (rw [if_neg (by decide +kernel)]; exact ⟨rfl, rfl⟩))
    (fun os started H enc _ => lifted os started H enc)
theorem proved : Rows.FnStruckOutSaid := over
end Go.Proofs.Ytfooakkhkehpiaa.fnStruckOut
namespace Go.Proofs.Ytfooakkhkehpiaa
theorem fnStruckOut_holds : Rows.FnStruckOutSaid := fnStruckOut.proved
end Go.Proofs.Ytfooakkhkehpiaa
