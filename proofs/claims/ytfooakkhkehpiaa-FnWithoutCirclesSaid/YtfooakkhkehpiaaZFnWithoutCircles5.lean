/- FnWithoutCircles: for every input the law holds. No condition. -/
import Derived.Test.YtfooakkhkehpiaaZFnWithoutCircles1
import Derived.Test.YtfooakkhkehpiaaZFnWithoutCircles2
import Derived.Test.YtfooakkhkehpiaaZFnWithoutCircles3
import Derived.Test.YtfooakkhkehpiaaZFnWithoutCircles4
namespace Go.Proofs.Ytfooakkhkehpiaa.PU
open Go.RowKit Go.Proofs.YtfooakkhkehpiaaW.PrintWords Go.Proofs.YtfooakkhkehpiaaW.PrintLast Go.Proofs.YtfooakkhkehpiaaW.PrintMore Go.Proofs.Ytfooakkhkehpiaa.Qd
attribute [local go_sem] max2_int min2_int max_two min_two max_three min_three max_four min_four
set_option linter.unusedVariables false
set_option linter.unusedSimpArgs false
mutual
def laws_FnWithoutCircles.j0 : Nat → Int → Bool → List Int → List (List Int) → List Int → List (List Int) → Option (Bool)
 | 0, _, _, _, _, _, _ => none
 | k + 1, x5, x36, lh, li, jz, i5 => if x36 = true then (some false) else (if x5 < 0 then (if x5 = (-1) then ((laws_noBook.f k jz i5).bind fun ck5 => (if ck5 = true then ((laws_alive.f k).bind fun aw5 => (some aw5)) else (some false))) else (some false)) else ((impl_NetsOf.f k lh li).bind fun cx => (laws_FnWithoutCircles.l0 k x5 cx 0 0 lh li jz i5)))
def laws_FnWithoutCircles.l0 : Nat → Int → List Int → Int → Int → List Int → List (List Int) → List Int → List (List Int) → Option (Bool)
 | 0, _, _, _, _, _, _, _, _ => none
 | k + 1, x5, x8, x9, i7, lh, li, jz, i5 => if i7 < (x8.length : Int) then (if 0 ≤ i7 then (laws_FnWithoutCircles.l0 k x5 x8 (wrap64 (x9 + (mx (rd x8 i7) 0))) (wrap64 (i7 + 1)) lh li jz i5) else (none)) else ((impl_BookOk.f k jz i5).bind fun ck6 => (if ck6 = true then (laws_FnWithoutCircles.j2 k x5 x8 x9 ((jz.length : Int) != (lh.length : Int)) lh li jz i5) else (laws_FnWithoutCircles.j2 k x5 x8 x9 true lh li jz i5)))
def laws_FnWithoutCircles.j2 : Nat → Int → List Int → Int → Bool → List Int → List (List Int) → List Int → List (List Int) → Option (Bool)
 | 0, _, _, _, _, _, _, _, _ => none
 | k + 1, x5, x8, x9, x74, lh, li, jz, i5 => if x74 = true then (some false) else (laws_FnWithoutCircles.l1 k x5 x8 x9 0 lh li jz i5)
def laws_FnWithoutCircles.l1 : Nat → Int → List Int → Int → Int → List Int → List (List Int) → List Int → List (List Int) → Option (Bool)
 | 0, _, _, _, _, _, _, _, _ => none
 | k + 1, x5, x8, x9, ew, lh, li, jz, i5 => if ew < (lh.length : Int) then (laws_FnWithoutCircles.l2 k x5 x8 x9 ew 0 lh li jz i5) else ((impl_CirclesOf.f k jz i5).bind fun jj => (if (jj.length : Int) = 0 then ((impl_NetsOf.f k jz i5).bind fun jk => ((laws_sameInts.f k jk x8).bind fun ck7 => (if ck7 = true then ((impl_AllDebts.f k jz i5).bind fun uu => (if uu ≥ x9 then ((laws_sameBook.f k jz i5 lh li).bind fun aw6 => (some ((x5 == 0) == aw6))) else (some false))) else (some false)))) else (some false)))
def laws_FnWithoutCircles.l2 : Nat → Int → List Int → Int → Int → Int → List Int → List (List Int) → List Int → List (List Int) → Option (Bool)
 | 0, _, _, _, _, _, _, _, _, _ => none
 | k + 1, x5, x8, x9, ew, j7, lh, li, jz, i5 => if j7 < (lh.length : Int) then (if 0 ≤ ew then (if ew < (i5.length : Int) then (if 0 ≤ j7 then (if j7 < ((rd_L1 i5 ew).length : Int) then (if ew < (li.length : Int) then (if j7 < ((rd_L1 li ew).length : Int) then (if (rd (rd_L1 i5 ew) j7) > (rd (rd_L1 li ew) j7) then (some false) else (laws_FnWithoutCircles.l2 k x5 x8 x9 ew (wrap64 (j7 + 1)) lh li jz i5)) else (none)) else (none)) else (none)) else (none)) else (none)) else (none)) else (laws_FnWithoutCircles.l1 k x5 x8 x9 (wrap64 (ew + 1)) lh li jz i5)
end
def laws_FnWithoutCircles.f (k : Nat) (l0 : List Int) : Option (Bool) := if (l0.length : Int) > 1048576 then (some true) else ((spec_DrawWithoutCircles.f k l0).bind fun bt520 => ((impl_WithoutCircles.f k bt520.1 bt520.2).bind fun bt527 => ((spec_WithoutCircles.f k bt520.1 bt520.2).bind fun bt535 => ((laws_sameBook.f k bt527.1 bt527.2.1 bt535.1 bt535.2.1).bind fun aw7 => (if aw7 = true then (laws_FnWithoutCircles.j0 k bt527.2.2 (bt527.2.2 != bt535.2.2) bt520.1 bt520.2 bt527.1 bt527.2.1) else (laws_FnWithoutCircles.j0 k bt527.2.2 true bt520.1 bt520.2 bt527.1 bt527.2.1))))))
theorem laws_FnWithoutCircles.mq {p : Prop} (h : p := by
 repeat' first
 | (with_reducible exact ih0 _ _ _ _ _ _)
 | (with_reducible exact ih1 _ _ _ _ _ _ _ _)
 | (with_reducible exact ih2 _ _ _ _ _ _ _ _)
 | (with_reducible exact ih3 _ _ _ _ _ _ _ _)
 | (with_reducible exact ih4 _ _ _ _ _ _ _ _ _)
 | (with_reducible exact impl_AllDebts.mono _ _ _)
 | (with_reducible exact impl_BookOk.mono _ _ _)
 | (with_reducible exact impl_CirclesOf.mono _ _ _)
 | (with_reducible exact impl_NetsOf.mono _ _ _)
 | (with_reducible exact impl_WithoutCircles.mono _ _ _)
 | (with_reducible exact laws_alive.mono _)
 | (with_reducible exact laws_noBook.mono _ _ _)
 | (with_reducible exact laws_sameBook.mono _ _ _ _ _)
 | (with_reducible exact laws_sameInts.mono _ _ _)
 | (with_reducible exact spec_DrawWithoutCircles.mono _ _)
 | (with_reducible exact spec_WithoutCircles.mono _ _ _)
 | (with_reducible exact LeO.refl _)
 | (with_reducible exact LeO.none _)
 | (with_reducible refine LeO.ite ?_ ?_)
 | (with_reducible refine LeO.bind ?_ (fun _ => ?_))
 | exact ih0 _ _ _ _ _ _
 | exact ih1 _ _ _ _ _ _ _ _
 | exact ih2 _ _ _ _ _ _ _ _
 | exact ih3 _ _ _ _ _ _ _ _
 | exact ih4 _ _ _ _ _ _ _ _ _
 | exact impl_AllDebts.mono _ _ _
 | exact impl_BookOk.mono _ _ _
 | exact impl_CirclesOf.mono _ _ _
 | exact impl_NetsOf.mono _ _ _
 | exact impl_WithoutCircles.mono _ _ _
 | exact laws_alive.mono _
 | exact laws_noBook.mono _ _ _
 | exact laws_sameBook.mono _ _ _ _ _
 | exact laws_sameInts.mono _ _ _
 | exact spec_DrawWithoutCircles.mono _ _
 | exact spec_WithoutCircles.mono _ _ _
 | exact LeO.none _
 | refine LeO.ite ?_ ?_
 | refine LeO.bind ?_ (fun _ => ?_)) : p := h
theorem laws_FnWithoutCircles.mono_l : ∀ k, (∀ y0 y1 y2 y3 y4 y5, LeO (laws_FnWithoutCircles.j0 k y0 y1 y2 y3 y4 y5) (laws_FnWithoutCircles.j0 (k + 1) y0 y1 y2 y3 y4 y5)) ∧ (∀ y0 y1 y2 y3 y4 y5 y6 y7, LeO (laws_FnWithoutCircles.l0 k y0 y1 y2 y3 y4 y5 y6 y7) (laws_FnWithoutCircles.l0 (k + 1) y0 y1 y2 y3 y4 y5 y6 y7)) ∧ (∀ y0 y1 y2 y3 y4 y5 y6 y7, LeO (laws_FnWithoutCircles.j2 k y0 y1 y2 y3 y4 y5 y6 y7) (laws_FnWithoutCircles.j2 (k + 1) y0 y1 y2 y3 y4 y5 y6 y7)) ∧ (∀ y0 y1 y2 y3 y4 y5 y6 y7, LeO (laws_FnWithoutCircles.l1 k y0 y1 y2 y3 y4 y5 y6 y7) (laws_FnWithoutCircles.l1 (k + 1) y0 y1 y2 y3 y4 y5 y6 y7)) ∧ (∀ y0 y1 y2 y3 y4 y5 y6 y7 y8, LeO (laws_FnWithoutCircles.l2 k y0 y1 y2 y3 y4 y5 y6 y7 y8) (laws_FnWithoutCircles.l2 (k + 1) y0 y1 y2 y3 y4 y5 y6 y7 y8))
 | 0 => ⟨fun _ _ _ _ _ _ r h => by simp [laws_FnWithoutCircles.j0] at h, fun _ _ _ _ _ _ _ _ r h => by simp [laws_FnWithoutCircles.l0] at h, fun _ _ _ _ _ _ _ _ r h => by simp [laws_FnWithoutCircles.j2] at h, fun _ _ _ _ _ _ _ _ r h => by simp [laws_FnWithoutCircles.l1] at h, fun _ _ _ _ _ _ _ _ _ r h => by simp [laws_FnWithoutCircles.l2] at h⟩
 | k + 1 => by
  obtain ⟨ih0, ih1, ih2, ih3, ih4⟩ := laws_FnWithoutCircles.mono_l k
  refine ⟨?_, ?_, ?_, ?_, ?_⟩
  ·intro y0 y1 y2 y3 y4 y5
   unfold laws_FnWithoutCircles.j0
   exact laws_FnWithoutCircles.mq
  ·intro y0 y1 y2 y3 y4 y5 y6 y7
   unfold laws_FnWithoutCircles.l0
   exact laws_FnWithoutCircles.mq
  ·intro y0 y1 y2 y3 y4 y5 y6 y7
   unfold laws_FnWithoutCircles.j2
   exact laws_FnWithoutCircles.mq
  ·intro y0 y1 y2 y3 y4 y5 y6 y7
   unfold laws_FnWithoutCircles.l1
   exact laws_FnWithoutCircles.mq
  ·intro y0 y1 y2 y3 y4 y5 y6 y7 y8
   unfold laws_FnWithoutCircles.l2
   exact laws_FnWithoutCircles.mq
theorem laws_FnWithoutCircles.mono : ∀ a0 k, LeO (laws_FnWithoutCircles.f k a0) (laws_FnWithoutCircles.f (k + 1) a0) := by
 intro a0 k
 obtain ⟨ih0, ih1, ih2, ih3, ih4⟩ := laws_FnWithoutCircles.mono_l k
 unfold laws_FnWithoutCircles.f
 exact laws_FnWithoutCircles.mq
theorem a7 {p : Prop} (h : p := by repeat (first | (with_reducible first | exact HB.out | apply below_alloc | apply pw_below_drewN | apply below_drew1 | refine below_set ?_ ck8.out | refine below_set ?_ ck9.out | refine below_set ?_ cl0.out) | exact HB.out)) : p := h
set_option maxHeartbeats 8000000 in
set_option maxRecDepth 100000 in
theorem laws_FnWithoutCircles.calls (k : Nat) (A0 : Option Addr) (c0 : Nat) (l0 : List Int) (r : Bool) (w : World) (ct : Kd.C (Kd.int .u8) w A0 l0.length l0) (dq : l0.length ≤ c0) (h : laws_FnWithoutCircles.f k l0 = some r) :
  Calls Try.prog 10 #[.slice A0 l0.length c0] w fun e w' => e = .returned (.bool r) ∧ Below w.heap.size w w' := by
 have hu25 := Try.underlying25
 have eg := Aside0.mk ct
 have jo := Aside0.mk dq
 clear ct dq
 have HB := Aside0.mk (Below.refl w.heap.size w)
 have H : (if (l0.length : Int) > 1048576 then (some true) else ((spec_DrawWithoutCircles.f k l0).bind fun bt520 => ((impl_WithoutCircles.f k bt520.1 bt520.2).bind fun bt527 => ((spec_WithoutCircles.f k bt520.1 bt520.2).bind fun bt535 => ((laws_sameBook.f k bt527.1 bt527.2.1 bt535.1 bt535.2.1).bind fun aw7 => (if aw7 = true then (laws_FnWithoutCircles.j0 k bt527.2.2 (bt527.2.2 != bt535.2.2) bt520.1 bt520.2 bt527.1 bt527.2.1) else (laws_FnWithoutCircles.j0 k bt527.2.2 true bt520.1 bt520.2 bt527.1 bt527.2.1))))))) = some r := h
 clear h
 by_cases c2 : (l0.length : Int) > 1048576
 ·rw [if_pos c2] at H
  have iu := decide_eq_true c2
  have km : decide (1048576 < l0.length) = true := decide_eq_true (by omega)
  clear c2
  obtain rfl := Option.some.inj H
  go_enter Try.func10, Try.ntmps10
  go_wp2
  repeat (go_quiet (fail); try go_wp2)
  go_ret
  exact ⟨g4_, a7⟩
 ·rw [if_neg c2] at H
  have iu := decide_eq_false c2
  have km : decide (1048576 < l0.length) = false := decide_eq_false (by omega)
  clear c2
  replace H := Option.bind_eq_some_iff.mp H
  obtain ⟨⟨av, b1⟩, ja, H⟩ := H
  try dsimp only at H
  have A3 := Aside0.mk ja
  clear ja
  replace H := Option.bind_eq_some_iff.mp H
  obtain ⟨⟨ar, aw, l4⟩, lq, H⟩ := H
  try dsimp only at H
  have A4 := Aside0.mk lq
  clear lq
  replace H := Option.bind_eq_some_iff.mp H
  obtain ⟨⟨bk, b3, bp1⟩, ws, H⟩ := H
  try dsimp only at H
  have A5 := Aside0.mk ws
  clear ws
  have qh := Aside0.mk H
  clear H
  go_enter Try.func10, Try.ntmps10
  go_upto_region 6 with (first | (go_at_call 51; (with_reducible refine (spec_DrawWithoutCircles.calls k _ _ l0 av b1 _ ?side1 ?side2 A3.out).mono ?_); (case side1 => repeat (first | exact eg.out | (with_reducible refine Kd.C_alloc ?_ _) | (with_reducible refine Kd.C_drewN ?_ _) | (with_reducible refine Kd.C_drew ?_))); (case side2 => exact jo.out); rintro e w7 ⟨aw8, dn0, rfl, ac, b6, hb⟩; have dv := Aside0.mk (Kd.R_lower (Kd.R_mono (ok' := fun k_ => True) ac (fun _ hk_ => trivial)) (below_size (a7))); have dw := Aside0.mk (Kd.V_lower (Kd.V_mono (ok' := fun k_ => some k_ ≠ (aw8 : Value).ownBlock) b6 (fun k_ hk_ => hk_.2)) (below_size (a7))); replace HB := Aside0.mk (below_step (a7) hb); (try clear hb); (try clear hk hi); (try clear ac); (try clear b6)) | ((with_reducible refine gate_dst (N := 3) rfl ?_); (try (refine gate_guard (by rfl) ?_; dsimp only)); refine bx_ (N := 3) #[.slice none 0 0, .slice none 0 0] 25 ?_; intro bj hg w8 hbox hb; replace dv := Aside0.mk (Kd.R_below (uf1_ dv) hb); replace dw := Aside0.mk (Kd.V_below (Kd.V_elderB (uf5_ dw) bj (Nat.le_of_eq hg.symm)) hb); have au := Aside0.mk (hbox); have dn1 := Aside0.mk ((g8_ : w.heap.size ≤ bj)); have ck8 := Aside0.mk ((g8_ : w.heap.size ≤ bj)); replace HB := Aside0.mk (below_step (a7) hb); clear hb hbox hg; obtain ⟨am, al, qb⟩ := Kd.R_slice dv.out; subst qb; obtain ⟨m7, m8, m9, na⟩ := blk2_ au; obtain ⟨br, bn, qc⟩ := Kd.V_slice dw.out; subst qc) | (go_at_call 52; (with_reducible refine (impl_WithoutCircles.calls k _ _ av _ _ b1 ar aw l4 _ ?side1 ?side2 ?side3 ?side4 A4.out).mono ?_); (case side1 => refine (Kd.R_reads' (e := 3) (base := w.heap.size) (ok := fun k_ => True) (n := av.length) (c := al) ?_).2.2; exact (g13_)); (case side2 => exact (Kd.R_reads' dv.out).2.1); (case side3 => refine (Kd.V_reads' (e := 22) (base := w.heap.size) (ok := fun k_ => (some k_ ≠ (.slice am av.length al : Value).ownBlock ∧ k_ ≠ bj)) (n := b1.length) (c := bn) ?_).2.2; exact (g43_)); (case side4 => exact (Kd.V_reads' dw.out).2.1); rintro e o4 ⟨aw9, dn2, rfl, ac, b6, hb⟩; replace dw := Aside0.mk (Kd.V_mono (Kd.V_told (Kd.V_told (Kd.V_old (g43_) hb) (Kd.R_base ac)) (Kd.N_base (g11_))) (fun _ h_ => h_.1)); have em := Aside0.mk (Kd.R_lower (Kd.R_new' (Kd.R_mono (ok' := fun k_ => True) ac (fun _ hk_ => trivial)) (Kd.R_lt (g13_))) (below_size (a7))); have en := Aside0.mk (Kd.N_lower (Kd.N_mono (ok' := fun k_ => some k_ ≠ (aw9 : Value).ownBlock ∧ some k_ ≠ (.slice am av.length al : Value).ownBlock ∧ k_ ≠ bj) b6 (fun k_ hk_ => ⟨hk_.2, (Kd.fresh' (Kd.R_lt (g13_)) k_ hk_.1), (Kd.freshB (g := bj) (o := .cells #[.slice am av.length al, .slice br b1.length bn] 25 (0, 0)) (g44_) k_ hk_.1)⟩)) (below_size (a7))); replace dv := Aside0.mk (Kd.R_elder' (g13_) (Kd.R_base ac) hb); replace au := Aside0.mk (blk_below (g := bj) (o := .cells #[.slice am av.length al, .slice br b1.length bn] 25 (0, 0)) (g44_) hb); replace HB := Aside0.mk (below_step (a7) hb); (try clear hb); (try clear hk hi); (try clear ac); (try clear b6)) | ((with_reducible refine gate_dst (N := 4) rfl ?_); (try (refine gate_guard (by rfl) ?_; dsimp only)); refine bx_ (N := 4) #[.slice none 0 0, .slice none 0 0] 25 ?_; intro bm hg ld hbox hb; replace dv := Aside0.mk (Kd.R_below (uf1_ dv) hb); replace dw := Aside0.mk (Kd.V_below (Kd.V_elderB (uf5_ dw) bm (Nat.le_of_eq hg.symm)) hb); replace em := Aside0.mk (Kd.R_below (uf1_ em) hb); replace en := Aside0.mk (Kd.N_below (Kd.N_elderB (uf4_ en) bm (Nat.le_of_eq hg.symm)) hb); have ao := Aside0.mk (hbox); have dn3 := Aside0.mk ((g8_ : w.heap.size ≤ bm)); have ck9 := Aside0.mk ((g8_ : w.heap.size ≤ bm)); replace HB := Aside0.mk (below_step (a7) hb); have iq := Aside0.mk ((g45_ : bj ≠ bm)); have jl := Aside0.mk ((g46_ : bm ≠ bj)); replace au := bb_ au hb; clear hb hbox hg; obtain ⟨an, ak, j9⟩ := Kd.R_slice em.out; subst j9; have bm9 := jl.out; have bn0 := iq.out; obtain ⟨mu, mv, mw, my⟩ := blk2_ ao; obtain ⟨ba, a5, ku⟩ := Kd.N_slice en.out; subst ku; obtain ⟨mz, m0, m3, m4⟩ := blk2_ au) | (go_at_call 53; (with_reducible refine (spec_WithoutCircles.calls k _ _ av _ _ b1 bk b3 bp1 _ ?side1 ?side2 ?side3 ?side4 A5.out).mono ?_); (case side1 => refine (Kd.R_reads' (e := 3) (base := w.heap.size) (ok := fun k_ => (True ∧ some k_ ≠ (.slice an ar.length ak : Value).ownBlock)) (n := av.length) (c := al) ?_).2.2; exact (g14_)); (case side2 => exact (Kd.R_reads' dv.out).2.1); (case side3 => refine (Kd.V_reads' (e := 22) (base := w.heap.size) (ok := fun k_ => ((((some k_ ≠ (.slice am av.length al : Value).ownBlock ∧ k_ ≠ bj) ∧ some k_ ≠ (.slice an ar.length ak : Value).ownBlock) ∧ some k_ ≠ (.slice ba aw.length a5 : Value).ownBlock) ∧ k_ ≠ bm)) (n := b1.length) (c := bn) ?_).2.2; exact (g47_)); (case side4 => exact (Kd.V_reads' dw.out).2.1); rintro e te ⟨ax0, dn4, rfl, ac, b6, hb⟩; replace dw := Aside0.mk (Kd.V_mono (Kd.V_told (Kd.V_told (Kd.V_old (g47_) hb) (Kd.R_base ac)) (Kd.N_base (g11_))) (fun _ h_ => h_.1)); have gf := Aside0.mk (Kd.R_lower (Kd.R_new' (Kd.R_new' ac (Kd.R_lt (g14_))) (Kd.R_lt (g23_))) (below_size (a7))); have gg := Aside0.mk (Kd.N_lower (Kd.N_mono (ok' := fun k_ => some k_ ≠ (ax0 : Value).ownBlock ∧ some k_ ≠ (.slice am av.length al : Value).ownBlock ∧ some k_ ≠ (.slice an ar.length ak : Value).ownBlock ∧ some k_ ≠ (.slice ba aw.length a5 : Value).ownBlock ∧ k_ ≠ bj ∧ k_ ≠ bm) (Kd.S_N (Kd.S_bound b6)) (fun k_ hk_ => ⟨hk_.1, (Kd.fresh' (Kd.R_lt (g14_)) k_ hk_.2.1), (Kd.fresh' (Kd.R_lt (g23_)) k_ hk_.2.1), (Kd.fresh' (Kd.N_lt (g48_)) k_ hk_.2.1), (Kd.freshB (g := bj) (o := .cells #[.slice am av.length al, .slice br b1.length bn] 25 (0, 0)) (g49_) k_ hk_.2.1), (Kd.freshB (g := bm) (o := .cells #[.slice an ar.length ak, .slice ba aw.length a5] 25 (0, 0)) (g50_) k_ hk_.2.1)⟩)) (below_size (a7))); replace dv := Aside0.mk (Kd.R_elder' (g14_) (Kd.R_base ac) hb); replace em := Aside0.mk (Kd.R_elder' (g23_) (Kd.R_base ac) hb); replace en := Aside0.mk (Kd.N_mono (Kd.N_told (Kd.N_told (Kd.N_old (g48_) hb) (Kd.R_base ac)) (Kd.N_base (g11_))) (fun _ h_ => h_.1)); replace au := Aside0.mk (blk_below (g := bj) (o := .cells #[.slice am av.length al, .slice br b1.length bn] 25 (0, 0)) (g49_) hb); replace ao := Aside0.mk (blk_below (g := bm) (o := .cells #[.slice an ar.length ak, .slice ba aw.length a5] 25 (0, 0)) (g50_) hb); replace HB := Aside0.mk (below_step (a7) hb); (try clear hb); (try clear hk hi); (try clear ac); (try clear b6)) | ((with_reducible refine gate_dst (N := 6) rfl ?_); (try (refine gate_guard (by rfl) ?_; dsimp only)); refine bx_ (N := 6) #[.slice none 0 0, .slice none 0 0] 25 ?_; intro bp hg rr hbox hb; replace dv := Aside0.mk (Kd.R_below (uf1_ dv) hb); replace dw := Aside0.mk (Kd.V_below (Kd.V_elderB (uf5_ dw) bp (Nat.le_of_eq hg.symm)) hb); replace em := Aside0.mk (Kd.R_below (uf1_ em) hb); replace en := Aside0.mk (Kd.N_below (Kd.N_elderB (uf4_ en) bp (Nat.le_of_eq hg.symm)) hb); replace gf := Aside0.mk (Kd.R_below (uf1_ gf) hb); replace gg := Aside0.mk (Kd.N_below (Kd.N_elderB (uf4_ gg) bp (Nat.le_of_eq hg.symm)) hb); have az := Aside0.mk (hbox); have dn5 := Aside0.mk ((g8_ : w.heap.size ≤ bp)); have cl0 := Aside0.mk ((g8_ : w.heap.size ≤ bp)); replace HB := Aside0.mk (below_step (a7) hb); have i6 := Aside0.mk ((g45_ : bj ≠ bp)); have j3 := Aside0.mk ((g46_ : bp ≠ bj)); replace au := bb_ au hb; have j4 := Aside0.mk ((g91_ : bm ≠ bp)); have lj := Aside0.mk ((g92_ : bp ≠ bm)); replace ao := bb_ ao hb; clear hb hbox hg; obtain ⟨bc, a6, ab7⟩ := Kd.R_slice gf.out; subst ab7; have ci3 := j3.out; have ci4 := i6.out; have bm5 := lj.out; have bm6 := j4.out; obtain ⟨ra, rb, rc, re⟩ := blk2_ az; obtain ⟨bw, bt, qk⟩ := Kd.N_slice gg.out; subst qk))
  repeat (go_quiet (first | (go_at_call 51; (with_reducible refine (spec_DrawWithoutCircles.calls k _ _ l0 av b1 _ ?side1 ?side2 A3.out).mono ?_); (case side1 => repeat (first | exact eg.out | (with_reducible refine Kd.C_alloc ?_ _) | (with_reducible refine Kd.C_drewN ?_ _) | (with_reducible refine Kd.C_drew ?_))); (case side2 => exact jo.out); rintro e w7 ⟨aw8, dn0, rfl, ac, b6, hb⟩; have dv := Aside0.mk (Kd.R_lower (Kd.R_mono (ok' := fun k_ => True) ac (fun _ hk_ => trivial)) (below_size (a7))); have dw := Aside0.mk (Kd.V_lower (Kd.V_mono (ok' := fun k_ => some k_ ≠ (aw8 : Value).ownBlock) b6 (fun k_ hk_ => hk_.2)) (below_size (a7))); replace HB := Aside0.mk (below_step (a7) hb); (try clear hb); (try clear hk hi); (try clear ac); (try clear b6)) | ((with_reducible refine gate_dst (N := 3) rfl ?_); (try (refine gate_guard (by rfl) ?_; dsimp only)); refine bx_ (N := 3) #[.slice none 0 0, .slice none 0 0] 25 ?_; intro bj hg w8 hbox hb; replace dv := Aside0.mk (Kd.R_below (uf1_ dv) hb); replace dw := Aside0.mk (Kd.V_below (Kd.V_elderB (uf5_ dw) bj (Nat.le_of_eq hg.symm)) hb); have au := Aside0.mk (hbox); have dn1 := Aside0.mk ((g8_ : w.heap.size ≤ bj)); have ck8 := Aside0.mk ((g8_ : w.heap.size ≤ bj)); replace HB := Aside0.mk (below_step (a7) hb); clear hb hbox hg; obtain ⟨am, al, qb⟩ := Kd.R_slice dv.out; subst qb; obtain ⟨m7, m8, m9, na⟩ := blk2_ au; obtain ⟨br, bn, qc⟩ := Kd.V_slice dw.out; subst qc) | (go_at_call 52; (with_reducible refine (impl_WithoutCircles.calls k _ _ av _ _ b1 ar aw l4 _ ?side1 ?side2 ?side3 ?side4 A4.out).mono ?_); (case side1 => refine (Kd.R_reads' (e := 3) (base := w.heap.size) (ok := fun k_ => True) (n := av.length) (c := al) ?_).2.2; exact (g13_)); (case side2 => exact (Kd.R_reads' dv.out).2.1); (case side3 => refine (Kd.V_reads' (e := 22) (base := w.heap.size) (ok := fun k_ => (some k_ ≠ (.slice am av.length al : Value).ownBlock ∧ k_ ≠ bj)) (n := b1.length) (c := bn) ?_).2.2; exact (g43_)); (case side4 => exact (Kd.V_reads' dw.out).2.1); rintro e o4 ⟨aw9, dn2, rfl, ac, b6, hb⟩; replace dw := Aside0.mk (Kd.V_mono (Kd.V_told (Kd.V_told (Kd.V_old (g43_) hb) (Kd.R_base ac)) (Kd.N_base (g11_))) (fun _ h_ => h_.1)); have em := Aside0.mk (Kd.R_lower (Kd.R_new' (Kd.R_mono (ok' := fun k_ => True) ac (fun _ hk_ => trivial)) (Kd.R_lt (g13_))) (below_size (a7))); have en := Aside0.mk (Kd.N_lower (Kd.N_mono (ok' := fun k_ => some k_ ≠ (aw9 : Value).ownBlock ∧ some k_ ≠ (.slice am av.length al : Value).ownBlock ∧ k_ ≠ bj) b6 (fun k_ hk_ => ⟨hk_.2, (Kd.fresh' (Kd.R_lt (g13_)) k_ hk_.1), (Kd.freshB (g := bj) (o := .cells #[.slice am av.length al, .slice br b1.length bn] 25 (0, 0)) (g44_) k_ hk_.1)⟩)) (below_size (a7))); replace dv := Aside0.mk (Kd.R_elder' (g13_) (Kd.R_base ac) hb); replace au := Aside0.mk (blk_below (g := bj) (o := .cells #[.slice am av.length al, .slice br b1.length bn] 25 (0, 0)) (g44_) hb); replace HB := Aside0.mk (below_step (a7) hb); (try clear hb); (try clear hk hi); (try clear ac); (try clear b6)) | ((with_reducible refine gate_dst (N := 4) rfl ?_); (try (refine gate_guard (by rfl) ?_; dsimp only)); refine bx_ (N := 4) #[.slice none 0 0, .slice none 0 0] 25 ?_; intro bm hg ld hbox hb; replace dv := Aside0.mk (Kd.R_below (uf1_ dv) hb); replace dw := Aside0.mk (Kd.V_below (Kd.V_elderB (uf5_ dw) bm (Nat.le_of_eq hg.symm)) hb); replace em := Aside0.mk (Kd.R_below (uf1_ em) hb); replace en := Aside0.mk (Kd.N_below (Kd.N_elderB (uf4_ en) bm (Nat.le_of_eq hg.symm)) hb); have ao := Aside0.mk (hbox); have dn3 := Aside0.mk ((g8_ : w.heap.size ≤ bm)); have ck9 := Aside0.mk ((g8_ : w.heap.size ≤ bm)); replace HB := Aside0.mk (below_step (a7) hb); have iq := Aside0.mk ((g45_ : bj ≠ bm)); have jl := Aside0.mk ((g46_ : bm ≠ bj)); replace au := bb_ au hb; clear hb hbox hg; obtain ⟨an, ak, j9⟩ := Kd.R_slice em.out; subst j9; have bm9 := jl.out; have bn0 := iq.out; obtain ⟨mu, mv, mw, my⟩ := blk2_ ao; obtain ⟨ba, a5, ku⟩ := Kd.N_slice en.out; subst ku; obtain ⟨mz, m0, m3, m4⟩ := blk2_ au) | (go_at_call 53; (with_reducible refine (spec_WithoutCircles.calls k _ _ av _ _ b1 bk b3 bp1 _ ?side1 ?side2 ?side3 ?side4 A5.out).mono ?_); (case side1 => refine (Kd.R_reads' (e := 3) (base := w.heap.size) (ok := fun k_ => (True ∧ some k_ ≠ (.slice an ar.length ak : Value).ownBlock)) (n := av.length) (c := al) ?_).2.2; exact (g14_)); (case side2 => exact (Kd.R_reads' dv.out).2.1); (case side3 => refine (Kd.V_reads' (e := 22) (base := w.heap.size) (ok := fun k_ => ((((some k_ ≠ (.slice am av.length al : Value).ownBlock ∧ k_ ≠ bj) ∧ some k_ ≠ (.slice an ar.length ak : Value).ownBlock) ∧ some k_ ≠ (.slice ba aw.length a5 : Value).ownBlock) ∧ k_ ≠ bm)) (n := b1.length) (c := bn) ?_).2.2; exact (g47_)); (case side4 => exact (Kd.V_reads' dw.out).2.1); rintro e te ⟨ax0, dn4, rfl, ac, b6, hb⟩; replace dw := Aside0.mk (Kd.V_mono (Kd.V_told (Kd.V_told (Kd.V_old (g47_) hb) (Kd.R_base ac)) (Kd.N_base (g11_))) (fun _ h_ => h_.1)); have gf := Aside0.mk (Kd.R_lower (Kd.R_new' (Kd.R_new' ac (Kd.R_lt (g14_))) (Kd.R_lt (g23_))) (below_size (a7))); have gg := Aside0.mk (Kd.N_lower (Kd.N_mono (ok' := fun k_ => some k_ ≠ (ax0 : Value).ownBlock ∧ some k_ ≠ (.slice am av.length al : Value).ownBlock ∧ some k_ ≠ (.slice an ar.length ak : Value).ownBlock ∧ some k_ ≠ (.slice ba aw.length a5 : Value).ownBlock ∧ k_ ≠ bj ∧ k_ ≠ bm) (Kd.S_N (Kd.S_bound b6)) (fun k_ hk_ => ⟨hk_.1, (Kd.fresh' (Kd.R_lt (g14_)) k_ hk_.2.1), (Kd.fresh' (Kd.R_lt (g23_)) k_ hk_.2.1), (Kd.fresh' (Kd.N_lt (g48_)) k_ hk_.2.1), (Kd.freshB (g := bj) (o := .cells #[.slice am av.length al, .slice br b1.length bn] 25 (0, 0)) (g49_) k_ hk_.2.1), (Kd.freshB (g := bm) (o := .cells #[.slice an ar.length ak, .slice ba aw.length a5] 25 (0, 0)) (g50_) k_ hk_.2.1)⟩)) (below_size (a7))); replace dv := Aside0.mk (Kd.R_elder' (g14_) (Kd.R_base ac) hb); replace em := Aside0.mk (Kd.R_elder' (g23_) (Kd.R_base ac) hb); replace en := Aside0.mk (Kd.N_mono (Kd.N_told (Kd.N_told (Kd.N_old (g48_) hb) (Kd.R_base ac)) (Kd.N_base (g11_))) (fun _ h_ => h_.1)); replace au := Aside0.mk (blk_below (g := bj) (o := .cells #[.slice am av.length al, .slice br b1.length bn] 25 (0, 0)) (g49_) hb); replace ao := Aside0.mk (blk_below (g := bm) (o := .cells #[.slice an ar.length ak, .slice ba aw.length a5] 25 (0, 0)) (g50_) hb); replace HB := Aside0.mk (below_step (a7) hb); (try clear hb); (try clear hk hi); (try clear ac); (try clear b6)) | ((with_reducible refine gate_dst (N := 6) rfl ?_); (try (refine gate_guard (by rfl) ?_; dsimp only)); refine bx_ (N := 6) #[.slice none 0 0, .slice none 0 0] 25 ?_; intro bp hg rr hbox hb; replace dv := Aside0.mk (Kd.R_below (uf1_ dv) hb); replace dw := Aside0.mk (Kd.V_below (Kd.V_elderB (uf5_ dw) bp (Nat.le_of_eq hg.symm)) hb); replace em := Aside0.mk (Kd.R_below (uf1_ em) hb); replace en := Aside0.mk (Kd.N_below (Kd.N_elderB (uf4_ en) bp (Nat.le_of_eq hg.symm)) hb); replace gf := Aside0.mk (Kd.R_below (uf1_ gf) hb); replace gg := Aside0.mk (Kd.N_below (Kd.N_elderB (uf4_ gg) bp (Nat.le_of_eq hg.symm)) hb); have az := Aside0.mk (hbox); have dn5 := Aside0.mk ((g8_ : w.heap.size ≤ bp)); have cl0 := Aside0.mk ((g8_ : w.heap.size ≤ bp)); replace HB := Aside0.mk (below_step (a7) hb); have i6 := Aside0.mk ((g45_ : bj ≠ bp)); have j3 := Aside0.mk ((g46_ : bp ≠ bj)); replace au := bb_ au hb; have j4 := Aside0.mk ((g91_ : bm ≠ bp)); have lj := Aside0.mk ((g92_ : bp ≠ bm)); replace ao := bb_ ao hb; clear hb hbox hg; obtain ⟨bc, a6, ab7⟩ := Kd.R_slice gf.out; subst ab7; have ci3 := j3.out; have ci4 := i6.out; have bm5 := lj.out; have bm6 := j4.out; obtain ⟨ra, rb, rc, re⟩ := blk2_ az; obtain ⟨bw, bt, qk⟩ := Kd.N_slice gg.out; subst qk)); go_upto_region 6 with (first | (go_at_call 51; (with_reducible refine (spec_DrawWithoutCircles.calls k _ _ l0 av b1 _ ?side1 ?side2 A3.out).mono ?_); (case side1 => repeat (first | exact eg.out | (with_reducible refine Kd.C_alloc ?_ _) | (with_reducible refine Kd.C_drewN ?_ _) | (with_reducible refine Kd.C_drew ?_))); (case side2 => exact jo.out); rintro e w7 ⟨aw8, dn0, rfl, ac, b6, hb⟩; have dv := Aside0.mk (Kd.R_lower (Kd.R_mono (ok' := fun k_ => True) ac (fun _ hk_ => trivial)) (below_size (a7))); have dw := Aside0.mk (Kd.V_lower (Kd.V_mono (ok' := fun k_ => some k_ ≠ (aw8 : Value).ownBlock) b6 (fun k_ hk_ => hk_.2)) (below_size (a7))); replace HB := Aside0.mk (below_step (a7) hb); (try clear hb); (try clear hk hi); (try clear ac); (try clear b6)) | ((with_reducible refine gate_dst (N := 3) rfl ?_); (try (refine gate_guard (by rfl) ?_; dsimp only)); refine bx_ (N := 3) #[.slice none 0 0, .slice none 0 0] 25 ?_; intro bj hg w8 hbox hb; replace dv := Aside0.mk (Kd.R_below (uf1_ dv) hb); replace dw := Aside0.mk (Kd.V_below (Kd.V_elderB (uf5_ dw) bj (Nat.le_of_eq hg.symm)) hb); have au := Aside0.mk (hbox); have dn1 := Aside0.mk ((g8_ : w.heap.size ≤ bj)); have ck8 := Aside0.mk ((g8_ : w.heap.size ≤ bj)); replace HB := Aside0.mk (below_step (a7) hb); clear hb hbox hg; obtain ⟨am, al, qb⟩ := Kd.R_slice dv.out; subst qb; obtain ⟨m7, m8, m9, na⟩ := blk2_ au; obtain ⟨br, bn, qc⟩ := Kd.V_slice dw.out; subst qc) | (go_at_call 52; (with_reducible refine (impl_WithoutCircles.calls k _ _ av _ _ b1 ar aw l4 _ ?side1 ?side2 ?side3 ?side4 A4.out).mono ?_); (case side1 => refine (Kd.R_reads' (e := 3) (base := w.heap.size) (ok := fun k_ => True) (n := av.length) (c := al) ?_).2.2; exact (g13_)); (case side2 => exact (Kd.R_reads' dv.out).2.1); (case side3 => refine (Kd.V_reads' (e := 22) (base := w.heap.size) (ok := fun k_ => (some k_ ≠ (.slice am av.length al : Value).ownBlock ∧ k_ ≠ bj)) (n := b1.length) (c := bn) ?_).2.2; exact (g43_)); (case side4 => exact (Kd.V_reads' dw.out).2.1); rintro e o4 ⟨aw9, dn2, rfl, ac, b6, hb⟩; replace dw := Aside0.mk (Kd.V_mono (Kd.V_told (Kd.V_told (Kd.V_old (g43_) hb) (Kd.R_base ac)) (Kd.N_base (g11_))) (fun _ h_ => h_.1)); have em := Aside0.mk (Kd.R_lower (Kd.R_new' (Kd.R_mono (ok' := fun k_ => True) ac (fun _ hk_ => trivial)) (Kd.R_lt (g13_))) (below_size (a7))); have en := Aside0.mk (Kd.N_lower (Kd.N_mono (ok' := fun k_ => some k_ ≠ (aw9 : Value).ownBlock ∧ some k_ ≠ (.slice am av.length al : Value).ownBlock ∧ k_ ≠ bj) b6 (fun k_ hk_ => ⟨hk_.2, (Kd.fresh' (Kd.R_lt (g13_)) k_ hk_.1), (Kd.freshB (g := bj) (o := .cells #[.slice am av.length al, .slice br b1.length bn] 25 (0, 0)) (g44_) k_ hk_.1)⟩)) (below_size (a7))); replace dv := Aside0.mk (Kd.R_elder' (g13_) (Kd.R_base ac) hb); replace au := Aside0.mk (blk_below (g := bj) (o := .cells #[.slice am av.length al, .slice br b1.length bn] 25 (0, 0)) (g44_) hb); replace HB := Aside0.mk (below_step (a7) hb); (try clear hb); (try clear hk hi); (try clear ac); (try clear b6)) | ((with_reducible refine gate_dst (N := 4) rfl ?_); (try (refine gate_guard (by rfl) ?_; dsimp only)); refine bx_ (N := 4) #[.slice none 0 0, .slice none 0 0] 25 ?_; intro bm hg ld hbox hb; replace dv := Aside0.mk (Kd.R_below (uf1_ dv) hb); replace dw := Aside0.mk (Kd.V_below (Kd.V_elderB (uf5_ dw) bm (Nat.le_of_eq hg.symm)) hb); replace em := Aside0.mk (Kd.R_below (uf1_ em) hb); replace en := Aside0.mk (Kd.N_below (Kd.N_elderB (uf4_ en) bm (Nat.le_of_eq hg.symm)) hb); have ao := Aside0.mk (hbox); have dn3 := Aside0.mk ((g8_ : w.heap.size ≤ bm)); have ck9 := Aside0.mk ((g8_ : w.heap.size ≤ bm)); replace HB := Aside0.mk (below_step (a7) hb); have iq := Aside0.mk ((g45_ : bj ≠ bm)); have jl := Aside0.mk ((g46_ : bm ≠ bj)); replace au := bb_ au hb; clear hb hbox hg; obtain ⟨an, ak, j9⟩ := Kd.R_slice em.out; subst j9; have bm9 := jl.out; have bn0 := iq.out; obtain ⟨mu, mv, mw, my⟩ := blk2_ ao; obtain ⟨ba, a5, ku⟩ := Kd.N_slice en.out; subst ku; obtain ⟨mz, m0, m3, m4⟩ := blk2_ au) | (go_at_call 53; (with_reducible refine (spec_WithoutCircles.calls k _ _ av _ _ b1 bk b3 bp1 _ ?side1 ?side2 ?side3 ?side4 A5.out).mono ?_); (case side1 => refine (Kd.R_reads' (e := 3) (base := w.heap.size) (ok := fun k_ => (True ∧ some k_ ≠ (.slice an ar.length ak : Value).ownBlock)) (n := av.length) (c := al) ?_).2.2; exact (g14_)); (case side2 => exact (Kd.R_reads' dv.out).2.1); (case side3 => refine (Kd.V_reads' (e := 22) (base := w.heap.size) (ok := fun k_ => ((((some k_ ≠ (.slice am av.length al : Value).ownBlock ∧ k_ ≠ bj) ∧ some k_ ≠ (.slice an ar.length ak : Value).ownBlock) ∧ some k_ ≠ (.slice ba aw.length a5 : Value).ownBlock) ∧ k_ ≠ bm)) (n := b1.length) (c := bn) ?_).2.2; exact (g47_)); (case side4 => exact (Kd.V_reads' dw.out).2.1); rintro e te ⟨ax0, dn4, rfl, ac, b6, hb⟩; replace dw := Aside0.mk (Kd.V_mono (Kd.V_told (Kd.V_told (Kd.V_old (g47_) hb) (Kd.R_base ac)) (Kd.N_base (g11_))) (fun _ h_ => h_.1)); have gf := Aside0.mk (Kd.R_lower (Kd.R_new' (Kd.R_new' ac (Kd.R_lt (g14_))) (Kd.R_lt (g23_))) (below_size (a7))); have gg := Aside0.mk (Kd.N_lower (Kd.N_mono (ok' := fun k_ => some k_ ≠ (ax0 : Value).ownBlock ∧ some k_ ≠ (.slice am av.length al : Value).ownBlock ∧ some k_ ≠ (.slice an ar.length ak : Value).ownBlock ∧ some k_ ≠ (.slice ba aw.length a5 : Value).ownBlock ∧ k_ ≠ bj ∧ k_ ≠ bm) (Kd.S_N (Kd.S_bound b6)) (fun k_ hk_ => ⟨hk_.1, (Kd.fresh' (Kd.R_lt (g14_)) k_ hk_.2.1), (Kd.fresh' (Kd.R_lt (g23_)) k_ hk_.2.1), (Kd.fresh' (Kd.N_lt (g48_)) k_ hk_.2.1), (Kd.freshB (g := bj) (o := .cells #[.slice am av.length al, .slice br b1.length bn] 25 (0, 0)) (g49_) k_ hk_.2.1), (Kd.freshB (g := bm) (o := .cells #[.slice an ar.length ak, .slice ba aw.length a5] 25 (0, 0)) (g50_) k_ hk_.2.1)⟩)) (below_size (a7))); replace dv := Aside0.mk (Kd.R_elder' (g14_) (Kd.R_base ac) hb); replace em := Aside0.mk (Kd.R_elder' (g23_) (Kd.R_base ac) hb); replace en := Aside0.mk (Kd.N_mono (Kd.N_told (Kd.N_told (Kd.N_old (g48_) hb) (Kd.R_base ac)) (Kd.N_base (g11_))) (fun _ h_ => h_.1)); replace au := Aside0.mk (blk_below (g := bj) (o := .cells #[.slice am av.length al, .slice br b1.length bn] 25 (0, 0)) (g49_) hb); replace ao := Aside0.mk (blk_below (g := bm) (o := .cells #[.slice an ar.length ak, .slice ba aw.length a5] 25 (0, 0)) (g50_) hb); replace HB := Aside0.mk (below_step (a7) hb); (try clear hb); (try clear hk hi); (try clear ac); (try clear b6)) | ((with_reducible refine gate_dst (N := 6) rfl ?_); (try (refine gate_guard (by rfl) ?_; dsimp only)); refine bx_ (N := 6) #[.slice none 0 0, .slice none 0 0] 25 ?_; intro bp hg rr hbox hb; replace dv := Aside0.mk (Kd.R_below (uf1_ dv) hb); replace dw := Aside0.mk (Kd.V_below (Kd.V_elderB (uf5_ dw) bp (Nat.le_of_eq hg.symm)) hb); replace em := Aside0.mk (Kd.R_below (uf1_ em) hb); replace en := Aside0.mk (Kd.N_below (Kd.N_elderB (uf4_ en) bp (Nat.le_of_eq hg.symm)) hb); replace gf := Aside0.mk (Kd.R_below (uf1_ gf) hb); replace gg := Aside0.mk (Kd.N_below (Kd.N_elderB (uf4_ gg) bp (Nat.le_of_eq hg.symm)) hb); have az := Aside0.mk (hbox); have dn5 := Aside0.mk ((g8_ : w.heap.size ≤ bp)); have cl0 := Aside0.mk ((g8_ : w.heap.size ≤ bp)); replace HB := Aside0.mk (below_step (a7) hb); have i6 := Aside0.mk ((g45_ : bj ≠ bp)); have j3 := Aside0.mk ((g46_ : bp ≠ bj)); replace au := bb_ au hb; have j4 := Aside0.mk ((g91_ : bm ≠ bp)); have lj := Aside0.mk ((g92_ : bp ≠ bm)); replace ao := bb_ ao hb; clear hb hbox hg; obtain ⟨bc, a6, ab7⟩ := Kd.R_slice gf.out; subst ab7; have ci3 := j3.out; have ci4 := i6.out; have bm5 := lj.out; have bm6 := j4.out; obtain ⟨ra, rb, rc, re⟩ := blk2_ az; obtain ⟨bw, bt, qk⟩ := Kd.N_slice gg.out; subst qk)))
  (try simp only [Act.put, List.setIfInBounds_toArray, List.set_cons_zero, List.set_cons_succ])
  go_cut [36] (fun v36 wc => ∃ (kq : Nat) (bp2 : Bool), v36 = .bool bp2 ∧ Aside0 (laws_FnWithoutCircles.j0 kq l4 bp2 av b1 ar aw = some r) ∧ Aside0 (kq ≤ k) ∧ Aside0 (Kd.R (Kd.int .i64) 3 wc w.heap.size (fun k_ => some k_ ≠ ((.slice an ar.length ak) : Value).ownBlock ∧ some k_ ≠ ((.slice bc bk.length a6) : Value).ownBlock) (.slice am av.length al) av) ∧ Aside0 (Kd.V (Kd.slice 3 (Kd.int .i64)) 22 wc w.heap.size (fun k_ => some k_ ≠ ((.slice am av.length al) : Value).ownBlock ∧ some k_ ≠ ((.slice an ar.length ak) : Value).ownBlock ∧ some k_ ≠ ((.slice ba aw.length a5) : Value).ownBlock ∧ some k_ ≠ ((.slice bc bk.length a6) : Value).ownBlock ∧ some k_ ≠ ((.slice bw b3.length bt) : Value).ownBlock ∧ k_ ≠ bj ∧ k_ ≠ bm ∧ k_ ≠ bp) (.slice br b1.length bn) b1) ∧ Aside0 (Kd.R (Kd.int .i64) 3 wc w.heap.size (fun k_ => some k_ ≠ ((.slice am av.length al) : Value).ownBlock ∧ some k_ ≠ ((.slice bc bk.length a6) : Value).ownBlock) (.slice an ar.length ak) ar) ∧ Aside0 (Kd.N (Kd.slice 3 (Kd.int .i64)) 22 wc w.heap.size (fun k_ => some k_ ≠ ((.slice am av.length al) : Value).ownBlock ∧ some k_ ≠ ((.slice an ar.length ak) : Value).ownBlock ∧ some k_ ≠ ((.slice bc bk.length a6) : Value).ownBlock ∧ some k_ ≠ ((.slice bw b3.length bt) : Value).ownBlock ∧ k_ ≠ bj ∧ k_ ≠ bm ∧ k_ ≠ bp) (.slice ba aw.length a5) aw) ∧ Aside0 (Kd.R (Kd.int .i64) 3 wc w.heap.size (fun k_ => some k_ ≠ ((.slice am av.length al) : Value).ownBlock ∧ some k_ ≠ ((.slice an ar.length ak) : Value).ownBlock) (.slice bc bk.length a6) bk) ∧ Aside0 (Kd.N (Kd.slice 3 (Kd.int .i64)) 22 wc w.heap.size (fun k_ => some k_ ≠ ((.slice am av.length al) : Value).ownBlock ∧ some k_ ≠ ((.slice an ar.length ak) : Value).ownBlock ∧ some k_ ≠ ((.slice ba aw.length a5) : Value).ownBlock ∧ some k_ ≠ ((.slice bc bk.length a6) : Value).ownBlock ∧ k_ ≠ bj ∧ k_ ≠ bm ∧ k_ ≠ bp) (.slice bw b3.length bt) b3) ∧ Aside0 (wc.heap[bj]? = some (.cells #[(.slice am av.length al), (.slice br b1.length bn)] 25 (0, 0))) ∧ Aside0 (wc.heap[bm]? = some (.cells #[(.slice an ar.length ak), (.slice ba aw.length a5)] 25 (0, 0))) ∧ Aside0 (wc.heap[bp]? = some (.cells #[(.slice bc bk.length a6), (.slice bw b3.length bt)] 25 (0, 0))) ∧ Aside0 (Below w.heap.size w wc))
  case first =>
   have H := qh.out
   clear qh
   obtain ⟨aw7, pd, H⟩ := bind_ H
   by_cases ec : aw7 = true
   ·subst ec
    replace H := ifp_ H
    have H' := Aside0.mk H
    clear H
    have ci5 := jl.out
    have ci6 := iq.out
    have cc5 := j4.out
    have cc6 := lj.out
    obtain ⟨tp, tq, tr, ts⟩ := blk2_ ao
    have df9 := j3.out
    have dg0 := i6.out
    obtain ⟨xa, xb, xc, xd⟩ := blk2_ az
    go_wp2_with (first | (go_at_call 40; (with_reducible refine (laws_sameBook.calls k _ _ ar _ _ aw _ _ bk _ _ b3 true _ ?side1 ?side2 ?side3 ?side4 ?side5 ?side6 ?side7 ?side8 pd.out).mono ?_); (case side1 => refine (Kd.R_reads' (e := 3) (base := w.heap.size) (ok := fun k_ => ((True ∧ some k_ ≠ (.slice am av.length al : Value).ownBlock) ∧ some k_ ≠ (.slice bc bk.length a6 : Value).ownBlock)) (n := ar.length) (c := ak) ?_).2.2; exact (g15_)); (case side2 => exact (Kd.R_reads' em.out).2.1); (case side3 => refine (Kd.N_reads' (e := 22) (base := w.heap.size) (ok := fun k_ => (((((some k_ ≠ (.slice an ar.length ak : Value).ownBlock ∧ (some k_ ≠ (.slice am av.length al : Value).ownBlock ∧ k_ ≠ bj)) ∧ k_ ≠ bm) ∧ some k_ ≠ (.slice bc bk.length a6 : Value).ownBlock) ∧ some k_ ≠ (.slice bw b3.length bt : Value).ownBlock) ∧ k_ ≠ bp)) (n := aw.length) (c := a5) ?_).2.2; exact (g16_)); (case side4 => exact (Kd.N_reads' en.out).2.1); (case side5 => refine (Kd.R_reads' (e := 3) (base := w.heap.size) (ok := fun k_ => ((True ∧ some k_ ≠ (.slice am av.length al : Value).ownBlock) ∧ some k_ ≠ (.slice an ar.length ak : Value).ownBlock)) (n := bk.length) (c := a6) ?_).2.2; exact (g17_)); (case side6 => exact (Kd.R_reads' gf.out).2.1); (case side7 => refine (Kd.N_reads' (e := 22) (base := w.heap.size) (ok := fun k_ => ((some k_ ≠ (.slice bc bk.length a6 : Value).ownBlock ∧ (some k_ ≠ (.slice am av.length al : Value).ownBlock ∧ (some k_ ≠ (.slice an ar.length ak : Value).ownBlock ∧ (some k_ ≠ (.slice ba aw.length a5 : Value).ownBlock ∧ (k_ ≠ bj ∧ k_ ≠ bm))))) ∧ k_ ≠ bp)) (n := b3.length) (c := bt) ?_).2.2; exact (g18_)); (case side8 => exact (Kd.N_reads' gg.out).2.1); rintro e w33 ⟨rfl, hb⟩; replace dv := Aside0.mk (Kd.R_below (g51_) hb); replace dw := Aside0.mk (Kd.V_below (g52_) hb); replace em := Aside0.mk (Kd.R_below (g15_) hb); replace en := Aside0.mk (Kd.N_below (g16_) hb); replace gf := Aside0.mk (Kd.R_below (g17_) hb); replace gg := Aside0.mk (Kd.N_below (g18_) hb); replace au := Aside0.mk (blk_below (g := bj) (o := .cells #[.slice am av.length al, .slice br b1.length bn] 25 (0, 0)) (g53_) hb); replace ao := Aside0.mk (blk_below (g := bm) (o := .cells #[.slice an ar.length ak, .slice ba aw.length a5] 25 (0, 0)) (g54_) hb); replace az := Aside0.mk (blk_below (g := bp) (o := .cells #[.slice bc bk.length a6, .slice bw b3.length bt] 25 (0, 0)) (g55_) hb); replace HB := Aside0.mk (below_step (a7) hb); (try clear hb); (try clear hk hi)))
    repeat (go_quiet (first | (go_at_call 40; (with_reducible refine (laws_sameBook.calls k _ _ ar _ _ aw _ _ bk _ _ b3 true _ ?side1 ?side2 ?side3 ?side4 ?side5 ?side6 ?side7 ?side8 pd.out).mono ?_); (case side1 => refine (Kd.R_reads' (e := 3) (base := w.heap.size) (ok := fun k_ => ((True ∧ some k_ ≠ (.slice am av.length al : Value).ownBlock) ∧ some k_ ≠ (.slice bc bk.length a6 : Value).ownBlock)) (n := ar.length) (c := ak) ?_).2.2; exact (g15_)); (case side2 => exact (Kd.R_reads' em.out).2.1); (case side3 => refine (Kd.N_reads' (e := 22) (base := w.heap.size) (ok := fun k_ => (((((some k_ ≠ (.slice an ar.length ak : Value).ownBlock ∧ (some k_ ≠ (.slice am av.length al : Value).ownBlock ∧ k_ ≠ bj)) ∧ k_ ≠ bm) ∧ some k_ ≠ (.slice bc bk.length a6 : Value).ownBlock) ∧ some k_ ≠ (.slice bw b3.length bt : Value).ownBlock) ∧ k_ ≠ bp)) (n := aw.length) (c := a5) ?_).2.2; exact (g16_)); (case side4 => exact (Kd.N_reads' en.out).2.1); (case side5 => refine (Kd.R_reads' (e := 3) (base := w.heap.size) (ok := fun k_ => ((True ∧ some k_ ≠ (.slice am av.length al : Value).ownBlock) ∧ some k_ ≠ (.slice an ar.length ak : Value).ownBlock)) (n := bk.length) (c := a6) ?_).2.2; exact (g17_)); (case side6 => exact (Kd.R_reads' gf.out).2.1); (case side7 => refine (Kd.N_reads' (e := 22) (base := w.heap.size) (ok := fun k_ => ((some k_ ≠ (.slice bc bk.length a6 : Value).ownBlock ∧ (some k_ ≠ (.slice am av.length al : Value).ownBlock ∧ (some k_ ≠ (.slice an ar.length ak : Value).ownBlock ∧ (some k_ ≠ (.slice ba aw.length a5 : Value).ownBlock ∧ (k_ ≠ bj ∧ k_ ≠ bm))))) ∧ k_ ≠ bp)) (n := b3.length) (c := bt) ?_).2.2; exact (g18_)); (case side8 => exact (Kd.N_reads' gg.out).2.1); rintro e w33 ⟨rfl, hb⟩; replace dv := Aside0.mk (Kd.R_below (g51_) hb); replace dw := Aside0.mk (Kd.V_below (g52_) hb); replace em := Aside0.mk (Kd.R_below (g15_) hb); replace en := Aside0.mk (Kd.N_below (g16_) hb); replace gf := Aside0.mk (Kd.R_below (g17_) hb); replace gg := Aside0.mk (Kd.N_below (g18_) hb); replace au := Aside0.mk (blk_below (g := bj) (o := .cells #[.slice am av.length al, .slice br b1.length bn] 25 (0, 0)) (g53_) hb); replace ao := Aside0.mk (blk_below (g := bm) (o := .cells #[.slice an ar.length ak, .slice ba aw.length a5] 25 (0, 0)) (g54_) hb); replace az := Aside0.mk (blk_below (g := bp) (o := .cells #[.slice bc bk.length a6, .slice bw b3.length bt] 25 (0, 0)) (g55_) hb); replace HB := Aside0.mk (below_step (a7) hb); (try clear hb); (try clear hk hi))); try go_wp2_with (first | (go_at_call 40; (with_reducible refine (laws_sameBook.calls k _ _ ar _ _ aw _ _ bk _ _ b3 true _ ?side1 ?side2 ?side3 ?side4 ?side5 ?side6 ?side7 ?side8 pd.out).mono ?_); (case side1 => refine (Kd.R_reads' (e := 3) (base := w.heap.size) (ok := fun k_ => ((True ∧ some k_ ≠ (.slice am av.length al : Value).ownBlock) ∧ some k_ ≠ (.slice bc bk.length a6 : Value).ownBlock)) (n := ar.length) (c := ak) ?_).2.2; exact (g15_)); (case side2 => exact (Kd.R_reads' em.out).2.1); (case side3 => refine (Kd.N_reads' (e := 22) (base := w.heap.size) (ok := fun k_ => (((((some k_ ≠ (.slice an ar.length ak : Value).ownBlock ∧ (some k_ ≠ (.slice am av.length al : Value).ownBlock ∧ k_ ≠ bj)) ∧ k_ ≠ bm) ∧ some k_ ≠ (.slice bc bk.length a6 : Value).ownBlock) ∧ some k_ ≠ (.slice bw b3.length bt : Value).ownBlock) ∧ k_ ≠ bp)) (n := aw.length) (c := a5) ?_).2.2; exact (g16_)); (case side4 => exact (Kd.N_reads' en.out).2.1); (case side5 => refine (Kd.R_reads' (e := 3) (base := w.heap.size) (ok := fun k_ => ((True ∧ some k_ ≠ (.slice am av.length al : Value).ownBlock) ∧ some k_ ≠ (.slice an ar.length ak : Value).ownBlock)) (n := bk.length) (c := a6) ?_).2.2; exact (g17_)); (case side6 => exact (Kd.R_reads' gf.out).2.1); (case side7 => refine (Kd.N_reads' (e := 22) (base := w.heap.size) (ok := fun k_ => ((some k_ ≠ (.slice bc bk.length a6 : Value).ownBlock ∧ (some k_ ≠ (.slice am av.length al : Value).ownBlock ∧ (some k_ ≠ (.slice an ar.length ak : Value).ownBlock ∧ (some k_ ≠ (.slice ba aw.length a5 : Value).ownBlock ∧ (k_ ≠ bj ∧ k_ ≠ bm))))) ∧ k_ ≠ bp)) (n := b3.length) (c := bt) ?_).2.2; exact (g18_)); (case side8 => exact (Kd.N_reads' gg.out).2.1); rintro e w33 ⟨rfl, hb⟩; replace dv := Aside0.mk (Kd.R_below (g51_) hb); replace dw := Aside0.mk (Kd.V_below (g52_) hb); replace em := Aside0.mk (Kd.R_below (g15_) hb); replace en := Aside0.mk (Kd.N_below (g16_) hb); replace gf := Aside0.mk (Kd.R_below (g17_) hb); replace gg := Aside0.mk (Kd.N_below (g18_) hb); replace au := Aside0.mk (blk_below (g := bj) (o := .cells #[.slice am av.length al, .slice br b1.length bn] 25 (0, 0)) (g53_) hb); replace ao := Aside0.mk (blk_below (g := bm) (o := .cells #[.slice an ar.length ak, .slice ba aw.length a5] 25 (0, 0)) (g54_) hb); replace az := Aside0.mk (blk_below (g := bp) (o := .cells #[.slice bc bk.length a6, .slice bw b3.length bt] 25 (0, 0)) (g55_) hb); replace HB := Aside0.mk (below_step (a7) hb); (try clear hb); (try clear hk hi))))
    go_meet
    case rel => exact ⟨_, ((l4 != bp1)), (g2_), H', ⟨g12_⟩, ⟨by (with_reducible repeat (first | apply Kd.R_alloc | apply Kd.R_drewN | apply Kd.R_drew)); exact Kd.R_mono dv.out (fun _ hk => ⟨hk.1.2, hk.2⟩)⟩, ⟨by (with_reducible repeat (first | apply Kd.V_alloc | apply Kd.V_drewN | apply Kd.V_drew)); exact Kd.V_mono dw.out (fun _ hk => ⟨hk.1.1.1.1.1.1.1, ⟨hk.1.1.1.1.1.2, ⟨hk.1.1.1.1.2, ⟨hk.1.1.2, ⟨hk.1.2, ⟨hk.1.1.1.1.1.1.2, ⟨hk.1.1.1.2, hk.2⟩⟩⟩⟩⟩⟩⟩)⟩, ⟨by (with_reducible repeat (first | apply Kd.R_alloc | apply Kd.R_drewN | apply Kd.R_drew)); exact Kd.R_mono em.out (fun _ hk => ⟨hk.1.2, hk.2⟩)⟩, ⟨by (with_reducible repeat (first | apply Kd.N_alloc | apply Kd.N_drewN | apply Kd.N_drew)); exact Kd.N_mono en.out (fun _ hk => ⟨hk.1.1.1.1.2.1, ⟨hk.1.1.1.1.1, ⟨hk.1.1.2, ⟨hk.1.2, ⟨hk.1.1.1.1.2.2, ⟨hk.1.1.1.2, hk.2⟩⟩⟩⟩⟩⟩)⟩, ⟨by (with_reducible repeat (first | apply Kd.R_alloc | apply Kd.R_drewN | apply Kd.R_drew)); exact Kd.R_mono gf.out (fun _ hk => ⟨hk.1.2, hk.2⟩)⟩, ⟨by (with_reducible repeat (first | apply Kd.N_alloc | apply Kd.N_drewN | apply Kd.N_drew)); exact Kd.N_mono gg.out (fun _ hk => ⟨hk.1.2.1, ⟨hk.1.2.2.1, ⟨hk.1.2.2.2.1, ⟨hk.1.1, ⟨hk.1.2.2.2.2.1, ⟨hk.1.2.2.2.2.2, hk.2⟩⟩⟩⟩⟩⟩)⟩, ⟨uf0_ au⟩, ⟨uf0_ ao⟩, ⟨uf0_ az⟩, ⟨a7⟩⟩
   ·replace ec := Bool.eq_false_iff.mpr ec
    subst ec
    replace H := ifn_ H
    have H' := Aside0.mk H
    clear H
    have ez0 := jl.out
    have ez1 := iq.out
    have ez2 := j4.out
    have ez3 := lj.out
    obtain ⟨ab8, ab9, ac0, ac1⟩ := blk2_ ao
    have ez4 := j3.out
    have ez5 := i6.out
    obtain ⟨ty, tz, t1, t2⟩ := blk2_ az
    go_wp2_with (first | (go_at_call 40; (with_reducible refine (laws_sameBook.calls k _ _ ar _ _ aw _ _ bk _ _ b3 false _ ?side1 ?side2 ?side3 ?side4 ?side5 ?side6 ?side7 ?side8 pd.out).mono ?_); (case side1 => refine (Kd.R_reads' (e := 3) (base := w.heap.size) (ok := fun k_ => ((True ∧ some k_ ≠ (.slice am av.length al : Value).ownBlock) ∧ some k_ ≠ (.slice bc bk.length a6 : Value).ownBlock)) (n := ar.length) (c := ak) ?_).2.2; exact (g15_)); (case side2 => exact (Kd.R_reads' em.out).2.1); (case side3 => refine (Kd.N_reads' (e := 22) (base := w.heap.size) (ok := fun k_ => (((((some k_ ≠ (.slice an ar.length ak : Value).ownBlock ∧ (some k_ ≠ (.slice am av.length al : Value).ownBlock ∧ k_ ≠ bj)) ∧ k_ ≠ bm) ∧ some k_ ≠ (.slice bc bk.length a6 : Value).ownBlock) ∧ some k_ ≠ (.slice bw b3.length bt : Value).ownBlock) ∧ k_ ≠ bp)) (n := aw.length) (c := a5) ?_).2.2; exact (g16_)); (case side4 => exact (Kd.N_reads' en.out).2.1); (case side5 => refine (Kd.R_reads' (e := 3) (base := w.heap.size) (ok := fun k_ => ((True ∧ some k_ ≠ (.slice am av.length al : Value).ownBlock) ∧ some k_ ≠ (.slice an ar.length ak : Value).ownBlock)) (n := bk.length) (c := a6) ?_).2.2; exact (g17_)); (case side6 => exact (Kd.R_reads' gf.out).2.1); (case side7 => refine (Kd.N_reads' (e := 22) (base := w.heap.size) (ok := fun k_ => ((some k_ ≠ (.slice bc bk.length a6 : Value).ownBlock ∧ (some k_ ≠ (.slice am av.length al : Value).ownBlock ∧ (some k_ ≠ (.slice an ar.length ak : Value).ownBlock ∧ (some k_ ≠ (.slice ba aw.length a5 : Value).ownBlock ∧ (k_ ≠ bj ∧ k_ ≠ bm))))) ∧ k_ ≠ bp)) (n := b3.length) (c := bt) ?_).2.2; exact (g18_)); (case side8 => exact (Kd.N_reads' gg.out).2.1); rintro e w39 ⟨rfl, hb⟩; replace dv := Aside0.mk (Kd.R_below (g51_) hb); replace dw := Aside0.mk (Kd.V_below (g52_) hb); replace em := Aside0.mk (Kd.R_below (g15_) hb); replace en := Aside0.mk (Kd.N_below (g16_) hb); replace gf := Aside0.mk (Kd.R_below (g17_) hb); replace gg := Aside0.mk (Kd.N_below (g18_) hb); replace au := Aside0.mk (blk_below (g := bj) (o := .cells #[.slice am av.length al, .slice br b1.length bn] 25 (0, 0)) (g53_) hb); replace ao := Aside0.mk (blk_below (g := bm) (o := .cells #[.slice an ar.length ak, .slice ba aw.length a5] 25 (0, 0)) (g54_) hb); replace az := Aside0.mk (blk_below (g := bp) (o := .cells #[.slice bc bk.length a6, .slice bw b3.length bt] 25 (0, 0)) (g55_) hb); replace HB := Aside0.mk (below_step (a7) hb); (try clear hb); (try clear hk hi)))
    repeat (go_quiet (first | (go_at_call 40; (with_reducible refine (laws_sameBook.calls k _ _ ar _ _ aw _ _ bk _ _ b3 false _ ?side1 ?side2 ?side3 ?side4 ?side5 ?side6 ?side7 ?side8 pd.out).mono ?_); (case side1 => refine (Kd.R_reads' (e := 3) (base := w.heap.size) (ok := fun k_ => ((True ∧ some k_ ≠ (.slice am av.length al : Value).ownBlock) ∧ some k_ ≠ (.slice bc bk.length a6 : Value).ownBlock)) (n := ar.length) (c := ak) ?_).2.2; exact (g15_)); (case side2 => exact (Kd.R_reads' em.out).2.1); (case side3 => refine (Kd.N_reads' (e := 22) (base := w.heap.size) (ok := fun k_ => (((((some k_ ≠ (.slice an ar.length ak : Value).ownBlock ∧ (some k_ ≠ (.slice am av.length al : Value).ownBlock ∧ k_ ≠ bj)) ∧ k_ ≠ bm) ∧ some k_ ≠ (.slice bc bk.length a6 : Value).ownBlock) ∧ some k_ ≠ (.slice bw b3.length bt : Value).ownBlock) ∧ k_ ≠ bp)) (n := aw.length) (c := a5) ?_).2.2; exact (g16_)); (case side4 => exact (Kd.N_reads' en.out).2.1); (case side5 => refine (Kd.R_reads' (e := 3) (base := w.heap.size) (ok := fun k_ => ((True ∧ some k_ ≠ (.slice am av.length al : Value).ownBlock) ∧ some k_ ≠ (.slice an ar.length ak : Value).ownBlock)) (n := bk.length) (c := a6) ?_).2.2; exact (g17_)); (case side6 => exact (Kd.R_reads' gf.out).2.1); (case side7 => refine (Kd.N_reads' (e := 22) (base := w.heap.size) (ok := fun k_ => ((some k_ ≠ (.slice bc bk.length a6 : Value).ownBlock ∧ (some k_ ≠ (.slice am av.length al : Value).ownBlock ∧ (some k_ ≠ (.slice an ar.length ak : Value).ownBlock ∧ (some k_ ≠ (.slice ba aw.length a5 : Value).ownBlock ∧ (k_ ≠ bj ∧ k_ ≠ bm))))) ∧ k_ ≠ bp)) (n := b3.length) (c := bt) ?_).2.2; exact (g18_)); (case side8 => exact (Kd.N_reads' gg.out).2.1); rintro e w39 ⟨rfl, hb⟩; replace dv := Aside0.mk (Kd.R_below (g51_) hb); replace dw := Aside0.mk (Kd.V_below (g52_) hb); replace em := Aside0.mk (Kd.R_below (g15_) hb); replace en := Aside0.mk (Kd.N_below (g16_) hb); replace gf := Aside0.mk (Kd.R_below (g17_) hb); replace gg := Aside0.mk (Kd.N_below (g18_) hb); replace au := Aside0.mk (blk_below (g := bj) (o := .cells #[.slice am av.length al, .slice br b1.length bn] 25 (0, 0)) (g53_) hb); replace ao := Aside0.mk (blk_below (g := bm) (o := .cells #[.slice an ar.length ak, .slice ba aw.length a5] 25 (0, 0)) (g54_) hb); replace az := Aside0.mk (blk_below (g := bp) (o := .cells #[.slice bc bk.length a6, .slice bw b3.length bt] 25 (0, 0)) (g55_) hb); replace HB := Aside0.mk (below_step (a7) hb); (try clear hb); (try clear hk hi))); try go_wp2_with (first | (go_at_call 40; (with_reducible refine (laws_sameBook.calls k _ _ ar _ _ aw _ _ bk _ _ b3 false _ ?side1 ?side2 ?side3 ?side4 ?side5 ?side6 ?side7 ?side8 pd.out).mono ?_); (case side1 => refine (Kd.R_reads' (e := 3) (base := w.heap.size) (ok := fun k_ => ((True ∧ some k_ ≠ (.slice am av.length al : Value).ownBlock) ∧ some k_ ≠ (.slice bc bk.length a6 : Value).ownBlock)) (n := ar.length) (c := ak) ?_).2.2; exact (g15_)); (case side2 => exact (Kd.R_reads' em.out).2.1); (case side3 => refine (Kd.N_reads' (e := 22) (base := w.heap.size) (ok := fun k_ => (((((some k_ ≠ (.slice an ar.length ak : Value).ownBlock ∧ (some k_ ≠ (.slice am av.length al : Value).ownBlock ∧ k_ ≠ bj)) ∧ k_ ≠ bm) ∧ some k_ ≠ (.slice bc bk.length a6 : Value).ownBlock) ∧ some k_ ≠ (.slice bw b3.length bt : Value).ownBlock) ∧ k_ ≠ bp)) (n := aw.length) (c := a5) ?_).2.2; exact (g16_)); (case side4 => exact (Kd.N_reads' en.out).2.1); (case side5 => refine (Kd.R_reads' (e := 3) (base := w.heap.size) (ok := fun k_ => ((True ∧ some k_ ≠ (.slice am av.length al : Value).ownBlock) ∧ some k_ ≠ (.slice an ar.length ak : Value).ownBlock)) (n := bk.length) (c := a6) ?_).2.2; exact (g17_)); (case side6 => exact (Kd.R_reads' gf.out).2.1); (case side7 => refine (Kd.N_reads' (e := 22) (base := w.heap.size) (ok := fun k_ => ((some k_ ≠ (.slice bc bk.length a6 : Value).ownBlock ∧ (some k_ ≠ (.slice am av.length al : Value).ownBlock ∧ (some k_ ≠ (.slice an ar.length ak : Value).ownBlock ∧ (some k_ ≠ (.slice ba aw.length a5 : Value).ownBlock ∧ (k_ ≠ bj ∧ k_ ≠ bm))))) ∧ k_ ≠ bp)) (n := b3.length) (c := bt) ?_).2.2; exact (g18_)); (case side8 => exact (Kd.N_reads' gg.out).2.1); rintro e w39 ⟨rfl, hb⟩; replace dv := Aside0.mk (Kd.R_below (g51_) hb); replace dw := Aside0.mk (Kd.V_below (g52_) hb); replace em := Aside0.mk (Kd.R_below (g15_) hb); replace en := Aside0.mk (Kd.N_below (g16_) hb); replace gf := Aside0.mk (Kd.R_below (g17_) hb); replace gg := Aside0.mk (Kd.N_below (g18_) hb); replace au := Aside0.mk (blk_below (g := bj) (o := .cells #[.slice am av.length al, .slice br b1.length bn] 25 (0, 0)) (g53_) hb); replace ao := Aside0.mk (blk_below (g := bm) (o := .cells #[.slice an ar.length ak, .slice ba aw.length a5] 25 (0, 0)) (g54_) hb); replace az := Aside0.mk (blk_below (g := bp) (o := .cells #[.slice bc bk.length a6, .slice bw b3.length bt] 25 (0, 0)) (g55_) hb); replace HB := Aside0.mk (below_step (a7) hb); (try clear hb); (try clear hk hi))))
    go_meet
    case rel => exact ⟨_, (true), (g2_), H', ⟨g12_⟩, ⟨by (with_reducible repeat (first | apply Kd.R_alloc | apply Kd.R_drewN | apply Kd.R_drew)); exact Kd.R_mono dv.out (fun _ hk => ⟨hk.1.2, hk.2⟩)⟩, ⟨by (with_reducible repeat (first | apply Kd.V_alloc | apply Kd.V_drewN | apply Kd.V_drew)); exact Kd.V_mono dw.out (fun _ hk => ⟨hk.1.1.1.1.1.1.1, ⟨hk.1.1.1.1.1.2, ⟨hk.1.1.1.1.2, ⟨hk.1.1.2, ⟨hk.1.2, ⟨hk.1.1.1.1.1.1.2, ⟨hk.1.1.1.2, hk.2⟩⟩⟩⟩⟩⟩⟩)⟩, ⟨by (with_reducible repeat (first | apply Kd.R_alloc | apply Kd.R_drewN | apply Kd.R_drew)); exact Kd.R_mono em.out (fun _ hk => ⟨hk.1.2, hk.2⟩)⟩, ⟨by (with_reducible repeat (first | apply Kd.N_alloc | apply Kd.N_drewN | apply Kd.N_drew)); exact Kd.N_mono en.out (fun _ hk => ⟨hk.1.1.1.1.2.1, ⟨hk.1.1.1.1.1, ⟨hk.1.1.2, ⟨hk.1.2, ⟨hk.1.1.1.1.2.2, ⟨hk.1.1.1.2, hk.2⟩⟩⟩⟩⟩⟩)⟩, ⟨by (with_reducible repeat (first | apply Kd.R_alloc | apply Kd.R_drewN | apply Kd.R_drew)); exact Kd.R_mono gf.out (fun _ hk => ⟨hk.1.2, hk.2⟩)⟩, ⟨by (with_reducible repeat (first | apply Kd.N_alloc | apply Kd.N_drewN | apply Kd.N_drew)); exact Kd.N_mono gg.out (fun _ hk => ⟨hk.1.2.1, ⟨hk.1.2.2.1, ⟨hk.1.2.2.2.1, ⟨hk.1.1, ⟨hk.1.2.2.2.2.1, ⟨hk.1.2.2.2.2.2, hk.2⟩⟩⟩⟩⟩⟩)⟩, ⟨uf0_ au⟩, ⟨uf0_ ao⟩, ⟨uf0_ az⟩, ⟨a7⟩⟩
  case rest =>
   clear qh
   try clear c1
   try clear c2
   try clear iu
   try clear km
   try clear p2
   try clear c3
   try clear db
   try clear cb
   try clear jc
   try clear ff
   try clear ec
   try clear ib
   try clear la
   try clear jt
   try clear jr
   try clear g9
   try clear q9
   try clear m7
   try clear m8
   try clear mu
   try clear mv
   try clear mz
   try clear m0
   try clear ra
   try clear rb
   try clear tp
   try clear tq
   try clear xa
   try clear xb
   try clear ab8
   try clear ab9
   try clear ty
   try clear tz
   try clear m9
   try clear na
   try clear mw
   try clear my
   try clear m3
   try clear m4
   try clear rc
   try clear re
   try clear tr
   try clear ts
   try clear xc
   try clear xd
   try clear ac0
   try clear ac1
   try clear t1
   try clear t2
   obtain ⟨kq, bp2, rfl, HA, HJ5, ay, bd, ai, aj, a9, bg, au, ao, az, HB⟩ := hcut
   cases kq with
   | zero => exact absurd HA.out (by simp [laws_FnWithoutCircles.j0])
   | succ kj5 =>
    have H := HA.out
    clear HA
    simp only [laws_FnWithoutCircles.j0] at H
    by_cases lv : bp2 = true
    ·subst lv
     replace H := ifp_ H
     obtain rfl := Option.some.inj H
     go_wp2
     repeat (go_quiet (fail); try go_wp2)
     go_ret
     exact ⟨g4_, a7⟩
    ·replace lv := Bool.eq_false_iff.mpr lv
     subst lv
     replace H := ifn_ H
     by_cases gc : l4 < 0
     ·rw [if_pos gc] at H
      have zq := decide_eq_true gc
      clear gc
      by_cases nj : l4 = (-1)
      ·rw [if_pos nj] at H
       have ax1 : (l4 == (-1)) = true := beq_iff_eq.mpr nj
       have ax2 : (l4 != (-1)) = false := bne_eq_false_iff_eq.mpr nj
       clear nj
       obtain ⟨ck5, A43, H⟩ := bind_ H
       by_cases xi : ck5 = true
       ·subst xi
        replace H := ifp_ H
        obtain ⟨aw5, wt, H⟩ := bind_ H
        obtain rfl := Option.some.inj H
        have gm3 := jl.out
        have gm4 := iq.out
        have fd8 := j4.out
        have fd9 := lj.out
        obtain ⟨aw1, aw2, aw3, aw4⟩ := blk2_ ao
        go_wp2_with (first | (go_at_call 43; (with_reducible refine (laws_noBook.calls kj5 _ _ ar _ _ aw true _ ?side1 ?side2 ?side3 ?side4 A43.out).mono ?_); (case side1 => repeat (first | exact (Kd.R_reads' ai.out).2.2 | (with_reducible refine Kd.C_alloc ?_ _) | (with_reducible refine Kd.C_drewN ?_ _) | (with_reducible refine Kd.C_drew ?_))); (case side2 => exact (Kd.R_reads' ai.out).2.1); (case side3 => repeat (first | exact (Kd.N_reads' aj.out).2.2 | (with_reducible refine Kd.C_alloc ?_ _) | (with_reducible refine Kd.C_drewN ?_ _) | (with_reducible refine Kd.C_drew ?_))); (case side4 => exact (Kd.N_reads' aj.out).2.1); rintro e w49 ⟨rfl, hb⟩; replace ay := Aside0.mk (Kd.R_below (uf1_ ay) hb); replace bd := Aside0.mk (Kd.V_below (uf5_ bd) hb); replace ai := Aside0.mk (Kd.R_below (uf1_ ai) hb); replace aj := Aside0.mk (Kd.N_below (uf4_ aj) hb); replace a9 := Aside0.mk (Kd.R_below (uf1_ a9) hb); replace bg := Aside0.mk (Kd.N_below (uf4_ bg) hb); replace au := bb_ au hb; replace ao := bb_ ao hb; replace az := bb_ az hb; replace HB := Aside0.mk (below_step (a7) hb); (try clear hb); (try clear hk hi)) | (go_at_call 23; (with_reducible refine (laws_alive.calls kj5  aw5 _ wt.out).mono ?_); rintro e w50 ⟨rfl, hb⟩; replace ay := Aside0.mk (Kd.R_below (uf1_ ay) hb); replace bd := Aside0.mk (Kd.V_below (uf5_ bd) hb); replace ai := Aside0.mk (Kd.R_below (uf1_ ai) hb); replace aj := Aside0.mk (Kd.N_below (uf4_ aj) hb); replace a9 := Aside0.mk (Kd.R_below (uf1_ a9) hb); replace bg := Aside0.mk (Kd.N_below (uf4_ bg) hb); replace au := bb_ au hb; replace ao := bb_ ao hb; replace az := bb_ az hb; replace HB := Aside0.mk (below_step (a7) hb); (try clear hb); (try clear hk hi)))
        repeat (go_quiet (first | (go_at_call 43; (with_reducible refine (laws_noBook.calls kj5 _ _ ar _ _ aw true _ ?side1 ?side2 ?side3 ?side4 A43.out).mono ?_); (case side1 => repeat (first | exact (Kd.R_reads' ai.out).2.2 | (with_reducible refine Kd.C_alloc ?_ _) | (with_reducible refine Kd.C_drewN ?_ _) | (with_reducible refine Kd.C_drew ?_))); (case side2 => exact (Kd.R_reads' ai.out).2.1); (case side3 => repeat (first | exact (Kd.N_reads' aj.out).2.2 | (with_reducible refine Kd.C_alloc ?_ _) | (with_reducible refine Kd.C_drewN ?_ _) | (with_reducible refine Kd.C_drew ?_))); (case side4 => exact (Kd.N_reads' aj.out).2.1); rintro e w49 ⟨rfl, hb⟩; replace ay := Aside0.mk (Kd.R_below (uf1_ ay) hb); replace bd := Aside0.mk (Kd.V_below (uf5_ bd) hb); replace ai := Aside0.mk (Kd.R_below (uf1_ ai) hb); replace aj := Aside0.mk (Kd.N_below (uf4_ aj) hb); replace a9 := Aside0.mk (Kd.R_below (uf1_ a9) hb); replace bg := Aside0.mk (Kd.N_below (uf4_ bg) hb); replace au := bb_ au hb; replace ao := bb_ ao hb; replace az := bb_ az hb; replace HB := Aside0.mk (below_step (a7) hb); (try clear hb); (try clear hk hi)) | (go_at_call 23; (with_reducible refine (laws_alive.calls kj5  aw5 _ wt.out).mono ?_); rintro e w50 ⟨rfl, hb⟩; replace ay := Aside0.mk (Kd.R_below (uf1_ ay) hb); replace bd := Aside0.mk (Kd.V_below (uf5_ bd) hb); replace ai := Aside0.mk (Kd.R_below (uf1_ ai) hb); replace aj := Aside0.mk (Kd.N_below (uf4_ aj) hb); replace a9 := Aside0.mk (Kd.R_below (uf1_ a9) hb); replace bg := Aside0.mk (Kd.N_below (uf4_ bg) hb); replace au := bb_ au hb; replace ao := bb_ ao hb; replace az := bb_ az hb; replace HB := Aside0.mk (below_step (a7) hb); (try clear hb); (try clear hk hi))); try go_wp2_with (first | (go_at_call 43; (with_reducible refine (laws_noBook.calls kj5 _ _ ar _ _ aw true _ ?side1 ?side2 ?side3 ?side4 A43.out).mono ?_); (case side1 => repeat (first | exact (Kd.R_reads' ai.out).2.2 | (with_reducible refine Kd.C_alloc ?_ _) | (with_reducible refine Kd.C_drewN ?_ _) | (with_reducible refine Kd.C_drew ?_))); (case side2 => exact (Kd.R_reads' ai.out).2.1); (case side3 => repeat (first | exact (Kd.N_reads' aj.out).2.2 | (with_reducible refine Kd.C_alloc ?_ _) | (with_reducible refine Kd.C_drewN ?_ _) | (with_reducible refine Kd.C_drew ?_))); (case side4 => exact (Kd.N_reads' aj.out).2.1); rintro e w49 ⟨rfl, hb⟩; replace ay := Aside0.mk (Kd.R_below (uf1_ ay) hb); replace bd := Aside0.mk (Kd.V_below (uf5_ bd) hb); replace ai := Aside0.mk (Kd.R_below (uf1_ ai) hb); replace aj := Aside0.mk (Kd.N_below (uf4_ aj) hb); replace a9 := Aside0.mk (Kd.R_below (uf1_ a9) hb); replace bg := Aside0.mk (Kd.N_below (uf4_ bg) hb); replace au := bb_ au hb; replace ao := bb_ ao hb; replace az := bb_ az hb; replace HB := Aside0.mk (below_step (a7) hb); (try clear hb); (try clear hk hi)) | (go_at_call 23; (with_reducible refine (laws_alive.calls kj5  aw5 _ wt.out).mono ?_); rintro e w50 ⟨rfl, hb⟩; replace ay := Aside0.mk (Kd.R_below (uf1_ ay) hb); replace bd := Aside0.mk (Kd.V_below (uf5_ bd) hb); replace ai := Aside0.mk (Kd.R_below (uf1_ ai) hb); replace aj := Aside0.mk (Kd.N_below (uf4_ aj) hb); replace a9 := Aside0.mk (Kd.R_below (uf1_ a9) hb); replace bg := Aside0.mk (Kd.N_below (uf4_ bg) hb); replace au := bb_ au hb; replace ao := bb_ ao hb; replace az := bb_ az hb; replace HB := Aside0.mk (below_step (a7) hb); (try clear hb); (try clear hk hi))))
        go_ret
        exact ⟨g4_, a7⟩
       ·replace xi := Bool.eq_false_iff.mpr xi
        subst xi
        replace H := ifn_ H
        obtain rfl := Option.some.inj H
        have gm5 := jl.out
        have gm6 := iq.out
        have gm7 := j4.out
        have gm8 := lj.out
        obtain ⟨bp3, bp4, bp5, bp6⟩ := blk2_ ao
        go_wp2_with (first | (go_at_call 43; (with_reducible refine (laws_noBook.calls kj5 _ _ ar _ _ aw false _ ?side1 ?side2 ?side3 ?side4 A43.out).mono ?_); (case side1 => repeat (first | exact (Kd.R_reads' ai.out).2.2 | (with_reducible refine Kd.C_alloc ?_ _) | (with_reducible refine Kd.C_drewN ?_ _) | (with_reducible refine Kd.C_drew ?_))); (case side2 => exact (Kd.R_reads' ai.out).2.1); (case side3 => repeat (first | exact (Kd.N_reads' aj.out).2.2 | (with_reducible refine Kd.C_alloc ?_ _) | (with_reducible refine Kd.C_drewN ?_ _) | (with_reducible refine Kd.C_drew ?_))); (case side4 => exact (Kd.N_reads' aj.out).2.1); rintro e w54 ⟨rfl, hb⟩; replace ay := Aside0.mk (Kd.R_below (uf1_ ay) hb); replace bd := Aside0.mk (Kd.V_below (uf5_ bd) hb); replace ai := Aside0.mk (Kd.R_below (uf1_ ai) hb); replace aj := Aside0.mk (Kd.N_below (uf4_ aj) hb); replace a9 := Aside0.mk (Kd.R_below (uf1_ a9) hb); replace bg := Aside0.mk (Kd.N_below (uf4_ bg) hb); replace au := bb_ au hb; replace ao := bb_ ao hb; replace az := bb_ az hb; replace HB := Aside0.mk (below_step (a7) hb); (try clear hb); (try clear hk hi)))
        repeat (go_quiet (first | (go_at_call 43; (with_reducible refine (laws_noBook.calls kj5 _ _ ar _ _ aw false _ ?side1 ?side2 ?side3 ?side4 A43.out).mono ?_); (case side1 => repeat (first | exact (Kd.R_reads' ai.out).2.2 | (with_reducible refine Kd.C_alloc ?_ _) | (with_reducible refine Kd.C_drewN ?_ _) | (with_reducible refine Kd.C_drew ?_))); (case side2 => exact (Kd.R_reads' ai.out).2.1); (case side3 => repeat (first | exact (Kd.N_reads' aj.out).2.2 | (with_reducible refine Kd.C_alloc ?_ _) | (with_reducible refine Kd.C_drewN ?_ _) | (with_reducible refine Kd.C_drew ?_))); (case side4 => exact (Kd.N_reads' aj.out).2.1); rintro e w54 ⟨rfl, hb⟩; replace ay := Aside0.mk (Kd.R_below (uf1_ ay) hb); replace bd := Aside0.mk (Kd.V_below (uf5_ bd) hb); replace ai := Aside0.mk (Kd.R_below (uf1_ ai) hb); replace aj := Aside0.mk (Kd.N_below (uf4_ aj) hb); replace a9 := Aside0.mk (Kd.R_below (uf1_ a9) hb); replace bg := Aside0.mk (Kd.N_below (uf4_ bg) hb); replace au := bb_ au hb; replace ao := bb_ ao hb; replace az := bb_ az hb; replace HB := Aside0.mk (below_step (a7) hb); (try clear hb); (try clear hk hi))); try go_wp2_with (first | (go_at_call 43; (with_reducible refine (laws_noBook.calls kj5 _ _ ar _ _ aw false _ ?side1 ?side2 ?side3 ?side4 A43.out).mono ?_); (case side1 => repeat (first | exact (Kd.R_reads' ai.out).2.2 | (with_reducible refine Kd.C_alloc ?_ _) | (with_reducible refine Kd.C_drewN ?_ _) | (with_reducible refine Kd.C_drew ?_))); (case side2 => exact (Kd.R_reads' ai.out).2.1); (case side3 => repeat (first | exact (Kd.N_reads' aj.out).2.2 | (with_reducible refine Kd.C_alloc ?_ _) | (with_reducible refine Kd.C_drewN ?_ _) | (with_reducible refine Kd.C_drew ?_))); (case side4 => exact (Kd.N_reads' aj.out).2.1); rintro e w54 ⟨rfl, hb⟩; replace ay := Aside0.mk (Kd.R_below (uf1_ ay) hb); replace bd := Aside0.mk (Kd.V_below (uf5_ bd) hb); replace ai := Aside0.mk (Kd.R_below (uf1_ ai) hb); replace aj := Aside0.mk (Kd.N_below (uf4_ aj) hb); replace a9 := Aside0.mk (Kd.R_below (uf1_ a9) hb); replace bg := Aside0.mk (Kd.N_below (uf4_ bg) hb); replace au := bb_ au hb; replace ao := bb_ ao hb; replace az := bb_ az hb; replace HB := Aside0.mk (below_step (a7) hb); (try clear hb); (try clear hk hi))))
        go_ret
        exact ⟨g4_, a7⟩
      ·rw [if_neg nj] at H
       have ax1 : (l4 == (-1)) = false := beq_eq_false_iff_ne.mpr nj
       have ax2 : (l4 != (-1)) = true := bne_iff_ne.mpr nj
       obtain rfl := Option.some.inj H
       go_wp2
       repeat (go_quiet (fail); try go_wp2)
       go_ret
       exact ⟨g4_, a7⟩
     ·rw [if_neg gc] at H
      have zq := decide_eq_false gc
      clear gc
      obtain ⟨cx, A55, H⟩ := bind_ H
      have H' := Aside0.mk H
      clear H
      have gm9 := iq.out
      have gn0 := jl.out
      have gn1 := i6.out
      have gn2 := j3.out
      obtain ⟨bp7, bp8, bp9, bq0⟩ := blk2_ au
      go_wp2_with (first | (go_at_call 46; (with_reducible refine (impl_NetsOf.calls kj5 _ _ av _ _ b1 cx _ ?side1 ?side2 ?side3 ?side4 A55.out).mono ?_); (case side1 => repeat (first | exact (Kd.R_reads' ay.out).2.2 | (with_reducible refine Kd.C_alloc ?_ _) | (with_reducible refine Kd.C_drewN ?_ _) | (with_reducible refine Kd.C_drew ?_))); (case side2 => exact (Kd.R_reads' ay.out).2.1); (case side3 => repeat (first | exact (Kd.V_reads' bd.out).2.2 | (with_reducible refine Kd.C_alloc ?_ _) | (with_reducible refine Kd.C_drewN ?_ _) | (with_reducible refine Kd.C_drew ?_))); (case side4 => exact (Kd.V_reads' bd.out).2.1); rintro e w59 ⟨uv, rfl, ac, hb⟩; replace bd := Aside0.mk (Kd.V_elder' (uf5_ bd) (Kd.R_base ac) hb); replace aj := Aside0.mk (Kd.N_elder' (uf4_ aj) (Kd.R_base ac) hb); replace bg := Aside0.mk (Kd.N_elder' (uf4_ bg) (Kd.R_base ac) hb); have cl1 := Aside0.mk (Kd.R_lower (Kd.R_new' (Kd.R_new' (Kd.R_new' ac (Kd.R_lt (uf1_ ay))) (Kd.R_lt (uf1_ ai))) (Kd.R_lt (uf1_ a9))) (below_size (a7))); replace ay := Aside0.mk (Kd.R_elder' (uf1_ ay) (Kd.R_base ac) hb); replace ai := Aside0.mk (Kd.R_elder' (uf1_ ai) (Kd.R_base ac) hb); replace a9 := Aside0.mk (Kd.R_elder' (uf1_ a9) (Kd.R_base ac) hb); replace au := bb_ au hb; replace ao := bb_ ao hb; replace az := bb_ az hb; replace HB := Aside0.mk (below_step (a7) hb); (try clear hb); (try clear hk hi); (try clear ac)))
      repeat (go_quiet (first | (go_at_call 46; (with_reducible refine (impl_NetsOf.calls kj5 _ _ av _ _ b1 cx _ ?side1 ?side2 ?side3 ?side4 A55.out).mono ?_); (case side1 => repeat (first | exact (Kd.R_reads' ay.out).2.2 | (with_reducible refine Kd.C_alloc ?_ _) | (with_reducible refine Kd.C_drewN ?_ _) | (with_reducible refine Kd.C_drew ?_))); (case side2 => exact (Kd.R_reads' ay.out).2.1); (case side3 => repeat (first | exact (Kd.V_reads' bd.out).2.2 | (with_reducible refine Kd.C_alloc ?_ _) | (with_reducible refine Kd.C_drewN ?_ _) | (with_reducible refine Kd.C_drew ?_))); (case side4 => exact (Kd.V_reads' bd.out).2.1); rintro e w59 ⟨uv, rfl, ac, hb⟩; replace bd := Aside0.mk (Kd.V_elder' (uf5_ bd) (Kd.R_base ac) hb); replace aj := Aside0.mk (Kd.N_elder' (uf4_ aj) (Kd.R_base ac) hb); replace bg := Aside0.mk (Kd.N_elder' (uf4_ bg) (Kd.R_base ac) hb); have cl1 := Aside0.mk (Kd.R_lower (Kd.R_new' (Kd.R_new' (Kd.R_new' ac (Kd.R_lt (uf1_ ay))) (Kd.R_lt (uf1_ ai))) (Kd.R_lt (uf1_ a9))) (below_size (a7))); replace ay := Aside0.mk (Kd.R_elder' (uf1_ ay) (Kd.R_base ac) hb); replace ai := Aside0.mk (Kd.R_elder' (uf1_ ai) (Kd.R_base ac) hb); replace a9 := Aside0.mk (Kd.R_elder' (uf1_ a9) (Kd.R_base ac) hb); replace au := bb_ au hb; replace ao := bb_ ao hb; replace az := bb_ az hb; replace HB := Aside0.mk (below_step (a7) hb); (try clear hb); (try clear hk hi); (try clear ac))); try go_wp2_with (first | (go_at_call 46; (with_reducible refine (impl_NetsOf.calls kj5 _ _ av _ _ b1 cx _ ?side1 ?side2 ?side3 ?side4 A55.out).mono ?_); (case side1 => repeat (first | exact (Kd.R_reads' ay.out).2.2 | (with_reducible refine Kd.C_alloc ?_ _) | (with_reducible refine Kd.C_drewN ?_ _) | (with_reducible refine Kd.C_drew ?_))); (case side2 => exact (Kd.R_reads' ay.out).2.1); (case side3 => repeat (first | exact (Kd.V_reads' bd.out).2.2 | (with_reducible refine Kd.C_alloc ?_ _) | (with_reducible refine Kd.C_drewN ?_ _) | (with_reducible refine Kd.C_drew ?_))); (case side4 => exact (Kd.V_reads' bd.out).2.1); rintro e w59 ⟨uv, rfl, ac, hb⟩; replace bd := Aside0.mk (Kd.V_elder' (uf5_ bd) (Kd.R_base ac) hb); replace aj := Aside0.mk (Kd.N_elder' (uf4_ aj) (Kd.R_base ac) hb); replace bg := Aside0.mk (Kd.N_elder' (uf4_ bg) (Kd.R_base ac) hb); have cl1 := Aside0.mk (Kd.R_lower (Kd.R_new' (Kd.R_new' (Kd.R_new' ac (Kd.R_lt (uf1_ ay))) (Kd.R_lt (uf1_ ai))) (Kd.R_lt (uf1_ a9))) (below_size (a7))); replace ay := Aside0.mk (Kd.R_elder' (uf1_ ay) (Kd.R_base ac) hb); replace ai := Aside0.mk (Kd.R_elder' (uf1_ ai) (Kd.R_base ac) hb); replace a9 := Aside0.mk (Kd.R_elder' (uf1_ a9) (Kd.R_base ac) hb); replace au := bb_ au hb; replace ao := bb_ ao hb; replace az := bb_ az hb; replace HB := Aside0.mk (below_step (a7) hb); (try clear hb); (try clear hk hi); (try clear ac))))
      go_loopg [9, 10] kj5 (fun kq v9 v10 w' => ∃ (g8 : Int) (fv : Int), v9 = .int .i64 g8 ∧ v10 = .int .i64 fv ∧ Aside0 (laws_FnWithoutCircles.l0 kq l4 cx g8 fv av b1 ar aw = some r) ∧ Aside0 (kq ≤ kj5) ∧ Aside0 (Kd.R (Kd.int .i64) 3 w' w.heap.size (fun k_ => some k_ ≠ ((.slice am av.length al) : Value).ownBlock ∧ some k_ ≠ ((.slice an ar.length ak) : Value).ownBlock ∧ some k_ ≠ ((.slice bc bk.length a6) : Value).ownBlock) uv cx) ∧ Aside0 (Kd.R (Kd.int .i64) 3 w' w.heap.size (fun k_ => some k_ ≠ (uv : Value).ownBlock ∧ some k_ ≠ ((.slice an ar.length ak) : Value).ownBlock ∧ some k_ ≠ ((.slice bc bk.length a6) : Value).ownBlock) (.slice am av.length al) av) ∧ Aside0 (Kd.V (Kd.slice 3 (Kd.int .i64)) 22 w' w.heap.size (fun k_ => some k_ ≠ (uv : Value).ownBlock ∧ some k_ ≠ ((.slice am av.length al) : Value).ownBlock ∧ some k_ ≠ ((.slice an ar.length ak) : Value).ownBlock ∧ some k_ ≠ ((.slice ba aw.length a5) : Value).ownBlock ∧ some k_ ≠ ((.slice bc bk.length a6) : Value).ownBlock ∧ some k_ ≠ ((.slice bw b3.length bt) : Value).ownBlock ∧ k_ ≠ bj ∧ k_ ≠ bm ∧ k_ ≠ bp) (.slice br b1.length bn) b1) ∧ Aside0 (Kd.R (Kd.int .i64) 3 w' w.heap.size (fun k_ => some k_ ≠ (uv : Value).ownBlock ∧ some k_ ≠ ((.slice am av.length al) : Value).ownBlock ∧ some k_ ≠ ((.slice bc bk.length a6) : Value).ownBlock) (.slice an ar.length ak) ar) ∧ Aside0 (Kd.N (Kd.slice 3 (Kd.int .i64)) 22 w' w.heap.size (fun k_ => some k_ ≠ (uv : Value).ownBlock ∧ some k_ ≠ ((.slice am av.length al) : Value).ownBlock ∧ some k_ ≠ ((.slice an ar.length ak) : Value).ownBlock ∧ some k_ ≠ ((.slice bc bk.length a6) : Value).ownBlock ∧ some k_ ≠ ((.slice bw b3.length bt) : Value).ownBlock ∧ k_ ≠ bj ∧ k_ ≠ bm ∧ k_ ≠ bp) (.slice ba aw.length a5) aw) ∧ Aside0 (Kd.R (Kd.int .i64) 3 w' w.heap.size (fun k_ => some k_ ≠ (uv : Value).ownBlock ∧ some k_ ≠ ((.slice am av.length al) : Value).ownBlock ∧ some k_ ≠ ((.slice an ar.length ak) : Value).ownBlock) (.slice bc bk.length a6) bk) ∧ Aside0 (Kd.N (Kd.slice 3 (Kd.int .i64)) 22 w' w.heap.size (fun k_ => some k_ ≠ (uv : Value).ownBlock ∧ some k_ ≠ ((.slice am av.length al) : Value).ownBlock ∧ some k_ ≠ ((.slice an ar.length ak) : Value).ownBlock ∧ some k_ ≠ ((.slice ba aw.length a5) : Value).ownBlock ∧ some k_ ≠ ((.slice bc bk.length a6) : Value).ownBlock ∧ k_ ≠ bj ∧ k_ ≠ bm ∧ k_ ≠ bp) (.slice bw b3.length bt) b3) ∧ Aside0 (w'.heap[bj]? = some (.cells #[(.slice am av.length al), (.slice br b1.length bn)] 25 (0, 0))) ∧ Aside0 (w'.heap[bm]? = some (.cells #[(.slice an ar.length ak), (.slice ba aw.length a5)] 25 (0, 0))) ∧ Aside0 (w'.heap[bp]? = some (.cells #[(.slice bc bk.length a6), (.slice bw b3.length bt)] 25 (0, 0))) ∧ Aside0 (Below w.heap.size w w'))
      case atStart => exact ⟨(0), (0), (g2_), (g2_), H', ⟨Nat.le_refl _⟩, ⟨by (with_reducible repeat (first | apply Kd.R_alloc | apply Kd.R_drewN | apply Kd.R_drew)); exact Kd.R_mono cl1.out (fun _ hk => ⟨hk.1.1.2, ⟨hk.1.2, hk.2⟩⟩)⟩, ⟨by (with_reducible repeat (first | apply Kd.R_alloc | apply Kd.R_drewN | apply Kd.R_drew)); exact Kd.R_mono ay.out (fun _ hk => ⟨hk.2, ⟨hk.1.1, hk.1.2⟩⟩)⟩, ⟨by (with_reducible repeat (first | apply Kd.V_alloc | apply Kd.V_drewN | apply Kd.V_drew)); exact Kd.V_mono bd.out (fun _ hk => ⟨hk.2, ⟨hk.1.1, ⟨hk.1.2.1, ⟨hk.1.2.2.1, ⟨hk.1.2.2.2.1, ⟨hk.1.2.2.2.2.1, ⟨hk.1.2.2.2.2.2.1, ⟨hk.1.2.2.2.2.2.2.1, hk.1.2.2.2.2.2.2.2⟩⟩⟩⟩⟩⟩⟩⟩)⟩, ⟨by (with_reducible repeat (first | apply Kd.R_alloc | apply Kd.R_drewN | apply Kd.R_drew)); exact Kd.R_mono ai.out (fun _ hk => ⟨hk.2, ⟨hk.1.1, hk.1.2⟩⟩)⟩, ⟨by (with_reducible repeat (first | apply Kd.N_alloc | apply Kd.N_drewN | apply Kd.N_drew)); exact Kd.N_mono aj.out (fun _ hk => ⟨hk.2, ⟨hk.1.1, ⟨hk.1.2.1, ⟨hk.1.2.2.1, ⟨hk.1.2.2.2.1, ⟨hk.1.2.2.2.2.1, ⟨hk.1.2.2.2.2.2.1, hk.1.2.2.2.2.2.2⟩⟩⟩⟩⟩⟩⟩)⟩, ⟨by (with_reducible repeat (first | apply Kd.R_alloc | apply Kd.R_drewN | apply Kd.R_drew)); exact Kd.R_mono a9.out (fun _ hk => ⟨hk.2, ⟨hk.1.1, hk.1.2⟩⟩)⟩, ⟨by (with_reducible repeat (first | apply Kd.N_alloc | apply Kd.N_drewN | apply Kd.N_drew)); exact Kd.N_mono bg.out (fun _ hk => ⟨hk.2, ⟨hk.1.1, ⟨hk.1.2.1, ⟨hk.1.2.2.1, ⟨hk.1.2.2.2.1, ⟨hk.1.2.2.2.2.1, ⟨hk.1.2.2.2.2.2.1, hk.1.2.2.2.2.2.2⟩⟩⟩⟩⟩⟩⟩)⟩, ⟨uf0_ au⟩, ⟨uf0_ ao⟩, ⟨uf0_ az⟩, ⟨a7⟩⟩
      case round =>
       clear H'
       (try clear c1); (try clear c2); (try clear iu); (try clear km); (try clear p2); (try clear c3); (try clear c4); (try clear c5); (try clear db); (try clear cb); (try clear jc); (try clear ff); (try clear ec); (try clear ib); (try clear la); (try clear jt); (try clear jr); (try clear g9); (try clear q9); (try clear lv); (try clear gc); (try clear zq); (try clear nj); (try clear ax1); (try clear ax2); (try clear xi); (try clear c46); (try clear xf); (try clear c51); (try clear c52); (try clear c56); (try clear th); (try clear m7); (try clear m8); (try clear mu); (try clear mv); (try clear mz); (try clear m0); (try clear ra); (try clear rb); (try clear tp); (try clear tq); (try clear xa); (try clear xb); (try clear ab8); (try clear ab9); (try clear ty); (try clear tz); (try clear aw1); (try clear aw2); (try clear bp3); (try clear bp4); (try clear bp7); (try clear bp8); (try clear m9); (try clear na); (try clear mw); (try clear my); (try clear m3); (try clear m4); (try clear rc); (try clear re); (try clear tr); (try clear ts); (try clear xc); (try clear xd); (try clear ac0); (try clear ac1); (try clear t1); (try clear t2); (try clear aw3); (try clear aw4); (try clear bp5); (try clear bp6); (try clear bp9); (try clear bq0); try clear p2
       obtain ⟨g8, fv, rfl, rfl, HA, HK2, be, ay, bd, ai, aj, a9, bg, au, ao, az, HB⟩ := hrel
       cases gk with
       | zero => exact absurd HA.out (by simp [laws_FnWithoutCircles.l0])
       | succ k2 =>
        have H := HA.out
        clear HA
        simp only [laws_FnWithoutCircles.l0] at H
        by_cases uw : fv < (cx.length : Int)
        ·rw [if_pos uw] at H
         have bq1 := decide_eq_true uw
         clear uw
         obtain ⟨c61, H⟩ := pos_ H
         have cl2 := decide_eq_true c61
         clear c61
         obtain ⟨ji62, hji62⟩ : ∃ j_ : Int, (mx (rd cx fv) 0) = j_ := ⟨_, rfl⟩
         replace H : (laws_FnWithoutCircles.l0 k2 l4 cx (wrap64 (g8 + (ji62))) (wrap64 (fv + 1)) av b1 ar aw) = some r := by first | (rw [hji62] at H; exact H) | (simp only [hji62] at H ⊢; exact H)
         have hji62_ : (if (rd cx fv) < 0 then 0 else (rd cx fv)) = ji62 := hji62
         have H' := Aside0.mk H
         clear H
         obtain ⟨gn3, gn4, fe0⟩ := Kd.R_slice be.out
         subst fe0
         have ai7 : 0 ≤ (fv : Int) := of_decide_eq_true (g0_)
         have ai8 : fv < (cx.length : Int) := of_decide_eq_true (g0_)
         obtain ⟨gn5, fe1, cl3⟩ := Kd.at_int (Kd.R_reads' be.out).2.2 fv ai7 ai8
         cases fe1
         replace ai7 := eq_true ai7
         replace ai8 := eq_true ai8
         go_wp2
         repeat (go_quiet (fail); try go_wp2)
         go_roundg k2
         case measure => have := HJ5.out; have := HK2.out; omega
         case rel => exact ⟨(wrap64 (g8 + (ji62))), (wrap64 (fv + 1)), (by first | rfl | (simp; done) | (simp only [← hji62] <;> (first | rfl | simp)) | (simp [*]; done)), (g2_), H', ⟨by have := HJ5.out; have := HK2.out; omega⟩, ⟨uf1_ be⟩, ⟨uf1_ ay⟩, ⟨uf5_ bd⟩, ⟨uf1_ ai⟩, ⟨uf4_ aj⟩, ⟨uf1_ a9⟩, ⟨uf4_ bg⟩, ⟨uf0_ au⟩, ⟨uf0_ ao⟩, ⟨uf0_ az⟩, ⟨a7⟩⟩
        ·rw [if_neg uw] at H
         have bq1 := decide_eq_false uw
         clear uw
         have cl4 := Aside0.mk H
         clear H
         obtain ⟨ey, ez, fe2⟩ := Kd.R_slice be.out
         subst fe2
         go_upto_region 16 with (fail)
         repeat (go_quiet (fail); go_upto_region 16 with (fail))
         go_cut [74] (fun v74 wc => ∃ (kq : Nat) (bq2 : Bool), v74 = .bool bq2 ∧ Aside0 (laws_FnWithoutCircles.j2 kq l4 cx g8 bq2 av b1 ar aw = some r) ∧ Aside0 (kq ≤ k2) ∧ Aside0 (Kd.R (Kd.int .i64) 3 wc w.heap.size (fun k_ => some k_ ≠ ((.slice am av.length al) : Value).ownBlock ∧ some k_ ≠ ((.slice an ar.length ak) : Value).ownBlock ∧ some k_ ≠ ((.slice bc bk.length a6) : Value).ownBlock) (.slice ey cx.length ez) cx) ∧ Aside0 (Kd.R (Kd.int .i64) 3 wc w.heap.size (fun k_ => some k_ ≠ ((.slice ey cx.length ez) : Value).ownBlock ∧ some k_ ≠ ((.slice an ar.length ak) : Value).ownBlock ∧ some k_ ≠ ((.slice bc bk.length a6) : Value).ownBlock) (.slice am av.length al) av) ∧ Aside0 (Kd.V (Kd.slice 3 (Kd.int .i64)) 22 wc w.heap.size (fun k_ => some k_ ≠ ((.slice ey cx.length ez) : Value).ownBlock ∧ some k_ ≠ ((.slice am av.length al) : Value).ownBlock ∧ some k_ ≠ ((.slice an ar.length ak) : Value).ownBlock ∧ some k_ ≠ ((.slice ba aw.length a5) : Value).ownBlock ∧ some k_ ≠ ((.slice bc bk.length a6) : Value).ownBlock ∧ some k_ ≠ ((.slice bw b3.length bt) : Value).ownBlock ∧ k_ ≠ bj ∧ k_ ≠ bm ∧ k_ ≠ bp) (.slice br b1.length bn) b1) ∧ Aside0 (Kd.R (Kd.int .i64) 3 wc w.heap.size (fun k_ => some k_ ≠ ((.slice ey cx.length ez) : Value).ownBlock ∧ some k_ ≠ ((.slice am av.length al) : Value).ownBlock ∧ some k_ ≠ ((.slice bc bk.length a6) : Value).ownBlock) (.slice an ar.length ak) ar) ∧ Aside0 (Kd.N (Kd.slice 3 (Kd.int .i64)) 22 wc w.heap.size (fun k_ => some k_ ≠ ((.slice ey cx.length ez) : Value).ownBlock ∧ some k_ ≠ ((.slice am av.length al) : Value).ownBlock ∧ some k_ ≠ ((.slice an ar.length ak) : Value).ownBlock ∧ some k_ ≠ ((.slice bc bk.length a6) : Value).ownBlock ∧ some k_ ≠ ((.slice bw b3.length bt) : Value).ownBlock ∧ k_ ≠ bj ∧ k_ ≠ bm ∧ k_ ≠ bp) (.slice ba aw.length a5) aw) ∧ Aside0 (Kd.R (Kd.int .i64) 3 wc w.heap.size (fun k_ => some k_ ≠ ((.slice ey cx.length ez) : Value).ownBlock ∧ some k_ ≠ ((.slice am av.length al) : Value).ownBlock ∧ some k_ ≠ ((.slice an ar.length ak) : Value).ownBlock) (.slice bc bk.length a6) bk) ∧ Aside0 (Kd.N (Kd.slice 3 (Kd.int .i64)) 22 wc w.heap.size (fun k_ => some k_ ≠ ((.slice ey cx.length ez) : Value).ownBlock ∧ some k_ ≠ ((.slice am av.length al) : Value).ownBlock ∧ some k_ ≠ ((.slice an ar.length ak) : Value).ownBlock ∧ some k_ ≠ ((.slice ba aw.length a5) : Value).ownBlock ∧ some k_ ≠ ((.slice bc bk.length a6) : Value).ownBlock ∧ k_ ≠ bj ∧ k_ ≠ bm ∧ k_ ≠ bp) (.slice bw b3.length bt) b3) ∧ Aside0 (wc.heap[bj]? = some (.cells #[(.slice am av.length al), (.slice br b1.length bn)] 25 (0, 0))) ∧ Aside0 (wc.heap[bm]? = some (.cells #[(.slice an ar.length ak), (.slice ba aw.length a5)] 25 (0, 0))) ∧ Aside0 (wc.heap[bp]? = some (.cells #[(.slice bc bk.length a6), (.slice bw b3.length bt)] 25 (0, 0))) ∧ Aside0 (Below w.heap.size w wc))
         case first =>
          have H := cl4.out
          clear cl4
          obtain ⟨ck6, A66, H⟩ := bind_ H
          by_cases c67 : ck6 = true
          ·subst c67
           replace H := ifp_ H
           have H' := Aside0.mk H
           clear H
           have gn6 := jl.out
           have gn7 := iq.out
           have gn8 := j4.out
           have gn9 := lj.out
           obtain ⟨cl5, cl6, cl7, cl8⟩ := blk2_ ao
           go_wp2_with (first | (go_at_call 44; (with_reducible refine (impl_BookOk.calls k2 _ _ ar _ _ aw true _ ?side1 ?side2 ?side3 ?side4 A66.out).mono ?_); (case side1 => repeat (first | exact (Kd.R_reads' ai.out).2.2 | (with_reducible refine Kd.C_alloc ?_ _) | (with_reducible refine Kd.C_drewN ?_ _) | (with_reducible refine Kd.C_drew ?_))); (case side2 => exact (Kd.R_reads' ai.out).2.1); (case side3 => repeat (first | exact (Kd.N_reads' aj.out).2.2 | (with_reducible refine Kd.C_alloc ?_ _) | (with_reducible refine Kd.C_drewN ?_ _) | (with_reducible refine Kd.C_drew ?_))); (case side4 => exact (Kd.N_reads' aj.out).2.1); rintro e w71 ⟨rfl, hb⟩; replace be := Aside0.mk (Kd.R_below (uf1_ be) hb); replace ay := Aside0.mk (Kd.R_below (uf1_ ay) hb); replace bd := Aside0.mk (Kd.V_below (uf5_ bd) hb); replace ai := Aside0.mk (Kd.R_below (uf1_ ai) hb); replace aj := Aside0.mk (Kd.N_below (uf4_ aj) hb); replace a9 := Aside0.mk (Kd.R_below (uf1_ a9) hb); replace bg := Aside0.mk (Kd.N_below (uf4_ bg) hb); replace au := bb_ au hb; replace ao := bb_ ao hb; replace az := bb_ az hb; replace HB := Aside0.mk (below_step (a7) hb); (try clear hb); (try clear hk hi); obtain ⟨ae5, ae6, ae7, ae8⟩ := blk2_ ao; have dn6 := i6.out; have dn7 := j3.out; obtain ⟨ax3, ax4, ax5, ax6⟩ := blk2_ au))
           repeat (go_quiet (first | (go_at_call 44; (with_reducible refine (impl_BookOk.calls k2 _ _ ar _ _ aw true _ ?side1 ?side2 ?side3 ?side4 A66.out).mono ?_); (case side1 => repeat (first | exact (Kd.R_reads' ai.out).2.2 | (with_reducible refine Kd.C_alloc ?_ _) | (with_reducible refine Kd.C_drewN ?_ _) | (with_reducible refine Kd.C_drew ?_))); (case side2 => exact (Kd.R_reads' ai.out).2.1); (case side3 => repeat (first | exact (Kd.N_reads' aj.out).2.2 | (with_reducible refine Kd.C_alloc ?_ _) | (with_reducible refine Kd.C_drewN ?_ _) | (with_reducible refine Kd.C_drew ?_))); (case side4 => exact (Kd.N_reads' aj.out).2.1); rintro e w71 ⟨rfl, hb⟩; replace be := Aside0.mk (Kd.R_below (uf1_ be) hb); replace ay := Aside0.mk (Kd.R_below (uf1_ ay) hb); replace bd := Aside0.mk (Kd.V_below (uf5_ bd) hb); replace ai := Aside0.mk (Kd.R_below (uf1_ ai) hb); replace aj := Aside0.mk (Kd.N_below (uf4_ aj) hb); replace a9 := Aside0.mk (Kd.R_below (uf1_ a9) hb); replace bg := Aside0.mk (Kd.N_below (uf4_ bg) hb); replace au := bb_ au hb; replace ao := bb_ ao hb; replace az := bb_ az hb; replace HB := Aside0.mk (below_step (a7) hb); (try clear hb); (try clear hk hi); obtain ⟨ae5, ae6, ae7, ae8⟩ := blk2_ ao; have dn6 := i6.out; have dn7 := j3.out; obtain ⟨ax3, ax4, ax5, ax6⟩ := blk2_ au)); try go_wp2_with (first | (go_at_call 44; (with_reducible refine (impl_BookOk.calls k2 _ _ ar _ _ aw true _ ?side1 ?side2 ?side3 ?side4 A66.out).mono ?_); (case side1 => repeat (first | exact (Kd.R_reads' ai.out).2.2 | (with_reducible refine Kd.C_alloc ?_ _) | (with_reducible refine Kd.C_drewN ?_ _) | (with_reducible refine Kd.C_drew ?_))); (case side2 => exact (Kd.R_reads' ai.out).2.1); (case side3 => repeat (first | exact (Kd.N_reads' aj.out).2.2 | (with_reducible refine Kd.C_alloc ?_ _) | (with_reducible refine Kd.C_drewN ?_ _) | (with_reducible refine Kd.C_drew ?_))); (case side4 => exact (Kd.N_reads' aj.out).2.1); rintro e w71 ⟨rfl, hb⟩; replace be := Aside0.mk (Kd.R_below (uf1_ be) hb); replace ay := Aside0.mk (Kd.R_below (uf1_ ay) hb); replace bd := Aside0.mk (Kd.V_below (uf5_ bd) hb); replace ai := Aside0.mk (Kd.R_below (uf1_ ai) hb); replace aj := Aside0.mk (Kd.N_below (uf4_ aj) hb); replace a9 := Aside0.mk (Kd.R_below (uf1_ a9) hb); replace bg := Aside0.mk (Kd.N_below (uf4_ bg) hb); replace au := bb_ au hb; replace ao := bb_ ao hb; replace az := bb_ az hb; replace HB := Aside0.mk (below_step (a7) hb); (try clear hb); (try clear hk hi); obtain ⟨ae5, ae6, ae7, ae8⟩ := blk2_ ao; have dn6 := i6.out; have dn7 := j3.out; obtain ⟨ax3, ax4, ax5, ax6⟩ := blk2_ au)))
           go_meet
           case rel => exact ⟨_, (((ar.length : Int) != (av.length : Int))), (g2_), H', ⟨by have := HJ5.out; have := HK2.out; first | omega | exact Nat.le_refl _⟩, ⟨uf1_ be⟩, ⟨uf1_ ay⟩, ⟨uf5_ bd⟩, ⟨uf1_ ai⟩, ⟨uf4_ aj⟩, ⟨uf1_ a9⟩, ⟨uf4_ bg⟩, ⟨uf0_ au⟩, ⟨uf0_ ao⟩, ⟨uf0_ az⟩, ⟨a7⟩⟩
          ·replace c67 := Bool.eq_false_iff.mpr c67
           subst c67
           replace H := ifn_ H
           have H' := Aside0.mk H
           clear H
           have go0 := jl.out
           have go1 := iq.out
           have ed0 := j4.out
           have ed1 := lj.out
           obtain ⟨bd0, bd1, bd2, bd3⟩ := blk2_ ao
           go_wp2_with (first | (go_at_call 44; (with_reducible refine (impl_BookOk.calls k2 _ _ ar _ _ aw false _ ?side1 ?side2 ?side3 ?side4 A66.out).mono ?_); (case side1 => repeat (first | exact (Kd.R_reads' ai.out).2.2 | (with_reducible refine Kd.C_alloc ?_ _) | (with_reducible refine Kd.C_drewN ?_ _) | (with_reducible refine Kd.C_drew ?_))); (case side2 => exact (Kd.R_reads' ai.out).2.1); (case side3 => repeat (first | exact (Kd.N_reads' aj.out).2.2 | (with_reducible refine Kd.C_alloc ?_ _) | (with_reducible refine Kd.C_drewN ?_ _) | (with_reducible refine Kd.C_drew ?_))); (case side4 => exact (Kd.N_reads' aj.out).2.1); rintro e w78 ⟨rfl, hb⟩; replace be := Aside0.mk (Kd.R_below (uf1_ be) hb); replace ay := Aside0.mk (Kd.R_below (uf1_ ay) hb); replace bd := Aside0.mk (Kd.V_below (uf5_ bd) hb); replace ai := Aside0.mk (Kd.R_below (uf1_ ai) hb); replace aj := Aside0.mk (Kd.N_below (uf4_ aj) hb); replace a9 := Aside0.mk (Kd.R_below (uf1_ a9) hb); replace bg := Aside0.mk (Kd.N_below (uf4_ bg) hb); replace au := bb_ au hb; replace ao := bb_ ao hb; replace az := bb_ az hb; replace HB := Aside0.mk (below_step (a7) hb); (try clear hb); (try clear hk hi)))
           repeat (go_quiet (first | (go_at_call 44; (with_reducible refine (impl_BookOk.calls k2 _ _ ar _ _ aw false _ ?side1 ?side2 ?side3 ?side4 A66.out).mono ?_); (case side1 => repeat (first | exact (Kd.R_reads' ai.out).2.2 | (with_reducible refine Kd.C_alloc ?_ _) | (with_reducible refine Kd.C_drewN ?_ _) | (with_reducible refine Kd.C_drew ?_))); (case side2 => exact (Kd.R_reads' ai.out).2.1); (case side3 => repeat (first | exact (Kd.N_reads' aj.out).2.2 | (with_reducible refine Kd.C_alloc ?_ _) | (with_reducible refine Kd.C_drewN ?_ _) | (with_reducible refine Kd.C_drew ?_))); (case side4 => exact (Kd.N_reads' aj.out).2.1); rintro e w78 ⟨rfl, hb⟩; replace be := Aside0.mk (Kd.R_below (uf1_ be) hb); replace ay := Aside0.mk (Kd.R_below (uf1_ ay) hb); replace bd := Aside0.mk (Kd.V_below (uf5_ bd) hb); replace ai := Aside0.mk (Kd.R_below (uf1_ ai) hb); replace aj := Aside0.mk (Kd.N_below (uf4_ aj) hb); replace a9 := Aside0.mk (Kd.R_below (uf1_ a9) hb); replace bg := Aside0.mk (Kd.N_below (uf4_ bg) hb); replace au := bb_ au hb; replace ao := bb_ ao hb; replace az := bb_ az hb; replace HB := Aside0.mk (below_step (a7) hb); (try clear hb); (try clear hk hi))); try go_wp2_with (first | (go_at_call 44; (with_reducible refine (impl_BookOk.calls k2 _ _ ar _ _ aw false _ ?side1 ?side2 ?side3 ?side4 A66.out).mono ?_); (case side1 => repeat (first | exact (Kd.R_reads' ai.out).2.2 | (with_reducible refine Kd.C_alloc ?_ _) | (with_reducible refine Kd.C_drewN ?_ _) | (with_reducible refine Kd.C_drew ?_))); (case side2 => exact (Kd.R_reads' ai.out).2.1); (case side3 => repeat (first | exact (Kd.N_reads' aj.out).2.2 | (with_reducible refine Kd.C_alloc ?_ _) | (with_reducible refine Kd.C_drewN ?_ _) | (with_reducible refine Kd.C_drew ?_))); (case side4 => exact (Kd.N_reads' aj.out).2.1); rintro e w78 ⟨rfl, hb⟩; replace be := Aside0.mk (Kd.R_below (uf1_ be) hb); replace ay := Aside0.mk (Kd.R_below (uf1_ ay) hb); replace bd := Aside0.mk (Kd.V_below (uf5_ bd) hb); replace ai := Aside0.mk (Kd.R_below (uf1_ ai) hb); replace aj := Aside0.mk (Kd.N_below (uf4_ aj) hb); replace a9 := Aside0.mk (Kd.R_below (uf1_ a9) hb); replace bg := Aside0.mk (Kd.N_below (uf4_ bg) hb); replace au := bb_ au hb; replace ao := bb_ ao hb; replace az := bb_ az hb; replace HB := Aside0.mk (below_step (a7) hb); (try clear hb); (try clear hk hi))))
           go_meet
           case rel => exact ⟨_, (true), (g2_), H', ⟨by have := HJ5.out; have := HK2.out; first | omega | exact Nat.le_refl _⟩, ⟨uf1_ be⟩, ⟨uf1_ ay⟩, ⟨uf5_ bd⟩, ⟨uf1_ ai⟩, ⟨uf4_ aj⟩, ⟨uf1_ a9⟩, ⟨uf4_ bg⟩, ⟨uf0_ au⟩, ⟨uf0_ ao⟩, ⟨uf0_ az⟩, ⟨a7⟩⟩
         case rest =>
          clear cl4
          (try clear c1); (try clear c2); (try clear iu); (try clear km); (try clear p2); (try clear c3); (try clear c4); (try clear c5); (try clear p5); (try clear q5); (try clear hx5); (try clear c6); (try clear p6); (try clear c7); (try clear db); (try clear cb); (try clear jc); (try clear ff); (try clear ec); (try clear ib); (try clear la); (try clear jt); (try clear jr); (try clear g9); (try clear q9); (try clear lv); (try clear gc); (try clear zq); (try clear nj); (try clear ax1); (try clear ax2); (try clear xi); (try clear c46); (try clear xf); (try clear c51); (try clear c52); (try clear p54); (try clear q54); (try clear dn8); (try clear c56); (try clear th); (try clear uw); (try clear bq1); (try clear c61); (try clear cl2); (try clear p64); (try clear c67); (try clear c68); (try clear c69); (try clear c73); (try clear c75); (try clear c76); (try clear m7); (try clear m8); (try clear mu); (try clear mv); (try clear mz); (try clear m0); (try clear ra); (try clear rb); (try clear tp); (try clear tq); (try clear xa); (try clear xb); (try clear ab8); (try clear ab9); (try clear ty); (try clear tz); (try clear aw1); (try clear aw2); (try clear bp3); (try clear bp4); (try clear bp7); (try clear bp8); (try clear cl5); (try clear cl6); (try clear ae5); (try clear ae6); (try clear ax3); (try clear ax4); (try clear bd0); (try clear bd1); (try clear m9); (try clear na); (try clear mw); (try clear my); (try clear m3); (try clear m4); (try clear rc); (try clear re); (try clear tr); (try clear ts); (try clear xc); (try clear xd); (try clear ac0); (try clear ac1); (try clear t1); (try clear t2); (try clear aw3); (try clear aw4); (try clear bp5); (try clear bp6); (try clear bp9); (try clear bq0); (try clear cl7); (try clear cl8); (try clear ae7); (try clear ae8); (try clear ax5); (try clear ax6); (try clear bd2); (try clear bd3); (try clear cl3); (try clear p2); (try clear ai7); try clear ai8
          obtain ⟨kq, bq2, rfl, HA, HJ63, be, ay, bd, ai, aj, a9, bg, au, ao, az, HB⟩ := hcut
          cases kq with
          | zero => exact absurd HA.out (by simp [laws_FnWithoutCircles.j2])
          | succ kj63 =>
           have H := HA.out
           clear HA
           simp only [laws_FnWithoutCircles.j2] at H
           by_cases nc : bq2 = true
           ·subst nc
            replace H := ifp_ H
            obtain rfl := Option.some.inj H
            go_wp2
            repeat (go_quiet (fail); try go_wp2)
            go_ret
            exact ⟨g4_, a7⟩
           ·replace nc := Bool.eq_false_iff.mpr nc
            subst nc
            replace H := ifn_ H
            have H' := Aside0.mk H
            clear H
            go_wp2
            repeat (go_quiet (fail); try go_wp2)
            go_loopg [11] kj63 (fun kq yr w' => ∃ (e9 : Int), yr = .int .i64 e9 ∧ Aside0 (laws_FnWithoutCircles.l1 kq l4 cx g8 e9 av b1 ar aw = some r) ∧ Aside0 (kq ≤ kj63) ∧ Aside0 (Kd.R (Kd.int .i64) 3 w' w.heap.size (fun k_ => some k_ ≠ ((.slice am av.length al) : Value).ownBlock ∧ some k_ ≠ ((.slice an ar.length ak) : Value).ownBlock ∧ some k_ ≠ ((.slice bc bk.length a6) : Value).ownBlock) (.slice ey cx.length ez) cx) ∧ Aside0 (Kd.R (Kd.int .i64) 3 w' w.heap.size (fun k_ => some k_ ≠ ((.slice ey cx.length ez) : Value).ownBlock ∧ some k_ ≠ ((.slice an ar.length ak) : Value).ownBlock ∧ some k_ ≠ ((.slice bc bk.length a6) : Value).ownBlock) (.slice am av.length al) av) ∧ Aside0 (Kd.V (Kd.slice 3 (Kd.int .i64)) 22 w' w.heap.size (fun k_ => some k_ ≠ ((.slice ey cx.length ez) : Value).ownBlock ∧ some k_ ≠ ((.slice am av.length al) : Value).ownBlock ∧ some k_ ≠ ((.slice an ar.length ak) : Value).ownBlock ∧ some k_ ≠ ((.slice ba aw.length a5) : Value).ownBlock ∧ some k_ ≠ ((.slice bc bk.length a6) : Value).ownBlock ∧ some k_ ≠ ((.slice bw b3.length bt) : Value).ownBlock ∧ k_ ≠ bj ∧ k_ ≠ bm ∧ k_ ≠ bp) (.slice br b1.length bn) b1) ∧ Aside0 (Kd.R (Kd.int .i64) 3 w' w.heap.size (fun k_ => some k_ ≠ ((.slice ey cx.length ez) : Value).ownBlock ∧ some k_ ≠ ((.slice am av.length al) : Value).ownBlock ∧ some k_ ≠ ((.slice bc bk.length a6) : Value).ownBlock) (.slice an ar.length ak) ar) ∧ Aside0 (Kd.N (Kd.slice 3 (Kd.int .i64)) 22 w' w.heap.size (fun k_ => some k_ ≠ ((.slice ey cx.length ez) : Value).ownBlock ∧ some k_ ≠ ((.slice am av.length al) : Value).ownBlock ∧ some k_ ≠ ((.slice an ar.length ak) : Value).ownBlock ∧ some k_ ≠ ((.slice bc bk.length a6) : Value).ownBlock ∧ some k_ ≠ ((.slice bw b3.length bt) : Value).ownBlock ∧ k_ ≠ bj ∧ k_ ≠ bm ∧ k_ ≠ bp) (.slice ba aw.length a5) aw) ∧ Aside0 (Kd.R (Kd.int .i64) 3 w' w.heap.size (fun k_ => some k_ ≠ ((.slice ey cx.length ez) : Value).ownBlock ∧ some k_ ≠ ((.slice am av.length al) : Value).ownBlock ∧ some k_ ≠ ((.slice an ar.length ak) : Value).ownBlock) (.slice bc bk.length a6) bk) ∧ Aside0 (Kd.N (Kd.slice 3 (Kd.int .i64)) 22 w' w.heap.size (fun k_ => some k_ ≠ ((.slice ey cx.length ez) : Value).ownBlock ∧ some k_ ≠ ((.slice am av.length al) : Value).ownBlock ∧ some k_ ≠ ((.slice an ar.length ak) : Value).ownBlock ∧ some k_ ≠ ((.slice ba aw.length a5) : Value).ownBlock ∧ some k_ ≠ ((.slice bc bk.length a6) : Value).ownBlock ∧ k_ ≠ bj ∧ k_ ≠ bm ∧ k_ ≠ bp) (.slice bw b3.length bt) b3) ∧ Aside0 (w'.heap[bj]? = some (.cells #[(.slice am av.length al), (.slice br b1.length bn)] 25 (0, 0))) ∧ Aside0 (w'.heap[bm]? = some (.cells #[(.slice an ar.length ak), (.slice ba aw.length a5)] 25 (0, 0))) ∧ Aside0 (w'.heap[bp]? = some (.cells #[(.slice bc bk.length a6), (.slice bw b3.length bt)] 25 (0, 0))) ∧ Aside0 (Below w.heap.size w w'))
            case atStart => exact ⟨(0), (g2_), H', ⟨Nat.le_refl _⟩, ⟨uf1_ be⟩, ⟨uf1_ ay⟩, ⟨uf5_ bd⟩, ⟨uf1_ ai⟩, ⟨uf4_ aj⟩, ⟨uf1_ a9⟩, ⟨uf4_ bg⟩, ⟨uf0_ au⟩, ⟨uf0_ ao⟩, ⟨uf0_ az⟩, ⟨a7⟩⟩
            case round =>
             clear H'
             (try clear c1); (try clear c2); (try clear iu); (try clear km); (try clear p2); (try clear c3); (try clear c4); (try clear c5); (try clear p5); (try clear q5); (try clear hx5); (try clear c6); (try clear p6); (try clear c7); (try clear db); (try clear cb); (try clear jc); (try clear ff); (try clear ec); (try clear ib); (try clear la); (try clear jt); (try clear jr); (try clear g9); (try clear q9); (try clear lv); (try clear gc); (try clear zq); (try clear nj); (try clear ax1); (try clear ax2); (try clear xi); (try clear c46); (try clear xf); (try clear c51); (try clear c52); (try clear p54); (try clear q54); (try clear dn8); (try clear c56); (try clear th); (try clear uw); (try clear bq1); (try clear c61); (try clear cl2); (try clear p64); (try clear c67); (try clear c68); (try clear c69); (try clear c73); (try clear c75); (try clear c76); (try clear nc); (try clear m7); (try clear m8); (try clear mu); (try clear mv); (try clear mz); (try clear m0); (try clear ra); (try clear rb); (try clear tp); (try clear tq); (try clear xa); (try clear xb); (try clear ab8); (try clear ab9); (try clear ty); (try clear tz); (try clear aw1); (try clear aw2); (try clear bp3); (try clear bp4); (try clear bp7); (try clear bp8); (try clear cl5); (try clear cl6); (try clear ae5); (try clear ae6); (try clear ax3); (try clear ax4); (try clear bd0); (try clear bd1); (try clear m9); (try clear na); (try clear mw); (try clear my); (try clear m3); (try clear m4); (try clear rc); (try clear re); (try clear tr); (try clear ts); (try clear xc); (try clear xd); (try clear ac0); (try clear ac1); (try clear t1); (try clear t2); (try clear aw3); (try clear aw4); (try clear bp5); (try clear bp6); (try clear bp9); (try clear bq0); (try clear cl7); (try clear cl8); (try clear ae7); (try clear ae8); (try clear ax5); (try clear ax6); (try clear bd2); (try clear bd3); (try clear cl3); (try clear p2); (try clear p5); (try clear p54); (try clear ai7); (try clear p6); (try clear p64); (try clear q5); (try clear q54); try clear ai8
             obtain ⟨e9, rfl, HA, HK4, be, ay, bd, ai, aj, a9, bg, au, ao, az, HB⟩ := hrel
             cases gk with
             | zero => exact absurd HA.out (by simp [laws_FnWithoutCircles.l1])
             | succ k4 =>
              have H := HA.out
              clear HA
              simp only [laws_FnWithoutCircles.l1] at H
              by_cases rz : e9 < (av.length : Int)
              ·rw [if_pos rz] at H
               have bv6 := decide_eq_true rz
               clear rz
               have H' := Aside0.mk H
               clear H
               have go2 := iq.out
               have go3 := jl.out
               have go4 := i6.out
               have go5 := j3.out
               obtain ⟨fe3, fe4, fe5, fe6⟩ := blk2_ au
               go_wp2
               repeat (go_quiet (fail); try go_wp2)
               go_loopg [12] k4 (fun kq v12 w' => ∃ (j5 : Int), v12 = .int .i64 j5 ∧ Aside0 (laws_FnWithoutCircles.l2 kq l4 cx g8 e9 j5 av b1 ar aw = some r) ∧ Aside0 (kq ≤ k4) ∧ Aside0 (Kd.R (Kd.int .i64) 3 w' w.heap.size (fun k_ => some k_ ≠ ((.slice am av.length al) : Value).ownBlock ∧ some k_ ≠ ((.slice an ar.length ak) : Value).ownBlock ∧ some k_ ≠ ((.slice bc bk.length a6) : Value).ownBlock) (.slice ey cx.length ez) cx) ∧ Aside0 (Kd.R (Kd.int .i64) 3 w' w.heap.size (fun k_ => some k_ ≠ ((.slice ey cx.length ez) : Value).ownBlock ∧ some k_ ≠ ((.slice an ar.length ak) : Value).ownBlock ∧ some k_ ≠ ((.slice bc bk.length a6) : Value).ownBlock) (.slice am av.length al) av) ∧ Aside0 (Kd.V (Kd.slice 3 (Kd.int .i64)) 22 w' w.heap.size (fun k_ => some k_ ≠ ((.slice ey cx.length ez) : Value).ownBlock ∧ some k_ ≠ ((.slice am av.length al) : Value).ownBlock ∧ some k_ ≠ ((.slice an ar.length ak) : Value).ownBlock ∧ some k_ ≠ ((.slice ba aw.length a5) : Value).ownBlock ∧ some k_ ≠ ((.slice bc bk.length a6) : Value).ownBlock ∧ some k_ ≠ ((.slice bw b3.length bt) : Value).ownBlock ∧ k_ ≠ bj ∧ k_ ≠ bm ∧ k_ ≠ bp) (.slice br b1.length bn) b1) ∧ Aside0 (Kd.R (Kd.int .i64) 3 w' w.heap.size (fun k_ => some k_ ≠ ((.slice ey cx.length ez) : Value).ownBlock ∧ some k_ ≠ ((.slice am av.length al) : Value).ownBlock ∧ some k_ ≠ ((.slice bc bk.length a6) : Value).ownBlock) (.slice an ar.length ak) ar) ∧ Aside0 (Kd.N (Kd.slice 3 (Kd.int .i64)) 22 w' w.heap.size (fun k_ => some k_ ≠ ((.slice ey cx.length ez) : Value).ownBlock ∧ some k_ ≠ ((.slice am av.length al) : Value).ownBlock ∧ some k_ ≠ ((.slice an ar.length ak) : Value).ownBlock ∧ some k_ ≠ ((.slice bc bk.length a6) : Value).ownBlock ∧ some k_ ≠ ((.slice bw b3.length bt) : Value).ownBlock ∧ k_ ≠ bj ∧ k_ ≠ bm ∧ k_ ≠ bp) (.slice ba aw.length a5) aw) ∧ Aside0 (Kd.R (Kd.int .i64) 3 w' w.heap.size (fun k_ => some k_ ≠ ((.slice ey cx.length ez) : Value).ownBlock ∧ some k_ ≠ ((.slice am av.length al) : Value).ownBlock ∧ some k_ ≠ ((.slice an ar.length ak) : Value).ownBlock) (.slice bc bk.length a6) bk) ∧ Aside0 (Kd.N (Kd.slice 3 (Kd.int .i64)) 22 w' w.heap.size (fun k_ => some k_ ≠ ((.slice ey cx.length ez) : Value).ownBlock ∧ some k_ ≠ ((.slice am av.length al) : Value).ownBlock ∧ some k_ ≠ ((.slice an ar.length ak) : Value).ownBlock ∧ some k_ ≠ ((.slice ba aw.length a5) : Value).ownBlock ∧ some k_ ≠ ((.slice bc bk.length a6) : Value).ownBlock ∧ k_ ≠ bj ∧ k_ ≠ bm ∧ k_ ≠ bp) (.slice bw b3.length bt) b3) ∧ Aside0 (w'.heap[bj]? = some (.cells #[(.slice am av.length al), (.slice br b1.length bn)] 25 (0, 0))) ∧ Aside0 (w'.heap[bm]? = some (.cells #[(.slice an ar.length ak), (.slice ba aw.length a5)] 25 (0, 0))) ∧ Aside0 (w'.heap[bp]? = some (.cells #[(.slice bc bk.length a6), (.slice bw b3.length bt)] 25 (0, 0))) ∧ Aside0 (Below w.heap.size w w'))
               case atStart => exact ⟨(0), (g2_), H', ⟨Nat.le_refl _⟩, ⟨uf1_ be⟩, ⟨uf1_ ay⟩, ⟨uf5_ bd⟩, ⟨uf1_ ai⟩, ⟨uf4_ aj⟩, ⟨uf1_ a9⟩, ⟨uf4_ bg⟩, ⟨uf0_ au⟩, ⟨uf0_ ao⟩, ⟨uf0_ az⟩, ⟨a7⟩⟩
               case round =>
                clear H'
                (try clear c1); (try clear c2); (try clear iu); (try clear km); (try clear p2); (try clear c3); (try clear c4); (try clear c5); (try clear p5); (try clear q5); (try clear hx5); (try clear c6); (try clear p6); (try clear c7); (try clear c8); (try clear db); (try clear cb); (try clear jc); (try clear ff); (try clear ec); (try clear ib); (try clear la); (try clear jt); (try clear jr); (try clear g9); (try clear q9); (try clear lv); (try clear gc); (try clear zq); (try clear nj); (try clear ax1); (try clear ax2); (try clear xi); (try clear c46); (try clear xf); (try clear c51); (try clear c52); (try clear p54); (try clear q54); (try clear dn8); (try clear c56); (try clear th); (try clear uw); (try clear bq1); (try clear c61); (try clear cl2); (try clear p64); (try clear c67); (try clear c68); (try clear c69); (try clear c73); (try clear c75); (try clear c76); (try clear nc); (try clear rz); (try clear bv6); (try clear c81); (try clear vl); (try clear m7); (try clear m8); (try clear mu); (try clear mv); (try clear mz); (try clear m0); (try clear ra); (try clear rb); (try clear tp); (try clear tq); (try clear xa); (try clear xb); (try clear ab8); (try clear ab9); (try clear ty); (try clear tz); (try clear aw1); (try clear aw2); (try clear bp3); (try clear bp4); (try clear bp7); (try clear bp8); (try clear cl5); (try clear cl6); (try clear ae5); (try clear ae6); (try clear ax3); (try clear ax4); (try clear bd0); (try clear bd1); (try clear fe3); (try clear fe4); (try clear m9); (try clear na); (try clear mw); (try clear my); (try clear m3); (try clear m4); (try clear rc); (try clear re); (try clear tr); (try clear ts); (try clear xc); (try clear xd); (try clear ac0); (try clear ac1); (try clear t1); (try clear t2); (try clear aw3); (try clear aw4); (try clear bp5); (try clear bp6); (try clear bp9); (try clear bq0); (try clear cl7); (try clear cl8); (try clear ae7); (try clear ae8); (try clear ax5); (try clear ax6); (try clear bd2); (try clear bd3); (try clear fe5); (try clear fe6); (try clear cl3); (try clear p2); (try clear p5); (try clear p54); (try clear ai7); (try clear p6); (try clear p64); (try clear q5); (try clear q54); try clear ai8
                obtain ⟨j5, rfl, HA, HK5, be, ay, bd, ai, aj, a9, bg, au, ao, az, HB⟩ := hrel
                cases gk with
                | zero => exact absurd HA.out (by simp [laws_FnWithoutCircles.l2])
                | succ k5 =>
                 have H := HA.out
                 clear HA
                 simp only [laws_FnWithoutCircles.l2] at H
                 by_cases c84 : j5 < (av.length : Int)
                 ·rw [if_pos c84] at H
                  have fe7 := decide_eq_true c84
                  clear c84
                  obtain ⟨c85, H⟩ := pos_ H
                  have go6 := decide_eq_true c85
                  clear c85
                  obtain ⟨c86, H⟩ := pos_ H
                  have go7 := decide_eq_true c86
                  clear c86
                  obtain ⟨c87, H⟩ := pos_ H
                  have go8 := decide_eq_true c87
                  clear c87
                  obtain ⟨c88, H⟩ := pos_ H
                  have go9 := decide_eq_true c88
                  clear c88
                  obtain ⟨jd, H⟩ := pos_ H
                  have gp0 := decide_eq_true jd
                  clear jd
                  obtain ⟨c90, H⟩ := pos_ H
                  have gp1 := decide_eq_true c90
                  clear c90
                  by_cases c91 : (rd (rd_L1 aw e9) j5) > (rd (rd_L1 b1 e9) j5)
                  ·rw [if_pos c91] at H
                   have fe8 := decide_eq_true c91
                   clear c91
                   obtain rfl := Option.some.inj H
                   have ee5 := iq.out
                   have ee6 := jl.out
                   have cv0 := i6.out
                   have cv1 := j3.out
                   obtain ⟨cv2, cv3, cv4, cv5⟩ := blk2_ au
                   have gp2 := j4.out
                   have gp3 := lj.out
                   obtain ⟨gp4, gp5, gp6, gp7⟩ := blk2_ ao
                   have ux : 0 ≤ (e9 : Int) := of_decide_eq_true (g0_)
                   have uy : e9 < (aw.length : Int) := of_decide_eq_true (g0_)
                   obtain ⟨fe9, ff0, ff1, cl9, cm0, ax7, ax8⟩ := at_L1 (Kd.N_reads' aj.out).2.2 e9 ux uy
                   cases cl9
                   obtain ⟨ce551, hce551, hMe551, hcc551⟩ := Kd.N_get aj.out [] e9 ux (by first | exact uy | exact of_decide_eq_true (g0_) | (have e_ := (Kd.N_reads' aj.out).1; omega))
                   obtain ⟨ua551_0, uc551_0, rfl, ul551_0, ge551_0⟩ := Kd.FK_slice_open hMe551
                   have hv551_0 := hcc551 0 _ rfl
                   rw [Nat.add_zero, show ((Kd.slice 3 (Kd.int .i64))).sz = 1 from rfl, Nat.mul_one] at hv551_0
                   replace hv551_0 := Option.some.inj (hv551_0.symm.trans cm0)
                   injection hv551_0 with hva_ hvn_ hvc_
                   rw [hva_] at ge551_0
                   rw [hvc_] at ul551_0
                   have ff2 := Aside0.mk (show Kd.V (Kd.int .i64) 3 _ w.heap.size _ _ (rd_L1 aw e9) from Kd.V_mk ul551_0 ge551_0)
                   clear hva_ hvn_ hvc_ ge551_0 ul551_0
                   clear hcc551 hce551
                   have ax9 := Aside0.mk ax8
                   have ff3 := Aside0.mk ax7
                   clear ax8 ax7
                   replace ux := eq_true ux
                   replace uy := eq_true uy
                   have ac4 : 0 ≤ (j5 : Int) := of_decide_eq_true (g0_)
                   have ac5 : j5 < ((rd_L1 aw e9).length : Int) := of_decide_eq_true (g0_)
                   obtain ⟨ff4, cm1, ff5⟩ := Kd.at_int (by repeat (first | (with_reducible exact ax9.out) | (with_reducible refine Kd.C_alloc ?_ _) | (with_reducible refine Kd.C_drewN ?_ _) | (with_reducible refine Kd.C_drew ?_) | exact ax9.out)) j5 ac4 ac5
                   cases cm1
                   replace ac4 := eq_true ac4
                   replace ac5 := eq_true ac5
                   have uz : 0 ≤ (e9 : Int) := of_decide_eq_true (g0_)
                   have u0 : e9 < (b1.length : Int) := of_decide_eq_true (g0_)
                   obtain ⟨ff6, ff7, ff8, cm2, cm3, ay0, ay1⟩ := at_L1 (Kd.V_reads' bd.out).2.2 e9 uz u0
                   cases cm2
                   obtain ⟨ce553, hce553, hMe553, hcc553⟩ := Kd.V_get bd.out [] e9 uz (by first | exact u0 | exact of_decide_eq_true (g0_) | (have e_ := (Kd.V_reads' bd.out).1; omega))
                   obtain ⟨ua553_0, uc553_0, rfl, ul553_0, ge553_0⟩ := Kd.FK_slice_open hMe553
                   have hv553_0 := hcc553 0 _ rfl
                   rw [Nat.add_zero, show ((Kd.slice 3 (Kd.int .i64))).sz = 1 from rfl, Nat.mul_one] at hv553_0
                   replace hv553_0 := Option.some.inj (hv553_0.symm.trans cm3)
                   injection hv553_0 with hva_ hvn_ hvc_
                   rw [hva_] at ge553_0
                   rw [hvc_] at ul553_0
                   have ff9 := Aside0.mk (show Kd.V (Kd.int .i64) 3 _ w.heap.size _ _ (rd_L1 b1 e9) from Kd.V_mk ul553_0 ge553_0)
                   clear hva_ hvn_ hvc_ ge553_0 ul553_0
                   clear hcc553 hce553
                   have ay2 := Aside0.mk ay1
                   have fg0 := Aside0.mk ay0
                   clear ay1 ay0
                   replace uz := eq_true uz
                   replace u0 := eq_true u0
                   have ac6 : 0 ≤ (j5 : Int) := of_decide_eq_true (g0_)
                   have ac7 : j5 < ((rd_L1 b1 e9).length : Int) := of_decide_eq_true (g0_)
                   obtain ⟨fg1, cm4, fg2⟩ := Kd.at_int (by repeat (first | (with_reducible exact ay2.out) | (with_reducible refine Kd.C_alloc ?_ _) | (with_reducible refine Kd.C_drewN ?_ _) | (with_reducible refine Kd.C_drew ?_) | exact ay2.out)) j5 ac6 ac7
                   cases cm4
                   replace ac6 := eq_true ac6
                   replace ac7 := eq_true ac7
                   go_wp2
                   repeat (go_quiet (fail); try go_wp2)
                   go_ret
                   exact ⟨g4_, a7⟩
                  ·rw [if_neg c91] at H
                   have fe8 := decide_eq_false c91
                   clear c91
                   have H' := Aside0.mk H
                   clear H
                   have ef0 := iq.out
                   have ef1 := jl.out
                   have gp8 := i6.out
                   have gp9 := j3.out
                   obtain ⟨gq0, gq1, gq2, gq3⟩ := blk2_ au
                   have ef3 := j4.out
                   have ef4 := lj.out
                   obtain ⟨ef5, ef6, ef7, ef8⟩ := blk2_ ao
                   have ux : 0 ≤ (e9 : Int) := of_decide_eq_true (g0_)
                   have uy : e9 < (aw.length : Int) := of_decide_eq_true (g0_)
                   obtain ⟨fe9, ff0, ff1, cl9, cm0, ax7, ax8⟩ := at_L1 (Kd.N_reads' aj.out).2.2 e9 ux uy
                   cases cl9
                   obtain ⟨ce551, hce551, hMe551, hcc551⟩ := Kd.N_get aj.out [] e9 ux (by first | exact uy | exact of_decide_eq_true (g0_) | (have e_ := (Kd.N_reads' aj.out).1; omega))
                   obtain ⟨ua551_0, uc551_0, rfl, ul551_0, ge551_0⟩ := Kd.FK_slice_open hMe551
                   have hv551_0 := hcc551 0 _ rfl
                   rw [Nat.add_zero, show ((Kd.slice 3 (Kd.int .i64))).sz = 1 from rfl, Nat.mul_one] at hv551_0
                   replace hv551_0 := Option.some.inj (hv551_0.symm.trans cm0)
                   injection hv551_0 with hva_ hvn_ hvc_
                   rw [hva_] at ge551_0
                   rw [hvc_] at ul551_0
                   have ff2 := Aside0.mk (show Kd.V (Kd.int .i64) 3 _ w.heap.size _ _ (rd_L1 aw e9) from Kd.V_mk ul551_0 ge551_0)
                   clear hva_ hvn_ hvc_ ge551_0 ul551_0
                   clear hcc551 hce551
                   have ax9 := Aside0.mk ax8
                   have ff3 := Aside0.mk ax7
                   clear ax8 ax7
                   replace ux := eq_true ux
                   replace uy := eq_true uy
                   have ac4 : 0 ≤ (j5 : Int) := of_decide_eq_true (g0_)
                   have ac5 : j5 < ((rd_L1 aw e9).length : Int) := of_decide_eq_true (g0_)
                   obtain ⟨ff4, cm1, ff5⟩ := Kd.at_int (by repeat (first | (with_reducible exact ax9.out) | (with_reducible refine Kd.C_alloc ?_ _) | (with_reducible refine Kd.C_drewN ?_ _) | (with_reducible refine Kd.C_drew ?_) | exact ax9.out)) j5 ac4 ac5
                   cases cm1
                   replace ac4 := eq_true ac4
                   replace ac5 := eq_true ac5
                   have uz : 0 ≤ (e9 : Int) := of_decide_eq_true (g0_)
                   have u0 : e9 < (b1.length : Int) := of_decide_eq_true (g0_)
                   obtain ⟨ff6, ff7, ff8, cm2, cm3, ay0, ay1⟩ := at_L1 (Kd.V_reads' bd.out).2.2 e9 uz u0
                   cases cm2
                   obtain ⟨ce553, hce553, hMe553, hcc553⟩ := Kd.V_get bd.out [] e9 uz (by first | exact u0 | exact of_decide_eq_true (g0_) | (have e_ := (Kd.V_reads' bd.out).1; omega))
                   obtain ⟨ua553_0, uc553_0, rfl, ul553_0, ge553_0⟩ := Kd.FK_slice_open hMe553
                   have hv553_0 := hcc553 0 _ rfl
                   rw [Nat.add_zero, show ((Kd.slice 3 (Kd.int .i64))).sz = 1 from rfl, Nat.mul_one] at hv553_0
                   replace hv553_0 := Option.some.inj (hv553_0.symm.trans cm3)
                   injection hv553_0 with hva_ hvn_ hvc_
                   rw [hva_] at ge553_0
                   rw [hvc_] at ul553_0
                   have ff9 := Aside0.mk (show Kd.V (Kd.int .i64) 3 _ w.heap.size _ _ (rd_L1 b1 e9) from Kd.V_mk ul553_0 ge553_0)
                   clear hva_ hvn_ hvc_ ge553_0 ul553_0
                   clear hcc553 hce553
                   have ay2 := Aside0.mk ay1
                   have fg0 := Aside0.mk ay0
                   clear ay1 ay0
                   replace uz := eq_true uz
                   replace u0 := eq_true u0
                   have ac6 : 0 ≤ (j5 : Int) := of_decide_eq_true (g0_)
                   have ac7 : j5 < ((rd_L1 b1 e9).length : Int) := of_decide_eq_true (g0_)
                   obtain ⟨fg1, cm4, fg2⟩ := Kd.at_int (by repeat (first | (with_reducible exact ay2.out) | (with_reducible refine Kd.C_alloc ?_ _) | (with_reducible refine Kd.C_drewN ?_ _) | (with_reducible refine Kd.C_drew ?_) | exact ay2.out)) j5 ac6 ac7
                   cases cm4
                   replace ac6 := eq_true ac6
                   replace ac7 := eq_true ac7
                   go_wp2
                   repeat (go_quiet (fail); try go_wp2)
                   go_roundg k5
                   case measure => have := HJ5.out; have := HK2.out; have := HJ63.out; have := HK4.out; have := HK5.out; omega
                   case rel => exact ⟨(wrap64 (j5 + 1)), (g2_), H', ⟨by have := HJ5.out; have := HK2.out; have := HJ63.out; have := HK4.out; have := HK5.out; omega⟩, ⟨uf1_ be⟩, ⟨uf1_ ay⟩, ⟨uf5_ bd⟩, ⟨uf1_ ai⟩, ⟨uf4_ aj⟩, ⟨uf1_ a9⟩, ⟨uf4_ bg⟩, ⟨uf0_ au⟩, ⟨uf0_ ao⟩, ⟨uf0_ az⟩, ⟨a7⟩⟩
                 ·rw [if_neg c84] at H
                  have fe7 := decide_eq_false c84
                  clear c84
                  have H' := Aside0.mk H
                  clear H
                  have gq4 := iq.out
                  have gq5 := jl.out
                  have gq6 := i6.out
                  have gq7 := j3.out
                  obtain ⟨gq8, gq9, gr0, gr1⟩ := blk2_ au
                  go_wp2
                  repeat (go_quiet (fail); try go_wp2)
                  go_roundg k5
                  case measure => have := HJ5.out; have := HK2.out; have := HJ63.out; have := HK4.out; have := HK5.out; omega
                  case rel => exact ⟨(wrap64 (e9 + 1)), (g2_), H', ⟨by have := HJ5.out; have := HK2.out; have := HJ63.out; have := HK4.out; have := HK5.out; omega⟩, ⟨uf1_ be⟩, ⟨uf1_ ay⟩, ⟨uf5_ bd⟩, ⟨uf1_ ai⟩, ⟨uf4_ aj⟩, ⟨uf1_ a9⟩, ⟨uf4_ bg⟩, ⟨uf0_ au⟩, ⟨uf0_ ao⟩, ⟨uf0_ az⟩, ⟨a7⟩⟩
              ·rw [if_neg rz] at H
               have bv6 := decide_eq_false rz
               clear rz
               obtain ⟨jj, pq, H⟩ := bind_ H
               by_cases xj : (jj.length : Int) = 0
               ·rw [if_pos xj] at H
                have fg3 : ((jj.length : Int) == 0) = true := beq_iff_eq.mpr xj
                have fg4 : ((jj.length : Int) != 0) = false := bne_eq_false_iff_eq.mpr xj
                clear xj
                obtain ⟨jk, u1, H⟩ := bind_ H
                obtain ⟨ck7, u2, H⟩ := bind_ H
                by_cases bq3 : ck7 = true
                ·subst bq3
                 replace H := ifp_ H
                 obtain ⟨uu, ai9, H⟩ := bind_ H
                 by_cases aj0 : uu ≥ g8
                 ·rw [if_pos aj0] at H
                  have fg5 := decide_eq_true aj0
                  clear aj0
                  obtain ⟨aw6, cm5, H⟩ := bind_ H
                  obtain rfl := Option.some.inj H
                  have gr2 := iq.out
                  have gr3 := jl.out
                  have gr4 := i6.out
                  have gr5 := j3.out
                  obtain ⟨gr6, gr7, gr8, gr9⟩ := blk2_ au
                  have gs0 := j4.out
                  have gs1 := lj.out
                  obtain ⟨gs2, gs3, gs4, gs5⟩ := blk2_ ao
                  go_wp2_with (first | (go_at_call 50; (with_reducible refine (impl_CirclesOf.calls k4 _ _ ar _ _ aw jj _ ?side1 ?side2 ?side3 ?side4 pq.out).mono ?_); (case side1 => repeat (first | exact (Kd.R_reads' ai.out).2.2 | (with_reducible refine Kd.C_alloc ?_ _) | (with_reducible refine Kd.C_drewN ?_ _) | (with_reducible refine Kd.C_drew ?_))); (case side2 => exact (Kd.R_reads' ai.out).2.1); (case side3 => repeat (first | exact (Kd.N_reads' aj.out).2.2 | (with_reducible refine Kd.C_alloc ?_ _) | (with_reducible refine Kd.C_drewN ?_ _) | (with_reducible refine Kd.C_drew ?_))); (case side4 => exact (Kd.N_reads' aj.out).2.1); rintro e dn9 ⟨rk, rfl, ac, hb⟩; replace bd := Aside0.mk (Kd.V_elder' (uf5_ bd) (Kd.N_base (g6_)) hb); have da := Aside0.mk (Kd.N_lower (Kd.N_mono (ok' := fun k_ => some k_ ≠ (.slice ey cx.length ez : Value).ownBlock ∧ some k_ ≠ (.slice am av.length al : Value).ownBlock ∧ some k_ ≠ (.slice an ar.length ak : Value).ownBlock ∧ some k_ ≠ (.slice ba aw.length a5 : Value).ownBlock ∧ some k_ ≠ (.slice bc bk.length a6 : Value).ownBlock ∧ some k_ ≠ (.slice bw b3.length bt : Value).ownBlock ∧ k_ ≠ bj ∧ k_ ≠ bm ∧ k_ ≠ bp) ac (fun k_ hk_ => ⟨(Kd.fresh' (Kd.R_lt (uf1_ be)) k_ hk_), (Kd.fresh' (Kd.R_lt (uf1_ ay)) k_ hk_), (Kd.fresh' (Kd.R_lt (uf1_ ai)) k_ hk_), (Kd.fresh' (Kd.N_lt (uf4_ aj)) k_ hk_), (Kd.fresh' (Kd.R_lt (uf1_ a9)) k_ hk_), (Kd.fresh' (Kd.N_lt (uf4_ bg)) k_ hk_), (Kd.freshB (g := bj) (o := .cells #[.slice am av.length al, .slice br b1.length bn] 25 (0, 0)) (uf0_ au) k_ hk_), (Kd.freshB (g := bm) (o := .cells #[.slice an ar.length ak, .slice ba aw.length a5] 25 (0, 0)) (uf0_ ao) k_ hk_), (Kd.freshB (g := bp) (o := .cells #[.slice bc bk.length a6, .slice bw b3.length bt] 25 (0, 0)) (uf0_ az) k_ hk_)⟩)) (below_size (a7))); replace be := Aside0.mk (Kd.R_below (uf1_ be) hb); replace ay := Aside0.mk (Kd.R_below (uf1_ ay) hb); replace ai := Aside0.mk (Kd.R_below (uf1_ ai) hb); replace aj := Aside0.mk (Kd.N_elder' (uf4_ aj) (Kd.N_base (g6_)) hb); replace a9 := Aside0.mk (Kd.R_below (uf1_ a9) hb); replace bg := Aside0.mk (Kd.N_elder' (uf4_ bg) (Kd.N_base (g6_)) hb); replace au := bb_ au hb; replace ao := bb_ ao hb; replace az := bb_ az hb; replace HB := Aside0.mk (below_step (a7) hb); (try clear hb); (try clear hk hi); (try clear ac); obtain ⟨do0, do1, ay3⟩ := Kd.N_slice da.out; subst ay3; obtain ⟨do2, do3, do4, do5⟩ := blk2_ ao) | (go_at_call 46; (with_reducible refine (impl_NetsOf.calls k4 _ _ ar _ _ aw jk _ ?side1 ?side2 ?side3 ?side4 u1.out).mono ?_); (case side1 => repeat (first | exact (Kd.R_reads' ai.out).2.2 | (with_reducible refine Kd.C_alloc ?_ _) | (with_reducible refine Kd.C_drewN ?_ _) | (with_reducible refine Kd.C_drew ?_))); (case side2 => exact (Kd.R_reads' ai.out).2.1); (case side3 => repeat (first | exact (Kd.N_reads' aj.out).2.2 | (with_reducible refine Kd.C_alloc ?_ _) | (with_reducible refine Kd.C_drewN ?_ _) | (with_reducible refine Kd.C_drew ?_))); (case side4 => exact (Kd.N_reads' aj.out).2.1); rintro e do6 ⟨xk, rfl, ac, hb⟩; replace bd := Aside0.mk (Kd.V_elder' (uf5_ bd) (Kd.R_base ac) hb); replace aj := Aside0.mk (Kd.N_elder' (uf4_ aj) (Kd.R_base ac) hb); replace bg := Aside0.mk (Kd.N_elder' (uf4_ bg) (Kd.R_base ac) hb); replace da := Aside0.mk (Kd.N_elder' (uf4_ da) (Kd.R_base ac) hb); have dh := Aside0.mk (Kd.R_lower (Kd.R_new' (Kd.R_new' (Kd.R_new' (Kd.R_new' ac (Kd.R_lt (uf1_ be))) (Kd.R_lt (uf1_ ay))) (Kd.R_lt (uf1_ ai))) (Kd.R_lt (uf1_ a9))) (below_size (a7))); replace be := Aside0.mk (Kd.R_elder' (uf1_ be) (Kd.R_base ac) hb); replace ay := Aside0.mk (Kd.R_elder' (uf1_ ay) (Kd.R_base ac) hb); replace ai := Aside0.mk (Kd.R_elder' (uf1_ ai) (Kd.R_base ac) hb); replace a9 := Aside0.mk (Kd.R_elder' (uf1_ a9) (Kd.R_base ac) hb); replace au := bb_ au hb; replace ao := bb_ ao hb; replace az := bb_ az hb; replace HB := Aside0.mk (below_step (a7) hb); (try clear hb); (try clear hk hi); (try clear ac); obtain ⟨do7, do8, ay4⟩ := Kd.R_slice dh.out; subst ay4) | (go_at_call 45; (with_reducible refine (laws_sameInts.calls k4 _ _ jk _ _ cx true _ ?side1 ?side2 ?side3 ?side4 u2.out).mono ?_); (case side1 => repeat (first | exact (Kd.R_reads' dh.out).2.2 | (with_reducible refine Kd.C_alloc ?_ _) | (with_reducible refine Kd.C_drewN ?_ _) | (with_reducible refine Kd.C_drew ?_))); (case side2 => exact (Kd.R_reads' dh.out).2.1); (case side3 => repeat (first | exact (Kd.R_reads' be.out).2.2 | (with_reducible refine Kd.C_alloc ?_ _) | (with_reducible refine Kd.C_drewN ?_ _) | (with_reducible refine Kd.C_drew ?_))); (case side4 => exact (Kd.R_reads' be.out).2.1); rintro e w' ⟨rfl, ⟨nd, rfl⟩⟩; (try first | exact ⟨rfl, _, World.drewN_drewN _ _ _⟩ | exact ⟨rfl, _, Eq.trans (World.drewN_drewN _ _ _) (congrArg (World.drewN _) (Nat.add_assoc _ _ _))⟩); obtain ⟨do9, dp0, dp1, dp2⟩ := blk2_ ao) | (go_at_call 25; (with_reducible refine (impl_AllDebts.calls k4 _ _ ar _ _ aw uu _ ?side1 ?side2 ?side3 ?side4 ai9.out).mono ?_); (case side1 => repeat (first | exact (Kd.R_reads' ai.out).2.2 | (with_reducible refine Kd.C_alloc ?_ _) | (with_reducible refine Kd.C_drewN ?_ _) | (with_reducible refine Kd.C_drew ?_))); (case side2 => exact (Kd.R_reads' ai.out).2.1); (case side3 => repeat (first | exact (Kd.N_reads' aj.out).2.2 | (with_reducible refine Kd.C_alloc ?_ _) | (with_reducible refine Kd.C_drewN ?_ _) | (with_reducible refine Kd.C_drew ?_))); (case side4 => exact (Kd.N_reads' aj.out).2.1); rintro e dp3 ⟨rfl, hb⟩; replace be := Aside0.mk (Kd.R_below (uf1_ be) hb); replace ay := Aside0.mk (Kd.R_below (uf1_ ay) hb); replace bd := Aside0.mk (Kd.V_below (uf5_ bd) hb); replace ai := Aside0.mk (Kd.R_below (uf1_ ai) hb); replace aj := Aside0.mk (Kd.N_below (uf4_ aj) hb); replace a9 := Aside0.mk (Kd.R_below (uf1_ a9) hb); replace bg := Aside0.mk (Kd.N_below (uf4_ bg) hb); replace da := Aside0.mk (Kd.N_below (uf4_ da) hb); replace dh := Aside0.mk (Kd.R_below (uf1_ dh) hb); replace au := bb_ au hb; replace ao := bb_ ao hb; replace az := bb_ az hb; replace HB := Aside0.mk (below_step (a7) hb); (try clear hb); (try clear hk hi); obtain ⟨dp4, dp5, dp6, dp7⟩ := blk2_ ao; obtain ⟨dp8, dp9, dq0, dq1⟩ := blk2_ au) | (go_at_call 40; (with_reducible refine (laws_sameBook.calls k4 _ _ ar _ _ aw _ _ av _ _ b1 aw6 _ ?side1 ?side2 ?side3 ?side4 ?side5 ?side6 ?side7 ?side8 cm5.out).mono ?_); (case side1 => repeat (first | exact (Kd.R_reads' ai.out).2.2 | (with_reducible refine Kd.C_alloc ?_ _) | (with_reducible refine Kd.C_drewN ?_ _) | (with_reducible refine Kd.C_drew ?_))); (case side2 => exact (Kd.R_reads' ai.out).2.1); (case side3 => repeat (first | exact (Kd.N_reads' aj.out).2.2 | (with_reducible refine Kd.C_alloc ?_ _) | (with_reducible refine Kd.C_drewN ?_ _) | (with_reducible refine Kd.C_drew ?_))); (case side4 => exact (Kd.N_reads' aj.out).2.1); (case side5 => repeat (first | exact (Kd.R_reads' ay.out).2.2 | (with_reducible refine Kd.C_alloc ?_ _) | (with_reducible refine Kd.C_drewN ?_ _) | (with_reducible refine Kd.C_drew ?_))); (case side6 => exact (Kd.R_reads' ay.out).2.1); (case side7 => repeat (first | exact (Kd.V_reads' bd.out).2.2 | (with_reducible refine Kd.C_alloc ?_ _) | (with_reducible refine Kd.C_drewN ?_ _) | (with_reducible refine Kd.C_drew ?_))); (case side8 => exact (Kd.V_reads' bd.out).2.1); rintro e dq2 ⟨rfl, hb⟩; replace be := Aside0.mk (Kd.R_below (uf1_ be) hb); replace ay := Aside0.mk (Kd.R_below (uf1_ ay) hb); replace bd := Aside0.mk (Kd.V_below (uf5_ bd) hb); replace ai := Aside0.mk (Kd.R_below (uf1_ ai) hb); replace aj := Aside0.mk (Kd.N_below (uf4_ aj) hb); replace a9 := Aside0.mk (Kd.R_below (uf1_ a9) hb); replace bg := Aside0.mk (Kd.N_below (uf4_ bg) hb); replace da := Aside0.mk (Kd.N_below (uf4_ da) hb); replace dh := Aside0.mk (Kd.R_below (uf1_ dh) hb); replace au := bb_ au hb; replace ao := bb_ ao hb; replace az := bb_ az hb; replace HB := Aside0.mk (below_step (a7) hb); (try clear hb); (try clear hk hi)))
                  repeat (go_quiet (first | (go_at_call 50; (with_reducible refine (impl_CirclesOf.calls k4 _ _ ar _ _ aw jj _ ?side1 ?side2 ?side3 ?side4 pq.out).mono ?_); (case side1 => repeat (first | exact (Kd.R_reads' ai.out).2.2 | (with_reducible refine Kd.C_alloc ?_ _) | (with_reducible refine Kd.C_drewN ?_ _) | (with_reducible refine Kd.C_drew ?_))); (case side2 => exact (Kd.R_reads' ai.out).2.1); (case side3 => repeat (first | exact (Kd.N_reads' aj.out).2.2 | (with_reducible refine Kd.C_alloc ?_ _) | (with_reducible refine Kd.C_drewN ?_ _) | (with_reducible refine Kd.C_drew ?_))); (case side4 => exact (Kd.N_reads' aj.out).2.1); rintro e dn9 ⟨rk, rfl, ac, hb⟩; replace bd := Aside0.mk (Kd.V_elder' (uf5_ bd) (Kd.N_base (g6_)) hb); have da := Aside0.mk (Kd.N_lower (Kd.N_mono (ok' := fun k_ => some k_ ≠ (.slice ey cx.length ez : Value).ownBlock ∧ some k_ ≠ (.slice am av.length al : Value).ownBlock ∧ some k_ ≠ (.slice an ar.length ak : Value).ownBlock ∧ some k_ ≠ (.slice ba aw.length a5 : Value).ownBlock ∧ some k_ ≠ (.slice bc bk.length a6 : Value).ownBlock ∧ some k_ ≠ (.slice bw b3.length bt : Value).ownBlock ∧ k_ ≠ bj ∧ k_ ≠ bm ∧ k_ ≠ bp) ac (fun k_ hk_ => ⟨(Kd.fresh' (Kd.R_lt (uf1_ be)) k_ hk_), (Kd.fresh' (Kd.R_lt (uf1_ ay)) k_ hk_), (Kd.fresh' (Kd.R_lt (uf1_ ai)) k_ hk_), (Kd.fresh' (Kd.N_lt (uf4_ aj)) k_ hk_), (Kd.fresh' (Kd.R_lt (uf1_ a9)) k_ hk_), (Kd.fresh' (Kd.N_lt (uf4_ bg)) k_ hk_), (Kd.freshB (g := bj) (o := .cells #[.slice am av.length al, .slice br b1.length bn] 25 (0, 0)) (uf0_ au) k_ hk_), (Kd.freshB (g := bm) (o := .cells #[.slice an ar.length ak, .slice ba aw.length a5] 25 (0, 0)) (uf0_ ao) k_ hk_), (Kd.freshB (g := bp) (o := .cells #[.slice bc bk.length a6, .slice bw b3.length bt] 25 (0, 0)) (uf0_ az) k_ hk_)⟩)) (below_size (a7))); replace be := Aside0.mk (Kd.R_below (uf1_ be) hb); replace ay := Aside0.mk (Kd.R_below (uf1_ ay) hb); replace ai := Aside0.mk (Kd.R_below (uf1_ ai) hb); replace aj := Aside0.mk (Kd.N_elder' (uf4_ aj) (Kd.N_base (g6_)) hb); replace a9 := Aside0.mk (Kd.R_below (uf1_ a9) hb); replace bg := Aside0.mk (Kd.N_elder' (uf4_ bg) (Kd.N_base (g6_)) hb); replace au := bb_ au hb; replace ao := bb_ ao hb; replace az := bb_ az hb; replace HB := Aside0.mk (below_step (a7) hb); (try clear hb); (try clear hk hi); (try clear ac); obtain ⟨do0, do1, ay3⟩ := Kd.N_slice da.out; subst ay3; obtain ⟨do2, do3, do4, do5⟩ := blk2_ ao) | (go_at_call 46; (with_reducible refine (impl_NetsOf.calls k4 _ _ ar _ _ aw jk _ ?side1 ?side2 ?side3 ?side4 u1.out).mono ?_); (case side1 => repeat (first | exact (Kd.R_reads' ai.out).2.2 | (with_reducible refine Kd.C_alloc ?_ _) | (with_reducible refine Kd.C_drewN ?_ _) | (with_reducible refine Kd.C_drew ?_))); (case side2 => exact (Kd.R_reads' ai.out).2.1); (case side3 => repeat (first | exact (Kd.N_reads' aj.out).2.2 | (with_reducible refine Kd.C_alloc ?_ _) | (with_reducible refine Kd.C_drewN ?_ _) | (with_reducible refine Kd.C_drew ?_))); (case side4 => exact (Kd.N_reads' aj.out).2.1); rintro e do6 ⟨xk, rfl, ac, hb⟩; replace bd := Aside0.mk (Kd.V_elder' (uf5_ bd) (Kd.R_base ac) hb); replace aj := Aside0.mk (Kd.N_elder' (uf4_ aj) (Kd.R_base ac) hb); replace bg := Aside0.mk (Kd.N_elder' (uf4_ bg) (Kd.R_base ac) hb); replace da := Aside0.mk (Kd.N_elder' (uf4_ da) (Kd.R_base ac) hb); have dh := Aside0.mk (Kd.R_lower (Kd.R_new' (Kd.R_new' (Kd.R_new' (Kd.R_new' ac (Kd.R_lt (uf1_ be))) (Kd.R_lt (uf1_ ay))) (Kd.R_lt (uf1_ ai))) (Kd.R_lt (uf1_ a9))) (below_size (a7))); replace be := Aside0.mk (Kd.R_elder' (uf1_ be) (Kd.R_base ac) hb); replace ay := Aside0.mk (Kd.R_elder' (uf1_ ay) (Kd.R_base ac) hb); replace ai := Aside0.mk (Kd.R_elder' (uf1_ ai) (Kd.R_base ac) hb); replace a9 := Aside0.mk (Kd.R_elder' (uf1_ a9) (Kd.R_base ac) hb); replace au := bb_ au hb; replace ao := bb_ ao hb; replace az := bb_ az hb; replace HB := Aside0.mk (below_step (a7) hb); (try clear hb); (try clear hk hi); (try clear ac); obtain ⟨do7, do8, ay4⟩ := Kd.R_slice dh.out; subst ay4) | (go_at_call 45; (with_reducible refine (laws_sameInts.calls k4 _ _ jk _ _ cx true _ ?side1 ?side2 ?side3 ?side4 u2.out).mono ?_); (case side1 => repeat (first | exact (Kd.R_reads' dh.out).2.2 | (with_reducible refine Kd.C_alloc ?_ _) | (with_reducible refine Kd.C_drewN ?_ _) | (with_reducible refine Kd.C_drew ?_))); (case side2 => exact (Kd.R_reads' dh.out).2.1); (case side3 => repeat (first | exact (Kd.R_reads' be.out).2.2 | (with_reducible refine Kd.C_alloc ?_ _) | (with_reducible refine Kd.C_drewN ?_ _) | (with_reducible refine Kd.C_drew ?_))); (case side4 => exact (Kd.R_reads' be.out).2.1); rintro e w' ⟨rfl, ⟨nd, rfl⟩⟩; (try first | exact ⟨rfl, _, World.drewN_drewN _ _ _⟩ | exact ⟨rfl, _, Eq.trans (World.drewN_drewN _ _ _) (congrArg (World.drewN _) (Nat.add_assoc _ _ _))⟩); obtain ⟨do9, dp0, dp1, dp2⟩ := blk2_ ao) | (go_at_call 25; (with_reducible refine (impl_AllDebts.calls k4 _ _ ar _ _ aw uu _ ?side1 ?side2 ?side3 ?side4 ai9.out).mono ?_); (case side1 => repeat (first | exact (Kd.R_reads' ai.out).2.2 | (with_reducible refine Kd.C_alloc ?_ _) | (with_reducible refine Kd.C_drewN ?_ _) | (with_reducible refine Kd.C_drew ?_))); (case side2 => exact (Kd.R_reads' ai.out).2.1); (case side3 => repeat (first | exact (Kd.N_reads' aj.out).2.2 | (with_reducible refine Kd.C_alloc ?_ _) | (with_reducible refine Kd.C_drewN ?_ _) | (with_reducible refine Kd.C_drew ?_))); (case side4 => exact (Kd.N_reads' aj.out).2.1); rintro e dp3 ⟨rfl, hb⟩; replace be := Aside0.mk (Kd.R_below (uf1_ be) hb); replace ay := Aside0.mk (Kd.R_below (uf1_ ay) hb); replace bd := Aside0.mk (Kd.V_below (uf5_ bd) hb); replace ai := Aside0.mk (Kd.R_below (uf1_ ai) hb); replace aj := Aside0.mk (Kd.N_below (uf4_ aj) hb); replace a9 := Aside0.mk (Kd.R_below (uf1_ a9) hb); replace bg := Aside0.mk (Kd.N_below (uf4_ bg) hb); replace da := Aside0.mk (Kd.N_below (uf4_ da) hb); replace dh := Aside0.mk (Kd.R_below (uf1_ dh) hb); replace au := bb_ au hb; replace ao := bb_ ao hb; replace az := bb_ az hb; replace HB := Aside0.mk (below_step (a7) hb); (try clear hb); (try clear hk hi); obtain ⟨dp4, dp5, dp6, dp7⟩ := blk2_ ao; obtain ⟨dp8, dp9, dq0, dq1⟩ := blk2_ au) | (go_at_call 40; (with_reducible refine (laws_sameBook.calls k4 _ _ ar _ _ aw _ _ av _ _ b1 aw6 _ ?side1 ?side2 ?side3 ?side4 ?side5 ?side6 ?side7 ?side8 cm5.out).mono ?_); (case side1 => repeat (first | exact (Kd.R_reads' ai.out).2.2 | (with_reducible refine Kd.C_alloc ?_ _) | (with_reducible refine Kd.C_drewN ?_ _) | (with_reducible refine Kd.C_drew ?_))); (case side2 => exact (Kd.R_reads' ai.out).2.1); (case side3 => repeat (first | exact (Kd.N_reads' aj.out).2.2 | (with_reducible refine Kd.C_alloc ?_ _) | (with_reducible refine Kd.C_drewN ?_ _) | (with_reducible refine Kd.C_drew ?_))); (case side4 => exact (Kd.N_reads' aj.out).2.1); (case side5 => repeat (first | exact (Kd.R_reads' ay.out).2.2 | (with_reducible refine Kd.C_alloc ?_ _) | (with_reducible refine Kd.C_drewN ?_ _) | (with_reducible refine Kd.C_drew ?_))); (case side6 => exact (Kd.R_reads' ay.out).2.1); (case side7 => repeat (first | exact (Kd.V_reads' bd.out).2.2 | (with_reducible refine Kd.C_alloc ?_ _) | (with_reducible refine Kd.C_drewN ?_ _) | (with_reducible refine Kd.C_drew ?_))); (case side8 => exact (Kd.V_reads' bd.out).2.1); rintro e dq2 ⟨rfl, hb⟩; replace be := Aside0.mk (Kd.R_below (uf1_ be) hb); replace ay := Aside0.mk (Kd.R_below (uf1_ ay) hb); replace bd := Aside0.mk (Kd.V_below (uf5_ bd) hb); replace ai := Aside0.mk (Kd.R_below (uf1_ ai) hb); replace aj := Aside0.mk (Kd.N_below (uf4_ aj) hb); replace a9 := Aside0.mk (Kd.R_below (uf1_ a9) hb); replace bg := Aside0.mk (Kd.N_below (uf4_ bg) hb); replace da := Aside0.mk (Kd.N_below (uf4_ da) hb); replace dh := Aside0.mk (Kd.R_below (uf1_ dh) hb); replace au := bb_ au hb; replace ao := bb_ ao hb; replace az := bb_ az hb; replace HB := Aside0.mk (below_step (a7) hb); (try clear hb); (try clear hk hi))); try go_wp2_with (first | (go_at_call 50; (with_reducible refine (impl_CirclesOf.calls k4 _ _ ar _ _ aw jj _ ?side1 ?side2 ?side3 ?side4 pq.out).mono ?_); (case side1 => repeat (first | exact (Kd.R_reads' ai.out).2.2 | (with_reducible refine Kd.C_alloc ?_ _) | (with_reducible refine Kd.C_drewN ?_ _) | (with_reducible refine Kd.C_drew ?_))); (case side2 => exact (Kd.R_reads' ai.out).2.1); (case side3 => repeat (first | exact (Kd.N_reads' aj.out).2.2 | (with_reducible refine Kd.C_alloc ?_ _) | (with_reducible refine Kd.C_drewN ?_ _) | (with_reducible refine Kd.C_drew ?_))); (case side4 => exact (Kd.N_reads' aj.out).2.1); rintro e dn9 ⟨rk, rfl, ac, hb⟩; replace bd := Aside0.mk (Kd.V_elder' (uf5_ bd) (Kd.N_base (g6_)) hb); have da := Aside0.mk (Kd.N_lower (Kd.N_mono (ok' := fun k_ => some k_ ≠ (.slice ey cx.length ez : Value).ownBlock ∧ some k_ ≠ (.slice am av.length al : Value).ownBlock ∧ some k_ ≠ (.slice an ar.length ak : Value).ownBlock ∧ some k_ ≠ (.slice ba aw.length a5 : Value).ownBlock ∧ some k_ ≠ (.slice bc bk.length a6 : Value).ownBlock ∧ some k_ ≠ (.slice bw b3.length bt : Value).ownBlock ∧ k_ ≠ bj ∧ k_ ≠ bm ∧ k_ ≠ bp) ac (fun k_ hk_ => ⟨(Kd.fresh' (Kd.R_lt (uf1_ be)) k_ hk_), (Kd.fresh' (Kd.R_lt (uf1_ ay)) k_ hk_), (Kd.fresh' (Kd.R_lt (uf1_ ai)) k_ hk_), (Kd.fresh' (Kd.N_lt (uf4_ aj)) k_ hk_), (Kd.fresh' (Kd.R_lt (uf1_ a9)) k_ hk_), (Kd.fresh' (Kd.N_lt (uf4_ bg)) k_ hk_), (Kd.freshB (g := bj) (o := .cells #[.slice am av.length al, .slice br b1.length bn] 25 (0, 0)) (uf0_ au) k_ hk_), (Kd.freshB (g := bm) (o := .cells #[.slice an ar.length ak, .slice ba aw.length a5] 25 (0, 0)) (uf0_ ao) k_ hk_), (Kd.freshB (g := bp) (o := .cells #[.slice bc bk.length a6, .slice bw b3.length bt] 25 (0, 0)) (uf0_ az) k_ hk_)⟩)) (below_size (a7))); replace be := Aside0.mk (Kd.R_below (uf1_ be) hb); replace ay := Aside0.mk (Kd.R_below (uf1_ ay) hb); replace ai := Aside0.mk (Kd.R_below (uf1_ ai) hb); replace aj := Aside0.mk (Kd.N_elder' (uf4_ aj) (Kd.N_base (g6_)) hb); replace a9 := Aside0.mk (Kd.R_below (uf1_ a9) hb); replace bg := Aside0.mk (Kd.N_elder' (uf4_ bg) (Kd.N_base (g6_)) hb); replace au := bb_ au hb; replace ao := bb_ ao hb; replace az := bb_ az hb; replace HB := Aside0.mk (below_step (a7) hb); (try clear hb); (try clear hk hi); (try clear ac); obtain ⟨do0, do1, ay3⟩ := Kd.N_slice da.out; subst ay3; obtain ⟨do2, do3, do4, do5⟩ := blk2_ ao) | (go_at_call 46; (with_reducible refine (impl_NetsOf.calls k4 _ _ ar _ _ aw jk _ ?side1 ?side2 ?side3 ?side4 u1.out).mono ?_); (case side1 => repeat (first | exact (Kd.R_reads' ai.out).2.2 | (with_reducible refine Kd.C_alloc ?_ _) | (with_reducible refine Kd.C_drewN ?_ _) | (with_reducible refine Kd.C_drew ?_))); (case side2 => exact (Kd.R_reads' ai.out).2.1); (case side3 => repeat (first | exact (Kd.N_reads' aj.out).2.2 | (with_reducible refine Kd.C_alloc ?_ _) | (with_reducible refine Kd.C_drewN ?_ _) | (with_reducible refine Kd.C_drew ?_))); (case side4 => exact (Kd.N_reads' aj.out).2.1); rintro e do6 ⟨xk, rfl, ac, hb⟩; replace bd := Aside0.mk (Kd.V_elder' (uf5_ bd) (Kd.R_base ac) hb); replace aj := Aside0.mk (Kd.N_elder' (uf4_ aj) (Kd.R_base ac) hb); replace bg := Aside0.mk (Kd.N_elder' (uf4_ bg) (Kd.R_base ac) hb); replace da := Aside0.mk (Kd.N_elder' (uf4_ da) (Kd.R_base ac) hb); have dh := Aside0.mk (Kd.R_lower (Kd.R_new' (Kd.R_new' (Kd.R_new' (Kd.R_new' ac (Kd.R_lt (uf1_ be))) (Kd.R_lt (uf1_ ay))) (Kd.R_lt (uf1_ ai))) (Kd.R_lt (uf1_ a9))) (below_size (a7))); replace be := Aside0.mk (Kd.R_elder' (uf1_ be) (Kd.R_base ac) hb); replace ay := Aside0.mk (Kd.R_elder' (uf1_ ay) (Kd.R_base ac) hb); replace ai := Aside0.mk (Kd.R_elder' (uf1_ ai) (Kd.R_base ac) hb); replace a9 := Aside0.mk (Kd.R_elder' (uf1_ a9) (Kd.R_base ac) hb); replace au := bb_ au hb; replace ao := bb_ ao hb; replace az := bb_ az hb; replace HB := Aside0.mk (below_step (a7) hb); (try clear hb); (try clear hk hi); (try clear ac); obtain ⟨do7, do8, ay4⟩ := Kd.R_slice dh.out; subst ay4) | (go_at_call 45; (with_reducible refine (laws_sameInts.calls k4 _ _ jk _ _ cx true _ ?side1 ?side2 ?side3 ?side4 u2.out).mono ?_); (case side1 => repeat (first | exact (Kd.R_reads' dh.out).2.2 | (with_reducible refine Kd.C_alloc ?_ _) | (with_reducible refine Kd.C_drewN ?_ _) | (with_reducible refine Kd.C_drew ?_))); (case side2 => exact (Kd.R_reads' dh.out).2.1); (case side3 => repeat (first | exact (Kd.R_reads' be.out).2.2 | (with_reducible refine Kd.C_alloc ?_ _) | (with_reducible refine Kd.C_drewN ?_ _) | (with_reducible refine Kd.C_drew ?_))); (case side4 => exact (Kd.R_reads' be.out).2.1); rintro e w' ⟨rfl, ⟨nd, rfl⟩⟩; (try first | exact ⟨rfl, _, World.drewN_drewN _ _ _⟩ | exact ⟨rfl, _, Eq.trans (World.drewN_drewN _ _ _) (congrArg (World.drewN _) (Nat.add_assoc _ _ _))⟩); obtain ⟨do9, dp0, dp1, dp2⟩ := blk2_ ao) | (go_at_call 25; (with_reducible refine (impl_AllDebts.calls k4 _ _ ar _ _ aw uu _ ?side1 ?side2 ?side3 ?side4 ai9.out).mono ?_); (case side1 => repeat (first | exact (Kd.R_reads' ai.out).2.2 | (with_reducible refine Kd.C_alloc ?_ _) | (with_reducible refine Kd.C_drewN ?_ _) | (with_reducible refine Kd.C_drew ?_))); (case side2 => exact (Kd.R_reads' ai.out).2.1); (case side3 => repeat (first | exact (Kd.N_reads' aj.out).2.2 | (with_reducible refine Kd.C_alloc ?_ _) | (with_reducible refine Kd.C_drewN ?_ _) | (with_reducible refine Kd.C_drew ?_))); (case side4 => exact (Kd.N_reads' aj.out).2.1); rintro e dp3 ⟨rfl, hb⟩; replace be := Aside0.mk (Kd.R_below (uf1_ be) hb); replace ay := Aside0.mk (Kd.R_below (uf1_ ay) hb); replace bd := Aside0.mk (Kd.V_below (uf5_ bd) hb); replace ai := Aside0.mk (Kd.R_below (uf1_ ai) hb); replace aj := Aside0.mk (Kd.N_below (uf4_ aj) hb); replace a9 := Aside0.mk (Kd.R_below (uf1_ a9) hb); replace bg := Aside0.mk (Kd.N_below (uf4_ bg) hb); replace da := Aside0.mk (Kd.N_below (uf4_ da) hb); replace dh := Aside0.mk (Kd.R_below (uf1_ dh) hb); replace au := bb_ au hb; replace ao := bb_ ao hb; replace az := bb_ az hb; replace HB := Aside0.mk (below_step (a7) hb); (try clear hb); (try clear hk hi); obtain ⟨dp4, dp5, dp6, dp7⟩ := blk2_ ao; obtain ⟨dp8, dp9, dq0, dq1⟩ := blk2_ au) | (go_at_call 40; (with_reducible refine (laws_sameBook.calls k4 _ _ ar _ _ aw _ _ av _ _ b1 aw6 _ ?side1 ?side2 ?side3 ?side4 ?side5 ?side6 ?side7 ?side8 cm5.out).mono ?_); (case side1 => repeat (first | exact (Kd.R_reads' ai.out).2.2 | (with_reducible refine Kd.C_alloc ?_ _) | (with_reducible refine Kd.C_drewN ?_ _) | (with_reducible refine Kd.C_drew ?_))); (case side2 => exact (Kd.R_reads' ai.out).2.1); (case side3 => repeat (first | exact (Kd.N_reads' aj.out).2.2 | (with_reducible refine Kd.C_alloc ?_ _) | (with_reducible refine Kd.C_drewN ?_ _) | (with_reducible refine Kd.C_drew ?_))); (case side4 => exact (Kd.N_reads' aj.out).2.1); (case side5 => repeat (first | exact (Kd.R_reads' ay.out).2.2 | (with_reducible refine Kd.C_alloc ?_ _) | (with_reducible refine Kd.C_drewN ?_ _) | (with_reducible refine Kd.C_drew ?_))); (case side6 => exact (Kd.R_reads' ay.out).2.1); (case side7 => repeat (first | exact (Kd.V_reads' bd.out).2.2 | (with_reducible refine Kd.C_alloc ?_ _) | (with_reducible refine Kd.C_drewN ?_ _) | (with_reducible refine Kd.C_drew ?_))); (case side8 => exact (Kd.V_reads' bd.out).2.1); rintro e dq2 ⟨rfl, hb⟩; replace be := Aside0.mk (Kd.R_below (uf1_ be) hb); replace ay := Aside0.mk (Kd.R_below (uf1_ ay) hb); replace bd := Aside0.mk (Kd.V_below (uf5_ bd) hb); replace ai := Aside0.mk (Kd.R_below (uf1_ ai) hb); replace aj := Aside0.mk (Kd.N_below (uf4_ aj) hb); replace a9 := Aside0.mk (Kd.R_below (uf1_ a9) hb); replace bg := Aside0.mk (Kd.N_below (uf4_ bg) hb); replace da := Aside0.mk (Kd.N_below (uf4_ da) hb); replace dh := Aside0.mk (Kd.R_below (uf1_ dh) hb); replace au := bb_ au hb; replace ao := bb_ ao hb; replace az := bb_ az hb; replace HB := Aside0.mk (below_step (a7) hb); (try clear hb); (try clear hk hi))))
                  go_ret
                  exact ⟨g4_, a7⟩
                 ·rw [if_neg aj0] at H
                  have fg5 := decide_eq_false aj0
                  clear aj0
                  obtain rfl := Option.some.inj H
                  have gs6 := iq.out
                  have gs7 := jl.out
                  have gs8 := i6.out
                  have gs9 := j3.out
                  obtain ⟨gt0, gt1, gt2, gt3⟩ := blk2_ au
                  have gt4 := j4.out
                  have gt5 := lj.out
                  obtain ⟨gt6, gt7, gt8, gt9⟩ := blk2_ ao
                  go_wp2_with (first | (go_at_call 50; (with_reducible refine (impl_CirclesOf.calls k4 _ _ ar _ _ aw jj _ ?side1 ?side2 ?side3 ?side4 pq.out).mono ?_); (case side1 => repeat (first | exact (Kd.R_reads' ai.out).2.2 | (with_reducible refine Kd.C_alloc ?_ _) | (with_reducible refine Kd.C_drewN ?_ _) | (with_reducible refine Kd.C_drew ?_))); (case side2 => exact (Kd.R_reads' ai.out).2.1); (case side3 => repeat (first | exact (Kd.N_reads' aj.out).2.2 | (with_reducible refine Kd.C_alloc ?_ _) | (with_reducible refine Kd.C_drewN ?_ _) | (with_reducible refine Kd.C_drew ?_))); (case side4 => exact (Kd.N_reads' aj.out).2.1); rintro e dq3 ⟨rk, rfl, ac, hb⟩; replace bd := Aside0.mk (Kd.V_elder' (uf5_ bd) (Kd.N_base (g6_)) hb); have da := Aside0.mk (Kd.N_lower (Kd.N_mono (ok' := fun k_ => some k_ ≠ (.slice ey cx.length ez : Value).ownBlock ∧ some k_ ≠ (.slice am av.length al : Value).ownBlock ∧ some k_ ≠ (.slice an ar.length ak : Value).ownBlock ∧ some k_ ≠ (.slice ba aw.length a5 : Value).ownBlock ∧ some k_ ≠ (.slice bc bk.length a6 : Value).ownBlock ∧ some k_ ≠ (.slice bw b3.length bt : Value).ownBlock ∧ k_ ≠ bj ∧ k_ ≠ bm ∧ k_ ≠ bp) ac (fun k_ hk_ => ⟨(Kd.fresh' (Kd.R_lt (uf1_ be)) k_ hk_), (Kd.fresh' (Kd.R_lt (uf1_ ay)) k_ hk_), (Kd.fresh' (Kd.R_lt (uf1_ ai)) k_ hk_), (Kd.fresh' (Kd.N_lt (uf4_ aj)) k_ hk_), (Kd.fresh' (Kd.R_lt (uf1_ a9)) k_ hk_), (Kd.fresh' (Kd.N_lt (uf4_ bg)) k_ hk_), (Kd.freshB (g := bj) (o := .cells #[.slice am av.length al, .slice br b1.length bn] 25 (0, 0)) (uf0_ au) k_ hk_), (Kd.freshB (g := bm) (o := .cells #[.slice an ar.length ak, .slice ba aw.length a5] 25 (0, 0)) (uf0_ ao) k_ hk_), (Kd.freshB (g := bp) (o := .cells #[.slice bc bk.length a6, .slice bw b3.length bt] 25 (0, 0)) (uf0_ az) k_ hk_)⟩)) (below_size (a7))); replace be := Aside0.mk (Kd.R_below (uf1_ be) hb); replace ay := Aside0.mk (Kd.R_below (uf1_ ay) hb); replace ai := Aside0.mk (Kd.R_below (uf1_ ai) hb); replace aj := Aside0.mk (Kd.N_elder' (uf4_ aj) (Kd.N_base (g6_)) hb); replace a9 := Aside0.mk (Kd.R_below (uf1_ a9) hb); replace bg := Aside0.mk (Kd.N_elder' (uf4_ bg) (Kd.N_base (g6_)) hb); replace au := bb_ au hb; replace ao := bb_ ao hb; replace az := bb_ az hb; replace HB := Aside0.mk (below_step (a7) hb); (try clear hb); (try clear hk hi); (try clear ac); obtain ⟨dq4, dq5, ay5⟩ := Kd.N_slice da.out; subst ay5; obtain ⟨dq6, dq7, dq8, dq9⟩ := blk2_ ao) | (go_at_call 46; (with_reducible refine (impl_NetsOf.calls k4 _ _ ar _ _ aw jk _ ?side1 ?side2 ?side3 ?side4 u1.out).mono ?_); (case side1 => repeat (first | exact (Kd.R_reads' ai.out).2.2 | (with_reducible refine Kd.C_alloc ?_ _) | (with_reducible refine Kd.C_drewN ?_ _) | (with_reducible refine Kd.C_drew ?_))); (case side2 => exact (Kd.R_reads' ai.out).2.1); (case side3 => repeat (first | exact (Kd.N_reads' aj.out).2.2 | (with_reducible refine Kd.C_alloc ?_ _) | (with_reducible refine Kd.C_drewN ?_ _) | (with_reducible refine Kd.C_drew ?_))); (case side4 => exact (Kd.N_reads' aj.out).2.1); rintro e dr0 ⟨xk, rfl, ac, hb⟩; replace bd := Aside0.mk (Kd.V_elder' (uf5_ bd) (Kd.R_base ac) hb); replace aj := Aside0.mk (Kd.N_elder' (uf4_ aj) (Kd.R_base ac) hb); replace bg := Aside0.mk (Kd.N_elder' (uf4_ bg) (Kd.R_base ac) hb); replace da := Aside0.mk (Kd.N_elder' (uf4_ da) (Kd.R_base ac) hb); have dh := Aside0.mk (Kd.R_lower (Kd.R_new' (Kd.R_new' (Kd.R_new' (Kd.R_new' ac (Kd.R_lt (uf1_ be))) (Kd.R_lt (uf1_ ay))) (Kd.R_lt (uf1_ ai))) (Kd.R_lt (uf1_ a9))) (below_size (a7))); replace be := Aside0.mk (Kd.R_elder' (uf1_ be) (Kd.R_base ac) hb); replace ay := Aside0.mk (Kd.R_elder' (uf1_ ay) (Kd.R_base ac) hb); replace ai := Aside0.mk (Kd.R_elder' (uf1_ ai) (Kd.R_base ac) hb); replace a9 := Aside0.mk (Kd.R_elder' (uf1_ a9) (Kd.R_base ac) hb); replace au := bb_ au hb; replace ao := bb_ ao hb; replace az := bb_ az hb; replace HB := Aside0.mk (below_step (a7) hb); (try clear hb); (try clear hk hi); (try clear ac); obtain ⟨dr1, dr2, ay6⟩ := Kd.R_slice dh.out; subst ay6) | (go_at_call 45; (with_reducible refine (laws_sameInts.calls k4 _ _ jk _ _ cx true _ ?side1 ?side2 ?side3 ?side4 u2.out).mono ?_); (case side1 => repeat (first | exact (Kd.R_reads' dh.out).2.2 | (with_reducible refine Kd.C_alloc ?_ _) | (with_reducible refine Kd.C_drewN ?_ _) | (with_reducible refine Kd.C_drew ?_))); (case side2 => exact (Kd.R_reads' dh.out).2.1); (case side3 => repeat (first | exact (Kd.R_reads' be.out).2.2 | (with_reducible refine Kd.C_alloc ?_ _) | (with_reducible refine Kd.C_drewN ?_ _) | (with_reducible refine Kd.C_drew ?_))); (case side4 => exact (Kd.R_reads' be.out).2.1); rintro e w' ⟨rfl, ⟨nd, rfl⟩⟩; (try first | exact ⟨rfl, _, World.drewN_drewN _ _ _⟩ | exact ⟨rfl, _, Eq.trans (World.drewN_drewN _ _ _) (congrArg (World.drewN _) (Nat.add_assoc _ _ _))⟩); obtain ⟨dr3, dr4, dr5, dr6⟩ := blk2_ ao) | (go_at_call 25; (with_reducible refine (impl_AllDebts.calls k4 _ _ ar _ _ aw uu _ ?side1 ?side2 ?side3 ?side4 ai9.out).mono ?_); (case side1 => repeat (first | exact (Kd.R_reads' ai.out).2.2 | (with_reducible refine Kd.C_alloc ?_ _) | (with_reducible refine Kd.C_drewN ?_ _) | (with_reducible refine Kd.C_drew ?_))); (case side2 => exact (Kd.R_reads' ai.out).2.1); (case side3 => repeat (first | exact (Kd.N_reads' aj.out).2.2 | (with_reducible refine Kd.C_alloc ?_ _) | (with_reducible refine Kd.C_drewN ?_ _) | (with_reducible refine Kd.C_drew ?_))); (case side4 => exact (Kd.N_reads' aj.out).2.1); rintro e dr7 ⟨rfl, hb⟩; replace be := Aside0.mk (Kd.R_below (uf1_ be) hb); replace ay := Aside0.mk (Kd.R_below (uf1_ ay) hb); replace bd := Aside0.mk (Kd.V_below (uf5_ bd) hb); replace ai := Aside0.mk (Kd.R_below (uf1_ ai) hb); replace aj := Aside0.mk (Kd.N_below (uf4_ aj) hb); replace a9 := Aside0.mk (Kd.R_below (uf1_ a9) hb); replace bg := Aside0.mk (Kd.N_below (uf4_ bg) hb); replace da := Aside0.mk (Kd.N_below (uf4_ da) hb); replace dh := Aside0.mk (Kd.R_below (uf1_ dh) hb); replace au := bb_ au hb; replace ao := bb_ ao hb; replace az := bb_ az hb; replace HB := Aside0.mk (below_step (a7) hb); (try clear hb); (try clear hk hi)))
                  repeat (go_quiet (first | (go_at_call 50; (with_reducible refine (impl_CirclesOf.calls k4 _ _ ar _ _ aw jj _ ?side1 ?side2 ?side3 ?side4 pq.out).mono ?_); (case side1 => repeat (first | exact (Kd.R_reads' ai.out).2.2 | (with_reducible refine Kd.C_alloc ?_ _) | (with_reducible refine Kd.C_drewN ?_ _) | (with_reducible refine Kd.C_drew ?_))); (case side2 => exact (Kd.R_reads' ai.out).2.1); (case side3 => repeat (first | exact (Kd.N_reads' aj.out).2.2 | (with_reducible refine Kd.C_alloc ?_ _) | (with_reducible refine Kd.C_drewN ?_ _) | (with_reducible refine Kd.C_drew ?_))); (case side4 => exact (Kd.N_reads' aj.out).2.1); rintro e dq3 ⟨rk, rfl, ac, hb⟩; replace bd := Aside0.mk (Kd.V_elder' (uf5_ bd) (Kd.N_base (g6_)) hb); have da := Aside0.mk (Kd.N_lower (Kd.N_mono (ok' := fun k_ => some k_ ≠ (.slice ey cx.length ez : Value).ownBlock ∧ some k_ ≠ (.slice am av.length al : Value).ownBlock ∧ some k_ ≠ (.slice an ar.length ak : Value).ownBlock ∧ some k_ ≠ (.slice ba aw.length a5 : Value).ownBlock ∧ some k_ ≠ (.slice bc bk.length a6 : Value).ownBlock ∧ some k_ ≠ (.slice bw b3.length bt : Value).ownBlock ∧ k_ ≠ bj ∧ k_ ≠ bm ∧ k_ ≠ bp) ac (fun k_ hk_ => ⟨(Kd.fresh' (Kd.R_lt (uf1_ be)) k_ hk_), (Kd.fresh' (Kd.R_lt (uf1_ ay)) k_ hk_), (Kd.fresh' (Kd.R_lt (uf1_ ai)) k_ hk_), (Kd.fresh' (Kd.N_lt (uf4_ aj)) k_ hk_), (Kd.fresh' (Kd.R_lt (uf1_ a9)) k_ hk_), (Kd.fresh' (Kd.N_lt (uf4_ bg)) k_ hk_), (Kd.freshB (g := bj) (o := .cells #[.slice am av.length al, .slice br b1.length bn] 25 (0, 0)) (uf0_ au) k_ hk_), (Kd.freshB (g := bm) (o := .cells #[.slice an ar.length ak, .slice ba aw.length a5] 25 (0, 0)) (uf0_ ao) k_ hk_), (Kd.freshB (g := bp) (o := .cells #[.slice bc bk.length a6, .slice bw b3.length bt] 25 (0, 0)) (uf0_ az) k_ hk_)⟩)) (below_size (a7))); replace be := Aside0.mk (Kd.R_below (uf1_ be) hb); replace ay := Aside0.mk (Kd.R_below (uf1_ ay) hb); replace ai := Aside0.mk (Kd.R_below (uf1_ ai) hb); replace aj := Aside0.mk (Kd.N_elder' (uf4_ aj) (Kd.N_base (g6_)) hb); replace a9 := Aside0.mk (Kd.R_below (uf1_ a9) hb); replace bg := Aside0.mk (Kd.N_elder' (uf4_ bg) (Kd.N_base (g6_)) hb); replace au := bb_ au hb; replace ao := bb_ ao hb; replace az := bb_ az hb; replace HB := Aside0.mk (below_step (a7) hb); (try clear hb); (try clear hk hi); (try clear ac); obtain ⟨dq4, dq5, ay5⟩ := Kd.N_slice da.out; subst ay5; obtain ⟨dq6, dq7, dq8, dq9⟩ := blk2_ ao) | (go_at_call 46; (with_reducible refine (impl_NetsOf.calls k4 _ _ ar _ _ aw jk _ ?side1 ?side2 ?side3 ?side4 u1.out).mono ?_); (case side1 => repeat (first | exact (Kd.R_reads' ai.out).2.2 | (with_reducible refine Kd.C_alloc ?_ _) | (with_reducible refine Kd.C_drewN ?_ _) | (with_reducible refine Kd.C_drew ?_))); (case side2 => exact (Kd.R_reads' ai.out).2.1); (case side3 => repeat (first | exact (Kd.N_reads' aj.out).2.2 | (with_reducible refine Kd.C_alloc ?_ _) | (with_reducible refine Kd.C_drewN ?_ _) | (with_reducible refine Kd.C_drew ?_))); (case side4 => exact (Kd.N_reads' aj.out).2.1); rintro e dr0 ⟨xk, rfl, ac, hb⟩; replace bd := Aside0.mk (Kd.V_elder' (uf5_ bd) (Kd.R_base ac) hb); replace aj := Aside0.mk (Kd.N_elder' (uf4_ aj) (Kd.R_base ac) hb); replace bg := Aside0.mk (Kd.N_elder' (uf4_ bg) (Kd.R_base ac) hb); replace da := Aside0.mk (Kd.N_elder' (uf4_ da) (Kd.R_base ac) hb); have dh := Aside0.mk (Kd.R_lower (Kd.R_new' (Kd.R_new' (Kd.R_new' (Kd.R_new' ac (Kd.R_lt (uf1_ be))) (Kd.R_lt (uf1_ ay))) (Kd.R_lt (uf1_ ai))) (Kd.R_lt (uf1_ a9))) (below_size (a7))); replace be := Aside0.mk (Kd.R_elder' (uf1_ be) (Kd.R_base ac) hb); replace ay := Aside0.mk (Kd.R_elder' (uf1_ ay) (Kd.R_base ac) hb); replace ai := Aside0.mk (Kd.R_elder' (uf1_ ai) (Kd.R_base ac) hb); replace a9 := Aside0.mk (Kd.R_elder' (uf1_ a9) (Kd.R_base ac) hb); replace au := bb_ au hb; replace ao := bb_ ao hb; replace az := bb_ az hb; replace HB := Aside0.mk (below_step (a7) hb); (try clear hb); (try clear hk hi); (try clear ac); obtain ⟨dr1, dr2, ay6⟩ := Kd.R_slice dh.out; subst ay6) | (go_at_call 45; (with_reducible refine (laws_sameInts.calls k4 _ _ jk _ _ cx true _ ?side1 ?side2 ?side3 ?side4 u2.out).mono ?_); (case side1 => repeat (first | exact (Kd.R_reads' dh.out).2.2 | (with_reducible refine Kd.C_alloc ?_ _) | (with_reducible refine Kd.C_drewN ?_ _) | (with_reducible refine Kd.C_drew ?_))); (case side2 => exact (Kd.R_reads' dh.out).2.1); (case side3 => repeat (first | exact (Kd.R_reads' be.out).2.2 | (with_reducible refine Kd.C_alloc ?_ _) | (with_reducible refine Kd.C_drewN ?_ _) | (with_reducible refine Kd.C_drew ?_))); (case side4 => exact (Kd.R_reads' be.out).2.1); rintro e w' ⟨rfl, ⟨nd, rfl⟩⟩; (try first | exact ⟨rfl, _, World.drewN_drewN _ _ _⟩ | exact ⟨rfl, _, Eq.trans (World.drewN_drewN _ _ _) (congrArg (World.drewN _) (Nat.add_assoc _ _ _))⟩); obtain ⟨dr3, dr4, dr5, dr6⟩ := blk2_ ao) | (go_at_call 25; (with_reducible refine (impl_AllDebts.calls k4 _ _ ar _ _ aw uu _ ?side1 ?side2 ?side3 ?side4 ai9.out).mono ?_); (case side1 => repeat (first | exact (Kd.R_reads' ai.out).2.2 | (with_reducible refine Kd.C_alloc ?_ _) | (with_reducible refine Kd.C_drewN ?_ _) | (with_reducible refine Kd.C_drew ?_))); (case side2 => exact (Kd.R_reads' ai.out).2.1); (case side3 => repeat (first | exact (Kd.N_reads' aj.out).2.2 | (with_reducible refine Kd.C_alloc ?_ _) | (with_reducible refine Kd.C_drewN ?_ _) | (with_reducible refine Kd.C_drew ?_))); (case side4 => exact (Kd.N_reads' aj.out).2.1); rintro e dr7 ⟨rfl, hb⟩; replace be := Aside0.mk (Kd.R_below (uf1_ be) hb); replace ay := Aside0.mk (Kd.R_below (uf1_ ay) hb); replace bd := Aside0.mk (Kd.V_below (uf5_ bd) hb); replace ai := Aside0.mk (Kd.R_below (uf1_ ai) hb); replace aj := Aside0.mk (Kd.N_below (uf4_ aj) hb); replace a9 := Aside0.mk (Kd.R_below (uf1_ a9) hb); replace bg := Aside0.mk (Kd.N_below (uf4_ bg) hb); replace da := Aside0.mk (Kd.N_below (uf4_ da) hb); replace dh := Aside0.mk (Kd.R_below (uf1_ dh) hb); replace au := bb_ au hb; replace ao := bb_ ao hb; replace az := bb_ az hb; replace HB := Aside0.mk (below_step (a7) hb); (try clear hb); (try clear hk hi))); try go_wp2_with (first | (go_at_call 50; (with_reducible refine (impl_CirclesOf.calls k4 _ _ ar _ _ aw jj _ ?side1 ?side2 ?side3 ?side4 pq.out).mono ?_); (case side1 => repeat (first | exact (Kd.R_reads' ai.out).2.2 | (with_reducible refine Kd.C_alloc ?_ _) | (with_reducible refine Kd.C_drewN ?_ _) | (with_reducible refine Kd.C_drew ?_))); (case side2 => exact (Kd.R_reads' ai.out).2.1); (case side3 => repeat (first | exact (Kd.N_reads' aj.out).2.2 | (with_reducible refine Kd.C_alloc ?_ _) | (with_reducible refine Kd.C_drewN ?_ _) | (with_reducible refine Kd.C_drew ?_))); (case side4 => exact (Kd.N_reads' aj.out).2.1); rintro e dq3 ⟨rk, rfl, ac, hb⟩; replace bd := Aside0.mk (Kd.V_elder' (uf5_ bd) (Kd.N_base (g6_)) hb); have da := Aside0.mk (Kd.N_lower (Kd.N_mono (ok' := fun k_ => some k_ ≠ (.slice ey cx.length ez : Value).ownBlock ∧ some k_ ≠ (.slice am av.length al : Value).ownBlock ∧ some k_ ≠ (.slice an ar.length ak : Value).ownBlock ∧ some k_ ≠ (.slice ba aw.length a5 : Value).ownBlock ∧ some k_ ≠ (.slice bc bk.length a6 : Value).ownBlock ∧ some k_ ≠ (.slice bw b3.length bt : Value).ownBlock ∧ k_ ≠ bj ∧ k_ ≠ bm ∧ k_ ≠ bp) ac (fun k_ hk_ => ⟨(Kd.fresh' (Kd.R_lt (uf1_ be)) k_ hk_), (Kd.fresh' (Kd.R_lt (uf1_ ay)) k_ hk_), (Kd.fresh' (Kd.R_lt (uf1_ ai)) k_ hk_), (Kd.fresh' (Kd.N_lt (uf4_ aj)) k_ hk_), (Kd.fresh' (Kd.R_lt (uf1_ a9)) k_ hk_), (Kd.fresh' (Kd.N_lt (uf4_ bg)) k_ hk_), (Kd.freshB (g := bj) (o := .cells #[.slice am av.length al, .slice br b1.length bn] 25 (0, 0)) (uf0_ au) k_ hk_), (Kd.freshB (g := bm) (o := .cells #[.slice an ar.length ak, .slice ba aw.length a5] 25 (0, 0)) (uf0_ ao) k_ hk_), (Kd.freshB (g := bp) (o := .cells #[.slice bc bk.length a6, .slice bw b3.length bt] 25 (0, 0)) (uf0_ az) k_ hk_)⟩)) (below_size (a7))); replace be := Aside0.mk (Kd.R_below (uf1_ be) hb); replace ay := Aside0.mk (Kd.R_below (uf1_ ay) hb); replace ai := Aside0.mk (Kd.R_below (uf1_ ai) hb); replace aj := Aside0.mk (Kd.N_elder' (uf4_ aj) (Kd.N_base (g6_)) hb); replace a9 := Aside0.mk (Kd.R_below (uf1_ a9) hb); replace bg := Aside0.mk (Kd.N_elder' (uf4_ bg) (Kd.N_base (g6_)) hb); replace au := bb_ au hb; replace ao := bb_ ao hb; replace az := bb_ az hb; replace HB := Aside0.mk (below_step (a7) hb); (try clear hb); (try clear hk hi); (try clear ac); obtain ⟨dq4, dq5, ay5⟩ := Kd.N_slice da.out; subst ay5; obtain ⟨dq6, dq7, dq8, dq9⟩ := blk2_ ao) | (go_at_call 46; (with_reducible refine (impl_NetsOf.calls k4 _ _ ar _ _ aw jk _ ?side1 ?side2 ?side3 ?side4 u1.out).mono ?_); (case side1 => repeat (first | exact (Kd.R_reads' ai.out).2.2 | (with_reducible refine Kd.C_alloc ?_ _) | (with_reducible refine Kd.C_drewN ?_ _) | (with_reducible refine Kd.C_drew ?_))); (case side2 => exact (Kd.R_reads' ai.out).2.1); (case side3 => repeat (first | exact (Kd.N_reads' aj.out).2.2 | (with_reducible refine Kd.C_alloc ?_ _) | (with_reducible refine Kd.C_drewN ?_ _) | (with_reducible refine Kd.C_drew ?_))); (case side4 => exact (Kd.N_reads' aj.out).2.1); rintro e dr0 ⟨xk, rfl, ac, hb⟩; replace bd := Aside0.mk (Kd.V_elder' (uf5_ bd) (Kd.R_base ac) hb); replace aj := Aside0.mk (Kd.N_elder' (uf4_ aj) (Kd.R_base ac) hb); replace bg := Aside0.mk (Kd.N_elder' (uf4_ bg) (Kd.R_base ac) hb); replace da := Aside0.mk (Kd.N_elder' (uf4_ da) (Kd.R_base ac) hb); have dh := Aside0.mk (Kd.R_lower (Kd.R_new' (Kd.R_new' (Kd.R_new' (Kd.R_new' ac (Kd.R_lt (uf1_ be))) (Kd.R_lt (uf1_ ay))) (Kd.R_lt (uf1_ ai))) (Kd.R_lt (uf1_ a9))) (below_size (a7))); replace be := Aside0.mk (Kd.R_elder' (uf1_ be) (Kd.R_base ac) hb); replace ay := Aside0.mk (Kd.R_elder' (uf1_ ay) (Kd.R_base ac) hb); replace ai := Aside0.mk (Kd.R_elder' (uf1_ ai) (Kd.R_base ac) hb); replace a9 := Aside0.mk (Kd.R_elder' (uf1_ a9) (Kd.R_base ac) hb); replace au := bb_ au hb; replace ao := bb_ ao hb; replace az := bb_ az hb; replace HB := Aside0.mk (below_step (a7) hb); (try clear hb); (try clear hk hi); (try clear ac); obtain ⟨dr1, dr2, ay6⟩ := Kd.R_slice dh.out; subst ay6) | (go_at_call 45; (with_reducible refine (laws_sameInts.calls k4 _ _ jk _ _ cx true _ ?side1 ?side2 ?side3 ?side4 u2.out).mono ?_); (case side1 => repeat (first | exact (Kd.R_reads' dh.out).2.2 | (with_reducible refine Kd.C_alloc ?_ _) | (with_reducible refine Kd.C_drewN ?_ _) | (with_reducible refine Kd.C_drew ?_))); (case side2 => exact (Kd.R_reads' dh.out).2.1); (case side3 => repeat (first | exact (Kd.R_reads' be.out).2.2 | (with_reducible refine Kd.C_alloc ?_ _) | (with_reducible refine Kd.C_drewN ?_ _) | (with_reducible refine Kd.C_drew ?_))); (case side4 => exact (Kd.R_reads' be.out).2.1); rintro e w' ⟨rfl, ⟨nd, rfl⟩⟩; (try first | exact ⟨rfl, _, World.drewN_drewN _ _ _⟩ | exact ⟨rfl, _, Eq.trans (World.drewN_drewN _ _ _) (congrArg (World.drewN _) (Nat.add_assoc _ _ _))⟩); obtain ⟨dr3, dr4, dr5, dr6⟩ := blk2_ ao) | (go_at_call 25; (with_reducible refine (impl_AllDebts.calls k4 _ _ ar _ _ aw uu _ ?side1 ?side2 ?side3 ?side4 ai9.out).mono ?_); (case side1 => repeat (first | exact (Kd.R_reads' ai.out).2.2 | (with_reducible refine Kd.C_alloc ?_ _) | (with_reducible refine Kd.C_drewN ?_ _) | (with_reducible refine Kd.C_drew ?_))); (case side2 => exact (Kd.R_reads' ai.out).2.1); (case side3 => repeat (first | exact (Kd.N_reads' aj.out).2.2 | (with_reducible refine Kd.C_alloc ?_ _) | (with_reducible refine Kd.C_drewN ?_ _) | (with_reducible refine Kd.C_drew ?_))); (case side4 => exact (Kd.N_reads' aj.out).2.1); rintro e dr7 ⟨rfl, hb⟩; replace be := Aside0.mk (Kd.R_below (uf1_ be) hb); replace ay := Aside0.mk (Kd.R_below (uf1_ ay) hb); replace bd := Aside0.mk (Kd.V_below (uf5_ bd) hb); replace ai := Aside0.mk (Kd.R_below (uf1_ ai) hb); replace aj := Aside0.mk (Kd.N_below (uf4_ aj) hb); replace a9 := Aside0.mk (Kd.R_below (uf1_ a9) hb); replace bg := Aside0.mk (Kd.N_below (uf4_ bg) hb); replace da := Aside0.mk (Kd.N_below (uf4_ da) hb); replace dh := Aside0.mk (Kd.R_below (uf1_ dh) hb); replace au := bb_ au hb; replace ao := bb_ ao hb; replace az := bb_ az hb; replace HB := Aside0.mk (below_step (a7) hb); (try clear hb); (try clear hk hi))))
                  go_ret
                  exact ⟨g4_, a7⟩
                ·replace bq3 := Bool.eq_false_iff.mpr bq3
                 subst bq3
                 replace H := ifn_ H
                 obtain rfl := Option.some.inj H
                 have gu0 := iq.out
                 have gu1 := jl.out
                 have gu2 := i6.out
                 have gu3 := j3.out
                 obtain ⟨gu4, gu5, gu6, gu7⟩ := blk2_ au
                 have gu8 := j4.out
                 have gu9 := lj.out
                 obtain ⟨gv0, gv1, gv2, gv3⟩ := blk2_ ao
                 go_wp2_with (first | (go_at_call 50; (with_reducible refine (impl_CirclesOf.calls k4 _ _ ar _ _ aw jj _ ?side1 ?side2 ?side3 ?side4 pq.out).mono ?_); (case side1 => repeat (first | exact (Kd.R_reads' ai.out).2.2 | (with_reducible refine Kd.C_alloc ?_ _) | (with_reducible refine Kd.C_drewN ?_ _) | (with_reducible refine Kd.C_drew ?_))); (case side2 => exact (Kd.R_reads' ai.out).2.1); (case side3 => repeat (first | exact (Kd.N_reads' aj.out).2.2 | (with_reducible refine Kd.C_alloc ?_ _) | (with_reducible refine Kd.C_drewN ?_ _) | (with_reducible refine Kd.C_drew ?_))); (case side4 => exact (Kd.N_reads' aj.out).2.1); rintro e dr8 ⟨rk, rfl, ac, hb⟩; replace bd := Aside0.mk (Kd.V_elder' (uf5_ bd) (Kd.N_base (g6_)) hb); have da := Aside0.mk (Kd.N_lower (Kd.N_mono (ok' := fun k_ => some k_ ≠ (.slice ey cx.length ez : Value).ownBlock ∧ some k_ ≠ (.slice am av.length al : Value).ownBlock ∧ some k_ ≠ (.slice an ar.length ak : Value).ownBlock ∧ some k_ ≠ (.slice ba aw.length a5 : Value).ownBlock ∧ some k_ ≠ (.slice bc bk.length a6 : Value).ownBlock ∧ some k_ ≠ (.slice bw b3.length bt : Value).ownBlock ∧ k_ ≠ bj ∧ k_ ≠ bm ∧ k_ ≠ bp) ac (fun k_ hk_ => ⟨(Kd.fresh' (Kd.R_lt (uf1_ be)) k_ hk_), (Kd.fresh' (Kd.R_lt (uf1_ ay)) k_ hk_), (Kd.fresh' (Kd.R_lt (uf1_ ai)) k_ hk_), (Kd.fresh' (Kd.N_lt (uf4_ aj)) k_ hk_), (Kd.fresh' (Kd.R_lt (uf1_ a9)) k_ hk_), (Kd.fresh' (Kd.N_lt (uf4_ bg)) k_ hk_), (Kd.freshB (g := bj) (o := .cells #[.slice am av.length al, .slice br b1.length bn] 25 (0, 0)) (uf0_ au) k_ hk_), (Kd.freshB (g := bm) (o := .cells #[.slice an ar.length ak, .slice ba aw.length a5] 25 (0, 0)) (uf0_ ao) k_ hk_), (Kd.freshB (g := bp) (o := .cells #[.slice bc bk.length a6, .slice bw b3.length bt] 25 (0, 0)) (uf0_ az) k_ hk_)⟩)) (below_size (a7))); replace be := Aside0.mk (Kd.R_below (uf1_ be) hb); replace ay := Aside0.mk (Kd.R_below (uf1_ ay) hb); replace ai := Aside0.mk (Kd.R_below (uf1_ ai) hb); replace aj := Aside0.mk (Kd.N_elder' (uf4_ aj) (Kd.N_base (g6_)) hb); replace a9 := Aside0.mk (Kd.R_below (uf1_ a9) hb); replace bg := Aside0.mk (Kd.N_elder' (uf4_ bg) (Kd.N_base (g6_)) hb); replace au := bb_ au hb; replace ao := bb_ ao hb; replace az := bb_ az hb; replace HB := Aside0.mk (below_step (a7) hb); (try clear hb); (try clear hk hi); (try clear ac); obtain ⟨dr9, ds0, ay7⟩ := Kd.N_slice da.out; subst ay7; obtain ⟨ds1, ds2, ds3, ds4⟩ := blk2_ ao) | (go_at_call 46; (with_reducible refine (impl_NetsOf.calls k4 _ _ ar _ _ aw jk _ ?side1 ?side2 ?side3 ?side4 u1.out).mono ?_); (case side1 => repeat (first | exact (Kd.R_reads' ai.out).2.2 | (with_reducible refine Kd.C_alloc ?_ _) | (with_reducible refine Kd.C_drewN ?_ _) | (with_reducible refine Kd.C_drew ?_))); (case side2 => exact (Kd.R_reads' ai.out).2.1); (case side3 => repeat (first | exact (Kd.N_reads' aj.out).2.2 | (with_reducible refine Kd.C_alloc ?_ _) | (with_reducible refine Kd.C_drewN ?_ _) | (with_reducible refine Kd.C_drew ?_))); (case side4 => exact (Kd.N_reads' aj.out).2.1); rintro e ds5 ⟨xk, rfl, ac, hb⟩; replace bd := Aside0.mk (Kd.V_elder' (uf5_ bd) (Kd.R_base ac) hb); replace aj := Aside0.mk (Kd.N_elder' (uf4_ aj) (Kd.R_base ac) hb); replace bg := Aside0.mk (Kd.N_elder' (uf4_ bg) (Kd.R_base ac) hb); replace da := Aside0.mk (Kd.N_elder' (uf4_ da) (Kd.R_base ac) hb); have dh := Aside0.mk (Kd.R_lower (Kd.R_new' (Kd.R_new' (Kd.R_new' (Kd.R_new' ac (Kd.R_lt (uf1_ be))) (Kd.R_lt (uf1_ ay))) (Kd.R_lt (uf1_ ai))) (Kd.R_lt (uf1_ a9))) (below_size (a7))); replace be := Aside0.mk (Kd.R_elder' (uf1_ be) (Kd.R_base ac) hb); replace ay := Aside0.mk (Kd.R_elder' (uf1_ ay) (Kd.R_base ac) hb); replace ai := Aside0.mk (Kd.R_elder' (uf1_ ai) (Kd.R_base ac) hb); replace a9 := Aside0.mk (Kd.R_elder' (uf1_ a9) (Kd.R_base ac) hb); replace au := bb_ au hb; replace ao := bb_ ao hb; replace az := bb_ az hb; replace HB := Aside0.mk (below_step (a7) hb); (try clear hb); (try clear hk hi); (try clear ac); obtain ⟨ds6, ds7, ay8⟩ := Kd.R_slice dh.out; subst ay8) | (go_at_call 45; (with_reducible refine (laws_sameInts.calls k4 _ _ jk _ _ cx false _ ?side1 ?side2 ?side3 ?side4 u2.out).mono ?_); (case side1 => repeat (first | exact (Kd.R_reads' dh.out).2.2 | (with_reducible refine Kd.C_alloc ?_ _) | (with_reducible refine Kd.C_drewN ?_ _) | (with_reducible refine Kd.C_drew ?_))); (case side2 => exact (Kd.R_reads' dh.out).2.1); (case side3 => repeat (first | exact (Kd.R_reads' be.out).2.2 | (with_reducible refine Kd.C_alloc ?_ _) | (with_reducible refine Kd.C_drewN ?_ _) | (with_reducible refine Kd.C_drew ?_))); (case side4 => exact (Kd.R_reads' be.out).2.1); rintro e w' ⟨rfl, ⟨nd, rfl⟩⟩; (try first | exact ⟨rfl, _, World.drewN_drewN _ _ _⟩ | exact ⟨rfl, _, Eq.trans (World.drewN_drewN _ _ _) (congrArg (World.drewN _) (Nat.add_assoc _ _ _))⟩)))
                 repeat (go_quiet (first | (go_at_call 50; (with_reducible refine (impl_CirclesOf.calls k4 _ _ ar _ _ aw jj _ ?side1 ?side2 ?side3 ?side4 pq.out).mono ?_); (case side1 => repeat (first | exact (Kd.R_reads' ai.out).2.2 | (with_reducible refine Kd.C_alloc ?_ _) | (with_reducible refine Kd.C_drewN ?_ _) | (with_reducible refine Kd.C_drew ?_))); (case side2 => exact (Kd.R_reads' ai.out).2.1); (case side3 => repeat (first | exact (Kd.N_reads' aj.out).2.2 | (with_reducible refine Kd.C_alloc ?_ _) | (with_reducible refine Kd.C_drewN ?_ _) | (with_reducible refine Kd.C_drew ?_))); (case side4 => exact (Kd.N_reads' aj.out).2.1); rintro e dr8 ⟨rk, rfl, ac, hb⟩; replace bd := Aside0.mk (Kd.V_elder' (uf5_ bd) (Kd.N_base (g6_)) hb); have da := Aside0.mk (Kd.N_lower (Kd.N_mono (ok' := fun k_ => some k_ ≠ (.slice ey cx.length ez : Value).ownBlock ∧ some k_ ≠ (.slice am av.length al : Value).ownBlock ∧ some k_ ≠ (.slice an ar.length ak : Value).ownBlock ∧ some k_ ≠ (.slice ba aw.length a5 : Value).ownBlock ∧ some k_ ≠ (.slice bc bk.length a6 : Value).ownBlock ∧ some k_ ≠ (.slice bw b3.length bt : Value).ownBlock ∧ k_ ≠ bj ∧ k_ ≠ bm ∧ k_ ≠ bp) ac (fun k_ hk_ => ⟨(Kd.fresh' (Kd.R_lt (uf1_ be)) k_ hk_), (Kd.fresh' (Kd.R_lt (uf1_ ay)) k_ hk_), (Kd.fresh' (Kd.R_lt (uf1_ ai)) k_ hk_), (Kd.fresh' (Kd.N_lt (uf4_ aj)) k_ hk_), (Kd.fresh' (Kd.R_lt (uf1_ a9)) k_ hk_), (Kd.fresh' (Kd.N_lt (uf4_ bg)) k_ hk_), (Kd.freshB (g := bj) (o := .cells #[.slice am av.length al, .slice br b1.length bn] 25 (0, 0)) (uf0_ au) k_ hk_), (Kd.freshB (g := bm) (o := .cells #[.slice an ar.length ak, .slice ba aw.length a5] 25 (0, 0)) (uf0_ ao) k_ hk_), (Kd.freshB (g := bp) (o := .cells #[.slice bc bk.length a6, .slice bw b3.length bt] 25 (0, 0)) (uf0_ az) k_ hk_)⟩)) (below_size (a7))); replace be := Aside0.mk (Kd.R_below (uf1_ be) hb); replace ay := Aside0.mk (Kd.R_below (uf1_ ay) hb); replace ai := Aside0.mk (Kd.R_below (uf1_ ai) hb); replace aj := Aside0.mk (Kd.N_elder' (uf4_ aj) (Kd.N_base (g6_)) hb); replace a9 := Aside0.mk (Kd.R_below (uf1_ a9) hb); replace bg := Aside0.mk (Kd.N_elder' (uf4_ bg) (Kd.N_base (g6_)) hb); replace au := bb_ au hb; replace ao := bb_ ao hb; replace az := bb_ az hb; replace HB := Aside0.mk (below_step (a7) hb); (try clear hb); (try clear hk hi); (try clear ac); obtain ⟨dr9, ds0, ay7⟩ := Kd.N_slice da.out; subst ay7; obtain ⟨ds1, ds2, ds3, ds4⟩ := blk2_ ao) | (go_at_call 46; (with_reducible refine (impl_NetsOf.calls k4 _ _ ar _ _ aw jk _ ?side1 ?side2 ?side3 ?side4 u1.out).mono ?_); (case side1 => repeat (first | exact (Kd.R_reads' ai.out).2.2 | (with_reducible refine Kd.C_alloc ?_ _) | (with_reducible refine Kd.C_drewN ?_ _) | (with_reducible refine Kd.C_drew ?_))); (case side2 => exact (Kd.R_reads' ai.out).2.1); (case side3 => repeat (first | exact (Kd.N_reads' aj.out).2.2 | (with_reducible refine Kd.C_alloc ?_ _) | (with_reducible refine Kd.C_drewN ?_ _) | (with_reducible refine Kd.C_drew ?_))); (case side4 => exact (Kd.N_reads' aj.out).2.1); rintro e ds5 ⟨xk, rfl, ac, hb⟩; replace bd := Aside0.mk (Kd.V_elder' (uf5_ bd) (Kd.R_base ac) hb); replace aj := Aside0.mk (Kd.N_elder' (uf4_ aj) (Kd.R_base ac) hb); replace bg := Aside0.mk (Kd.N_elder' (uf4_ bg) (Kd.R_base ac) hb); replace da := Aside0.mk (Kd.N_elder' (uf4_ da) (Kd.R_base ac) hb); have dh := Aside0.mk (Kd.R_lower (Kd.R_new' (Kd.R_new' (Kd.R_new' (Kd.R_new' ac (Kd.R_lt (uf1_ be))) (Kd.R_lt (uf1_ ay))) (Kd.R_lt (uf1_ ai))) (Kd.R_lt (uf1_ a9))) (below_size (a7))); replace be := Aside0.mk (Kd.R_elder' (uf1_ be) (Kd.R_base ac) hb); replace ay := Aside0.mk (Kd.R_elder' (uf1_ ay) (Kd.R_base ac) hb); replace ai := Aside0.mk (Kd.R_elder' (uf1_ ai) (Kd.R_base ac) hb); replace a9 := Aside0.mk (Kd.R_elder' (uf1_ a9) (Kd.R_base ac) hb); replace au := bb_ au hb; replace ao := bb_ ao hb; replace az := bb_ az hb; replace HB := Aside0.mk (below_step (a7) hb); (try clear hb); (try clear hk hi); (try clear ac); obtain ⟨ds6, ds7, ay8⟩ := Kd.R_slice dh.out; subst ay8) | (go_at_call 45; (with_reducible refine (laws_sameInts.calls k4 _ _ jk _ _ cx false _ ?side1 ?side2 ?side3 ?side4 u2.out).mono ?_); (case side1 => repeat (first | exact (Kd.R_reads' dh.out).2.2 | (with_reducible refine Kd.C_alloc ?_ _) | (with_reducible refine Kd.C_drewN ?_ _) | (with_reducible refine Kd.C_drew ?_))); (case side2 => exact (Kd.R_reads' dh.out).2.1); (case side3 => repeat (first | exact (Kd.R_reads' be.out).2.2 | (with_reducible refine Kd.C_alloc ?_ _) | (with_reducible refine Kd.C_drewN ?_ _) | (with_reducible refine Kd.C_drew ?_))); (case side4 => exact (Kd.R_reads' be.out).2.1); rintro e w' ⟨rfl, ⟨nd, rfl⟩⟩; (try first | exact ⟨rfl, _, World.drewN_drewN _ _ _⟩ | exact ⟨rfl, _, Eq.trans (World.drewN_drewN _ _ _) (congrArg (World.drewN _) (Nat.add_assoc _ _ _))⟩))); try go_wp2_with (first | (go_at_call 50; (with_reducible refine (impl_CirclesOf.calls k4 _ _ ar _ _ aw jj _ ?side1 ?side2 ?side3 ?side4 pq.out).mono ?_); (case side1 => repeat (first | exact (Kd.R_reads' ai.out).2.2 | (with_reducible refine Kd.C_alloc ?_ _) | (with_reducible refine Kd.C_drewN ?_ _) | (with_reducible refine Kd.C_drew ?_))); (case side2 => exact (Kd.R_reads' ai.out).2.1); (case side3 => repeat (first | exact (Kd.N_reads' aj.out).2.2 | (with_reducible refine Kd.C_alloc ?_ _) | (with_reducible refine Kd.C_drewN ?_ _) | (with_reducible refine Kd.C_drew ?_))); (case side4 => exact (Kd.N_reads' aj.out).2.1); rintro e dr8 ⟨rk, rfl, ac, hb⟩; replace bd := Aside0.mk (Kd.V_elder' (uf5_ bd) (Kd.N_base (g6_)) hb); have da := Aside0.mk (Kd.N_lower (Kd.N_mono (ok' := fun k_ => some k_ ≠ (.slice ey cx.length ez : Value).ownBlock ∧ some k_ ≠ (.slice am av.length al : Value).ownBlock ∧ some k_ ≠ (.slice an ar.length ak : Value).ownBlock ∧ some k_ ≠ (.slice ba aw.length a5 : Value).ownBlock ∧ some k_ ≠ (.slice bc bk.length a6 : Value).ownBlock ∧ some k_ ≠ (.slice bw b3.length bt : Value).ownBlock ∧ k_ ≠ bj ∧ k_ ≠ bm ∧ k_ ≠ bp) ac (fun k_ hk_ => ⟨(Kd.fresh' (Kd.R_lt (uf1_ be)) k_ hk_), (Kd.fresh' (Kd.R_lt (uf1_ ay)) k_ hk_), (Kd.fresh' (Kd.R_lt (uf1_ ai)) k_ hk_), (Kd.fresh' (Kd.N_lt (uf4_ aj)) k_ hk_), (Kd.fresh' (Kd.R_lt (uf1_ a9)) k_ hk_), (Kd.fresh' (Kd.N_lt (uf4_ bg)) k_ hk_), (Kd.freshB (g := bj) (o := .cells #[.slice am av.length al, .slice br b1.length bn] 25 (0, 0)) (uf0_ au) k_ hk_), (Kd.freshB (g := bm) (o := .cells #[.slice an ar.length ak, .slice ba aw.length a5] 25 (0, 0)) (uf0_ ao) k_ hk_), (Kd.freshB (g := bp) (o := .cells #[.slice bc bk.length a6, .slice bw b3.length bt] 25 (0, 0)) (uf0_ az) k_ hk_)⟩)) (below_size (a7))); replace be := Aside0.mk (Kd.R_below (uf1_ be) hb); replace ay := Aside0.mk (Kd.R_below (uf1_ ay) hb); replace ai := Aside0.mk (Kd.R_below (uf1_ ai) hb); replace aj := Aside0.mk (Kd.N_elder' (uf4_ aj) (Kd.N_base (g6_)) hb); replace a9 := Aside0.mk (Kd.R_below (uf1_ a9) hb); replace bg := Aside0.mk (Kd.N_elder' (uf4_ bg) (Kd.N_base (g6_)) hb); replace au := bb_ au hb; replace ao := bb_ ao hb; replace az := bb_ az hb; replace HB := Aside0.mk (below_step (a7) hb); (try clear hb); (try clear hk hi); (try clear ac); obtain ⟨dr9, ds0, ay7⟩ := Kd.N_slice da.out; subst ay7; obtain ⟨ds1, ds2, ds3, ds4⟩ := blk2_ ao) | (go_at_call 46; (with_reducible refine (impl_NetsOf.calls k4 _ _ ar _ _ aw jk _ ?side1 ?side2 ?side3 ?side4 u1.out).mono ?_); (case side1 => repeat (first | exact (Kd.R_reads' ai.out).2.2 | (with_reducible refine Kd.C_alloc ?_ _) | (with_reducible refine Kd.C_drewN ?_ _) | (with_reducible refine Kd.C_drew ?_))); (case side2 => exact (Kd.R_reads' ai.out).2.1); (case side3 => repeat (first | exact (Kd.N_reads' aj.out).2.2 | (with_reducible refine Kd.C_alloc ?_ _) | (with_reducible refine Kd.C_drewN ?_ _) | (with_reducible refine Kd.C_drew ?_))); (case side4 => exact (Kd.N_reads' aj.out).2.1); rintro e ds5 ⟨xk, rfl, ac, hb⟩; replace bd := Aside0.mk (Kd.V_elder' (uf5_ bd) (Kd.R_base ac) hb); replace aj := Aside0.mk (Kd.N_elder' (uf4_ aj) (Kd.R_base ac) hb); replace bg := Aside0.mk (Kd.N_elder' (uf4_ bg) (Kd.R_base ac) hb); replace da := Aside0.mk (Kd.N_elder' (uf4_ da) (Kd.R_base ac) hb); have dh := Aside0.mk (Kd.R_lower (Kd.R_new' (Kd.R_new' (Kd.R_new' (Kd.R_new' ac (Kd.R_lt (uf1_ be))) (Kd.R_lt (uf1_ ay))) (Kd.R_lt (uf1_ ai))) (Kd.R_lt (uf1_ a9))) (below_size (a7))); replace be := Aside0.mk (Kd.R_elder' (uf1_ be) (Kd.R_base ac) hb); replace ay := Aside0.mk (Kd.R_elder' (uf1_ ay) (Kd.R_base ac) hb); replace ai := Aside0.mk (Kd.R_elder' (uf1_ ai) (Kd.R_base ac) hb); replace a9 := Aside0.mk (Kd.R_elder' (uf1_ a9) (Kd.R_base ac) hb); replace au := bb_ au hb; replace ao := bb_ ao hb; replace az := bb_ az hb; replace HB := Aside0.mk (below_step (a7) hb); (try clear hb); (try clear hk hi); (try clear ac); obtain ⟨ds6, ds7, ay8⟩ := Kd.R_slice dh.out; subst ay8) | (go_at_call 45; (with_reducible refine (laws_sameInts.calls k4 _ _ jk _ _ cx false _ ?side1 ?side2 ?side3 ?side4 u2.out).mono ?_); (case side1 => repeat (first | exact (Kd.R_reads' dh.out).2.2 | (with_reducible refine Kd.C_alloc ?_ _) | (with_reducible refine Kd.C_drewN ?_ _) | (with_reducible refine Kd.C_drew ?_))); (case side2 => exact (Kd.R_reads' dh.out).2.1); (case side3 => repeat (first | exact (Kd.R_reads' be.out).2.2 | (with_reducible refine Kd.C_alloc ?_ _) | (with_reducible refine Kd.C_drewN ?_ _) | (with_reducible refine Kd.C_drew ?_))); (case side4 => exact (Kd.R_reads' be.out).2.1); rintro e w' ⟨rfl, ⟨nd, rfl⟩⟩; (try first | exact ⟨rfl, _, World.drewN_drewN _ _ _⟩ | exact ⟨rfl, _, Eq.trans (World.drewN_drewN _ _ _) (congrArg (World.drewN _) (Nat.add_assoc _ _ _))⟩))))
                 go_ret
                 exact ⟨g4_, a7⟩
               ·rw [if_neg xj] at H
                have fg3 : ((jj.length : Int) == 0) = false := beq_eq_false_iff_ne.mpr xj
                have fg4 : ((jj.length : Int) != 0) = true := bne_iff_ne.mpr xj
                have gv4 : ¬ (jj = []) := fun h_ => xj (g26_)
                obtain rfl := Option.some.inj H
                have gv5 := iq.out
                have gv6 := jl.out
                have gv7 := i6.out
                have gv8 := j3.out
                obtain ⟨gv9, gw0, gw1, gw2⟩ := blk2_ au
                have gw3 := j4.out
                have gw4 := lj.out
                obtain ⟨gw5, gw6, gw7, gw8⟩ := blk2_ ao
                go_wp2_with (first | (go_at_call 50; (with_reducible refine (impl_CirclesOf.calls k4 _ _ ar _ _ aw jj _ ?side1 ?side2 ?side3 ?side4 pq.out).mono ?_); (case side1 => repeat (first | exact (Kd.R_reads' ai.out).2.2 | (with_reducible refine Kd.C_alloc ?_ _) | (with_reducible refine Kd.C_drewN ?_ _) | (with_reducible refine Kd.C_drew ?_))); (case side2 => exact (Kd.R_reads' ai.out).2.1); (case side3 => repeat (first | exact (Kd.N_reads' aj.out).2.2 | (with_reducible refine Kd.C_alloc ?_ _) | (with_reducible refine Kd.C_drewN ?_ _) | (with_reducible refine Kd.C_drew ?_))); (case side4 => exact (Kd.N_reads' aj.out).2.1); rintro e ds8 ⟨rk, rfl, ac, hb⟩; replace bd := Aside0.mk (Kd.V_elder' (uf5_ bd) (Kd.N_base (g6_)) hb); have da := Aside0.mk (Kd.N_lower (Kd.N_mono (ok' := fun k_ => some k_ ≠ (.slice ey cx.length ez : Value).ownBlock ∧ some k_ ≠ (.slice am av.length al : Value).ownBlock ∧ some k_ ≠ (.slice an ar.length ak : Value).ownBlock ∧ some k_ ≠ (.slice ba aw.length a5 : Value).ownBlock ∧ some k_ ≠ (.slice bc bk.length a6 : Value).ownBlock ∧ some k_ ≠ (.slice bw b3.length bt : Value).ownBlock ∧ k_ ≠ bj ∧ k_ ≠ bm ∧ k_ ≠ bp) ac (fun k_ hk_ => ⟨(Kd.fresh' (Kd.R_lt (uf1_ be)) k_ hk_), (Kd.fresh' (Kd.R_lt (uf1_ ay)) k_ hk_), (Kd.fresh' (Kd.R_lt (uf1_ ai)) k_ hk_), (Kd.fresh' (Kd.N_lt (uf4_ aj)) k_ hk_), (Kd.fresh' (Kd.R_lt (uf1_ a9)) k_ hk_), (Kd.fresh' (Kd.N_lt (uf4_ bg)) k_ hk_), (Kd.freshB (g := bj) (o := .cells #[.slice am av.length al, .slice br b1.length bn] 25 (0, 0)) (uf0_ au) k_ hk_), (Kd.freshB (g := bm) (o := .cells #[.slice an ar.length ak, .slice ba aw.length a5] 25 (0, 0)) (uf0_ ao) k_ hk_), (Kd.freshB (g := bp) (o := .cells #[.slice bc bk.length a6, .slice bw b3.length bt] 25 (0, 0)) (uf0_ az) k_ hk_)⟩)) (below_size (a7))); replace be := Aside0.mk (Kd.R_below (uf1_ be) hb); replace ay := Aside0.mk (Kd.R_below (uf1_ ay) hb); replace ai := Aside0.mk (Kd.R_below (uf1_ ai) hb); replace aj := Aside0.mk (Kd.N_elder' (uf4_ aj) (Kd.N_base (g6_)) hb); replace a9 := Aside0.mk (Kd.R_below (uf1_ a9) hb); replace bg := Aside0.mk (Kd.N_elder' (uf4_ bg) (Kd.N_base (g6_)) hb); replace au := bb_ au hb; replace ao := bb_ ao hb; replace az := bb_ az hb; replace HB := Aside0.mk (below_step (a7) hb); (try clear hb); (try clear hk hi); (try clear ac); obtain ⟨ds9, dt0, ay9⟩ := Kd.N_slice da.out; subst ay9))
                repeat (go_quiet (first | (go_at_call 50; (with_reducible refine (impl_CirclesOf.calls k4 _ _ ar _ _ aw jj _ ?side1 ?side2 ?side3 ?side4 pq.out).mono ?_); (case side1 => repeat (first | exact (Kd.R_reads' ai.out).2.2 | (with_reducible refine Kd.C_alloc ?_ _) | (with_reducible refine Kd.C_drewN ?_ _) | (with_reducible refine Kd.C_drew ?_))); (case side2 => exact (Kd.R_reads' ai.out).2.1); (case side3 => repeat (first | exact (Kd.N_reads' aj.out).2.2 | (with_reducible refine Kd.C_alloc ?_ _) | (with_reducible refine Kd.C_drewN ?_ _) | (with_reducible refine Kd.C_drew ?_))); (case side4 => exact (Kd.N_reads' aj.out).2.1); rintro e ds8 ⟨rk, rfl, ac, hb⟩; replace bd := Aside0.mk (Kd.V_elder' (uf5_ bd) (Kd.N_base (g6_)) hb); have da := Aside0.mk (Kd.N_lower (Kd.N_mono (ok' := fun k_ => some k_ ≠ (.slice ey cx.length ez : Value).ownBlock ∧ some k_ ≠ (.slice am av.length al : Value).ownBlock ∧ some k_ ≠ (.slice an ar.length ak : Value).ownBlock ∧ some k_ ≠ (.slice ba aw.length a5 : Value).ownBlock ∧ some k_ ≠ (.slice bc bk.length a6 : Value).ownBlock ∧ some k_ ≠ (.slice bw b3.length bt : Value).ownBlock ∧ k_ ≠ bj ∧ k_ ≠ bm ∧ k_ ≠ bp) ac (fun k_ hk_ => ⟨(Kd.fresh' (Kd.R_lt (uf1_ be)) k_ hk_), (Kd.fresh' (Kd.R_lt (uf1_ ay)) k_ hk_), (Kd.fresh' (Kd.R_lt (uf1_ ai)) k_ hk_), (Kd.fresh' (Kd.N_lt (uf4_ aj)) k_ hk_), (Kd.fresh' (Kd.R_lt (uf1_ a9)) k_ hk_), (Kd.fresh' (Kd.N_lt (uf4_ bg)) k_ hk_), (Kd.freshB (g := bj) (o := .cells #[.slice am av.length al, .slice br b1.length bn] 25 (0, 0)) (uf0_ au) k_ hk_), (Kd.freshB (g := bm) (o := .cells #[.slice an ar.length ak, .slice ba aw.length a5] 25 (0, 0)) (uf0_ ao) k_ hk_), (Kd.freshB (g := bp) (o := .cells #[.slice bc bk.length a6, .slice bw b3.length bt] 25 (0, 0)) (uf0_ az) k_ hk_)⟩)) (below_size (a7))); replace be := Aside0.mk (Kd.R_below (uf1_ be) hb); replace ay := Aside0.mk (Kd.R_below (uf1_ ay) hb); replace ai := Aside0.mk (Kd.R_below (uf1_ ai) hb); replace aj := Aside0.mk (Kd.N_elder' (uf4_ aj) (Kd.N_base (g6_)) hb); replace a9 := Aside0.mk (Kd.R_below (uf1_ a9) hb); replace bg := Aside0.mk (Kd.N_elder' (uf4_ bg) (Kd.N_base (g6_)) hb); replace au := bb_ au hb; replace ao := bb_ ao hb; replace az := bb_ az hb; replace HB := Aside0.mk (below_step (a7) hb); (try clear hb); (try clear hk hi); (try clear ac); obtain ⟨ds9, dt0, ay9⟩ := Kd.N_slice da.out; subst ay9)); try go_wp2_with (first | (go_at_call 50; (with_reducible refine (impl_CirclesOf.calls k4 _ _ ar _ _ aw jj _ ?side1 ?side2 ?side3 ?side4 pq.out).mono ?_); (case side1 => repeat (first | exact (Kd.R_reads' ai.out).2.2 | (with_reducible refine Kd.C_alloc ?_ _) | (with_reducible refine Kd.C_drewN ?_ _) | (with_reducible refine Kd.C_drew ?_))); (case side2 => exact (Kd.R_reads' ai.out).2.1); (case side3 => repeat (first | exact (Kd.N_reads' aj.out).2.2 | (with_reducible refine Kd.C_alloc ?_ _) | (with_reducible refine Kd.C_drewN ?_ _) | (with_reducible refine Kd.C_drew ?_))); (case side4 => exact (Kd.N_reads' aj.out).2.1); rintro e ds8 ⟨rk, rfl, ac, hb⟩; replace bd := Aside0.mk (Kd.V_elder' (uf5_ bd) (Kd.N_base (g6_)) hb); have da := Aside0.mk (Kd.N_lower (Kd.N_mono (ok' := fun k_ => some k_ ≠ (.slice ey cx.length ez : Value).ownBlock ∧ some k_ ≠ (.slice am av.length al : Value).ownBlock ∧ some k_ ≠ (.slice an ar.length ak : Value).ownBlock ∧ some k_ ≠ (.slice ba aw.length a5 : Value).ownBlock ∧ some k_ ≠ (.slice bc bk.length a6 : Value).ownBlock ∧ some k_ ≠ (.slice bw b3.length bt : Value).ownBlock ∧ k_ ≠ bj ∧ k_ ≠ bm ∧ k_ ≠ bp) ac (fun k_ hk_ => ⟨(Kd.fresh' (Kd.R_lt (uf1_ be)) k_ hk_), (Kd.fresh' (Kd.R_lt (uf1_ ay)) k_ hk_), (Kd.fresh' (Kd.R_lt (uf1_ ai)) k_ hk_), (Kd.fresh' (Kd.N_lt (uf4_ aj)) k_ hk_), (Kd.fresh' (Kd.R_lt (uf1_ a9)) k_ hk_), (Kd.fresh' (Kd.N_lt (uf4_ bg)) k_ hk_), (Kd.freshB (g := bj) (o := .cells #[.slice am av.length al, .slice br b1.length bn] 25 (0, 0)) (uf0_ au) k_ hk_), (Kd.freshB (g := bm) (o := .cells #[.slice an ar.length ak, .slice ba aw.length a5] 25 (0, 0)) (uf0_ ao) k_ hk_), (Kd.freshB (g := bp) (o := .cells #[.slice bc bk.length a6, .slice bw b3.length bt] 25 (0, 0)) (uf0_ az) k_ hk_)⟩)) (below_size (a7))); replace be := Aside0.mk (Kd.R_below (uf1_ be) hb); replace ay := Aside0.mk (Kd.R_below (uf1_ ay) hb); replace ai := Aside0.mk (Kd.R_below (uf1_ ai) hb); replace aj := Aside0.mk (Kd.N_elder' (uf4_ aj) (Kd.N_base (g6_)) hb); replace a9 := Aside0.mk (Kd.R_below (uf1_ a9) hb); replace bg := Aside0.mk (Kd.N_elder' (uf4_ bg) (Kd.N_base (g6_)) hb); replace au := bb_ au hb; replace ao := bb_ ao hb; replace az := bb_ az hb; replace HB := Aside0.mk (below_step (a7) hb); (try clear hb); (try clear hk hi); (try clear ac); obtain ⟨ds9, dt0, ay9⟩ := Kd.N_slice da.out; subst ay9)))
                go_ret
                exact ⟨g4_, a7⟩
def laws_FnWithoutCircles.Pure : Prop := ∀ (l0 : List Int), l0.length ≤ maxLen → l0.length * 1 ≤ 140737488351232 → (∀ x ∈ l0, (Lit.int .u8 x).wf = true) → ∃ k, laws_FnWithoutCircles.f k l0 = some true
theorem laws_FnWithoutCircles.walk (P : laws_FnWithoutCircles.Pure) (a0 : Option Addr) (len0 cap0 : Nat) (z0 : List Int) (w : World) (w0 : (a0 = none ∧ len0 = 0 ∧ cap0 = 0 ∧ z0 = []) ∨ ∃ x, a0 = some x ∧ len0 ≤ cap0 ∧ cap0 ≤ maxLen ∧ z0.length = cap0 ∧ (∀ i, i < z0.length → w.cell? (x.add i) = some (.int .u8 (z0.getD i 0))) ∧ ∀ n ∈ z0, (Lit.int .u8 n).wf = true) (y0 : len0 * 1 ≤ 140737488351232) :
  Calls Try.prog 10 #[.slice a0 len0 cap0] w fun e w' => e = .returned (.bool true) ∧ Below w.heap.size w w' := by
 obtain ⟨l0, rfl, ct, hm0, hw0, dq⟩ := ReadsInt.ofRowC w0
 obtain ⟨k, h⟩ := P l0 hm0 y0 hw0
 refine (laws_FnWithoutCircles.calls k _ _ l0 true w (Kd.C_of_reads (d := (0 : Int)) (h1 := fun _ => rfl) ct) dq h).mono ?_
 rintro e w' ⟨rfl, hd⟩
 exact ⟨rfl, hd⟩
end Go.Proofs.Ytfooakkhkehpiaa.PU
namespace Go.Proofs.Ytfooakkhkehpiaa.Qh
open Go.RowKit Go.Proofs.YtfooakkhkehpiaaW.PrintWords Go.Proofs.YtfooakkhkehpiaaW.PrintMore
set_option linter.unusedVariables false
set_option linter.unusedSimpArgs false
theorem w64 {n : Int} (h1 : -9223372036854775808 ≤ n) (h2 : n ≤ 9223372036854775807) : wrap64 n = n := by unfold wrap64; omega
theorem wsucc {i n : Nat} (h : i < n) (hn : n ≤ 4611686018427387904) : wrap64 ((i : Int) + 1) = ((i + 1 : Nat) : Int) := by unfold wrap64; omega
section
variable {α β : Type} {r : α}
theorem evPos {c : Prop} [Decidable c] {g f : Nat → Option α} (h : c) (k : Ev g r) : Ev (fun n => if c then g n else f n) r := by
  simp only [if_pos h]; exact k
theorem evNeg {c : Prop} [Decidable c] {g f : Nat → Option α} (h : ¬ c) (k : Ev f r) : Ev (fun n => if c then g n else f n) r := by
  simp only [if_neg h]; exact k
theorem evBind0 {g : Option β} {f : Nat → β → Option α} {a : β} (h : g = some a) (k : Ev (fun n => f n a) r) : Ev (fun n => g.bind (f n)) r := by
  subst h; exact k
theorem evEq {g : Nat → Option α} {q : α} (h : Ev g q) (e : q = r) : Ev g r := e ▸ h
end
theorem rd_get (xs : List Int) (i : Nat) (h : i < xs.length) : rd xs (i : Int) = xs[i] := by
  simp [rd, List.getD_eq_getElem?_getD, List.getElem?_eq_getElem h]
theorem drop_rd (xs : List Int) (i : Nat) (h : i < xs.length) : xs.drop i = rd xs (i : Int) :: xs.drop (i + 1) := by
  rw [rd_get xs i h, List.drop_eq_getElem_cons h]
theorem getD_set {α : Type} (xs : List α) (d v : α) (i j : Nat) (h : i < xs.length) : (xs.set i v).getD j d = if i = j then v else xs.getD j d := by
  simp only [List.getD_eq_getElem?_getD, List.getElem?_set]
  by_cases e : i = j
  · subst e; simp [h]
  · simp [e]
theorem rd_app (xs : List Int) (v : Int) (j : Nat) : rd (xs ++ [v]) (j : Int) = if j < xs.length then rd xs j else if j = xs.length then v else 0 := by
  unfold rd
  simp only [Int.toNat_natCast, List.getD_eq_getElem?_getD, List.getElem?_append]
  by_cases h : j < xs.length
  · simp [h]
  · by_cases e : j = xs.length
    · subst e; simp
    · rw [if_neg h, if_neg h, if_neg e]
      have : 1 ≤ j - xs.length := by omega
      rw [List.getElem?_eq_none (by simp; omega)]; rfl
theorem ext_rd (xs ys : List Int) (hl : xs.length = ys.length) (h : ∀ i : Nat, i < xs.length → rd xs (i : Int) = rd ys (i : Int)) : xs = ys := by
  apply List.ext_getElem hl
  intro i h1 h2
  have := h i h1
  rwa [rd_get xs i h1, rd_get ys i h2] at this
theorem getD_mem {α : Type} (d : α) (xs : List α) (i : Nat) (h : i < xs.length) : xs.getD i d ∈ xs := by
  simp [List.getD_eq_getElem?_getD, List.getElem?_eq_getElem h]
def EvB (g : Nat → Option Bool) (p : Prop) : Prop := ∃ b, (b = true ↔ p) ∧ Ev g b
section
variable {g f : Nat → Option Bool} {p q : Prop}
theorem EvB.congr (h : EvB g p) (e : p ↔ q) : EvB g q := by obtain ⟨b, h1, h2⟩ := h; exact ⟨b, h1.trans e, h2⟩
theorem EvB.tt (h : p) : EvB (fun _ => some true) p := ⟨true, by simp [h], Ev.now _⟩
theorem EvB.ff (h : ¬ p) : EvB (fun _ => some false) p := ⟨false, by simp [h], Ev.now _⟩
theorem EvB.pos {c : Prop} [Decidable c] (h : c) (k : EvB g p) : EvB (fun n => if c then g n else f n) p := by obtain ⟨b, h1, h2⟩ := k; exact ⟨b, h1, evPos h h2⟩
theorem EvB.neg {c : Prop} [Decidable c] (h : ¬ c) (k : EvB f p) : EvB (fun n => if c then g n else f n) p := by obtain ⟨b, h1, h2⟩ := k; exact ⟨b, h1, evNeg h h2⟩
theorem EvB.step {g f : Nat → Option Bool} (h : ∀ k, g (k + 1) = f k) (k : EvB f p) : EvB g p := by obtain ⟨b, h1, h2⟩ := k; exact ⟨b, h1, Ev.step h h2⟩
theorem EvB.bind {β : Type} {g : Nat → Option β} {f : Nat → β → Option Bool} {a : β} (h : Ev g a) (k : EvB (fun n => f n a) p) : EvB (fun n => (g n).bind (f n)) p := by obtain ⟨b, h1, h2⟩ := k; exact ⟨b, h1, Ev.bind h h2⟩
theorem EvB.bind0 {β : Type} {g : Option β} {f : Nat → β → Option Bool} {a : β} (h : g = some a) (k : EvB (fun n => f n a) p) : EvB (fun n => g.bind (f n)) p := by obtain ⟨b, h1, h2⟩ := k; exact ⟨b, h1, evBind0 h h2⟩
theorem EvB.yes (h : EvB g p) (hp : p) : Ev g true := by obtain ⟨b, h1, h2⟩ := h; rw [h1.2 hp] at h2; exact h2
theorem EvB.no (h : EvB g p) (hp : ¬ p) : Ev g false := by
  obtain ⟨b, h1, h2⟩ := h
  have : b = false := by cases b with
    | true => exact absurd (h1.1 rfl) hp
    | false => rfl
  rw [this] at h2; exact h2
end
end Go.Proofs.Ytfooakkhkehpiaa.Qh
namespace Go.Proofs.Ytfooakkhkehpiaa.Bk
open Go.RowKit Go.Proofs.Ytfooakkhkehpiaa.PU Go.Proofs.Ytfooakkhkehpiaa.Qh Go.Proofs.YtfooakkhkehpiaaW.PrintWords Go.Proofs.YtfooakkhkehpiaaW.PrintMore
set_option linter.unusedVariables false
set_option linter.unusedSimpArgs false
def RowP (c : List Int) (d : List (List Int)) (i : Nat) : Prop :=
  0 ≤ rd c (i : Int) ∧ rd c (i : Int) ≤ 20 ∧ (rd_L1 d (i : Int)).length = c.length ∧ rd (rd_L1 d (i : Int)) (i : Int) = 0 ∧ ∀ j : Nat, j < c.length → 0 ≤ rd (rd_L1 d (i : Int)) (j : Int) ∧ rd (rd_L1 d (i : Int)) (j : Int) ≤ 9
def BookP (c : List Int) (d : List (List Int)) : Prop := 1 ≤ c.length ∧ c.length ≤ 4 ∧ d.length = c.length ∧ ∀ i : Nat, i < c.length → RowP c d i
theorem ib_l1 (c : List Int) (d : List (List Int)) (row : List Int) (x3 : Int) (i : Nat) (hrow : row.length ≤ 4) (hi : i < d.length) (hd : d.length ≤ 4) {R : Prop}
    (hR : EvB (fun k => impl_isBook.l0 k x3 d (d.length : Int) ((i + 1 : Nat) : Int) c d) R) : ∀ (e j : Nat), row.length - j = e → j ≤ row.length →
    EvB (fun k => impl_isBook.l1 k x3 d (d.length : Int) (i : Int) row (row.length : Int) (j : Int) c d) ((∀ j' : Nat, j ≤ j' → j' < row.length → 0 ≤ rd row (j' : Int) ∧ rd row (j' : Int) ≤ 9) ∧ R) := by
  have hs : wrap64 ((i : Int) + 1) = ((i + 1 : Nat) : Int) := wsucc hi (by omega)
  intro e
  induction e with
  | zero =>
    intro j he hj
    refine EvB.step (fun k => by rw [impl_isBook.l1]) ?_
    rw [hs]
    exact EvB.neg (by omega) (hR.congr ⟨fun h => ⟨fun j' h1 h2 => by omega, h⟩, fun h => h.2⟩)
  | succ e ih =>
    intro j he hj
    have hlt : j < row.length := by omega
    have hj1 : wrap64 ((j : Int) + 1) = ((j + 1 : Nat) : Int) := wsucc hlt (by omega)
    refine EvB.step (fun k => by rw [impl_isBook.l1]) ?_
    refine EvB.pos (by omega) (EvB.pos (by omega) (EvB.pos (by omega) ?_))
    by_cases h1 : rd row (j : Int) < 0
    · exact EvB.pos h1 (EvB.ff (fun h => by have := h.1 j (Nat.le_refl _) hlt; omega))
    · refine EvB.neg h1 ?_
      by_cases h2 : rd row (j : Int) > 9
      · exact EvB.pos h2 (EvB.ff (fun h => by have := h.1 j (Nat.le_refl _) hlt; omega))
      · refine EvB.neg h2 ?_
        rw [hj1]
        refine (ih (j + 1) (by omega) (by omega)).congr ⟨fun h => ⟨fun j' h3 h4 => ?_, h.2⟩, fun h => ⟨fun j' h3 h4 => h.1 j' (by omega) h4, h.2⟩⟩
        by_cases e' : j' = j
        · subst e'; exact ⟨by omega, by omega⟩
        · exact h.1 j' (by omega) h4
theorem ib_l0 (c : List Int) (d : List (List Int)) (h4 : c.length ≤ 4) (hl : d.length = c.length) : ∀ (e i : Nat), c.length - i = e → i ≤ c.length →
    EvB (fun k => impl_isBook.l0 k (c.length : Int) d (d.length : Int) (i : Int) c d) (∀ i' : Nat, i ≤ i' → i' < c.length → RowP c d i') := by
  intro e
  induction e with
  | zero =>
    intro i he hi
    refine EvB.step (fun k => by rw [impl_isBook.l0]) ?_
    exact EvB.neg (by omega) (EvB.tt (fun i' h1 h2 => by omega))
  | succ e ih =>
    intro i he hi
    have hlt : i < c.length := by omega
    refine EvB.step (fun k => by rw [impl_isBook.l0]) ?_
    refine EvB.pos (by omega) (EvB.pos (by omega) (EvB.pos (by omega) (EvB.pos (by omega) ?_)))
    have bad : ∀ (P : Prop), (P → ¬ RowP c d i) → P → EvB (fun k => impl_isBook.j2 k (c.length : Int) (rd_L1 d (i : Int)) d (d.length : Int) (i : Int) true c d) (∀ i' : Nat, i ≤ i' → i' < c.length → RowP c d i') := by
      intro P hP p
      refine EvB.step (fun k => by rw [impl_isBook.j2]) ?_
      exact EvB.pos rfl (EvB.ff (fun h => hP p (h i (Nat.le_refl _) hlt)))
    by_cases h1 : rd c (i : Int) < 0
    · exact EvB.pos h1 (bad _ (fun p h => by have := h.1; omega) h1)
    refine EvB.neg h1 ?_
    by_cases h2 : rd c (i : Int) > 20
    · exact EvB.pos h2 (bad _ (fun p h => by have := h.2.1; omega) h2)
    refine EvB.neg h2 ?_
    by_cases h3 : ((rd_L1 d (i : Int)).length : Int) = (c.length : Int)
    · refine EvB.pos h3 (EvB.pos (by omega) ?_)
      by_cases h5 : rd (rd_L1 d (i : Int)) (i : Int) = 0
      · refine EvB.step (fun k => by rw [impl_isBook.j2]) ?_
        refine EvB.neg (by rw [h5]; decide) ?_
        refine (ib_l1 c d (rd_L1 d (i : Int)) (c.length : Int) i (by omega) (by omega) (by omega) (ih (i + 1) (by omega) (by omega)) _ 0 rfl (by omega)).congr ?_
        constructor
        · intro h i' h6 h7
          by_cases e' : i' = i
          · subst e'; exact ⟨by omega, by omega, by omega, h5, fun j hj => h.1 j (by omega) (by omega)⟩
          · exact h.2 i' (by omega) h7
        · intro h
          have hr := h i (Nat.le_refl _) hlt
          exact ⟨fun j' _ h7 => hr.2.2.2.2 j' (by omega), fun i' h6 h7 => h i' (by omega) h7⟩
      · have hb : (rd (rd_L1 d (i : Int)) (i : Int) != 0) = true := bne_iff_ne.mpr h5
        rw [hb]
        exact bad _ (fun p h => p h.2.2.2.1) h5
    · exact EvB.neg h3 (bad _ (fun p h => p (by rw [h.2.2.1])) h3)
theorem isBook (c : List Int) (d : List (List Int)) : EvB (fun k => impl_isBook.f k c d) (BookP c d) := by
  unfold impl_isBook.f
  by_cases h1 : (c.length : Int) < 1
  · refine EvB.pos h1 (EvB.step (fun k => by rw [impl_isBook.j0]) ?_)
    exact EvB.pos rfl (EvB.ff (fun h => by have := h.1; omega))
  refine EvB.neg h1 ?_
  by_cases h2 : (c.length : Int) > 4
  · refine EvB.pos h2 (EvB.step (fun k => by rw [impl_isBook.j0]) ?_)
    exact EvB.pos rfl (EvB.ff (fun h => by have := h.2.1; omega))
  refine EvB.neg h2 (EvB.step (fun k => by rw [impl_isBook.j0]) ?_)
  by_cases h3 : d.length = c.length
  · refine EvB.neg (by rw [h3]; simp) ?_
    refine (ib_l0 c d (by omega) h3 _ 0 rfl (by omega)).congr ⟨fun h => ⟨by omega, by omega, h3, fun i hi => h i (by omega) hi⟩, fun h i _ hi => h.2.2.2 i hi⟩
  · exact EvB.pos (bne_iff_ne.mpr (by omega)) (EvB.ff (fun h => h3 h.2.2.1))
theorem sIn (a lo hi : Int) : spec_l1In.f a lo hi = some (decide (lo ≤ a ∧ a ≤ hi)) := by
  unfold spec_l1In.f
  by_cases h : a ≥ lo
  · rw [if_pos h]; simp [h]
  · rw [if_neg h]; congr 1; symm; exact decide_eq_false (fun h' => h h'.1)
theorem sb_l1 (c : List Int) (d : List (List Int)) (i : Nat) (hrow : (rd_L1 d (i : Int)).length ≤ 4) (hi : i < d.length) (hd : d.length ≤ 4) {R : Prop}
    (hR : EvB (fun k => spec_BookOk.l0 k ((i + 1 : Nat) : Int) c d) R) : ∀ (e j : Nat), (rd_L1 d (i : Int)).length - j = e → j ≤ (rd_L1 d (i : Int)).length →
    EvB (fun k => spec_BookOk.l1 k (i : Int) (j : Int) c d) ((∀ j' : Nat, j ≤ j' → j' < (rd_L1 d (i : Int)).length → 0 ≤ rd (rd_L1 d (i : Int)) (j' : Int) ∧ rd (rd_L1 d (i : Int)) (j' : Int) ≤ 9) ∧ R) := by
  have hs : wrap64 ((i : Int) + 1) = ((i + 1 : Nat) : Int) := wsucc hi (by omega)
  intro e
  induction e with
  | zero =>
    intro j he hj
    refine EvB.step (fun k => by rw [spec_BookOk.l1]) ?_
    rw [hs]
    exact EvB.pos (by omega) (EvB.pos (by omega) (EvB.neg (by omega) (hR.congr ⟨fun h => ⟨fun j' h1 h2 => by omega, h⟩, fun h => h.2⟩)))
  | succ e ih =>
    intro j he hj
    have hlt : j < (rd_L1 d (i : Int)).length := by omega
    have hj1 : wrap64 ((j : Int) + 1) = ((j + 1 : Nat) : Int) := wsucc hlt (by omega)
    refine EvB.step (fun k => by rw [spec_BookOk.l1]) ?_
    refine EvB.pos (by omega) (EvB.pos (by omega) (EvB.pos (by omega) (EvB.pos (by omega) (EvB.bind0 (sIn _ _ _) ?_))))
    by_cases h1 : 0 ≤ rd (rd_L1 d (i : Int)) (j : Int) ∧ rd (rd_L1 d (i : Int)) (j : Int) ≤ 9
    · refine EvB.pos (decide_eq_true h1) ?_
      rw [hj1]
      refine (ih (j + 1) (by omega) (by omega)).congr ⟨fun h => ⟨fun j' h3 h4 => ?_, h.2⟩, fun h => ⟨fun j' h3 h4 => h.1 j' (by omega) h4, h.2⟩⟩
      by_cases e' : j' = j
      · subst e'; exact h1
      · exact h.1 j' (by omega) h4
    · exact EvB.neg (by simpa using h1) (EvB.ff (fun h => h1 (h.1 j (Nat.le_refl _) hlt)))
theorem sb_l0 (c : List Int) (d : List (List Int)) (h4 : c.length ≤ 4) (hl : d.length = c.length) : ∀ (e i : Nat), c.length - i = e → i ≤ c.length →
    EvB (fun k => spec_BookOk.l0 k (i : Int) c d) (∀ i' : Nat, i ≤ i' → i' < c.length → RowP c d i') := by
  intro e
  induction e with
  | zero =>
    intro i he hi
    refine EvB.step (fun k => by rw [spec_BookOk.l0]) ?_
    exact EvB.neg (by omega) (EvB.tt (fun i' h1 h2 => by omega))
  | succ e ih =>
    intro i he hi
    have hlt : i < c.length := by omega
    refine EvB.step (fun k => by rw [spec_BookOk.l0]) ?_
    refine EvB.pos (by omega) (EvB.pos (by omega) (EvB.bind0 (sIn _ _ _) ?_))
    have bad : ∀ (P : Prop), (P → ¬ RowP c d i) → P → EvB (fun k => spec_BookOk.j2 k (i : Int) true c d) (∀ i' : Nat, i ≤ i' → i' < c.length → RowP c d i') := by
      intro P hP p
      refine EvB.step (fun k => by rw [spec_BookOk.j2]) ?_
      exact EvB.pos rfl (EvB.ff (fun h => hP p (h i (Nat.le_refl _) hlt)))
    by_cases h1 : 0 ≤ rd c (i : Int) ∧ rd c (i : Int) ≤ 20
    · refine EvB.pos (decide_eq_true h1) (EvB.pos (by omega) ?_)
      by_cases h3 : ((rd_L1 d (i : Int)).length : Int) = (c.length : Int)
      · refine EvB.pos h3 (EvB.pos (by omega) ?_)
        by_cases h5 : rd (rd_L1 d (i : Int)) (i : Int) = 0
        · refine EvB.step (fun k => by rw [spec_BookOk.j2]) ?_
          refine EvB.neg (by rw [h5]; decide) ?_
          refine (sb_l1 c d i (by omega) (by omega) (by omega) (ih (i + 1) (by omega) (by omega)) _ 0 rfl (by omega)).congr ?_
          constructor
          · intro h i' h6 h7
            by_cases e' : i' = i
            · subst e'; exact ⟨h1.1, h1.2, by omega, h5, fun j hj => h.1 j (by omega) (by omega)⟩
            · exact h.2 i' (by omega) h7
          · intro h
            have hr := h i (Nat.le_refl _) hlt
            exact ⟨fun j' _ h7 => hr.2.2.2.2 j' (by omega), fun i' h6 h7 => h i' (by omega) h7⟩
        · have hb : (rd (rd_L1 d (i : Int)) (i : Int) != 0) = true := bne_iff_ne.mpr h5
          rw [hb]
          exact bad _ (fun p h => p h.2.2.2.1) h5
      · exact EvB.neg h3 (bad _ (fun p h => p (by rw [h.2.2.1])) h3)
    · exact EvB.neg (by simpa using h1) (bad _ (fun p h => p ⟨h.1, h.2.1⟩) h1)
theorem bookOk (c : List Int) (d : List (List Int)) : EvB (fun k => spec_BookOk.f k c d) (BookP c d) := by
  unfold spec_BookOk.f
  refine EvB.bind0 (sIn _ _ _) ?_
  by_cases h1 : 1 ≤ (c.length : Int) ∧ (c.length : Int) ≤ 4
  · refine EvB.pos (decide_eq_true h1) (EvB.step (fun k => by rw [spec_BookOk.j0]) ?_)
    by_cases h3 : d.length = c.length
    · refine EvB.neg (by rw [h3]; simp) ?_
      refine (sb_l0 c d (by omega) h3 _ 0 rfl (by omega)).congr ⟨fun h => ⟨by omega, by omega, h3, fun i hi => h i (by omega) hi⟩, fun h i _ hi => h.2.2.2 i hi⟩
    · exact EvB.pos (bne_iff_ne.mpr (by omega)) (EvB.ff (fun h => h3 h.2.2.1))
  · refine EvB.neg (by simpa using h1) (EvB.step (fun k => by rw [spec_BookOk.j0]) ?_)
    exact EvB.pos rfl (EvB.ff (fun h => h1 ⟨by have := h.1; omega, by have := h.2.1; omega⟩))
end Go.Proofs.Ytfooakkhkehpiaa.Bk
namespace Go.Proofs.Ytfooakkhkehpiaa.Mx
open Go.RowKit Go.Proofs.Ytfooakkhkehpiaa.PU Go.Proofs.Ytfooakkhkehpiaa.Qh Go.Proofs.Ytfooakkhkehpiaa.Bk Go.Proofs.YtfooakkhkehpiaaW.PrintWords Go.Proofs.YtfooakkhkehpiaaW.PrintMore
set_option linter.unusedVariables false
set_option linter.unusedSimpArgs false
abbrev db (d : List (List Int)) (i j : Nat) : Int := rd (rd_L1 d (i : Int)) (j : Int)
theorem rL (xs : List (List Int)) (i : Nat) : rd_L1 xs (i : Int) = xs.getD i [] := rfl
def rowF (n : Nat) (f : Nat → Int) : List Int := (List.range n).map f
def mk (n : Nat) (f : Nat → Nat → Int) : List (List Int) := (List.range n).map (fun i => rowF n (f i))
theorem rowF_len (n : Nat) (f : Nat → Int) : (rowF n f).length = n := by simp [rowF]
theorem mk_len (n : Nat) (f : Nat → Nat → Int) : (mk n f).length = n := by simp [mk]
theorem rd_rowF {n j : Nat} {f : Nat → Int} (h : j < n) : rd (rowF n f) (j : Int) = f j := by
  rw [rd_get _ _ (by rw [rowF_len]; exact h)]; simp [rowF]
theorem mk_get {n i : Nat} {f : Nat → Nat → Int} (h : i < n) : rd_L1 (mk n f) (i : Int) = rowF n (f i) := by
  rw [rL, List.getD_eq_getElem?_getD, List.getElem?_eq_getElem (by rw [mk_len]; exact h)]; simp [mk]
theorem rowF_congr {n : Nat} {f g : Nat → Int} (h : ∀ j, j < n → f j = g j) : rowF n f = rowF n g := by
  unfold rowF
  exact List.map_congr_left (fun j hj => h j (List.mem_range.mp hj))
theorem mk_congr {n : Nat} {f g : Nat → Nat → Int} (h : ∀ i, i < n → ∀ j, j < n → f i j = g i j) : mk n f = mk n g := by
  unfold mk
  exact List.map_congr_left (fun i hi => rowF_congr (h i (List.mem_range.mp hi)))
theorem rowF_of (l : List Int) {n : Nat} (h : l.length = n) : l = rowF n (fun j => rd l (j : Int)) := by
  apply List.ext_getElem (by rw [rowF_len, h])
  intro i h1 h2
  rw [← rd_get l i h1, ← rd_get _ i h2, rd_rowF (by rw [rowF_len] at h2; exact h2)]
theorem mk_of {c : List Int} {d : List (List Int)} (h : BookP c d) : d = mk c.length (db d) := by
  apply List.ext_getElem (by rw [mk_len, h.2.2.1])
  intro i h1 h2
  have hi : i < c.length := by rw [mk_len] at h2; exact h2
  have hr := (h.2.2.2 i hi).2.2.1
  have e1 : d[i] = rd_L1 d (i : Int) := by rw [rL, List.getD_eq_getElem?_getD, List.getElem?_eq_getElem h1]; rfl
  have e2 : (mk c.length (db d))[i] = rowF c.length (db d i) := by simp [mk]
  rw [e1, e2]
  exact rowF_of _ hr
theorem rowF_set {n j : Nat} {f : Nat → Int} {v : Int} (h : j < n) : (rowF n f).set j v = rowF n (fun j' => if j' = j then v else f j') := by
  apply List.ext_getElem (by simp [rowF])
  intro i h1 h2
  have hi : i < n := by rw [rowF_len] at h2; exact h2
  rw [List.getElem_set]
  by_cases e : j = i
  · subst e; simp [rowF]
  · rw [if_neg e]; simp only [rowF, List.getElem_map, List.getElem_range]; rw [if_neg (fun z => e z.symm)]
theorem mk_set {n i j : Nat} {f : Nat → Nat → Int} {v : Int} (hi : i < n) (hj : j < n) : (mk n f).set i ((rd_L1 (mk n f) (i : Int)).set j v) = mk n (fun i' j' => if i' = i ∧ j' = j then v else f i' j') := by
  rw [mk_get hi, rowF_set hj]
  apply List.ext_getElem (by simp [mk])
  intro a h1 h2
  have ha : a < n := by rw [mk_len] at h2; exact h2
  rw [List.getElem_set]
  by_cases e : i = a
  · subst e
    rw [if_pos rfl]
    simp only [mk, List.getElem_map, List.getElem_range]
    exact rowF_congr (fun j' _ => by simp)
  · rw [if_neg e]
    simp only [mk, List.getElem_map, List.getElem_range]
    exact rowF_congr (fun j' _ => by rw [if_neg (fun z => e z.1.symm)])
theorem icopy {c : List Int} {d : List (List Int)} (h : BookP c d) : Ev (fun k => impl_copyBook.f k c d) (c, d) := by
  have h4 := h.2.1
  have hdl := h.2.2.1
  unfold impl_copyBook.f
  refine evBind0 rfl (evPos (by simp only [List.length_nil]; omega) ?_)
  rw [List.nil_append]
  have key : ∀ (e i : Nat), d.length - i = e → i ≤ d.length → Ev (fun k => impl_copyBook.l0 k d (d.length : Int) (i : Int) c (d.take i)) (c, d) := by
    intro e
    induction e with
    | zero =>
      intro i he hi
      obtain rfl : i = d.length := by omega
      refine Ev.step (fun k => by rw [impl_copyBook.l0]) ?_
      rw [List.take_length]
      exact evNeg (by omega) (Ev.now _)
    | succ e ih =>
      intro i he hi
      have hlt : i < d.length := by omega
      have hr := (h.2.2.2 i (by omega)).2.2.1
      have hs : Aside0 (wrap64 ((i : Int) + 1) = ((i + 1 : Nat) : Int)) := ⟨wsucc hlt (by omega)⟩
      have htl : (d.take i).length = i := by rw [List.length_take]; omega
      have e2 : d.take i ++ [rd_L1 d (i : Int)] = d.take (i + 1) := by
        rw [rL, List.getD_eq_getElem?_getD, List.getElem?_eq_getElem hlt, List.take_succ_eq_append_getElem hlt]; rfl
      refine Ev.step (fun k => by rw [impl_copyBook.l0]) ?_
      rw [hs.out]
      refine evPos (by omega) (evPos (by omega) (evPos (by omega) (evBind0 rfl (evPos (by simp only [List.length_nil]; omega) (evPos (by omega) ?_)))))
      rw [List.nil_append, e2]
      exact ih (i + 1) (by omega) (by omega)
  exact key d.length 0 rfl (by omega)
theorem scopy {c : List Int} {d : List (List Int)} (h : BookP c d) : Ev (fun k => spec_l2Copy.f k c d) (c, d) := by
  have h4 := h.2.1
  have hdl := h.2.2.1
  unfold spec_l2Copy.f
  refine evBind0 rfl (evPos (by simp only [List.length_nil]; omega) ?_)
  rw [List.nil_append]
  have key : ∀ (e i : Nat), d.length - i = e → i ≤ d.length → Ev (fun k => spec_l2Copy.l0 k (i : Int) c d c (d.take i)) (c, d) := by
    intro e
    induction e with
    | zero =>
      intro i he hi
      obtain rfl : i = d.length := by omega
      refine Ev.step (fun k => by rw [spec_l2Copy.l0]) ?_
      rw [List.take_length]
      exact evNeg (by omega) (Ev.now _)
    | succ e ih =>
      intro i he hi
      have hlt : i < d.length := by omega
      have hr := (h.2.2.2 i (by omega)).2.2.1
      have hs : Aside0 (wrap64 ((i : Int) + 1) = ((i + 1 : Nat) : Int)) := ⟨wsucc hlt (by omega)⟩
      have htl : (d.take i).length = i := by rw [List.length_take]; omega
      have e2 : d.take i ++ [rd_L1 d (i : Int)] = d.take (i + 1) := by
        rw [rL, List.getD_eq_getElem?_getD, List.getElem?_eq_getElem hlt, List.take_succ_eq_append_getElem hlt]; rfl
      refine Ev.step (fun k => by rw [spec_l2Copy.l0]) ?_
      rw [hs.out]
      refine evPos (by omega) (evBind0 rfl (evPos (by omega) (evPos (by simp only [List.length_nil]; omega) (evPos (by omega) ?_))))
      rw [List.nil_append, e2]
      exact ih (i + 1) (by omega) (by omega)
  exact key d.length 0 rfl (by omega)
theorem sameI_l (l : List Int) (hl : l.length ≤ 4611686018427387904) : ∀ (e i : Nat), l.length - i = e → i ≤ l.length → Ev (fun k => laws_sameInts.l0 k l l (i : Int)) true := by
  intro e
  induction e with
  | zero =>
    intro i he hi
    refine Ev.step (fun k => by rw [laws_sameInts.l0]) ?_
    exact evNeg (by omega) (Ev.now _)
  | succ e ih =>
    intro i he hi
    have hlt : i < l.length := by omega
    have hs : wrap64 ((i : Int) + 1) = ((i + 1 : Nat) : Int) := wsucc hlt hl
    refine Ev.step (fun k => by rw [laws_sameInts.l0]) ?_
    refine evPos (by omega) (evPos (by omega) (evPos (by omega) (evPos rfl ?_)))
    rw [hs]
    exact ih (i + 1) (by omega) (by omega)
theorem sameI (l : List Int) (hl : l.length ≤ 4611686018427387904) : Ev (fun k => laws_sameInts.f k l l) true := by
  unfold laws_sameInts.f
  exact evPos rfl (sameI_l l hl _ 0 rfl (by omega))
theorem sameR_l (l : List (List Int)) (hl : l.length ≤ 4611686018427387904) (hr : ∀ i : Nat, i < l.length → (rd_L1 l (i : Int)).length ≤ 4611686018427387904) : ∀ (e i : Nat), l.length - i = e → i ≤ l.length → Ev (fun k => laws_sameRows.l0 k l l (i : Int)) true := by
  intro e
  induction e with
  | zero =>
    intro i he hi
    refine Ev.step (fun k => by rw [laws_sameRows.l0]) ?_
    exact evNeg (by omega) (Ev.now _)
  | succ e ih =>
    intro i he hi
    have hlt : i < l.length := by omega
    have hs : wrap64 ((i : Int) + 1) = ((i + 1 : Nat) : Int) := wsucc hlt hl
    refine Ev.step (fun k => by rw [laws_sameRows.l0]) ?_
    refine evPos (by omega) (evPos (by omega) (evPos (by omega) (Ev.bind (sameI _ (hr i hlt)) (evPos rfl ?_))))
    rw [hs]
    exact ih (i + 1) (by omega) (by omega)
theorem sameB (c : List Int) (l : List (List Int)) (hc : c.length ≤ 4611686018427387904) (hl : l.length ≤ 4611686018427387904) (hr : ∀ i : Nat, i < l.length → (rd_L1 l (i : Int)).length ≤ 4611686018427387904) : Ev (fun k => laws_sameBook.f k c l c l) true := by
  unfold laws_sameBook.f
  refine Ev.bind (sameI c hc) (evPos rfl (Ev.bind ?_ (Ev.now _)))
  unfold laws_sameRows.f
  exact evPos rfl (sameR_l l hl hr _ 0 rfl (by omega))
theorem sameOk {c : List Int} {d : List (List Int)} (h : BookP c d) : Ev (fun k => laws_sameBook.f k c d c d) true := by
  have h4 := h.2.1
  have hdl := h.2.2.1
  exact sameB c d (by omega) (by omega) (fun i hi => by have := (h.2.2.2 i (by omega)).2.2.1; omega)
end Go.Proofs.Ytfooakkhkehpiaa.Mx
namespace Go.Proofs.Ytfooakkhkehpiaa.Ow
open Go.RowKit Go.Proofs.Ytfooakkhkehpiaa.PU Go.Proofs.Ytfooakkhkehpiaa.Qh Go.Proofs.Ytfooakkhkehpiaa.Bk Go.Proofs.YtfooakkhkehpiaaW.PrintWords Go.Proofs.YtfooakkhkehpiaaW.PrintMore
set_option linter.unusedVariables false
set_option linter.unusedSimpArgs false
def sm (xs : List Int) : Nat → Int
  | 0 => 0
  | i + 1 => sm xs i + rd xs (i : Int)
def ow (c : List Int) (d : List (List Int)) (i : Nat) : Int := sm (rd_L1 d (i : Int)) c.length
def owes (c : List Int) (d : List (List Int)) : List Int := (List.range c.length).map (ow c d)
theorem owes_len (c : List Int) (d : List (List Int)) : (owes c d).length = c.length := by simp [owes]
theorem rd_owes {c : List Int} {d : List (List Int)} {i : Nat} (hi : i < c.length) : rd (owes c d) (i : Int) = ow c d i := by
  rw [rd_get _ _ (by rw [owes_len]; exact hi)]; simp [owes]
theorem sm_bd {c : List Int} {d : List (List Int)} (h : BookP c d) {i : Nat} (hi : i < c.length) : ∀ j : Nat, j ≤ c.length → 0 ≤ sm (rd_L1 d (i : Int)) j ∧ sm (rd_L1 d (i : Int)) j ≤ 9 * j
  | 0, _ => by simp [sm]
  | j + 1, hj => by
    have := sm_bd h hi j (by omega)
    have := (h.2.2.2 i hi).2.2.2.2 j (by omega)
    simp only [sm]; omega
theorem ow_bd {c : List Int} {d : List (List Int)} (h : BookP c d) {i : Nat} (hi : i < c.length) : 0 ≤ ow c d i ∧ ow c d i ≤ 36 := by
  have := sm_bd h hi c.length (Nat.le_refl _); have := h.2.1; unfold ow; omega
def mid (c : List Int) (d : List (List Int)) (i : Nat) (s : Int) : List Int := (List.range c.length).map (fun k => if k < i then ow c d k else if k = i then s else 0)
theorem mid_len (c : List Int) (d : List (List Int)) (i : Nat) (s : Int) : (mid c d i s).length = c.length := by simp [mid]
theorem mid_get {c : List Int} {d : List (List Int)} {i : Nat} {s : Int} (hi : i < c.length) : rd (mid c d i s) (i : Int) = s := by
  rw [rd_get _ _ (by rw [mid_len]; exact hi)]; simp [mid]
theorem mid_set {c : List Int} {d : List (List Int)} {i : Nat} {s v : Int} (hi : i < c.length) : (mid c d i s).set ((i : Int)).toNat v = mid c d i v := by
  apply List.ext_getElem (by simp [mid])
  intro k h1 h2
  simp only [mid, List.getElem_set, List.getElem_map, List.getElem_range, Int.toNat_natCast]
  by_cases e : i = k
  · subst e; simp
  · rw [if_neg e]
    by_cases e2 : k < i
    · simp [e2]
    · simp [e2, Ne.symm e, show ¬ k = i from fun h => e h.symm]
theorem mid_next {c : List Int} {d : List (List Int)} (i : Nat) : mid c d i (ow c d i) = mid c d (i + 1) 0 := by
  unfold mid
  apply List.map_congr_left
  intro k _
  by_cases e : k < i
  · simp [e, show k < i + 1 by omega]
  · by_cases e2 : k = i
    · subst e2; simp
    · simp [e, e2, show ¬ k < i + 1 by omega]
theorem mid_start (c : List Int) (d : List (List Int)) : List.replicate c.length (0 : Int) = mid c d 0 0 := by
  apply List.ext_getElem (by simp [mid])
  intro k h1 h2
  simp [mid]
theorem mid_end (c : List Int) (d : List (List Int)) : mid c d c.length 0 = owes c d := by
  unfold mid owes
  apply List.map_congr_left
  intro k hk
  simp [List.mem_range.mp hk]
theorem io_l1 {c : List Int} {d : List (List Int)} (h : BookP c d) {i : Nat} (hi : i < c.length) {r : List Int} (hR : Ev (fun k => impl_owes.l0 k (mid c d (i + 1) 0) d (d.length : Int) ((i + 1 : Nat) : Int)) r) :
    ∀ (e j : Nat), c.length - j = e → j ≤ c.length → Ev (fun k => impl_owes.l1 k (mid c d i (sm (rd_L1 d (i : Int)) j)) (i : Int) d (d.length : Int) (i : Int) (rd_L1 d (i : Int)) ((rd_L1 d (i : Int)).length : Int) (j : Int)) r := by
  have h4 := h.2.1
  have hdl := h.2.2.1
  have hrl := (h.2.2.2 i hi).2.2.1
  have hs : wrap64 ((i : Int) + 1) = ((i + 1 : Nat) : Int) := wsucc hi (by omega)
  intro e
  induction e with
  | zero =>
    intro j he hj
    obtain rfl : j = c.length := by omega
    refine Ev.step (fun k => by rw [impl_owes.l1]) ?_
    rw [hs]
    refine evNeg (by omega) ?_
    have : mid c d i (sm (rd_L1 d (i : Int)) c.length) = mid c d (i + 1) 0 := mid_next i
    rw [this]
    exact hR
  | succ e ih =>
    intro j he hj
    have hlt : j < c.length := by omega
    have hj1 : wrap64 ((j : Int) + 1) = ((j + 1 : Nat) : Int) := wsucc hlt (by omega)
    have hb := sm_bd h hi j (by omega)
    have hx := (h.2.2.2 i hi).2.2.2.2 j hlt
    have hw : wrap64 (sm (rd_L1 d (i : Int)) j + rd (rd_L1 d (i : Int)) (j : Int)) = sm (rd_L1 d (i : Int)) (j + 1) := by rw [w64 (by omega) (by omega)]; rfl
    have hml := mid_len c d i (sm (rd_L1 d (i : Int)) j)
    refine Ev.step (fun k => by rw [impl_owes.l1]) ?_
    refine evPos (by omega) (evPos (by omega) (evPos (by omega) (evPos (by omega) (evPos (by omega) ?_))))
    rw [mid_get hi, hw, hj1, mid_set hi]
    exact ih (j + 1) (by omega) (by omega)
theorem io_l0 {c : List Int} {d : List (List Int)} (h : BookP c d) : ∀ (e i : Nat), c.length - i = e → i ≤ c.length → Ev (fun k => impl_owes.l0 k (mid c d i 0) d (d.length : Int) (i : Int)) (owes c d) := by
  have hdl := h.2.2.1
  intro e
  induction e with
  | zero =>
    intro i he hi
    obtain rfl : i = c.length := by omega
    refine Ev.step (fun k => by rw [impl_owes.l0]) ?_
    exact evNeg (by omega) (evEq (Ev.now _) (mid_end c d))
  | succ e ih =>
    intro i he hi
    refine Ev.step (fun k => by rw [impl_owes.l0]) ?_
    refine evPos (by omega) (evPos (by omega) (evPos (by omega) ?_))
    exact io_l1 h (by omega) (ih (i + 1) (by omega) (by omega)) _ 0 rfl (by omega)
theorem iowes {c : List Int} {d : List (List Int)} (h : BookP c d) : Ev (fun k => impl_owes.f k c d) (owes c d) := by
  have h4 := h.2.1
  unfold impl_owes.f
  refine evPos (by omega) (evPos (by omega) ?_)
  rw [Int.toNat_natCast, mid_start c d]
  exact io_l0 h _ 0 rfl (by omega)
end Go.Proofs.Ytfooakkhkehpiaa.Ow
namespace Go.Proofs.Ytfooakkhkehpiaa.Ne
open Go.RowKit Go.Proofs.Ytfooakkhkehpiaa.PU Go.Proofs.Ytfooakkhkehpiaa.Qh Go.Proofs.Ytfooakkhkehpiaa.Bk Go.Proofs.Ytfooakkhkehpiaa.Mx Go.Proofs.Ytfooakkhkehpiaa.Ow Go.Proofs.YtfooakkhkehpiaaW.PrintWords Go.Proofs.YtfooakkhkehpiaaW.PrintMore
set_option linter.unusedVariables false
set_option linter.unusedSimpArgs false
variable {c : List Int} {d : List (List Int)}
theorem db_bd (h : BookP c d) {i j : Nat} (hi : i < c.length) (hj : j < c.length) : 0 ≤ db d i j ∧ db d i j ≤ 9 := (h.2.2.2 i hi).2.2.2.2 j hj
def cs (d : List (List Int)) : Nat → Nat → Int
  | 0, _ => 0
  | i + 1, j => cs d i j + db d i j
theorem cs_bd (h : BookP c d) {j : Nat} (hj : j < c.length) : ∀ i : Nat, i ≤ c.length → 0 ≤ cs d i j ∧ cs d i j ≤ 9 * i
  | 0, _ => by simp [cs]
  | i + 1, hi => by
    have := cs_bd h hj i (by omega)
    have := db_bd h (show i < c.length by omega) hj
    simp only [cs]; omega
def fo (d : List (List Int)) (i k : Nat) (j : Nat) : Int := if j < k then cs d (i + 1) j else cs d i j
theorem od_l1 (h : BookP c d) {i : Nat} (hi : i < c.length) {r : List Int} (hR : Ev (fun n => impl_owed.l0 n (rowF c.length (fo d (i + 1) 0)) d (d.length : Int) ((i + 1 : Nat) : Int)) r) : ∀ (e k : Nat), c.length - k = e → k ≤ c.length →
    Ev (fun n => impl_owed.l1 n (rowF c.length (fo d i k)) d (d.length : Int) (i : Int) (rd_L1 d (i : Int)) ((rd_L1 d (i : Int)).length : Int) (k : Int)) r := by
  have h4 := h.2.1
  have hdl := h.2.2.1
  have hrl := (h.2.2.2 i hi).2.2.1
  have hs : Aside0 (wrap64 ((i : Int) + 1) = ((i + 1 : Nat) : Int)) := ⟨wsucc hi (by omega)⟩
  intro e
  induction e with
  | zero =>
    intro k he hk
    obtain rfl : k = c.length := by omega
    refine Ev.step (fun n => by rw [impl_owed.l1]) ?_
    rw [hs.out]
    refine evNeg (by omega) ?_
    have : rowF c.length (fo d i c.length) = rowF c.length (fo d (i + 1) 0) := rowF_congr (fun j hj => by unfold fo; rw [if_pos hj, if_neg (by omega)])
    rw [this]
    exact hR
  | succ e ih =>
    intro k he hk
    have hlt : k < c.length := by omega
    have hk1 : Aside0 (wrap64 ((k : Int) + 1) = ((k + 1 : Nat) : Int)) := ⟨wsucc hlt (by omega)⟩
    have b1 := cs_bd h hlt i (by omega)
    have b2 := db_bd h hi hlt
    have b3 : rd (rd_L1 d (i : Int)) (k : Int) = db d i k := rfl
    have hfl := rowF_len c.length (fo d i k)
    have hw : wrap64 (rd (rowF c.length (fo d i k)) (k : Int) + rd (rd_L1 d (i : Int)) (k : Int)) = cs d (i + 1) k := by
      rw [rd_rowF hlt]
      have : fo d i k k = cs d i k := by unfold fo; rw [if_neg (by omega)]
      rw [this, b3, w64 (by omega) (by omega)]
      rfl
    refine Ev.step (fun n => by rw [impl_owed.l1]) ?_
    rw [hk1.out, hw, Int.toNat_natCast, rowF_set hlt]
    refine evPos (by omega) (evPos (by omega) (evPos (by omega) (evPos (by omega) ?_)))
    have : rowF c.length (fun j => if j = k then cs d (i + 1) k else fo d i k j) = rowF c.length (fo d i (k + 1)) := rowF_congr (fun j hj => by
      unfold fo
      by_cases z : j = k
      · subst z; rw [if_pos rfl, if_pos (by omega)]
      · rw [if_neg z]
        by_cases y : j < k
        · rw [if_pos y, if_pos (by omega)]
        · rw [if_neg y, if_neg (by omega)])
    rw [this]
    exact ih (k + 1) (by omega) (by omega)
theorem od_l0 (h : BookP c d) : ∀ (e i : Nat), c.length - i = e → i ≤ c.length → Ev (fun n => impl_owed.l0 n (rowF c.length (fo d i 0)) d (d.length : Int) (i : Int)) (rowF c.length (cs d c.length)) := by
  have hdl := h.2.2.1
  intro e
  induction e with
  | zero =>
    intro i he hi
    obtain rfl : i = c.length := by omega
    refine Ev.step (fun n => by rw [impl_owed.l0]) ?_
    exact evNeg (by omega) (evEq (Ev.now _) (rowF_congr (fun j _ => by unfold fo; rw [if_neg (by omega)])))
  | succ e ih =>
    intro i he hi
    refine Ev.step (fun n => by rw [impl_owed.l0]) ?_
    refine evPos (by omega) (evPos (by omega) (evPos (by omega) ?_))
    exact od_l1 h (by omega) (ih (i + 1) (by omega) (by omega)) _ 0 rfl (by omega)
theorem owed (h : BookP c d) : Ev (fun n => impl_owed.f n c d) (rowF c.length (cs d c.length)) := by
  have h4 := h.2.1
  unfold impl_owed.f
  refine evPos (by omega) (evPos (by omega) ?_)
  have : List.replicate c.length (0 : Int) = rowF c.length (fo d 0 0) := by
    apply List.ext_getElem (by simp [rowF])
    intro k h1 h2
    simp [rowF, fo, cs]
  rw [Int.toNat_natCast, this]
  exact od_l0 h _ 0 rfl (by omega)
def nt (c : List Int) (d : List (List Int)) (j : Nat) : Int := cs d c.length j - ow c d j
def fn (c : List Int) (d : List (List Int)) (k j : Nat) : Int := if j < k then nt c d j else cs d c.length j
theorem ne_l (h : BookP c d) : ∀ (e k : Nat), c.length - k = e → k ≤ c.length → Ev (fun n => impl_nets.l0 n (rowF c.length (fn c d k)) (owes c d) ((owes c d).length : Int) (k : Int)) (rowF c.length (nt c d)) := by
  have h4 := h.2.1
  have hol := owes_len c d
  intro e
  induction e with
  | zero =>
    intro k he hk
    obtain rfl : k = c.length := by omega
    refine Ev.step (fun n => by rw [impl_nets.l0]) ?_
    exact evNeg (by omega) (evEq (Ev.now _) (rowF_congr (fun j hj => by unfold fn; rw [if_pos hj])))
  | succ e ih =>
    intro k he hk
    have hlt : k < c.length := by omega
    have hk1 : Aside0 (wrap64 ((k : Int) + 1) = ((k + 1 : Nat) : Int)) := ⟨wsucc hlt (by omega)⟩
    have b1 := cs_bd h hlt c.length (by omega)
    have b2 := ow_bd h hlt
    have hfl := rowF_len c.length (fn c d k)
    have hw : wrap64 (rd (rowF c.length (fn c d k)) (k : Int) - rd (owes c d) (k : Int)) = nt c d k := by
      rw [rd_rowF hlt, rd_owes hlt]
      have : fn c d k k = cs d c.length k := by unfold fn; rw [if_neg (by omega)]
      rw [this, w64 (by omega) (by omega)]
      rfl
    refine Ev.step (fun n => by rw [impl_nets.l0]) ?_
    rw [hk1.out, hw, Int.toNat_natCast, rowF_set hlt]
    refine evPos (by omega) (evPos (by omega) (evPos (by omega) (evPos (by omega) ?_)))
    have : rowF c.length (fun j => if j = k then nt c d k else fn c d k j) = rowF c.length (fn c d (k + 1)) := rowF_congr (fun j hj => by
      unfold fn
      by_cases z : j = k
      · subst z; rw [if_pos rfl, if_pos (by omega)]
      · rw [if_neg z]
        by_cases y : j < k
        · rw [if_pos y, if_pos (by omega)]
        · rw [if_neg y, if_neg (by omega)])
    rw [this]
    exact ih (k + 1) (by omega) (by omega)
theorem nets (h : BookP c d) : Ev (fun n => impl_NetsOf.f n c d) (rowF c.length (nt c d)) := by
  unfold impl_NetsOf.f impl_nets.f
  refine Ev.bind ((isBook c d).yes h) (evPos rfl (Ev.bind (Ev.bind (owed h) (Ev.bind (iowes h) ?_)) (Ev.now _)))
  have : rowF c.length (cs d c.length) = rowF c.length (fn c d 0) := rowF_congr (fun j _ => by unfold fn; rw [if_neg (by omega)])
  rw [this]
  exact ne_l h _ 0 rfl (by omega)
theorem so_bd (h : BookP c d) : ∀ m : Nat, m ≤ c.length → 0 ≤ sm (owes c d) m ∧ sm (owes c d) m ≤ 36 * m
  | 0, _ => by simp [sm]
  | m + 1, hm => by
    have ih := so_bd h m (by omega)
    have := ow_bd h (show m < c.length by omega)
    simp only [sm]
    rw [rd_owes (by omega)]
    omega
theorem ad_l (h : BookP c d) : ∀ (e k : Nat), c.length - k = e → k ≤ c.length → Ev (fun n => impl_AllDebts.l0 n (sm (owes c d) k) (owes c d) ((owes c d).length : Int) (k : Int)) (sm (owes c d) c.length) := by
  have h4 := h.2.1
  have hol := owes_len c d
  intro e
  induction e with
  | zero =>
    intro k he hk
    obtain rfl : k = c.length := by omega
    refine Ev.step (fun n => by rw [impl_AllDebts.l0]) ?_
    exact evNeg (by omega) (Ev.now _)
  | succ e ih =>
    intro k he hk
    have hlt : k < c.length := by omega
    have hk1 : Aside0 (wrap64 ((k : Int) + 1) = ((k + 1 : Nat) : Int)) := ⟨wsucc hlt (by omega)⟩
    have b1 := so_bd h k (by omega)
    have b2 := so_bd h (k + 1) (by omega)
    have hw : wrap64 (sm (owes c d) k + rd (owes c d) (k : Int)) = sm (owes c d) (k + 1) := by
      have : sm (owes c d) k + rd (owes c d) (k : Int) = sm (owes c d) (k + 1) := rfl
      rw [this, w64 (by omega) (by omega)]
    refine Ev.step (fun n => by rw [impl_AllDebts.l0]) ?_
    rw [hk1.out, hw]
    exact evPos (by omega) (evPos (by omega) (evPos (by omega) (ih (k + 1) (by omega) (by omega))))
theorem allDebts (h : BookP c d) : Ev (fun n => impl_AllDebts.f n c d) (sm (owes c d) c.length) := by
  unfold impl_AllDebts.f
  exact Ev.bind ((isBook c d).yes h) (evPos rfl (Ev.bind (iowes h) (ad_l h _ 0 rfl (by omega))))
end Go.Proofs.Ytfooakkhkehpiaa.Ne
namespace Go.Proofs.Ytfooakkhkehpiaa.Cr
open Go.RowKit Go.Proofs.Ytfooakkhkehpiaa.PU Go.Proofs.Ytfooakkhkehpiaa.Qh Go.Proofs.Ytfooakkhkehpiaa.Bk Go.Proofs.Ytfooakkhkehpiaa.Mx Go.Proofs.YtfooakkhkehpiaaW.PrintWords Go.Proofs.YtfooakkhkehpiaaW.PrintMore
set_option linter.unusedVariables false
set_option linter.unusedSimpArgs false
theorem wpred {n : Nat} (h : 0 < n) (hn : n ≤ 4611686018427387904) : wrap64 ((n : Int) - 1) = ((n - 1 : Nat) : Int) := by rw [w64 (by omega) (by omega)]; omega
def la (p : List Int) : Int := rd p ((p.length - 1 : Nat) : Int)
def self (d : List (List Int)) (p : List Int) : List (List Int) := if 1 < p.length ∧ 0 < rd (rd_L1 d (la p)) (rd p 0) then [p] else []
def rest (F : List Int → List (List Int)) (d : List (List Int)) (p : List Int) : Nat → Nat → List (List Int)
  | 0, _ => []
  | e + 1, j => (if rd (rd_L1 d (la p)) (j : Int) = 0 ∨ (j : Int) ∈ p then [] else F (p ++ [(j : Int)])) ++ rest F d p e (j + 1)
def P (n : Nat) (d : List (List Int)) : Nat → List Int → List (List Int)
  | 0, _ => []
  | m + 1, p => self d p ++ rest (P n d m) d p (n - ((rd p 0).toNat + 1)) ((rd p 0).toNat + 1)
def PathP (n : Nat) (d : List (List Int)) (p : List Int) : Prop :=
  0 < p.length ∧ p.Nodup ∧ (∀ x ∈ p, rd p 0 ≤ x ∧ 0 ≤ x ∧ x < (n : Int)) ∧ ∀ i : Nat, i + 1 < p.length → 0 < rd (rd_L1 d (rd p (i : Int))) (rd p ((i + 1 : Nat) : Int))
theorem pigeon : ∀ (n : Nat) (p : List Int), p.Nodup → (∀ x ∈ p, 0 ≤ x ∧ x < (n : Int)) → p.length ≤ n
  | 0, p, _, h => by
    cases p with
    | nil => simp
    | cons a r => have := h a List.mem_cons_self; omega
  | n + 1, p, hd, h => by
    by_cases hm : (n : Int) ∈ p
    · have h1 := pigeon n (p.erase (n : Int)) (hd.erase _) (fun x hx => by
        have h2 := h x (List.mem_of_mem_erase hx)
        have h3 : x ≠ (n : Int) := (List.Nodup.mem_erase_iff hd).1 hx |>.1
        omega)
      have h2 := List.length_erase_of_mem hm
      omega
    · have h1 := pigeon n p hd (fun x hx => by
        have h2 := h x hx
        have h3 : x ≠ (n : Int) := fun e => hm (e ▸ hx)
        omega)
      omega
theorem rd_mem {p : List Int} {i : Nat} (h : i < p.length) : rd p (i : Int) ∈ p := by rw [rd_get p i h]; exact List.getElem_mem h
theorem mem_rd {p : List Int} {x : Int} (h : x ∈ p) : ∃ i : Nat, i < p.length ∧ rd p (i : Int) = x := by
  obtain ⟨i, hi, e⟩ := List.mem_iff_getElem.mp h
  exact ⟨i, hi, by rw [rd_get p i hi]; exact e⟩
theorem rd0 (p : List Int) : rd p 0 = rd p ((0 : Nat) : Int) := rfl
theorem la_mem {p : List Int} (h : 0 < p.length) : la p ∈ p := rd_mem (by omega)
section
variable {n : Nat} {d : List (List Int)} {p : List Int}
theorem PathP.len (h : PathP n d p) : p.length ≤ n := pigeon n p h.2.1 (fun x hx => (h.2.2.1 x hx).2)
theorem PathP.head (h : PathP n d p) : 0 ≤ rd p 0 ∧ rd p 0 < (n : Int) := by
  have := h.2.2.1 (rd p 0) (by rw [rd0]; exact rd_mem h.1)
  exact ⟨this.2.1, this.2.2⟩
theorem PathP.last (h : PathP n d p) : 0 ≤ la p ∧ la p < (n : Int) := by
  have := h.2.2.1 (la p) (la_mem h.1)
  exact ⟨this.2.1, this.2.2⟩
theorem PathP.one {i : Nat} (hi : i < n) : PathP n d [(i : Int)] :=
  ⟨by simp, by simp, fun x hx => by rw [List.mem_singleton.1 hx]; exact ⟨Int.le_refl _, by omega, by omega⟩, fun k hk => by simp at hk⟩
theorem PathP.snoc (h : PathP n d p) {j : Nat} (hj : rd p 0 < (j : Int)) (hn : j < n) (hm : (j : Int) ∉ p) (he : 0 < rd (rd_L1 d (la p)) (j : Int)) : PathP n d (p ++ [(j : Int)]) := by
  have h0 : rd (p ++ [(j : Int)]) 0 = rd p 0 := by rw [rd0, rd_app, if_pos h.1]; rfl
  refine ⟨by simp, ?_, fun x hx => ?_, fun i hi => ?_⟩
  · rw [List.nodup_append]
    exact ⟨h.2.1, by simp, fun a ha b hb e => hm (by rw [List.mem_singleton.1 hb] at e; exact e ▸ ha)⟩
  · rw [h0]
    rcases List.mem_append.1 hx with hx | hx
    · exact h.2.2.1 x hx
    · rw [List.mem_singleton.1 hx]; exact ⟨by omega, by omega, by omega⟩
  · rw [List.length_append, List.length_singleton] at hi
    rw [rd_app, rd_app, if_pos (by omega)]
    by_cases hl : i + 1 < p.length
    · rw [if_pos hl]; exact h.2.2.2 i hl
    · rw [if_neg hl, if_pos (by omega)]
      have : i = p.length - 1 := by omega
      rw [this]
      exact he
end
def CirP (n : Nat) (d : List (List Int)) (q : List Int) : Prop := PathP n d q ∧ 1 < q.length ∧ 0 < rd (rd_L1 d (la q)) (rd q 0)
theorem mem_rest {F : List Int → List (List Int)} {d : List (List Int)} {p : List Int} {y : List Int} : ∀ (e j : Nat), y ∈ rest F d p e j → ∃ j' : Nat, j ≤ j' ∧ j' < j + e ∧ rd (rd_L1 d (la p)) (j' : Int) ≠ 0 ∧ (j' : Int) ∉ p ∧ y ∈ F (p ++ [(j' : Int)])
  | 0, j, h => by simp [rest] at h
  | e + 1, j, h => by
    rw [rest] at h
    rcases List.mem_append.1 h with h | h
    · by_cases hc : rd (rd_L1 d (la p)) (j : Int) = 0 ∨ (j : Int) ∈ p
      · rw [if_pos hc] at h; simp at h
      · rw [if_neg hc] at h
        exact ⟨j, by omega, by omega, fun z => hc (.inl z), fun z => hc (.inr z), h⟩
    · obtain ⟨j', h1, h2, h3⟩ := mem_rest e (j + 1) h
      exact ⟨j', by omega, by omega, h3⟩
theorem row_ge {c : List Int} {d : List (List Int)} (h : BookP c d) {i j : Int} (hi : 0 ≤ i ∧ i < (c.length : Int)) (hj : 0 ≤ j ∧ j < (c.length : Int)) : 0 ≤ rd (rd_L1 d i) j ∧ rd (rd_L1 d i) j ≤ 9 := by
  obtain ⟨i, rfl⟩ := Int.eq_ofNat_of_zero_le hi.1
  obtain ⟨j, rfl⟩ := Int.eq_ofNat_of_zero_le hj.1
  exact (h.2.2.2 i (by omega)).2.2.2.2 j (by omega)
theorem row_len {c : List Int} {d : List (List Int)} (h : BookP c d) {i : Int} (hi : 0 ≤ i ∧ i < (c.length : Int)) : (rd_L1 d i).length = c.length := by
  obtain ⟨i, rfl⟩ := Int.eq_ofNat_of_zero_le hi.1
  exact (h.2.2.2 i (by omega)).2.2.1
theorem mem_P {c : List Int} {d : List (List Int)} (h : BookP c d) {y : List Int} : ∀ (m : Nat) (p : List Int), PathP c.length d p → y ∈ P c.length d m p → CirP c.length d y
  | 0, p, _, hy => by simp [P] at hy
  | m + 1, p, hp, hy => by
    rw [P] at hy
    rcases List.mem_append.1 hy with hy | hy
    · unfold self at hy
      by_cases hc : 1 < p.length ∧ 0 < rd (rd_L1 d (la p)) (rd p 0)
      · rw [if_pos hc] at hy
        rw [List.mem_singleton.1 hy]
        exact ⟨hp, hc.1, hc.2⟩
      · rw [if_neg hc] at hy; simp at hy
    · obtain ⟨j, h1, h2, h3, h4, h5⟩ := mem_rest _ _ hy
      have hh := hp.head
      have hjn : j < c.length := by omega
      have hge := row_ge h hp.last (j := (j : Int)) ⟨by omega, by omega⟩
      exact mem_P h m _ (hp.snoc (by omega) hjn h4 (by omega)) h5
theorem rest_len {F : List Int → List (List Int)} {d : List (List Int)} {p : List Int} {B : Nat} (hF : ∀ q, (F q).length ≤ B) : ∀ (e j : Nat), (rest F d p e j).length ≤ e * B
  | 0, j => by simp [rest]
  | e + 1, j => by
    have ih := rest_len hF (d := d) (p := p) e (j + 1)
    rw [rest, List.length_append, Nat.succ_mul]
    have : (if rd (rd_L1 d (la p)) (j : Int) = 0 ∨ (j : Int) ∈ p then [] else F (p ++ [(j : Int)])).length ≤ B := by
      split
      · simp
      · exact hF _
    omega
theorem P_len {n : Nat} (hn : n ≤ 4) (d : List (List Int)) : ∀ (m : Nat) (p : List Int), (P n d m p).length ≤ 5 ^ m
  | 0, p => by simp [P]
  | m + 1, p => by
    have h1 := rest_len (P_len hn d m) (d := d) (p := p) (n - ((rd p 0).toNat + 1)) ((rd p 0).toNat + 1)
    have h2 : (self d p).length ≤ 1 := by unfold self; split <;> simp
    have h3 : (n - ((rd p 0).toNat + 1)) * 5 ^ m ≤ 4 * 5 ^ m := Nat.mul_le_mul_right _ (by omega)
    have h4 : 1 ≤ 5 ^ m := Nat.one_le_pow _ _ (by omega)
    rw [P, List.length_append, Nat.pow_succ]
    omega
theorem inL (p : List Int) (j : Int) (i : Nat) (h : ∀ i' : Nat, i' < i → rd p (i' : Int) ≠ j) (hi : p.length ≤ i) : j ∉ p := fun hm => by
  obtain ⟨k, hk, e⟩ := mem_rd hm
  exact h k (by omega) e
section
variable {c : List Int} {d : List (List Int)}
theorem paths (h : BookP c d) : ∀ (m : Nat) (p : List Int), PathP c.length d p → c.length + 1 ≤ m + p.length → m ≤ 4 → Ev (fun k => spec_l3Paths.f k c d p) (P c.length d m p)
  | 0, p, hp, hm, _ => by have := hp.len; omega
  | m + 1, p, hp, hm, hm4 => by
    have h4 := h.2.1
    have hdl := h.2.2.1
    have hpl := hp.len
    have hp0 := hp.1
    have hh := hp.head
    have hl := hp.last
    have hrl := row_len h hl
    have hlw : Aside0 (wrap64 ((p.length : Int) - 1) = ((p.length - 1 : Nat) : Int)) := ⟨wpred hp0 (by omega)⟩
    have hla : rd p ((p.length - 1 : Nat) : Int) = la p := rfl
    have h5 : 5 ^ m ≤ 125 := by
      have : m ≤ 3 := by omega
      calc 5 ^ m ≤ 5 ^ 3 := Nat.pow_le_pow_right (by omega) this
        _ = 125 := rfl
    obtain ⟨a, ha⟩ := Int.eq_ofNat_of_zero_le hh.1
    have haw : Aside0 (wrap64 (rd p 0 + 1) = ((a + 1 : Nat) : Int)) := ⟨by rw [ha]; exact wsucc (n := c.length) (by omega) (by omega)⟩
    -- the banks that may follow
    have loop : ∀ (e j : Nat) (acc : List (List Int)), c.length - j = e → j ≤ c.length → a < j → acc.length + e * 5 ^ m ≤ 1000 → Ev (fun k => spec_l3Paths.l0 k p acc (la p) (j : Int) c d) (acc ++ rest (P c.length d m) d p e j) := by
      intro e
      induction e with
      | zero =>
        intro j acc he hj _ _
        refine Ev.step (fun k => by rw [spec_l3Paths.l0]) ?_
        exact evNeg (by omega) (evEq (Ev.now _) (by simp [rest]))
      | succ e ih =>
        intro j acc he hj haj hacc
        have hlt : j < c.length := by omega
        have hj1 : Aside0 (wrap64 ((j : Int) + 1) = ((j + 1 : Nat) : Int)) := ⟨wsucc hlt (by omega)⟩
        have hmul : acc.length + (e * 5 ^ m + 5 ^ m) ≤ 1000 := by have z := hacc; rw [Nat.succ_mul] at z; exact z
        have h1p : 1 ≤ 5 ^ m := Nat.one_le_pow _ _ (by omega)
        refine Ev.step (fun k => by rw [spec_l3Paths.l0]) ?_
        rw [hj1.out]
        refine evPos (by omega) (evPos hl.1 (evPos (by omega) (evPos (by omega) (evPos (by omega) ?_))))
        by_cases hz : rd (rd_L1 d (la p)) (j : Int) = 0
        · refine evPos hz (evEq (ih (j + 1) acc (by omega) (by omega) (by omega) (by omega)) ?_)
          rw [rest, if_pos (.inl hz), List.nil_append]
        · refine evNeg hz ?_
          have inner : ∀ (f i : Nat), p.length - i = f → i ≤ p.length → (∀ i' : Nat, i' < i → rd p (i' : Int) ≠ (j : Int)) → Ev (fun k => spec_l3Paths.l1 k p acc (la p) (j : Int) (i : Int) c d) (acc ++ rest (P c.length d m) d p (e + 1) j) := by
            intro f
            induction f with
            | zero =>
              intro i hf hi hno
              have hmem := inL p (j : Int) i hno (by omega)
              have hge := row_ge h hl (j := (j : Int)) ⟨by omega, by omega⟩
              have hps := hp.snoc (j := j) (by omega) hlt hmem (by omega)
              refine Ev.step (fun k => by rw [spec_l3Paths.l1]) ?_
              rw [hj1.out]
              refine evNeg (by omega) (evBind0 rfl (evPos (by simp; omega) (evBind0 rfl (evBind0 rfl (evPos (by simp; omega) ?_)))))
              rw [List.nil_append]
              have hlen : (p ++ [(j : Int)]).length = p.length + 1 := by simp
              have hPl := P_len h4 d m (p ++ [(j : Int)])
              refine Ev.bind (paths h m _ hps (by omega) (by omega)) (evPos (by omega) ?_)
              refine evEq (ih (j + 1) _ (by omega) (by omega) (by omega) (by rw [List.length_append]; omega)) ?_
              rw [rest, if_neg (fun z => z.elim hz hmem), List.append_assoc]
            | succ f ih2 =>
              intro i hf hi hno
              have hi1 : Aside0 (wrap64 ((i : Int) + 1) = ((i + 1 : Nat) : Int)) := ⟨wsucc (n := p.length) (by omega) (by omega)⟩
              refine Ev.step (fun k => by rw [spec_l3Paths.l1]) ?_
              rw [hj1.out, hi1.out]
              refine evPos (by omega) (evPos (by omega) ?_)
              by_cases hij : rd p (i : Int) = (j : Int)
              · refine evPos hij (evEq (ih (j + 1) acc (by omega) (by omega) (by omega) (by omega)) ?_)
                rw [rest, if_pos (.inr (hij ▸ rd_mem (by omega))), List.nil_append]
              · refine evNeg hij (ih2 (i + 1) (by omega) (by omega) (fun i' hi' => ?_))
                by_cases e' : i' = i
                · subst e'; exact hij
                · exact hno i' (by omega)
          exact inner p.length 0 rfl (by omega) (fun i' hi' => by omega)
    have ha' : (rd p 0).toNat = a := by rw [ha]; rfl
    have he4 : (c.length - (a + 1)) * 5 ^ m ≤ 3 * 5 ^ m := Nat.mul_le_mul_right _ (by omega)
    have tail : ∀ acc : List (List Int), acc.length ≤ 1 → Ev (fun k => spec_l3Paths.j1 k p acc (la p) c d) (acc ++ rest (P c.length d m) d p (c.length - ((rd p 0).toNat + 1)) ((rd p 0).toNat + 1)) := by
      intro acc hacc
      refine Ev.step (fun k => by rw [spec_l3Paths.j1]) ?_
      rw [haw.out, ha']
      refine evPos (by omega) (loop _ (a + 1) acc rfl (by omega) (by omega) (by omega))
    refine Ev.step (fun k => by rw [spec_l3Paths.f]) ?_
    rw [hlw.out, hla]
    refine evBind0 rfl (evPos (by omega) (evPos (by omega) ?_))
    rw [P]
    by_cases h1 : 1 < p.length
    · refine evPos (by omega) (evPos hl.1 (evPos (by omega) (evPos (by omega) (evPos hh.1 (evPos (by omega) ?_)))))
      refine Ev.step (fun k => by rw [spec_l3Paths.j0]) ?_
      by_cases hc : 0 < rd (rd_L1 d (la p)) (rd p 0)
      · refine evPos (decide_eq_true (by omega)) (evBind0 rfl (evPos (by simp; omega) (evBind0 rfl (evPos (by simp) ?_))))
        rw [List.nil_append, List.nil_append]
        have : self d p = [p] := if_pos ⟨h1, hc⟩
        rw [this]
        exact tail [p] (by simp)
      · refine evNeg (by simpa using hc) ?_
        have : self d p = [] := if_neg (fun z => hc z.2)
        rw [this]
        exact tail [] (by simp)
    · refine evNeg (by omega) ?_
      refine Ev.step (fun k => by rw [spec_l3Paths.j0]) ?_
      refine evNeg (by decide) ?_
      have : self d p = [] := if_neg (fun z => h1 z.1)
      rw [this]
      exact tail [] (by simp)
end
def lexlt : List Int → List Int → Bool
  | a :: r, b :: s => if a = b then lexlt r s else decide (a < b)
  | _, _ => false
def bef (a b : List Int) : Bool := if a.length = b.length then lexlt a b else decide (a.length < b.length)
theorem before (a b : List Int) (ha : a.length ≤ 4611686018427387904) : Ev (fun k => spec_l3Before.f k a b) (bef a b) := by
  unfold spec_l3Before.f bef
  by_cases hl : a.length = b.length
  · rw [if_pos hl]
    refine evPos (by omega) ?_
    have key : ∀ (e i : Nat), a.length - i = e → i ≤ a.length → Ev (fun k => spec_l3Before.l0 k a b (i : Int)) (lexlt (a.drop i) (b.drop i)) := by
      intro e
      induction e with
      | zero =>
        intro i he hi
        refine Ev.step (fun k => by rw [spec_l3Before.l0]) ?_
        rw [List.drop_of_length_le (by omega)]
        exact evNeg (by omega) (evEq (Ev.now _) (by simp [lexlt]))
      | succ e ih =>
        intro i he hi
        have hi1 : Aside0 (wrap64 ((i : Int) + 1) = ((i + 1 : Nat) : Int)) := ⟨wsucc (n := a.length) (by omega) ha⟩
        refine Ev.step (fun k => by rw [spec_l3Before.l0]) ?_
        rw [hi1.out]
        refine evPos (by omega) (evPos (by omega) (evPos (by omega) ?_))
        rw [drop_rd a i (by omega), drop_rd b i (by omega), lexlt]
        by_cases hc : rd a (i : Int) = rd b (i : Int)
        · rw [if_pos hc]; exact evPos hc (ih (i + 1) (by omega) (by omega))
        · rw [if_neg hc]; exact evNeg hc (Ev.now _)
    have := key a.length 0 rfl (by omega)
    simpa using this
  · rw [if_neg hl]
    refine evNeg (by omega) (evEq (Ev.now _) ?_)
    rw [decide_eq_decide]; omega
def ins (lt : List Int → List Int → Bool) : Nat → List (List Int) → List (List Int)
  | 0, xs => xs
  | j + 1, xs => if lt (xs.getD (j + 1) []) (xs.getD j []) = true then ins lt j ((xs.set (j + 1) (xs.getD j [])).set j (xs.getD (j + 1) [])) else xs
def srt (lt : List Int → List Int → Bool) : Nat → Nat → List (List Int) → List (List Int)
  | 0, _, xs => xs
  | e + 1, i, xs => srt lt e (i + 1) (ins lt i xs)
theorem ins_len (lt : List Int → List Int → Bool) : ∀ (j : Nat) (xs : List (List Int)), (ins lt j xs).length = xs.length
  | 0, xs => rfl
  | j + 1, xs => by
    rw [ins]; split
    · rw [ins_len]; simp
    · rfl
theorem ins_mem (lt : List Int → List Int → Bool) {y : List Int} : ∀ (j : Nat) (xs : List (List Int)), j < xs.length → y ∈ ins lt j xs → y ∈ xs
  | 0, xs, _, h => h
  | j + 1, xs, hj, h => by
    rw [ins] at h; split at h
    · have h1 := ins_mem lt j _ (by simp; omega) h
      rcases List.mem_or_eq_of_mem_set h1 with h2 | h2
      · rcases List.mem_or_eq_of_mem_set h2 with h3 | h3
        · exact h3
        · rw [h3]; exact getD_mem [] xs j (by omega)
      · rw [h2]; exact getD_mem [] xs (j + 1) hj
    · exact h
theorem srt_len (lt : List Int → List Int → Bool) : ∀ (e i : Nat) (xs : List (List Int)), (srt lt e i xs).length = xs.length
  | 0, _, xs => rfl
  | e + 1, i, xs => by rw [srt, srt_len, ins_len]
theorem srt_mem (lt : List Int → List Int → Bool) {y : List Int} : ∀ (e i : Nat) (xs : List (List Int)), i + e ≤ xs.length → y ∈ srt lt e i xs → y ∈ xs
  | 0, _, xs, _, h => h
  | e + 1, i, xs, hi, h => by
    rw [srt] at h
    exact ins_mem lt i xs (by omega) (srt_mem lt e (i + 1) _ (by rw [ins_len]; omega) h)
def found (n : Nat) (d : List (List Int)) : Nat → Nat → List (List Int)
  | 0, _ => []
  | e + 1, i => P n d 4 [(i : Int)] ++ found n d e (i + 1)
theorem found_len {n : Nat} (hn : n ≤ 4) (d : List (List Int)) : ∀ (e i : Nat), (found n d e i).length ≤ e * 625
  | 0, i => by simp [found]
  | e + 1, i => by
    have h1 := P_len hn d 4 [(i : Int)]
    have h2 := found_len hn d e (i + 1)
    rw [found, List.length_append, Nat.succ_mul]; omega
def circ (c : List Int) (d : List (List Int)) : List (List Int) := srt bef ((found c.length d c.length 0).length - 1) 1 (found c.length d c.length 0)
section
variable {c : List Int} {d : List (List Int)}
theorem mem_found (h : BookP c d) {y : List Int} : ∀ (e i : Nat), i + e = c.length → y ∈ found c.length d e i → CirP c.length d y
  | 0, i, _, hy => by simp [found] at hy
  | e + 1, i, hi, hy => by
    rw [found] at hy
    rcases List.mem_append.1 hy with hy | hy
    · exact mem_P h 4 _ (PathP.one (by omega)) hy
    · exact mem_found h e (i + 1) (by omega) hy
theorem circ_len (c : List Int) (d : List (List Int)) : (circ c d).length = (found c.length d c.length 0).length := srt_len _ _ _ _
theorem mem_circ (h : BookP c d) {y : List Int} (hy : y ∈ circ c d) : CirP c.length d y := by
  by_cases h0 : (found c.length d c.length 0).length = 0
  · have := circ_len c d
    rw [h0, List.length_eq_zero_iff] at this
    rw [this] at hy; simp at hy
  · exact mem_found h c.length 0 (by omega) (srt_mem bef _ 1 _ (by omega) hy)
theorem sort_l2 {r : List (List Int)} (n : Nat) (hn : n ≤ 100000) (x5 : Int) (hrow : Nat) (hr4 : hrow ≤ 4611686018427387904) : ∀ (j : Nat) (xs : List (List Int)), j < xs.length → xs.length = n → (∀ y ∈ xs, y.length ≤ hrow) →
    Ev (fun k => spec_CirclesOf.l1 k (ins bef j xs) (wrap64 (x5 + 1))) r → Ev (fun k => spec_CirclesOf.l2 k xs x5 (j : Int)) r
  | 0, xs, hj, hxn, hrw, hR => by
    refine Ev.step (fun k => by rw [spec_CirclesOf.l2]) ?_
    exact evNeg (by omega) hR
  | j + 1, xs, hj, hxn, hrw, hR => by
    have hj1 : Aside0 (wrap64 (((j + 1 : Nat) : Int) - 1) = (j : Int)) := ⟨by rw [w64 (by omega) (by omega)]; omega⟩
    refine Ev.step (fun k => by rw [spec_CirclesOf.l2]) ?_
    rw [hj1.out]
    refine evPos (by omega) (evPos (by omega) (evPos (by omega) (evPos (by omega) (evPos (by omega) ?_))))
    have e1 : rd_L1 xs ((j + 1 : Nat) : Int) = xs.getD (j + 1) [] := rfl
    have e2 : rd_L1 xs (j : Int) = xs.getD j [] := rfl
    rw [e1, e2]
    have m1 := hrw _ (getD_mem [] xs (j + 1) hj)
    have m2 := hrw _ (getD_mem [] xs j (by omega))
    refine Ev.bind (before _ _ (by omega)) ?_
    rw [ins] at hR
    by_cases hb : bef (xs.getD (j + 1) []) (xs.getD j []) = true
    · rw [if_pos hb] at hR
      refine evPos hb ?_
      refine sort_l2 n hn x5 hrow hr4 j _ (by simp; omega) (by simp [hxn]) (fun y hy => ?_) hR
      rcases List.mem_or_eq_of_mem_set hy with h2 | h2
      · rcases List.mem_or_eq_of_mem_set h2 with h3 | h3
        · exact hrw y h3
        · rw [h3]; exact m2
      · rw [h2]; exact m1
    · rw [if_neg hb] at hR
      exact evNeg hb hR
theorem sort_l1 (n : Nat) (hn : n ≤ 100000) (hrow : Nat) (hr4 : hrow ≤ 4611686018427387904) : ∀ (e i : Nat) (xs : List (List Int)), xs.length = n → n - i = e → (∀ y ∈ xs, y.length ≤ hrow) → Ev (fun k => spec_CirclesOf.l1 k xs (i : Int)) (srt bef e i xs)
  | 0, i, xs, hxn, he, hrw => by
    refine Ev.step (fun k => by rw [spec_CirclesOf.l1]) ?_
    exact evNeg (by omega) (Ev.now _)
  | e + 1, i, xs, hxn, he, hrw => by
    have hi1 : wrap64 ((i : Int) + 1) = ((i + 1 : Nat) : Int) := wsucc (n := n) (by omega) (by omega)
    refine Ev.step (fun k => by rw [spec_CirclesOf.l1]) ?_
    refine evPos (by omega) ?_
    refine sort_l2 n hn (i : Int) hrow hr4 i xs (by omega) hxn hrw ?_
    rw [hi1, srt]
    exact sort_l1 n hn hrow hr4 e (i + 1) _ (by rw [ins_len, hxn]) (by omega) (fun y hy => hrw y (ins_mem bef i xs (by omega) hy))
theorem sCircles (h : BookP c d) : Ev (fun k => spec_CirclesOf.f k c d) (circ c d) := by
  have h4 := h.2.1
  unfold spec_CirclesOf.f circ
  have key : ∀ (e i : Nat) (acc : List (List Int)), c.length - i = e → i ≤ c.length → acc.length ≤ i * 625 → acc ++ found c.length d e i = found c.length d c.length 0 → Ev (fun k => spec_CirclesOf.l0 k acc (i : Int) c d) (srt bef ((found c.length d c.length 0).length - 1) 1 (found c.length d c.length 0)) := by
    intro e
    induction e with
    | zero =>
      intro i acc he hi hacc hE
      refine Ev.step (fun k => by rw [spec_CirclesOf.l0]) ?_
      refine evNeg (by omega) (Ev.step (fun k => by rw [spec_CirclesOf.j1]) ?_)
      rw [found, List.append_nil] at hE
      have hfl := found_len h4 d c.length 0
      rw [hE]
      exact sort_l1 (found c.length d c.length 0).length (by omega) c.length (by omega) _ 1 _ rfl rfl (fun y hy => (mem_found h c.length 0 (by omega) hy).1.len)
    | succ e ih =>
      intro i acc he hi hacc hE
      have hlt : i < c.length := by omega
      have hi1 : Aside0 (wrap64 ((i : Int) + 1) = ((i + 1 : Nat) : Int)) := ⟨wsucc hlt (by omega)⟩
      have hPl := P_len h4 d 4 [(i : Int)]
      refine Ev.step (fun k => by rw [spec_CirclesOf.l0]) ?_
      rw [hi1.out]
      refine evPos (by omega) (Ev.bind ((bookOk c d).yes h) (evPos rfl (Ev.bind (paths h 4 _ (PathP.one hlt) (by simp; omega) (by omega)) (evPos (by omega) ?_))))
      refine ih (i + 1) _ (by omega) (by omega) (by rw [List.length_append, Nat.succ_mul]; omega) ?_
      rw [List.append_assoc]
      rw [found] at hE
      exact hE
  exact key c.length 0 [] rfl (by omega) (by simp) (by simp)
end
end Go.Proofs.Ytfooakkhkehpiaa.Cr
namespace Go.Proofs.Ytfooakkhkehpiaa.Sk
open Go.RowKit Go.Proofs.Ytfooakkhkehpiaa.PU Go.Proofs.Ytfooakkhkehpiaa.Qh Go.Proofs.Ytfooakkhkehpiaa.Bk Go.Proofs.Ytfooakkhkehpiaa.Mx Go.Proofs.Ytfooakkhkehpiaa.Cr Go.Proofs.YtfooakkhkehpiaaW.PrintWords Go.Proofs.YtfooakkhkehpiaaW.PrintMore
set_option linter.unusedVariables false
set_option linter.unusedSimpArgs false
theorem mn_le (a b : Int) : mn a b ≤ a ∧ mn a b ≤ b ∧ (mn a b = a ∨ mn a b = b) := by
  unfold mn
  split <;> omega
def nx (q : List Int) (k : Nat) : Nat := (k + 1) % q.length
def edge (d : List (List Int)) (q : List Int) (k : Nat) : Int := rd (rd_L1 d (rd q (k : Int))) (rd q ((nx q k : Nat) : Int))
def low (d : List (List Int)) (q : List Int) : Nat → Nat → Int → Int
  | 0, _, x => x
  | e + 1, k, x => low d q e (k + 1) (mn x (edge d q k))
theorem low_le (d : List (List Int)) (q : List Int) : ∀ (e k : Nat) (x : Int), low d q e k x ≤ x ∧ (∀ i, k ≤ i → i < k + e → low d q e k x ≤ edge d q i) ∧ (low d q e k x = x ∨ ∃ i, k ≤ i ∧ i < k + e ∧ low d q e k x = edge d q i)
  | 0, k, x => ⟨Int.le_refl _, fun i _ _ => by omega, .inl rfl⟩
  | e + 1, k, x => by
    obtain ⟨h1, h2, h3⟩ := low_le d q e (k + 1) (mn x (edge d q k))
    obtain ⟨m1, m2, m3⟩ := mn_le x (edge d q k)
    refine ⟨by rw [low]; omega, fun i hi hi2 => ?_, ?_⟩
    · rw [low]
      by_cases e' : i = k
      · subst e'; omega
      · exact h2 i (by omega) (by omega)
    · rw [low]
      rcases h3 with h3 | ⟨i, i1, i2, i3⟩
      · rcases m3 with m3 | m3
        · left; omega
        · right; exact ⟨k, by omega, by omega, by omega⟩
      · right; exact ⟨i, by omega, by omega, i3⟩
def lowest (d : List (List Int)) (q : List Int) : Int := low d q q.length 0 9
def hit (q : List Int) (k i j : Nat) : Bool := (List.range k).any (fun k' => decide (rd q (k' : Int) = (i : Int) ∧ rd q ((nx q k' : Nat) : Int) = (j : Int)))
theorem hit_iff {q : List Int} {k i j : Nat} : hit q k i j = true ↔ ∃ k', k' < k ∧ rd q (k' : Int) = (i : Int) ∧ rd q ((nx q k' : Nat) : Int) = (j : Int) := by
  unfold hit
  rw [List.any_eq_true]
  constructor
  · rintro ⟨k', h1, h2⟩
    exact ⟨k', List.mem_range.1 h1, (of_decide_eq_true h2).1, (of_decide_eq_true h2).2⟩
  · rintro ⟨k', h1, h2, h3⟩
    exact ⟨k', List.mem_range.2 h1, decide_eq_true ⟨h2, h3⟩⟩
def part (d : List (List Int)) (q : List Int) (k i j : Nat) : Int := if hit q k i j = true then db d i j - lowest d q else db d i j
def struck (c : List Int) (d : List (List Int)) (q : List Int) : List (List Int) := mk c.length (part d q q.length)
section
variable {c : List Int} {d : List (List Int)} {q : List Int}
theorem nx_lt {q : List Int} (h : 0 < q.length) (k : Nat) : nx q k < q.length := Nat.mod_lt _ h
theorem cir_at (hq : CirP c.length d q) {k : Nat} (hk : k < q.length) : 0 ≤ rd q (k : Int) ∧ rd q (k : Int) < (c.length : Int) := by
  have := hq.1.2.2.1 _ (rd_mem hk)
  exact ⟨this.2.1, this.2.2⟩
theorem cir_inj (hq : CirP c.length d q) {k l : Nat} (hk : k < q.length) (hl : l < q.length) (h : rd q (k : Int) = rd q (l : Int)) : k = l := by
  rw [rd_get q k hk, rd_get q l hl] at h
  exact (List.getElem_inj hq.1.2.1).1 h
theorem nx_ne (hq : CirP c.length d q) {k : Nat} (hk : k < q.length) : nx q k ≠ k := by
  have := hq.2.1
  unfold nx
  by_cases h : k + 1 = q.length
  · rw [h, Nat.mod_self]; omega
  · rw [Nat.mod_eq_of_lt (by omega)]; omega
theorem edge_pos (hq : CirP c.length d q) {k : Nat} (hk : k < q.length) : 0 < edge d q k := by
  unfold edge nx
  by_cases h : k + 1 = q.length
  · rw [h, Nat.mod_self]
    have : k = q.length - 1 := by omega
    rw [this]
    exact hq.2.2
  · rw [Nat.mod_eq_of_lt (by omega)]
    exact hq.1.2.2.2 k (by omega)
theorem edge_le (h : BookP c d) (hq : CirP c.length d q) {k : Nat} (hk : k < q.length) : edge d q k ≤ 9 :=
  (row_ge h (cir_at hq hk) (cir_at hq (nx_lt hq.1.1 k))).2
theorem lowest_pos (hq : CirP c.length d q) : 1 ≤ lowest d q := by
  have h0 := hq.1.1
  rcases (low_le d q q.length 0 9).2.2 with h | ⟨i, _, h2, h3⟩
  · unfold lowest; omega
  · have := edge_pos hq (k := i) (by omega)
    unfold lowest; omega
theorem lowest_le (hq : CirP c.length d q) {k : Nat} (hk : k < q.length) : lowest d q ≤ edge d q k := (low_le d q q.length 0 9).2.1 k (by omega) (by omega)
theorem hit_edge (hq : CirP c.length d q) {k i j : Nat} (hk : k ≤ q.length) (h : hit q k i j = true) : lowest d q ≤ db d i j ∧ i ≠ j := by
  obtain ⟨k', h1, h2, h3⟩ := hit_iff.1 h
  have hk' : k' < q.length := by omega
  have := lowest_le hq hk'
  refine ⟨?_, fun e => ?_⟩
  · unfold edge at this
    rw [h2, h3] at this
    exact this
  · rw [← e, ← h2] at h3
    exact nx_ne hq hk' (cir_inj hq (nx_lt hq.1.1 k') hk' h3)
theorem part_bd (h : BookP c d) (hq : CirP c.length d q) {k i j : Nat} (hk : k ≤ q.length) (hi : i < c.length) (hj : j < c.length) : 0 ≤ part d q k i j ∧ part d q k i j ≤ db d i j := by
  have hb := (h.2.2.2 i hi).2.2.2.2 j hj
  have hp := lowest_pos hq
  unfold part
  by_cases hh : hit q k i j = true
  · rw [if_pos hh]
    have := (hit_edge hq hk hh).1
    omega
  · rw [if_neg hh]; exact ⟨hb.1, Int.le_refl _⟩
theorem struck_get {i j : Nat} (hi : i < c.length) (hj : j < c.length) : db (struck c d q) i j = part d q q.length i j := by
  show rd (rd_L1 (mk c.length (part d q q.length)) (i : Int)) (j : Int) = _
  rw [mk_get hi, rd_rowF hj]
theorem struck_ok (h : BookP c d) (hq : CirP c.length d q) : BookP c (struck c d q) := by
  refine ⟨h.1, h.2.1, mk_len _ _, fun i hi => ?_⟩
  have hc := h.2.2.2 i hi
  refine ⟨hc.1, hc.2.1, ?_, ?_, fun j hj => ?_⟩
  · show (rd_L1 (mk c.length (part d q q.length)) (i : Int)).length = _
    rw [mk_get hi, rowF_len]
  · refine (struck_get hi hi).trans ?_
    unfold part
    rw [if_neg (fun z => (hit_edge hq (Nat.le_refl _) z).2 rfl)]
    exact hc.2.2.2.1
  · have h1 := struck_get (c := c) (d := d) (q := q) hi hj
    have h2 := part_bd h hq (Nat.le_refl _) hi hj
    have h3 := hc.2.2.2.2 j hj
    show 0 ≤ db (struck c d q) i j ∧ db (struck c d q) i j ≤ 9
    have h4 : db d i j ≤ 9 := h3.2
    rw [h1]; omega
theorem ki (q : List Int) (k : Nat) (h : k < q.length) (hq : q.length ≤ 4) : wrap64 ((k : Int) + 1) = ((k + 1 : Nat) : Int) := wsucc h (by omega)
theorem tm (q : List Int) (k : Nat) : Int.tmod ((k + 1 : Nat) : Int) (q.length : Int) = ((nx q k : Nat) : Int) := by
  unfold nx
  rw [Int.tmod_eq_emod_of_nonneg (by omega)]
  rfl
theorem st_l0 (h : BookP c d) (hq : CirP c.length d q) {r : List Int × List (List Int)} (hR : Ev (fun k => spec_l3Struck.l1 k q (lowest d q) 0 c d c d) r) : ∀ (e k : Nat) (x : Int), q.length - k = e → k ≤ q.length → low d q e k x = lowest d q → Ev (fun n => spec_l3Struck.l0 n q x (k : Int) c d c d) r := by
  have h4 := h.2.1
  have hdl := h.2.2.1
  have hql := hq.1.len
  have hq0 := hq.1.1
  intro e
  induction e with
  | zero =>
    intro k x he hk hx
    refine Ev.step (fun n => by rw [spec_l3Struck.l0]) ?_
    refine evNeg (by omega) ?_
    rw [low] at hx
    rw [hx]
    exact hR
  | succ e ih =>
    intro k x he hk hx
    have hlt : k < q.length := by omega
    have hk1 : Aside0 (wrap64 ((k : Int) + 1) = ((k + 1 : Nat) : Int)) := ⟨ki q k hlt (by omega)⟩
    have htm : Aside0 (Int.tmod ((k + 1 : Nat) : Int) (q.length : Int) = ((nx q k : Nat) : Int)) := ⟨tm q k⟩
    have a1 := cir_at hq hlt
    have a2 := cir_at hq (nx_lt hq0 k)
    have hn := nx_lt hq0 k
    have hrl := row_len h a1
    refine Ev.step (fun n => by rw [spec_l3Struck.l0]) ?_
    rw [hk1.out, htm.out]
    refine evPos (by omega) (evPos (by omega) (evPos a1.1 (evPos (by omega) (evNeg (by omega) (evPos (by omega) (evPos (by omega) (evPos a2.1 (evPos (by omega) ?_))))))))
    exact ih (k + 1) _ (by omega) (by omega) (by rw [low] at hx; exact hx)
theorem st_l1 (h : BookP c d) (hq : CirP c.length d q) : ∀ (e k : Nat), q.length - k = e → k ≤ q.length → Ev (fun n => spec_l3Struck.l1 n q (lowest d q) (k : Int) c d c (mk c.length (part d q k))) (c, struck c d q) := by
  have h4 := h.2.1
  have hdl := h.2.2.1
  have hql := hq.1.len
  have hq0 := hq.1.1
  intro e
  induction e with
  | zero =>
    intro k he hk
    refine Ev.step (fun n => by rw [spec_l3Struck.l1]) ?_
    have : k = q.length := by omega
    subst this
    exact evNeg (by omega) (Ev.now _)
  | succ e ih =>
    intro k he hk
    have hlt : k < q.length := by omega
    have hk1 : Aside0 (wrap64 ((k : Int) + 1) = ((k + 1 : Nat) : Int)) := ⟨ki q k hlt (by omega)⟩
    have htm : Aside0 (Int.tmod ((k + 1 : Nat) : Int) (q.length : Int) = ((nx q k : Nat) : Int)) := ⟨tm q k⟩
    have a1 := cir_at hq hlt
    have a2 := cir_at hq (nx_lt hq0 k)
    have hn := nx_lt hq0 k
    have hrl := row_len h a1
    have hml := mk_len c.length (part d q k)
    have hle := lowest_le hq hlt
    have hlp := lowest_pos hq
    have hee := edge_le h hq hlt
    obtain ⟨a, ha⟩ := Int.eq_ofNat_of_zero_le a1.1
    obtain ⟨b, hb⟩ := Int.eq_ofNat_of_zero_le a2.1
    have hac : a < c.length := by omega
    have hbc : b < c.length := by omega
    have hmr : (rd_L1 (mk c.length (part d q k)) (rd q (k : Int))).length = c.length := by rw [ha, mk_get hac, rowF_len]
    have hw : Aside0 (wrap64 (rd (rd_L1 d (rd q (k : Int))) (rd q ((nx q k : Nat) : Int)) - lowest d q) = db d a b - lowest d q) := ⟨by
      have e1 : rd (rd_L1 d (rd q (k : Int))) (rd q ((nx q k : Nat) : Int)) = edge d q k := rfl
      rw [e1, w64 (by omega) (by omega)]
      have e2 : edge d q k = db d a b := by unfold edge; rw [ha, hb]
      rw [e2]⟩
    refine Ev.step (fun n => by rw [spec_l3Struck.l1]) ?_
    rw [hk1.out, htm.out]
    refine evPos (by omega) (evPos (by omega) (evNeg (by omega) (evPos (by omega) (evPos (by omega) (evPos a1.1 (evPos (by omega) (evPos (by omega) (evPos a2.1 (evPos (by omega) (evPos (by omega) ?_))))))))))
    rw [hw.out, ha, hb, Int.toNat_natCast, Int.toNat_natCast, mk_set hac hbc]
    have : mk c.length (fun i' j' => if i' = a ∧ j' = b then db d a b - lowest d q else part d q k i' j') = mk c.length (part d q (k + 1)) := mk_congr (fun i hi j hj => by
      by_cases z : i = a ∧ j = b
      · rw [if_pos z]
        unfold part
        rw [if_pos (hit_iff.2 ⟨k, by omega, by rw [ha, z.1], by rw [hb, z.2]⟩), z.1, z.2]
      · rw [if_neg z]
        unfold part
        have : hit q (k + 1) i j = hit q k i j := by
          rw [Bool.eq_iff_iff, hit_iff, hit_iff]
          constructor
          · rintro ⟨k', h1, h2, h3⟩
            by_cases e' : k' = k
            · subst e'
              rw [ha] at h2; rw [hb] at h3
              exact absurd ⟨by omega, by omega⟩ z
            · exact ⟨k', by omega, h2, h3⟩
          · rintro ⟨k', h1, h2⟩
            exact ⟨k', by omega, h2⟩
        rw [this])
    rw [this]
    exact ih (k + 1) (by omega) (by omega)
theorem sStruck (h : BookP c d) (hq : CirP c.length d q) : Ev (fun k => spec_l3Struck.f k c d q) (c, struck c d q) := by
  unfold spec_l3Struck.f
  refine Ev.bind (scopy h) (st_l0 h hq ?_ q.length 0 9 rfl (by omega) rfl)
  have := st_l1 h hq q.length 0 rfl (by omega)
  have e : mk c.length (part d q 0) = d := (mk_congr (fun i _ j _ => by unfold part hit; simp)).trans (mk_of h).symm
  rw [e] at this
  exact this
def s1 (f : Nat → Int) : Nat → Int
  | 0 => 0
  | m + 1 => s1 f m + f m
theorem s1_le {f g : Nat → Int} : ∀ m : Nat, (∀ i, i < m → f i ≤ g i) → s1 f m ≤ s1 g m
  | 0, _ => Int.le_refl _
  | m + 1, h => by
    have := s1_le m (fun i hi => h i (by omega))
    have := h m (by omega)
    simp only [s1]; omega
theorem s1_lt {f g : Nat → Int} : ∀ m : Nat, (∀ i, i < m → f i ≤ g i) → (∃ i, i < m ∧ f i < g i) → s1 f m < s1 g m
  | 0, _, ⟨i, hi, _⟩ => by omega
  | m + 1, h, ⟨i, hi, hl⟩ => by
    have h1 := s1_le m (fun i hi => h i (by omega))
    have h2 := h m (by omega)
    simp only [s1]
    by_cases e : i = m
    · subst e; omega
    · have := s1_lt m (fun i hi => h i (by omega)) ⟨i, by omega, hl⟩
      omega
theorem s1_ge {f : Nat → Int} {a b : Int} : ∀ m : Nat, (∀ i, i < m → a ≤ f i ∧ f i ≤ b) → a * m ≤ s1 f m ∧ s1 f m ≤ b * m
  | 0, _ => by simp [s1]
  | m + 1, h => by
    have h1 := s1_ge m (fun i hi => h i (by omega))
    have h2 := h m (by omega)
    have e1 : a * ((m + 1 : Nat) : Int) = a * m + a := by rw [Int.natCast_add, Int.mul_add]; simp
    have e2 : b * ((m + 1 : Nat) : Int) = b * m + b := by rw [Int.natCast_add, Int.mul_add]; simp
    simp only [s1]
    rw [e1, e2]; omega
def tot (c : List Int) (d : List (List Int)) : Int := s1 (fun i => s1 (db d i) c.length) c.length
theorem tot_bd (h : BookP c d) : 0 ≤ tot c d ∧ tot c d ≤ 144 := by
  have h4 := h.2.1
  have hr : ∀ i, i < c.length → 0 ≤ s1 (db d i) c.length ∧ s1 (db d i) c.length ≤ 36 := fun i hi => by
    have := s1_ge (f := db d i) (a := 0) (b := 9) c.length (fun j hj => (h.2.2.2 i hi).2.2.2.2 j hj)
    omega
  have := s1_ge (f := fun i => s1 (db d i) c.length) (a := 0) (b := 36) c.length hr
  unfold tot
  omega
theorem struck_less (h : BookP c d) (hq : CirP c.length d q) : tot c (struck c d q) < tot c d := by
  have hb : ∀ i, i < c.length → ∀ j, j < c.length → db (struck c d q) i j ≤ db d i j := fun i hi j hj => by
    rw [struck_get hi hj]; exact (part_bd h hq (Nat.le_refl _) hi hj).2
  have h0 := hq.1.1
  have a1 := cir_at hq h0
  have a2 := cir_at hq (nx_lt h0 0)
  obtain ⟨a, ha⟩ := Int.eq_ofNat_of_zero_le a1.1
  obtain ⟨b, hb2⟩ := Int.eq_ofNat_of_zero_le a2.1
  have hlp := lowest_pos hq
  refine s1_lt c.length (fun i hi => s1_le c.length (hb i hi)) ⟨a, by omega, s1_lt c.length (hb a (by omega)) ⟨b, by omega, ?_⟩⟩
  rw [struck_get (by omega) (by omega)]
  unfold part
  rw [if_pos (hit_iff.2 ⟨0, h0, ha, hb2⟩)]
  omega
def woc (c : List Int) : Nat → List (List Int) → Int → List (List Int) × Int
  | 0, d, n => (d, n)
  | N + 1, d, n => if (circ c d).length = 0 then (d, n) else woc c N (struck c d ((circ c d).getD 0 [])) (n + 1)
theorem woc_ok : ∀ (N : Nat) (d : List (List Int)) (n : Int), BookP c d → BookP c (woc c N d n).1
  | 0, d, n, h => h
  | N + 1, d, n, h => by
    rw [woc]
    split
    · exact h
    · next hz => exact woc_ok N _ _ (struck_ok h (mem_circ h (getD_mem [] _ 0 (by omega))))
theorem sWoc : ∀ (N : Nat) (d : List (List Int)) (n : Int), BookP c d → tot c d ≤ (N : Int) → 0 ≤ n → n + N ≤ 1000 → Ev (fun k => spec_WithoutCircles.l0 k n c d) (c, (woc c N d n).1, (woc c N d n).2) := by
  intro N
  induction N with
  | zero =>
    intro d n h ht hn hN
    have hb := tot_bd h
    refine Ev.step (fun k => by rw [spec_WithoutCircles.l0]) ?_
    refine Ev.bind (sCircles h) ?_
    have hz : (circ c d).length = 0 := by
      apply Classical.byContradiction
      intro hz
      have hq := mem_circ h (getD_mem [] (circ c d) 0 (by omega))
      have h1 := struck_less h hq
      have h2 := tot_bd (struck_ok h hq)
      omega
    exact evPos (by omega) (Ev.now _)
  | succ N ih =>
    intro d n h ht hn hN
    refine Ev.step (fun k => by rw [spec_WithoutCircles.l0]) ?_
    refine Ev.bind (sCircles h) ?_
    by_cases hz : (circ c d).length = 0
    · refine evPos (by omega) (evEq (Ev.now _) ?_)
      rw [woc, if_pos hz]
    · refine evNeg (by omega) (evPos (by omega) ?_)
      have hq := mem_circ h (getD_mem [] (circ c d) 0 (by omega))
      have e1 : rd_L1 (circ c d) 0 = (circ c d).getD 0 [] := rfl
      rw [e1]
      refine Ev.bind (sStruck h hq) ?_
      have hw : wrap64 (n + 1) = n + 1 := w64 (by omega) (by omega)
      rw [hw]
      have h1 := struck_less h hq
      refine evEq (ih _ (n + 1) (struck_ok h hq) (by show tot c (struck c d ((circ c d).getD 0 [])) ≤ (N : Int); omega) (by omega) (by omega)) ?_
      rw [woc, if_neg hz]
def without (c : List Int) (d : List (List Int)) : List (List Int) × Int := woc c 144 d 0
theorem without_ok (h : BookP c d) : BookP c (without c d).1 := woc_ok _ _ _ h
theorem sWithout (c : List Int) (d : List (List Int)) : Ev (fun k => spec_WithoutCircles.f k c d) (@ite _ (BookP c d) (Classical.propDecidable _) (c, (without c d).1, (without c d).2) ([], [], -1)) := by
  unfold spec_WithoutCircles.f
  by_cases h : BookP c d
  · rw [if_pos h]
    refine Ev.bind ((bookOk c d).yes h) (evPos rfl (Ev.bind (scopy h) ?_))
    exact sWoc 144 d 0 h (tot_bd h).2 (by omega) (by omega)
  · rw [if_neg h]
    exact Ev.bind ((bookOk c d).no h) (evNeg (by decide) (Ev.now _))
end
end Go.Proofs.Ytfooakkhkehpiaa.Sk
namespace Go.Proofs.Ytfooakkhkehpiaa.Sn
open Go.RowKit Go.Proofs.Ytfooakkhkehpiaa.PU Go.Proofs.Ytfooakkhkehpiaa.Qh Go.Proofs.Ytfooakkhkehpiaa.Bk Go.Proofs.Ytfooakkhkehpiaa.Mx Go.Proofs.Ytfooakkhkehpiaa.Ow Go.Proofs.Ytfooakkhkehpiaa.Cr Go.Proofs.Ytfooakkhkehpiaa.Sk Go.Proofs.YtfooakkhkehpiaaW.PrintWords Go.Proofs.YtfooakkhkehpiaaW.PrintMore
set_option linter.unusedVariables false
set_option linter.unusedSimpArgs false
open Go.Proofs.Ytfooakkhkehpiaa.Ne (nt cs)
variable {c : List Int} {d d' : List (List Int)} {q : List Int}
theorem cs_s1 (d : List (List Int)) (j : Nat) : ∀ m : Nat, cs d m j = s1 (fun i => db d i j) m
  | 0 => rfl
  | m + 1 => by simp only [cs, s1]; rw [cs_s1 d j m]
theorem sm_s1 (xs : List Int) : ∀ m : Nat, sm xs m = s1 (fun i => rd xs (i : Int)) m
  | 0 => rfl
  | m + 1 => by simp only [sm, s1]; rw [sm_s1 xs m]
theorem ow_s1 (c : List Int) (d : List (List Int)) (j : Nat) : ow c d j = s1 (db d j) c.length := sm_s1 _ _
theorem s1_congr {f g : Nat → Int} : ∀ m : Nat, (∀ i, i < m → f i = g i) → s1 f m = s1 g m
  | 0, _ => rfl
  | m + 1, h => by simp only [s1]; rw [s1_congr m (fun i hi => h i (by omega)), h m (by omega)]
theorem all_tot (c : List Int) (d : List (List Int)) : sm (owes c d) c.length = tot c d := by
  rw [sm_s1]
  unfold tot
  exact s1_congr _ (fun i hi => by rw [rd_owes hi, ow_s1])
theorem s1_one {f g : Nat → Int} {a : Nat} {v : Int} : ∀ m : Nat, (∀ i, i < m → g i = f i - (if i = a then v else 0)) → s1 g m = s1 f m - (if a < m then v else 0)
  | 0, _ => by simp [s1]
  | m + 1, h => by
    have h1 := s1_one m (fun i hi => h i (by omega))
    have h2 := h m (by omega)
    simp only [s1]
    rw [h1, h2]
    by_cases e : m = a
    · subst e; rw [if_pos rfl, if_neg (by omega), if_pos (by omega)]; omega
    · rw [if_neg e]
      by_cases y : a < m
      · rw [if_pos y, if_pos (by omega)]; omega
      · rw [if_neg y, if_neg (by omega)]; omega
def pv (q : List Int) (k : Nat) : Nat := if k = 0 then q.length - 1 else k - 1
theorem pv_nx {k : Nat} (hq : 1 < q.length) (hk : k < q.length) : pv q k < q.length ∧ nx q (pv q k) = k ∧ ∀ k', k' < q.length → nx q k' = k → k' = pv q k := by
  unfold pv nx
  by_cases h : k = 0
  · rw [if_pos h]
    refine ⟨by omega, ?_, fun k' h1 h2 => ?_⟩
    · rw [show q.length - 1 + 1 = q.length by omega, Nat.mod_self]; omega
    · by_cases e : k' + 1 = q.length
      · omega
      · rw [Nat.mod_eq_of_lt (by omega)] at h2; omega
  · rw [if_neg h]
    refine ⟨by omega, ?_, fun k' h1 h2 => ?_⟩
    · rw [show k - 1 + 1 = k by omega, Nat.mod_eq_of_lt hk]
    · by_cases e : k' + 1 = q.length
      · rw [e, Nat.mod_self] at h2; omega
      · rw [Nat.mod_eq_of_lt (by omega)] at h2; omega
theorem nt_struck (hq : CirP c.length d q) {j : Nat} (hj : j < c.length) : nt c (struck c d q) j = nt c d j := by
  have hq0 := hq.1.1
  unfold nt
  rw [cs_s1, cs_s1, ow_s1, ow_s1]
  by_cases hm : ∃ k, k < q.length ∧ rd q (k : Int) = (j : Int)
  · obtain ⟨k, hk, hkj⟩ := hm
    obtain ⟨p1, p2, p3⟩ := pv_nx hq.2.1 hk
    have a1 := cir_at hq p1
    have a2 := cir_at hq (nx_lt hq0 k)
    obtain ⟨a, ha⟩ := Int.eq_ofNat_of_zero_le a1.1
    obtain ⟨b, hb⟩ := Int.eq_ofNat_of_zero_le a2.1
    have e1 : s1 (fun i => db (struck c d q) i j) c.length = s1 (fun i => db d i j) c.length - (if a < c.length then lowest d q else 0) := s1_one _ (fun i hi => by
      rw [struck_get hi hj]
      unfold Sk.part
      by_cases z : i = a
      · rw [if_pos (hit_iff.2 ⟨pv q k, p1, by rw [ha, z], by rw [p2, hkj]⟩), if_pos z]
      · rw [if_neg z, if_neg (fun y => by
          obtain ⟨k', h1, h2, h3⟩ := hit_iff.1 y
          have e3 := cir_inj hq (nx_lt hq0 k') hk (by rw [h3, hkj])
          have e4 := p3 k' h1 e3
          rw [e4, ha] at h2
          omega)]
        omega)
    have e2 : s1 (db (struck c d q) j) c.length = s1 (db d j) c.length - (if b < c.length then lowest d q else 0) := s1_one _ (fun i hi => by
      rw [struck_get hj hi]
      unfold Sk.part
      by_cases z : i = b
      · rw [if_pos (hit_iff.2 ⟨k, hk, hkj, by rw [hb, z]⟩), if_pos z]
      · rw [if_neg z, if_neg (fun y => by
          obtain ⟨k', h1, h2, h3⟩ := hit_iff.1 y
          have e3 := cir_inj hq h1 hk (by rw [h2, hkj])
          rw [e3, hb] at h3
          omega)]
        omega)
    rw [e1, e2, if_pos (by omega), if_pos (by omega)]
    omega
  · have no : ∀ k', k' < q.length → rd q (k' : Int) ≠ (j : Int) := fun k' h1 h2 => hm ⟨k', h1, h2⟩
    rw [s1_congr (f := fun i => db (struck c d q) i j) (g := fun i => db d i j) _ (fun i hi => by
      rw [struck_get hi hj]
      unfold Sk.part
      rw [if_neg (fun y => by
        obtain ⟨k', h1, h2, h3⟩ := hit_iff.1 y
        exact no _ (nx_lt hq0 k') h3)])]
    rw [s1_congr (f := db (struck c d q) j) (g := db d j) _ (fun i hi => by
      rw [struck_get hj hi]
      unfold Sk.part
      rw [if_neg (fun y => by
        obtain ⟨k', h1, h2, h3⟩ := hit_iff.1 y
        exact no _ h1 h2)])]
theorem struck_le (h : BookP c d) (hq : CirP c.length d q) : ∀ i, i < c.length → ∀ j, j < c.length → db (struck c d q) i j ≤ db d i j := fun i hi j hj => by
  rw [struck_get hi hj]; exact (part_bd h hq (Nat.le_refl _) hi hj).2
end Go.Proofs.Ytfooakkhkehpiaa.Sn
namespace Go.Proofs.Ytfooakkhkehpiaa.Si
open Go.RowKit Go.Proofs.Ytfooakkhkehpiaa.PU Go.Proofs.Ytfooakkhkehpiaa.Qh Go.Proofs.Ytfooakkhkehpiaa.Bk Go.Proofs.Ytfooakkhkehpiaa.Mx Go.Proofs.Ytfooakkhkehpiaa.Cr Go.Proofs.Ytfooakkhkehpiaa.Sk Go.Proofs.YtfooakkhkehpiaaW.PrintWords Go.Proofs.YtfooakkhkehpiaaW.PrintMore
set_option linter.unusedVariables false
set_option linter.unusedSimpArgs false
variable {c : List Int} {d : List (List Int)} {q : List Int}
theorem is_l0 (h : BookP c d) (hq : CirP c.length d q) {r : List Int × List (List Int)} (hR : Ev (fun k => impl_struckOut.l1 k q (lowest d q) q (q.length : Int) 0 c d) r) : ∀ (e k : Nat) (x : Int), q.length - k = e → k ≤ q.length → low d q e k x = lowest d q → Ev (fun n => impl_struckOut.l0 n q x q (q.length : Int) (k : Int) c d c d) r := by
  have h4 := h.2.1
  have hdl := h.2.2.1
  have hql := hq.1.len
  have hq0 := hq.1.1
  intro e
  induction e with
  | zero =>
    intro k x he hk hx
    refine Ev.step (fun n => by rw [impl_struckOut.l0]) ?_
    refine evNeg (by omega) ?_
    rw [low] at hx
    rw [hx]
    exact hR
  | succ e ih =>
    intro k x he hk hx
    have hlt : k < q.length := by omega
    have hk1 : Aside0 (wrap64 ((k : Int) + 1) = ((k + 1 : Nat) : Int)) := ⟨ki q k hlt (by omega)⟩
    have htm : Aside0 (Int.tmod ((k + 1 : Nat) : Int) (q.length : Int) = ((nx q k : Nat) : Int)) := ⟨tm q k⟩
    have a1 := cir_at hq hlt
    have a2 := cir_at hq (nx_lt hq0 k)
    have hn := nx_lt hq0 k
    have hrl := row_len h a1
    refine Ev.step (fun n => by rw [impl_struckOut.l0]) ?_
    rw [hk1.out, htm.out]
    refine evPos (by omega) (evPos (by omega) (evPos (by omega) (evPos a1.1 (evPos (by omega) (evNeg (by omega) (evPos (by omega) (evPos (by omega) (evPos a2.1 (evPos (by omega) ?_)))))))))
    exact ih (k + 1) _ (by omega) (by omega) (by rw [low] at hx; exact hx)
theorem is_l1 (h : BookP c d) (hq : CirP c.length d q) : ∀ (e k : Nat), q.length - k = e → k ≤ q.length → Ev (fun n => impl_struckOut.l1 n q (lowest d q) q (q.length : Int) (k : Int) c (mk c.length (Sk.part d q k))) (c, struck c d q) := by
  have h4 := h.2.1
  have hdl := h.2.2.1
  have hql := hq.1.len
  have hq0 := hq.1.1
  intro e
  induction e with
  | zero =>
    intro k he hk
    refine Ev.step (fun n => by rw [impl_struckOut.l1]) ?_
    have : k = q.length := by omega
    subst this
    exact evNeg (by omega) (Ev.now _)
  | succ e ih =>
    intro k he hk
    have hlt : k < q.length := by omega
    have hk1 : Aside0 (wrap64 ((k : Int) + 1) = ((k + 1 : Nat) : Int)) := ⟨ki q k hlt (by omega)⟩
    have htm : Aside0 (Int.tmod ((k + 1 : Nat) : Int) (q.length : Int) = ((nx q k : Nat) : Int)) := ⟨tm q k⟩
    have a1 := cir_at hq hlt
    have a2 := cir_at hq (nx_lt hq0 k)
    have hn := nx_lt hq0 k
    have hml := mk_len c.length (Sk.part d q k)
    have hle := lowest_le hq hlt
    have hlp := lowest_pos hq
    have hee := edge_le h hq hlt
    obtain ⟨a, ha⟩ := Int.eq_ofNat_of_zero_le a1.1
    obtain ⟨b, hb⟩ := Int.eq_ofNat_of_zero_le a2.1
    have hac : a < c.length := by omega
    have hbc : b < c.length := by omega
    have hmr : (rd_L1 (mk c.length (Sk.part d q k)) (rd q (k : Int))).length = c.length := by rw [ha, mk_get hac, rowF_len]
    have hnot : ¬ hit q k a b = true := fun z => by
      obtain ⟨k', h1, h2, _⟩ := hit_iff.1 z
      have := cir_inj hq (show k' < q.length by omega) hlt (by rw [h2, ha])
      omega
    have hw : Aside0 (wrap64 (rd (rd_L1 (mk c.length (Sk.part d q k)) (rd q (k : Int))) (rd q ((nx q k : Nat) : Int)) - lowest d q) = db d a b - lowest d q) := ⟨by
      have e2 : edge d q k = db d a b := by unfold edge; rw [ha, hb]
      rw [ha, hb, mk_get hac, rd_rowF hbc]
      have e3 : Sk.part d q k a b = db d a b := if_neg hnot
      rw [e3, ← e2, w64 (by omega) (by omega)]⟩
    refine Ev.step (fun n => by rw [impl_struckOut.l1]) ?_
    rw [hk1.out, htm.out]
    refine evPos (by omega) (evPos (by omega) (evPos (by omega) (evPos a1.1 (evPos (by omega) (evNeg (by omega) (evPos (by omega) (evPos (by omega) (evPos a2.1 (evPos (by omega) ?_)))))))))
    rw [hw.out, ha, hb, Int.toNat_natCast, Int.toNat_natCast, mk_set hac hbc]
    have : mk c.length (fun i' j' => if i' = a ∧ j' = b then db d a b - lowest d q else Sk.part d q k i' j') = mk c.length (Sk.part d q (k + 1)) := mk_congr (fun i hi j hj => by
      by_cases z : i = a ∧ j = b
      · rw [if_pos z]
        unfold Sk.part
        rw [if_pos (hit_iff.2 ⟨k, by omega, by rw [ha, z.1], by rw [hb, z.2]⟩), z.1, z.2]
      · rw [if_neg z]
        unfold Sk.part
        have : hit q (k + 1) i j = hit q k i j := by
          rw [Bool.eq_iff_iff, hit_iff, hit_iff]
          constructor
          · rintro ⟨k', h1, h2, h3⟩
            by_cases e' : k' = k
            · subst e'
              rw [ha] at h2; rw [hb] at h3
              exact absurd ⟨by omega, by omega⟩ z
            · exact ⟨k', by omega, h2, h3⟩
          · rintro ⟨k', h1, h2⟩
            exact ⟨k', by omega, h2⟩
        rw [this])
    rw [this]
    exact ih (k + 1) (by omega) (by omega)
theorem iStruck (h : BookP c d) (hq : CirP c.length d q) : Ev (fun k => impl_struckOut.f k c d q) (c, struck c d q) := by
  unfold impl_struckOut.f
  refine Ev.bind (icopy h) (is_l0 h hq ?_ q.length 0 9 rfl (by omega) rfl)
  have := is_l1 h hq q.length 0 rfl (by omega)
  have e : mk c.length (Sk.part d q 0) = d := (mk_congr (fun i _ j _ => by unfold Sk.part hit; simp)).trans (mk_of h).symm
  rw [e] at this
  exact this
end Go.Proofs.Ytfooakkhkehpiaa.Si
namespace Go.Proofs.Ytfooakkhkehpiaa.Cq
open Go.RowKit Go.Proofs.Ytfooakkhkehpiaa.PU Go.Proofs.Ytfooakkhkehpiaa.Qh Go.Proofs.Ytfooakkhkehpiaa.Bk Go.Proofs.Ytfooakkhkehpiaa.Mx Go.Proofs.Ytfooakkhkehpiaa.Cr Go.Proofs.YtfooakkhkehpiaaW.PrintWords Go.Proofs.YtfooakkhkehpiaaW.PrintMore
set_option linter.unusedVariables false
set_option linter.unusedSimpArgs false
open Go.Proofs.Ytfooakkhkehpiaa.PU.Circ (walkI rowI stepI lastI foundI cmpI lexc cmpl insL srtL)
variable {c : List Int} {d : List (List Int)}
theorem row_lead {F : List Int → List (List Int)} {p row : List Int} {n a : Nat} (ha : rd p 0 = (a : Int)) (han : a < n) : ∀ (e j : Nat), j + e = n → j ≤ a → rowI F p row e j = rowI F p row (n - a) a
  | 0, j, he, hj => by omega
  | e + 1, j, he, hj => by
    by_cases h : j = a
    · subst h
      have : n - j = e + 1 := by omega
      rw [this]
    · rw [rowI]
      have hs : stepI F p row j = [] := by unfold stepI; rw [if_pos (.inr (by rw [ha]; omega))]
      rw [hs, List.nil_append]
      exact row_lead ha han e (j + 1) (by omega) (by omega)
theorem walk_eq (h : BookP c d) : ∀ (m m' : Nat) (p : List Int), PathP c.length d p → c.length < m + p.length → c.length < m' + p.length → walkI d m p = P c.length d m' p
  | 0, _, p, hp, hm, _ => by have := hp.len; omega
  | _, 0, p, hp, _, hm => by have := hp.len; omega
  | m + 1, m' + 1, p, hp, hm, hm' => by
    have hh := hp.head
    have hl := hp.last
    have hrl := row_len h hl
    obtain ⟨a, ha⟩ := Int.eq_ofNat_of_zero_le hh.1
    have han : a < c.length := by omega
    have e1 : d.getD (lastI p).toNat [] = rd_L1 d (la p) := rfl
    rw [walkI, P, e1, hrl, row_lead ha han c.length 0 (by omega) (by omega)]
    have e2 : c.length - a = (c.length - (a + 1)) + 1 := by omega
    rw [e2, rowI]
    have ha' : (rd p 0).toNat = a := by rw [ha]; rfl
    rw [ha']
    have s0 : stepI (walkI d m) p (rd_L1 d (la p)) a = self d p := by
      unfold stepI self
      have hge := row_ge h hl (j := (a : Int)) ⟨by omega, by omega⟩
      rw [ha]
      by_cases hz : rd (rd_L1 d (la p)) (a : Int) = 0
      · rw [if_pos (.inl hz), if_neg (fun z => by have := z.2; omega)]
      · rw [if_neg (fun z => z.elim hz (fun y => by omega)), if_pos rfl]
        have h1 : 1 < p.length := by
          apply Classical.byContradiction
          intro h1
          have hp0 := hp.1
          have hp1 : p.length = 1 := by omega
          have e3 : la p = (a : Int) := by unfold la; rw [hp1]; exact ha
          rw [e3] at hz
          exact hz (h.2.2.2 a han).2.2.2.1
        rw [if_pos ⟨h1, by omega⟩]
    rw [s0]
    congr 1
    have key : ∀ (e j : Nat), j + e = c.length → a < j → rowI (walkI d m) p (rd_L1 d (la p)) e j = rest (P c.length d m') d p e j := by
      intro e
      induction e with
      | zero => intro j _ _; rfl
      | succ e ih =>
        intro j he hj
        rw [rowI, rest, ih (j + 1) (by omega) (by omega)]
        congr 1
        unfold stepI
        have hge := row_ge h hl (j := (j : Int)) ⟨by omega, by omega⟩
        rw [ha]
        by_cases hz : rd (rd_L1 d (la p)) (j : Int) = 0
        · rw [if_pos (.inl hz), if_pos (.inl hz)]
        · rw [if_neg (fun z => z.elim hz (fun y => by omega)), if_neg (by omega)]
          by_cases hm : (j : Int) ∈ p
          · rw [if_pos hm, if_pos (.inr hm)]
          · rw [if_neg hm, if_neg (fun z => z.elim hz hm)]
            have hs := hp.snoc (j := j) (by omega) (by omega) hm (by omega)
            exact walk_eq h m m' _ hs (by rw [List.length_append, List.length_singleton]; omega) (by rw [List.length_append, List.length_singleton]; omega)
    exact key _ (a + 1) (by omega) (by omega)
theorem found_eq (h : BookP c d) : ∀ (e i : Nat), i + e = c.length → foundI d e i = found c.length d e i
  | 0, _, _ => rfl
  | e + 1, i, hi => by
    have h4 := h.2.1
    have hdl := h.2.2.1
    rw [foundI, found, found_eq h e (i + 1) (by omega), walk_eq h d.length 4 [(i : Int)] (PathP.one (by omega)) (by rw [List.length_singleton]; omega) (by rw [List.length_singleton]; omega)]
def cR (F : List Int → Nat) (p : List Int) : Nat → Nat → Nat
  | 0, _ => 0
  | e + 1, j => (if (j : Int) ∈ p then 0 else F (p ++ [(j : Int)])) + cR F p e (j + 1)
def cP (n : Nat) : Nat → List Int → Nat
  | 0, _ => 0
  | m + 1, p => (if 1 < p.length then 1 else 0) + cR (cP n m) p (n - ((rd p 0).toNat + 1)) ((rd p 0).toNat + 1)
def cF (n : Nat) : Nat → Nat → Nat
  | 0, _ => 0
  | e + 1, i => cP n 4 [(i : Int)] + cF n e (i + 1)
theorem cR_le {F : List Int → List (List Int)} {G : List Int → Nat} (hFG : ∀ q, (F q).length ≤ G q) (p : List Int) : ∀ (e j : Nat), (rest F d p e j).length ≤ cR G p e j
  | 0, _ => Nat.le_refl _
  | e + 1, j => by
    rw [rest, cR, List.length_append]
    have h1 := cR_le hFG p e (j + 1)
    have h2 : (if rd (rd_L1 d (la p)) (j : Int) = 0 ∨ (j : Int) ∈ p then [] else F (p ++ [(j : Int)])).length ≤ (if (j : Int) ∈ p then 0 else G (p ++ [(j : Int)])) := by
      by_cases hm : (j : Int) ∈ p
      · rw [if_pos (.inr hm), if_pos hm]; exact Nat.le_refl _
      · rw [if_neg hm]
        split
        · exact Nat.zero_le _
        · exact hFG _
    omega
theorem cP_le (n : Nat) : ∀ (m : Nat) (p : List Int), (P n d m p).length ≤ cP n m p
  | 0, _ => Nat.le_refl _
  | m + 1, p => by
    rw [P, cP, List.length_append]
    have h1 := cR_le (d := d) (cP_le n m) p (n - ((rd p 0).toNat + 1)) ((rd p 0).toNat + 1)
    have h2 : (self d p).length ≤ if 1 < p.length then 1 else 0 := by
      unfold self
      by_cases h : 1 < p.length
      · rw [if_pos h]; split <;> simp
      · rw [if_neg h, if_neg (fun z => h z.1)]; exact Nat.le_refl _
    omega
theorem cF_le (n : Nat) : ∀ (e i : Nat), (found n d e i).length ≤ cF n e i
  | 0, _ => Nat.le_refl _
  | e + 1, i => by
    rw [found, cF, List.length_append]
    have h1 := cP_le (d := d) n 4 [(i : Int)]
    have h2 := cF_le n e (i + 1)
    omega
theorem cF4 : ∀ n, n ≤ 4 → cF n n 0 ≤ 20
  | 0, _ => by decide
  | 1, _ => by decide
  | 2, _ => by decide
  | 3, _ => by decide
  | 4, _ => by decide
  | n + 5, h => by omega
theorem cmpI_lt (a b : Int) : (cmpI a b < 0 ↔ a < b) ∧ (cmpI a b = 0 ↔ a = b) := by
  unfold cmpI
  by_cases h : a < b
  · rw [if_pos h]; exact ⟨⟨fun _ => h, fun _ => by decide⟩, ⟨fun z => by simp at z, fun z => by omega⟩⟩
  · rw [if_neg h]
    by_cases h2 : a > b
    · rw [if_pos h2]; exact ⟨⟨fun z => by simp at z, fun z => by omega⟩, ⟨fun z => by simp at z, fun z => by omega⟩⟩
    · rw [if_neg h2]; exact ⟨⟨fun z => by simp at z, fun z => by omega⟩, ⟨fun _ => by omega, fun _ => rfl⟩⟩
theorem lex_lt : ∀ (a b : List Int), a.length = b.length → (lexc a b < 0 ↔ lexlt a b = true)
  | [], [], _ => by simp [lexc, lexlt]
  | [], _ :: _, h => by simp at h
  | _ :: _, [], h => by simp at h
  | a :: r, b :: s, h => by
    rw [lexc, lexlt]
    have hc := cmpI_lt a b
    by_cases e : a = b
    · rw [if_pos (hc.2.2 e), if_pos e]; exact lex_lt r s (by simpa using h)
    · rw [if_neg (fun z => e (hc.2.1 z)), if_neg e, hc.1]; simp
theorem cmp_bef (a b : List Int) : cmpl a b < 0 ↔ bef a b = true := by
  unfold cmpl bef
  have hc := cmpI_lt (a.length : Int) (b.length : Int)
  by_cases e : a.length = b.length
  · rw [if_pos (hc.2.2 (by omega)), if_pos e]; exact lex_lt a b e
  · rw [if_neg (fun z => e (by have := hc.2.1 z; omega)), if_neg e, hc.1]; simp
theorem insL_eq : ∀ (j : Nat) (xs : List (List Int)), insL j xs = ins bef j xs
  | 0, _ => rfl
  | j + 1, xs => by
    rw [insL, ins]
    by_cases h : bef (xs.getD (j + 1) []) (xs.getD j []) = true
    · rw [if_pos ((cmp_bef _ _).2 h), if_pos h]; exact insL_eq j _
    · rw [if_neg (fun z => h ((cmp_bef _ _).1 z)), if_neg h]
theorem srtL_eq : ∀ (e i : Nat) (xs : List (List Int)), srtL e i xs = srt bef e i xs
  | 0, _, _ => rfl
  | e + 1, i, xs => by rw [srtL, srt, insL_eq, srtL_eq e]
theorem circ_20 (h : BookP c d) : (circ c d).length ≤ 20 := by
  rw [circ_len]
  exact Nat.le_trans (cF_le c.length c.length 0) (cF4 c.length h.2.1)
theorem iCircles (h : BookP c d) : Ev (fun k => impl_circles.f k c d) (circ c d) := by
  have h4 := h.2.1
  have hdl := h.2.2.1
  have h20 := circ_20 h
  rw [circ_len] at h20
  have e : ∀ k, impl_circles.f k c d = some (circ c d) := fun k => by
    unfold impl_circles.f
    rw [hdl, found_eq h c.length 0 (by omega), if_pos ⟨rfl, h4, fun i hi => (h.2.2.2 i hi).2.2.1, h20⟩, srtL_eq]
    rfl
  simp only [e]
  exact Ev.now _
end Go.Proofs.Ytfooakkhkehpiaa.Cq
