/- FnDeskOk: for every input the law holds. No condition. -/
import Derived.Test.YtfooakkhkehpiaaZFnDeskOk1
import Derived.Test.YtfooakkhkehpiaaZFnDeskOk2
import Derived.Test.YtfooakkhkehpiaaZFnDeskOk3
namespace Go.Proofs.Ytfooakkhkehpiaa.PU
open Go.RowKit Go.Proofs.YtfooakkhkehpiaaW.PrintWords Go.Proofs.YtfooakkhkehpiaaW.PrintLast Go.Proofs.YtfooakkhkehpiaaW.PrintMore Go.Proofs.Ytfooakkhkehpiaa.Qd
attribute [local go_sem] max2_int min2_int max_two min_two max_three min_three max_four min_four
set_option linter.unusedVariables false
set_option linter.unusedSimpArgs false
attribute [local go_sem high] eqA69
mutual
def spec_l9Made.j0 : Nat → Int → Bool → List Int → List (List Int) → Int → Int → Int → Int → List Int → List (List Int) → Option (List Int × (List (List Int)) × Bool)
 | 0, _, _, _, _, _, _, _, _, _, _ => none
 | k + 1, x6, x14, q9, ra, vu, lu, pw, sm, t4, rb => if x14 = true then (if 0 ≤ lu then (if lu < (t4.length : Int) then ((some (t4.set (lu : Int).toNat sm : List Int)).bind fun t5 => ((spec_l9Same.f k t5 rb q9 ra).bind fun sl => (some (t5, rb, !sl)))) else (none)) else (none)) else (if vu = 1 then ((spec_l1In.f lu 0 (wrap64 (x6 - 1))).bind fun t3 => (if t3 = true then ((spec_l1In.f pw 0 (wrap64 (x6 - 1))).bind fun ch6 => (if ch6 = true then (if lu = pw then (spec_l9Made.j1 k false q9 ra vu lu pw sm t4 rb) else ((spec_l1In.f sm 0 9).bind fun bn9 => (spec_l9Made.j1 k bn9 q9 ra vu lu pw sm t4 rb))) else (spec_l9Made.j1 k false q9 ra vu lu pw sm t4 rb))) else (spec_l9Made.j1 k false q9 ra vu lu pw sm t4 rb))) else (spec_l9Made.j1 k false q9 ra vu lu pw sm t4 rb))
def spec_l9Made.j1 : Nat → Bool → List Int → List (List Int) → Int → Int → Int → Int → List Int → List (List Int) → Option (List Int × (List (List Int)) × Bool)
 | 0, _, _, _, _, _, _, _, _, _ => none
 | k + 1, x42, q9, ra, vu, lu, pw, sm, t4, rb => if x42 = true then (if 0 ≤ lu then (if lu < (rb.length : Int) then (if 0 ≤ pw then (if pw < ((rd_L1 rb lu).length : Int) then ((some (rb.set (lu : Int).toNat ((rd_L1 rb lu).set (pw : Int).toNat sm) : List (List Int))).bind fun px => ((spec_l9Same.f k t4 px q9 ra).bind fun ib => (some (t4, px, !ib)))) else (none)) else (none)) else (none)) else (none)) else (if (vu == 2 && (lu == 0 && (pw == 0 && (sm == 0)))) = true then ((spec_Netted.f k q9 ra).bind fun bt298 => ((spec_l9Same.f k bt298.1 bt298.2 q9 ra).bind fun vs => (some (bt298.1, bt298.2, !vs)))) else (if (vu == 3 && (lu == 0 && (pw == 0 && (sm == 0)))) = true then ((spec_WithoutCircles.f k q9 ra).bind fun bt305 => ((spec_l9Same.f k bt305.1 bt305.2.1 q9 ra).bind fun ch7 => (some (bt305.1, bt305.2.1, !ch7)))) else (some (([] : List Int), ([] : List (List Int)), false))))
end
def spec_l9Made.f (k : Nat) (ab : List Int) (aa : List (List Int)) (bn : Int) (a7 : Int) (a9 : Int) (bg : Int) : Option (List Int × (List (List Int)) × Bool) := (spec_l2Copy.f k ab aa).bind fun bt279 => (if bn = 0 then ((spec_l1In.f a7 0 (wrap64 ((ab.length : Int) - 1))).bind fun ax4 => (if ax4 = true then (if a9 = 0 then ((spec_l1In.f bg 0 20).bind fun al2 => (spec_l9Made.j0 k (ab.length : Int) al2 ab aa bn a7 a9 bg bt279.1 bt279.2)) else (spec_l9Made.j0 k (ab.length : Int) false ab aa bn a7 a9 bg bt279.1 bt279.2)) else (spec_l9Made.j0 k (ab.length : Int) false ab aa bn a7 a9 bg bt279.1 bt279.2))) else (spec_l9Made.j0 k (ab.length : Int) false ab aa bn a7 a9 bg bt279.1 bt279.2))
theorem spec_l9Made.mq {p : Prop} (h : p := by
 repeat' first
 | (with_reducible exact ih0 _ _ _ _ _ _ _ _ _ _)
 | (with_reducible exact ih1 _ _ _ _ _ _ _ _ _)
 | (with_reducible exact spec_Netted.mono _ _ _)
 | (with_reducible exact spec_WithoutCircles.mono _ _ _)
 | (with_reducible exact spec_l2Copy.mono _ _ _)
 | (with_reducible exact spec_l9Same.mono _ _ _ _ _)
 | (with_reducible exact LeO.refl _)
 | (with_reducible exact LeO.none _)
 | (with_reducible refine LeO.ite ?_ ?_)
 | (with_reducible refine LeO.bind ?_ (fun _ => ?_))
 | exact ih0 _ _ _ _ _ _ _ _ _ _
 | exact ih1 _ _ _ _ _ _ _ _ _
 | exact spec_Netted.mono _ _ _
 | exact spec_WithoutCircles.mono _ _ _
 | exact spec_l2Copy.mono _ _ _
 | exact spec_l9Same.mono _ _ _ _ _
 | exact LeO.none _
 | refine LeO.ite ?_ ?_
 | refine LeO.bind ?_ (fun _ => ?_)) : p := h
theorem spec_l9Made.mono_l : ∀ k, (∀ y0 y1 y2 y3 y4 y5 y6 y7 y8 y9, LeO (spec_l9Made.j0 k y0 y1 y2 y3 y4 y5 y6 y7 y8 y9) (spec_l9Made.j0 (k + 1) y0 y1 y2 y3 y4 y5 y6 y7 y8 y9)) ∧ (∀ y0 y1 y2 y3 y4 y5 y6 y7 y8, LeO (spec_l9Made.j1 k y0 y1 y2 y3 y4 y5 y6 y7 y8) (spec_l9Made.j1 (k + 1) y0 y1 y2 y3 y4 y5 y6 y7 y8))
 | 0 => ⟨fun _ _ _ _ _ _ _ _ _ _ r h => by simp [spec_l9Made.j0] at h, fun _ _ _ _ _ _ _ _ _ r h => by simp [spec_l9Made.j1] at h⟩
 | k + 1 => by
  obtain ⟨ih0, ih1⟩ := spec_l9Made.mono_l k
  refine ⟨?_, ?_⟩
  ·intro y0 y1 y2 y3 y4 y5 y6 y7 y8 y9
   unfold spec_l9Made.j0
   exact spec_l9Made.mq
  ·intro y0 y1 y2 y3 y4 y5 y6 y7 y8
   unfold spec_l9Made.j1
   exact spec_l9Made.mq
theorem spec_l9Made.mono : ∀ a0 a1 a2 a3 a4 a5 k, LeO (spec_l9Made.f k a0 a1 a2 a3 a4 a5) (spec_l9Made.f (k + 1) a0 a1 a2 a3 a4 a5) := by
 intro a0 a1 a2 a3 a4 a5 k
 obtain ⟨ih0, ih1⟩ := spec_l9Made.mono_l k
 unfold spec_l9Made.f
 exact spec_l9Made.mq
def spec_l9Made.T7 : Bool × List (List Nat × List Nat) := (true, [([], []), ([0], [0]), ([], []), ([2], [2]), ([1, 3], [1, 3]), ([4], [4]), ([], []), ([6], [6]), ([], []), ([8], [8]), ([5, 7, 0, 1, 2, 3, 4, 5, 6, 7, 8, 9], [5, 7]), ([10, 9, 0, 1, 2, 3, 4, 5, 6, 7, 8, 9], [9, 10])])
def spec_l9Made.B7 : List Nat := [0, 1, 0, 4, 15, 31, 0, 64, 0, 256, 1023, 2047]
theorem spec_l9Made.tab7 : rtab .any (opsOf Try.f101 7) = spec_l9Made.T7 := by kernel_rfl
theorem spec_l9Made.bits7 : waitsOk spec_l9Made.T7.2 spec_l9Made.B7 = true := by kernel_rfl
theorem ft {p : Prop} (h : p := by repeat (first | (with_reducible first | exact HB.out | apply below_alloc | apply pw_below_drewN | apply below_drew1 | refine below_set ?_ eq9.out | refine below_set ?_ er0.out | refine below_set ?_ er1.out | refine below_set ?_ er2.out | refine below_set ?_ GB91.out) | exact HB.out)) : p := h
set_option maxHeartbeats 8000000 in
set_option maxRecDepth 100000 in
theorem spec_l9Made.calls (k : Nat) (ag : Option Addr) (ae : Nat) (ab : List Int) (ah : Option Addr) (af : Nat) (aa : List (List Int)) (bn : Int) (a7 : Int) (a9 : Int) (bg : Int) (r1 : List Int) (r2 : List (List Int)) (r3 : Bool) (w : World) (dx : Kd.C (Kd.int .i64) w ag ab.length ab) (dy : ab.length ≤ ae) (dz : Kd.C (Kd.slice 3 (Kd.int .i64)) w ah aa.length aa) (d2 : aa.length ≤ af) (h : spec_l9Made.f k ab aa bn a7 a9 bg = some (r1, r2, r3)) :
  Calls Try.prog 101 #[.agg #[.slice ag ab.length ae, .slice ah aa.length af], .agg #[.int .i64 bn, .int .i64 a7, .int .i64 a9, .int .i64 bg]] w fun e w' => ∃ v0_ v1_ : Value, e = .returned (.tuple #[.agg #[v0_, v1_], .bool r3]) ∧ Kd.R (Kd.int .i64) 3 w' w.heap.size (fun _ => True) v0_ r1 ∧ Kd.S (Kd.slice 3 (Kd.int .i64)) 22 w' w.heap.size (fun k_ => some k_ ≠ (v0_ : Value).ownBlock) v1_ r2 ∧ Below w.heap.size w w' := by
 have hu25 := Try.underlying25
 have hu69 := Try.underlying69
 have dd := Aside0.mk dx
 have d6 := Aside0.mk dy
 clear dx dy
 have cq := Aside0.mk dz
 have d7 := Aside0.mk d2
 clear dz d2
 have HB := Aside0.mk (Below.refl w.heap.size w)
 have H : ((spec_l2Copy.f k ab aa).bind fun bt279 => (if bn = 0 then ((spec_l1In.f a7 0 (wrap64 ((ab.length : Int) - 1))).bind fun ax4 => (if ax4 = true then (if a9 = 0 then ((spec_l1In.f bg 0 20).bind fun al2 => (spec_l9Made.j0 k (ab.length : Int) al2 ab aa bn a7 a9 bg bt279.1 bt279.2)) else (spec_l9Made.j0 k (ab.length : Int) false ab aa bn a7 a9 bg bt279.1 bt279.2)) else (spec_l9Made.j0 k (ab.length : Int) false ab aa bn a7 a9 bg bt279.1 bt279.2))) else (spec_l9Made.j0 k (ab.length : Int) false ab aa bn a7 a9 bg bt279.1 bt279.2))) = some (r1, r2, r3) := h
 clear h
 replace H := Option.bind_eq_some_iff.mp H
 obtain ⟨⟨dt, eg⟩, mj, H⟩ := H
 try dsimp only at H
 have A3 := Aside0.mk mj
 clear mj
 have HC4 := Aside0.mk H
 clear H
 go_enter Try.func101, Try.ntmps101
 go_upto_region 4 with (first | ((with_reducible refine gate_dst (N := 2) rfl ?_); refine bx_ (N := 2) #[.slice ag ab.length ae, .slice ah aa.length af] 25 ?_; intro jk hg w5 hbox hb; have cl := Aside0.mk (hbox); have fz8 := Aside0.mk ((g26_ : w.heap.size ≤ jk)); have eq9 := Aside0.mk ((g26_ : w.heap.size ≤ jk)); replace HB := Aside0.mk (below_step (ft) hb); clear hb hbox hg) | ((with_reducible refine gate_dst (N := 3) rfl ?_); refine bx_ (N := 3) #[.int .i64 bn, .int .i64 a7, .int .i64 a9, .int .i64 bg] 69 ?_; intro ka hg w6 hbox hb; have co := Aside0.mk (hbox); have fz9 := Aside0.mk ((g26_ : w.heap.size ≤ ka)); have er0 := Aside0.mk ((g26_ : w.heap.size ≤ ka)); replace HB := Aside0.mk (below_step (ft) hb); have oz := Aside0.mk ((g89_ : jk ≠ ka)); have o0 := Aside0.mk ((g90_ : ka ≠ jk)); replace cl := bb_ cl hb; clear hb hbox hg) | ((with_reducible refine gate_dst (N := 4) rfl ?_); refine bx_ (N := 4) #[.slice none 0 0, .slice none 0 0] 25 ?_; intro es hg w7 hbox hb; have b9 := Aside0.mk (hbox); have ga0 := Aside0.mk ((g26_ : w.heap.size ≤ es)); have er1 := Aside0.mk ((g26_ : w.heap.size ≤ es)); replace HB := Aside0.mk (below_step (ft) hb); have ic := Aside0.mk ((g89_ : jk ≠ es)); have rc := Aside0.mk ((g90_ : es ≠ jk)); replace cl := bb_ cl hb; have ks := Aside0.mk ((by rw [hg]; exact Nat.ne_of_lt (blk_lt (g := ka) (o := .cells #[.int .i64 bn, .int .i64 a7, .int .i64 a9, .int .i64 bg] 69 (0, 0)) (uf0_ co)) : ka ≠ es)); have kt := Aside0.mk ((by rw [hg]; exact Nat.ne_of_gt (blk_lt (g := ka) (o := .cells #[.int .i64 bn, .int .i64 a7, .int .i64 a9, .int .i64 bg] 69 (0, 0)) (uf0_ co)) : es ≠ ka)); replace co := bb_ co hb; clear hb hbox hg; have er3 := oz.out; have er4 := o0.out; have ep3 := ic.out; have ep4 := rc.out; obtain ⟨tn, tp, tq, tr⟩ := blk2_ cl) | ((with_reducible refine gate_callee (f := 80) rfl ?_); refine goesL_ (some 12) rfl rfl Try.func80 k_ rfl #[.agg #[.slice ag ab.length ae, .slice ah aa.length af]] rfl (g2_) ?_; (with_reducible refine (spec_l2Copy.calls k _ _ ab _ _ aa dt eg _ ?side1 ?side2 ?side3 ?side4 A3.out).mono ?_); (case side1 => exact uf1_ dd); (case side2 => exact d6.out); (case side3 => exact uf1_ cq); (case side4 => exact d7.out); rintro e w11 ⟨ga1, ga2, rfl, am, ba, hb⟩; refine ⟨_, rfl, ?_⟩; have bo0 := Aside0.mk (Kd.R_lower am (below_size (ft))); have bo1 := Aside0.mk (Kd.S_lower ba (below_size (ft))); replace cl := bb_ cl hb; replace co := bb_ co hb; replace b9 := bb_ b9 hb; replace HB := Aside0.mk (below_step (ft) hb); (try clear hb); (try clear hk hi); (try clear am); (try clear ba)) | ((with_reducible refine gate_dst (N := 7) rfl ?_); refine bx_ (N := 7) #[.slice none 0 0, .slice none 0 0] 25 ?_; intro b4 hg xy hbox hb; replace bo0 := Aside0.mk (Kd.R_below (uf2_ bo0) hb); replace bo1 := Aside0.mk (Kd.S_below (uf3_ bo1) hb); have cc := Aside0.mk (hbox); have ga3 := Aside0.mk ((g26_ : w.heap.size ≤ b4)); have er2 := Aside0.mk ((g26_ : w.heap.size ≤ b4)); replace HB := Aside0.mk (below_step (ft) hb); have al3 := Aside0.mk ((g89_ : jk ≠ b4)); have bo2 := Aside0.mk ((g90_ : b4 ≠ jk)); replace cl := bb_ cl hb; have nh := Aside0.mk ((by rw [hg]; exact Nat.ne_of_lt (blk_lt (g := ka) (o := .cells #[.int .i64 bn, .int .i64 a7, .int .i64 a9, .int .i64 bg] 69 (0, 0)) (uf0_ co)) : ka ≠ b4)); have o1 := Aside0.mk ((by rw [hg]; exact Nat.ne_of_gt (blk_lt (g := ka) (o := .cells #[.int .i64 bn, .int .i64 a7, .int .i64 a9, .int .i64 bg] 69 (0, 0)) (uf0_ co)) : b4 ≠ ka)); replace co := bb_ co hb; have n4 := Aside0.mk ((by rw [hg]; exact Nat.ne_of_lt (blk_lt (g := es) (o := .cells #[.slice none 0 0, .slice none 0 0] 25 (0, 0)) (uf0_ b9)) : es ≠ b4)); have g7 := Aside0.mk ((by rw [hg]; exact Nat.ne_of_gt (blk_lt (g := es) (o := .cells #[.slice none 0 0, .slice none 0 0] 25 (0, 0)) (uf0_ b9)) : b4 ≠ es)); replace b9 := bb_ b9 hb; clear hb hbox hg; obtain ⟨fb, ef, as1⟩ := Kd.R_slice bo0.out; subst as1; have bx6 := bo2.out; have bx7 := al3.out; have cu1 := o1.out; have cu2 := nh.out; have ga4 := g7.out; have ga5 := n4.out; obtain ⟨df8, df9, dg0, dg1⟩ := blk2_ cc; obtain ⟨em, dw, ch8⟩ := Kd.S_slice bo1.out; subst ch8))
 (try simp only [Act.put, List.setIfInBounds_toArray, List.set_cons_zero, List.set_cons_succ])
 go_cut [14] (fun v14 wc => ∃ (kq : Nat) (bo3 : Bool), v14 = .bool bo3 ∧ Aside0 (spec_l9Made.j0 kq (ab.length : Int) bo3 ab aa bn a7 a9 bg dt eg = some (r1, r2, r3)) ∧ Aside0 (kq ≤ k) ∧ Aside0 (Kd.R (Kd.int .i64) 3 wc w.heap.size (fun _ => True) (.slice fb dt.length ef) dt) ∧ Aside0 (Kd.S (Kd.slice 3 (Kd.int .i64)) 22 wc w.heap.size (fun k_ => some k_ ≠ ((.slice fb dt.length ef) : Value).ownBlock) (.slice em eg.length dw) eg) ∧ Aside0 (wc.heap[jk]? = some (.cells #[(.slice ag ab.length ae), (.slice ah aa.length af)] 25 (0, 0))) ∧ Aside0 (wc.heap[ka]? = some (.cells #[.int .i64 bn, .int .i64 a7, .int .i64 a9, .int .i64 bg] 69 (0, 0))) ∧ Aside0 (wc.heap[es]? = some (.cells #[(.slice none 0 0), (.slice none 0 0)] 25 (0, 0))) ∧ Aside0 (wc.heap[b4]? = some (.cells #[(.slice fb dt.length ef), (.slice em eg.length dw)] 25 (0, 0))) ∧ Aside0 (Below w.heap.size w wc))
 case first =>
  have H := HC4.out
  clear HC4
  by_cases dl : bn = 0
  ·rw [if_pos dl] at H
   have lr : (bn == 0) = true := beq_iff_eq.mpr dl
   have pv : (bn != 0) = false := bne_eq_false_iff_eq.mpr dl
   clear dl
   (first | rw [lr] | (simp only [i64_w, i32_w]; rw [lr]) | skip)
   obtain ⟨ax4, ux, H⟩ := bind_ H
   by_cases ip : ax4 = true
   ·subst ip
    replace H := ifp_ H
    by_cases ii : a9 = 0
    ·rw [if_pos ii] at H
     have xe : (a9 == 0) = true := beq_iff_eq.mpr ii
     have ch9 : (a9 != 0) = false := bne_eq_false_iff_eq.mpr ii
     clear ii
     obtain ⟨al2, A23, H⟩ := bind_ H
     have H' := Aside0.mk H
     clear H
     have ga6 := o0.out
     have ga7 := oz.out
     have er5 := ks.out
     have er6 := kt.out
     have df6 := nh.out
     have df7 := o1.out
     obtain ⟨bn2, bn3, dg2, dg3, bn4, bn5, dg4, dg5⟩ := blk4_ co
     have MK65_0 := True.intro
     go_wp2_with (first | (clear MK65_0; go_at_call 65; (with_reducible refine (spec_l1In.calls a7 0 (wrap64 ((ab.length : Int) - 1)) true _ ux.out).mono ?_); rintro e w' ⟨rfl, ⟨nd, rfl⟩⟩) | (go_at_call 65; (with_reducible refine (spec_l1In.calls bg 0 20 al2 _ A23.out).mono ?_); rintro e w' ⟨rfl, ⟨nd, rfl⟩⟩))
     go_meet
     case rel => exact ⟨_, (al2), (g3_), H', ⟨g10_⟩, ⟨g65_⟩, ⟨g66_⟩, ⟨g45_⟩, ⟨g46_⟩, ⟨g47_⟩, ⟨g67_⟩, ⟨ft⟩⟩
    ·rw [if_neg ii] at H
     have xe : (a9 == 0) = false := beq_eq_false_iff_ne.mpr ii
     have ch9 : (a9 != 0) = true := bne_iff_ne.mpr ii
     have H' := Aside0.mk H
     clear H
     have bh0 := o0.out
     have bh1 := oz.out
     have bx3 := ks.out
     have bx4 := kt.out
     have cr0 := nh.out
     have cr1 := o1.out
     obtain ⟨ao7, ao8, bo4, dg6, ao9, ap0, bo5, dg7⟩ := blk4_ co
     go_wp2_with (first | (go_at_call 65; (with_reducible refine (spec_l1In.calls a7 0 (wrap64 ((ab.length : Int) - 1)) true _ ux.out).mono ?_); rintro e w' ⟨rfl, ⟨nd, rfl⟩⟩))
     go_meet
     case rel => exact ⟨_, (false), (g3_), H', ⟨g10_⟩, ⟨g65_⟩, ⟨g66_⟩, ⟨g45_⟩, ⟨g46_⟩, ⟨g47_⟩, ⟨g67_⟩, ⟨ft⟩⟩
   ·replace ip := Bool.eq_false_iff.mpr ip
    subst ip
    replace H := ifn_ H
    have H' := Aside0.mk H
    clear H
    have cf4 := o0.out
    have cf5 := oz.out
    have bf6 := ks.out
    have bf7 := kt.out
    have dg8 := nh.out
    have dg9 := o1.out
    obtain ⟨ai0, ai1, ax5, bo6, ai2, ai3, ax6, bo7⟩ := blk4_ co
    go_wp2_with (first | (go_at_call 65; (with_reducible refine (spec_l1In.calls a7 0 (wrap64 ((ab.length : Int) - 1)) false _ ux.out).mono ?_); rintro e w' ⟨rfl, ⟨nd, rfl⟩⟩))
    go_meet
    case rel => exact ⟨_, (false), (g3_), H', ⟨g10_⟩, ⟨g65_⟩, ⟨g66_⟩, ⟨g45_⟩, ⟨g46_⟩, ⟨g47_⟩, ⟨g67_⟩, ⟨ft⟩⟩
  ·rw [if_neg dl] at H
   have lr : (bn == 0) = false := beq_eq_false_iff_ne.mpr dl
   have pv : (bn != 0) = true := bne_iff_ne.mpr dl
   (first | rw [lr] | (simp only [i64_w, i32_w]; rw [lr]) | skip)
   have H' := Aside0.mk H
   clear H
   have dh0 := o0.out
   have dh1 := oz.out
   have dh2 := ks.out
   have dh3 := kt.out
   have ga8 := nh.out
   have ga9 := o1.out
   obtain ⟨dh4, dh5, dh6, dh7, dh8, dh9, di0, di1⟩ := blk4_ co
   go_wp2
   go_meet
   case rel => exact ⟨_, (false), (g3_), H', ⟨g10_⟩, ⟨g65_⟩, ⟨g66_⟩, ⟨g45_⟩, ⟨g46_⟩, ⟨g47_⟩, ⟨g67_⟩, ⟨ft⟩⟩
 case rest =>
  clear HC4
  try clear c1
  try clear c2
  try clear p2
  try clear c3
  try clear p6
  try clear c8
  try clear c9
  try clear fv
  try clear e3
  try clear ee
  try clear f7
  try clear dl
  try clear lr
  try clear pv
  try clear ip
  try clear ii
  try clear xe
  try clear ch9
  try clear fn
  try clear lg
  try clear r8
  try clear mf
  try clear pt
  try clear m8
  try clear ov
  try clear qv
  try clear li
  try clear jq
  try clear c37
  try clear vp
  try clear tn
  try clear tp
  try clear df8
  try clear df9
  try clear bn2
  try clear bn3
  try clear dg2
  try clear dg3
  try clear ao7
  try clear ao8
  try clear bo4
  try clear dg6
  try clear ai0
  try clear ai1
  try clear ax5
  try clear bo6
  try clear dh4
  try clear dh5
  try clear dh6
  try clear dh7
  try clear tq
  try clear tr
  try clear dg0
  try clear dg1
  try clear bn4
  try clear bn5
  try clear dg4
  try clear dg5
  try clear ao9
  try clear ap0
  try clear bo5
  try clear dg7
  try clear ai2
  try clear ai3
  try clear ax6
  try clear bo7
  try clear dh8
  try clear dh9
  try clear di0
  try clear di1
  obtain ⟨kq, bo3, rfl, HA, HJ3, df, dm, cl, co, b9, cc, HB⟩ := hcut
  cases kq with
  | zero => exact absurd HA.out (by simp [spec_l9Made.j0])
  | succ kj3 =>
   have H := HA.out
   clear HA
   simp only [spec_l9Made.j0] at H
   by_cases ny : bo3 = true
   ·subst ny
    replace H := ifp_ H
    obtain ⟨h9, H⟩ := pos_ H
    have yo := decide_eq_true h9
    clear h9
    obtain ⟨c42, H⟩ := pos_ H
    have er7 := decide_eq_true c42
    clear c42
    obtain ⟨t5, hy288⟩ : ∃ y_ : List Int, y_ = (dt.set (a7 : Int).toNat bg) := ⟨_, rfl⟩
    replace H : ((spec_l9Same.f kj3 t5 eg ab aa).bind fun sl => (some (t5, eg, !sl))) = some (r1, r2, r3) := by first | (rw [hy288]; with_reducible exact H) | (have H2_ := (Option.bind_some _ _).symm.trans H; rw [hy288]; with_reducible exact H2_) | (have H2_ := (Option.bind_some _ _).symm.trans H; with_reducible exact H2_) | with_reducible exact H | (rw [hy288]; exact H) | exact H
    have er8 := Aside0.mk hy288
    clear hy288
    obtain ⟨sl, A44, H⟩ := bind_ H
    simp only [Option.some.injEq, Prod.mk.injEq] at H
    obtain ⟨rfl, rfl, rfl⟩ := H
    have cw9 := bo2.out
    have cx0 := al3.out
    have bz9 := o1.out
    have ca0 := nh.out
    have cf8 := g7.out
    have cf9 := n4.out
    obtain ⟨cg0, cg1, cg2, cg3⟩ := blk2_ cc
    have er9 := o0.out
    have es0 := oz.out
    have es1 := ks.out
    have es2 := kt.out
    obtain ⟨ai9, aj0, bo8, bo9, aj1, aj2, bp0, bp1⟩ := blk4_ co
    have p43 : 0 ≤ (a7 : Int) := of_decide_eq_true (g0_)
    have q43 : (a7 : Int) < ((dt.length : Int) : Int) := of_decide_eq_true (g0_)
    obtain ⟨re, bn8, aw0, di2, gl43, cl43, HG43⟩ := Kd.R_form df.out (by omega)
    (first | cases aw0 | (injection aw0 with ea_ en_ ec_; (first | subst ea_ | (injection ea_ with ea_; subst ea_)); subst ec_; clear en_))
    have GB43 := Aside0.mk di2
    have GG43 := Aside0.mk HG43
    clear di2 gl43 HG43
    obtain ⟨es3, hf43_0⟩ := Kd.R_celln 0 df.out (a7 : Int) p43 q43
    replace p43 := eq_true p43
    replace q43 := eq_true q43
    have HP52 := Kd.R_putg df.out (a7 : Int) bg
    try go_wp2_with (first | ((with_reducible refine gate_store (t := 3) (p := 41) rfl ?_); refine store_event (t := 3) (p := 41) (v := ?vo_w53) (w1 := (wc.setCell ⟨re, (a7 : Int).toNat, none⟩ (.int .i64 bg))) ?hg ?ho ?hn ?hr ?_; (case ho => rfl); (case hg => rfl); (case hn => rfl); (case hr => first | (go_simp; done) | (go_simp; rfl)); intro oq hw; have hg : wc.grownBy oq (some re) := (by rw [hw]; exact HP52.2); have hp_ : Kd.R (Kd.int .i64) 3 oq w.heap.size (fun _ => True) (.slice (some ⟨re, 0, none⟩) dt.length ef) t5 := (by rw [hw, er8.out]; exact HP52.1); clear HP52; replace dm := Aside0.mk (Kd.S_after (v := (.slice (some ⟨re, 0, none⟩) dt.length ef)) (v1 := (.slice (some ⟨re, 0, none⟩) dt.length ef)) (ok := (fun _ => True)) (by (with_reducible repeat (first | apply Kd.S_alloc | apply Kd.S_drewN | apply Kd.S_drew)); exact Kd.S_mono dm.out (fun _ hk => ⟨trivial, hk⟩)) hg (.inl rfl)); replace cl := Aside0.mk (blk_grown (g := jk) (o := .cells #[.slice ag ab.length ae, .slice ah aa.length af] 25 (0, 0)) (uf0_ cl) hg (Kd.R_ne df.out cl.out (by decide))); replace co := Aside0.mk (blk_grown (g := ka) (o := .cells #[.int .i64 bn, .int .i64 a7, .int .i64 a9, .int .i64 bg] 69 (0, 0)) (uf0_ co) hg (Kd.R_ne df.out co.out (by decide))); replace b9 := Aside0.mk (blk_grown (g := es) (o := .cells #[.slice none 0 0, .slice none 0 0] 25 (0, 0)) (uf0_ b9) hg (Kd.R_ne df.out b9.out (by decide))); replace cc := Aside0.mk (blk_grown (g := b4) (o := .cells #[.slice (some ⟨re, 0, none⟩) dt.length ef, .slice em eg.length dw] 25 (0, 0)) (uf0_ cc) hg (Kd.R_ne df.out cc.out (by decide))); replace df := Aside0.mk (hp_); replace HB := Aside0.mk ((by rw [hw]; exact below_set (HB.out) GB43.out : Below w.heap.size w oq)); clear hg hw hp_))
    replace df := Aside0.mk (Kd.R_drew df.out)
    replace dm := Aside0.mk (Kd.S_drew dm.out)
    replace cl := Aside0.mk (blk_drew cl.out)
    replace co := Aside0.mk (blk_drew co.out)
    replace b9 := Aside0.mk (blk_drew b9.out)
    replace cc := Aside0.mk (blk_drew cc.out)
    replace HB := Aside0.mk (below_drew1 HB.out)
    refine start_ (n := 7) (S := fun w' => w'.cell? ⟨b4, 0, none⟩ = some (.slice (some ⟨re, 0, none⟩) dt.length ef) ∧ w'.cell? ⟨b4, 1, none⟩ = some (.slice em eg.length dw) ∧ w'.cell? ⟨jk, 0, none⟩ = some (.slice ag ab.length ae) ∧ w'.cell? ⟨jk, 1, none⟩ = some (.slice ah aa.length af)) (ds := []) (tl_ 7 0) (g1_) rfl (g1_) ⟨(blk_cell cc.out 0).trans rfl, (blk_cell cc.out 1).trans rfl, (blk_cell cl.out 0).trans rfl, (blk_cell cl.out 1).trans rfl⟩ (fun hHeld => ?_)
    generalize oq.drew = w54 at df dm cl co b9 cc HB hHeld ⊢
    refine take_ (i := 0) (N := some 98) (v := ?_) (a' := ?_) (tl_ 7 1) rfl rfl (g1_) (fun _ _ _ h => h) (Or.inl ⟨by rfl, ?_⟩) hHeld ?_ ?_
    rotate_left
    ·rintro w' ⟨s0, s1, s2, s3⟩
     go_simp
     with_reducible rfl
    rotate_left
    ·simp only [Act.put, List.setIfInBounds_toArray, List.set_cons_zero, List.set_cons_succ, i64_w, i32_w]
     rfl
    refine take_ (i := 1) (N := some 99) (v := ?_) (a' := ?_) (tl_ 7 3) rfl rfl (g1_) (fun _ _ _ h => h) (Or.inl ⟨by rfl, ?_⟩) hHeld ?_ ?_
    rotate_left
    ·rintro w' ⟨s0, s1, s2, s3⟩
     go_simp
     with_reducible rfl
    rotate_left
    ·simp only [Act.put, List.setIfInBounds_toArray, List.set_cons_zero, List.set_cons_succ, i64_w, i32_w]
     rfl
    refine take_ (i := 2) (N := some 100) (v := ?_) (a' := ?_) (tl_ 7 7) rfl rfl (g1_) (fun _ _ _ h => h) (Or.inl ⟨by rfl, ?_⟩) hHeld ?_ ?_
    rotate_left
    ·rintro w' ⟨s0, s1, s2, s3⟩
     go_simp
     with_reducible rfl
    rotate_left
    ·simp only [Act.put, List.setIfInBounds_toArray, List.set_cons_zero, List.set_cons_succ, i64_w, i32_w]
     rfl
    refine one_ (i := 3) (N := some 101) (tl_ 7 15) rfl rfl (g1_) (by decide) (fun K hK => ?_)
    refine goes_ Try.func122 (g1_) rfl #[.agg #[.slice (some ⟨re, 0, none⟩) t5.length ef, .slice em eg.length dw], .agg #[.slice ag ab.length ae, .slice ah aa.length af]] (by rfl) rfl rfl (by (try simp only [List.map_toArray, List.map_cons, List.map_nil]); first | done | (rw [show t5.length = dt.length from (Kd.R_reads' df.out).1.symm] <;> rfl) | rfl | (simp only [List.length_drop, List.length_take]; rfl)) ?_
    with_reducible refine (spec_l9Same.calls kj3 _ _ t5 _ _ eg _ _ ab _ _ aa sl _ ?side1 ?side2 ?side3 ?side4 ?side5 ?side6 ?side7 ?side8 A44.out).mono ?_
    (case side1 => repeat (first | exact (Kd.R_reads' df.out).2.2 | (with_reducible refine Kd.C_alloc ?_ _) | (with_reducible refine Kd.C_drewN ?_ _) | (with_reducible refine Kd.C_drew ?_)))
    (case side2 => rw [show t5.length = dt.length from (Kd.R_reads' df.out).1.symm]; exact (Kd.R_reads' df.out).2.1)
    (case side3 => repeat (first | exact (Kd.S_reads' dm.out).2.2 | (with_reducible refine Kd.C_alloc ?_ _) | (with_reducible refine Kd.C_drewN ?_ _) | (with_reducible refine Kd.C_drew ?_)))
    (case side4 => exact (Kd.S_reads' dm.out).2.1)
    (case side5 => exact uf1_ dd)
    (case side6 => exact d6.out)
    (case side7 => exact uf1_ cq)
    (case side8 => exact d7.out)
    rintro e w55 ⟨rfl, hb⟩
    refine ⟨_, rfl, ?_⟩
    replace df := Aside0.mk (Kd.R_below (uf2_ df) hb)
    replace dm := Aside0.mk (Kd.S_below (uf3_ dm) hb)
    replace cl := bb_ cl hb
    replace co := bb_ co hb
    replace b9 := bb_ b9 hb
    replace cc := bb_ cc hb
    replace HB := Aside0.mk (below_step (ft) hb)
    (try clear hb)
    (try clear hk hi)
    refine hK.out _ _ ⟨(blk_cell cc.out 0).trans rfl, (blk_cell cc.out 1).trans rfl, (blk_cell cl.out 0).trans rfl, (blk_cell cl.out 1).trans rfl⟩ (fun hHeld => ?_)
    clear hK K
    refine nm_ ?_
    refine pure_ (i := 4) (N := some 102) (v := ?_) (a' := ?_) (tl_ 7 31) rfl rfl (g1_) (fun _ _ _ h => h) (Or.inl ⟨by rfl, ?_⟩) ?_ ?_
    rotate_left
    ·intro w'
     go_simp
     with_reducible rfl
    rotate_left
    ·simp only [Act.put, List.setIfInBounds_toArray, List.set_cons_zero, List.set_cons_succ, i64_w, i32_w]
     rfl
    refine one_ (i := 5) (N := none) (tl_ 7 63) rfl rfl (g1_) (by decide) (fun K hK => ?_)
    have gb0 : w55.cell? ⟨es, 0, none⟩ = some (.slice none 0 0) := (blk_cell b9.out 0).trans rfl
    have gb1 := blk_frozen b9.out 0
    have gb2 := ic.out
    have gb3 := ks.out
    have gb4 := g7.out
    have gb5 := rc.out
    have gb6 := kt.out
    have gb7 := n4.out
    have gb8 : w55.cell? ⟨es, 1, none⟩ = some (.slice none 0 0) := (blk_cell b9.out 1).trans rfl
    have gb9 := blk_frozen b9.out 1
    have gc0 := ic.out
    have gc1 := ks.out
    have gc2 := g7.out
    have gc3 := rc.out
    have gc4 := kt.out
    have gc5 := n4.out
    refine skip_ (w1 := ?_) (by rfl) rfl ?_ ?_
    rotate_left
    ·go_simp
     rfl
    refine hK.out _ _ ⟨(cf_ g7 ((cf_ g7 (hHeld.1)))), (cf_ g7 ((cf_ g7 (hHeld.2.1)))), (cf_ ic ((cf_ ic (hHeld.2.2.1)))), (cf_ ic ((cf_ ic (hHeld.2.2.2))))⟩ (fun hHeld => ?_)
    clear hK K
    refine pure_ (i := 6) (N := some 5) (v := ?_) (a' := ?_) (tl_ 7 127) rfl rfl (g1_) (fun _ _ _ h => h) (Or.inl ⟨by rfl, ?_⟩) ?_ ?_
    rotate_left
    ·intro w'
     go_simp
     with_reducible rfl
    rotate_left
    ·simp only [Act.put, List.setIfInBounds_toArray, List.set_cons_zero, List.set_cons_succ, i64_w, i32_w]
     rfl
    refine done_ (g1_) ?_
    try go_wp2
    refine bodyPost_ret (results_ct rfl _ _ es 25 #[.slice (some ⟨re, 0, none⟩) dt.length ef, .slice em eg.length dw] (0, 0) _ rfl (by (with_reducible repeat (first | refine blk_drewN ?_ _ | refine blk_drew ?_ | refine blk_alloc ?_ _)); refine blk_put (cs := #[.slice (some ⟨re, 0, none⟩) dt.length ef, .slice none 0 0]) ?_ 1 _ rfl; refine blk_put (cs := #[.slice none 0 0, .slice none 0 0]) ?_ 0 _ rfl; exact uf0_ b9) Try.underlying25 rfl (g1_)) rfl ?_
    exact ⟨_, _, g4_, by (with_reducible repeat (first | apply Kd.R_alloc | apply Kd.R_drewN | apply Kd.R_drew)); exact Kd.R_mono (Kd.R_far (p := ⟨es, 1, none⟩) (Kd.R_far (p := ⟨es, 0, none⟩) (Kd.R_types df.out b9.out (by decide)) (fun _ hk => hk.2) (.slice (some ⟨re, 0, none⟩) dt.length ef)) (fun _ hk => hk.2) (.slice em eg.length dw)) (fun _ hk => trivial), by (with_reducible repeat (first | apply Kd.S_alloc | apply Kd.S_drewN | apply Kd.S_drew)); exact Kd.S_mono (Kd.S_far (p := ⟨es, 1, none⟩) (Kd.S_far (p := ⟨es, 0, none⟩) (Kd.S_types dm.out b9.out (by decide)) (fun _ hk => hk.2) (.slice (some ⟨re, 0, none⟩) dt.length ef)) (fun _ hk => hk.2) (.slice em eg.length dw)) (fun _ hk => hk.1.2), ft⟩
   ·replace ny := Bool.eq_false_iff.mpr ny
    subst ny
    replace H := ifn_ H
    have ci0 := Aside0.mk H
    clear H
    go_upto_region 6 with (fail)
    go_cut [42] (fun v42 wc => ∃ (kq : Nat) (bp2 : Bool), v42 = .bool bp2 ∧ Aside0 (spec_l9Made.j1 kq bp2 ab aa bn a7 a9 bg dt eg = some (r1, r2, r3)) ∧ Aside0 (kq ≤ kj3) ∧ Aside0 (Kd.R (Kd.int .i64) 3 wc w.heap.size (fun _ => True) (.slice fb dt.length ef) dt) ∧ Aside0 (Kd.S (Kd.slice 3 (Kd.int .i64)) 22 wc w.heap.size (fun k_ => some k_ ≠ ((.slice fb dt.length ef) : Value).ownBlock) (.slice em eg.length dw) eg) ∧ Aside0 (wc.heap[jk]? = some (.cells #[(.slice ag ab.length ae), (.slice ah aa.length af)] 25 (0, 0))) ∧ Aside0 (wc.heap[ka]? = some (.cells #[.int .i64 bn, .int .i64 a7, .int .i64 a9, .int .i64 bg] 69 (0, 0))) ∧ Aside0 (wc.heap[es]? = some (.cells #[(.slice none 0 0), (.slice none 0 0)] 25 (0, 0))) ∧ Aside0 (wc.heap[b4]? = some (.cells #[(.slice fb dt.length ef), (.slice em eg.length dw)] 25 (0, 0))) ∧ Aside0 (Below w.heap.size w wc))
    case first =>
     have H := ci0.out
     clear ci0
     by_cases pz : bn = 1
     ·rw [if_pos pz] at H
      have al4 : (bn == 1) = true := beq_iff_eq.mpr pz
      have di3 : (bn != 1) = false := bne_eq_false_iff_eq.mpr pz
      clear pz
      (first | rw [al4] | (simp only [i64_w, i32_w]; rw [al4]) | skip)
      obtain ⟨t3, A60, H⟩ := bind_ H
      by_cases c61 : t3 = true
      ·subst c61
       replace H := ifp_ H
       obtain ⟨ch6, A62, H⟩ := bind_ H
       by_cases t6 : ch6 = true
       ·subst t6
        replace H := ifp_ H
        by_cases zj : a7 = a9
        ·rw [if_pos zj] at H
         have di4 : (a7 == a9) = true := beq_iff_eq.mpr zj
         have di5 : (a7 != a9) = false := bne_eq_false_iff_eq.mpr zj
         clear zj
         have H' := Aside0.mk H
         clear H
         have gc6 := o0.out
         have gc7 := oz.out
         have gc8 := ks.out
         have gc9 := kt.out
         have es4 := nh.out
         have es5 := o1.out
         obtain ⟨ci1, ci2, ci3, es6, ci4, ci5, ci6, es7⟩ := blk4_ co
         have MK65_0 := True.intro
         go_wp2_with (first | (clear MK65_0; go_at_call 65; (with_reducible refine (spec_l1In.calls a7 0 (wrap64 ((ab.length : Int) - 1)) true _ A60.out).mono ?_); rintro e w' ⟨rfl, ⟨nd, rfl⟩⟩) | (go_at_call 65; (with_reducible refine (spec_l1In.calls a9 0 (wrap64 ((ab.length : Int) - 1)) true _ A62.out).mono ?_); rintro e w' ⟨rfl, ⟨nd, rfl⟩⟩))
         go_meet
         case rel => exact ⟨_, (false), (g3_), H', ⟨g60_⟩, ⟨uf2_ df⟩, ⟨uf3_ dm⟩, ⟨uf0_ cl⟩, ⟨uf0_ co⟩, ⟨uf0_ b9⟩, ⟨uf0_ cc⟩, ⟨ft⟩⟩
        ·rw [if_neg zj] at H
         have di4 : (a7 == a9) = false := beq_eq_false_iff_ne.mpr zj
         have di5 : (a7 != a9) = true := bne_iff_ne.mpr zj
         obtain ⟨bn9, A69, H⟩ := bind_ H
         have H' := Aside0.mk H
         clear H
         have di6 := o0.out
         have di7 := oz.out
         have di8 := ks.out
         have di9 := kt.out
         have gd0 := nh.out
         have gd1 := o1.out
         obtain ⟨es8, es9, et0, et1, et2, et3, et4, et5⟩ := blk4_ co
         have MK65_0 := True.intro
         have MK65_1 := True.intro
         go_wp2_with (first | (clear MK65_0; go_at_call 65; (with_reducible refine (spec_l1In.calls a7 0 (wrap64 ((ab.length : Int) - 1)) true _ A60.out).mono ?_); rintro e w' ⟨rfl, ⟨nd, rfl⟩⟩) | (clear MK65_1; go_at_call 65; (with_reducible refine (spec_l1In.calls a9 0 (wrap64 ((ab.length : Int) - 1)) true _ A62.out).mono ?_); rintro e w' ⟨rfl, ⟨nd, rfl⟩⟩) | (go_at_call 65; (with_reducible refine (spec_l1In.calls bg 0 9 bn9 _ A69.out).mono ?_); rintro e w' ⟨rfl, ⟨nd, rfl⟩⟩))
         go_meet
         case rel => exact ⟨_, (bn9), (g3_), H', ⟨g60_⟩, ⟨uf2_ df⟩, ⟨uf3_ dm⟩, ⟨uf0_ cl⟩, ⟨uf0_ co⟩, ⟨uf0_ b9⟩, ⟨uf0_ cc⟩, ⟨ft⟩⟩
       ·replace t6 := Bool.eq_false_iff.mpr t6
        subst t6
        replace H := ifn_ H
        have H' := Aside0.mk H
        clear H
        have dj0 := o0.out
        have dj1 := oz.out
        have gd2 := ks.out
        have gd3 := kt.out
        have gd4 := nh.out
        have gd5 := o1.out
        obtain ⟨et6, et7, et8, et9, eu2, eu3, eu4, eu5⟩ := blk4_ co
        have MK65_0 := True.intro
        go_wp2_with (first | (clear MK65_0; go_at_call 65; (with_reducible refine (spec_l1In.calls a7 0 (wrap64 ((ab.length : Int) - 1)) true _ A60.out).mono ?_); rintro e w' ⟨rfl, ⟨nd, rfl⟩⟩) | (go_at_call 65; (with_reducible refine (spec_l1In.calls a9 0 (wrap64 ((ab.length : Int) - 1)) false _ A62.out).mono ?_); rintro e w' ⟨rfl, ⟨nd, rfl⟩⟩))
        go_meet
        case rel => exact ⟨_, (false), (g3_), H', ⟨g60_⟩, ⟨uf2_ df⟩, ⟨uf3_ dm⟩, ⟨uf0_ cl⟩, ⟨uf0_ co⟩, ⟨uf0_ b9⟩, ⟨uf0_ cc⟩, ⟨ft⟩⟩
      ·replace c61 := Bool.eq_false_iff.mpr c61
       subst c61
       replace H := ifn_ H
       have H' := Aside0.mk H
       clear H
       have eu6 := o0.out
       have eu7 := oz.out
       have dj2 := ks.out
       have dj3 := kt.out
       have eu8 := nh.out
       have eu9 := o1.out
       obtain ⟨ev0, ev1, ev2, ev3, ev4, ev5, ev6, ev7⟩ := blk4_ co
       go_wp2_with (first | (go_at_call 65; (with_reducible refine (spec_l1In.calls a7 0 (wrap64 ((ab.length : Int) - 1)) false _ A60.out).mono ?_); rintro e w' ⟨rfl, ⟨nd, rfl⟩⟩))
       go_meet
       case rel => exact ⟨_, (false), (g3_), H', ⟨g60_⟩, ⟨uf2_ df⟩, ⟨uf3_ dm⟩, ⟨uf0_ cl⟩, ⟨uf0_ co⟩, ⟨uf0_ b9⟩, ⟨uf0_ cc⟩, ⟨ft⟩⟩
     ·rw [if_neg pz] at H
      have al4 : (bn == 1) = false := beq_eq_false_iff_ne.mpr pz
      have di3 : (bn != 1) = true := bne_iff_ne.mpr pz
      (first | rw [al4] | (simp only [i64_w, i32_w]; rw [al4]) | skip)
      have H' := Aside0.mk H
      clear H
      have dj4 := o0.out
      have dj5 := oz.out
      have ev8 := ks.out
      have ev9 := kt.out
      have ew0 := nh.out
      have ew1 := o1.out
      obtain ⟨dj6, dj7, dj8, ew2, dj9, dk0, dk1, ew3⟩ := blk4_ co
      go_wp2
      go_meet
      case rel => exact ⟨_, (false), (g3_), H', ⟨g60_⟩, ⟨uf2_ df⟩, ⟨uf3_ dm⟩, ⟨uf0_ cl⟩, ⟨uf0_ co⟩, ⟨uf0_ b9⟩, ⟨uf0_ cc⟩, ⟨ft⟩⟩
    case rest =>
     clear ci0
     try clear c1
     try clear c2
     try clear p2
     try clear c3
     try clear c4
     try clear p4
     try clear q4
     try clear hx4
     try clear hf4
     try clear c5
     try clear c6
     try clear p6
     try clear c7
     try clear c8
     try clear c9
     try clear fv
     try clear hx
     try clear e3
     try clear ee
     try clear f7
     try clear dl
     try clear lr
     try clear pv
     try clear ip
     try clear ii
     try clear xe
     try clear ch9
     try clear fn
     try clear lg
     try clear r8
     try clear mf
     try clear pt
     try clear m8
     try clear ov
     try clear qv
     try clear li
     try clear jq
     try clear c37
     try clear vp
     try clear ny
     try clear h9
     try clear yo
     try clear c42
     try clear er7
     try clear p43
     try clear q43
     try clear gd6
     try clear hf43
     try clear c45
     try clear c46
     try clear c47
     try clear c49
     try clear c50
     try clear pz
     try clear al4
     try clear di3
     try clear c61
     try clear t6
     try clear zj
     try clear di4
     try clear di5
     try clear p64
     try clear c65
     try clear t7
     try clear c67
     try clear c70
     try clear zk
     try clear c72
     try clear c74
     try clear c75
     try clear c76
     try clear c78
     try clear c79
     try clear c80
     try clear c82
     try clear c83
     try clear c84
     try clear tn
     try clear tp
     try clear df8
     try clear df9
     try clear bn2
     try clear bn3
     try clear dg2
     try clear dg3
     try clear ao7
     try clear ao8
     try clear bo4
     try clear dg6
     try clear ai0
     try clear ai1
     try clear ax5
     try clear bo6
     try clear dh4
     try clear dh5
     try clear dh6
     try clear dh7
     try clear cg0
     try clear cg1
     try clear ai9
     try clear aj0
     try clear bo8
     try clear bo9
     try clear ci1
     try clear ci2
     try clear ci3
     try clear es6
     try clear es8
     try clear es9
     try clear et0
     try clear et1
     try clear et6
     try clear et7
     try clear et8
     try clear et9
     try clear ev0
     try clear ev1
     try clear ev2
     try clear ev3
     try clear dj6
     try clear dj7
     try clear dj8
     try clear ew2
     try clear tq
     try clear tr
     try clear dg0
     try clear dg1
     try clear bn4
     try clear bn5
     try clear dg4
     try clear dg5
     try clear ao9
     try clear ap0
     try clear bo5
     try clear dg7
     try clear ai2
     try clear ai3
     try clear ax6
     try clear bo7
     try clear dh8
     try clear dh9
     try clear di0
     try clear di1
     try clear cg2
     try clear cg3
     try clear aj1
     try clear aj2
     try clear bp0
     try clear bp1
     try clear ci4
     try clear ci5
     try clear ci6
     try clear es7
     try clear et2
     try clear et3
     try clear et4
     try clear et5
     try clear eu2
     try clear eu3
     try clear eu4
     try clear eu5
     try clear ev4
     try clear ev5
     try clear ev6
     try clear ev7
     try clear dj9
     try clear dk0
     try clear dk1
     try clear ew3
     try clear es3
     try clear p2
     try clear p43
     try clear p6
     try clear q43
     obtain ⟨kq, bp2, rfl, HA, HJ57, df, dm, cl, co, b9, cc, HB⟩ := hcut
     cases kq with
     | zero => exact absurd HA.out (by simp [spec_l9Made.j1])
     | succ kj57 =>
      have H := HA.out
      clear HA
      simp only [spec_l9Made.j1] at H
      by_cases c86 : bp2 = true
      ·subst c86
       replace H := ifp_ H
       obtain ⟨c87, H⟩ := pos_ H
       have gd7 := decide_eq_true c87
       clear c87
       obtain ⟨c88, H⟩ := pos_ H
       have gd8 := decide_eq_true c88
       clear c88
       obtain ⟨c89, H⟩ := pos_ H
       have gd9 := decide_eq_true c89
       clear c89
       obtain ⟨c90, H⟩ := pos_ H
       have ge0 := decide_eq_true c90
       clear c90
       obtain ⟨ci7, hy294⟩ : ∃ y_ : List Int, y_ = ((rd_L1 eg a7).set (a9 : Int).toNat bg) := ⟨_, rfl⟩
       replace H : ((some (eg.set (a7 : Int).toNat ci7 : List (List Int))).bind fun px => ((spec_l9Same.f kj57 dt px ab aa).bind fun ib => (some (dt, px, !ib)))) = some (r1, r2, r3) := by first | (rw [hy294]; with_reducible exact H) | (have H2_ := (Option.bind_some _ _).symm.trans H; rw [hy294]; with_reducible exact H2_) | (have H2_ := (Option.bind_some _ _).symm.trans H; with_reducible exact H2_) | with_reducible exact H | (rw [hy294]; exact H) | exact H
       have ew4 := Aside0.mk hy294
       clear hy294
       obtain ⟨px, hy296⟩ : ∃ y_ : List (List Int), y_ = (eg.set (a7 : Int).toNat ci7) := ⟨_, rfl⟩
       replace H : ((spec_l9Same.f kj57 dt px ab aa).bind fun ib => (some (dt, px, !ib))) = some (r1, r2, r3) := by first | (rw [hy296]; with_reducible exact H) | (have H2_ := (Option.bind_some _ _).symm.trans H; rw [hy296]; with_reducible exact H2_) | (have H2_ := (Option.bind_some _ _).symm.trans H; with_reducible exact H2_) | with_reducible exact H | (rw [hy296]; exact H) | exact H
       have ew5 := Aside0.mk hy296
       clear hy296
       obtain ⟨ib, A92, H⟩ := bind_ H
       simp only [Option.some.injEq, Prod.mk.injEq] at H
       obtain ⟨rfl, rfl, rfl⟩ := H
       try go_wp2
       replace df := Aside0.mk (Kd.R_drew df.out)
       replace dm := Aside0.mk (Kd.S_drew dm.out)
       replace cl := Aside0.mk (blk_drew cl.out)
       replace co := Aside0.mk (blk_drew co.out)
       replace b9 := Aside0.mk (blk_drew b9.out)
       replace cc := Aside0.mk (blk_drew cc.out)
       replace HB := Aside0.mk (below_drew1 HB.out)
       have bp3 : 0 ≤ (a7 : Int) := of_decide_eq_true (g0_)
       have bp4 : a7 < (eg.length : Int) := of_decide_eq_true (g0_)
       obtain ⟨vv, ge1, ew6, ew7, bp5, dk2, dk3⟩ := at_L1 (Kd.S_reads' dm.out).2.2 a7 bp3 bp4
       cases ew7
       obtain ⟨ce293, hce293, hMe293, hcc293⟩ := Kd.S_get dm.out [] a7 bp3 (by first | exact bp4 | exact of_decide_eq_true (g0_) | (have e_ := (Kd.S_reads' dm.out).1; omega))
       obtain ⟨ve293_0, rfl, ge293_0⟩ := hMe293
       have hv293_0 := hcc293 0 _ rfl
       rw [Nat.add_zero, show ((Kd.slice 3 (Kd.int .i64))).sz = 1 from rfl, Nat.mul_one] at hv293_0
       replace hv293_0 := Option.some.inj (hv293_0.symm.trans bp5)
       rw [hv293_0] at ge293_0
       have zl := Aside0.mk (show Kd.R (Kd.int .i64) 3 _ _ _ _ (rd_L1 eg a7) from ge293_0)
       clear hv293_0 ge293_0
       have HX293_0 := Aside0.mk bp5
       clear hcc293 hce293
       have ew8 := Aside0.mk dk3
       have ge2 := Aside0.mk dk2
       clear dk3 dk2
       replace bp3 := eq_true bp3
       replace bp4 := eq_true bp4
       have p91 : 0 ≤ (a9 : Int) := of_decide_eq_true (g0_)
       have q91 : (a9 : Int) < (((rd_L1 eg a7).length : Int) : Int) := of_decide_eq_true (g0_)
       obtain ⟨t8, ge3, dk4, dk5, gl91, cl91, HG91⟩ := Kd.R_form zl.out (by omega)
       (first | cases dk4 | (injection dk4 with ea_ en_ ec_; (first | subst ea_ | (injection ea_ with ea_; subst ea_)); subst ec_; clear en_))
       have GB91 := Aside0.mk dk5
       have GG91 := Aside0.mk HG91
       clear dk5 gl91 HG91
       obtain ⟨ew9, hf91_0⟩ := Kd.R_celln 0 zl.out (a9 : Int) p91 q91
       replace p91 := eq_true p91
       replace q91 := eq_true q91
       have hq94 : (a7 : Int) < (eg.length : Int) := (by have h_ : (a7 : Int) < ((eg.length : Int) : Int) := of_decide_eq_true (g0_); first | exact h_ | (have e_ := (Kd.S_reads' dm.out).1; omega) | simpa only [List.length_set, List.length_set] using h_)
       obtain ⟨oki94, ce94, hcl94, hM94, hcc94, hok94, hbk94⟩ := Kd.S_borrow dm.out [] (a7 : Int) (of_decide_eq_true (g0_)) (by first | exact hq94 | exact of_decide_eq_true (g0_) | (have e_ := (Kd.S_reads' dm.out).1; omega))
       obtain ⟨ve94_0, rfl, ge94_0⟩ := hM94
       have hv94 := hcc94 0 _ rfl
       rw [Nat.add_zero, show ((Kd.slice 3 (Kd.int .i64))).sz = 1 from rfl, Nat.mul_one] at hv94
       replace hv94 := Option.some.inj (hv94.symm.trans HX293_0.out)
       subst hv94
       clear hcc94 hcl94
       replace ge94_0 := (show Kd.R (Kd.int .i64) 3 _ _ _ _ (rd_L1 eg a7) from ge94_0)
       have HP94 := Kd.R_putg ge94_0 (a9 : Int) bg
       rw [← ew4.out] at HP94
       have HS94 := hbk94 HP94.2 (fun k_ e_ => by injection e_ with e_; subst e_; exact ge94_0.1 _ rfl) (x' := ci7) (Kd.M_row HP94.1)
       rw [← ew5.out] at HS94
       have HQ94 := Aside0.mk HS94
       clear HP94 HS94 hbk94 hok94
       refine start_ (n := 12) (S := fun w' => w'.cell? ⟨b4, 0, none⟩ = some (.slice fb dt.length ef) ∧ w'.cell? ⟨b4, 1, none⟩ = some (.slice (some vv) eg.length dw) ∧ w'.cell? ⟨ka, 0, none⟩ = some (.int .i64 bn) ∧ w'.cell? ⟨ka, 1, none⟩ = some (.int .i64 a7) ∧ w'.cell? ⟨ka, 2, none⟩ = some (.int .i64 a9) ∧ w'.cell? ⟨ka, 3, none⟩ = some (.int .i64 bg) ∧ w'.cell? (vv.add (a7).toNat) = some (.slice (some ⟨t8, 0, none⟩) (rd_L1 eg a7).length ew6)) (ds := [11]) (tl_ 12 0) (g1_) rfl (g1_) ⟨(blk_cell cc.out 0).trans rfl, (blk_cell cc.out 1).trans rfl, (blk_cell co.out 0).trans rfl, (blk_cell co.out 1).trans rfl, (blk_cell co.out 2).trans rfl, (blk_cell co.out 3).trans rfl, bp5⟩ (fun hHeld => ?_); refine with_tabW spec_l9Made.tab7 spec_l9Made.bits7 (fun HT_ HW_ => ?_)
       generalize wc.drew = zm at df dm cl co b9 cc HB GG91 zl HQ94 ew8 HX293_0 hf91_0 bp5 ew9 hHeld ⊢
       refine pw_ 0 72 (tl_ 12 1) rfl rfl ?_
       refine pw_ 2 74 (tl_ 12 5) rfl rfl ?_
       refine pw_ 6 78 (tl_ 12 69) rfl rfl ?_
       refine pw_ 8 80 (tl_ 12 325) rfl rfl ?_
       refine tk3_ 1 73 (tl_ 12 327) rfl rfl hHeld ?_
       refine tk3_ 3 75 (tl_ 12 335) rfl rfl hHeld ?_
       refine pw_ 4 76 (tl_ 12 351) rfl rfl ?_
       refine tk3_ 5 77 (tl_ 12 383) rfl rfl hHeld ?_
       refine tk3_ 7 79 (tl_ 12 511) rfl rfl hHeld ?_
       refine tk3_ 9 81 (tl_ 12 1023) rfl rfl hHeld ?_
       refine pw_ 10 82 (tl_ 12 2047) rfl rfl ?_
       refine last_ (i := 11) (N := none) (tl_ 12 4095) rfl rfl (one_of HT_.out (g1_)) (by decide) (fun K hK => ?_)
       refine skip_ (w1 := ?_) (by rfl) rfl ?_ ?_
       rotate_left
       ·go_simp
        rfl
       refine hK.out _ _ ?_
       clear hK K
       refine done_ (done_of HT_.out (g1_)) ?_
       have n0_ : Aside0 (Kd.R (Kd.int .i64) 3 (zm.setCell ⟨t8, (a9 : Int).toNat, none⟩ (.int .i64 bg)) w.heap.size (fun _ => True) (.slice fb dt.length ef) dt) := ⟨by (with_reducible repeat (first | apply Kd.R_alloc | apply Kd.R_drewN | apply Kd.R_drew)); exact Kd.R_mono (Kd.R_far (p := ⟨t8, (a9 : Int).toNat, none⟩) (Kd.R_far1 df.out rfl ((zl.out.1 _ rfl).1)) (fun _ hk => hk.2) (.int .i64 bg)) (fun _ hk => trivial)⟩
       have n1_ : Aside0 (Kd.S (Kd.slice 3 (Kd.int .i64)) 22 (zm.setCell ⟨t8, (a9 : Int).toNat, none⟩ (.int .i64 bg)) w.heap.size (fun k_ => some k_ ≠ (.slice fb dt.length ef : Value).ownBlock) (.slice (some vv) eg.length dw) px) := ⟨uf3_ HQ94⟩
       have n2_ : Aside0 ((zm.setCell ⟨t8, (a9 : Int).toNat, none⟩ (.int .i64 bg)).heap[jk]? = some (.cells #[.slice ag ab.length ae, .slice ah aa.length af] 25 (0, 0))) := ⟨by (with_reducible repeat (first | refine blk_drewN ?_ _ | refine blk_drew ?_ | refine blk_alloc ?_ _)); refine blk_far ?_ (by have h_ := Kd.R_ne zl.out cl.out (by decide); intro e_; exact h_ (g5_)) _; exact uf0_ cl⟩
       have n3_ : Aside0 ((zm.setCell ⟨t8, (a9 : Int).toNat, none⟩ (.int .i64 bg)).heap[ka]? = some (.cells #[.int .i64 bn, .int .i64 a7, .int .i64 a9, .int .i64 bg] 69 (0, 0))) := ⟨by (with_reducible repeat (first | refine blk_drewN ?_ _ | refine blk_drew ?_ | refine blk_alloc ?_ _)); refine blk_far ?_ (by have h_ := Kd.R_ne zl.out co.out (by decide); intro e_; exact h_ (g5_)) _; exact uf0_ co⟩
       have n4_ : Aside0 ((zm.setCell ⟨t8, (a9 : Int).toNat, none⟩ (.int .i64 bg)).heap[es]? = some (.cells #[.slice none 0 0, .slice none 0 0] 25 (0, 0))) := ⟨by (with_reducible repeat (first | refine blk_drewN ?_ _ | refine blk_drew ?_ | refine blk_alloc ?_ _)); refine blk_far ?_ (by have h_ := Kd.R_ne zl.out b9.out (by decide); intro e_; exact h_ (g5_)) _; exact uf0_ b9⟩
       have n5_ : Aside0 ((zm.setCell ⟨t8, (a9 : Int).toNat, none⟩ (.int .i64 bg)).heap[b4]? = some (.cells #[.slice fb dt.length ef, .slice (some vv) eg.length dw] 25 (0, 0))) := ⟨by (with_reducible repeat (first | refine blk_drewN ?_ _ | refine blk_drew ?_ | refine blk_alloc ?_ _)); refine blk_far ?_ (by have h_ := Kd.R_ne zl.out cc.out (by decide); intro e_; exact h_ (g5_)) _; exact uf0_ cc⟩
       have n6_ : Aside0 (Below w.heap.size w (zm.setCell ⟨t8, (a9 : Int).toNat, none⟩ (.int .i64 bg))) := ⟨ft⟩
       (try clear df)
       (try clear dm)
       (try clear cl)
       (try clear co)
       (try clear b9)
       (try clear cc)
       (try clear HB)
       generalize (zm.setCell ⟨t8, (a9 : Int).toNat, none⟩ (.int .i64 bg)) = w96 at n0_ n1_ n2_ n3_ n4_ n5_ n6_ ⊢
       have df := n0_
       have dm := n1_
       have cl := n2_
       have co := n3_
       have b9 := n4_
       have cc := n5_
       have HB := n6_
       clear n0_ n1_ n2_ n3_ n4_ n5_ n6_
       try go_wp2
       replace df := Aside0.mk (Kd.R_drew df.out)
       replace dm := Aside0.mk (Kd.S_drew dm.out)
       replace cl := Aside0.mk (blk_drew cl.out)
       replace co := Aside0.mk (blk_drew co.out)
       replace b9 := Aside0.mk (blk_drew b9.out)
       replace cc := Aside0.mk (blk_drew cc.out)
       replace HB := Aside0.mk (below_drew1 HB.out)
       refine start_ (n := 7) (S := fun w' => w'.cell? ⟨b4, 0, none⟩ = some (.slice fb dt.length ef) ∧ w'.cell? ⟨b4, 1, none⟩ = some (.slice (some vv) eg.length dw) ∧ w'.cell? ⟨jk, 0, none⟩ = some (.slice ag ab.length ae) ∧ w'.cell? ⟨jk, 1, none⟩ = some (.slice ah aa.length af)) (ds := []) (tl_ 7 0) (g1_) rfl (g1_) ⟨(blk_cell cc.out 0).trans rfl, (blk_cell cc.out 1).trans rfl, (blk_cell cl.out 0).trans rfl, (blk_cell cl.out 1).trans rfl⟩ (fun hHeld => ?_)
       generalize w96.drew = w97 at df dm cl co b9 cc HB hHeld ⊢
       refine take_ (i := 0) (N := some 98) (v := ?_) (a' := ?_) (tl_ 7 1) rfl rfl (g1_) (fun _ _ _ h => h) (Or.inl ⟨by rfl, ?_⟩) hHeld ?_ ?_
       rotate_left
       ·rintro w' ⟨s0, s1, s2, s3⟩
        go_simp
        with_reducible rfl
       rotate_left
       ·simp only [Act.put, List.setIfInBounds_toArray, List.set_cons_zero, List.set_cons_succ, i64_w, i32_w]
        rfl
       refine take_ (i := 1) (N := some 99) (v := ?_) (a' := ?_) (tl_ 7 3) rfl rfl (g1_) (fun _ _ _ h => h) (Or.inl ⟨by rfl, ?_⟩) hHeld ?_ ?_
       rotate_left
       ·rintro w' ⟨s0, s1, s2, s3⟩
        go_simp
        with_reducible rfl
       rotate_left
       ·simp only [Act.put, List.setIfInBounds_toArray, List.set_cons_zero, List.set_cons_succ, i64_w, i32_w]
        rfl
       refine take_ (i := 2) (N := some 100) (v := ?_) (a' := ?_) (tl_ 7 7) rfl rfl (g1_) (fun _ _ _ h => h) (Or.inl ⟨by rfl, ?_⟩) hHeld ?_ ?_
       rotate_left
       ·rintro w' ⟨s0, s1, s2, s3⟩
        go_simp
        with_reducible rfl
       rotate_left
       ·simp only [Act.put, List.setIfInBounds_toArray, List.set_cons_zero, List.set_cons_succ, i64_w, i32_w]
        rfl
       refine one_ (i := 3) (N := some 101) (tl_ 7 15) rfl rfl (g1_) (by decide) (fun K hK => ?_)
       refine goes_ Try.func122 (g1_) rfl #[.agg #[.slice fb dt.length ef, .slice (some vv) px.length dw], .agg #[.slice ag ab.length ae, .slice ah aa.length af]] (by rfl) rfl rfl (by (try simp only [List.map_toArray, List.map_cons, List.map_nil]); first | done | (rw [show px.length = eg.length from (Kd.S_reads' dm.out).1.symm] <;> rfl) | rfl | (simp only [List.length_drop, List.length_take]; rfl)) ?_
       with_reducible refine (spec_l9Same.calls kj57 _ _ dt _ _ px _ _ ab _ _ aa ib _ ?side1 ?side2 ?side3 ?side4 ?side5 ?side6 ?side7 ?side8 A92.out).mono ?_
       (case side1 => repeat (first | exact (Kd.R_reads' df.out).2.2 | (with_reducible refine Kd.C_alloc ?_ _) | (with_reducible refine Kd.C_drewN ?_ _) | (with_reducible refine Kd.C_drew ?_)))
       (case side2 => exact (Kd.R_reads' df.out).2.1)
       (case side3 => repeat (first | exact (Kd.S_reads' dm.out).2.2 | (with_reducible refine Kd.C_alloc ?_ _) | (with_reducible refine Kd.C_drewN ?_ _) | (with_reducible refine Kd.C_drew ?_)))
       (case side4 => rw [show px.length = eg.length from (Kd.S_reads' dm.out).1.symm]; exact (Kd.S_reads' dm.out).2.1)
       (case side5 => exact uf1_ dd)
       (case side6 => exact d6.out)
       (case side7 => exact uf1_ cq)
       (case side8 => exact d7.out)
       rintro e w98 ⟨rfl, hb⟩
       refine ⟨_, rfl, ?_⟩
       replace df := Aside0.mk (Kd.R_below (uf2_ df) hb)
       replace dm := Aside0.mk (Kd.S_below (uf3_ dm) hb)
       replace cl := bb_ cl hb
       replace co := bb_ co hb
       replace b9 := bb_ b9 hb
       replace cc := bb_ cc hb
       replace HB := Aside0.mk (below_step (ft) hb)
       (try clear hb)
       (try clear hk hi)
       refine hK.out _ _ ⟨(blk_cell cc.out 0).trans rfl, (blk_cell cc.out 1).trans rfl, (blk_cell cl.out 0).trans rfl, (blk_cell cl.out 1).trans rfl⟩ (fun hHeld => ?_)
       clear hK K
       refine nm_ ?_
       refine pure_ (i := 4) (N := some 102) (v := ?_) (a' := ?_) (tl_ 7 31) rfl rfl (g1_) (fun _ _ _ h => h) (Or.inl ⟨by rfl, ?_⟩) ?_ ?_
       rotate_left
       ·intro w'
        go_simp
        with_reducible rfl
       rotate_left
       ·simp only [Act.put, List.setIfInBounds_toArray, List.set_cons_zero, List.set_cons_succ, i64_w, i32_w]
        rfl
       refine one_ (i := 5) (N := none) (tl_ 7 63) rfl rfl (g1_) (by decide) (fun K hK => ?_)
       have ge4 : w98.cell? ⟨es, 0, none⟩ = some (.slice none 0 0) := (blk_cell b9.out 0).trans rfl
       have ge5 := blk_frozen b9.out 0
       have ge6 := ic.out
       have ge7 := ks.out
       have ge8 := g7.out
       have ge9 := rc.out
       have gf0 := kt.out
       have gf1 := n4.out
       have gf2 : w98.cell? ⟨es, 1, none⟩ = some (.slice none 0 0) := (blk_cell b9.out 1).trans rfl
       have gf3 := blk_frozen b9.out 1
       have gf4 := ic.out
       have gf5 := ks.out
       have gf6 := g7.out
       have gf7 := rc.out
       have gf8 := kt.out
       have gf9 := n4.out
       refine skip_ (w1 := ?_) (by rfl) rfl ?_ ?_
       rotate_left
       ·go_simp
        rfl
       refine hK.out _ _ ⟨(cf_ g7 ((cf_ g7 (hHeld.1)))), (cf_ g7 ((cf_ g7 (hHeld.2.1)))), (cf_ ic ((cf_ ic (hHeld.2.2.1)))), (cf_ ic ((cf_ ic (hHeld.2.2.2))))⟩ (fun hHeld => ?_)
       clear hK K
       refine pure_ (i := 6) (N := some 5) (v := ?_) (a' := ?_) (tl_ 7 127) rfl rfl (g1_) (fun _ _ _ h => h) (Or.inl ⟨by rfl, ?_⟩) ?_ ?_
       rotate_left
       ·intro w'
        go_simp
        with_reducible rfl
       rotate_left
       ·simp only [Act.put, List.setIfInBounds_toArray, List.set_cons_zero, List.set_cons_succ, i64_w, i32_w]
        rfl
       refine done_ (g1_) ?_
       try go_wp2
       refine bodyPost_ret (results_ct rfl _ _ es 25 #[.slice fb dt.length ef, .slice (some vv) eg.length dw] (0, 0) _ rfl (by (with_reducible repeat (first | refine blk_drewN ?_ _ | refine blk_drew ?_ | refine blk_alloc ?_ _)); refine blk_put (cs := #[.slice fb dt.length ef, .slice none 0 0]) ?_ 1 _ rfl; refine blk_put (cs := #[.slice none 0 0, .slice none 0 0]) ?_ 0 _ rfl; exact uf0_ b9) Try.underlying25 rfl (g1_)) rfl ?_
       exact ⟨_, _, g4_, by (with_reducible repeat (first | apply Kd.R_alloc | apply Kd.R_drewN | apply Kd.R_drew)); exact Kd.R_mono (Kd.R_far (p := ⟨es, 1, none⟩) (Kd.R_far (p := ⟨es, 0, none⟩) (Kd.R_types df.out b9.out (by decide)) (fun _ hk => hk.2) (.slice fb dt.length ef)) (fun _ hk => hk.2) (.slice (some vv) eg.length dw)) (fun _ hk => trivial), by (with_reducible repeat (first | apply Kd.S_alloc | apply Kd.S_drewN | apply Kd.S_drew)); exact Kd.S_mono (Kd.S_far (p := ⟨es, 1, none⟩) (Kd.S_far (p := ⟨es, 0, none⟩) (Kd.S_types dm.out b9.out (by decide)) (fun _ hk => hk.2) (.slice fb dt.length ef)) (fun _ hk => hk.2) (.slice (some vv) eg.length dw)) (fun _ hk => hk.1), ft⟩
      ·replace c86 := Bool.eq_false_iff.mpr c86
       subst c86
       replace H := ifn_ H
       by_cases sn : (bn == 2 && (a7 == 0 && (a9 == 0 && (bg == 0)))) = true
       ·rw [if_pos sn] at H
        have ex0 : (bn == 2 && (a7 == 0 && (a9 == 0 && (bg == 0)))) = true := sn
        (try (have ex1 : decide (bn = 2 && (a7 == 0 && (a9 == 0 && (bg == 0)))) = true := by simpa using sn))
        (try (have ex2 : (bn == 2 && (a7 == 0 && (a9 == 0 && (bg == 0)))) = true := by simpa using sn))
        clear sn
        replace H := Option.bind_eq_some_iff.mp H
        obtain ⟨⟨g8, gj⟩, dk6, H⟩ := H
        try dsimp only at H
        have ex3 := Aside0.mk dk6
        clear dk6
        obtain ⟨vs, ex4, H⟩ := bind_ H
        simp only [Option.some.injEq, Prod.mk.injEq] at H
        obtain ⟨rfl, rfl, rfl⟩ := H
        have ex5 := o0.out
        have ex6 := oz.out
        have ex7 := ks.out
        have ex8 := kt.out
        have ex9 := nh.out
        have ey0 := o1.out
        obtain ⟨ey1, ey2, gg0, gg1, ey3, ey4, gg2, gg3⟩ := blk4_ co
        have gg4 := ic.out
        have gg5 := rc.out
        have ey5 := al3.out
        have ey6 := bo2.out
        obtain ⟨ey7, ey8, ey9, ez0⟩ := blk2_ cl
        try go_wp2_with (first | ((with_reducible refine gate_callee (f := 41) rfl ?_); refine goesL_ (some 88) rfl rfl Try.func41 k_ rfl #[.agg #[.slice ag ab.length ae, .slice ah aa.length af]] rfl (g2_) ?_; (with_reducible refine (spec_Netted.calls kj57 _ _ ab _ _ aa g8 gj _ ?side1 ?side2 ?side3 ?side4 ex3.out).mono ?_); (case side1 => exact uf1_ dd); (case side2 => exact d6.out); (case side3 => exact uf1_ cq); (case side4 => exact d7.out); rintro e t9 ⟨gg6, de9, rfl, am, ba, hb⟩; refine ⟨_, rfl, ?_⟩; have rf := Aside0.mk (Kd.R_lower (Kd.R_new' am (Kd.R_lt (uf2_ df))) (below_size (ft))); have n3 := Aside0.mk (Kd.S_lower (Kd.S_new' (Kd.S_new' ba (Kd.R_lt (uf2_ df))) (Kd.S_lt (uf3_ dm))) (below_size (ft))); replace df := Aside0.mk (Kd.R_elder' (uf2_ df) (Kd.R_base am) hb); replace dm := Aside0.mk (Kd.S_mono (Kd.S_told (Kd.S_told (Kd.S_old (uf3_ dm) hb) (Kd.R_base am)) (Kd.S_base ba)) (fun _ h_ => h_.1)); replace cl := bb_ cl hb; replace co := bb_ co hb; replace b9 := bb_ b9 hb; replace cc := bb_ cc hb; replace HB := Aside0.mk (below_step (ft) hb); (try clear hb); (try clear hk hi); (try clear am); (try clear ba); obtain ⟨iu, iv, ez1⟩ := Kd.R_slice rf.out; subst ez1; have gg7 := g7.out; have gg8 := n4.out; obtain ⟨gg9, gh0, gh1, gh2⟩ := blk2_ cc; obtain ⟨kb, kc, ez2⟩ := Kd.S_slice n3.out; subst ez2))
        have n0_ : Aside0 (Kd.R (Kd.int .i64) 3 ((t9.setCell ⟨b4, 0, none⟩ (.slice iu g8.length iv)).setCell ⟨b4, 1, none⟩ (.slice kb gj.length kc)) w.heap.size (fun k_ => some k_ ≠ (.slice iu g8.length iv : Value).ownBlock) (.slice fb dt.length ef) dt) := ⟨by (with_reducible repeat (first | apply Kd.R_alloc | apply Kd.R_drewN | apply Kd.R_drew)); exact Kd.R_mono (Kd.R_far (p := ⟨b4, 1, none⟩) (Kd.R_far (p := ⟨b4, 0, none⟩) (Kd.R_types df.out cc.out (by decide)) (fun _ hk => hk.2) (.slice iu g8.length iv)) (fun _ hk => hk.2) (.slice kb gj.length kc)) (fun _ hk => hk.1.2)⟩
        have n1_ : Aside0 (Kd.S (Kd.slice 3 (Kd.int .i64)) 22 ((t9.setCell ⟨b4, 0, none⟩ (.slice iu g8.length iv)).setCell ⟨b4, 1, none⟩ (.slice kb gj.length kc)) w.heap.size (fun k_ => some k_ ≠ (.slice fb dt.length ef : Value).ownBlock ∧ some k_ ≠ (.slice iu g8.length iv : Value).ownBlock ∧ some k_ ≠ (.slice kb gj.length kc : Value).ownBlock) (.slice em eg.length dw) eg) := ⟨by (with_reducible repeat (first | apply Kd.S_alloc | apply Kd.S_drewN | apply Kd.S_drew)); exact Kd.S_mono (Kd.S_far (p := ⟨b4, 1, none⟩) (Kd.S_far (p := ⟨b4, 0, none⟩) (Kd.S_types dm.out cc.out (by decide)) (fun _ hk => hk.2) (.slice iu g8.length iv)) (fun _ hk => hk.2) (.slice kb gj.length kc)) (fun _ hk => ⟨hk.1.1.1, ⟨hk.1.1.2, hk.1.2⟩⟩)⟩
        have n2_ : Aside0 (Kd.R (Kd.int .i64) 3 ((t9.setCell ⟨b4, 0, none⟩ (.slice iu g8.length iv)).setCell ⟨b4, 1, none⟩ (.slice kb gj.length kc)) w.heap.size (fun k_ => some k_ ≠ (.slice fb dt.length ef : Value).ownBlock) (.slice iu g8.length iv) g8) := ⟨by (with_reducible repeat (first | apply Kd.R_alloc | apply Kd.R_drewN | apply Kd.R_drew)); exact Kd.R_mono (Kd.R_far (p := ⟨b4, 1, none⟩) (Kd.R_far (p := ⟨b4, 0, none⟩) (Kd.R_types rf.out cc.out (by decide)) (fun _ hk => hk.2) (.slice iu g8.length iv)) (fun _ hk => hk.2) (.slice kb gj.length kc)) (fun _ hk => hk.1.2)⟩
        have n3_ : Aside0 (Kd.S (Kd.slice 3 (Kd.int .i64)) 22 ((t9.setCell ⟨b4, 0, none⟩ (.slice iu g8.length iv)).setCell ⟨b4, 1, none⟩ (.slice kb gj.length kc)) w.heap.size (fun k_ => some k_ ≠ (.slice fb dt.length ef : Value).ownBlock ∧ some k_ ≠ (.slice em eg.length dw : Value).ownBlock ∧ some k_ ≠ (.slice iu g8.length iv : Value).ownBlock) (.slice kb gj.length kc) gj) := ⟨by (with_reducible repeat (first | apply Kd.S_alloc | apply Kd.S_drewN | apply Kd.S_drew)); exact Kd.S_mono (Kd.S_far (p := ⟨b4, 1, none⟩) (Kd.S_far (p := ⟨b4, 0, none⟩) (Kd.S_types n3.out cc.out (by decide)) (fun _ hk => hk.2) (.slice iu g8.length iv)) (fun _ hk => hk.2) (.slice kb gj.length kc)) (fun _ hk => ⟨hk.1.1.2, ⟨hk.1.2, hk.1.1.1⟩⟩)⟩
        have n4_ : Aside0 (((t9.setCell ⟨b4, 0, none⟩ (.slice iu g8.length iv)).setCell ⟨b4, 1, none⟩ (.slice kb gj.length kc)).heap[jk]? = some (.cells #[.slice ag ab.length ae, .slice ah aa.length af] 25 (0, 0))) := ⟨g45_⟩
        have n5_ : Aside0 (((t9.setCell ⟨b4, 0, none⟩ (.slice iu g8.length iv)).setCell ⟨b4, 1, none⟩ (.slice kb gj.length kc)).heap[ka]? = some (.cells #[.int .i64 bn, .int .i64 a7, .int .i64 a9, .int .i64 bg] 69 (0, 0))) := ⟨g46_⟩
        have n6_ : Aside0 (((t9.setCell ⟨b4, 0, none⟩ (.slice iu g8.length iv)).setCell ⟨b4, 1, none⟩ (.slice kb gj.length kc)).heap[es]? = some (.cells #[.slice none 0 0, .slice none 0 0] 25 (0, 0))) := ⟨g47_⟩
        have n7_ : Aside0 (((t9.setCell ⟨b4, 0, none⟩ (.slice iu g8.length iv)).setCell ⟨b4, 1, none⟩ (.slice kb gj.length kc)).heap[b4]? = some (.cells #[.slice iu g8.length iv, .slice kb gj.length kc] 25 (0, 0))) := ⟨by (with_reducible repeat (first | refine blk_drewN ?_ _ | refine blk_drew ?_ | refine blk_alloc ?_ _)); refine blk_put (cs := #[.slice iu g8.length iv, .slice em eg.length dw]) ?_ 1 _ rfl; refine blk_put (cs := #[.slice fb dt.length ef, .slice em eg.length dw]) ?_ 0 _ rfl; exact uf0_ cc⟩
        have n8_ : Aside0 (Below w.heap.size w ((t9.setCell ⟨b4, 0, none⟩ (.slice iu g8.length iv)).setCell ⟨b4, 1, none⟩ (.slice kb gj.length kc))) := ⟨ft⟩
        (try clear df)
        (try clear dm)
        (try clear rf)
        (try clear n3)
        (try clear cl)
        (try clear co)
        (try clear b9)
        (try clear cc)
        (try clear HB)
        generalize ((t9.setCell ⟨b4, 0, none⟩ (.slice iu g8.length iv)).setCell ⟨b4, 1, none⟩ (.slice kb gj.length kc)) = ez3 at n0_ n1_ n2_ n3_ n4_ n5_ n6_ n7_ n8_ ⊢
        have df := n0_
        have dm := n1_
        have rf := n2_
        have n3 := n3_
        have cl := n4_
        have co := n5_
        have b9 := n6_
        have cc := n7_
        have HB := n8_
        clear n0_ n1_ n2_ n3_ n4_ n5_ n6_ n7_ n8_
        replace df := Aside0.mk (Kd.R_drew df.out)
        replace dm := Aside0.mk (Kd.S_drew dm.out)
        replace rf := Aside0.mk (Kd.R_drew rf.out)
        replace n3 := Aside0.mk (Kd.S_drew n3.out)
        replace cl := Aside0.mk (blk_drew cl.out)
        replace co := Aside0.mk (blk_drew co.out)
        replace b9 := Aside0.mk (blk_drew b9.out)
        replace cc := Aside0.mk (blk_drew cc.out)
        replace HB := Aside0.mk (below_drew1 HB.out)
        refine start_ (n := 7) (S := fun w' => w'.cell? ⟨b4, 0, none⟩ = some (.slice iu g8.length iv) ∧ w'.cell? ⟨b4, 1, none⟩ = some (.slice kb gj.length kc) ∧ w'.cell? ⟨jk, 0, none⟩ = some (.slice ag ab.length ae) ∧ w'.cell? ⟨jk, 1, none⟩ = some (.slice ah aa.length af)) (ds := []) (tl_ 7 0) (g1_) rfl (g1_) ⟨(blk_cell cc.out 0).trans rfl, (blk_cell cc.out 1).trans rfl, (blk_cell cl.out 0).trans rfl, (blk_cell cl.out 1).trans rfl⟩ (fun hHeld => ?_)
        generalize ez3.drew = gh3 at df dm rf n3 cl co b9 cc HB hHeld ⊢
        refine take_ (i := 0) (N := some 98) (v := ?_) (a' := ?_) (tl_ 7 1) rfl rfl (g1_) (fun _ _ _ h => h) (Or.inl ⟨by rfl, ?_⟩) hHeld ?_ ?_
        rotate_left
        ·rintro w' ⟨s0, s1, s2, s3⟩
         go_simp
         with_reducible rfl
        rotate_left
        ·simp only [Act.put, List.setIfInBounds_toArray, List.set_cons_zero, List.set_cons_succ, i64_w, i32_w]
         rfl
        refine take_ (i := 1) (N := some 99) (v := ?_) (a' := ?_) (tl_ 7 3) rfl rfl (g1_) (fun _ _ _ h => h) (Or.inl ⟨by rfl, ?_⟩) hHeld ?_ ?_
        rotate_left
        ·rintro w' ⟨s0, s1, s2, s3⟩
         go_simp
         with_reducible rfl
        rotate_left
        ·simp only [Act.put, List.setIfInBounds_toArray, List.set_cons_zero, List.set_cons_succ, i64_w, i32_w]
         rfl
        refine take_ (i := 2) (N := some 100) (v := ?_) (a' := ?_) (tl_ 7 7) rfl rfl (g1_) (fun _ _ _ h => h) (Or.inl ⟨by rfl, ?_⟩) hHeld ?_ ?_
        rotate_left
        ·rintro w' ⟨s0, s1, s2, s3⟩
         go_simp
         with_reducible rfl
        rotate_left
        ·simp only [Act.put, List.setIfInBounds_toArray, List.set_cons_zero, List.set_cons_succ, i64_w, i32_w]
         rfl
        refine one_ (i := 3) (N := some 101) (tl_ 7 15) rfl rfl (g1_) (by decide) (fun K hK => ?_)
        refine goes_ Try.func122 (g1_) rfl #[.agg #[.slice iu g8.length iv, .slice kb gj.length kc], .agg #[.slice ag ab.length ae, .slice ah aa.length af]] (by rfl) rfl rfl (g2_) ?_
        with_reducible refine (spec_l9Same.calls kj57 _ _ g8 _ _ gj _ _ ab _ _ aa vs _ ?side1 ?side2 ?side3 ?side4 ?side5 ?side6 ?side7 ?side8 ex4.out).mono ?_
        (case side1 => repeat (first | exact (Kd.R_reads' rf.out).2.2 | (with_reducible refine Kd.C_alloc ?_ _) | (with_reducible refine Kd.C_drewN ?_ _) | (with_reducible refine Kd.C_drew ?_)))
        (case side2 => exact (Kd.R_reads' rf.out).2.1)
        (case side3 => repeat (first | exact (Kd.S_reads' n3.out).2.2 | (with_reducible refine Kd.C_alloc ?_ _) | (with_reducible refine Kd.C_drewN ?_ _) | (with_reducible refine Kd.C_drew ?_)))
        (case side4 => exact (Kd.S_reads' n3.out).2.1)
        (case side5 => exact uf1_ dd)
        (case side6 => exact d6.out)
        (case side7 => exact uf1_ cq)
        (case side8 => exact d7.out)
        rintro e ci8 ⟨rfl, hb⟩
        refine ⟨_, rfl, ?_⟩
        replace df := Aside0.mk (Kd.R_below (uf2_ df) hb)
        replace dm := Aside0.mk (Kd.S_below (uf3_ dm) hb)
        replace rf := Aside0.mk (Kd.R_below (uf2_ rf) hb)
        replace n3 := Aside0.mk (Kd.S_below (uf3_ n3) hb)
        replace cl := bb_ cl hb
        replace co := bb_ co hb
        replace b9 := bb_ b9 hb
        replace cc := bb_ cc hb
        replace HB := Aside0.mk (below_step (ft) hb)
        (try clear hb)
        (try clear hk hi)
        refine hK.out _ _ ⟨(blk_cell cc.out 0).trans rfl, (blk_cell cc.out 1).trans rfl, (blk_cell cl.out 0).trans rfl, (blk_cell cl.out 1).trans rfl⟩ (fun hHeld => ?_)
        clear hK K
        refine nm_ ?_
        refine pure_ (i := 4) (N := some 102) (v := ?_) (a' := ?_) (tl_ 7 31) rfl rfl (g1_) (fun _ _ _ h => h) (Or.inl ⟨by rfl, ?_⟩) ?_ ?_
        rotate_left
        ·intro w'
         go_simp
         with_reducible rfl
        rotate_left
        ·simp only [Act.put, List.setIfInBounds_toArray, List.set_cons_zero, List.set_cons_succ, i64_w, i32_w]
         rfl
        refine one_ (i := 5) (N := none) (tl_ 7 63) rfl rfl (g1_) (by decide) (fun K hK => ?_)
        have gh4 : ci8.cell? ⟨es, 0, none⟩ = some (.slice none 0 0) := (blk_cell b9.out 0).trans rfl
        have gh5 := blk_frozen b9.out 0
        have gh6 := ic.out
        have gh7 := ks.out
        have gh8 := g7.out
        have gh9 := rc.out
        have gi0 := kt.out
        have gi1 := n4.out
        have gi2 : ci8.cell? ⟨es, 1, none⟩ = some (.slice none 0 0) := (blk_cell b9.out 1).trans rfl
        have gi3 := blk_frozen b9.out 1
        have gi4 := ic.out
        have gi5 := ks.out
        have gi6 := g7.out
        have gi7 := rc.out
        have gi8 := kt.out
        have gi9 := n4.out
        refine skip_ (w1 := ?_) (by rfl) rfl ?_ ?_
        rotate_left
        ·go_simp
         rfl
        refine hK.out _ _ ⟨(cf_ g7 ((cf_ g7 (hHeld.1)))), (cf_ g7 ((cf_ g7 (hHeld.2.1)))), (cf_ ic ((cf_ ic (hHeld.2.2.1)))), (cf_ ic ((cf_ ic (hHeld.2.2.2))))⟩ (fun hHeld => ?_)
        clear hK K
        refine pure_ (i := 6) (N := some 5) (v := ?_) (a' := ?_) (tl_ 7 127) rfl rfl (g1_) (fun _ _ _ h => h) (Or.inl ⟨by rfl, ?_⟩) ?_ ?_
        rotate_left
        ·intro w'
         go_simp
         with_reducible rfl
        rotate_left
        ·simp only [Act.put, List.setIfInBounds_toArray, List.set_cons_zero, List.set_cons_succ, i64_w, i32_w]
         rfl
        refine done_ (g1_) ?_
        try go_wp2
        refine bodyPost_ret (results_ct rfl _ _ es 25 #[.slice iu g8.length iv, .slice kb gj.length kc] (0, 0) _ rfl (by (with_reducible repeat (first | refine blk_drewN ?_ _ | refine blk_drew ?_ | refine blk_alloc ?_ _)); refine blk_put (cs := #[.slice iu g8.length iv, .slice none 0 0]) ?_ 1 _ rfl; refine blk_put (cs := #[.slice none 0 0, .slice none 0 0]) ?_ 0 _ rfl; exact uf0_ b9) Try.underlying25 rfl (g1_)) rfl ?_
        exact ⟨_, _, g4_, by (with_reducible repeat (first | apply Kd.R_alloc | apply Kd.R_drewN | apply Kd.R_drew)); exact Kd.R_mono (Kd.R_far (p := ⟨es, 1, none⟩) (Kd.R_far (p := ⟨es, 0, none⟩) (Kd.R_types rf.out b9.out (by decide)) (fun _ hk => hk.2) (.slice iu g8.length iv)) (fun _ hk => hk.2) (.slice kb gj.length kc)) (fun _ hk => trivial), by (with_reducible repeat (first | apply Kd.S_alloc | apply Kd.S_drewN | apply Kd.S_drew)); exact Kd.S_mono (Kd.S_far (p := ⟨es, 1, none⟩) (Kd.S_far (p := ⟨es, 0, none⟩) (Kd.S_types n3.out b9.out (by decide)) (fun _ hk => hk.2) (.slice iu g8.length iv)) (fun _ hk => hk.2) (.slice kb gj.length kc)) (fun _ hk => hk.1.2.2), ft⟩
       ·rw [if_neg sn] at H
        have ex0 : (bn == 2 && (a7 == 0 && (a9 == 0 && (bg == 0)))) = false := by simpa using sn
        (try (have ex1 : decide (bn = 2 && (a7 == 0 && (a9 == 0 && (bg == 0)))) = false := by simpa using sn))
        (try (have ex2 : (bn == 2 && (a7 == 0 && (a9 == 0 && (bg == 0)))) = false := by simpa using sn))
        (try (have gj0 : ¬ (bn = 2 && (a7 == 0 && (a9 == 0 && (bg == 0)))) := by simpa using sn))
        clear sn
        by_cases so : (bn == 3 && (a7 == 0 && (a9 == 0 && (bg == 0)))) = true
        ·rw [if_pos so] at H
         have ez4 : (bn == 3 && (a7 == 0 && (a9 == 0 && (bg == 0)))) = true := so
         (try (have ez5 : decide (bn = 3 && (a7 == 0 && (a9 == 0 && (bg == 0)))) = true := by simpa using so))
         (try (have ez6 : (bn == 3 && (a7 == 0 && (a9 == 0 && (bg == 0)))) = true := by simpa using so))
         clear so
         replace H := Option.bind_eq_some_iff.mp H
         obtain ⟨⟨g9, jd, ez7⟩, dk7, H⟩ := H
         try dsimp only at H
         have ez8 := Aside0.mk dk7
         clear dk7
         obtain ⟨ch7, ez9, H⟩ := bind_ H
         simp only [Option.some.injEq, Prod.mk.injEq] at H
         obtain ⟨rfl, rfl, rfl⟩ := H
         have gj1 := o0.out
         have gj2 := oz.out
         have gj3 := ks.out
         have gj4 := kt.out
         have gj5 := nh.out
         have gj6 := o1.out
         obtain ⟨gj7, gj8, gj9, gk0, gk1, gk2, gk3, gk4⟩ := blk4_ co
         have gk5 := ic.out
         have gk6 := rc.out
         have gk7 := al3.out
         have gk8 := bo2.out
         obtain ⟨gk9, gl0, gl1, gl2⟩ := blk2_ cl
         try go_wp2_with (first | ((with_reducible refine gate_callee (f := 53) rfl ?_); refine goesL_ (some 95) rfl rfl Try.func53 k_ rfl #[.agg #[.slice ag ab.length ae, .slice ah aa.length af]] rfl (g2_) ?_; (with_reducible refine (spec_WithoutCircles.calls kj57 _ _ ab _ _ aa g9 jd ez7 _ ?side1 ?side2 ?side3 ?side4 ez8.out).mono ?_); (case side1 => exact uf1_ dd); (case side2 => exact d6.out); (case side3 => exact uf1_ cq); (case side4 => exact d7.out); rintro e ua ⟨gl3, gl4, rfl, am, ba, hb⟩; refine ⟨_, rfl, ?_⟩; have rg := Aside0.mk (Kd.R_lower (Kd.R_new' am (Kd.R_lt (uf2_ df))) (below_size (ft))); have rh := Aside0.mk (Kd.S_lower (Kd.S_new' (Kd.S_new' ba (Kd.R_lt (uf2_ df))) (Kd.S_lt (uf3_ dm))) (below_size (ft))); replace df := Aside0.mk (Kd.R_elder' (uf2_ df) (Kd.R_base am) hb); replace dm := Aside0.mk (Kd.S_mono (Kd.S_told (Kd.S_told (Kd.S_old (uf3_ dm) hb) (Kd.R_base am)) (Kd.S_base ba)) (fun _ h_ => h_.1)); replace cl := bb_ cl hb; replace co := bb_ co hb; replace b9 := bb_ b9 hb; replace cc := bb_ cc hb; replace HB := Aside0.mk (below_step (ft) hb); (try clear hb); (try clear hk hi); (try clear am); (try clear ba); obtain ⟨iw, ix, fa0⟩ := Kd.R_slice rg.out; subst fa0; have gl5 := g7.out; have gl6 := n4.out; obtain ⟨gl7, gl8, gl9, gm0⟩ := blk2_ cc; obtain ⟨kd, ke, fa1⟩ := Kd.S_slice rh.out; subst fa1))
         have n0_ : Aside0 (Kd.R (Kd.int .i64) 3 ((ua.setCell ⟨b4, 0, none⟩ (.slice iw g9.length ix)).setCell ⟨b4, 1, none⟩ (.slice kd jd.length ke)) w.heap.size (fun k_ => some k_ ≠ (.slice iw g9.length ix : Value).ownBlock) (.slice fb dt.length ef) dt) := ⟨by (with_reducible repeat (first | apply Kd.R_alloc | apply Kd.R_drewN | apply Kd.R_drew)); exact Kd.R_mono (Kd.R_far (p := ⟨b4, 1, none⟩) (Kd.R_far (p := ⟨b4, 0, none⟩) (Kd.R_types df.out cc.out (by decide)) (fun _ hk => hk.2) (.slice iw g9.length ix)) (fun _ hk => hk.2) (.slice kd jd.length ke)) (fun _ hk => hk.1.2)⟩
         have n1_ : Aside0 (Kd.S (Kd.slice 3 (Kd.int .i64)) 22 ((ua.setCell ⟨b4, 0, none⟩ (.slice iw g9.length ix)).setCell ⟨b4, 1, none⟩ (.slice kd jd.length ke)) w.heap.size (fun k_ => some k_ ≠ (.slice fb dt.length ef : Value).ownBlock ∧ some k_ ≠ (.slice iw g9.length ix : Value).ownBlock ∧ some k_ ≠ (.slice kd jd.length ke : Value).ownBlock) (.slice em eg.length dw) eg) := ⟨by (with_reducible repeat (first | apply Kd.S_alloc | apply Kd.S_drewN | apply Kd.S_drew)); exact Kd.S_mono (Kd.S_far (p := ⟨b4, 1, none⟩) (Kd.S_far (p := ⟨b4, 0, none⟩) (Kd.S_types dm.out cc.out (by decide)) (fun _ hk => hk.2) (.slice iw g9.length ix)) (fun _ hk => hk.2) (.slice kd jd.length ke)) (fun _ hk => ⟨hk.1.1.1, ⟨hk.1.1.2, hk.1.2⟩⟩)⟩
         have n2_ : Aside0 (Kd.R (Kd.int .i64) 3 ((ua.setCell ⟨b4, 0, none⟩ (.slice iw g9.length ix)).setCell ⟨b4, 1, none⟩ (.slice kd jd.length ke)) w.heap.size (fun k_ => some k_ ≠ (.slice fb dt.length ef : Value).ownBlock) (.slice iw g9.length ix) g9) := ⟨by (with_reducible repeat (first | apply Kd.R_alloc | apply Kd.R_drewN | apply Kd.R_drew)); exact Kd.R_mono (Kd.R_far (p := ⟨b4, 1, none⟩) (Kd.R_far (p := ⟨b4, 0, none⟩) (Kd.R_types rg.out cc.out (by decide)) (fun _ hk => hk.2) (.slice iw g9.length ix)) (fun _ hk => hk.2) (.slice kd jd.length ke)) (fun _ hk => hk.1.2)⟩
         have n3_ : Aside0 (Kd.S (Kd.slice 3 (Kd.int .i64)) 22 ((ua.setCell ⟨b4, 0, none⟩ (.slice iw g9.length ix)).setCell ⟨b4, 1, none⟩ (.slice kd jd.length ke)) w.heap.size (fun k_ => some k_ ≠ (.slice fb dt.length ef : Value).ownBlock ∧ some k_ ≠ (.slice em eg.length dw : Value).ownBlock ∧ some k_ ≠ (.slice iw g9.length ix : Value).ownBlock) (.slice kd jd.length ke) jd) := ⟨by (with_reducible repeat (first | apply Kd.S_alloc | apply Kd.S_drewN | apply Kd.S_drew)); exact Kd.S_mono (Kd.S_far (p := ⟨b4, 1, none⟩) (Kd.S_far (p := ⟨b4, 0, none⟩) (Kd.S_types rh.out cc.out (by decide)) (fun _ hk => hk.2) (.slice iw g9.length ix)) (fun _ hk => hk.2) (.slice kd jd.length ke)) (fun _ hk => ⟨hk.1.1.2, ⟨hk.1.2, hk.1.1.1⟩⟩)⟩
         have n4_ : Aside0 (((ua.setCell ⟨b4, 0, none⟩ (.slice iw g9.length ix)).setCell ⟨b4, 1, none⟩ (.slice kd jd.length ke)).heap[jk]? = some (.cells #[.slice ag ab.length ae, .slice ah aa.length af] 25 (0, 0))) := ⟨g45_⟩
         have n5_ : Aside0 (((ua.setCell ⟨b4, 0, none⟩ (.slice iw g9.length ix)).setCell ⟨b4, 1, none⟩ (.slice kd jd.length ke)).heap[ka]? = some (.cells #[.int .i64 bn, .int .i64 a7, .int .i64 a9, .int .i64 bg] 69 (0, 0))) := ⟨g46_⟩
         have n6_ : Aside0 (((ua.setCell ⟨b4, 0, none⟩ (.slice iw g9.length ix)).setCell ⟨b4, 1, none⟩ (.slice kd jd.length ke)).heap[es]? = some (.cells #[.slice none 0 0, .slice none 0 0] 25 (0, 0))) := ⟨g47_⟩
         have n7_ : Aside0 (((ua.setCell ⟨b4, 0, none⟩ (.slice iw g9.length ix)).setCell ⟨b4, 1, none⟩ (.slice kd jd.length ke)).heap[b4]? = some (.cells #[.slice iw g9.length ix, .slice kd jd.length ke] 25 (0, 0))) := ⟨by (with_reducible repeat (first | refine blk_drewN ?_ _ | refine blk_drew ?_ | refine blk_alloc ?_ _)); refine blk_put (cs := #[.slice iw g9.length ix, .slice em eg.length dw]) ?_ 1 _ rfl; refine blk_put (cs := #[.slice fb dt.length ef, .slice em eg.length dw]) ?_ 0 _ rfl; exact uf0_ cc⟩
         have n8_ : Aside0 (Below w.heap.size w ((ua.setCell ⟨b4, 0, none⟩ (.slice iw g9.length ix)).setCell ⟨b4, 1, none⟩ (.slice kd jd.length ke))) := ⟨ft⟩
         (try clear df)
         (try clear dm)
         (try clear rg)
         (try clear rh)
         (try clear cl)
         (try clear co)
         (try clear b9)
         (try clear cc)
         (try clear HB)
         generalize ((ua.setCell ⟨b4, 0, none⟩ (.slice iw g9.length ix)).setCell ⟨b4, 1, none⟩ (.slice kd jd.length ke)) = fa2 at n0_ n1_ n2_ n3_ n4_ n5_ n6_ n7_ n8_ ⊢
         have df := n0_
         have dm := n1_
         have rg := n2_
         have rh := n3_
         have cl := n4_
         have co := n5_
         have b9 := n6_
         have cc := n7_
         have HB := n8_
         clear n0_ n1_ n2_ n3_ n4_ n5_ n6_ n7_ n8_
         replace df := Aside0.mk (Kd.R_drew df.out)
         replace dm := Aside0.mk (Kd.S_drew dm.out)
         replace rg := Aside0.mk (Kd.R_drew rg.out)
         replace rh := Aside0.mk (Kd.S_drew rh.out)
         replace cl := Aside0.mk (blk_drew cl.out)
         replace co := Aside0.mk (blk_drew co.out)
         replace b9 := Aside0.mk (blk_drew b9.out)
         replace cc := Aside0.mk (blk_drew cc.out)
         replace HB := Aside0.mk (below_drew1 HB.out)
         refine start_ (n := 7) (S := fun w' => w'.cell? ⟨b4, 0, none⟩ = some (.slice iw g9.length ix) ∧ w'.cell? ⟨b4, 1, none⟩ = some (.slice kd jd.length ke) ∧ w'.cell? ⟨jk, 0, none⟩ = some (.slice ag ab.length ae) ∧ w'.cell? ⟨jk, 1, none⟩ = some (.slice ah aa.length af)) (ds := []) (tl_ 7 0) (g1_) rfl (g1_) ⟨(blk_cell cc.out 0).trans rfl, (blk_cell cc.out 1).trans rfl, (blk_cell cl.out 0).trans rfl, (blk_cell cl.out 1).trans rfl⟩ (fun hHeld => ?_)
         generalize fa2.drew = gm1 at df dm rg rh cl co b9 cc HB hHeld ⊢
         refine take_ (i := 0) (N := some 98) (v := ?_) (a' := ?_) (tl_ 7 1) rfl rfl (g1_) (fun _ _ _ h => h) (Or.inl ⟨by rfl, ?_⟩) hHeld ?_ ?_
         rotate_left
         ·rintro w' ⟨s0, s1, s2, s3⟩
          go_simp
          with_reducible rfl
         rotate_left
         ·simp only [Act.put, List.setIfInBounds_toArray, List.set_cons_zero, List.set_cons_succ, i64_w, i32_w]
          rfl
         refine take_ (i := 1) (N := some 99) (v := ?_) (a' := ?_) (tl_ 7 3) rfl rfl (g1_) (fun _ _ _ h => h) (Or.inl ⟨by rfl, ?_⟩) hHeld ?_ ?_
         rotate_left
         ·rintro w' ⟨s0, s1, s2, s3⟩
          go_simp
          with_reducible rfl
         rotate_left
         ·simp only [Act.put, List.setIfInBounds_toArray, List.set_cons_zero, List.set_cons_succ, i64_w, i32_w]
          rfl
         refine take_ (i := 2) (N := some 100) (v := ?_) (a' := ?_) (tl_ 7 7) rfl rfl (g1_) (fun _ _ _ h => h) (Or.inl ⟨by rfl, ?_⟩) hHeld ?_ ?_
         rotate_left
         ·rintro w' ⟨s0, s1, s2, s3⟩
          go_simp
          with_reducible rfl
         rotate_left
         ·simp only [Act.put, List.setIfInBounds_toArray, List.set_cons_zero, List.set_cons_succ, i64_w, i32_w]
          rfl
         refine one_ (i := 3) (N := some 101) (tl_ 7 15) rfl rfl (g1_) (by decide) (fun K hK => ?_)
         refine goes_ Try.func122 (g1_) rfl #[.agg #[.slice iw g9.length ix, .slice kd jd.length ke], .agg #[.slice ag ab.length ae, .slice ah aa.length af]] (by rfl) rfl rfl (g2_) ?_
         with_reducible refine (spec_l9Same.calls kj57 _ _ g9 _ _ jd _ _ ab _ _ aa ch7 _ ?side1 ?side2 ?side3 ?side4 ?side5 ?side6 ?side7 ?side8 ez9.out).mono ?_
         (case side1 => repeat (first | exact (Kd.R_reads' rg.out).2.2 | (with_reducible refine Kd.C_alloc ?_ _) | (with_reducible refine Kd.C_drewN ?_ _) | (with_reducible refine Kd.C_drew ?_)))
         (case side2 => exact (Kd.R_reads' rg.out).2.1)
         (case side3 => repeat (first | exact (Kd.S_reads' rh.out).2.2 | (with_reducible refine Kd.C_alloc ?_ _) | (with_reducible refine Kd.C_drewN ?_ _) | (with_reducible refine Kd.C_drew ?_)))
         (case side4 => exact (Kd.S_reads' rh.out).2.1)
         (case side5 => exact uf1_ dd)
         (case side6 => exact d6.out)
         (case side7 => exact uf1_ cq)
         (case side8 => exact d7.out)
         rintro e dk8 ⟨rfl, hb⟩
         refine ⟨_, rfl, ?_⟩
         replace df := Aside0.mk (Kd.R_below (uf2_ df) hb)
         replace dm := Aside0.mk (Kd.S_below (uf3_ dm) hb)
         replace rg := Aside0.mk (Kd.R_below (uf2_ rg) hb)
         replace rh := Aside0.mk (Kd.S_below (uf3_ rh) hb)
         replace cl := bb_ cl hb
         replace co := bb_ co hb
         replace b9 := bb_ b9 hb
         replace cc := bb_ cc hb
         replace HB := Aside0.mk (below_step (ft) hb)
         (try clear hb)
         (try clear hk hi)
         refine hK.out _ _ ⟨(blk_cell cc.out 0).trans rfl, (blk_cell cc.out 1).trans rfl, (blk_cell cl.out 0).trans rfl, (blk_cell cl.out 1).trans rfl⟩ (fun hHeld => ?_)
         clear hK K
         refine nm_ ?_
         refine pure_ (i := 4) (N := some 102) (v := ?_) (a' := ?_) (tl_ 7 31) rfl rfl (g1_) (fun _ _ _ h => h) (Or.inl ⟨by rfl, ?_⟩) ?_ ?_
         rotate_left
         ·intro w'
          go_simp
          with_reducible rfl
         rotate_left
         ·simp only [Act.put, List.setIfInBounds_toArray, List.set_cons_zero, List.set_cons_succ, i64_w, i32_w]
          rfl
         refine one_ (i := 5) (N := none) (tl_ 7 63) rfl rfl (g1_) (by decide) (fun K hK => ?_)
         have gm2 : dk8.cell? ⟨es, 0, none⟩ = some (.slice none 0 0) := (blk_cell b9.out 0).trans rfl
         have gm3 := blk_frozen b9.out 0
         have gm4 := ic.out
         have gm5 := ks.out
         have gm6 := g7.out
         have gm7 := rc.out
         have gm8 := kt.out
         have gm9 := n4.out
         have gn0 : dk8.cell? ⟨es, 1, none⟩ = some (.slice none 0 0) := (blk_cell b9.out 1).trans rfl
         have gn1 := blk_frozen b9.out 1
         have gn2 := ic.out
         have gn3 := ks.out
         have gn4 := g7.out
         have gn5 := rc.out
         have gn6 := kt.out
         have gn7 := n4.out
         refine skip_ (w1 := ?_) (by rfl) rfl ?_ ?_
         rotate_left
         ·go_simp
          rfl
         refine hK.out _ _ ⟨(cf_ g7 ((cf_ g7 (hHeld.1)))), (cf_ g7 ((cf_ g7 (hHeld.2.1)))), (cf_ ic ((cf_ ic (hHeld.2.2.1)))), (cf_ ic ((cf_ ic (hHeld.2.2.2))))⟩ (fun hHeld => ?_)
         clear hK K
         refine pure_ (i := 6) (N := some 5) (v := ?_) (a' := ?_) (tl_ 7 127) rfl rfl (g1_) (fun _ _ _ h => h) (Or.inl ⟨by rfl, ?_⟩) ?_ ?_
         rotate_left
         ·intro w'
          go_simp
          with_reducible rfl
         rotate_left
         ·simp only [Act.put, List.setIfInBounds_toArray, List.set_cons_zero, List.set_cons_succ, i64_w, i32_w]
          rfl
         refine done_ (g1_) ?_
         try go_wp2
         refine bodyPost_ret (results_ct rfl _ _ es 25 #[.slice iw g9.length ix, .slice kd jd.length ke] (0, 0) _ rfl (by (with_reducible repeat (first | refine blk_drewN ?_ _ | refine blk_drew ?_ | refine blk_alloc ?_ _)); refine blk_put (cs := #[.slice iw g9.length ix, .slice none 0 0]) ?_ 1 _ rfl; refine blk_put (cs := #[.slice none 0 0, .slice none 0 0]) ?_ 0 _ rfl; exact uf0_ b9) Try.underlying25 rfl (g1_)) rfl ?_
         exact ⟨_, _, g4_, by (with_reducible repeat (first | apply Kd.R_alloc | apply Kd.R_drewN | apply Kd.R_drew)); exact Kd.R_mono (Kd.R_far (p := ⟨es, 1, none⟩) (Kd.R_far (p := ⟨es, 0, none⟩) (Kd.R_types rg.out b9.out (by decide)) (fun _ hk => hk.2) (.slice iw g9.length ix)) (fun _ hk => hk.2) (.slice kd jd.length ke)) (fun _ hk => trivial), by (with_reducible repeat (first | apply Kd.S_alloc | apply Kd.S_drewN | apply Kd.S_drew)); exact Kd.S_mono (Kd.S_far (p := ⟨es, 1, none⟩) (Kd.S_far (p := ⟨es, 0, none⟩) (Kd.S_types rh.out b9.out (by decide)) (fun _ hk => hk.2) (.slice iw g9.length ix)) (fun _ hk => hk.2) (.slice kd jd.length ke)) (fun _ hk => hk.1.2.2), ft⟩
        ·rw [if_neg so] at H
         have ez4 : (bn == 3 && (a7 == 0 && (a9 == 0 && (bg == 0)))) = false := by simpa using so
         (try (have ez5 : decide (bn = 3 && (a7 == 0 && (a9 == 0 && (bg == 0)))) = false := by simpa using so))
         (try (have ez6 : (bn == 3 && (a7 == 0 && (a9 == 0 && (bg == 0)))) = false := by simpa using so))
         (try (have gn8 : ¬ (bn = 3 && (a7 == 0 && (a9 == 0 && (bg == 0)))) := by simpa using so))
         clear so
         simp only [Option.some.injEq, Prod.mk.injEq] at H
         obtain ⟨rfl, rfl, rfl⟩ := H
         have gn9 := o0.out
         have go0 := oz.out
         have go1 := ks.out
         have go2 := kt.out
         have go3 := nh.out
         have go4 := o1.out
         obtain ⟨go5, go6, go7, go8, go9, gp0, gp1, gp2⟩ := blk4_ co
         have gp3 := rc.out
         have gp4 := ic.out
         have gp5 := n4.out
         have gp6 := g7.out
         obtain ⟨gp7, gp8, gp9, gq0⟩ := blk2_ b9
         go_wp2
         refine bodyPost_ret (results_ct rfl _ _ es 25 #[.slice none 0 0, .slice none 0 0] (0, 0) _ rfl (by (with_reducible repeat (first | refine blk_drewN ?_ _ | refine blk_drew ?_ | refine blk_alloc ?_ _)); refine blk_put (cs := #[.slice none 0 0, .slice none 0 0]) ?_ 1 _ rfl; refine blk_put (cs := #[.slice none 0 0, .slice none 0 0]) ?_ 0 _ rfl; exact uf0_ b9) Try.underlying25 rfl (g1_)) rfl ?_
         exact ⟨_, _, g4_, g16_, g34_, ft⟩
attribute [local go_sem high] eqA69
theorem k25s_ne {w : World} {g g' : Nat} {t : Nat} (h : ∃ cells, w.heap[g]? = some (.cells cells 25 (0, 0))) {cells' : Array Value} (h' : w.heap[g']? = some (.cells cells' t (0, 0))) (ht : (25 : Nat) ≠ t) : g ≠ g' := by
 rintro rfl
 obtain ⟨cells, hc⟩ := h
 rw [hc] at h'
 injection h' with h1
 injection h1 with _ h2
 exact ht h2
theorem k25s_last {w : World} {base : Nat} {ok : Nat → Prop} {A : Option Addr} {m c n : Nat} {xs : List S25} (hn : xs.length = n + 1) (h : Kd.S k25s 25 w base ok (.slice A m c) xs) :
  ∃ g u0 u1, A = some ⟨g, 0, none⟩ ∧ w.cell? ⟨g, n * 2, none⟩ = some u0 ∧ w.cell? ⟨g, n * 2 + 1, none⟩ = some u1 ∧ Kd.R (Kd.int .i64) 3 w base (fun _ => True) u0 (rd_T25 xs (n : Int)).f0 ∧ Kd.S (Kd.slice 3 (Kd.int .i64)) 22 w base (fun k => some k ≠ u0.ownBlock) u1 (rd_T25 xs (n : Int)).f1 ∧ Kd.Q k25 25 w base (fun k => some k ≠ u0.ownBlock ∧ some k ≠ u1.ownBlock) (.slice (some ⟨g, 0, none⟩) n c) (xs.take n) ∧ (∃ cells, w.heap[g]? = some (.cells cells 25 (0, 0))) ∧ m = n + 1 := by
 obtain ⟨f, hR⟩ := h
 have hlz : xs.zipIdx.length = n + 1 := by rw [List.length_zipIdx, hn]
 have hm : m = n + 1 := by rw [(Kd.R_reads' hR).1, hlz]
 subst hm
 obtain ⟨hok, inner, ho, hr⟩ := hR
 have am := ho
 rcases am.2 with ⟨hv, _⟩ | ⟨g, cap', cur, hv, hgb, hh, _⟩
 ·cases hv
 injection hv with hA _ hc
 subst hA
 have hbl : (Value.slice (some ⟨g, 0, none⟩) (n + 1) c).ownBlock = some g := by simp [Value.ownBlock]
 obtain ⟨cs, hcl, hM, hcc⟩ := Kd.R_getA (⟨hok, inner, ho, hr⟩ : (Kd.tag f k25s).R 25 w base ok _ _) (z25, 0) (n : Int) (by omega) (by omega)
 have hzi : xs.zipIdx.getD (n : Int).toNat (z25, 0) = (rd_T25 xs (n : Int), n) := by
  simp [rd_T25, List.getD_eq_getElem?_getD, hn]
 rw [hzi] at hM
 obtain ⟨u0, u1, rfl, h0, h1⟩ := hM
 have e0 := hcc 0 u0 rfl
 have e1 := hcc 1 u1 rfl
 have hsz : (Kd.tag f k25s).sz = 2 := rfl
 rw [hsz] at e0 e1
 refine ⟨g, u0, u1, rfl, ?_, ?_, Kd.R_mono h0 (fun _ _ => trivial), Kd.S_mono h1 (fun _ hk => hk.2), Kd.Q_of_R ?_, ⟨cur, hh⟩, rfl⟩
 ·rw [add_at] at e0; simpa using e0
 ·rw [add_at] at e1; simpa using e1
 have hu0 : ∀ k, u0.ownBlock = some k → f k = n ∧ k ≠ g := fun k hk => by
  have := h0.1 k hk
  refine ⟨this.2, fun e => this.1.2 (by rw [hbl, e])⟩
 have hu1 : ∀ k, u1.ownBlock = some k → f k = n ∧ k ≠ g := fun k hk => by
  have := (Kd.S_R h1).1 k hk
  refine ⟨this.1.2, fun e => this.1.1.2 (by rw [hbl, e])⟩
 have hRt := Kd.R_take (m := n) (⟨hok, inner, ho, hr⟩ : (Kd.tag f k25s).R 25 w base ok _ _) (by omega)
 obtain ⟨hok2, inner2, d3, qj⟩ := hRt
 have hbl2 : (Value.slice (some ⟨g, 0, none⟩) n c).ownBlock = some g := by simp [Value.ownBlock]
 have hlt : (xs.zipIdx.take n).length = n := by rw [List.length_take, hlz]; omega
 have hlt2 : (xs.take n).length = n := by rw [List.length_take, hn]; omega
 rw [hlt] at d3
 refine ⟨fun k hk => ?_, inner2, by rw [hlt2]; exact d3, ?_, fun j p hj => ?_⟩
 ·have hkg : g = k := by rw [hbl2] at hk; injection hk
  subst hkg
  exact ⟨fun e => (hu0 _ e.symm).2 rfl, fun e => (hu1 _ e.symm).2 rfl⟩
 ·rw [qj.1, hlt, hlt2]; rfl
 ·have hjn : j < n := by have := (List.getElem?_eq_some_iff.1 hj).1; omega
  have hj2 : xs[j]? = some p := by rw [List.getElem?_take, if_pos hjn] at hj; exact hj
  have hj3 : (xs.zipIdx.take n)[j]? = some (p, j) := by rw [List.getElem?_take, if_pos hjn]; exact Kd.zip_at hj2
  have hMj := qj.2 j (p, j) hj3
  refine k25.M_mono (fun k hk => ⟨⟨fun e => ?_, fun e => ?_⟩, hk.1.2⟩) (k25s_M hMj)
  ·have := (hu0 k e.symm).1; have h3 := hk.2; omega
  ·have := (hu1 k e.symm).1; have h3 := hk.2; omega
def spec_DeskDo1.j0 : Nat → Bool → List Int → List (List Int) → List (S25) → Int → Int → Int → Int → List Int → List (List Int) → List (S25) → Option (List Int × (List (List Int)) × (List (S25)) × Bool)
 | 0, _, _, _, _, _, _, _, _, _, _, _ => none
 | k + 1, x24, fa3, fa4, gq1, fa5, fa6, fa7, fa8, dk9, dl0, ci9 => if x24 = true then (none) else ((spec_l9Made.f k fa3 fa4 fa5 fa6 fa7 fa8).bind fun bt346 => (if bt346.2.2 = true then (if ci9.length < 2932031007402 then ((some (ci9 ++ [(⟨dk9, dl0⟩ : S25)] : List (S25))).bind fun gs => (if (gs.length : Int) > 8 then (if 1 ≤ (gs.length : Int) then (some (bt346.1, bt346.2.1, (gs.drop (1 : Int).toNat), true)) else (none)) else (some (bt346.1, bt346.2.1, gs, true)))) else (none)) else (some (dk9, dl0, ci9, false))))
def spec_DeskDo1.f (k : Nat) (ab : List Int) (aa : List (List Int)) (ak : List (S25)) (bn : Int) (a7 : Int) (a9 : Int) (bg : Int) : Option (List Int × (List (List Int)) × (List (S25)) × Bool) := (spec_DeskOk.f k ab aa ak).bind fun ax7 => (if ax7 = true then ((spec_l9Copy.f k ab aa ak).bind fun bt336 => (if (bn == 4 && (a7 == 0 && (a9 == 0 && (bg == 0)))) = true then (spec_DeskDo1.j0 k (decide ((ak.length : Int) > 0)) ab aa ak bn a7 a9 bg bt336.1 bt336.2.1 bt336.2.2) else (spec_DeskDo1.j0 k false ab aa ak bn a7 a9 bg bt336.1 bt336.2.1 bt336.2.2))) else (some (([] : List Int), ([] : List (List Int)), ([] : List (S25)), false)))
theorem spec_DeskDo1.mq {p : Prop} (h : p := by
 repeat' first
 | (with_reducible exact ih0 _ _ _ _ _ _ _ _ _ _ _)
 | (with_reducible exact spec_DeskOk.mono _ _ _ _)
 | (with_reducible exact spec_l9Copy.mono _ _ _ _)
 | (with_reducible exact spec_l9Made.mono _ _ _ _ _ _ _)
 | (with_reducible exact LeO.refl _)
 | (with_reducible exact LeO.none _)
 | (with_reducible refine LeO.ite ?_ ?_)
 | (with_reducible refine LeO.bind ?_ (fun _ => ?_))
 | exact ih0 _ _ _ _ _ _ _ _ _ _ _
 | exact spec_DeskOk.mono _ _ _ _
 | exact spec_l9Copy.mono _ _ _ _
 | exact spec_l9Made.mono _ _ _ _ _ _ _
 | exact LeO.none _
 | refine LeO.ite ?_ ?_
 | refine LeO.bind ?_ (fun _ => ?_)) : p := h
theorem spec_DeskDo1.mono_l : ∀ k, (∀ y0 y1 y2 y3 y4 y5 y6 y7 y8 y9 y10, LeO (spec_DeskDo1.j0 k y0 y1 y2 y3 y4 y5 y6 y7 y8 y9 y10) (spec_DeskDo1.j0 (k + 1) y0 y1 y2 y3 y4 y5 y6 y7 y8 y9 y10))
 | 0 => fun _ _ _ _ _ _ _ _ _ _ _ r h => by simp [spec_DeskDo1.j0] at h
 | k + 1 => by
  have ih0 := spec_DeskDo1.mono_l k
  ·intro y0 y1 y2 y3 y4 y5 y6 y7 y8 y9 y10
   unfold spec_DeskDo1.j0
   exact spec_DeskDo1.mq
theorem spec_DeskDo1.mono : ∀ a0 a1 a2 a3 a4 a5 a6 k, LeO (spec_DeskDo1.f k a0 a1 a2 a3 a4 a5 a6) (spec_DeskDo1.f (k + 1) a0 a1 a2 a3 a4 a5 a6) := by
 intro a0 a1 a2 a3 a4 a5 a6 k
 have ih0 := spec_DeskDo1.mono_l k
 unfold spec_DeskDo1.f
 exact spec_DeskDo1.mq
theorem fe {p : Prop} (h : p := by repeat (first | (with_reducible first | exact HB.out | apply below_alloc | apply pw_below_drewN | apply below_drew1 | refine below_set ?_ al5.out | refine below_set ?_ ax8.out | refine below_set ?_ ae9.out | refine below_set ?_ zn.out | refine below_set ?_ cj0.out) | exact HB.out)) : p := h
set_option maxHeartbeats 8000000 in
set_option maxRecDepth 100000 in
theorem spec_DeskDo1.calls (k : Nat) (ag : Option Addr) (ae : Nat) (ab : List Int) (ah : Option Addr) (af : Nat) (aa : List (List Int)) (di : Option Addr) (db : Nat) (ak : List (S25)) (bn : Int) (a7 : Int) (a9 : Int) (bg : Int) (r1 : List Int) (r2 : List (List Int)) (r3 : List (S25)) (r4 : Bool) (w : World) (dx : Kd.C (Kd.int .i64) w ag ab.length ab) (dy : ab.length ≤ ae) (dz : Kd.C (Kd.slice 3 (Kd.int .i64)) w ah aa.length aa) (d2 : aa.length ≤ af) (k5 : Kd.C k25 w di ak.length ak) (k6 : ak.length ≤ db) (h : spec_DeskDo1.f k ab aa ak bn a7 a9 bg = some (r1, r2, r3, r4)) :
  Calls Try.prog 54 #[.agg #[.slice ag ab.length ae, .slice ah aa.length af, .slice di ak.length db], .agg #[.int .i64 bn, .int .i64 a7, .int .i64 a9, .int .i64 bg]] w fun e w' => ∃ v0_ v1_ v2_ : Value, e = .returned (.tuple #[.agg #[v0_, v1_, v2_], .bool r4]) ∧ Kd.R (Kd.int .i64) 3 w' w.heap.size (fun _ => True) v0_ r1 ∧ Kd.S (Kd.slice 3 (Kd.int .i64)) 22 w' w.heap.size (fun k_ => some k_ ≠ (v0_ : Value).ownBlock) v1_ r2 ∧ Kd.Q k25 25 w' w.heap.size (fun k_ => some k_ ≠ (v0_ : Value).ownBlock ∧ some k_ ≠ (v1_ : Value).ownBlock) v2_ r3 ∧ Below w.heap.size w w' := by
 have hu28 := Try.underlying28
 have hu69 := Try.underlying69
 have hu25 := Try.underlying25
 have dd := Aside0.mk dx
 have d6 := Aside0.mk dy
 clear dx dy
 have cq := Aside0.mk dz
 have d7 := Aside0.mk d2
 clear dz d2
 have m0 := Aside0.mk k5
 have tb := Aside0.mk k6
 clear k5 k6
 have HB := Aside0.mk (Below.refl w.heap.size w)
 have H : ((spec_DeskOk.f k ab aa ak).bind fun ax7 => (if ax7 = true then ((spec_l9Copy.f k ab aa ak).bind fun bt336 => (if (bn == 4 && (a7 == 0 && (a9 == 0 && (bg == 0)))) = true then (spec_DeskDo1.j0 k (decide ((ak.length : Int) > 0)) ab aa ak bn a7 a9 bg bt336.1 bt336.2.1 bt336.2.2) else (spec_DeskDo1.j0 k false ab aa ak bn a7 a9 bg bt336.1 bt336.2.1 bt336.2.2))) else (some (([] : List Int), ([] : List (List Int)), ([] : List (S25)), false)))) = some (r1, r2, r3, r4) := h
 clear h
 obtain ⟨ax7, A3, H⟩ := bind_ H
 by_cases c4 : ax7 = true
 ·subst c4
  replace H := ifp_ H
  replace H := Option.bind_eq_some_iff.mp H
  obtain ⟨⟨de, du, b5⟩, A50, H⟩ := H
  try dsimp only at H
  have A5 := Aside0.mk A50
  clear A50
  have HC6 := Aside0.mk H
  clear H
  go_enter Try.func54, Try.ntmps54
  go_upto_region 4 with (first | ((with_reducible refine gate_dst (N := 2) rfl ?_); (try (refine gate_guard (by rfl) ?_; dsimp only)); refine bx_ (N := 2) #[.slice ag ab.length ae, .slice ah aa.length af, .slice di ak.length db] 28 ?_; intro d5 hg w7 hbox hb; have cb := Aside0.mk (hbox); have dl1 := Aside0.mk ((g8_ : w.heap.size ≤ d5)); have al5 := Aside0.mk ((g8_ : w.heap.size ≤ d5)); replace HB := Aside0.mk (below_step (fe) hb); clear hb hbox hg) | ((with_reducible refine gate_dst (N := 3) rfl ?_); (try (refine gate_guard (by rfl) ?_; dsimp only)); refine bx_ (N := 3) #[.int .i64 bn, .int .i64 a7, .int .i64 a9, .int .i64 bg] 69 ?_; intro ec hg w8 hbox hb; have dg := Aside0.mk (hbox); have dl2 := Aside0.mk ((g8_ : w.heap.size ≤ ec)); have ax8 := Aside0.mk ((g8_ : w.heap.size ≤ ec)); replace HB := Aside0.mk (below_step (fe) hb); have ub := Aside0.mk ((g27_ : d5 ≠ ec)); have uc := Aside0.mk ((g28_ : ec ≠ d5)); replace cb := bb_ cb hb; clear hb hbox hg) | ((with_reducible refine gate_dst (N := 4) rfl ?_); (try (refine gate_guard (by rfl) ?_; dsimp only)); refine bx_ (N := 4) #[.slice none 0 0, .slice none 0 0, .slice none 0 0] 28 ?_; intro bo hg w9 hbox hb; have cm := Aside0.mk (hbox); have dl3 := Aside0.mk ((g8_ : w.heap.size ≤ bo)); have ae9 := Aside0.mk ((g8_ : w.heap.size ≤ bo)); replace HB := Aside0.mk (below_step (fe) hb); have vw := Aside0.mk ((g27_ : d5 ≠ bo)); have vx := Aside0.mk ((g28_ : bo ≠ d5)); replace cb := bb_ cb hb; have zo := Aside0.mk ((g48_ : ec ≠ bo)); have zp := Aside0.mk ((g49_ : bo ≠ ec)); replace dg := bb_ dg hb; clear hb hbox hg; have dl4 := ub.out; have dl5 := uc.out; have ar0 := vw.out; have ar1 := vx.out; obtain ⟨ax9, ay0, bp6, bp7, ay1, bp8⟩ := blk3_ cb) | ((with_reducible refine gate_callee (f := 28) rfl ?_); refine goesL_ (some 11) rfl rfl Try.func28 k_ rfl #[.agg #[.slice ag ab.length ae, .slice ah aa.length af, .slice di ak.length db]] rfl (g2_) ?_; (with_reducible refine (spec_DeskOk.calls k _ _ ab _ _ aa _ _ ak true _ ?side1 ?side2 ?side3 ?side4 ?side5 ?side6 A3.out).mono ?_); (case side1 => exact uf1_ dd); (case side2 => exact d6.out); (case side3 => exact uf1_ cq); (case side4 => exact d7.out); (case side5 => exact uf1_ m0); (case side6 => exact tb.out); rintro e w13 ⟨rfl, hb⟩; refine ⟨_, rfl, ?_⟩; replace cb := bb_ cb hb; replace dg := bb_ dg hb; replace cm := bb_ cm hb; replace HB := Aside0.mk (below_step (fe) hb); (try clear hb); (try clear hk hi); obtain ⟨ah4, ah5, be3, ah6, ah7, be4⟩ := blk3_ cb) | ((with_reducible refine gate_callee (f := 100) rfl ?_); refine goesL_ (some 15) rfl rfl Try.func100 k_ rfl #[.agg #[.slice ag ab.length ae, .slice ah aa.length af, .slice di ak.length db]] rfl (g2_) ?_; (with_reducible refine (spec_l9Copy.calls k _ _ ab _ _ aa _ _ ak de du b5 _ ?side1 ?side2 ?side3 ?side4 ?side5 ?side6 A5.out).mono ?_); (case side1 => exact uf1_ dd); (case side2 => exact d6.out); (case side3 => exact uf1_ cq); (case side4 => exact d7.out); (case side5 => exact uf1_ m0); (case side6 => exact tb.out); rintro e w15 ⟨dl6, dl7, dl8, rfl, am, ba, d3, hb⟩; refine ⟨_, rfl, ?_⟩; have ml := Aside0.mk (Kd.R_lower am (below_size (fe))); have p0 := Aside0.mk (Kd.S_lower ba (below_size (fe))); have ni := Aside0.mk (Kd.R_lower d3 (below_size (fe))); replace cb := bb_ cb hb; replace dg := bb_ dg hb; replace cm := bb_ cm hb; replace HB := Aside0.mk (below_step (fe) hb); (try clear hb); (try clear hk hi); (try clear am); (try clear ba); (try clear d3)) | ((with_reducible refine gate_dst (N := 6) rfl ?_); (try (refine gate_guard (by rfl) ?_; dsimp only)); refine bx_ (N := 6) #[.slice none 0 0, .slice none 0 0, .slice none 0 0] 28 ?_; intro au hg fo hbox hb; replace ml := Aside0.mk (Kd.R_below (uf2_ ml) hb); replace p0 := Aside0.mk (Kd.S_below (uf3_ p0) hb); replace ni := Aside0.mk (Kd.R_below (uf2_ ni) hb); have dc := Aside0.mk (hbox); have fa9 := Aside0.mk ((g8_ : w.heap.size ≤ au)); have zn := Aside0.mk ((g8_ : w.heap.size ≤ au)); replace HB := Aside0.mk (below_step (fe) hb); have n5 := Aside0.mk ((g27_ : d5 ≠ au)); have zq := Aside0.mk ((g28_ : au ≠ d5)); replace cb := bb_ cb hb; have nj := Aside0.mk ((g48_ : ec ≠ au)); have vy := Aside0.mk ((g49_ : au ≠ ec)); replace dg := bb_ dg hb; have lb := Aside0.mk ((g68_ : bo ≠ au)); have af0 := Aside0.mk ((g69_ : au ≠ bo)); replace cm := bb_ cm hb; clear hb hbox hg; obtain ⟨dk, dh, u7⟩ := Kd.R_slice ml.out; subst u7; have cs4 := zq.out; have cs5 := n5.out; have bf1 := vy.out; have bf2 := nj.out; have aq6 := af0.out; have aq7 := lb.out; obtain ⟨rx, ry, bv7, tk, rz, bv8⟩ := blk3_ dc; obtain ⟨e2, en, af1⟩ := Kd.S_slice p0.out; subst af1; obtain ⟨ei, cn, ad7⟩ := Kd.R_slice ni.out; subst ad7))
  (try simp only [Act.put, List.setIfInBounds_toArray, List.set_cons_zero, List.set_cons_succ])
  go_cut [24] (fun v24 wc => ∃ (kq : Nat) (bp9 : Bool), v24 = .bool bp9 ∧ Aside0 (spec_DeskDo1.j0 kq bp9 ab aa ak bn a7 a9 bg de du b5 = some (r1, r2, r3, r4)) ∧ Aside0 (kq ≤ k) ∧ Aside0 (Kd.R (Kd.int .i64) 3 wc w.heap.size (fun _ => True) (.slice dk de.length dh) de) ∧ Aside0 (Kd.S (Kd.slice 3 (Kd.int .i64)) 22 wc w.heap.size (fun k_ => some k_ ≠ ((.slice dk de.length dh) : Value).ownBlock) (.slice e2 du.length en) du) ∧ Aside0 (Kd.Q k25 25 wc w.heap.size (fun k_ => some k_ ≠ ((.slice dk de.length dh) : Value).ownBlock ∧ some k_ ≠ ((.slice e2 du.length en) : Value).ownBlock) (.slice ei b5.length cn) b5) ∧ Aside0 (wc.heap[d5]? = some (.cells #[(.slice ag ab.length ae), (.slice ah aa.length af), (.slice di ak.length db)] 28 (0, 0))) ∧ Aside0 (wc.heap[ec]? = some (.cells #[.int .i64 bn, .int .i64 a7, .int .i64 a9, .int .i64 bg] 69 (0, 0))) ∧ Aside0 (wc.heap[bo]? = some (.cells #[(.slice none 0 0), (.slice none 0 0), (.slice none 0 0)] 28 (0, 0))) ∧ Aside0 (wc.heap[au]? = some (.cells #[(.slice dk de.length dh), (.slice e2 du.length en), (.slice ei b5.length cn)] 28 (0, 0))) ∧ Aside0 (Below w.heap.size w wc))
  case first =>
   have H := HC6.out
   clear HC6
   by_cases fn : (bn == 4 && (a7 == 0 && (a9 == 0 && (bg == 0)))) = true
   ·rw [if_pos fn] at H
    have pf : (bn == 4 && (a7 == 0 && (a9 == 0 && (bg == 0)))) = true := fn
    (try (have dl9 : decide (bn = 4 && (a7 == 0 && (a9 == 0 && (bg == 0)))) = true := by simpa using fn))
    (try (have dm0 : (bn == 4 && (a7 == 0 && (a9 == 0 && (bg == 0)))) = true := by simpa using fn))
    clear fn
    (first | rw [pf] | (simp only [i64_w, i32_w]; rw [pf]) | skip)
    have H' := Aside0.mk H
    clear H
    have er5 := uc.out
    have er6 := ub.out
    have df6 := zo.out
    have df7 := zp.out
    have fb0 := nj.out
    have fb1 := vy.out
    obtain ⟨bt7, bt8, dm1, fb2, bt9, bu0, dm2, fb3⟩ := blk4_ dg
    have bx3 := vw.out
    have bx4 := vx.out
    have cr0 := n5.out
    have cr1 := zq.out
    obtain ⟨ao7, ao8, bo4, ao9, ap0, bo5⟩ := blk3_ cb
    go_wp2
    go_meet
    case rel => exact ⟨_, (decide ((ak.length : Int) > 0)), (g3_), H', ⟨g10_⟩, ⟨by (with_reducible repeat (first | apply Kd.R_alloc | apply Kd.R_drewN | apply Kd.R_drew)); exact Kd.R_mono (Kd.R_far (p := ⟨au, 2, none⟩) (Kd.R_far (p := ⟨au, 1, none⟩) (Kd.R_far (p := ⟨au, 0, none⟩) (Kd.R_types ml.out dc.out (by decide)) (fun _ hk => hk.2) (.slice dk de.length dh)) (fun _ hk => hk.2) (.slice e2 du.length en)) (fun _ hk => hk.2) (.slice ei b5.length cn)) (fun _ hk => trivial)⟩, ⟨by (with_reducible repeat (first | apply Kd.S_alloc | apply Kd.S_drewN | apply Kd.S_drew)); exact Kd.S_mono (Kd.S_far (p := ⟨au, 2, none⟩) (Kd.S_far (p := ⟨au, 1, none⟩) (Kd.S_far (p := ⟨au, 0, none⟩) (Kd.S_types p0.out dc.out (by decide)) (fun _ hk => hk.2) (.slice dk de.length dh)) (fun _ hk => hk.2) (.slice e2 du.length en)) (fun _ hk => hk.2) (.slice ei b5.length cn)) (fun _ hk => hk.1)⟩, ⟨Kd.Q_of_R (by (with_reducible repeat (first | apply Kd.R_alloc | apply Kd.R_drewN | apply Kd.R_drew)); exact Kd.R_mono (Kd.R_far (p := ⟨au, 2, none⟩) (Kd.R_far (p := ⟨au, 1, none⟩) (Kd.R_far (p := ⟨au, 0, none⟩) (Kd.R_types ni.out dc.out (by decide)) (fun _ hk => hk.2) (.slice dk de.length dh)) (fun _ hk => hk.2) (.slice e2 du.length en)) (fun _ hk => hk.2) (.slice ei b5.length cn)) (fun _ hk => ⟨hk.1.1, hk.1.2⟩))⟩, ⟨by (with_reducible repeat (first | refine blk_drewN ?_ _ | refine blk_drew ?_ | refine blk_alloc ?_ _)); refine blk_far ?_ n5.out _; refine blk_far ?_ n5.out _; refine blk_far ?_ n5.out _; exact uf0_ cb⟩, ⟨by (with_reducible repeat (first | refine blk_drewN ?_ _ | refine blk_drew ?_ | refine blk_alloc ?_ _)); refine blk_far ?_ nj.out _; refine blk_far ?_ nj.out _; refine blk_far ?_ nj.out _; exact uf0_ dg⟩, ⟨by (with_reducible repeat (first | refine blk_drewN ?_ _ | refine blk_drew ?_ | refine blk_alloc ?_ _)); refine blk_far ?_ lb.out _; refine blk_far ?_ lb.out _; refine blk_far ?_ lb.out _; exact uf0_ cm⟩, ⟨by (with_reducible repeat (first | refine blk_drewN ?_ _ | refine blk_drew ?_ | refine blk_alloc ?_ _)); refine blk_put (cs := #[.slice dk de.length dh, .slice e2 du.length en, .slice none 0 0]) ?_ 2 _ rfl; refine blk_put (cs := #[.slice dk de.length dh, .slice none 0 0, .slice none 0 0]) ?_ 1 _ rfl; refine blk_put (cs := #[.slice none 0 0, .slice none 0 0, .slice none 0 0]) ?_ 0 _ rfl; exact uf0_ dc⟩, ⟨fe⟩⟩
   ·rw [if_neg fn] at H
    have pf : (bn == 4 && (a7 == 0 && (a9 == 0 && (bg == 0)))) = false := by simpa using fn
    (try (have dl9 : decide (bn = 4 && (a7 == 0 && (a9 == 0 && (bg == 0)))) = false := by simpa using fn))
    (try (have dm0 : (bn == 4 && (a7 == 0 && (a9 == 0 && (bg == 0)))) = false := by simpa using fn))
    (try (have gq2 : ¬ (bn = 4 && (a7 == 0 && (a9 == 0 && (bg == 0)))) := by simpa using fn))
    clear fn
    (first | rw [pf] | (simp only [i64_w, i32_w]; rw [pf]) | skip)
    have H' := Aside0.mk H
    clear H
    have cf4 := uc.out
    have cf5 := ub.out
    have bf6 := zo.out
    have bf7 := zp.out
    have dg8 := nj.out
    have dg9 := vy.out
    obtain ⟨ai0, ai1, ax5, bo6, ai2, ai3, ax6, bo7⟩ := blk4_ dg
    go_wp2
    go_meet
    case rel => exact ⟨_, (false), (g3_), H', ⟨g10_⟩, ⟨by (with_reducible repeat (first | apply Kd.R_alloc | apply Kd.R_drewN | apply Kd.R_drew)); exact Kd.R_mono (Kd.R_far (p := ⟨au, 2, none⟩) (Kd.R_far (p := ⟨au, 1, none⟩) (Kd.R_far (p := ⟨au, 0, none⟩) (Kd.R_types ml.out dc.out (by decide)) (fun _ hk => hk.2) (.slice dk de.length dh)) (fun _ hk => hk.2) (.slice e2 du.length en)) (fun _ hk => hk.2) (.slice ei b5.length cn)) (fun _ hk => trivial)⟩, ⟨by (with_reducible repeat (first | apply Kd.S_alloc | apply Kd.S_drewN | apply Kd.S_drew)); exact Kd.S_mono (Kd.S_far (p := ⟨au, 2, none⟩) (Kd.S_far (p := ⟨au, 1, none⟩) (Kd.S_far (p := ⟨au, 0, none⟩) (Kd.S_types p0.out dc.out (by decide)) (fun _ hk => hk.2) (.slice dk de.length dh)) (fun _ hk => hk.2) (.slice e2 du.length en)) (fun _ hk => hk.2) (.slice ei b5.length cn)) (fun _ hk => hk.1)⟩, ⟨Kd.Q_of_R (by (with_reducible repeat (first | apply Kd.R_alloc | apply Kd.R_drewN | apply Kd.R_drew)); exact Kd.R_mono (Kd.R_far (p := ⟨au, 2, none⟩) (Kd.R_far (p := ⟨au, 1, none⟩) (Kd.R_far (p := ⟨au, 0, none⟩) (Kd.R_types ni.out dc.out (by decide)) (fun _ hk => hk.2) (.slice dk de.length dh)) (fun _ hk => hk.2) (.slice e2 du.length en)) (fun _ hk => hk.2) (.slice ei b5.length cn)) (fun _ hk => ⟨hk.1.1, hk.1.2⟩))⟩, ⟨by (with_reducible repeat (first | refine blk_drewN ?_ _ | refine blk_drew ?_ | refine blk_alloc ?_ _)); refine blk_far ?_ n5.out _; refine blk_far ?_ n5.out _; refine blk_far ?_ n5.out _; exact uf0_ cb⟩, ⟨by (with_reducible repeat (first | refine blk_drewN ?_ _ | refine blk_drew ?_ | refine blk_alloc ?_ _)); refine blk_far ?_ nj.out _; refine blk_far ?_ nj.out _; refine blk_far ?_ nj.out _; exact uf0_ dg⟩, ⟨by (with_reducible repeat (first | refine blk_drewN ?_ _ | refine blk_drew ?_ | refine blk_alloc ?_ _)); refine blk_far ?_ lb.out _; refine blk_far ?_ lb.out _; refine blk_far ?_ lb.out _; exact uf0_ cm⟩, ⟨by (with_reducible repeat (first | refine blk_drewN ?_ _ | refine blk_drew ?_ | refine blk_alloc ?_ _)); refine blk_put (cs := #[.slice dk de.length dh, .slice e2 du.length en, .slice none 0 0]) ?_ 2 _ rfl; refine blk_put (cs := #[.slice dk de.length dh, .slice none 0 0, .slice none 0 0]) ?_ 1 _ rfl; refine blk_put (cs := #[.slice none 0 0, .slice none 0 0, .slice none 0 0]) ?_ 0 _ rfl; exact uf0_ dc⟩, ⟨fe⟩⟩
  case rest =>
   clear HC6
   try clear c1
   try clear c2
   try clear p2
   try clear c3
   try clear c4
   try clear c5
   try clear fv
   try clear kn
   try clear fu
   try clear dl
   try clear ir
   try clear fn
   try clear pf
   try clear dl9
   try clear dm0
   try clear lg
   try clear r8
   try clear ij
   try clear mf
   try clear pt
   try clear m8
   try clear ov
   try clear qv
   try clear li
   try clear ax9
   try clear ay0
   try clear bp6
   try clear ah4
   try clear ah5
   try clear be3
   try clear rx
   try clear ry
   try clear bv7
   try clear bt7
   try clear bt8
   try clear dm1
   try clear fb2
   try clear ao7
   try clear ao8
   try clear bo4
   try clear ai0
   try clear ai1
   try clear ax5
   try clear bo6
   try clear bp7
   try clear ay1
   try clear bp8
   try clear ah6
   try clear ah7
   try clear be4
   try clear tk
   try clear rz
   try clear bv8
   try clear bt9
   try clear bu0
   try clear dm2
   try clear fb3
   try clear ao9
   try clear ap0
   try clear bo5
   try clear ai2
   try clear ai3
   try clear ax6
   try clear bo7
   obtain ⟨kq, bp9, rfl, HA, HJ5, gw, jl, fc, cb, dg, cm, dc, HB⟩ := hcut
   cases kq with
   | zero => exact absurd HA.out (by simp [spec_DeskDo1.j0])
   | succ kj5 =>
    have H := HA.out
    clear HA
    simp only [spec_DeskDo1.j0] at H
    by_cases jq : bp9 = true
    ·subst jq
     replace H := ifp_ H
     exact absurd H (by simp)
    ·replace jq := Bool.eq_false_iff.mpr jq
     subst jq
     replace H := ifn_ H
     replace H := Option.bind_eq_some_iff.mp H
     obtain ⟨⟨cu, cv, fb4⟩, dm3, H⟩ := H
     try dsimp only at H
     have A37 := Aside0.mk dm3
     clear dm3
     by_cases vp : fb4 = true
     ·subst vp
      replace H := ifp_ H
      obtain ⟨nc, H⟩ := pos_ H
      have dm4 := Aside0.mk nc
      clear nc
      obtain ⟨gs, hy354⟩ : ∃ y_ : List (S25), y_ = (b5 ++ [(⟨de, du⟩ : S25)]) := ⟨_, rfl⟩
      replace H : (if (gs.length : Int) > 8 then (if 1 ≤ (gs.length : Int) then (some (cu, cv, (gs.drop (1 : Int).toNat), true)) else (none)) else (some (cu, cv, gs, true))) = some (r1, r2, r3, r4) := by first | (rw [hy354]; with_reducible exact H) | (have H2_ := (Option.bind_some _ _).symm.trans H; rw [hy354]; with_reducible exact H2_) | (have H2_ := (Option.bind_some _ _).symm.trans H; with_reducible exact H2_) | with_reducible exact H | (rw [hy354]; exact H) | exact H
      have dm5 := Aside0.mk hy354
      clear hy354
      by_cases ny : (gs.length : Int) > 8
      ·rw [if_pos ny] at H
       have cz6 := decide_eq_true ny
       have fb5 : decide (8 < gs.length) = true := decide_eq_true (by omega)
       clear ny
       obtain ⟨h9, H⟩ := pos_ H
       have yo := eq_true h9
       have aj8 := decide_eq_true h9
       clear h9
       obtain ⟨ri, hy357⟩ : ∃ y_ : List (S25), y_ = (gs.drop (1 : Int).toNat) := ⟨_, rfl⟩
       replace H : (some (cu, cv, ri, true)) = some (r1, r2, r3, r4) := by first | (rw [hy357]; with_reducible exact H) | (have H2_ := (Option.bind_some _ _).symm.trans H; rw [hy357]; with_reducible exact H2_) | (have H2_ := (Option.bind_some _ _).symm.trans H; with_reducible exact H2_) | with_reducible exact H | (rw [hy357]; exact H) | exact H
       have dm6 := Aside0.mk hy357
       clear hy357
       simp only [Option.some.injEq, Prod.mk.injEq] at H
       obtain ⟨rfl, rfl, rfl, rfl⟩ := H
       have gq3 := ub.out
       have gq4 := uc.out
       have gq5 := vw.out
       have gq6 := vx.out
       have en5 := n5.out
       have en6 := zq.out
       obtain ⟨gq7, gq8, gq9, gr0, gr1, gr2⟩ := blk3_ cb
       have bz9 := zo.out
       have ca0 := zp.out
       have cf8 := nj.out
       have cf9 := vy.out
       obtain ⟨cg0, cg1, gr3, gr4, cg2, cg3, gr5, gr6⟩ := blk4_ dg
       go_wp2_with (first | ((with_reducible refine gate_callee (f := 101) rfl ?_); refine goesL_ (some 45) rfl rfl Try.func101 k_ rfl #[.agg #[.slice ag ab.length ae, .slice ah aa.length af], .agg #[.int .i64 bn, .int .i64 a7, .int .i64 a9, .int .i64 bg]] rfl (g2_) ?_; (with_reducible refine (spec_l9Made.calls kj5 _ _ ab _ _ aa bn a7 a9 bg cu cv true _ ?side1 ?side2 ?side3 ?side4 A37.out).mono ?_); (case side1 => exact uf1_ dd); (case side2 => exact d6.out); (case side3 => exact uf1_ cq); (case side4 => exact d7.out); rintro e w49 ⟨dm7, dm8, rfl, am, ba, hb⟩; refine ⟨_, rfl, ?_⟩; replace fc := Aside0.mk (Kd.Q_mono (Kd.Q_told (Kd.Q_told (Kd.Q_old (uf6_ fc) hb) (Kd.R_base am)) (Kd.S_base ba)) (fun _ h_ => h_.1)); have je := Aside0.mk (Kd.R_lower (Kd.R_new' am (Kd.R_lt (uf2_ gw))) (below_size (fe))); have io := Aside0.mk (Kd.S_lower (Kd.S_new' (Kd.S_new' ba (Kd.R_lt (uf2_ gw))) (Kd.S_lt (uf3_ jl))) (below_size (fe))); replace gw := Aside0.mk (Kd.R_elder' (uf2_ gw) (Kd.R_base am) hb); replace jl := Aside0.mk (Kd.S_mono (Kd.S_told (Kd.S_told (Kd.S_old (uf3_ jl) hb) (Kd.R_base am)) (Kd.S_base ba)) (fun _ h_ => h_.1)); replace cb := bb_ cb hb; replace dg := bb_ dg hb; replace cm := bb_ cm hb; replace dc := bb_ dc hb; replace HB := Aside0.mk (below_step (fe) hb); (try clear hb); (try clear hk hi); (try clear am); (try clear ba)) | ((with_reducible refine gate_dst (N := 8) rfl ?_); (try (refine gate_guard (by rfl) ?_; dsimp only)); refine bx_ (N := 8) #[.slice none 0 0, .slice none 0 0] 25 ?_; intro b8 hg w50 hbox hb; replace gw := Aside0.mk (Kd.R_below (uf2_ gw) hb); replace jl := Aside0.mk (Kd.S_below (uf3_ jl) hb); replace fc := Aside0.mk (Kd.Q_below (Kd.Q_elderB (uf6_ fc) b8 (Nat.le_of_eq hg.symm)) hb); replace je := Aside0.mk (Kd.R_below (uf2_ je) hb); replace io := Aside0.mk (Kd.S_below (uf3_ io) hb); have gc := Aside0.mk (hbox); have dm9 := Aside0.mk ((g8_ : w.heap.size ≤ b8)); have cj0 := Aside0.mk ((g8_ : w.heap.size ≤ b8)); replace HB := Aside0.mk (below_step (fe) hb); have vz := Aside0.mk ((g27_ : d5 ≠ b8)); have ay2 := Aside0.mk ((g28_ : b8 ≠ d5)); replace cb := bb_ cb hb; have wa := Aside0.mk ((g48_ : ec ≠ b8)); have ay3 := Aside0.mk ((g49_ : b8 ≠ ec)); replace dg := bb_ dg hb; have sp := Aside0.mk ((g68_ : bo ≠ b8)); have ay4 := Aside0.mk ((g69_ : b8 ≠ bo)); replace cm := bb_ cm hb; have wb := Aside0.mk ((g91_ : au ≠ b8)); have al6 := Aside0.mk ((g92_ : b8 ≠ au)); replace dc := bb_ dc hb; clear hb hbox hg; obtain ⟨ek, ej, al7⟩ := Kd.R_slice je.out; subst al7; have gr7 := ay2.out; have gr8 := vz.out; have gr9 := ay3.out; have gs0 := wa.out; have gs1 := ay4.out; have gs2 := sp.out; have eg8 := al6.out; have eg9 := wb.out; obtain ⟨cx3, cx4, cx5, cx6⟩ := blk2_ gc; obtain ⟨iy, iz, fb6⟩ := Kd.S_slice io.out; subst fb6) | ((with_reducible refine gate_store (t := 25) (p := 8) rfl ?_); refine store_event (t := 25) (p := 8) (v := ?vo_w58) (w1 := ((w50.setCell ⟨b8, 0, none⟩ (.slice ek cu.length ej)).setCell ⟨b8, 1, none⟩ (.slice iy cv.length iz))) ?hg ?ho ?hn ?hr ?_; (case ho => rfl); (case hg => rfl); (case hn => rfl); (case hr => first | (go_simp; done) | (go_simp; rfl) | (obtain ⟨_, _, e0_⟩ := Kd.R_slice gw.out; rw [e0_]; first | (go_simp; done) | (go_simp; rfl))); intro pq hw; replace gw : Aside0 (Kd.R (Kd.int .i64) 3 pq w.heap.size (fun k_ => some k_ ≠ (.slice ek cu.length ej : Value).ownBlock) (.slice dk de.length dh) de) := ⟨(by rw [hw]; exact (by (with_reducible repeat (first | apply Kd.R_alloc | apply Kd.R_drewN | apply Kd.R_drew)); exact Kd.R_mono (Kd.R_far (p := ⟨b8, 1, none⟩) (Kd.R_far (p := ⟨b8, 0, none⟩) (Kd.R_types gw.out gc.out (by decide)) (fun _ hk => hk.2) (.slice ek cu.length ej)) (fun _ hk => hk.2) (.slice iy cv.length iz)) (fun _ hk => hk.1.2)))⟩; replace jl : Aside0 (Kd.S (Kd.slice 3 (Kd.int .i64)) 22 pq w.heap.size (fun k_ => some k_ ≠ (.slice dk de.length dh : Value).ownBlock ∧ some k_ ≠ (.slice ek cu.length ej : Value).ownBlock ∧ some k_ ≠ (.slice iy cv.length iz : Value).ownBlock) (.slice e2 du.length en) du) := ⟨(by rw [hw]; exact (by (with_reducible repeat (first | apply Kd.S_alloc | apply Kd.S_drewN | apply Kd.S_drew)); exact Kd.S_mono (Kd.S_far (p := ⟨b8, 1, none⟩) (Kd.S_far (p := ⟨b8, 0, none⟩) (Kd.S_types jl.out gc.out (by decide)) (fun _ hk => hk.2) (.slice ek cu.length ej)) (fun _ hk => hk.2) (.slice iy cv.length iz)) (fun _ hk => ⟨hk.1.1.1, ⟨hk.1.1.2, hk.1.2⟩⟩)))⟩; replace fc : Aside0 (Kd.Q k25 25 pq w.heap.size (fun k_ => some k_ ≠ (.slice dk de.length dh : Value).ownBlock ∧ some k_ ≠ (.slice e2 du.length en : Value).ownBlock ∧ some k_ ≠ (.slice ek cu.length ej : Value).ownBlock ∧ some k_ ≠ (.slice iy cv.length iz : Value).ownBlock ∧ k_ ≠ b8) (.slice ei b5.length cn) b5) := ⟨(by rw [hw]; exact (by (with_reducible repeat (first | apply Kd.Q_alloc | apply Kd.Q_drewN | apply Kd.Q_drew)); exact Kd.Q_mono (Kd.Q_far (p := ⟨b8, 1, none⟩) (Kd.Q_far (p := ⟨b8, 0, none⟩) (Kd.Q_mono fc.out (fun k_ hk => (⟨hk, hk.2⟩ : _ ∧ k_ ≠ b8))) (fun _ hk => hk.2) (.slice ek cu.length ej)) (fun _ hk => hk.2) (.slice iy cv.length iz)) (fun _ hk => ⟨hk.1.1.1.1.1, ⟨hk.1.1.1.1.2, ⟨hk.1.1.1.2, ⟨hk.1.1.2, hk.1.2⟩⟩⟩⟩)))⟩; replace je : Aside0 (Kd.R (Kd.int .i64) 3 pq w.heap.size (fun k_ => some k_ ≠ (.slice dk de.length dh : Value).ownBlock) (.slice ek cu.length ej) cu) := ⟨(by rw [hw]; exact (by (with_reducible repeat (first | apply Kd.R_alloc | apply Kd.R_drewN | apply Kd.R_drew)); exact Kd.R_mono (Kd.R_far (p := ⟨b8, 1, none⟩) (Kd.R_far (p := ⟨b8, 0, none⟩) (Kd.R_types je.out gc.out (by decide)) (fun _ hk => hk.2) (.slice ek cu.length ej)) (fun _ hk => hk.2) (.slice iy cv.length iz)) (fun _ hk => hk.1.2)))⟩; replace io : Aside0 (Kd.S (Kd.slice 3 (Kd.int .i64)) 22 pq w.heap.size (fun k_ => some k_ ≠ (.slice dk de.length dh : Value).ownBlock ∧ some k_ ≠ (.slice e2 du.length en : Value).ownBlock ∧ some k_ ≠ (.slice ek cu.length ej : Value).ownBlock) (.slice iy cv.length iz) cv) := ⟨(by rw [hw]; exact (by (with_reducible repeat (first | apply Kd.S_alloc | apply Kd.S_drewN | apply Kd.S_drew)); exact Kd.S_mono (Kd.S_far (p := ⟨b8, 1, none⟩) (Kd.S_far (p := ⟨b8, 0, none⟩) (Kd.S_types io.out gc.out (by decide)) (fun _ hk => hk.2) (.slice ek cu.length ej)) (fun _ hk => hk.2) (.slice iy cv.length iz)) (fun _ hk => ⟨hk.1.1.2, ⟨hk.1.2, hk.1.1.1⟩⟩)))⟩; replace cb : Aside0 (pq.heap[d5]? = some (.cells #[.slice ag ab.length ae, .slice ah aa.length af, .slice di ak.length db] 28 (0, 0))) := ⟨(by rw [hw]; exact (by (with_reducible repeat (first | refine blk_drewN ?_ _ | refine blk_drew ?_ | refine blk_alloc ?_ _)); refine blk_far ?_ vz.out _; refine blk_far ?_ vz.out _; exact uf0_ cb))⟩; replace dg : Aside0 (pq.heap[ec]? = some (.cells #[.int .i64 bn, .int .i64 a7, .int .i64 a9, .int .i64 bg] 69 (0, 0))) := ⟨(by rw [hw]; exact (by (with_reducible repeat (first | refine blk_drewN ?_ _ | refine blk_drew ?_ | refine blk_alloc ?_ _)); refine blk_far ?_ wa.out _; refine blk_far ?_ wa.out _; exact uf0_ dg))⟩; replace cm : Aside0 (pq.heap[bo]? = some (.cells #[.slice none 0 0, .slice none 0 0, .slice none 0 0] 28 (0, 0))) := ⟨(by rw [hw]; exact (by (with_reducible repeat (first | refine blk_drewN ?_ _ | refine blk_drew ?_ | refine blk_alloc ?_ _)); refine blk_far ?_ sp.out _; refine blk_far ?_ sp.out _; exact uf0_ cm))⟩; replace dc : Aside0 (pq.heap[au]? = some (.cells #[.slice dk de.length dh, .slice e2 du.length en, .slice ei b5.length cn] 28 (0, 0))) := ⟨(by rw [hw]; exact (by (with_reducible repeat (first | refine blk_drewN ?_ _ | refine blk_drew ?_ | refine blk_alloc ?_ _)); refine blk_far ?_ wb.out _; refine blk_far ?_ wb.out _; exact uf0_ dc))⟩; replace gc : Aside0 (pq.heap[b8]? = some (.cells #[.slice ek cu.length ej, .slice iy cv.length iz] 25 (0, 0))) := ⟨(by rw [hw]; exact (by (with_reducible repeat (first | refine blk_drewN ?_ _ | refine blk_drew ?_ | refine blk_alloc ?_ _)); refine blk_put (cs := #[.slice ek cu.length ej, .slice none 0 0]) ?_ 1 _ rfl; refine blk_put (cs := #[.slice none 0 0, .slice none 0 0]) ?_ 0 _ rfl; exact uf0_ gc))⟩; replace HB : Aside0 (Below w.heap.size w pq) := ⟨(by rw [hw]; exact (fe))⟩; clear hw; have fb7 := af0.out; have fb8 := lb.out; obtain ⟨ej5, ej6, gs3, ej7, ej8, gs4⟩ := blk3_ dc) | ((with_reducible refine gate_builtin (b := .append) (xs := #[.tmp 52, .tmp 55]) rfl ?_); (try (refine gate_guard (by rfl) ?_; dsimp only)); at_builtin; refine Kd.Q_append k25 (w0 := w) w.heap.size rfl (.tmp 52) (.tmp 55) 26 25 (.agg #[(.slice none 0 0), (.slice none 0 0)]) 48 rfl Try.underlying26 info25 rfl (by decide) (by omega) (.slice ei b5.length cn) b5 (⟨de, du⟩ : S25) [.slice dk de.length dh, .slice e2 du.length en] (fun k_ => some k_ ≠ (.slice ek cu.length ej : Value).ownBlock ∧ some k_ ≠ (.slice iy cv.length iz : Value).ownBlock ∧ k_ ≠ b8) (fun k_ => ((fun k_ => some k_ ≠ (.slice ek cu.length ej : Value).ownBlock ∧ some k_ ≠ (.slice iy cv.length iz : Value).ownBlock ∧ k_ ≠ b8)) k_ ∧ some k_ ≠ (.slice ei b5.length cn : Value).ownBlock) rfl rfl ?aP (fun _ hk => hk) ?aF ?aO ?aB ?aS ?aL ?_; (case aP => exact k25_mkM _ _ _ (⟨de, du⟩ : S25) (Kd.R_mono (Kd.R_types (Kd.R_apart' (Kd.R_apart' (gw.out) (Kd.S_typed io.out) (by decide)) (Kd.Q_typed fc.out) (by decide)) gc.out (by decide)) (fun k_ hk => ⟨⟨hk.1.1.1, ⟨hk.1.1.2, hk.2⟩⟩, hk.1.2⟩)) (Kd.R_mono (Kd.R_types (Kd.R_apart' ((Kd.S_R jl.out)) (Kd.Q_typed fc.out) (by decide)) gc.out (by decide)) (fun k_ hk => ⟨⟨hk.1.1.2.1, ⟨hk.1.1.2.2, hk.2⟩⟩, hk.1.2⟩))); (case aB => exact (fe)); (case aF => exact (fun k_ hk => ⟨Kd.fresh' (Kd.R_lt (uf2_ je)) k_ hk, Kd.fresh' (Kd.S_lt (uf3_ io)) k_ hk, Kd.freshB (g := b8) (o := .cells #[.slice ek cu.length ej, .slice iy cv.length iz] 25 (0, 0)) (uf0_ gc) k_ hk⟩)); (case aO => exact (by (with_reducible repeat (first | apply Kd.Q_alloc | apply Kd.Q_drewN | apply Kd.Q_drew)); exact Kd.Q_mono fc.out (fun _ hk => ⟨hk.2.2.1, ⟨hk.2.2.2.1, hk.2.2.2.2⟩⟩))); (case aS => exact (below_size (fe))); (case aL => have := dm4.out; omega); intro fb9 w61 ho hb hg hat; rw [← dm5.out] at ho; replace cb := Aside0.mk (blk_grown (g := d5) (o := .cells #[.slice ag ab.length ae, .slice ah aa.length af, .slice di ak.length db] 28 (0, 0)) (uf0_ cb) hg (Kd.Q_ne fc.out cb.out (by decide))); replace dg := Aside0.mk (blk_grown (g := ec) (o := .cells #[.int .i64 bn, .int .i64 a7, .int .i64 a9, .int .i64 bg] 69 (0, 0)) (uf0_ dg) hg (Kd.Q_ne fc.out dg.out (by decide))); replace cm := Aside0.mk (blk_grown (g := bo) (o := .cells #[.slice none 0 0, .slice none 0 0, .slice none 0 0] 28 (0, 0)) (uf0_ cm) hg (Kd.Q_ne fc.out cm.out (by decide))); replace dc := Aside0.mk (blk_grown (g := au) (o := .cells #[.slice dk de.length dh, .slice e2 du.length en, .slice ei b5.length cn] 28 (0, 0)) (uf0_ dc) hg (Kd.Q_ne fc.out dc.out (by decide))); replace je := Aside0.mk (Kd.R_over' (uf2_ je) (Kd.Q_typed (uf6_ fc)) (by decide) hg); replace io := Aside0.mk (Kd.S_over' (uf3_ io) (Kd.Q_typed (uf6_ fc)) (by decide) hg); replace gc := Aside0.mk (blk_grown (g := b8) (o := .cells #[.slice ek cu.length ej, .slice iy cv.length iz] 25 (0, 0)) (uf0_ gc) hg (Kd.Q_away fc.out (fun _ hk => hk.2.2.2.2))); replace HB := Aside0.mk (hb); have zr := Aside0.mk (ho); clear fc gw jl; clear ho hb hg hat; obtain ⟨gx, gy, ay5, _⟩ := Kd.Q_slice zr.out; subst ay5; obtain ⟨dn0, dn1, dn2, dn3, dn4, dn5⟩ := blk3_ dc) | ((with_reducible refine gate_store (t := 26) (p := 57) rfl ?_); refine store_event (t := 26) (p := 57) (v := ?vo_w64) (w1 := (w61.setCell ⟨au, 2, none⟩ (.slice gx gs.length gy))) ?hg ?ho ?hn ?hr ?_; (case ho => rfl); (case hg => rfl); (case hn => rfl); (case hr => first | (go_simp; done) | (go_simp; rfl) | (obtain ⟨_, _, e0_⟩ := Kd.R_slice gw.out; rw [e0_]; first | (go_simp; done) | (go_simp; rfl))); intro ud hw; replace je : Aside0 (Kd.R (Kd.int .i64) 3 ud w.heap.size (fun _ => True) (.slice ek cu.length ej) cu) := ⟨(by rw [hw]; exact (by (with_reducible repeat (first | apply Kd.R_alloc | apply Kd.R_drewN | apply Kd.R_drew)); exact Kd.R_mono (Kd.R_far (p := ⟨au, 2, none⟩) (Kd.R_types je.out dc.out (by decide)) (fun _ hk => hk.2) (.slice gx gs.length gy)) (fun _ hk => trivial)))⟩; replace io : Aside0 (Kd.S (Kd.slice 3 (Kd.int .i64)) 22 ud w.heap.size (fun k_ => some k_ ≠ (.slice ek cu.length ej : Value).ownBlock) (.slice iy cv.length iz) cv) := ⟨(by rw [hw]; exact (by (with_reducible repeat (first | apply Kd.S_alloc | apply Kd.S_drewN | apply Kd.S_drew)); exact Kd.S_mono (Kd.S_far (p := ⟨au, 2, none⟩) (Kd.S_types io.out dc.out (by decide)) (fun _ hk => hk.2) (.slice gx gs.length gy)) (fun _ hk => hk.1.2.2)))⟩; replace zr : Aside0 (Kd.Q k25 25 ud w.heap.size (fun k_ => some k_ ≠ (.slice ek cu.length ej : Value).ownBlock ∧ some k_ ≠ (.slice iy cv.length iz : Value).ownBlock ∧ k_ ≠ b8) (.slice gx gs.length gy) gs) := ⟨(by rw [hw]; exact (by (with_reducible repeat (first | apply Kd.Q_alloc | apply Kd.Q_drewN | apply Kd.Q_drew)); exact Kd.Q_mono (Kd.Q_far (p := ⟨au, 2, none⟩) (Kd.Q_types zr.out dc.out (by decide)) (fun _ hk => hk.2) (.slice gx gs.length gy)) (fun _ hk => ⟨hk.1.1, ⟨hk.1.2.1, hk.1.2.2⟩⟩)))⟩; replace cb : Aside0 (ud.heap[d5]? = some (.cells #[.slice ag ab.length ae, .slice ah aa.length af, .slice di ak.length db] 28 (0, 0))) := ⟨(by rw [hw]; exact (by (with_reducible repeat (first | refine blk_drewN ?_ _ | refine blk_drew ?_ | refine blk_alloc ?_ _)); refine blk_far ?_ n5.out _; exact uf0_ cb))⟩; replace dg : Aside0 (ud.heap[ec]? = some (.cells #[.int .i64 bn, .int .i64 a7, .int .i64 a9, .int .i64 bg] 69 (0, 0))) := ⟨(by rw [hw]; exact (by (with_reducible repeat (first | refine blk_drewN ?_ _ | refine blk_drew ?_ | refine blk_alloc ?_ _)); refine blk_far ?_ nj.out _; exact uf0_ dg))⟩; replace cm : Aside0 (ud.heap[bo]? = some (.cells #[.slice none 0 0, .slice none 0 0, .slice none 0 0] 28 (0, 0))) := ⟨(by rw [hw]; exact (by (with_reducible repeat (first | refine blk_drewN ?_ _ | refine blk_drew ?_ | refine blk_alloc ?_ _)); refine blk_far ?_ lb.out _; exact uf0_ cm))⟩; replace dc : Aside0 (ud.heap[au]? = some (.cells #[.slice dk de.length dh, .slice e2 du.length en, .slice gx gs.length gy] 28 (0, 0))) := ⟨(by rw [hw]; exact (by (with_reducible repeat (first | refine blk_drewN ?_ _ | refine blk_drew ?_ | refine blk_alloc ?_ _)); refine blk_put (cs := #[.slice dk de.length dh, .slice e2 du.length en, .slice ei b5.length cn]) ?_ 2 _ rfl; exact uf0_ dc))⟩; replace gc : Aside0 (ud.heap[b8]? = some (.cells #[.slice ek cu.length ej, .slice iy cv.length iz] 25 (0, 0))) := ⟨(by rw [hw]; exact (by (with_reducible repeat (first | refine blk_drewN ?_ _ | refine blk_drew ?_ | refine blk_alloc ?_ _)); refine blk_far ?_ al6.out _; exact uf0_ gc))⟩; replace HB : Aside0 (Below w.heap.size w ud) := ⟨(by rw [hw]; exact (fe))⟩; clear hw; obtain ⟨gs5, gs6, gs7, gs8, gs9, gt0⟩ := blk3_ dc; have q66 : (1 : Int) ≤ ((gs.length : Int) : Int) := of_decide_eq_true (g0_); obtain ⟨i066, dn6, _, hsz66, _⟩ := info_parts info25; have hcut66 := cut_from (P := Try.prog) 26 25 .i64 Try.underlying26 dn6 2 hsz66 gx gs.length gy 1 (by omega) q66; have ay6 := Kd.Q_drop (k := (1 : Int).toNat) zr.out (by omega); obtain ⟨wd, hA66⟩ : ∃ A1, A1 = (if gy = (1 : Int).toNat then gx else (gx : Option Addr).map (·.add ((1 : Int).toNat * 2))) := ⟨_, rfl⟩; obtain ⟨t7, cj1⟩ : ∃ c1, c1 = gy - (1 : Int).toNat := ⟨_, rfl⟩; have hy66 : ri.length = gs.length - (1 : Int).toNat := (by rw [dm6.out, List.length_drop]); rw [← dm6.out] at ay6; rw [← hy66, ← hA66, ← cj1] at hcut66; replace ay6 : Kd.Q k25 25 ud w.heap.size (fun k_ => some k_ ≠ (.slice ek cu.length ej : Value).ownBlock ∧ some k_ ≠ (.slice iy cv.length iz : Value).ownBlock ∧ k_ ≠ b8) (.slice wd ri.length t7) ri := (by rw [hA66, cj1, hy66]; exact ay6); have HE66 : Aside0 ((Value.slice wd ri.length t7).ownBlock = (.slice gx gs.length gy : Value).ownBlock) := ⟨by rw [hA66]; split <;> (cases (gx : Option Addr) <;> rfl)⟩; clear hy66 dn6 hsz66 zr hA66 cj1; have fc0 := Aside0.mk ay6; clear ay6; replace q66 := eq_true q66; obtain ⟨fc1, fc2, fc3, fc4⟩ := blk2_ gc; obtain ⟨ci1, ci2, ci3, ci4, ci5, ci6⟩ := blk3_ cm))
       refine bodyPost_ret (results_ct rfl _ _ bo 28 #[.slice ek cu.length ej, .slice iy cv.length iz, .slice wd ri.length t7] (0, 0) _ rfl (by (with_reducible repeat (first | refine blk_drewN ?_ _ | refine blk_drew ?_ | refine blk_alloc ?_ _)); refine blk_put (cs := #[.slice ek cu.length ej, .slice iy cv.length iz, .slice none 0 0]) ?_ 2 _ rfl; refine blk_put (cs := #[.slice ek cu.length ej, .slice none 0 0, .slice none 0 0]) ?_ 1 _ rfl; refine blk_put (cs := #[.slice none 0 0, .slice none 0 0, .slice none 0 0]) ?_ 0 _ rfl; refine blk_far ?_ lb.out _; refine blk_far ?_ lb.out _; refine blk_far ?_ lb.out _; exact uf0_ cm) Try.underlying28 rfl (g1_)) rfl ?_
       exact ⟨_, _, _, g4_, by (with_reducible repeat (first | apply Kd.R_alloc | apply Kd.R_drewN | apply Kd.R_drew)); exact Kd.R_mono (Kd.R_far (p := ⟨bo, 2, none⟩) (Kd.R_far (p := ⟨bo, 1, none⟩) (Kd.R_far (p := ⟨bo, 0, none⟩) (Kd.R_far (p := ⟨au, 1, none⟩) (Kd.R_far (p := ⟨au, 0, none⟩) (Kd.R_far (p := ⟨au, 2, none⟩) (Kd.R_types (Kd.R_types je.out dc.out (by decide)) cm.out (by decide)) (fun _ hk => hk.1.2) (.slice wd ri.length t7)) (fun _ hk => hk.1.2) (.slice ek cu.length ej)) (fun _ hk => hk.1.2) (.slice iy cv.length iz)) (fun _ hk => hk.2) (.slice ek cu.length ej)) (fun _ hk => hk.2) (.slice iy cv.length iz)) (fun _ hk => hk.2) (.slice wd ri.length t7)) (fun _ hk => trivial), by (with_reducible repeat (first | apply Kd.S_alloc | apply Kd.S_drewN | apply Kd.S_drew)); exact Kd.S_mono (Kd.S_far (p := ⟨bo, 2, none⟩) (Kd.S_far (p := ⟨bo, 1, none⟩) (Kd.S_far (p := ⟨bo, 0, none⟩) (Kd.S_far (p := ⟨au, 1, none⟩) (Kd.S_far (p := ⟨au, 0, none⟩) (Kd.S_far (p := ⟨au, 2, none⟩) (Kd.S_types (Kd.S_types io.out dc.out (by decide)) cm.out (by decide)) (fun _ hk => hk.1.2) (.slice wd ri.length t7)) (fun _ hk => hk.1.2) (.slice ek cu.length ej)) (fun _ hk => hk.1.2) (.slice iy cv.length iz)) (fun _ hk => hk.2) (.slice ek cu.length ej)) (fun _ hk => hk.2) (.slice iy cv.length iz)) (fun _ hk => hk.2) (.slice wd ri.length t7)) (fun _ hk => hk.1.1), by (with_reducible repeat (first | apply Kd.Q_alloc | apply Kd.Q_drewN | apply Kd.Q_drew)); exact Kd.Q_mono (Kd.Q_far (p := ⟨bo, 2, none⟩) (Kd.Q_far (p := ⟨bo, 1, none⟩) (Kd.Q_far (p := ⟨bo, 0, none⟩) (Kd.Q_far (p := ⟨au, 1, none⟩) (Kd.Q_far (p := ⟨au, 0, none⟩) (Kd.Q_far (p := ⟨au, 2, none⟩) (Kd.Q_types (Kd.Q_types fc0.out dc.out (by decide)) cm.out (by decide)) (fun _ hk => hk.1.2) (.slice wd ri.length t7)) (fun _ hk => hk.1.2) (.slice ek cu.length ej)) (fun _ hk => hk.1.2) (.slice iy cv.length iz)) (fun _ hk => hk.2) (.slice ek cu.length ej)) (fun _ hk => hk.2) (.slice iy cv.length iz)) (fun _ hk => hk.2) (.slice wd ri.length t7)) (fun _ hk => ⟨hk.1.1.1, hk.1.1.2.1⟩), fe⟩
      ·rw [if_neg ny] at H
       have cz6 := decide_eq_false ny
       have fb5 : decide (8 < gs.length) = false := decide_eq_false (by omega)
       clear ny
       simp only [Option.some.injEq, Prod.mk.injEq] at H
       obtain ⟨rfl, rfl, rfl, rfl⟩ := H
       have fc5 := ub.out
       have fc6 := uc.out
       have di6 := vw.out
       have di7 := vx.out
       have di8 := n5.out
       have di9 := zq.out
       obtain ⟨fc7, fc8, fc9, fd0, fd1, fd2⟩ := blk3_ cb
       have fd3 := zo.out
       have fd4 := zp.out
       have dj0 := nj.out
       have dj1 := vy.out
       obtain ⟨fd5, fd6, fd7, fd8, fd9, fe0, fe1, fe2⟩ := blk4_ dg
       go_wp2_with (first | ((with_reducible refine gate_callee (f := 101) rfl ?_); refine goesL_ (some 45) rfl rfl Try.func101 k_ rfl #[.agg #[.slice ag ab.length ae, .slice ah aa.length af], .agg #[.int .i64 bn, .int .i64 a7, .int .i64 a9, .int .i64 bg]] rfl (g2_) ?_; (with_reducible refine (spec_l9Made.calls kj5 _ _ ab _ _ aa bn a7 a9 bg cu cv true _ ?side1 ?side2 ?side3 ?side4 A37.out).mono ?_); (case side1 => exact uf1_ dd); (case side2 => exact d6.out); (case side3 => exact uf1_ cq); (case side4 => exact d7.out); rintro e w76 ⟨dm7, dm8, rfl, am, ba, hb⟩; refine ⟨_, rfl, ?_⟩; replace fc := Aside0.mk (Kd.Q_mono (Kd.Q_told (Kd.Q_told (Kd.Q_old (uf6_ fc) hb) (Kd.R_base am)) (Kd.S_base ba)) (fun _ h_ => h_.1)); have je := Aside0.mk (Kd.R_lower (Kd.R_new' am (Kd.R_lt (uf2_ gw))) (below_size (fe))); have io := Aside0.mk (Kd.S_lower (Kd.S_new' (Kd.S_new' ba (Kd.R_lt (uf2_ gw))) (Kd.S_lt (uf3_ jl))) (below_size (fe))); replace gw := Aside0.mk (Kd.R_elder' (uf2_ gw) (Kd.R_base am) hb); replace jl := Aside0.mk (Kd.S_mono (Kd.S_told (Kd.S_told (Kd.S_old (uf3_ jl) hb) (Kd.R_base am)) (Kd.S_base ba)) (fun _ h_ => h_.1)); replace cb := bb_ cb hb; replace dg := bb_ dg hb; replace cm := bb_ cm hb; replace dc := bb_ dc hb; replace HB := Aside0.mk (below_step (fe) hb); (try clear hb); (try clear hk hi); (try clear am); (try clear ba)) | ((with_reducible refine gate_dst (N := 8) rfl ?_); (try (refine gate_guard (by rfl) ?_; dsimp only)); refine bx_ (N := 8) #[.slice none 0 0, .slice none 0 0] 25 ?_; intro b8 hg w77 hbox hb; replace gw := Aside0.mk (Kd.R_below (uf2_ gw) hb); replace jl := Aside0.mk (Kd.S_below (uf3_ jl) hb); replace fc := Aside0.mk (Kd.Q_below (Kd.Q_elderB (uf6_ fc) b8 (Nat.le_of_eq hg.symm)) hb); replace je := Aside0.mk (Kd.R_below (uf2_ je) hb); replace io := Aside0.mk (Kd.S_below (uf3_ io) hb); have gc := Aside0.mk (hbox); have dm9 := Aside0.mk ((g8_ : w.heap.size ≤ b8)); have cj0 := Aside0.mk ((g8_ : w.heap.size ≤ b8)); replace HB := Aside0.mk (below_step (fe) hb); have vz := Aside0.mk ((g27_ : d5 ≠ b8)); have ay2 := Aside0.mk ((g28_ : b8 ≠ d5)); replace cb := bb_ cb hb; have wa := Aside0.mk ((g48_ : ec ≠ b8)); have ay3 := Aside0.mk ((g49_ : b8 ≠ ec)); replace dg := bb_ dg hb; have sp := Aside0.mk ((g68_ : bo ≠ b8)); have ay4 := Aside0.mk ((g69_ : b8 ≠ bo)); replace cm := bb_ cm hb; have wb := Aside0.mk ((g91_ : au ≠ b8)); have al6 := Aside0.mk ((g92_ : b8 ≠ au)); replace dc := bb_ dc hb; clear hb hbox hg; obtain ⟨i1, i2, fe3⟩ := Kd.R_slice je.out; subst fe3; have dj2 := ay2.out; have dj3 := vz.out; have eu8 := ay3.out; have eu9 := wa.out; have fe4 := ay4.out; have fe5 := sp.out; have dj4 := al6.out; have dj5 := wb.out; obtain ⟨fe6, fe7, fe8, fe9⟩ := blk2_ gc; obtain ⟨kf, kg, ff0⟩ := Kd.S_slice io.out; subst ff0) | ((with_reducible refine gate_store (t := 25) (p := 8) rfl ?_); refine store_event (t := 25) (p := 8) (v := ?vo_w85) (w1 := ((w77.setCell ⟨b8, 0, none⟩ (.slice i1 cu.length i2)).setCell ⟨b8, 1, none⟩ (.slice kf cv.length kg))) ?hg ?ho ?hn ?hr ?_; (case ho => rfl); (case hg => rfl); (case hn => rfl); (case hr => first | (go_simp; done) | (go_simp; rfl) | (obtain ⟨_, _, e0_⟩ := Kd.R_slice gw.out; rw [e0_]; first | (go_simp; done) | (go_simp; rfl))); intro sq hw; replace gw : Aside0 (Kd.R (Kd.int .i64) 3 sq w.heap.size (fun k_ => some k_ ≠ (.slice i1 cu.length i2 : Value).ownBlock) (.slice dk de.length dh) de) := ⟨(by rw [hw]; exact (by (with_reducible repeat (first | apply Kd.R_alloc | apply Kd.R_drewN | apply Kd.R_drew)); exact Kd.R_mono (Kd.R_far (p := ⟨b8, 1, none⟩) (Kd.R_far (p := ⟨b8, 0, none⟩) (Kd.R_types gw.out gc.out (by decide)) (fun _ hk => hk.2) (.slice i1 cu.length i2)) (fun _ hk => hk.2) (.slice kf cv.length kg)) (fun _ hk => hk.1.2)))⟩; replace jl : Aside0 (Kd.S (Kd.slice 3 (Kd.int .i64)) 22 sq w.heap.size (fun k_ => some k_ ≠ (.slice dk de.length dh : Value).ownBlock ∧ some k_ ≠ (.slice i1 cu.length i2 : Value).ownBlock ∧ some k_ ≠ (.slice kf cv.length kg : Value).ownBlock) (.slice e2 du.length en) du) := ⟨(by rw [hw]; exact (by (with_reducible repeat (first | apply Kd.S_alloc | apply Kd.S_drewN | apply Kd.S_drew)); exact Kd.S_mono (Kd.S_far (p := ⟨b8, 1, none⟩) (Kd.S_far (p := ⟨b8, 0, none⟩) (Kd.S_types jl.out gc.out (by decide)) (fun _ hk => hk.2) (.slice i1 cu.length i2)) (fun _ hk => hk.2) (.slice kf cv.length kg)) (fun _ hk => ⟨hk.1.1.1, ⟨hk.1.1.2, hk.1.2⟩⟩)))⟩; replace fc : Aside0 (Kd.Q k25 25 sq w.heap.size (fun k_ => some k_ ≠ (.slice dk de.length dh : Value).ownBlock ∧ some k_ ≠ (.slice e2 du.length en : Value).ownBlock ∧ some k_ ≠ (.slice i1 cu.length i2 : Value).ownBlock ∧ some k_ ≠ (.slice kf cv.length kg : Value).ownBlock ∧ k_ ≠ b8) (.slice ei b5.length cn) b5) := ⟨(by rw [hw]; exact (by (with_reducible repeat (first | apply Kd.Q_alloc | apply Kd.Q_drewN | apply Kd.Q_drew)); exact Kd.Q_mono (Kd.Q_far (p := ⟨b8, 1, none⟩) (Kd.Q_far (p := ⟨b8, 0, none⟩) (Kd.Q_mono fc.out (fun k_ hk => (⟨hk, hk.2⟩ : _ ∧ k_ ≠ b8))) (fun _ hk => hk.2) (.slice i1 cu.length i2)) (fun _ hk => hk.2) (.slice kf cv.length kg)) (fun _ hk => ⟨hk.1.1.1.1.1, ⟨hk.1.1.1.1.2, ⟨hk.1.1.1.2, ⟨hk.1.1.2, hk.1.2⟩⟩⟩⟩)))⟩; replace je : Aside0 (Kd.R (Kd.int .i64) 3 sq w.heap.size (fun k_ => some k_ ≠ (.slice dk de.length dh : Value).ownBlock) (.slice i1 cu.length i2) cu) := ⟨(by rw [hw]; exact (by (with_reducible repeat (first | apply Kd.R_alloc | apply Kd.R_drewN | apply Kd.R_drew)); exact Kd.R_mono (Kd.R_far (p := ⟨b8, 1, none⟩) (Kd.R_far (p := ⟨b8, 0, none⟩) (Kd.R_types je.out gc.out (by decide)) (fun _ hk => hk.2) (.slice i1 cu.length i2)) (fun _ hk => hk.2) (.slice kf cv.length kg)) (fun _ hk => hk.1.2)))⟩; replace io : Aside0 (Kd.S (Kd.slice 3 (Kd.int .i64)) 22 sq w.heap.size (fun k_ => some k_ ≠ (.slice dk de.length dh : Value).ownBlock ∧ some k_ ≠ (.slice e2 du.length en : Value).ownBlock ∧ some k_ ≠ (.slice i1 cu.length i2 : Value).ownBlock) (.slice kf cv.length kg) cv) := ⟨(by rw [hw]; exact (by (with_reducible repeat (first | apply Kd.S_alloc | apply Kd.S_drewN | apply Kd.S_drew)); exact Kd.S_mono (Kd.S_far (p := ⟨b8, 1, none⟩) (Kd.S_far (p := ⟨b8, 0, none⟩) (Kd.S_types io.out gc.out (by decide)) (fun _ hk => hk.2) (.slice i1 cu.length i2)) (fun _ hk => hk.2) (.slice kf cv.length kg)) (fun _ hk => ⟨hk.1.1.2, ⟨hk.1.2, hk.1.1.1⟩⟩)))⟩; replace cb : Aside0 (sq.heap[d5]? = some (.cells #[.slice ag ab.length ae, .slice ah aa.length af, .slice di ak.length db] 28 (0, 0))) := ⟨(by rw [hw]; exact (by (with_reducible repeat (first | refine blk_drewN ?_ _ | refine blk_drew ?_ | refine blk_alloc ?_ _)); refine blk_far ?_ vz.out _; refine blk_far ?_ vz.out _; exact uf0_ cb))⟩; replace dg : Aside0 (sq.heap[ec]? = some (.cells #[.int .i64 bn, .int .i64 a7, .int .i64 a9, .int .i64 bg] 69 (0, 0))) := ⟨(by rw [hw]; exact (by (with_reducible repeat (first | refine blk_drewN ?_ _ | refine blk_drew ?_ | refine blk_alloc ?_ _)); refine blk_far ?_ wa.out _; refine blk_far ?_ wa.out _; exact uf0_ dg))⟩; replace cm : Aside0 (sq.heap[bo]? = some (.cells #[.slice none 0 0, .slice none 0 0, .slice none 0 0] 28 (0, 0))) := ⟨(by rw [hw]; exact (by (with_reducible repeat (first | refine blk_drewN ?_ _ | refine blk_drew ?_ | refine blk_alloc ?_ _)); refine blk_far ?_ sp.out _; refine blk_far ?_ sp.out _; exact uf0_ cm))⟩; replace dc : Aside0 (sq.heap[au]? = some (.cells #[.slice dk de.length dh, .slice e2 du.length en, .slice ei b5.length cn] 28 (0, 0))) := ⟨(by rw [hw]; exact (by (with_reducible repeat (first | refine blk_drewN ?_ _ | refine blk_drew ?_ | refine blk_alloc ?_ _)); refine blk_far ?_ wb.out _; refine blk_far ?_ wb.out _; exact uf0_ dc))⟩; replace gc : Aside0 (sq.heap[b8]? = some (.cells #[.slice i1 cu.length i2, .slice kf cv.length kg] 25 (0, 0))) := ⟨(by rw [hw]; exact (by (with_reducible repeat (first | refine blk_drewN ?_ _ | refine blk_drew ?_ | refine blk_alloc ?_ _)); refine blk_put (cs := #[.slice i1 cu.length i2, .slice none 0 0]) ?_ 1 _ rfl; refine blk_put (cs := #[.slice none 0 0, .slice none 0 0]) ?_ 0 _ rfl; exact uf0_ gc))⟩; replace HB : Aside0 (Below w.heap.size w sq) := ⟨(by rw [hw]; exact (fe))⟩; clear hw; have gt1 := af0.out; have gt2 := lb.out; obtain ⟨gt3, gt4, gt5, gt6, gt7, gt8⟩ := blk3_ dc) | ((with_reducible refine gate_builtin (b := .append) (xs := #[.tmp 52, .tmp 55]) rfl ?_); (try (refine gate_guard (by rfl) ?_; dsimp only)); at_builtin; refine Kd.Q_append k25 (w0 := w) w.heap.size rfl (.tmp 52) (.tmp 55) 26 25 (.agg #[(.slice none 0 0), (.slice none 0 0)]) 48 rfl Try.underlying26 info25 rfl (by decide) (by omega) (.slice ei b5.length cn) b5 (⟨de, du⟩ : S25) [.slice dk de.length dh, .slice e2 du.length en] (fun k_ => some k_ ≠ (.slice i1 cu.length i2 : Value).ownBlock ∧ some k_ ≠ (.slice kf cv.length kg : Value).ownBlock ∧ k_ ≠ b8) (fun k_ => ((fun k_ => some k_ ≠ (.slice i1 cu.length i2 : Value).ownBlock ∧ some k_ ≠ (.slice kf cv.length kg : Value).ownBlock ∧ k_ ≠ b8)) k_ ∧ some k_ ≠ (.slice ei b5.length cn : Value).ownBlock) rfl rfl ?aP (fun _ hk => hk) ?aF ?aO ?aB ?aS ?aL ?_; (case aP => exact k25_mkM _ _ _ (⟨de, du⟩ : S25) (Kd.R_mono (Kd.R_types (Kd.R_apart' (Kd.R_apart' (gw.out) (Kd.S_typed io.out) (by decide)) (Kd.Q_typed fc.out) (by decide)) gc.out (by decide)) (fun k_ hk => ⟨⟨hk.1.1.1, ⟨hk.1.1.2, hk.2⟩⟩, hk.1.2⟩)) (Kd.R_mono (Kd.R_types (Kd.R_apart' ((Kd.S_R jl.out)) (Kd.Q_typed fc.out) (by decide)) gc.out (by decide)) (fun k_ hk => ⟨⟨hk.1.1.2.1, ⟨hk.1.1.2.2, hk.2⟩⟩, hk.1.2⟩))); (case aB => exact (fe)); (case aF => exact (fun k_ hk => ⟨Kd.fresh' (Kd.R_lt (uf2_ je)) k_ hk, Kd.fresh' (Kd.S_lt (uf3_ io)) k_ hk, Kd.freshB (g := b8) (o := .cells #[.slice i1 cu.length i2, .slice kf cv.length kg] 25 (0, 0)) (uf0_ gc) k_ hk⟩)); (case aO => exact (by (with_reducible repeat (first | apply Kd.Q_alloc | apply Kd.Q_drewN | apply Kd.Q_drew)); exact Kd.Q_mono fc.out (fun _ hk => ⟨hk.2.2.1, ⟨hk.2.2.2.1, hk.2.2.2.2⟩⟩))); (case aS => exact (below_size (fe))); (case aL => have := dm4.out; omega); intro fb9 w88 ho hb hg hat; rw [← dm5.out] at ho; replace cb := Aside0.mk (blk_grown (g := d5) (o := .cells #[.slice ag ab.length ae, .slice ah aa.length af, .slice di ak.length db] 28 (0, 0)) (uf0_ cb) hg (Kd.Q_ne fc.out cb.out (by decide))); replace dg := Aside0.mk (blk_grown (g := ec) (o := .cells #[.int .i64 bn, .int .i64 a7, .int .i64 a9, .int .i64 bg] 69 (0, 0)) (uf0_ dg) hg (Kd.Q_ne fc.out dg.out (by decide))); replace cm := Aside0.mk (blk_grown (g := bo) (o := .cells #[.slice none 0 0, .slice none 0 0, .slice none 0 0] 28 (0, 0)) (uf0_ cm) hg (Kd.Q_ne fc.out cm.out (by decide))); replace dc := Aside0.mk (blk_grown (g := au) (o := .cells #[.slice dk de.length dh, .slice e2 du.length en, .slice ei b5.length cn] 28 (0, 0)) (uf0_ dc) hg (Kd.Q_ne fc.out dc.out (by decide))); replace je := Aside0.mk (Kd.R_over' (uf2_ je) (Kd.Q_typed (uf6_ fc)) (by decide) hg); replace io := Aside0.mk (Kd.S_over' (uf3_ io) (Kd.Q_typed (uf6_ fc)) (by decide) hg); replace gc := Aside0.mk (blk_grown (g := b8) (o := .cells #[.slice i1 cu.length i2, .slice kf cv.length kg] 25 (0, 0)) (uf0_ gc) hg (Kd.Q_away fc.out (fun _ hk => hk.2.2.2.2))); replace HB := Aside0.mk (hb); have zr := Aside0.mk (ho); clear fc gw jl; clear ho hb hg hat; obtain ⟨p7, p8, cj2, _⟩ := Kd.Q_slice zr.out; subst cj2; obtain ⟨gt9, gu0, gu1, gu2, gu3, gu4⟩ := blk3_ dc; obtain ⟨gu5, gu6, gu7, gu8⟩ := blk2_ gc; obtain ⟨gu9, gv0, gv1, gv2, gv3, gv4⟩ := blk3_ cm))
       refine bodyPost_ret (results_ct rfl _ _ bo 28 #[.slice i1 cu.length i2, .slice kf cv.length kg, .slice p7 gs.length p8] (0, 0) _ rfl (by (with_reducible repeat (first | refine blk_drewN ?_ _ | refine blk_drew ?_ | refine blk_alloc ?_ _)); refine blk_put (cs := #[.slice i1 cu.length i2, .slice kf cv.length kg, .slice none 0 0]) ?_ 2 _ rfl; refine blk_put (cs := #[.slice i1 cu.length i2, .slice none 0 0, .slice none 0 0]) ?_ 1 _ rfl; refine blk_put (cs := #[.slice none 0 0, .slice none 0 0, .slice none 0 0]) ?_ 0 _ rfl; refine blk_far ?_ lb.out _; refine blk_far ?_ lb.out _; refine blk_far ?_ lb.out _; exact uf0_ cm) Try.underlying28 rfl (g1_)) rfl ?_
       exact ⟨_, _, _, g4_, by (with_reducible repeat (first | apply Kd.R_alloc | apply Kd.R_drewN | apply Kd.R_drew)); exact Kd.R_mono (Kd.R_far (p := ⟨bo, 2, none⟩) (Kd.R_far (p := ⟨bo, 1, none⟩) (Kd.R_far (p := ⟨bo, 0, none⟩) (Kd.R_far (p := ⟨au, 1, none⟩) (Kd.R_far (p := ⟨au, 0, none⟩) (Kd.R_far (p := ⟨au, 2, none⟩) (Kd.R_types (Kd.R_types je.out dc.out (by decide)) cm.out (by decide)) (fun _ hk => hk.1.2) (.slice p7 gs.length p8)) (fun _ hk => hk.1.2) (.slice i1 cu.length i2)) (fun _ hk => hk.1.2) (.slice kf cv.length kg)) (fun _ hk => hk.2) (.slice i1 cu.length i2)) (fun _ hk => hk.2) (.slice kf cv.length kg)) (fun _ hk => hk.2) (.slice p7 gs.length p8)) (fun _ hk => trivial), by (with_reducible repeat (first | apply Kd.S_alloc | apply Kd.S_drewN | apply Kd.S_drew)); exact Kd.S_mono (Kd.S_far (p := ⟨bo, 2, none⟩) (Kd.S_far (p := ⟨bo, 1, none⟩) (Kd.S_far (p := ⟨bo, 0, none⟩) (Kd.S_far (p := ⟨au, 1, none⟩) (Kd.S_far (p := ⟨au, 0, none⟩) (Kd.S_far (p := ⟨au, 2, none⟩) (Kd.S_types (Kd.S_types io.out dc.out (by decide)) cm.out (by decide)) (fun _ hk => hk.1.2) (.slice p7 gs.length p8)) (fun _ hk => hk.1.2) (.slice i1 cu.length i2)) (fun _ hk => hk.1.2) (.slice kf cv.length kg)) (fun _ hk => hk.2) (.slice i1 cu.length i2)) (fun _ hk => hk.2) (.slice kf cv.length kg)) (fun _ hk => hk.2) (.slice p7 gs.length p8)) (fun _ hk => hk.1.1.2.2), by (with_reducible repeat (first | apply Kd.Q_alloc | apply Kd.Q_drewN | apply Kd.Q_drew)); exact Kd.Q_mono (Kd.Q_far (p := ⟨bo, 2, none⟩) (Kd.Q_far (p := ⟨bo, 1, none⟩) (Kd.Q_far (p := ⟨bo, 0, none⟩) (Kd.Q_far (p := ⟨au, 1, none⟩) (Kd.Q_far (p := ⟨au, 0, none⟩) (Kd.Q_far (p := ⟨au, 2, none⟩) (Kd.Q_types (Kd.Q_types zr.out dc.out (by decide)) cm.out (by decide)) (fun _ hk => hk.1.2) (.slice p7 gs.length p8)) (fun _ hk => hk.1.2) (.slice i1 cu.length i2)) (fun _ hk => hk.1.2) (.slice kf cv.length kg)) (fun _ hk => hk.2) (.slice i1 cu.length i2)) (fun _ hk => hk.2) (.slice kf cv.length kg)) (fun _ hk => hk.2) (.slice p7 gs.length p8)) (fun _ hk => ⟨hk.1.1.1, hk.1.1.2.1⟩), fe⟩
     ·replace vp := Bool.eq_false_iff.mpr vp
      subst vp
      replace H := ifn_ H
      simp only [Option.some.injEq, Prod.mk.injEq] at H
      obtain ⟨rfl, rfl, rfl, rfl⟩ := H
      have ff1 := ub.out
      have ff2 := uc.out
      have gv5 := vw.out
      have gv6 := vx.out
      have gv7 := n5.out
      have gv8 := zq.out
      obtain ⟨gv9, gw0, gw1, gw2, gw3, gw4⟩ := blk3_ cb
      have ff3 := zo.out
      have ff4 := zp.out
      have gw5 := nj.out
      have gw6 := vy.out
      obtain ⟨gw7, gw8, gw9, gx0, gx1, gx2, gx3, gx4⟩ := blk4_ dg
      go_wp2_with (first | ((with_reducible refine gate_callee (f := 101) rfl ?_); refine goesL_ (some 45) rfl rfl Try.func101 k_ rfl #[.agg #[.slice ag ab.length ae, .slice ah aa.length af], .agg #[.int .i64 bn, .int .i64 a7, .int .i64 a9, .int .i64 bg]] rfl (g2_) ?_; (with_reducible refine (spec_l9Made.calls kj5 _ _ ab _ _ aa bn a7 a9 bg cu cv false _ ?side1 ?side2 ?side3 ?side4 A37.out).mono ?_); (case side1 => exact uf1_ dd); (case side2 => exact d6.out); (case side3 => exact uf1_ cq); (case side4 => exact d7.out); rintro e gx5 ⟨dm7, dm8, rfl, am, ba, hb⟩; refine ⟨_, rfl, ?_⟩; replace fc := Aside0.mk (Kd.Q_mono (Kd.Q_told (Kd.Q_told (Kd.Q_old (uf6_ fc) hb) (Kd.R_base am)) (Kd.S_base ba)) (fun _ h_ => h_.1)); have je := Aside0.mk (Kd.R_lower (Kd.R_new' am (Kd.R_lt (uf2_ gw))) (below_size (fe))); have io := Aside0.mk (Kd.S_lower (Kd.S_new' (Kd.S_new' ba (Kd.R_lt (uf2_ gw))) (Kd.S_lt (uf3_ jl))) (below_size (fe))); replace gw := Aside0.mk (Kd.R_elder' (uf2_ gw) (Kd.R_base am) hb); replace jl := Aside0.mk (Kd.S_mono (Kd.S_told (Kd.S_told (Kd.S_old (uf3_ jl) hb) (Kd.R_base am)) (Kd.S_base ba)) (fun _ h_ => h_.1)); replace cb := bb_ cb hb; replace dg := bb_ dg hb; replace cm := bb_ cm hb; replace dc := bb_ dc hb; replace HB := Aside0.mk (below_step (fe) hb); (try clear hb); (try clear hk hi); (try clear am); (try clear ba)) | ((with_reducible refine gate_dst (N := 8) rfl ?_); (try (refine gate_guard (by rfl) ?_; dsimp only)); refine bx_ (N := 8) #[.slice none 0 0, .slice none 0 0] 25 ?_; intro b8 hg gx6 hbox hb; replace gw := Aside0.mk (Kd.R_below (uf2_ gw) hb); replace jl := Aside0.mk (Kd.S_below (uf3_ jl) hb); replace fc := Aside0.mk (Kd.Q_below (Kd.Q_elderB (uf6_ fc) b8 (Nat.le_of_eq hg.symm)) hb); replace je := Aside0.mk (Kd.R_below (uf2_ je) hb); replace io := Aside0.mk (Kd.S_below (uf3_ io) hb); have gc := Aside0.mk (hbox); have dm9 := Aside0.mk ((g8_ : w.heap.size ≤ b8)); have cj0 := Aside0.mk ((g8_ : w.heap.size ≤ b8)); replace HB := Aside0.mk (below_step (fe) hb); have vz := Aside0.mk ((g27_ : d5 ≠ b8)); have ay2 := Aside0.mk ((g28_ : b8 ≠ d5)); replace cb := bb_ cb hb; have wa := Aside0.mk ((g48_ : ec ≠ b8)); have ay3 := Aside0.mk ((g49_ : b8 ≠ ec)); replace dg := bb_ dg hb; have sp := Aside0.mk ((g68_ : bo ≠ b8)); have ay4 := Aside0.mk ((g69_ : b8 ≠ bo)); replace cm := bb_ cm hb; have wb := Aside0.mk ((g91_ : au ≠ b8)); have al6 := Aside0.mk ((g92_ : b8 ≠ au)); replace dc := bb_ dc hb; clear hb hbox hg; obtain ⟨we, wg, cj3⟩ := Kd.R_slice je.out; subst cj3; have gx7 := ay2.out; have gx8 := vz.out; have ex5 := ay3.out; have ex6 := wa.out; have ex7 := ay4.out; have ex8 := sp.out; have ex9 := al6.out; have ey0 := wb.out; obtain ⟨ey1, ey2, ey3, ey4⟩ := blk2_ gc; obtain ⟨cj4, cj5, ff5⟩ := Kd.S_slice io.out; subst ff5; have ey5 := af0.out; have ey6 := lb.out; obtain ⟨ey7, ey8, gx9, ey9, ez0, gy0⟩ := blk3_ dc; obtain ⟨gy1, gy2, gy3, gy4, gy5, gy6⟩ := blk3_ cm))
      refine bodyPost_ret (results_ct rfl _ _ bo 28 #[.slice dk de.length dh, .slice e2 du.length en, .slice ei b5.length cn] (0, 0) _ rfl (by (with_reducible repeat (first | refine blk_drewN ?_ _ | refine blk_drew ?_ | refine blk_alloc ?_ _)); refine blk_put (cs := #[.slice dk de.length dh, .slice e2 du.length en, .slice none 0 0]) ?_ 2 _ rfl; refine blk_put (cs := #[.slice dk de.length dh, .slice none 0 0, .slice none 0 0]) ?_ 1 _ rfl; refine blk_put (cs := #[.slice none 0 0, .slice none 0 0, .slice none 0 0]) ?_ 0 _ rfl; refine blk_far ?_ sp.out _; refine blk_far ?_ sp.out _; exact uf0_ cm) Try.underlying28 rfl (g1_)) rfl ?_
      exact ⟨_, _, _, g4_, by (with_reducible repeat (first | apply Kd.R_alloc | apply Kd.R_drewN | apply Kd.R_drew)); exact Kd.R_mono (Kd.R_far (p := ⟨bo, 2, none⟩) (Kd.R_far (p := ⟨bo, 1, none⟩) (Kd.R_far (p := ⟨bo, 0, none⟩) (Kd.R_far (p := ⟨b8, 1, none⟩) (Kd.R_far (p := ⟨b8, 0, none⟩) (Kd.R_types (Kd.R_types gw.out gc.out (by decide)) cm.out (by decide)) (fun _ hk => hk.1.2) (.slice we cu.length wg)) (fun _ hk => hk.1.2) (.slice cj4 cv.length cj5)) (fun _ hk => hk.2) (.slice dk de.length dh)) (fun _ hk => hk.2) (.slice e2 du.length en)) (fun _ hk => hk.2) (.slice ei b5.length cn)) (fun _ hk => trivial), by (with_reducible repeat (first | apply Kd.S_alloc | apply Kd.S_drewN | apply Kd.S_drew)); exact Kd.S_mono (Kd.S_far (p := ⟨bo, 2, none⟩) (Kd.S_far (p := ⟨bo, 1, none⟩) (Kd.S_far (p := ⟨bo, 0, none⟩) (Kd.S_far (p := ⟨b8, 1, none⟩) (Kd.S_far (p := ⟨b8, 0, none⟩) (Kd.S_types (Kd.S_types jl.out gc.out (by decide)) cm.out (by decide)) (fun _ hk => hk.1.2) (.slice we cu.length wg)) (fun _ hk => hk.1.2) (.slice cj4 cv.length cj5)) (fun _ hk => hk.2) (.slice dk de.length dh)) (fun _ hk => hk.2) (.slice e2 du.length en)) (fun _ hk => hk.2) (.slice ei b5.length cn)) (fun _ hk => hk.1.1.1.1), by (with_reducible repeat (first | apply Kd.Q_alloc | apply Kd.Q_drewN | apply Kd.Q_drew)); exact Kd.Q_mono (Kd.Q_far (p := ⟨bo, 2, none⟩) (Kd.Q_far (p := ⟨bo, 1, none⟩) (Kd.Q_far (p := ⟨bo, 0, none⟩) (Kd.Q_far (p := ⟨b8, 1, none⟩) (Kd.Q_far (p := ⟨b8, 0, none⟩) (Kd.Q_types (Kd.Q_mono fc.out (fun k_ hk => (⟨hk, hk.2⟩ : _ ∧ k_ ≠ b8))) cm.out (by decide)) (fun _ hk => hk.1.2) (.slice we cu.length wg)) (fun _ hk => hk.1.2) (.slice cj4 cv.length cj5)) (fun _ hk => hk.2) (.slice dk de.length dh)) (fun _ hk => hk.2) (.slice e2 du.length en)) (fun _ hk => hk.2) (.slice ei b5.length cn)) (fun _ hk => ⟨hk.1.1.1.1.1.1, hk.1.1.1.1.1.2⟩), fe⟩
 ·replace c4 := Bool.eq_false_iff.mpr c4
  subst c4
  replace H := ifn_ H
  simp only [Option.some.injEq, Prod.mk.injEq] at H
  obtain ⟨rfl, rfl, rfl, rfl⟩ := H
  go_enter Try.func54, Try.ntmps54
  go_wp2_with (first | ((with_reducible refine gate_dst (N := 2) rfl ?_); (try (refine gate_guard (by rfl) ?_; dsimp only)); refine bx_ (N := 2) #[.slice ag ab.length ae, .slice ah aa.length af, .slice di ak.length db] 28 ?_; intro d5 hg gy7 hbox hb; have cb := Aside0.mk (hbox); have dl1 := Aside0.mk ((g8_ : w.heap.size ≤ d5)); have al5 := Aside0.mk ((g8_ : w.heap.size ≤ d5)); replace HB := Aside0.mk (below_step (fe) hb); clear hb hbox hg) | ((with_reducible refine gate_dst (N := 3) rfl ?_); (try (refine gate_guard (by rfl) ?_; dsimp only)); refine bx_ (N := 3) #[.int .i64 bn, .int .i64 a7, .int .i64 a9, .int .i64 bg] 69 ?_; intro ec hg gy8 hbox hb; have dg := Aside0.mk (hbox); have dl2 := Aside0.mk ((g8_ : w.heap.size ≤ ec)); have ax8 := Aside0.mk ((g8_ : w.heap.size ≤ ec)); replace HB := Aside0.mk (below_step (fe) hb); have ub := Aside0.mk ((g27_ : d5 ≠ ec)); have uc := Aside0.mk ((g28_ : ec ≠ d5)); replace cb := bb_ cb hb; clear hb hbox hg) | ((with_reducible refine gate_dst (N := 4) rfl ?_); (try (refine gate_guard (by rfl) ?_; dsimp only)); refine bx_ (N := 4) #[.slice none 0 0, .slice none 0 0, .slice none 0 0] 28 ?_; intro bo hg gy9 hbox hb; have cm := Aside0.mk (hbox); have dl3 := Aside0.mk ((g8_ : w.heap.size ≤ bo)); have ae9 := Aside0.mk ((g8_ : w.heap.size ≤ bo)); replace HB := Aside0.mk (below_step (fe) hb); have vw := Aside0.mk ((g27_ : d5 ≠ bo)); have vx := Aside0.mk ((g28_ : bo ≠ d5)); replace cb := bb_ cb hb; have zo := Aside0.mk ((g48_ : ec ≠ bo)); have zp := Aside0.mk ((g49_ : bo ≠ ec)); replace dg := bb_ dg hb; clear hb hbox hg; have gz0 := ub.out; have gz1 := uc.out; have gz2 := vw.out; have gz3 := vx.out; obtain ⟨gz4, gz5, gz6, gz7, gz8, gz9⟩ := blk3_ cb) | ((with_reducible refine gate_callee (f := 28) rfl ?_); refine goesL_ (some 11) rfl rfl Try.func28 k_ rfl #[.agg #[.slice ag ab.length ae, .slice ah aa.length af, .slice di ak.length db]] rfl (g2_) ?_; (with_reducible refine (spec_DeskOk.calls k _ _ ab _ _ aa _ _ ak false _ ?side1 ?side2 ?side3 ?side4 ?side5 ?side6 A3.out).mono ?_); (case side1 => exact uf1_ dd); (case side2 => exact d6.out); (case side3 => exact uf1_ cq); (case side4 => exact d7.out); (case side5 => exact uf1_ m0); (case side6 => exact tb.out); rintro e ci8 ⟨rfl, hb⟩; refine ⟨_, rfl, ?_⟩; replace cb := bb_ cb hb; replace dg := bb_ dg hb; replace cm := bb_ cm hb; replace HB := Aside0.mk (below_step (fe) hb); (try clear hb); (try clear hk hi); have ha0 := zp.out; have ha1 := zo.out; obtain ⟨ha2, ha3, ha4, ha5, ha6, ha7⟩ := blk3_ cm))
  refine bodyPost_ret (results_ct rfl _ _ bo 28 #[.slice none 0 0, .slice none 0 0, .slice none 0 0] (0, 0) _ rfl (by (with_reducible repeat (first | refine blk_drewN ?_ _ | refine blk_drew ?_ | refine blk_alloc ?_ _)); refine blk_put (cs := #[.slice none 0 0, .slice none 0 0, .slice none 0 0]) ?_ 2 _ rfl; refine blk_put (cs := #[.slice none 0 0, .slice none 0 0, .slice none 0 0]) ?_ 1 _ rfl; refine blk_put (cs := #[.slice none 0 0, .slice none 0 0, .slice none 0 0]) ?_ 0 _ rfl; exact uf0_ cm) Try.underlying28 rfl (g1_)) rfl ?_
  exact ⟨_, _, _, g4_, g16_, g34_, Kd.Q_of_R (g16_), fe⟩
set_option maxHeartbeats 8000000 in
set_option maxRecDepth 100000 in
theorem spec_DeskDo.back (k : Nat) (ag : Option Addr) (ae : Nat) (ab : List Int) (ah : Option Addr) (af : Nat) (aa : List (List Int)) (di : Option Addr) (db : Nat) (ak : List (S25)) (w : World) (dx : Kd.C (Kd.int .i64) w ag ab.length ab) (dy : ab.length ≤ ae) (dz : Kd.C (Kd.slice 3 (Kd.int .i64)) w ah aa.length aa) (d2 : aa.length ≤ af) (k5 : Kd.C k25 w di ak.length ak) (k6 : ak.length ≤ db) (de : List Int) (du : List (List Int)) (b5 : List S25) (n : Nat) (hd : spec_DeskOk.f k ab aa ak = some true) (hcp : spec_l9Copy.f k ab aa ak = some (de, du, b5)) (hn : b5.length = n + 1) (hmx : n < 2932031007402) (hp : 0 < ak.length) :
  Calls Try.prog 54 #[.agg #[.slice ag ab.length ae, .slice ah aa.length af, .slice di ak.length db], .agg #[.int .i64 4, .int .i64 0, .int .i64 0, .int .i64 0]] w fun e w' => ∃ v0_ v1_ v2_ : Value, e = .returned (.tuple #[.agg #[v0_, v1_, v2_], .bool true]) ∧ Kd.R (Kd.int .i64) 3 w' w.heap.size (fun _ => True) v0_ (rd_T25 b5 (n : Int)).f0 ∧ Kd.S (Kd.slice 3 (Kd.int .i64)) 22 w' w.heap.size (fun k_ => some k_ ≠ (v0_ : Value).ownBlock) v1_ (rd_T25 b5 (n : Int)).f1 ∧ Kd.Q k25 25 w' w.heap.size (fun k_ => some k_ ≠ (v0_ : Value).ownBlock ∧ some k_ ≠ (v1_ : Value).ownBlock) v2_ (b5.take n) ∧ Below w.heap.size w w' := by
 have hu28 := Try.underlying28
 have hu69 := Try.underlying69
 have hu25 := Try.underlying25
 have dd := Aside0.mk dx
 have d6 := Aside0.mk dy
 have cq := Aside0.mk dz
 have d7 := Aside0.mk d2
 have m0 := Aside0.mk k5
 have tb := Aside0.mk k6
 have HB := Aside0.mk (Below.refl w.heap.size w)
 have A3 := Aside0.mk hd
 have A5 := Aside0.mk hcp
 have HN := Aside0.mk hn
 have hp1 : decide ((ak.length : Int) > 0) = true := decide_eq_true (by omega)
 have hp2 : wrap64 ((b5.length : Int) - 1) = (n : Int) := by rw [show ((b5.length : Int) - 1) = (n : Int) by omega]; unfold wrap64; omega
 have hp3 : (0 ≤ (n : Int)) = True := eq_true (by omega)
 have hp4 : ((n : Int) < (b5.length : Int)) = True := eq_true (by omega)
 have hp6 : ((n : Int) < (n : Int) + 1) = True := eq_true (by omega)
 have hp7 : ((n : Int) < ((n + 1 : Nat) : Int)) = True := eq_true (by omega)
 have hp5 : ((n : Int)).toNat = n := Int.toNat_natCast n
 clear dx dy dz d2 k5 k6 hd hcp hn
 go_enter Try.func54, Try.ntmps54
 go_upto_region 4 with (first | ((with_reducible refine gate_dst (N := 2) rfl ?_); (try (refine gate_guard (by rfl) ?_; dsimp only)); refine box_event ?hg (N := 2) ?hd (cs := #[.slice ag ab.length ae, .slice ah aa.length af, .slice di ak.length db]) (t := 28) ?hr ?_; (case hd => rfl); (case hg => rfl); (case hr => first | (go_simp; done) | (go_simp; rfl)); intro d5 hg w7 hbox hb; have n0_ := Aside0.mk (below_step (g7_) hb); have n1_ := Aside0.mk (hbox); have n2_ := Aside0.mk ((by rw [hg]; exact (below_size (g7_)) : w.heap.size ≤ d5)); have n3_ := Aside0.mk ((by rw [hg]; exact (below_size (g7_)) : w.heap.size ≤ d5)); clear HB; have HB := n0_; have cb := n1_; have dl1 := n2_; have al5 := n3_; clear n0_ n1_ n2_ n3_; clear hb hbox hg) | ((with_reducible refine gate_dst (N := 3) rfl ?_); (try (refine gate_guard (by rfl) ?_; dsimp only)); refine box_event ?hg (N := 3) ?hd (cs := #[.int .i64 4, .int .i64 0, .int .i64 0, .int .i64 0]) (t := 69) ?hr ?_; (case hd => rfl); (case hg => rfl); (case hr => first | (go_simp; done) | (go_simp; rfl)); intro ec hg w8 hbox hb; have n0_ := Aside0.mk (blk_below (g := d5) (o := .cells #[.slice ag ab.length ae, .slice ah aa.length af, .slice di ak.length db] 28 (0, 0)) (g14_) hb); have n1_ := Aside0.mk (below_step (g93_) hb); have n2_ := Aside0.mk (hbox); have n3_ := Aside0.mk ((by rw [hg]; exact (below_size (g93_)) : w.heap.size ≤ ec)); have n4_ := Aside0.mk ((by rw [hg]; exact (below_size (g93_)) : w.heap.size ≤ ec)); have n5_ := Aside0.mk ((g94_ : d5 ≠ ec)); have n6_ := Aside0.mk ((g95_ : ec ≠ d5)); clear cb; clear HB; have cb := n0_; have HB := n1_; have dg := n2_; have dl2 := n3_; have ax8 := n4_; have ub := n5_; have uc := n6_; clear n0_ n1_ n2_ n3_ n4_ n5_ n6_; clear hb hbox hg) | ((with_reducible refine gate_dst (N := 4) rfl ?_); (try (refine gate_guard (by rfl) ?_; dsimp only)); refine box_event ?hg (N := 4) ?hd (cs := #[.slice none 0 0, .slice none 0 0, .slice none 0 0]) (t := 28) ?hr ?_; (case hd => rfl); (case hg => rfl); (case hr => first | (go_simp; done) | (go_simp; rfl)); intro bo hg w9 hbox hb; have n0_ := Aside0.mk (blk_below (g := d5) (o := .cells #[.slice ag ab.length ae, .slice ah aa.length af, .slice di ak.length db] 28 (0, 0)) (g14_) hb); have n1_ := Aside0.mk (blk_below (g := ec) (o := .cells #[.int .i64 4, .int .i64 0, .int .i64 0, .int .i64 0] 69 (0, 0)) (g29_) hb); have n2_ := Aside0.mk (below_step (g96_) hb); have n3_ := Aside0.mk (hbox); have n4_ := Aside0.mk ((by rw [hg]; exact (below_size (g96_)) : w.heap.size ≤ bo)); have n5_ := Aside0.mk ((by rw [hg]; exact (below_size (g96_)) : w.heap.size ≤ bo)); have n6_ := Aside0.mk ((g94_ : d5 ≠ bo)); have n7_ := Aside0.mk ((g95_ : bo ≠ d5)); have n8_ := Aside0.mk ((by rw [hg]; exact Nat.ne_of_lt (blk_lt (g := ec) (o := .cells #[.int .i64 4, .int .i64 0, .int .i64 0, .int .i64 0] 69 (0, 0)) (g29_)) : ec ≠ bo)); have n9_ := Aside0.mk ((by rw [hg]; exact Nat.ne_of_gt (blk_lt (g := ec) (o := .cells #[.int .i64 4, .int .i64 0, .int .i64 0, .int .i64 0] 69 (0, 0)) (g29_)) : bo ≠ ec)); clear cb; clear dg; clear HB; have cb := n0_; have dg := n1_; have HB := n2_; have cm := n3_; have dl3 := n4_; have ae9 := n5_; have vw := n6_; have vx := n7_; have zo := n8_; have zp := n9_; clear n0_ n1_ n2_ n3_ n4_ n5_ n6_ n7_ n8_ n9_; clear hb hbox hg; have dl4 := ub.out; have dl5 := uc.out; have ar0 := vw.out; have ar1 := vx.out; have ax9 : w9.cell? ⟨d5, 0, none⟩ = some (.slice ag ab.length ae) := (blk_cell cb.out 0).trans rfl; have ay0 : w9.cell? ⟨d5, 1, none⟩ = some (.slice ah aa.length af) := (blk_cell cb.out 1).trans rfl; have bp6 : w9.cell? ⟨d5, 2, none⟩ = some (.slice di ak.length db) := (blk_cell cb.out 2).trans rfl; have bp7 := blk_frozen cb.out 0; have ay1 := blk_frozen cb.out 1; have bp8 := blk_frozen cb.out 2) | ((with_reducible refine gate_callee (f := 28) rfl ?_); refine goesL_ (some 11) rfl rfl Try.func28 (g1_) rfl #[.agg #[.slice ag ab.length ae, .slice ah aa.length af, .slice di ak.length db]] rfl (g2_) ?_; (with_reducible refine (spec_DeskOk.calls k _ _ ab _ _ aa _ _ ak true _ ?side1 ?side2 ?side3 ?side4 ?side5 ?side6 A3.out).mono ?_); (case side1 => repeat (first | exact (Kd.C_below dd.out HB.out) | (with_reducible refine Kd.C_alloc ?_ _) | (with_reducible refine Kd.C_drewN ?_ _) | (with_reducible refine Kd.C_drew ?_))); (case side2 => exact d6.out); (case side3 => repeat (first | exact (Kd.C_below cq.out HB.out) | (with_reducible refine Kd.C_alloc ?_ _) | (with_reducible refine Kd.C_drewN ?_ _) | (with_reducible refine Kd.C_drew ?_))); (case side4 => exact d7.out); (case side5 => repeat (first | exact (Kd.C_below m0.out HB.out) | (with_reducible refine Kd.C_alloc ?_ _) | (with_reducible refine Kd.C_drewN ?_ _) | (with_reducible refine Kd.C_drew ?_))); (case side6 => exact tb.out); rintro e w13 ⟨rfl, hb⟩; refine ⟨_, rfl, ?_⟩; have n0_ := Aside0.mk (blk_below (g := d5) (o := .cells #[.slice ag ab.length ae, .slice ah aa.length af, .slice di ak.length db] 28 (0, 0)) (g14_) hb); have n1_ := Aside0.mk (blk_below (g := ec) (o := .cells #[.int .i64 4, .int .i64 0, .int .i64 0, .int .i64 0] 69 (0, 0)) (g29_) hb); have n2_ := Aside0.mk (blk_below (g := bo) (o := .cells #[.slice none 0 0, .slice none 0 0, .slice none 0 0] 28 (0, 0)) (g61_) hb); have n3_ := Aside0.mk (below_step (g30_) hb); clear cb; clear dg; clear cm; clear HB; have cb := n0_; have dg := n1_; have cm := n2_; have HB := n3_; clear n0_ n1_ n2_ n3_; (try clear hb); (try clear hb2); (try clear hk); (try clear hi); have ah4 : w13.cell? ⟨d5, 0, none⟩ = some (.slice ag ab.length ae) := (blk_cell cb.out 0).trans rfl; have ah5 : w13.cell? ⟨d5, 1, none⟩ = some (.slice ah aa.length af) := (blk_cell cb.out 1).trans rfl; have be3 : w13.cell? ⟨d5, 2, none⟩ = some (.slice di ak.length db) := (blk_cell cb.out 2).trans rfl; have ah6 := blk_frozen cb.out 0; have ah7 := blk_frozen cb.out 1; have be4 := blk_frozen cb.out 2) | ((with_reducible refine gate_callee (f := 100) rfl ?_); refine goesL_ (some 15) rfl rfl Try.func100 (g1_) rfl #[.agg #[.slice ag ab.length ae, .slice ah aa.length af, .slice di ak.length db]] rfl (g2_) ?_; (with_reducible refine (spec_l9Copy.calls_s k _ _ ab _ _ aa _ _ ak de du b5 _ ?side1 ?side2 ?side3 ?side4 ?side5 ?side6 A5.out).mono ?_); (case side1 => repeat (first | exact (Kd.C_below dd.out HB.out) | (with_reducible refine Kd.C_alloc ?_ _) | (with_reducible refine Kd.C_drewN ?_ _) | (with_reducible refine Kd.C_drew ?_))); (case side2 => exact d6.out); (case side3 => repeat (first | exact (Kd.C_below cq.out HB.out) | (with_reducible refine Kd.C_alloc ?_ _) | (with_reducible refine Kd.C_drewN ?_ _) | (with_reducible refine Kd.C_drew ?_))); (case side4 => exact d7.out); (case side5 => repeat (first | exact (Kd.C_below m0.out HB.out) | (with_reducible refine Kd.C_alloc ?_ _) | (with_reducible refine Kd.C_drewN ?_ _) | (with_reducible refine Kd.C_drew ?_))); (case side6 => exact tb.out); rintro e w15 ⟨dl6, dl7, dl8, rfl, am, ba, d3, hb⟩; refine ⟨_, rfl, ?_⟩; have n0_ := Aside0.mk (Kd.R_lower am (below_size (g30_))); have n1_ := Aside0.mk (Kd.S_lower ba (below_size (g30_))); have n2_ := Aside0.mk (Kd.S_lower d3 (below_size (g30_))); have n3_ := Aside0.mk (blk_below (g := d5) (o := .cells #[.slice ag ab.length ae, .slice ah aa.length af, .slice di ak.length db] 28 (0, 0)) (g14_) hb); have n4_ := Aside0.mk (blk_below (g := ec) (o := .cells #[.int .i64 4, .int .i64 0, .int .i64 0, .int .i64 0] 69 (0, 0)) (g29_) hb); have n5_ := Aside0.mk (blk_below (g := bo) (o := .cells #[.slice none 0 0, .slice none 0 0, .slice none 0 0] 28 (0, 0)) (g61_) hb); have n6_ := Aside0.mk (below_step (g30_) hb); clear cb; clear dg; clear cm; clear HB; have ml := n0_; have p0 := n1_; have ni := n2_; have cb := n3_; have dg := n4_; have cm := n5_; have HB := n6_; clear n0_ n1_ n2_ n3_ n4_ n5_ n6_; (try clear hb); (try clear hb2); (try clear hk); (try clear hi); (try clear am); (try clear ba); (try clear d3)) | ((with_reducible refine gate_dst (N := 6) rfl ?_); (try (refine gate_guard (by rfl) ?_; dsimp only)); refine box_event ?hg (N := 6) ?hd (cs := #[.slice none 0 0, .slice none 0 0, .slice none 0 0]) (t := 28) ?hr ?_; (case hd => rfl); (case hg => rfl); (case hr => first | (go_simp; done) | (go_simp; rfl)); intro au hg fo hbox hb; have n0_ := Aside0.mk (Kd.R_below (by (with_reducible repeat (first | apply Kd.R_alloc | apply Kd.R_drewN | apply Kd.R_drew)); exact ml.out) hb); have n1_ := Aside0.mk (Kd.S_below (by (with_reducible repeat (first | apply Kd.S_alloc | apply Kd.S_drewN | apply Kd.S_drew)); exact p0.out) hb); have n2_ := Aside0.mk (Kd.S_below (by (with_reducible repeat (first | apply Kd.S_alloc | apply Kd.S_drewN | apply Kd.S_drew)); exact ni.out) hb); have n3_ := Aside0.mk (blk_below (g := d5) (o := .cells #[.slice ag ab.length ae, .slice ah aa.length af, .slice di ak.length db] 28 (0, 0)) (g14_) hb); have n4_ := Aside0.mk (blk_below (g := ec) (o := .cells #[.int .i64 4, .int .i64 0, .int .i64 0, .int .i64 0] 69 (0, 0)) (g29_) hb); have n5_ := Aside0.mk (blk_below (g := bo) (o := .cells #[.slice none 0 0, .slice none 0 0, .slice none 0 0] 28 (0, 0)) (g61_) hb); have n6_ := Aside0.mk (below_step (g30_) hb); have n7_ := Aside0.mk (hbox); have n8_ := Aside0.mk ((by rw [hg]; exact (below_size (g30_)) : w.heap.size ≤ au)); have n9_ := Aside0.mk ((by rw [hg]; exact (below_size (g30_)) : w.heap.size ≤ au)); have n10_ := Aside0.mk ((g94_ : d5 ≠ au)); have n11_ := Aside0.mk ((g95_ : au ≠ d5)); have n12_ := Aside0.mk ((by rw [hg]; exact Nat.ne_of_lt (blk_lt (g := ec) (o := .cells #[.int .i64 4, .int .i64 0, .int .i64 0, .int .i64 0] 69 (0, 0)) (g29_)) : ec ≠ au)); have n13_ := Aside0.mk ((by rw [hg]; exact Nat.ne_of_gt (blk_lt (g := ec) (o := .cells #[.int .i64 4, .int .i64 0, .int .i64 0, .int .i64 0] 69 (0, 0)) (g29_)) : au ≠ ec)); have n14_ := Aside0.mk ((by rw [hg]; exact Nat.ne_of_lt (blk_lt (g := bo) (o := .cells #[.slice none 0 0, .slice none 0 0, .slice none 0 0] 28 (0, 0)) (g61_)) : bo ≠ au)); have n15_ := Aside0.mk ((by rw [hg]; exact Nat.ne_of_gt (blk_lt (g := bo) (o := .cells #[.slice none 0 0, .slice none 0 0, .slice none 0 0] 28 (0, 0)) (g61_)) : au ≠ bo)); clear ml; clear p0; clear ni; clear cb; clear dg; clear cm; clear HB; have ml := n0_; have p0 := n1_; have ni := n2_; have cb := n3_; have dg := n4_; have cm := n5_; have HB := n6_; have dc := n7_; have fa9 := n8_; have zn := n9_; have n5 := n10_; have zq := n11_; have nj := n12_; have vy := n13_; have lb := n14_; have af0 := n15_; clear n0_ n1_ n2_ n3_ n4_ n5_ n6_ n7_ n8_ n9_ n10_ n11_ n12_ n13_ n14_ n15_; clear hb hbox hg; obtain ⟨dk, dh, u7⟩ := Kd.R_slice ml.out; subst u7; have cs4 := zq.out; have cs5 := n5.out; have bf1 := vy.out; have bf2 := nj.out; have aq6 := af0.out; have aq7 := lb.out; have rx : fo.cell? ⟨au, 0, none⟩ = some (.slice none 0 0) := (blk_cell dc.out 0).trans rfl; have ry : fo.cell? ⟨au, 1, none⟩ = some (.slice none 0 0) := (blk_cell dc.out 1).trans rfl; have bv7 : fo.cell? ⟨au, 2, none⟩ = some (.slice none 0 0) := (blk_cell dc.out 2).trans rfl; have tk := blk_frozen dc.out 0; have rz := blk_frozen dc.out 1; have bv8 := blk_frozen dc.out 2; obtain ⟨e2, en, af1⟩ := Kd.S_slice p0.out; subst af1; obtain ⟨ei, cn, ad7⟩ := Kd.S_slice ni.out; subst ad7; obtain ⟨ga, u0, u1, eA, hx0, pb, hl0, hl1, hl2, hg1, hg2⟩ := k25s_last (n := n) HN.out ni.out; subst eA; have z4 := Aside0.mk (Kd.R_types (Kd.R_types hl0 dc.out (by decide)) cm.out (by decide)); have z5 := Aside0.mk (Kd.S_types (Kd.S_types hl1 dc.out (by decide)) cm.out (by decide)); have HL2 := Aside0.mk (Kd.Q_types (Kd.Q_types hl2 dc.out (by decide)) cm.out (by decide)); clear hl0 hl1 hl2; have hge1 : ga ≠ au := k25s_ne hg1 dc.out (by decide); have hge2 : au ≠ ga := fun e_ => hge1 e_.symm; have hge3 : ga ≠ bo := k25s_ne hg1 cm.out (by decide); have hge4 : bo ≠ ga := fun e_ => hge3 e_.symm; obtain ⟨B0, b0, eu0⟩ := Kd.R_slice z4.out; subst eu0; obtain ⟨B1, b1, eu1⟩ := Kd.S_slice z5.out; subst eu1; have hn1 : (b5.length : Int) = (n : Int) + 1 := (by have := HN.out; omega); have tc : fo.cell? ⟨ec, 0, none⟩ = some (.int .i64 4) := (blk_cell dg.out 0).trans rfl; have td : fo.cell? ⟨ec, 1, none⟩ = some (.int .i64 0) := (blk_cell dg.out 1).trans rfl; have cn6 : fo.cell? ⟨ec, 2, none⟩ = some (.int .i64 0) := (blk_cell dg.out 2).trans rfl; have ff6 : fo.cell? ⟨ec, 3, none⟩ = some (.int .i64 0) := (blk_cell dg.out 3).trans rfl; have hcr_0 : fo.cell? ⟨bo, 0, none⟩ = some (.slice none 0 0) := (blk_cell cm.out 0).trans rfl; have hcr_1 : fo.cell? ⟨bo, 1, none⟩ = some (.slice none 0 0) := (blk_cell cm.out 1).trans rfl; have hcr_2 : fo.cell? ⟨bo, 2, none⟩ = some (.slice none 0 0) := (blk_cell cm.out 2).trans rfl; have hfr_0 := blk_frozen cm.out 0; have hfr_1 := blk_frozen cm.out 1; have hfr_2 := blk_frozen cm.out 2; have hcd_2 : fo.cell? ⟨d5, 2, none⟩ = some (.slice di ak.length db) := (blk_cell cb.out 2).trans rfl; have hb1 := nj.out; have hb2 := vy.out; have hb3 := lb.out; have hb4 := af0.out; have hb5 := n5.out; have hb6 := zq.out))
 (try simp only [Act.put, List.setIfInBounds_toArray, List.set_cons_zero, List.set_cons_succ])
 go_upto_region 7 with fail
 obtain ⟨i0, hi0, _, hsz0, _⟩ := info_parts info25
 have hcut := cut_to (P := Try.prog) 26 25 .i64 Try.underlying26 hi0 (some ⟨ga, 0, none⟩) (n + 1) cn (n : Int) (by omega) (by omega) (by have := (Kd.S_reads' ni.out).2.1; omega)
 rw [hp5] at hcut
 go_upto_region 8 with fail
 have n0_ : Aside0 (Kd.R (Kd.int .i64) 3 ((((((fo.setCell ⟨au, 0, none⟩ (.slice dk de.length dh)).setCell ⟨au, 1, none⟩ (.slice e2 du.length en)).setCell ⟨au, 2, none⟩ (.slice (some ⟨ga, 0, none⟩) (n + 1) cn)).setCell ⟨au, 0, none⟩ (.slice B0 (rd_T25 b5 (n : Int)).f0.length b0)).setCell ⟨au, 1, none⟩ (.slice B1 (rd_T25 b5 (n : Int)).f1.length b1)).setCell ⟨au, 2, none⟩ (.slice (some ⟨ga, 0, none⟩) n cn)) w.heap.size (fun k_ => (True ∧ k_ ≠ au) ∧ k_ ≠ bo) (.slice B0 (rd_T25 b5 (n : Int)).f0.length b0) (rd_T25 b5 (n : Int)).f0) := Aside0.mk (by refine Kd.R_far ?_ (fun _ hk => hk.1.2) _; refine Kd.R_far ?_ (fun _ hk => hk.1.2) _; refine Kd.R_far ?_ (fun _ hk => hk.1.2) _; refine Kd.R_far ?_ (fun _ hk => hk.1.2) _; refine Kd.R_far ?_ (fun _ hk => hk.1.2) _; refine Kd.R_far ?_ (fun _ hk => hk.1.2) _; exact z4.out)
 have n1_ : Aside0 (Kd.S (Kd.slice 3 (Kd.int .i64)) 22 ((((((fo.setCell ⟨au, 0, none⟩ (.slice dk de.length dh)).setCell ⟨au, 1, none⟩ (.slice e2 du.length en)).setCell ⟨au, 2, none⟩ (.slice (some ⟨ga, 0, none⟩) (n + 1) cn)).setCell ⟨au, 0, none⟩ (.slice B0 (rd_T25 b5 (n : Int)).f0.length b0)).setCell ⟨au, 1, none⟩ (.slice B1 (rd_T25 b5 (n : Int)).f1.length b1)).setCell ⟨au, 2, none⟩ (.slice (some ⟨ga, 0, none⟩) n cn)) w.heap.size (fun k_ => (some k_ ≠ (.slice B0 (rd_T25 b5 (n : Int)).f0.length b0 : Value).ownBlock ∧ k_ ≠ au) ∧ k_ ≠ bo) (.slice B1 (rd_T25 b5 (n : Int)).f1.length b1) (rd_T25 b5 (n : Int)).f1) := Aside0.mk (by refine Kd.S_far ?_ (fun _ hk => hk.1.2) _; refine Kd.S_far ?_ (fun _ hk => hk.1.2) _; refine Kd.S_far ?_ (fun _ hk => hk.1.2) _; refine Kd.S_far ?_ (fun _ hk => hk.1.2) _; refine Kd.S_far ?_ (fun _ hk => hk.1.2) _; refine Kd.S_far ?_ (fun _ hk => hk.1.2) _; exact z5.out)
 have n2_ : Aside0 (Kd.Q k25 25 ((((((fo.setCell ⟨au, 0, none⟩ (.slice dk de.length dh)).setCell ⟨au, 1, none⟩ (.slice e2 du.length en)).setCell ⟨au, 2, none⟩ (.slice (some ⟨ga, 0, none⟩) (n + 1) cn)).setCell ⟨au, 0, none⟩ (.slice B0 (rd_T25 b5 (n : Int)).f0.length b0)).setCell ⟨au, 1, none⟩ (.slice B1 (rd_T25 b5 (n : Int)).f1.length b1)).setCell ⟨au, 2, none⟩ (.slice (some ⟨ga, 0, none⟩) n cn)) w.heap.size (fun k_ => ((some k_ ≠ (.slice B0 (rd_T25 b5 (n : Int)).f0.length b0 : Value).ownBlock ∧ some k_ ≠ (.slice B1 (rd_T25 b5 (n : Int)).f1.length b1 : Value).ownBlock) ∧ k_ ≠ au) ∧ k_ ≠ bo) (.slice (some ⟨ga, 0, none⟩) n cn) (b5.take n)) := Aside0.mk (by refine Kd.Q_far ?_ (fun _ hk => hk.1.2) _; refine Kd.Q_far ?_ (fun _ hk => hk.1.2) _; refine Kd.Q_far ?_ (fun _ hk => hk.1.2) _; refine Kd.Q_far ?_ (fun _ hk => hk.1.2) _; refine Kd.Q_far ?_ (fun _ hk => hk.1.2) _; refine Kd.Q_far ?_ (fun _ hk => hk.1.2) _; exact HL2.out)
 have n3_ : Aside0 (((((((fo.setCell ⟨au, 0, none⟩ (.slice dk de.length dh)).setCell ⟨au, 1, none⟩ (.slice e2 du.length en)).setCell ⟨au, 2, none⟩ (.slice (some ⟨ga, 0, none⟩) (n + 1) cn)).setCell ⟨au, 0, none⟩ (.slice B0 (rd_T25 b5 (n : Int)).f0.length b0)).setCell ⟨au, 1, none⟩ (.slice B1 (rd_T25 b5 (n : Int)).f1.length b1)).setCell ⟨au, 2, none⟩ (.slice (some ⟨ga, 0, none⟩) n cn)).heap[au]? = some (.cells #[.slice B0 (rd_T25 b5 (n : Int)).f0.length b0, .slice B1 (rd_T25 b5 (n : Int)).f1.length b1, .slice (some ⟨ga, 0, none⟩) n cn] 28 (0, 0))) := Aside0.mk (by refine blk_put (cs := #[.slice B0 (rd_T25 b5 (n : Int)).f0.length b0, .slice B1 (rd_T25 b5 (n : Int)).f1.length b1, .slice (some ⟨ga, 0, none⟩) (n + 1) cn]) ?_ 2 _ rfl; refine blk_put (cs := #[.slice B0 (rd_T25 b5 (n : Int)).f0.length b0, .slice e2 du.length en, .slice (some ⟨ga, 0, none⟩) (n + 1) cn]) ?_ 1 _ rfl; refine blk_put (cs := #[.slice dk de.length dh, .slice e2 du.length en, .slice (some ⟨ga, 0, none⟩) (n + 1) cn]) ?_ 0 _ rfl; refine blk_put (cs := #[.slice dk de.length dh, .slice e2 du.length en, .slice none 0 0]) ?_ 2 _ rfl; refine blk_put (cs := #[.slice dk de.length dh, .slice none 0 0, .slice none 0 0]) ?_ 1 _ rfl; refine blk_put (cs := #[.slice none 0 0, .slice none 0 0, .slice none 0 0]) ?_ 0 _ rfl; exact dc.out)
 have n4_ : Aside0 (((((((fo.setCell ⟨au, 0, none⟩ (.slice dk de.length dh)).setCell ⟨au, 1, none⟩ (.slice e2 du.length en)).setCell ⟨au, 2, none⟩ (.slice (some ⟨ga, 0, none⟩) (n + 1) cn)).setCell ⟨au, 0, none⟩ (.slice B0 (rd_T25 b5 (n : Int)).f0.length b0)).setCell ⟨au, 1, none⟩ (.slice B1 (rd_T25 b5 (n : Int)).f1.length b1)).setCell ⟨au, 2, none⟩ (.slice (some ⟨ga, 0, none⟩) n cn)).heap[bo]? = some (.cells #[.slice none 0 0, .slice none 0 0, .slice none 0 0] 28 (0, 0))) := Aside0.mk (by refine blk_far ?_ hb3 _; refine blk_far ?_ hb3 _; refine blk_far ?_ hb3 _; refine blk_far ?_ hb3 _; refine blk_far ?_ hb3 _; refine blk_far ?_ hb3 _; exact cm.out)
 have n5_ : Aside0 (Below w.heap.size w ((((((fo.setCell ⟨au, 0, none⟩ (.slice dk de.length dh)).setCell ⟨au, 1, none⟩ (.slice e2 du.length en)).setCell ⟨au, 2, none⟩ (.slice (some ⟨ga, 0, none⟩) (n + 1) cn)).setCell ⟨au, 0, none⟩ (.slice B0 (rd_T25 b5 (n : Int)).f0.length b0)).setCell ⟨au, 1, none⟩ (.slice B1 (rd_T25 b5 (n : Int)).f1.length b1)).setCell ⟨au, 2, none⟩ (.slice (some ⟨ga, 0, none⟩) n cn))) := Aside0.mk (by refine below_set ?_ zn.out; refine below_set ?_ zn.out; refine below_set ?_ zn.out; refine below_set ?_ zn.out; refine below_set ?_ zn.out; refine below_set ?_ zn.out; exact HB.out)
 clear z4 z5 HL2 dc cm HB cb dg ml p0 ni hx0 pb hcut
 clear tc td cn6 ff6 hcr_0 hcr_1 hcr_2 hcd_2 hfr_0 hfr_1 hfr_2 hg1 hg2
 generalize ((((((fo.setCell ⟨au, 0, none⟩ (.slice dk de.length dh)).setCell ⟨au, 1, none⟩ (.slice e2 du.length en)).setCell ⟨au, 2, none⟩ (.slice (some ⟨ga, 0, none⟩) (n + 1) cn)).setCell ⟨au, 0, none⟩ (.slice B0 (rd_T25 b5 (n : Int)).f0.length b0)).setCell ⟨au, 1, none⟩ (.slice B1 (rd_T25 b5 (n : Int)).f1.length b1)).setCell ⟨au, 2, none⟩ (.slice (some ⟨ga, 0, none⟩) n cn)) = h7 at n0_ n1_ n2_ n3_ n4_ n5_ ⊢
 have hcq_0 : h7.cell? ⟨au, 0, none⟩ = some (.slice B0 (rd_T25 b5 (n : Int)).f0.length b0) := (blk_cell n3_.out 0).trans rfl
 have hcq_1 : h7.cell? ⟨au, 1, none⟩ = some (.slice B1 (rd_T25 b5 (n : Int)).f1.length b1) := (blk_cell n3_.out 1).trans rfl
 have hcq_2 : h7.cell? ⟨au, 2, none⟩ = some (.slice (some ⟨ga, 0, none⟩) n cn) := (blk_cell n3_.out 2).trans rfl
 have hcr_0 : h7.cell? ⟨bo, 0, none⟩ = some (.slice none 0 0) := (blk_cell n4_.out 0).trans rfl
 have hcr_1 : h7.cell? ⟨bo, 1, none⟩ = some (.slice none 0 0) := (blk_cell n4_.out 1).trans rfl
 have hcr_2 : h7.cell? ⟨bo, 2, none⟩ = some (.slice none 0 0) := (blk_cell n4_.out 2).trans rfl
 have hfr_0 := blk_frozen n4_.out 0
 have hfr_1 := blk_frozen n4_.out 1
 have hfr_2 := blk_frozen n4_.out 2
 go_wp2
 refine bodyPost_ret (results_ct rfl _ _ bo 28 #[.slice B0 (rd_T25 b5 (n : Int)).f0.length b0, .slice B1 (rd_T25 b5 (n : Int)).f1.length b1, .slice (some ⟨ga, 0, none⟩) n cn] (0, 0) _ rfl (by refine blk_put (cs := #[.slice B0 (rd_T25 b5 (n : Int)).f0.length b0, .slice B1 (rd_T25 b5 (n : Int)).f1.length b1, .slice none 0 0]) ?_ 2 _ rfl; refine blk_put (cs := #[.slice B0 (rd_T25 b5 (n : Int)).f0.length b0, .slice none 0 0, .slice none 0 0]) ?_ 1 _ rfl; refine blk_put (cs := #[.slice none 0 0, .slice none 0 0, .slice none 0 0]) ?_ 0 _ rfl; exact n4_.out) Try.underlying28 rfl (g1_)) rfl ?_
 exact ⟨_, _, _, rfl, Kd.R_mono (Kd.R_far (p := ⟨bo, 2, none⟩) (Kd.R_far (p := ⟨bo, 1, none⟩) (Kd.R_far (p := ⟨bo, 0, none⟩) n0_.out (fun _ hk => hk.2) (.slice B0 (rd_T25 b5 (n : Int)).f0.length b0)) (fun _ hk => hk.2) (.slice B1 (rd_T25 b5 (n : Int)).f1.length b1)) (fun _ hk => hk.2) (.slice (some ⟨ga, 0, none⟩) n cn)) (fun _ _ => trivial), Kd.S_mono (Kd.S_far (p := ⟨bo, 2, none⟩) (Kd.S_far (p := ⟨bo, 1, none⟩) (Kd.S_far (p := ⟨bo, 0, none⟩) n1_.out (fun _ hk => hk.2) (.slice B0 (rd_T25 b5 (n : Int)).f0.length b0)) (fun _ hk => hk.2) (.slice B1 (rd_T25 b5 (n : Int)).f1.length b1)) (fun _ hk => hk.2) (.slice (some ⟨ga, 0, none⟩) n cn)) (fun _ hk => hk.1.1), Kd.Q_mono (Kd.Q_far (p := ⟨bo, 2, none⟩) (Kd.Q_far (p := ⟨bo, 1, none⟩) (Kd.Q_far (p := ⟨bo, 0, none⟩) n2_.out (fun _ hk => hk.2) (.slice B0 (rd_T25 b5 (n : Int)).f0.length b0)) (fun _ hk => hk.2) (.slice B1 (rd_T25 b5 (n : Int)).f1.length b1)) (fun _ hk => hk.2) (.slice (some ⟨ga, 0, none⟩) n cn)) (fun _ hk => hk.1.1), by refine below_set ?_ ae9.out; refine below_set ?_ ae9.out; refine below_set ?_ ae9.out; exact n5_.out⟩
def spec_DeskDo.f (k : Nat) (ab : List Int) (aa : List (List Int)) (ak : List (S25)) (bn : Int) (a7 : Int) (a9 : Int) (bg : Int) : Option (List Int × (List (List Int)) × (List (S25)) × Bool) := if (bn == 4 && (a7 == 0 && (a9 == 0 && (bg == 0)))) = true ∧ 0 < ak.length then ((spec_DeskOk.f k ab aa ak).bind fun t => if t = true then ((spec_l9Copy.f k ab aa ak).bind fun b => if 0 < b.2.2.length ∧ b.2.2.length < 2932031007402 then some ((rd_T25 b.2.2 ((b.2.2.length - 1 : Nat) : Int)).f0, (rd_T25 b.2.2 ((b.2.2.length - 1 : Nat) : Int)).f1, b.2.2.take (b.2.2.length - 1), true) else none) else some (([] : List Int), ([] : List (List Int)), ([] : List (S25)), false)) else spec_DeskDo1.f k ab aa ak bn a7 a9 bg
theorem spec_DeskDo.mono : ∀ a0 a1 a2 a3 a4 a5 a6 k, LeO (spec_DeskDo.f k a0 a1 a2 a3 a4 a5 a6) (spec_DeskDo.f (k + 1) a0 a1 a2 a3 a4 a5 a6) := by
 intro a0 a1 a2 a3 a4 a5 a6 k
 unfold spec_DeskDo.f
 refine LeO.ite ?_ (spec_DeskDo1.mono _ _ _ _ _ _ _ _)
 refine LeO.bind (spec_DeskOk.mono _ _ _ _) (fun _ => ?_)
 refine LeO.ite ?_ (LeO.refl _)
 exact LeO.bind (spec_l9Copy.mono _ _ _ _) (fun _ => LeO.refl _)
theorem spec_DeskDo.calls (k : Nat) (ag : Option Addr) (ae : Nat) (ab : List Int) (ah : Option Addr) (af : Nat) (aa : List (List Int)) (di : Option Addr) (db : Nat) (ak : List (S25)) (bn : Int) (a7 : Int) (a9 : Int) (bg : Int) (r1 : List Int) (r2 : List (List Int)) (r3 : List (S25)) (r4 : Bool) (w : World) (dx : Kd.C (Kd.int .i64) w ag ab.length ab) (dy : ab.length ≤ ae) (dz : Kd.C (Kd.slice 3 (Kd.int .i64)) w ah aa.length aa) (d2 : aa.length ≤ af) (k5 : Kd.C k25 w di ak.length ak) (k6 : ak.length ≤ db) (h : spec_DeskDo.f k ab aa ak bn a7 a9 bg = some (r1, r2, r3, r4)) :
  Calls Try.prog 54 #[.agg #[.slice ag ab.length ae, .slice ah aa.length af, .slice di ak.length db], .agg #[.int .i64 bn, .int .i64 a7, .int .i64 a9, .int .i64 bg]] w fun e w' => ∃ v0_ v1_ v2_ : Value, e = .returned (.tuple #[.agg #[v0_, v1_, v2_], .bool r4]) ∧ Kd.R (Kd.int .i64) 3 w' w.heap.size (fun _ => True) v0_ r1 ∧ Kd.S (Kd.slice 3 (Kd.int .i64)) 22 w' w.heap.size (fun k_ => some k_ ≠ (v0_ : Value).ownBlock) v1_ r2 ∧ Kd.Q k25 25 w' w.heap.size (fun k_ => some k_ ≠ (v0_ : Value).ownBlock ∧ some k_ ≠ (v1_ : Value).ownBlock) v2_ r3 ∧ Below w.heap.size w w' := by
 unfold spec_DeskDo.f at h
 by_cases hc : (bn == 4 && (a7 == 0 && (a9 == 0 && (bg == 0)))) = true ∧ 0 < ak.length
 ·rw [if_pos hc] at h
  obtain ⟨t, ht, h2⟩ := Option.bind_eq_some_iff.mp h
  have ha : bn = 4 ∧ a7 = 0 ∧ a9 = 0 ∧ bg = 0 := by simpa using hc.1
  obtain ⟨rfl, rfl, rfl, rfl⟩ := ha
  by_cases htt : t = true
  ·subst htt
   rw [if_pos rfl] at h2
   obtain ⟨⟨b0, b1, b2⟩, hb, h3⟩ := Option.bind_eq_some_iff.mp h2
   by_cases h4 : 0 < b2.length ∧ b2.length < 2932031007402
   ·rw [if_pos h4] at h3
    have h5 := Option.some.inj h3
    simp only [Prod.mk.injEq] at h5
    obtain ⟨rfl, rfl, rfl, rfl⟩ := h5
    exact spec_DeskDo.back k ag ae ab ah af aa di db ak w dx dy dz d2 k5 k6 b0 b1 b2 (b2.length - 1) ht hb (by omega) (by omega) hc.2
   ·rw [if_neg h4] at h3; cases h3
  ·rw [if_neg htt] at h2
   refine spec_DeskDo1.calls k ag ae ab ah af aa di db ak 4 0 0 0 r1 r2 r3 r4 w dx dy dz d2 k5 k6 ?_
   unfold spec_DeskDo1.f
   rw [ht, Option.bind_some, if_neg htt]
   exact h2
 ·rw [if_neg hc] at h
  exact spec_DeskDo1.calls k ag ae ab ah af aa di db ak bn a7 a9 bg r1 r2 r3 r4 w dx dy dz d2 k5 k6 h
def spec_l20Rd_pick.j0 : Nat → Int → Bool → List Int → Int → Option (Int × Int)
 | 0, _, _, _, _ => none
 | k + 1, x1, x24, et, gl => if x24 = true then (some (0, gl)) else (if (wrap64 (gl - 1)) < (et.length : Int) then (if 0 ≤ (wrap64 (gl - 1)) then (if x1 = 0 then (none) else (some (Int.tmod (wrap64 (rd et (wrap64 (gl - 1)))) x1, gl))) else (none)) else (if (et.length : Int) = 0 then (none) else (if 0 ≤ (Int.tmod (wrap64 (gl - 1)) (et.length : Int)) then (if (Int.tmod (wrap64 (gl - 1)) (et.length : Int)) < (et.length : Int) then (if 0 ≤ (Int.tmod (wrap64 ((wrap64 ((wrap64 (gl - 1)) * 7)) + 3)) (et.length : Int)) then (if (Int.tmod (wrap64 ((wrap64 ((wrap64 (gl - 1)) * 7)) + 3)) (et.length : Int)) < (et.length : Int) then (if x1 = 0 then (none) else (some (Int.tmod (Go.bits .xor .i64 (wrap64 ((wrap64 ((wrap64 ((wrap64 ((wrap64 (rd et (Int.tmod (wrap64 (gl - 1)) (et.length : Int)))) * 131)) + (wrap64 ((wrap64 (rd et (Int.tmod (wrap64 ((wrap64 ((wrap64 (gl - 1)) * 7)) + 3)) (et.length : Int)))) * 1117)))) + (wrap64 ((wrap64 (gl - 1)) * 29)))) + (wrap64 ((wrap64 (Int.tdiv (wrap64 (gl - 1)) (et.length : Int))) * 53)))) (wrap64 (Int.tdiv (wrap64 ((wrap64 ((wrap64 ((wrap64 ((wrap64 (rd et (Int.tmod (wrap64 (gl - 1)) (et.length : Int)))) * 131)) + (wrap64 ((wrap64 (rd et (Int.tmod (wrap64 ((wrap64 ((wrap64 (gl - 1)) * 7)) + 3)) (et.length : Int)))) * 1117)))) + (wrap64 ((wrap64 (gl - 1)) * 29)))) + (wrap64 ((wrap64 (Int.tdiv (wrap64 (gl - 1)) (et.length : Int))) * 53)))) 64))) x1, gl))) else (none)) else (none)) else (none)) else (none))))
def spec_l20Rd_pick.f (k : Nat) (ac : List Int) (bz : Int) (a1 : Int) : Option (Int × Int) := if a1 < 1 then (spec_l20Rd_pick.j0 k a1 true ac (wrap64 (bz + 1))) else (spec_l20Rd_pick.j0 k a1 ((ac.length : Int) == 0) ac (wrap64 (bz + 1)))
theorem spec_l20Rd_pick.mq {p : Prop} (h : p := by
 repeat' first
 | (with_reducible exact ih0 _ _ _ _)
 | (with_reducible exact LeO.refl _)
 | (with_reducible exact LeO.none _)
 | (with_reducible refine LeO.ite ?_ ?_)
 | (with_reducible refine LeO.bind ?_ (fun _ => ?_))
 | exact ih0 _ _ _ _
 | exact LeO.none _
 | refine LeO.ite ?_ ?_
 | refine LeO.bind ?_ (fun _ => ?_)) : p := h
theorem spec_l20Rd_pick.mono_l : ∀ k, (∀ y0 y1 y2 y3, LeO (spec_l20Rd_pick.j0 k y0 y1 y2 y3) (spec_l20Rd_pick.j0 (k + 1) y0 y1 y2 y3))
 | 0 => fun _ _ _ _ r h => by simp [spec_l20Rd_pick.j0] at h
 | k + 1 => by
  have ih0 := spec_l20Rd_pick.mono_l k
  ·intro y0 y1 y2 y3
   unfold spec_l20Rd_pick.j0
   exact spec_l20Rd_pick.mq
theorem spec_l20Rd_pick.mono : ∀ a0 a1 a2 k, LeO (spec_l20Rd_pick.f k a0 a1 a2) (spec_l20Rd_pick.f (k + 1) a0 a1 a2) := by
 intro a0 a1 a2 k
 have ih0 := spec_l20Rd_pick.mono_l k
 unfold spec_l20Rd_pick.f
 exact spec_l20Rd_pick.mq
theorem bd1 {p : Prop} (h : p := by repeat (first | (with_reducible first | exact HI0.out | apply IsS112.alloc | apply IsS112.drewN | apply IsS112.drew | apply IsS112.set_1) | exact HI0.out)) : p := h
theorem bd2 {p : Prop} (h : p := by repeat (first | (with_reducible first | exact HK.out | apply KeepBut.set_ | apply keep_drewN | apply keep_drew | apply keep_alloc) | exact HK.out)) : p := h
theorem bd3 {p : Prop} (h : p := by repeat (first | (with_reducible first | exact HB.out | apply below_alloc | apply pw_below_drewN | apply below_drew1 | refine below_set ?_ (IsS112.ge HI0.out)) | exact HB.out)) : p := h
set_option maxHeartbeats 8000000 in
set_option maxRecDepth 100000 in
theorem spec_l20Rd_pick.calls (k : Nat) (g : Nat) (ac : List Int) (bz : Int) (a1 : Int) (r1 : Int) (r2 : Int) (w0 w : World) (hI : IsS112 w0 w g ac bz) (hB : Below w0.heap.size w0 w) (h : spec_l20Rd_pick.f k ac bz a1 = some (r1, r2)) :
  Calls Try.prog 70 #[.pointer (some ⟨g, 0, none⟩), .int .i64 a1] w fun e w' => e = .returned (.int .i64 r1) ∧ IsS112 w0 w' g ac r2 ∧ Below w0.heap.size w0 w' ∧ KeepBut w w' g none := by
 have HI0 := Aside0.mk hI
 have HK := Aside0.mk (KeepBut.refl w g none)
 have HL := Aside0.mk hB.size
 clear hI
 have HW0 := Aside0.mk hB.size
 have HB := Aside0.mk hB
 clear hB
 have H : (if a1 < 1 then (spec_l20Rd_pick.j0 k a1 true ac (wrap64 (bz + 1))) else (spec_l20Rd_pick.j0 k a1 ((ac.length : Int) == 0) ac (wrap64 (bz + 1)))) = some (r1, r2) := h
 clear h
 have HC3 := Aside0.mk H
 clear H
 obtain ⟨ASz4_0, cSz4_0, HGz4, hgz4, HSz4_0⟩ := HI0.out
 have tc := cellS112_0 HGz4
 have td := cellS112_1 HGz4
 have ww := blk_frozen HGz4 1
 clear HGz4 hgz4
 go_enter Try.func70, Try.ntmps70
 go_upto_region 2 with (fail)
 repeat (go_quiet (fail); go_upto_region 2 with (fail))
 go_cut [24] (fun v24 wc => ∃ (kq : Nat) (bq0 : Bool), v24 = .bool bq0 ∧ Aside0 (spec_l20Rd_pick.j0 kq a1 bq0 ac (wrap64 (bz + 1)) = some (r1, r2)) ∧ Aside0 (kq ≤ k) ∧ Aside0 (IsS112 w0 wc g ac (wrap64 (bz + 1))) ∧ Aside0 (KeepBut w wc g none) ∧ Aside0 (Below w0.heap.size w0 wc))
 case first =>
  have H := HC3.out
  clear HC3
  by_cases c5 : a1 < 1
  ·rw [if_pos c5] at H
   have gr := decide_eq_true c5
   clear c5
   (first | rw [gr] | (simp only [i64_w, i32_w]; rw [gr]) | skip)
   have H' := Aside0.mk H
   clear H
   go_wp2
   repeat (go_quiet (fail); try go_wp2)
   go_meet
   case rel => exact ⟨_, (true), (g3_), H', ⟨g10_⟩, ⟨bd1⟩, ⟨bd2⟩, ⟨bd3⟩⟩
  ·rw [if_neg c5] at H
   have gr := decide_eq_false c5
   clear c5
   (first | rw [gr] | (simp only [i64_w, i32_w]; rw [gr]) | skip)
   have H' := Aside0.mk H
   clear H
   obtain ⟨ASz6_0, cSz6_0, HGz6, hgz6, HSz6_0⟩ := HI0.out
   have ag5 := cellS112_0 HGz6
   have ag6 := cellS112_1 HGz6
   have ag7 := blk_frozen HGz6 1
   clear HGz6 hgz6
   go_wp2
   repeat (go_quiet (fail); try go_wp2)
   go_meet
   case rel => exact ⟨_, (((ac.length : Int) == 0)), (g3_), H', ⟨g10_⟩, ⟨bd1⟩, ⟨bd2⟩, ⟨bd3⟩⟩
 case rest =>
  clear HC3
  try clear p2
  try clear c5
  try clear gr
  try clear p6
  try clear tc
  try clear td
  try clear ag5
  try clear ag6
  try clear ww
  try clear ag7
  obtain ⟨kq, bq0, rfl, HA, HJ2, HI0, HK, HB⟩ := hcut
  cases kq with
  | zero => exact absurd HA.out (by simp [spec_l20Rd_pick.j0])
  | succ kj2 =>
   have H := HA.out
   clear HA
   simp only [spec_l20Rd_pick.j0] at H
   by_cases c7 : bq0 = true
   ·subst c7
    replace H := ifp_ H
    simp only [Option.some.injEq, Prod.mk.injEq] at H
    obtain ⟨rfl, rfl⟩ := H
    go_wp2
    repeat (go_quiet (fail); try go_wp2)
    go_ret
    exact ⟨g4_, bd1, bd3, bd2⟩
   ·replace c7 := Bool.eq_false_iff.mpr c7
    subst c7
    replace H := ifn_ H
    by_cases c8 : (wrap64 ((wrap64 (bz + 1)) - 1)) < (ac.length : Int)
    ·rw [if_pos c8] at H
     have aw5 := decide_eq_true c8
     clear c8
     obtain ⟨ji9, hji9⟩ : ∃ j_ : Int, (wrap64 ((wrap64 (bz + 1)) - 1)) = j_ := ⟨_, rfl⟩
     replace H : (if 0 ≤ (ji9) then (if a1 = 0 then (none) else (some (Int.tmod (wrap64 (rd ac (ji9))) a1, (wrap64 (bz + 1))))) else (none)) = some (r1, r2) := by first | (rw [hji9] at H; exact H) | (simp only [hji9] at H ⊢; exact H)
     (try rw [hji9] at aw5)
     have hji9w : (IntKind.i64.wrap ((wrap64 (bz + 1)) - 1)) = ji9 := (i64_w _).trans hji9
     obtain ⟨fv, H⟩ := pos_ H
     have ou := decide_eq_true fv
     clear fv
     by_cases kn : a1 = 0
     ·rw [if_pos kn] at H
      exact absurd H (by simp)
     ·rw [if_neg kn] at H
      have yh : (a1 == 0) = false := beq_eq_false_iff_ne.mpr kn
      have ha8 : (a1 != 0) = true := bne_iff_ne.mpr kn
      simp only [Option.some.injEq, Prod.mk.injEq] at H
      obtain ⟨rfl, rfl⟩ := H
      obtain ⟨ASz12_0, cSz12_0, HGz12, hgz12, HSz12_0⟩ := HI0.out
      have ax9 := cellS112_0 HGz12
      have ay0 := cellS112_1 HGz12
      have ay1 := blk_frozen HGz12 1
      clear HGz12 hgz12
      have cj6 : 0 ≤ ((ji9) : Int) := of_decide_eq_true (g0_)
      have cj7 : (ji9) < (ac.length : Int) := of_decide_eq_true (g0_)
      obtain ⟨ha9, ff7, dn7⟩ := Kd.at_int HSz12_0 (ji9) cj6 cj7
      cases ff7
      replace dn7 := pw_cell_below HB.out dn7
      replace cj6 := eq_true cj6
      replace cj7 := eq_true cj7
      go_wp2
      repeat (go_quiet (fail); try go_wp2)
      go_ret
      exact ⟨by first | rfl | (simp [errW_none, errW_some] <;> rfl) | (simp only [← hji9]; first | rfl | (simp [errW_none, errW_some] <;> rfl)) | (simp [*, errW_none, errW_some] <;> rfl), bd1, bd3, bd2⟩
    ·rw [if_neg c8] at H
     have aw5 := decide_eq_false c8
     clear c8
     by_cases lm : (ac.length : Int) = 0
     ·rw [if_pos lm] at H
      exact absurd H (by simp)
     ·rw [if_neg lm] at H
      have aj4 : ((ac.length : Int) == 0) = false := beq_eq_false_iff_ne.mpr lm
      have as6 : ((ac.length : Int) != 0) = true := bne_iff_ne.mpr lm
      have hb0 : ¬ (ac = []) := fun h_ => lm (by rw [h_]; rfl)
      obtain ⟨ji14, hji14⟩ : ∃ j_ : Int, (Int.tmod (wrap64 ((wrap64 (bz + 1)) - 1)) (ac.length : Int)) = j_ := ⟨_, rfl⟩
      replace H : (if 0 ≤ (ji14) then (if (ji14) < (ac.length : Int) then (if 0 ≤ (Int.tmod (wrap64 ((wrap64 ((wrap64 ((wrap64 (bz + 1)) - 1)) * 7)) + 3)) (ac.length : Int)) then (if (Int.tmod (wrap64 ((wrap64 ((wrap64 ((wrap64 (bz + 1)) - 1)) * 7)) + 3)) (ac.length : Int)) < (ac.length : Int) then (if a1 = 0 then (none) else (some (Int.tmod (Go.bits .xor .i64 (wrap64 ((wrap64 ((wrap64 ((wrap64 ((wrap64 (rd ac (ji14))) * 131)) + (wrap64 ((wrap64 (rd ac (Int.tmod (wrap64 ((wrap64 ((wrap64 ((wrap64 (bz + 1)) - 1)) * 7)) + 3)) (ac.length : Int)))) * 1117)))) + (wrap64 ((wrap64 ((wrap64 (bz + 1)) - 1)) * 29)))) + (wrap64 ((wrap64 (Int.tdiv (wrap64 ((wrap64 (bz + 1)) - 1)) (ac.length : Int))) * 53)))) (wrap64 (Int.tdiv (wrap64 ((wrap64 ((wrap64 ((wrap64 ((wrap64 (rd ac (ji14))) * 131)) + (wrap64 ((wrap64 (rd ac (Int.tmod (wrap64 ((wrap64 ((wrap64 ((wrap64 (bz + 1)) - 1)) * 7)) + 3)) (ac.length : Int)))) * 1117)))) + (wrap64 ((wrap64 ((wrap64 (bz + 1)) - 1)) * 29)))) + (wrap64 ((wrap64 (Int.tdiv (wrap64 ((wrap64 (bz + 1)) - 1)) (ac.length : Int))) * 53)))) 64))) a1, (wrap64 (bz + 1))))) else (none)) else (none)) else (none)) else (none)) = some (r1, r2) := by first | (rw [hji14] at H; exact H) | (simp only [hji14] at H ⊢; exact H)
      obtain ⟨ee, H⟩ := pos_ H
      have l9 := decide_eq_true ee
      clear ee
      obtain ⟨f7, H⟩ := pos_ H
      have xb := decide_eq_true f7
      clear f7
      obtain ⟨ji17, hji17⟩ : ∃ j_ : Int, (Int.tmod (wrap64 ((wrap64 ((wrap64 ((wrap64 (bz + 1)) - 1)) * 7)) + 3)) (ac.length : Int)) = j_ := ⟨_, rfl⟩
      replace H : (if 0 ≤ (ji17) then (if (ji17) < (ac.length : Int) then (if a1 = 0 then (none) else (some (Int.tmod (Go.bits .xor .i64 (wrap64 ((wrap64 ((wrap64 ((wrap64 ((wrap64 (rd ac (ji14))) * 131)) + (wrap64 ((wrap64 (rd ac (ji17))) * 1117)))) + (wrap64 ((wrap64 ((wrap64 (bz + 1)) - 1)) * 29)))) + (wrap64 ((wrap64 (Int.tdiv (wrap64 ((wrap64 (bz + 1)) - 1)) (ac.length : Int))) * 53)))) (wrap64 (Int.tdiv (wrap64 ((wrap64 ((wrap64 ((wrap64 ((wrap64 (rd ac (ji14))) * 131)) + (wrap64 ((wrap64 (rd ac (ji17))) * 1117)))) + (wrap64 ((wrap64 ((wrap64 (bz + 1)) - 1)) * 29)))) + (wrap64 ((wrap64 (Int.tdiv (wrap64 ((wrap64 (bz + 1)) - 1)) (ac.length : Int))) * 53)))) 64))) a1, (wrap64 (bz + 1))))) else (none)) else (none)) = some (r1, r2) := by first | (rw [hji17] at H; exact H) | (simp only [hji17] at H ⊢; exact H)
      obtain ⟨fu, H⟩ := pos_ H
      have ai7 := decide_eq_true fu
      clear fu
      obtain ⟨dl, H⟩ := pos_ H
      have lr := decide_eq_true dl
      clear dl
      by_cases ir : a1 = 0
      ·rw [if_pos ir] at H
       exact absurd H (by simp)
      ·rw [if_neg ir] at H
       have ay7 : (a1 == 0) = false := beq_eq_false_iff_ne.mpr ir
       have hb7 : (a1 != 0) = true := bne_iff_ne.mpr ir
       simp only [Option.some.injEq, Prod.mk.injEq] at H
       obtain ⟨rfl, rfl⟩ := H
       obtain ⟨ASz21_0, cSz21_0, HGz21, hgz21, HSz21_0⟩ := HI0.out
       have rx := cellS112_0 HGz21
       have ry := cellS112_1 HGz21
       have rz := blk_frozen HGz21 1
       clear HGz21 hgz21
       have cj8 : 0 ≤ ((ji14) : Int) := of_decide_eq_true (g0_)
       have cj9 : (ji14) < (ac.length : Int) := of_decide_eq_true (g0_)
       obtain ⟨ff8, ff9, dn8⟩ := Kd.at_int HSz21_0 (ji14) cj8 cj9
       cases ff9
       replace dn8 := pw_cell_below HB.out dn8
       replace cj8 := eq_true cj8
       replace cj9 := eq_true cj9
       have ck0 : 0 ≤ ((ji17) : Int) := of_decide_eq_true (g0_)
       have ck1 : (ji17) < (ac.length : Int) := of_decide_eq_true (g0_)
       obtain ⟨fg0, fg1, dn9⟩ := Kd.at_int HSz21_0 (ji17) ck0 ck1
       obtain rfl : ff8 = fg0 := (by injection fg1)
       replace dn9 := pw_cell_below HB.out dn9
       replace ck0 := eq_true ck0
       replace ck1 := eq_true ck1
       go_wp2
       repeat (go_quiet (fail); try go_wp2)
       go_ret
       exact ⟨by first | rfl | (simp [errW_none, errW_some] <;> rfl) | (simp only [← hji14, ← hji17]; first | rfl | (simp [errW_none, errW_some] <;> rfl)) | (simp [*, errW_none, errW_some] <;> rfl), bd1, bd3, bd2⟩
def spec_l20Rd_odd.f (k : Nat) (ac : List Int) (bz : Int) (a1 : Int) : Option (Bool × Int) := if a1 > 0 then ((spec_l20Rd_pick.f k ac bz a1).bind fun bt316 => (some ((bt316.1 == (wrap64 (a1 - 1))), bt316.2))) else (some (false, bz))
theorem spec_l20Rd_odd.mq {p : Prop} (h : p := by
 repeat' first
 | (with_reducible exact spec_l20Rd_pick.mono _ _ _ _)
 | (with_reducible exact LeO.refl _)
 | (with_reducible exact LeO.none _)
 | (with_reducible refine LeO.ite ?_ ?_)
 | (with_reducible refine LeO.bind ?_ (fun _ => ?_))
 | exact spec_l20Rd_pick.mono _ _ _ _
 | exact LeO.none _
 | refine LeO.ite ?_ ?_
 | refine LeO.bind ?_ (fun _ => ?_)) : p := h
theorem spec_l20Rd_odd.mono : ∀ a0 a1 a2 k, LeO (spec_l20Rd_odd.f k a0 a1 a2) (spec_l20Rd_odd.f (k + 1) a0 a1 a2) := by
 intro a0 a1 a2 k
 unfold spec_l20Rd_odd.f
 exact spec_l20Rd_odd.mq
theorem cn1 {p : Prop} (h : p := by repeat (first | (with_reducible first | exact HI0.out | apply IsS112.alloc | apply IsS112.drewN | apply IsS112.drew | apply IsS112.set_1) | exact HI0.out)) : p := h
theorem cn2 {p : Prop} (h : p := by repeat (first | (with_reducible first | exact HB.out | apply below_alloc | apply pw_below_drewN | apply below_drew1 | refine below_set ?_ (IsS112.ge HI0.out)) | exact HB.out)) : p := h
theorem cn3 {p : Prop} (h : p := by repeat (first | (with_reducible first | exact HK.out | apply KeepBut.set_ | apply keep_drewN | apply keep_drew | apply keep_alloc) | exact HK.out)) : p := h
set_option maxHeartbeats 8000000 in
set_option maxRecDepth 100000 in
theorem spec_l20Rd_odd.calls (k : Nat) (g : Nat) (ac : List Int) (bz : Int) (a1 : Int) (r1 : Bool) (r2 : Int) (w0 w : World) (hI : IsS112 w0 w g ac bz) (hB : Below w0.heap.size w0 w) (h : spec_l20Rd_odd.f k ac bz a1 = some (r1, r2)) :
  Calls Try.prog 106 #[.pointer (some ⟨g, 0, none⟩), .int .i64 a1] w fun e w' => e = .returned (.bool r1) ∧ IsS112 w0 w' g ac r2 ∧ Below w0.heap.size w0 w' ∧ KeepBut w w' g none := by
 have HI0 := Aside0.mk hI
 have HK := Aside0.mk (KeepBut.refl w g none)
 have HL := Aside0.mk hB.size
 clear hI
 have HW0 := Aside0.mk hB.size
 have HB := Aside0.mk hB
 clear hB
 have H : (if a1 > 0 then ((spec_l20Rd_pick.f k ac bz a1).bind fun bt316 => (some ((bt316.1 == (wrap64 (a1 - 1))), bt316.2))) else (some (false, bz))) = some (r1, r2) := h
 clear h
 by_cases c3 : a1 > 0
 ·rw [if_pos c3] at H
  have rr := decide_eq_true c3
  clear c3
  replace H := Option.bind_eq_some_iff.mp H
  obtain ⟨⟨fg2, fg3⟩, m7, H⟩ := H
  try dsimp only at H
  have A4 := Aside0.mk m7
  clear m7
  simp only [Option.some.injEq, Prod.mk.injEq] at H
  obtain ⟨rfl, rfl⟩ := H
  go_enter Try.func106, Try.ntmps106
  go_wp2_with (first | (go_at_call 70; (with_reducible refine (spec_l20Rd_pick.calls k g ac bz a1 fg2 fg3 w0 _ ?side1 ?side2 A4.out).mono ?_); (case side1 => exact cn1); (case side2 => exact cn2); rintro e w5 ⟨rfl, hi, hb, hk⟩; replace HK := Aside0.mk (KeepBut.trans (cn3) hk (.inl rfl)); replace HB := Aside0.mk (hb); replace HI0 := Aside0.mk (hi); (try clear hb); (try clear hk hi)))
  go_ret
  exact ⟨g4_, cn1, cn2, cn3⟩
 ·rw [if_neg c3] at H
  have rr := decide_eq_false c3
  clear c3
  simp only [Option.some.injEq, Prod.mk.injEq] at H
  obtain ⟨rfl, rfl⟩ := H
  go_enter Try.func106, Try.ntmps106
  go_wp2
  go_ret
  exact ⟨g4_, cn1, cn2, cn3⟩
mutual
def spec_l20Book.l0 : Nat → Int → Int → Int → Int → List Int → Int → List Int → List (List Int) → Option (List Int × (List (List Int)) × Int)
 | 0, _, _, _, _, _, _, _, _ => none
 | k + 1, x1, x5, x7, x8, et, gl, zs, zt => if x8 < x5 then ((spec_l20Rd_pick.f k et gl 4).bind fun bt328 => ((spec_l20Rd_pick.f k et bt328.2 21).bind fun bt330 => ((some (([0, bt328.1, bt330.1] : List Int) : List Int)).bind fun rj => (if 0 ≤ x7 then (if x7 < (rj.length : Int) then (if zs.length < 17592186044416 then (spec_l20Book.l1 k x1 x5 x7 x8 (([] : List Int)) 0 et bt330.2 (zs ++ [rd rj x7]) zt) else (none)) else (none)) else (none))))) else ((spec_l20Rd_odd.f k et gl x1).bind fun bt358 => (if bt358.1 = true then (none) else (some (zs, zt, bt358.2))))
def spec_l20Book.l1 : Nat → Int → Int → Int → Int → List Int → Int → List Int → Int → List Int → List (List Int) → Option (List Int × (List (List Int)) × Int)
 | 0, _, _, _, _, _, _, _, _, _, _ => none
 | k + 1, x1, x5, x7, x8, x9, x10, et, gl, zs, zt => if x10 < x5 then (if x8 = x10 then (if x9.length < 17592186044416 then (spec_l20Book.l1 k x1 x5 x7 x8 (x9 ++ [0]) (wrap64 (x10 + 1)) et gl zs zt) else (none)) else ((spec_l20Rd_pick.f k et gl 3).bind fun bt348 => (if bt348.1 > 0 then ((spec_l20Rd_pick.f k et bt348.2 10).bind fun bt350 => (if x9.length < 17592186044416 then (spec_l20Book.l1 k x1 x5 x7 x8 (x9 ++ [bt350.1]) (wrap64 (x10 + 1)) et bt350.2 zs zt) else (none))) else (if x9.length < 17592186044416 then (spec_l20Book.l1 k x1 x5 x7 x8 (x9 ++ [0]) (wrap64 (x10 + 1)) et bt348.2 zs zt) else (none))))) else (if zt.length < 5864062014805 then (spec_l20Book.l0 k x1 x5 x7 (wrap64 (x8 + 1)) et gl zs (zt ++ [x9])) else (none))
end
def spec_l20Book.f (k : Nat) (ac : List Int) (bz : Int) (a1 : Int) : Option (List Int × (List (List Int)) × Int) := (some (([1, 2, 3, 3, 4, 4] : List Int) : List Int)).bind fun lc => ((spec_l20Rd_pick.f k ac bz 6).bind fun bt322 => (if 0 ≤ bt322.1 then (if bt322.1 < (lc.length : Int) then ((spec_l20Rd_pick.f k ac bt322.2 3).bind fun bt326 => (spec_l20Book.l0 k a1 (rd lc bt322.1) bt326.1 0 ac bt326.2 ([] : List Int) ([] : List (List Int)))) else (none)) else (none)))
theorem spec_l20Book.mq {p : Prop} (h : p := by
 repeat' first
 | (with_reducible exact ih0 _ _ _ _ _ _ _ _)
 | (with_reducible exact ih1 _ _ _ _ _ _ _ _ _ _)
 | (with_reducible exact spec_l20Rd_odd.mono _ _ _ _)
 | (with_reducible exact spec_l20Rd_pick.mono _ _ _ _)
 | (with_reducible exact LeO.refl _)
 | (with_reducible exact LeO.none _)
 | (with_reducible refine LeO.ite ?_ ?_)
 | (with_reducible refine LeO.bind ?_ (fun _ => ?_))
 | exact ih0 _ _ _ _ _ _ _ _
 | exact ih1 _ _ _ _ _ _ _ _ _ _
 | exact spec_l20Rd_odd.mono _ _ _ _
 | exact spec_l20Rd_pick.mono _ _ _ _
 | exact LeO.none _
 | refine LeO.ite ?_ ?_
 | refine LeO.bind ?_ (fun _ => ?_)) : p := h
theorem spec_l20Book.mono_l : ∀ k, (∀ y0 y1 y2 y3 y4 y5 y6 y7, LeO (spec_l20Book.l0 k y0 y1 y2 y3 y4 y5 y6 y7) (spec_l20Book.l0 (k + 1) y0 y1 y2 y3 y4 y5 y6 y7)) ∧ (∀ y0 y1 y2 y3 y4 y5 y6 y7 y8 y9, LeO (spec_l20Book.l1 k y0 y1 y2 y3 y4 y5 y6 y7 y8 y9) (spec_l20Book.l1 (k + 1) y0 y1 y2 y3 y4 y5 y6 y7 y8 y9))
 | 0 => ⟨fun _ _ _ _ _ _ _ _ r h => by simp [spec_l20Book.l0] at h, fun _ _ _ _ _ _ _ _ _ _ r h => by simp [spec_l20Book.l1] at h⟩
 | k + 1 => by
  obtain ⟨ih0, ih1⟩ := spec_l20Book.mono_l k
  refine ⟨?_, ?_⟩
  ·intro y0 y1 y2 y3 y4 y5 y6 y7
   unfold spec_l20Book.l0
   exact spec_l20Book.mq
  ·intro y0 y1 y2 y3 y4 y5 y6 y7 y8 y9
   unfold spec_l20Book.l1
   exact spec_l20Book.mq
theorem spec_l20Book.mono : ∀ a0 a1 a2 k, LeO (spec_l20Book.f k a0 a1 a2) (spec_l20Book.f (k + 1) a0 a1 a2) := by
 intro a0 a1 a2 k
 obtain ⟨ih0, ih1⟩ := spec_l20Book.mono_l k
 unfold spec_l20Book.f
 exact spec_l20Book.mq
def spec_l20Book.T7 : Bool × List (List Nat × List Nat) := (true, [([], []), ([0], [0]), ([], []), ([2], [2]), ([], []), ([4, 3], [4]), ([3, 5], [3, 5]), ([], []), ([6, 7], [6, 7]), ([8], [8]), ([9], [9]), ([1, 10, 5], [1, 10]), ([0, 1, 2, 3, 4, 5, 6, 7, 8, 9, 10, 11], []), ([12, 11, 11, 0, 1, 2, 3, 4, 5, 6, 7, 8, 9, 10, 11], [11, 12])])
def spec_l20Book.B7 : List Nat := [0, 1, 0, 4, 0, 28, 60, 0, 252, 508, 1020, 2047, 4095, 8191]
theorem spec_l20Book.tab7 : rtab .any (opsOf Try.f91 7) = spec_l20Book.T7 := by kernel_rfl
theorem spec_l20Book.bits7 : waitsOk spec_l20Book.T7.2 spec_l20Book.B7 = true := by kernel_rfl
theorem ep {p : Prop} (h : p := by repeat (first | (with_reducible first | exact HI0.out | apply IsS112.alloc | apply IsS112.drewN | apply IsS112.drew | apply IsS112.set_1 | refine IsS112.far ?_ do0.out _ | refine IsS112.far ?_ bq1.out _) | exact HI0.out)) : p := h
theorem f6 {p : Prop} (h : p := by repeat (first | (with_reducible first | exact HK.out | apply KeepBut.set_ | apply keep_drewN | apply keep_drew | apply keep_alloc | refine keep_far ?_ fg4.out _ | refine keep_far ?_ fg5.out _) | exact HK.out)) : p := h
theorem jh {p : Prop} (h : p := by repeat (first | (with_reducible first | exact HB.out | apply below_alloc | apply pw_below_drewN | apply below_drew1 | refine below_set ?_ (IsS112.ge HI0.out) | refine below_set ?_ fg6.out | refine below_set ?_ fg7.out) | exact HB.out)) : p := h
set_option maxHeartbeats 8000000 in
set_option maxRecDepth 100000 in
theorem spec_l20Book.calls (k : Nat) (g : Nat) (ac : List Int) (bz : Int) (a1 : Int) (r1 : List Int) (r2 : List (List Int)) (r3 : Int) (w0 w : World) (hI : IsS112 w0 w g ac bz) (hB : Below w0.heap.size w0 w) (h : spec_l20Book.f k ac bz a1 = some (r1, r2, r3)) :
  Calls Try.prog 91 #[.pointer (some ⟨g, 0, none⟩), .int .i64 a1] w fun e w' => ∃ v0_ v1_ : Value, e = .returned (.agg #[v0_, v1_]) ∧ Kd.R (Kd.int .i64) 3 w' w.heap.size (fun _ => True) v0_ r1 ∧ Kd.S (Kd.slice 3 (Kd.int .i64)) 22 w' w.heap.size (fun k_ => some k_ ≠ (v0_ : Value).ownBlock) v1_ r2 ∧ IsS112 w0 w' g ac r3 ∧ Below w0.heap.size w0 w' ∧ KeepBut w w' g none := by
 have hu25 := Try.underlying25
 have HI0 := Aside0.mk hI
 have HK := Aside0.mk (KeepBut.refl w g none)
 have HL := Aside0.mk hB.size
 clear hI
 have HW0 := Aside0.mk hB.size
 have HB := Aside0.mk hB
 clear hB
 have H : ((some (([1, 2, 3, 3, 4, 4] : List Int) : List Int)).bind fun lc => ((spec_l20Rd_pick.f k ac bz 6).bind fun bt322 => (if 0 ≤ bt322.1 then (if bt322.1 < (lc.length : Int) then ((spec_l20Rd_pick.f k ac bt322.2 3).bind fun bt326 => (spec_l20Book.l0 k a1 (rd lc bt322.1) bt326.1 0 ac bt326.2 ([] : List Int) ([] : List (List Int)))) else (none)) else (none)))) = some (r1, r2, r3) := h
 clear h
 obtain ⟨lc, hy319⟩ : ∃ y_ : List Int, y_ = (([1, 2, 3, 3, 4, 4] : List Int)) := ⟨_, rfl⟩
 replace H : ((spec_l20Rd_pick.f k ac bz 6).bind fun bt322 => (if 0 ≤ bt322.1 then (if bt322.1 < (lc.length : Int) then ((spec_l20Rd_pick.f k ac bt322.2 3).bind fun bt326 => (spec_l20Book.l0 k a1 (rd lc bt322.1) bt326.1 0 ac bt326.2 ([] : List Int) ([] : List (List Int)))) else (none)) else (none))) = some (r1, r2, r3) := by first | (rw [hy319]; with_reducible exact H) | (have H2_ := (Option.bind_some _ _).symm.trans H; rw [hy319]; with_reducible exact H2_) | (have H2_ := (Option.bind_some _ _).symm.trans H; with_reducible exact H2_) | with_reducible exact H | (rw [hy319]; exact H) | exact H
 have do1 := Aside0.mk hy319
 clear hy319
 replace H := Option.bind_eq_some_iff.mp H
 obtain ⟨⟨n6, ay8⟩, mj, H⟩ := H
 try dsimp only at H
 have A3 := Aside0.mk mj
 clear mj
 obtain ⟨c4, H⟩ := pos_ H
 have og := decide_eq_true c4
 clear c4
 obtain ⟨c5, H⟩ := pos_ H
 have gr := decide_eq_true c5
 clear c5
 replace H := Option.bind_eq_some_iff.mp H
 obtain ⟨⟨ku, do2⟩, A60, H⟩ := H
 try dsimp only at H
 have A6 := Aside0.mk A60
 clear A60
 have H' := Aside0.mk H
 clear H
 go_enter Try.func91, Try.ntmps91
 go_wp2_with (first | ((with_reducible refine gate_dst (N := 4) rfl ?_); refine bx_ (N := 4) #[.slice none 0 0, .slice none 0 0] 25 ?_; intro ju hg w7 hbox hb; replace HB := Aside0.mk (below_step (jh) hb); have dq := Aside0.mk (hbox); have fg4 := Aside0.mk ((g70_ : w.heap.size ≤ ju)); have fg6 := Aside0.mk ((Nat.le_trans HW0.out (g70_ : w.heap.size ≤ ju) : w0.heap.size ≤ ju)); replace HK := Aside0.mk (KeepBut.trans (f6) (KeepBut.of_below hb g none) (.inl rfl)); have do0 := Aside0.mk ((by rw [hg]; exact Nat.ne_of_lt (IsS112.lt (show IsS112 w0 _ g ac bz from ep)) : g ≠ ju)); have wh := Aside0.mk ((by rw [hg]; exact Nat.ne_of_gt (IsS112.lt (show IsS112 w0 _ g ac bz from ep)) : ju ≠ g)); replace HI0 := Aside0.mk (IsS112.below (ep) hb); clear hb hbox hg) | ((with_reducible refine gate_dst (N := 12) rfl ?_); refine Kd.R_lit (Kd.int .i64) _ 3 ?hg (N := 12) ?hd (xs := ([1, 2, 3, 3, 4, 4] : List Int)) (inner := [.int .i64 1, .int .i64 2, .int .i64 3, .int .i64 3, .int .i64 4, .int .i64 4]) (ok := fun _ => True) (okp := fun _ => True) ?hr ?hp (fun _ hk => hk) trivial (Below.refl _ _) (Nat.le_refl _) (by simp) ?_; (case hd => rfl); (case hg => rfl); (case hr => first | (go_simp; done) | (go_simp; rfl)); (case hp => exact (Reps.one (show Kd.M (Kd.int .i64) _ _ _ 1 [.int .i64 1] from rfl) (Reps.one (show Kd.M (Kd.int .i64) _ _ _ 2 [.int .i64 2] from rfl) (Reps.one (show Kd.M (Kd.int .i64) _ _ _ 3 [.int .i64 3] from rfl) (Reps.one (show Kd.M (Kd.int .i64) _ _ _ 3 [.int .i64 3] from rfl) (Reps.one (show Kd.M (Kd.int .i64) _ _ _ 4 [.int .i64 4] from rfl) (Reps.one (show Kd.M (Kd.int .i64) _ _ _ 4 [.int .i64 4] from rfl) (Reps.none _ _)))))))); intro hb8 w8 mg hb hg_ hnew_; clear hg_ hnew_; (first | rw [← do1.out] at mg | (simp only [Int.reduceToNat] at mg; rw [← do1.out] at mg)); have zu := Aside0.mk (Kd.R_lower mg (keep_size (w := w) (g := g) (row := none) (f6))); replace dq := bb_ dq hb; replace HK := Aside0.mk (KeepBut.trans (f6) (KeepBut.of_below hb g none) (.inl rfl)); replace HB := Aside0.mk (below_step (jh) hb); replace HI0 := Aside0.mk (IsS112.below (ep) hb); clear hb mg) | ((with_reducible refine gate_callee (f := 70) rfl ?_); refine goesL_ (some 14) rfl rfl Try.func70 k_ rfl #[.pointer (some ⟨g, 0, none⟩), .int .i64 6] rfl (g2_) ?_; (with_reducible refine (spec_l20Rd_pick.calls k g ac bz 6 n6 ay8 w0 _ ?side1 ?side2 A3.out).mono ?_); (case side1 => exact ep); (case side2 => exact jh); rintro e w10 ⟨rfl, hi, hb, hk⟩; refine ⟨_, rfl, ?_⟩; replace dq := kb_ hk dq wh; replace zu := Aside0.mk (Kd.R_mono (Kd.R_keep (IsS112.apart (show IsS112 w0 _ g ac bz from ep) (uf2_ zu) (by decide)) hk (fun _ h => h.2)) (fun _ h => h.1)); replace HK := Aside0.mk (KeepBut.trans (f6) hk (.inl rfl)); replace HB := Aside0.mk (hb); replace HI0 := Aside0.mk (hi); (try clear hb); (try clear hk hi); obtain ⟨mm, lv, ay9⟩ := Kd.R_slice zu.out; subst ay9; have az0 : 0 ≤ (n6 : Int) := of_decide_eq_true (g0_); have az1 : n6 < (lc.length : Int) := of_decide_eq_true (g0_); obtain ⟨hb9, fg8, do3⟩ := Kd.at_int (Kd.R_reads' zu.out).2.2 n6 az0 az1; cases fg8; replace az0 := eq_true az0; replace az1 := eq_true az1) | ((with_reducible refine gate_dst (N := 6) rfl ?_); refine bx_ (N := 6) #[.slice none 0 0, .slice none 0 0] 25 ?_; intro hf hg xy hbox hb; replace zu := Aside0.mk (Kd.R_below (uf2_ zu) hb); replace HB := Aside0.mk (below_step (jh) hb); have cp := Aside0.mk (hbox); have fg5 := Aside0.mk ((g70_ : w.heap.size ≤ hf)); have fg7 := Aside0.mk ((Nat.le_trans HW0.out (g70_ : w.heap.size ≤ hf) : w0.heap.size ≤ hf)); replace HK := Aside0.mk (KeepBut.trans (f6) (KeepBut.of_below hb g none) (.inl rfl)); have zv := Aside0.mk ((by rw [hg]; exact Nat.ne_of_lt (blk_lt (g := ju) (o := .cells #[.slice none 0 0, .slice none 0 0] 25 (0, 0)) (uf0_ dq)) : ju ≠ hf)); have bq2 := Aside0.mk ((by rw [hg]; exact Nat.ne_of_gt (blk_lt (g := ju) (o := .cells #[.slice none 0 0, .slice none 0 0] 25 (0, 0)) (uf0_ dq)) : hf ≠ ju)); replace dq := bb_ dq hb; have bq1 := Aside0.mk ((by rw [hg]; exact Nat.ne_of_lt (IsS112.lt (show IsS112 w0 _ g ac ay8 from ep)) : g ≠ hf)); have ue := Aside0.mk ((by rw [hg]; exact Nat.ne_of_gt (IsS112.lt (show IsS112 w0 _ g ac ay8 from ep)) : hf ≠ g)); replace HI0 := Aside0.mk (IsS112.below (ep) hb); clear hb hbox hg; have dz9 := bq2.out; have ea0 := zv.out; have bx6 := ue.out; have bx7 := bq1.out; obtain ⟨ck2, ck3, ck4, ck5⟩ := blk2_ cp) | ((with_reducible refine gate_callee (f := 70) rfl ?_); refine goesL_ (some 19) rfl rfl Try.func70 k_ rfl #[.pointer (some ⟨g, 0, none⟩), .int .i64 3] rfl (g2_) ?_; (with_reducible refine (spec_l20Rd_pick.calls k g ac ay8 3 ku do2 w0 _ ?side1 ?side2 A6.out).mono ?_); (case side1 => exact ep); (case side2 => exact jh); rintro e fo ⟨rfl, hi, hb, hk⟩; refine ⟨_, rfl, ?_⟩; replace dq := Aside0.mk (KeepBut.blk hk (g' := ju) (o := .cells #[.slice none 0 0, .slice none 0 0] 25 (0, 0)) (by (with_reducible repeat (first | refine blk_drewN ?_ _ | refine blk_drew ?_ | refine blk_alloc ?_ _)); refine blk_far ?_ zv.out _; refine blk_far ?_ zv.out _; exact uf0_ dq) wh.out (by simp)); replace zu := Aside0.mk (Kd.R_mono (Kd.R_keep (IsS112.apart (show IsS112 w0 _ g ac ay8 from ep) (by (with_reducible repeat (first | apply Kd.R_alloc | apply Kd.R_drewN | apply Kd.R_drew)); exact (Kd.R_mono (Kd.R_far (p := ⟨hf, 1, none⟩) (Kd.R_far (p := ⟨hf, 0, none⟩) (Kd.R_types zu.out cp.out (by decide)) (fun _ hk => hk.2) (.slice none 0 0)) (fun _ hk => hk.2) (.slice none 0 0)) (fun _ h_ => h_.1))) (by decide)) hk (fun _ h => h.2)) (fun _ h => h.1)); replace cp := Aside0.mk (KeepBut.blk hk (g' := hf) (o := .cells #[.slice none 0 0, .slice none 0 0] 25 (0, 0)) (by (with_reducible repeat (first | refine blk_drewN ?_ _ | refine blk_drew ?_ | refine blk_alloc ?_ _)); refine blk_put (cs := #[.slice none 0 0, .slice none 0 0]) ?_ 1 _ rfl; refine blk_put (cs := #[.slice none 0 0, .slice none 0 0]) ?_ 0 _ rfl; exact uf0_ cp) ue.out (by simp)); replace HK := Aside0.mk (KeepBut.trans (f6) hk (.inl rfl)); replace HB := Aside0.mk (hb); replace HI0 := Aside0.mk (hi); (try clear hb); (try clear hk hi)))
 go_loopg [8] k (fun kq v8 w' => ∃ (lw : Int) (dp : Int) (sr : List Int) (nk : List (List Int)) (wi : Value) (mo : Value), v8 = .int .i64 lw ∧ Aside0 (spec_l20Book.l0 kq a1 (rd lc n6) ku lw ac dp sr nk = some (r1, r2, r3)) ∧ Aside0 (kq ≤ k) ∧ Aside0 (Kd.R (Kd.int .i64) 3 w' w.heap.size (fun _ => True) wi sr) ∧ Aside0 (Kd.S (Kd.slice 3 (Kd.int .i64)) 22 w' w.heap.size (fun k_ => some k_ ≠ (wi : Value).ownBlock) mo nk) ∧ Aside0 (w'.heap[ju]? = some (.cells #[(.slice none 0 0), (.slice none 0 0)] 25 (0, 0))) ∧ Aside0 (w'.heap[hf]? = some (.cells #[wi, mo] 25 (0, 0))) ∧ Aside0 (IsS112 w0 w' g ac dp) ∧ Aside0 (KeepBut w w' g none) ∧ Aside0 (Below w0.heap.size w0 w'))
 case atStart => exact ⟨(0), (do2), (([] : List Int)), (([] : List (List Int))), (.slice none 0 0), (.slice none 0 0), (g3_), H', ⟨Nat.le_refl _⟩, ⟨g16_⟩, ⟨g34_⟩, ⟨uf0_ dq⟩, ⟨uf0_ cp⟩, ⟨ep⟩, ⟨f6⟩, ⟨jh⟩⟩
 case round =>
  clear H'
  try clear c1
  try clear p2
  try clear p3
  try clear q3
  try clear hx3
  try clear c4
  try clear og
  try clear c5
  try clear gr
  try clear c7
  try clear c9
  try clear lm
  try clear e3
  try clear ck2
  try clear ck3
  try clear ck4
  try clear ck5
  try clear do3
  try clear az0
  try clear az1
  obtain ⟨lw, dp, sr, nk, wi, mo, rfl, HA, HK1, fj, fk, dq, cp, HI0, HK, HB⟩ := hrel
  cases gk with
  | zero => exact absurd HA.out (by simp [spec_l20Book.l0])
  | succ k1 =>
   have H := HA.out
   clear HA
   simp only [spec_l20Book.l0] at H
   by_cases fa : lw < (rd lc n6)
   ·rw [if_pos fa] at H
    have ti := decide_eq_true fa
    clear fa
    replace H := Option.bind_eq_some_iff.mp H
    obtain ⟨⟨al8, bq3⟩, do4, H⟩ := H
    try dsimp only at H
    have A18 := Aside0.mk do4
    clear do4
    replace H := Option.bind_eq_some_iff.mp H
    obtain ⟨⟨al9, am0⟩, do5, H⟩ := H
    try dsimp only at H
    have A19 := Aside0.mk do5
    clear do5
    obtain ⟨rj, hy332⟩ : ∃ y_ : List Int, y_ = (([0, al8, al9] : List Int)) := ⟨_, rfl⟩
    replace H : (if 0 ≤ ku then (if ku < (rj.length : Int) then (if sr.length < 17592186044416 then (spec_l20Book.l1 k1 a1 (rd lc n6) ku lw (([] : List Int)) 0 ac am0 (sr ++ [rd rj ku]) nk) else (none)) else (none)) else (none)) = some (r1, r2, r3) := by first | (rw [hy332]; with_reducible exact H) | (have H2_ := (Option.bind_some _ _).symm.trans H; rw [hy332]; with_reducible exact H2_) | (have H2_ := (Option.bind_some _ _).symm.trans H; with_reducible exact H2_) | with_reducible exact H | (rw [hy332]; exact H) | exact H
    have ck6 := Aside0.mk hy332
    clear hy332
    obtain ⟨ir, H⟩ := pos_ H
    have ay7 := decide_eq_true ir
    clear ir
    obtain ⟨ip, H⟩ := pos_ H
    have cd8 := decide_eq_true ip
    clear ip
    obtain ⟨ii, H⟩ := pos_ H
    have fg9 := Aside0.mk ii
    clear ii
    obtain ⟨fq, hy336⟩ : ∃ y_ : List Int, y_ = (sr ++ [rd rj ku]) := ⟨_, rfl⟩
    replace H : (spec_l20Book.l1 k1 a1 (rd lc n6) ku lw (([] : List Int)) 0 ac am0 fq nk) = some (r1, r2, r3) := by first | (rw [hy336]; with_reducible exact H) | (have H2_ := (Option.bind_some _ _).symm.trans H; rw [hy336]; with_reducible exact H2_) | (have H2_ := (Option.bind_some _ _).symm.trans H; with_reducible exact H2_) | with_reducible exact H | (rw [hy336]; exact H) | exact H
    have fh0 := Aside0.mk hy336
    clear hy336
    obtain ⟨do6, hy339⟩ : ∃ y_ : List Int, y_ = (([] : List Int)) := ⟨_, rfl⟩
    replace H : (spec_l20Book.l1 k1 a1 (rd lc n6) ku lw do6 0 ac am0 fq nk) = some (r1, r2, r3) := by first | (rw [hy339]; with_reducible exact H) | (have H2_ := (Option.bind_some _ _).symm.trans H; rw [hy339]; with_reducible exact H2_) | (have H2_ := (Option.bind_some _ _).symm.trans H; with_reducible exact H2_) | with_reducible exact H | (rw [hy339]; exact H) | exact H
    have do7 := Aside0.mk hy339
    clear hy339
    have H' := Aside0.mk H
    clear H
    try go_wp2
    have pi335 : (0 ≤ (ku : Int)) = True := eq_true (of_decide_eq_true (g0_))
    have qi335 : (ku < (rj.length : Int)) = True := eq_true (of_decide_eq_true (g0_))
    replace fj := Aside0.mk (Kd.R_drew fj.out)
    replace fk := Aside0.mk (Kd.S_drew fk.out)
    replace dq := Aside0.mk (blk_drew dq.out)
    replace cp := Aside0.mk (blk_drew cp.out)
    replace HI0 := Aside0.mk (IsS112.drew HI0.out)
    replace HK := Aside0.mk (keep_drew HK.out)
    replace HB := Aside0.mk (below_drew1 HB.out)
    refine start_ (n := 14) (S := fun w' => w'.cell? ⟨hf, 0, none⟩ = some (wi) ∧ w'.cell? ⟨hf, 1, none⟩ = some (mo)) (ds := [13]) (tl_ 14 0) (g1_) rfl (g1_) ⟨(blk_cell cp.out 0).trans rfl, (blk_cell cp.out 1).trans rfl⟩ (fun hHeld => ?_); refine with_tabW spec_l20Book.tab7 spec_l20Book.bits7 (fun HT_ HW_ => ?_)
    generalize wr.drew = w23 at fj fk dq cp HI0 HK HB hHeld ⊢
    refine pw_ 0 25 (tl_ 14 1) rfl rfl ?_
    refine pw_ 2 27 (tl_ 14 5) rfl rfl ?_
    refine pw_ 4 29 (tl_ 14 21) rfl rfl ?_
    refine pw_ 7 32 (tl_ 14 149) rfl rfl ?_
    refine tk6_ 1 26 (tl_ 14 151) rfl rfl hHeld ?_
    refine one_ (i := 3) (N := some 28) (tl_ 14 159) rfl rfl (one_of HT_.out (g1_)) (by decide) (fun K hK => ?_)
    refine goes_ Try.func70 (g1_) rfl #[.pointer (some ⟨g, 0, none⟩), .int .i64 4] (by rfl) rfl rfl (g2_) ?_
    with_reducible refine (spec_l20Rd_pick.calls k1 g ac dp 4 al8 bq3 w0 _ ?side1 ?side2 A18.out).mono ?_
    (case side1 => exact ep)
    (case side2 => exact jh)
    rintro e w24 ⟨rfl, hi, hb, hk⟩
    refine ⟨_, rfl, ?_⟩
    replace fj := Aside0.mk (Kd.R_mono (Kd.R_keep (IsS112.apart (show IsS112 w0 _ g ac dp from ep) (uf2_ fj) (by decide)) hk (fun _ h => h.2)) (fun _ h => h.1))
    replace fk := Aside0.mk (Kd.S_mono (Kd.S_keep (IsS112.apartS (show IsS112 w0 _ g ac dp from ep) (uf3_ fk) (by decide)) hk (fun _ h => h.2)) (fun _ h => h.1))
    replace dq := kb_ hk dq wh
    replace cp := kb_ hk cp ue
    replace HK := Aside0.mk (KeepBut.trans (f6) hk (.inl rfl))
    replace HB := Aside0.mk (hb)
    replace HI0 := Aside0.mk (hi)
    (try clear hb)
    (try clear hk hi)
    refine hK.out _ _ ⟨(blk_cell cp.out 0).trans rfl, (blk_cell cp.out 1).trans rfl⟩ (fun hHeld => ?_)
    clear hK K
    refine nm_ ?_
    refine one_ (i := 5) (N := some 30) (tl_ 14 191) rfl rfl (one_of HT_.out (g1_)) (by decide) (fun K hK => ?_)
    refine goes_ Try.func70 (g1_) rfl #[.pointer (some ⟨g, 0, none⟩), .int .i64 21] (by rfl) rfl rfl (g2_) ?_
    with_reducible refine (spec_l20Rd_pick.calls k1 g ac bq3 21 al9 am0 w0 _ ?side1 ?side2 A19.out).mono ?_
    (case side1 => exact ep)
    (case side2 => exact jh)
    rintro e kl ⟨rfl, hi, hb, hk⟩
    refine ⟨_, rfl, ?_⟩
    replace fj := Aside0.mk (Kd.R_mono (Kd.R_keep (IsS112.apart (show IsS112 w0 _ g ac bq3 from ep) (uf2_ fj) (by decide)) hk (fun _ h => h.2)) (fun _ h => h.1))
    replace fk := Aside0.mk (Kd.S_mono (Kd.S_keep (IsS112.apartS (show IsS112 w0 _ g ac bq3 from ep) (uf3_ fk) (by decide)) hk (fun _ h => h.2)) (fun _ h => h.1))
    replace dq := kb_ hk dq wh
    replace cp := kb_ hk cp ue
    replace HK := Aside0.mk (KeepBut.trans (f6) hk (.inl rfl))
    replace HB := Aside0.mk (hb)
    replace HI0 := Aside0.mk (hi)
    (try clear hb)
    (try clear hk hi)
    refine hK.out _ _ ⟨(blk_cell cp.out 0).trans rfl, (blk_cell cp.out 1).trans rfl⟩ (fun hHeld => ?_)
    clear hK K
    refine nm_ ?_
    refine one_ (i := 6) (N := some 31) (tl_ 14 255) rfl rfl (one_of HT_.out (g1_)) (by decide) (fun K hK => ?_)
    refine Kd.R_lit_step (Kd.int .i64) _ 3 ?hg (N := 31) ?hd (xs := ([0, al8, al9] : List Int)) (inner := [.int .i64 0, .int .i64 al8, .int .i64 al9]) (ok := fun _ => True) (okp := fun _ => True) ?hr ?hp (fun _ hk => hk) trivial (Below.refl _ _) (Nat.le_refl _) (by simp) ?_; (case hd => rfl); (case hg => rfl); (case hr => first | (go_simp; done) | (go_simp; rfl)); (case hp => exact (Reps.one (show Kd.M (Kd.int .i64) _ _ _ 0 [.int .i64 0] from rfl) (Reps.one (show Kd.M (Kd.int .i64) _ _ _ al8 [.int .i64 al8] from rfl) (Reps.one (show Kd.M (Kd.int .i64) _ _ _ al9 [.int .i64 al9] from rfl) (Reps.none _ _)))))
    intro hc3 w26 ko hb hg_ hnew_
    clear hg_ hnew_
    (first | rw [← ck6.out] at ko | (simp only [Int.reduceToNat] at ko; rw [← ck6.out] at ko))
    replace fk := Aside0.mk (Kd.S_elder' (uf3_ fk) (Kd.R_base ko) hb)
    have wj := Aside0.mk (Kd.R_lower (Kd.R_new' ko (Kd.R_lt (uf2_ fj))) (keep_size (w := w) (g := g) (row := none) (f6)))
    replace fj := Aside0.mk (Kd.R_elder' (uf2_ fj) (Kd.R_base ko) hb)
    replace dq := bb_ dq hb
    replace cp := bb_ cp hb
    replace HK := Aside0.mk (KeepBut.trans (f6) (KeepBut.of_below hb g none) (.inl rfl))
    replace HB := Aside0.mk (below_step (jh) hb)
    replace HI0 := Aside0.mk (IsS112.below (ep) hb)
    clear hb ko
    obtain ⟨pg, nv, aa7⟩ := Kd.R_slice wj.out
    subst aa7
    obtain ⟨ado28, fh1, _⟩ := Kd.at_int (Kd.R_reads' wj.out).2.2 0 (by decide) (by rw [ck6.out]; simp)
    cases fh1
    refine hK.out _ _ ⟨(blk_cell cp.out 0).trans rfl, (blk_cell cp.out 1).trans rfl⟩ (fun hHeld => ?_)
    clear hK K
    refine nm_ ?_
    refine pw_ 8 33 (tl_ 14 511) rfl rfl ?_
    refine one_ (i := 9) (N := some 34) (tl_ 14 1023) rfl rfl (one_of HT_.out (g1_)) (by decide) (fun K hK => ?_)
    (have do8 : 0 ≤ (ku : Int) := of_decide_eq_true (g0_); have do9 : ku < (rj.length : Int) := of_decide_eq_true (g0_); obtain ⟨fh2, fh3, dp0⟩ := Kd.at_int (Kd.R_reads' wj.out).2.2 ku do8 do9; obtain rfl : ado28 = fh2 := (by injection fh3))
    refine value_ (w1 := ?_) (v := ?_) (by rfl) rfl ?_ ?_
    rotate_left 2
    ·go_simp
     constructor
     ·rfl
     ·rfl
    clear dp0
    refine hK.out _ _ ⟨(blk_cell cp.out 0).trans rfl, (blk_cell cp.out 1).trans rfl⟩ (fun hHeld => ?_)
    clear hK K
    refine nm_ ?_
    refine one_ (i := 10) (N := some 35) (tl_ 14 2047) rfl rfl (one_of HT_.out (g1_)) (by decide) (fun K hK => ?_)
    refine value_ (w1 := ?_) (v := ?_) (by rfl) rfl ?_ ?_
    rotate_left 2
    ·go_simp
     constructor
     ·rfl
     ·rfl
    refine hK.out _ _ ⟨(blk_cell (blk_alloc cp.out _) 0).trans rfl, (blk_cell (blk_alloc cp.out _) 1).trans rfl⟩ (fun hHeld => ?_)
    clear hK K
    refine nm_ ?_
    refine one_ (i := 11) (N := some 36) (tl_ 14 4095) rfl rfl (one_of HT_.out (g1_)) (by decide) (fun K hK => ?_)
    refine Kd.R_append_step (Kd.int .i64) w.heap.size (by rfl) (.tmp 26) (.tmp 35) 22 3 (.int .i64 0) 8 rfl Try.underlying22 info3 rfl (by decide) (by omega) wi sr (rd rj ku) [.int .i64 (rd rj ku)] (fun k_ => some k_ ≠ (.slice (some ado28) rj.length nv : Value).ownBlock) (fun _ => False) rfl rfl ?aP (fun _ hk => hk.elim) ?aF ?aO (Below.refl _ _) ?aS ?aL ?_
    (case aP => exact rfl)
    (case aF => exact (fun k_ hk => Kd.fresh' (Kd.R_lt (uf2_ wj)) k_ hk))
    (case aO => exact (g71_))
    (case aS => exact (keep_size (w := w) (g := g) (row := none) (f6)))
    (case aL => have := fg9.out; omega)
    intro dl6 w29 ho hb hg hat
    rw [← fh0.out] at ho
    replace fk := Aside0.mk (Kd.S_after (ok := (fun k_ => some k_ ≠ (.slice (some ado28) rj.length nv : Value).ownBlock)) (g35_) hg hat)
    replace dq := Aside0.mk (blk_grown (g := ju) (o := .cells #[.slice none 0 0, .slice none 0 0] 25 (0, 0)) (uf0_ dq) hg (Kd.R_ne fj.out dq.out (by decide)))
    replace cp := Aside0.mk (blk_grown (g := hf) (o := .cells #[wi, mo] 25 (0, 0)) (uf0_ cp) hg (Kd.R_ne fj.out cp.out (by decide)))
    replace wj := Aside0.mk (Kd.R_after (ok := (fun _ => True)) (uf2_ wj) hg hat)
    replace HB := Aside0.mk (below_weaken (jh) HL.out hb)
    replace HI0 := Aside0.mk (IsS112.grown (ep) hg (IsS112.own_ne HI0.out fj.out (by decide)))
    replace HK := Aside0.mk (KeepBut.trans (f6) (KeepBut.of_grown hg g) (Kd.R_base2 fj.out))
    have ml := Aside0.mk (ho)
    clear fj
    clear ho hb hg hat
    obtain ⟨fy, fz, az2⟩ := Kd.R_slice ml.out
    (first | subst az2 | (injection az2 with f1_ f2_ f3_; have f4_ := f1_.symm; have f5_ := f3_.symm; clear f1_ f2_ f3_; subst f4_; subst f5_))
    refine hK.out _ _ ⟨(blk_cell cp.out 0).trans rfl, (blk_cell cp.out 1).trans rfl⟩ (fun hHeld => ?_)
    clear hK K
    refine nm_ ?_
    refine pw_ 12 37 (tl_ 14 8191) rfl rfl ?_
    refine last_ (i := 13) (N := none) (tl_ 14 16383) rfl rfl (one_of HT_.out (g1_)) (by decide) (fun K hK => ?_)
    have fh4 : w29.cell? ⟨hf, 0, none⟩ = some (wi) := (blk_cell cp.out 0).trans rfl
    have fh5 := blk_frozen cp.out 0
    have fh6 := zv.out
    have fh7 := bq2.out
    refine skip_ (w1 := ?_) (by rfl) rfl ?_ ?_
    rotate_left
    ·go_simp
     rfl
    refine hK.out _ _ ?_
    clear hK K
    refine done_ (done_of HT_.out (g1_)) ?_
    try go_wp2_with (first | ((with_reducible refine gate_dst (N := 38) rfl ?_); refine Kd.R_lit (Kd.int .i64) _ 3 ?hg (N := 38) ?hd (xs := ([] : List Int)) (inner := []) (ok := fun _ => True) (okp := fun _ => True) ?hr ?hp (fun _ hk => hk) trivial (Below.refl _ _) (Nat.le_refl _) (by simp) ?_; (case hd => rfl); (case hg => rfl); (case hr => first | (go_simp; done) | (go_simp; rfl)); (case hp => exact (Reps.none _ _)); intro dl7 w32 zw hb hg_ hnew_; clear hg_ hnew_; (first | rw [← do7.out] at zw | (simp only [Int.reduceToNat] at zw; rw [← do7.out] at zw)); replace fk := Aside0.mk (Kd.S_elder' (by (with_reducible repeat (first | apply Kd.S_alloc | apply Kd.S_drewN | apply Kd.S_drew)); exact (Kd.S_mono (Kd.S_far (p := ⟨hf, 0, none⟩) (Kd.S_types fk.out cp.out (by decide)) (fun _ hk => hk.2) (.slice fy fq.length fz)) (fun _ h_ => h_.1))) (Kd.R_base zw) hb); have p0 := Aside0.mk (Kd.R_lower (Kd.R_new' (Kd.R_new' zw (Kd.R_lt (by (with_reducible repeat (first | apply Kd.R_alloc | apply Kd.R_drewN | apply Kd.R_drew)); exact (Kd.R_mono (Kd.R_far (p := ⟨hf, 0, none⟩) (Kd.R_types wj.out cp.out (by decide)) (fun _ hk => hk.2) (.slice fy fq.length fz)) (fun _ h_ => h_.1))))) (Kd.R_lt (by (with_reducible repeat (first | apply Kd.R_alloc | apply Kd.R_drewN | apply Kd.R_drew)); exact (Kd.R_mono (Kd.R_far (p := ⟨hf, 0, none⟩) (Kd.R_types ml.out cp.out (by decide)) (fun _ hk => hk.2) (.slice fy fq.length fz)) (fun _ h_ => h_.1))))) (keep_size (w := w) (g := g) (row := none) (f6))); replace wj := Aside0.mk (Kd.R_elder' (by (with_reducible repeat (first | apply Kd.R_alloc | apply Kd.R_drewN | apply Kd.R_drew)); exact (Kd.R_mono (Kd.R_far (p := ⟨hf, 0, none⟩) (Kd.R_types wj.out cp.out (by decide)) (fun _ hk => hk.2) (.slice fy fq.length fz)) (fun _ h_ => h_.1))) (Kd.R_base zw) hb); replace ml := Aside0.mk (Kd.R_elder' (by (with_reducible repeat (first | apply Kd.R_alloc | apply Kd.R_drewN | apply Kd.R_drew)); exact (Kd.R_mono (Kd.R_far (p := ⟨hf, 0, none⟩) (Kd.R_types ml.out cp.out (by decide)) (fun _ hk => hk.2) (.slice fy fq.length fz)) (fun _ h_ => h_.1))) (Kd.R_base zw) hb); replace dq := Aside0.mk (blk_below (g := ju) (o := .cells #[.slice none 0 0, .slice none 0 0] 25 (0, 0)) (by (with_reducible repeat (first | refine blk_drewN ?_ _ | refine blk_drew ?_ | refine blk_alloc ?_ _)); refine blk_far ?_ zv.out _; exact uf0_ dq) hb); replace cp := Aside0.mk (blk_below (g := hf) (o := .cells #[.slice fy fq.length fz, mo] 25 (0, 0)) (by (with_reducible repeat (first | refine blk_drewN ?_ _ | refine blk_drew ?_ | refine blk_alloc ?_ _)); refine blk_put (cs := #[wi, mo]) ?_ 0 _ rfl; exact uf0_ cp) hb); replace HK := Aside0.mk (KeepBut.trans (f6) (KeepBut.of_below hb g none) (.inl rfl)); replace HB := Aside0.mk (below_step (jh) hb); replace HI0 := Aside0.mk (IsS112.below (show IsS112 w0 (w29.setCell ⟨hf, 0, none⟩ (.slice fy fq.length fz)) g ac am0 from ep) hb); clear hb zw))
    go_loopg [9, 10] k1 (fun kq v9 v10 w' => ∃ (p9 : List Int) (n7 : Int) (n8 : Int), v10 = .int .i64 n7 ∧ Aside0 (spec_l20Book.l1 kq a1 (rd lc n6) ku lw p9 n7 ac n8 fq nk = some (r1, r2, r3)) ∧ Aside0 (kq ≤ k1) ∧ Aside0 (Kd.R (Kd.int .i64) 3 w' w.heap.size (fun k_ => some k_ ≠ ((.slice fy fq.length fz) : Value).ownBlock) v9 p9) ∧ Aside0 (Kd.R (Kd.int .i64) 3 w' w.heap.size (fun k_ => some k_ ≠ (v9 : Value).ownBlock) (.slice fy fq.length fz) fq) ∧ Aside0 (Kd.S (Kd.slice 3 (Kd.int .i64)) 22 w' w.heap.size (fun k_ => some k_ ≠ (v9 : Value).ownBlock ∧ some k_ ≠ ((.slice fy fq.length fz) : Value).ownBlock) mo nk) ∧ Aside0 (w'.heap[ju]? = some (.cells #[(.slice none 0 0), (.slice none 0 0)] 25 (0, 0))) ∧ Aside0 (w'.heap[hf]? = some (.cells #[(.slice fy fq.length fz), mo] 25 (0, 0))) ∧ Aside0 (IsS112 w0 w' g ac n8) ∧ Aside0 (KeepBut w w' g none) ∧ Aside0 (Below w0.heap.size w0 w'))
    case atStart => exact ⟨(do6), (0), (am0), (g3_), H', ⟨Nat.le_refl _⟩, ⟨by (with_reducible repeat (first | apply Kd.R_alloc | apply Kd.R_drewN | apply Kd.R_drew)); exact Kd.R_mono p0.out (fun _ hk => hk.2)⟩, ⟨by (with_reducible repeat (first | apply Kd.R_alloc | apply Kd.R_drewN | apply Kd.R_drew)); exact Kd.R_mono ml.out (fun _ hk => hk.2)⟩, ⟨by (with_reducible repeat (first | apply Kd.S_alloc | apply Kd.S_drewN | apply Kd.S_drew)); exact Kd.S_mono fk.out (fun _ hk => ⟨hk.2, hk.1.2⟩)⟩, ⟨uf0_ dq⟩, ⟨uf0_ cp⟩, ⟨ep⟩, ⟨f6⟩, ⟨jh⟩⟩
    case round =>
     clear H'
     try clear c1
     try clear c2
     try clear p2
     try clear p3
     try clear q3
     try clear hx3
     try clear qi3
     try clear c4
     try clear og
     try clear c5
     try clear gr
     try clear c7
     try clear c9
     try clear lm
     try clear e3
     try clear fa
     try clear ti
     try clear ir
     try clear ay7
     try clear ip
     try clear cd8
     try clear ii
     try clear p32
     try clear q32
     try clear hc4
     try clear qz
     try clear q0
     try clear hc5
     try clear qi33
     try clear ck2
     try clear ck3
     try clear ck4
     try clear ck5
     try clear do3
     try clear dp0
     try clear p2
     try clear p3
     try clear az0
     try clear do8
     try clear q3
     try clear az1
     try clear do9
     obtain ⟨p9, n7, n8, rfl, HA, HK2, ie, fj, fk, dq, cp, HI0, HK, HB⟩ := hrel
     cases gk with
     | zero => exact absurd HA.out (by simp [spec_l20Book.l1])
     | succ k2 =>
      have H := HA.out
      clear HA
      simp only [spec_l20Book.l1] at H
      by_cases li : n7 < (rd lc n6)
      ·rw [if_pos li] at H
       have as4 := decide_eq_true li
       clear li
       by_cases m9 : lw = n7
       ·rw [if_pos m9] at H
        have bk4 : (lw == n7) = true := beq_iff_eq.mpr m9
        have fh8 : (lw != n7) = false := bne_eq_false_iff_eq.mpr m9
        clear m9
        obtain ⟨jq, H⟩ := pos_ H
        have fh9 := Aside0.mk jq
        clear jq
        obtain ⟨dp1, hy345⟩ : ∃ y_ : List Int, y_ = (p9 ++ [0]) := ⟨_, rfl⟩
        replace H : (spec_l20Book.l1 k2 a1 (rd lc n6) ku lw dp1 (wrap64 (n7 + 1)) ac n8 fq nk) = some (r1, r2, r3) := by first | (rw [hy345]; with_reducible exact H) | (have H2_ := (Option.bind_some _ _).symm.trans H; rw [hy345]; with_reducible exact H2_) | (have H2_ := (Option.bind_some _ _).symm.trans H; with_reducible exact H2_) | with_reducible exact H | (rw [hy345]; exact H) | exact H
        have fi0 := Aside0.mk hy345
        clear hy345
        have H' := Aside0.mk H
        clear H
        go_wp2_with (first | ((with_reducible refine gate_builtin (b := .append) (xs := #[.tmp 54, .tmp 56]) rfl ?_); at_builtin; refine Kd.R_append (Kd.int .i64) w.heap.size rfl (.tmp 54) (.tmp 56) 22 3 (.int .i64 0) 8 rfl Try.underlying22 info3 rfl (by decide) (by omega) u9 p9 0 [.int .i64 0] (fun k_ => some k_ ≠ (.slice fy fq.length fz : Value).ownBlock) (fun _ => False) rfl rfl ?aP (fun _ hk => hk.elim) ?aF ?aO (Below.refl _ _) ?aS ?aL ?_; (case aP => exact rfl); (case aF => exact (fun k_ hk => Kd.fresh' (Kd.R_lt (uf2_ fj)) k_ hk)); (case aO => exact (uf2_ ie)); (case aS => exact (keep_size (w := w) (g := g) (row := none) (f6))); (case aL => have := fh9.out; omega); intro hc6 ts ho hb hg hat; rw [← fi0.out] at ho; replace fj := Aside0.mk (Kd.R_after (ok := (fun _ => True)) (g97_) hg hat); replace fk := Aside0.mk (Kd.S_after (ok := (fun k_ => some k_ ≠ (.slice fy fq.length fz : Value).ownBlock)) (g35_) hg hat); replace dq := Aside0.mk (blk_grown (g := ju) (o := .cells #[.slice none 0 0, .slice none 0 0] 25 (0, 0)) (uf0_ dq) hg (Kd.R_ne ie.out dq.out (by decide))); replace cp := Aside0.mk (blk_grown (g := hf) (o := .cells #[.slice fy fq.length fz, mo] 25 (0, 0)) (uf0_ cp) hg (Kd.R_ne ie.out cp.out (by decide))); replace HB := Aside0.mk (below_weaken (jh) HL.out hb); replace HI0 := Aside0.mk (IsS112.grown (ep) hg (IsS112.own_ne HI0.out ie.out (by decide))); replace HK := Aside0.mk (KeepBut.trans (f6) (KeepBut.of_grown hg g) (Kd.R_base2 ie.out)); have fi1 := Aside0.mk (ho); clear ie; clear ho hb hg hat))
        go_roundg k2
        case measure => have := HK1.out; have := HK2.out; omega
        case rel => exact ⟨(dp1), (wrap64 (n7 + 1)), (n8), (g3_), H', ⟨g20_⟩, ⟨uf2_ fi1⟩, ⟨g71_⟩, ⟨g35_⟩, ⟨uf0_ dq⟩, ⟨uf0_ cp⟩, ⟨ep⟩, ⟨f6⟩, ⟨jh⟩⟩
       ·rw [if_neg m9] at H
        have bk4 : (lw == n7) = false := beq_eq_false_iff_ne.mpr m9
        have fh8 : (lw != n7) = true := bne_iff_ne.mpr m9
        replace H := Option.bind_eq_some_iff.mp H
        obtain ⟨⟨ck7, cv⟩, dp2, H⟩ := H
        try dsimp only at H
        have A38 := Aside0.mk dp2
        clear dp2
        by_cases nc : ck7 > 0
        ·rw [if_pos nc] at H
         have cb2 := decide_eq_true nc
         clear nc
         replace H := Option.bind_eq_some_iff.mp H
         obtain ⟨⟨bq4, ck8⟩, dp3, H⟩ := H
         try dsimp only at H
         have m7 := Aside0.mk dp3
         clear dp3
         obtain ⟨h9, H⟩ := pos_ H
         have fi2 := Aside0.mk h9
         clear h9
         obtain ⟨dp4, hy352⟩ : ∃ y_ : List Int, y_ = (p9 ++ [bq4]) := ⟨_, rfl⟩
         replace H : (spec_l20Book.l1 k2 a1 (rd lc n6) ku lw dp4 (wrap64 (n7 + 1)) ac ck8 fq nk) = some (r1, r2, r3) := by first | (rw [hy352]; with_reducible exact H) | (have H2_ := (Option.bind_some _ _).symm.trans H; rw [hy352]; with_reducible exact H2_) | (have H2_ := (Option.bind_some _ _).symm.trans H; with_reducible exact H2_) | with_reducible exact H | (rw [hy352]; exact H) | exact H
         have fi3 := Aside0.mk hy352
         clear hy352
         have H' := Aside0.mk H
         clear H
         go_wp2_with (first | (go_at_call 70; (with_reducible refine (spec_l20Rd_pick.calls k2 g ac n8 3 ck7 cv w0 _ ?side1 ?side2 A38.out).mono ?_); (case side1 => exact ep); (case side2 => exact jh); rintro e w42 ⟨rfl, hi, hb, hk⟩; replace ie := Aside0.mk (Kd.R_mono (Kd.R_keep (IsS112.apart (show IsS112 w0 _ g ac n8 from ep) (uf2_ ie) (by decide)) hk (fun _ h => h.2)) (fun _ h => h.1)); replace fj := Aside0.mk (Kd.R_mono (Kd.R_keep (IsS112.apart (show IsS112 w0 _ g ac n8 from ep) (uf2_ fj) (by decide)) hk (fun _ h => h.2)) (fun _ h => h.1)); replace fk := Aside0.mk (Kd.S_mono (Kd.S_keep (IsS112.apartS (show IsS112 w0 _ g ac n8 from ep) (uf3_ fk) (by decide)) hk (fun _ h => h.2)) (fun _ h => h.1)); replace dq := kb_ hk dq wh; replace cp := kb_ hk cp ue; replace HK := Aside0.mk (KeepBut.trans (f6) hk (.inl rfl)); replace HB := Aside0.mk (hb); replace HI0 := Aside0.mk (hi); (try clear hb); (try clear hk hi)) | ((with_reducible refine gate_callee (f := 70) rfl ?_); refine goesL_ (some 53) rfl rfl Try.func70 k_ rfl #[.pointer (some ⟨g, 0, none⟩), .int .i64 10] rfl (g2_) ?_; (with_reducible refine (spec_l20Rd_pick.calls k2 g ac cv 10 bq4 ck8 w0 _ ?side1 ?side2 m7.out).mono ?_); (case side1 => exact ep); (case side2 => exact jh); rintro e w43 ⟨rfl, hi, hb, hk⟩; refine ⟨_, rfl, ?_⟩; replace ie := Aside0.mk (Kd.R_mono (Kd.R_keep (IsS112.apart (show IsS112 w0 _ g ac cv from ep) (uf2_ ie) (by decide)) hk (fun _ h => h.2)) (fun _ h => h.1)); replace fj := Aside0.mk (Kd.R_mono (Kd.R_keep (IsS112.apart (show IsS112 w0 _ g ac cv from ep) (uf2_ fj) (by decide)) hk (fun _ h => h.2)) (fun _ h => h.1)); replace fk := Aside0.mk (Kd.S_mono (Kd.S_keep (IsS112.apartS (show IsS112 w0 _ g ac cv from ep) (uf3_ fk) (by decide)) hk (fun _ h => h.2)) (fun _ h => h.1)); replace dq := kb_ hk dq wh; replace cp := kb_ hk cp ue; replace HK := Aside0.mk (KeepBut.trans (f6) hk (.inl rfl)); replace HB := Aside0.mk (hb); replace HI0 := Aside0.mk (hi); (try clear hb); (try clear hk hi)) | ((with_reducible refine gate_builtin (b := .append) (xs := #[.tmp 54, .tmp 56]) rfl ?_); at_builtin; refine Kd.R_append (Kd.int .i64) w.heap.size rfl (.tmp 54) (.tmp 56) 22 3 (.int .i64 0) 8 rfl Try.underlying22 info3 rfl (by decide) (by omega) u9 p9 bq4 [.int .i64 bq4] (fun k_ => some k_ ≠ (.slice fy fq.length fz : Value).ownBlock) (fun _ => False) rfl rfl ?aP (fun _ hk => hk.elim) ?aF ?aO (Below.refl _ _) ?aS ?aL ?_; (case aP => exact rfl); (case aF => exact (fun k_ hk => Kd.fresh' (Kd.R_lt (uf2_ fj)) k_ hk)); (case aO => exact (uf2_ ie)); (case aS => exact (keep_size (w := w) (g := g) (row := none) (f6))); (case aL => have := fi2.out; omega); intro hc7 w44 ho hb hg hat; rw [← fi3.out] at ho; replace fj := Aside0.mk (Kd.R_after (ok := (fun _ => True)) (g97_) hg hat); replace fk := Aside0.mk (Kd.S_after (ok := (fun k_ => some k_ ≠ (.slice fy fq.length fz : Value).ownBlock)) (g35_) hg hat); replace dq := Aside0.mk (blk_grown (g := ju) (o := .cells #[.slice none 0 0, .slice none 0 0] 25 (0, 0)) (uf0_ dq) hg (Kd.R_ne ie.out dq.out (by decide))); replace cp := Aside0.mk (blk_grown (g := hf) (o := .cells #[.slice fy fq.length fz, mo] 25 (0, 0)) (uf0_ cp) hg (Kd.R_ne ie.out cp.out (by decide))); replace HB := Aside0.mk (below_weaken (jh) HL.out hb); replace HI0 := Aside0.mk (IsS112.grown (ep) hg (IsS112.own_ne HI0.out ie.out (by decide))); replace HK := Aside0.mk (KeepBut.trans (f6) (KeepBut.of_grown hg g) (Kd.R_base2 ie.out)); have fi4 := Aside0.mk (ho); clear ie; clear ho hb hg hat))
         go_roundg k2
         case measure => have := HK1.out; have := HK2.out; omega
         case rel => exact ⟨(dp4), (wrap64 (n7 + 1)), (ck8), (g3_), H', ⟨g20_⟩, ⟨uf2_ fi4⟩, ⟨g71_⟩, ⟨g35_⟩, ⟨uf0_ dq⟩, ⟨uf0_ cp⟩, ⟨ep⟩, ⟨f6⟩, ⟨jh⟩⟩
        ·rw [if_neg nc] at H
         have cb2 := decide_eq_false nc
         clear nc
         obtain ⟨c45, H⟩ := pos_ H
         have cb7 := Aside0.mk c45
         clear c45
         obtain ⟨dp5, hy355⟩ : ∃ y_ : List Int, y_ = (p9 ++ [0]) := ⟨_, rfl⟩
         replace H : (spec_l20Book.l1 k2 a1 (rd lc n6) ku lw dp5 (wrap64 (n7 + 1)) ac cv fq nk) = some (r1, r2, r3) := by first | (rw [hy355]; with_reducible exact H) | (have H2_ := (Option.bind_some _ _).symm.trans H; rw [hy355]; with_reducible exact H2_) | (have H2_ := (Option.bind_some _ _).symm.trans H; with_reducible exact H2_) | with_reducible exact H | (rw [hy355]; exact H) | exact H
         have fi5 := Aside0.mk hy355
         clear hy355
         have H' := Aside0.mk H
         clear H
         go_wp2_with (first | (go_at_call 70; (with_reducible refine (spec_l20Rd_pick.calls k2 g ac n8 3 ck7 cv w0 _ ?side1 ?side2 A38.out).mono ?_); (case side1 => exact ep); (case side2 => exact jh); rintro e kr ⟨rfl, hi, hb, hk⟩; replace ie := Aside0.mk (Kd.R_mono (Kd.R_keep (IsS112.apart (show IsS112 w0 _ g ac n8 from ep) (uf2_ ie) (by decide)) hk (fun _ h => h.2)) (fun _ h => h.1)); replace fj := Aside0.mk (Kd.R_mono (Kd.R_keep (IsS112.apart (show IsS112 w0 _ g ac n8 from ep) (uf2_ fj) (by decide)) hk (fun _ h => h.2)) (fun _ h => h.1)); replace fk := Aside0.mk (Kd.S_mono (Kd.S_keep (IsS112.apartS (show IsS112 w0 _ g ac n8 from ep) (uf3_ fk) (by decide)) hk (fun _ h => h.2)) (fun _ h => h.1)); replace dq := kb_ hk dq wh; replace cp := kb_ hk cp ue; replace HK := Aside0.mk (KeepBut.trans (f6) hk (.inl rfl)); replace HB := Aside0.mk (hb); replace HI0 := Aside0.mk (hi); (try clear hb); (try clear hk hi)) | ((with_reducible refine gate_builtin (b := .append) (xs := #[.tmp 54, .tmp 56]) rfl ?_); at_builtin; refine Kd.R_append (Kd.int .i64) w.heap.size rfl (.tmp 54) (.tmp 56) 22 3 (.int .i64 0) 8 rfl Try.underlying22 info3 rfl (by decide) (by omega) u9 p9 0 [.int .i64 0] (fun k_ => some k_ ≠ (.slice fy fq.length fz : Value).ownBlock) (fun _ => False) rfl rfl ?aP (fun _ hk => hk.elim) ?aF ?aO (Below.refl _ _) ?aS ?aL ?_; (case aP => exact rfl); (case aF => exact (fun k_ hk => Kd.fresh' (Kd.R_lt (uf2_ fj)) k_ hk)); (case aO => exact (uf2_ ie)); (case aS => exact (keep_size (w := w) (g := g) (row := none) (f6))); (case aL => have := cb7.out; omega); intro hc8 w47 ho hb hg hat; rw [← fi5.out] at ho; replace fj := Aside0.mk (Kd.R_after (ok := (fun _ => True)) (g97_) hg hat); replace fk := Aside0.mk (Kd.S_after (ok := (fun k_ => some k_ ≠ (.slice fy fq.length fz : Value).ownBlock)) (g35_) hg hat); replace dq := Aside0.mk (blk_grown (g := ju) (o := .cells #[.slice none 0 0, .slice none 0 0] 25 (0, 0)) (uf0_ dq) hg (Kd.R_ne ie.out dq.out (by decide))); replace cp := Aside0.mk (blk_grown (g := hf) (o := .cells #[.slice fy fq.length fz, mo] 25 (0, 0)) (uf0_ cp) hg (Kd.R_ne ie.out cp.out (by decide))); replace HB := Aside0.mk (below_weaken (jh) HL.out hb); replace HI0 := Aside0.mk (IsS112.grown (ep) hg (IsS112.own_ne HI0.out ie.out (by decide))); replace HK := Aside0.mk (KeepBut.trans (f6) (KeepBut.of_grown hg g) (Kd.R_base2 ie.out)); have fi6 := Aside0.mk (ho); clear ie; clear ho hb hg hat))
         go_roundg k2
         case measure => have := HK1.out; have := HK2.out; omega
         case rel => exact ⟨(dp5), (wrap64 (n7 + 1)), (cv), (g3_), H', ⟨g20_⟩, ⟨uf2_ fi6⟩, ⟨g71_⟩, ⟨g35_⟩, ⟨uf0_ dq⟩, ⟨uf0_ cp⟩, ⟨ep⟩, ⟨f6⟩, ⟨jh⟩⟩
      ·rw [if_neg li] at H
       have as4 := decide_eq_false li
       clear li
       obtain ⟨c48, H⟩ := pos_ H
       have fi7 := Aside0.mk c48
       clear c48
       obtain ⟨az3, hy342⟩ : ∃ y_ : List (List Int), y_ = (nk ++ [p9]) := ⟨_, rfl⟩
       replace H : (spec_l20Book.l0 k2 a1 (rd lc n6) ku (wrap64 (lw + 1)) ac n8 fq az3) = some (r1, r2, r3) := by first | (rw [hy342]; with_reducible exact H) | (have H2_ := (Option.bind_some _ _).symm.trans H; rw [hy342]; with_reducible exact H2_) | (have H2_ := (Option.bind_some _ _).symm.trans H; with_reducible exact H2_) | with_reducible exact H | (rw [hy342]; exact H) | exact H
       have fi8 := Aside0.mk hy342
       clear hy342
       have H' := Aside0.mk H
       clear H
       have er9 := bq2.out
       have es0 := zv.out
       have es1 := ue.out
       have es2 := bq1.out
       obtain ⟨ai9, aj0, aj1, aj2⟩ := blk2_ cp
       obtain ⟨dp6, dp7, fi9⟩ := Kd.R_slice ie.out
       subst fi9
       go_wp2_with (first | ((with_reducible refine gate_builtin (b := .append) (xs := #[.tmp 59, .tmp 61]) rfl ?_); at_builtin; refine Kd.S_append (Kd.slice 3 (Kd.int .i64)) w.heap.size rfl (.tmp 59) (.tmp 61) 23 22 (.slice none 0 0) 24 rfl Try.underlying23 info22 rfl (by decide) (by omega) mo nk p9 [.slice dp6 p9.length dp7] (fun k_ => some k_ ≠ (.slice fy fq.length fz : Value).ownBlock) (fun k_ => some k_ = (.slice dp6 p9.length dp7 : Value).ownBlock) rfl rfl ?aP (fun k_ hk_ => ((Kd.R_mono (ok' := fun k_ => ((fun k_ => some k_ ≠ (.slice fy fq.length fz : Value).ownBlock)) k_ ∧ some k_ ≠ (mo : Value).ownBlock) (Kd.R_apart' (ie.out) (Kd.S_typed fk.out) (by decide)) (fun k_ hk => ⟨hk.1, hk.2⟩))).1 k_ hk_.symm) ?aF ?aO (Below.refl _ _) ?aS ?aL ?_; (case aP => exact Kd.M_row (Kd.R_mono (Kd.R_tight rfl (Kd.R_mono (ok' := fun k_ => ((fun k_ => some k_ ≠ (.slice fy fq.length fz : Value).ownBlock)) k_ ∧ some k_ ≠ (mo : Value).ownBlock) (Kd.R_apart' (ie.out) (Kd.S_typed fk.out) (by decide)) (fun k_ hk => ⟨hk.1, hk.2⟩))) (fun _ h_ => h_))); (case aF => exact (fun k_ hk => Kd.fresh' (Kd.R_lt (uf2_ fj)) k_ hk)); (case aO => exact (by (with_reducible repeat (first | apply Kd.S_alloc | apply Kd.S_drewN | apply Kd.S_drew)); exact Kd.S_mono fk.out (fun k_ hk => ⟨hk.2, fun e_ => hk.1 e_⟩))); (case aS => exact (keep_size (w := w) (g := g) (row := none) (f6))); (case aL => have := fi7.out; omega); intro dl8 w52 ho hb hg hat; rw [← fi8.out] at ho; replace fj := Aside0.mk (Kd.R_over' (uf2_ fj) (Kd.S_typed (uf3_ fk)) (by decide) hg); replace dq := Aside0.mk (blk_grown (g := ju) (o := .cells #[.slice none 0 0, .slice none 0 0] 25 (0, 0)) (uf0_ dq) hg (Kd.S_ne fk.out dq.out (by decide))); replace cp := Aside0.mk (blk_grown (g := hf) (o := .cells #[.slice fy fq.length fz, mo] 25 (0, 0)) (uf0_ cp) hg (Kd.S_ne fk.out cp.out (by decide))); replace HB := Aside0.mk (below_weaken (jh) HL.out hb); replace HI0 := Aside0.mk (IsS112.grown (ep) hg (IsS112.own_neS HI0.out fk.out (by decide))); replace HK := Aside0.mk (KeepBut.trans (f6) (KeepBut.of_grown hg g) (Kd.S_base2 fk.out)); have ni := Aside0.mk (ho); clear fk ie; clear ho hb hg hat; obtain ⟨ck9, cl0, fj0⟩ := Kd.S_slice ni.out; subst fj0; obtain ⟨hc9, hd0, hd1, hd2⟩ := blk2_ cp))
       go_roundg k2
       case measure => have := HK1.out; have := HK2.out; omega
       case rel => exact ⟨(wrap64 (lw + 1)), (n8), (fq), (az3), (.slice fy fq.length fz), (.slice ck9 az3.length cl0), (g3_), H', ⟨g20_⟩, ⟨by (with_reducible repeat (first | apply Kd.R_alloc | apply Kd.R_drewN | apply Kd.R_drew)); exact Kd.R_mono (Kd.R_far (p := ⟨hf, 1, none⟩) (Kd.R_types fj.out cp.out (by decide)) (fun _ hk => hk.2) (.slice ck9 az3.length cl0)) (fun _ hk => trivial)⟩, ⟨by (with_reducible repeat (first | apply Kd.S_alloc | apply Kd.S_drewN | apply Kd.S_drew)); exact Kd.S_mono (Kd.S_far (p := ⟨hf, 1, none⟩) (Kd.S_types ni.out cp.out (by decide)) (fun _ hk => hk.2) (.slice ck9 az3.length cl0)) (fun _ hk => hk.1)⟩, ⟨by (with_reducible repeat (first | refine blk_drewN ?_ _ | refine blk_drew ?_ | refine blk_alloc ?_ _)); refine blk_far ?_ zv.out _; exact uf0_ dq⟩, ⟨by (with_reducible repeat (first | refine blk_drewN ?_ _ | refine blk_drew ?_ | refine blk_alloc ?_ _)); refine blk_put (cs := #[.slice fy fq.length fz, mo]) ?_ 1 _ rfl; exact uf0_ cp⟩, ⟨ep⟩, ⟨f6⟩, ⟨jh⟩⟩
   ·rw [if_neg fa] at H
    have ti := decide_eq_false fa
    clear fa
    replace H := Option.bind_eq_some_iff.mp H
    obtain ⟨⟨fj1, fj2⟩, dp8, H⟩ := H
    try dsimp only at H
    have A56 := Aside0.mk dp8
    clear dp8
    by_cases qa : fj1 = true
    ·subst qa
     replace H := ifp_ H
     exact absurd H (by simp)
    ·replace qa := Bool.eq_false_iff.mpr qa
     subst qa
     replace H := ifn_ H
     simp only [Option.some.injEq, Prod.mk.injEq] at H
     obtain ⟨rfl, rfl, rfl⟩ := H
     go_wp2_with (first | ((with_reducible refine gate_callee (f := 106) rfl ?_); refine goesL_ (some 66) rfl rfl Try.func106 k_ rfl #[.pointer (some ⟨g, 0, none⟩), .int .i64 a1] rfl (g2_) ?_; (with_reducible refine (spec_l20Rd_odd.calls k1 g ac dp a1 false fj2 w0 _ ?side1 ?side2 A56.out).mono ?_); (case side1 => exact ep); (case side2 => exact jh); rintro e pq ⟨rfl, hi, hb, hk⟩; refine ⟨_, rfl, ?_⟩; replace fj := Aside0.mk (Kd.R_mono (Kd.R_keep (IsS112.apart (show IsS112 w0 _ g ac dp from ep) (uf2_ fj) (by decide)) hk (fun _ h => h.2)) (fun _ h => h.1)); replace fk := Aside0.mk (Kd.S_mono (Kd.S_keep (IsS112.apartS (show IsS112 w0 _ g ac dp from ep) (uf3_ fk) (by decide)) hk (fun _ h => h.2)) (fun _ h => h.1)); replace dq := kb_ hk dq wh; replace cp := kb_ hk cp ue; replace HK := Aside0.mk (KeepBut.trans (f6) hk (.inl rfl)); replace HB := Aside0.mk (hb); replace HI0 := Aside0.mk (hi); (try clear hb); (try clear hk hi); have fb7 := bq2.out; have fb8 := zv.out; have hd3 := ue.out; have hd4 := bq1.out; obtain ⟨hd5, hd6, hd7, hd8⟩ := blk2_ cp; obtain ⟨gx, gy, ay5⟩ := Kd.R_slice fj.out; subst ay5; have hd9 := wh.out; have he0 := do0.out; obtain ⟨he1, he2, he3, he4⟩ := blk2_ dq; obtain ⟨qb, o2, cl1⟩ := Kd.S_slice fk.out; subst cl1))
     refine bodyPost_ret (results_cell_row rfl _ _ ju 25 #[.slice gx sr.length gy, .slice qb nk.length o2] (0, 0) _ rfl (by (with_reducible repeat (first | refine blk_drewN ?_ _ | refine blk_drew ?_ | refine blk_alloc ?_ _)); refine blk_put (cs := #[.slice gx sr.length gy, .slice none 0 0]) ?_ 1 _ rfl; refine blk_put (cs := #[.slice none 0 0, .slice none 0 0]) ?_ 0 _ rfl; exact uf0_ dq) Try.underlying25 rfl (g1_)) rfl ?_
     exact ⟨_, _, g4_, by (with_reducible repeat (first | apply Kd.R_alloc | apply Kd.R_drewN | apply Kd.R_drew)); exact Kd.R_mono (Kd.R_far (p := ⟨ju, 1, none⟩) (Kd.R_far (p := ⟨ju, 0, none⟩) (Kd.R_types fj.out dq.out (by decide)) (fun _ hk => hk.2) (.slice gx sr.length gy)) (fun _ hk => hk.2) (.slice qb nk.length o2)) (fun _ hk => trivial), by (with_reducible repeat (first | apply Kd.S_alloc | apply Kd.S_drewN | apply Kd.S_drew)); exact Kd.S_mono (Kd.S_far (p := ⟨ju, 1, none⟩) (Kd.S_far (p := ⟨ju, 0, none⟩) (Kd.S_types fk.out dq.out (by decide)) (fun _ hk => hk.2) (.slice gx sr.length gy)) (fun _ hk => hk.2) (.slice qb nk.length o2)) (fun _ hk => hk.1), ep, jh, f6⟩
end Go.Proofs.Ytfooakkhkehpiaa.PU
