/- FnNetted: for every input the law holds. No condition. -/
import Derived.Test.YtfooakkhkehpiaaZFnNetted1
import Derived.Test.YtfooakkhkehpiaaZFnNetted2
namespace Go.Proofs.Ytfooakkhkehpiaa.PU
open Go.RowKit Go.Proofs.YtfooakkhkehpiaaW.PrintWords Go.Proofs.YtfooakkhkehpiaaW.PrintLast Go.Proofs.YtfooakkhkehpiaaW.PrintMore Go.Proofs.Ytfooakkhkehpiaa.Qd
attribute [local go_sem] max2_int min2_int max_two min_two max_three min_three max_four min_four
set_option linter.unusedVariables false
set_option linter.unusedSimpArgs false
def spec_l2Copy.l0 : Nat → Int → List Int → List (List Int) → List Int → List (List Int) → Option (List Int × (List (List Int)))
 | 0, _, _, _, _, _ => none
 | k + 1, x4, x437000, x437001, x445000, x445001 => if x4 < (x437001.length : Int) then ((some (([] : List Int) : List Int)).bind fun y445 => (if 0 ≤ x4 then (if y445.length + (rd_L1 x437001 x4).length < 17592186044416 then (if x445001.length < 5864062014805 then (spec_l2Copy.l0 k (wrap64 (x4 + 1)) x437000 x437001 x445000 (x445001 ++ [(y445 ++ (rd_L1 x437001 x4))])) else (none)) else (none)) else (none))) else (some (x445000, x445001))
def spec_l2Copy.f (k : Nat) (l0_0 : List Int) (l0_1 : List (List Int)) : Option (List Int × (List (List Int))) := (some (([] : List Int) : List Int)).bind fun y438 => (if y438.length + l0_0.length < 17592186044416 then (spec_l2Copy.l0 k 0 l0_0 l0_1 (y438 ++ l0_0) ([] : List (List Int))) else (none))
theorem spec_l2Copy.mq {p : Prop} (h : p := by
 repeat' first
 | (with_reducible exact ih0 _ _ _ _ _)
 | (with_reducible exact LeO.refl _)
 | (with_reducible exact LeO.none _)
 | (with_reducible refine LeO.ite ?_ ?_)
 | (with_reducible refine LeO.bind ?_ (fun _ => ?_))
 | exact ih0 _ _ _ _ _
 | exact LeO.none _
 | refine LeO.ite ?_ ?_
 | refine LeO.bind ?_ (fun _ => ?_)) : p := h
theorem spec_l2Copy.mono_l : ∀ k, (∀ y0 y1 y2 y3 y4, LeO (spec_l2Copy.l0 k y0 y1 y2 y3 y4) (spec_l2Copy.l0 (k + 1) y0 y1 y2 y3 y4))
 | 0 => fun _ _ _ _ _ r h => by simp [spec_l2Copy.l0] at h
 | k + 1 => by
  have ih0 := spec_l2Copy.mono_l k
  ·intro y0 y1 y2 y3 y4
   unfold spec_l2Copy.l0
   exact spec_l2Copy.mq
theorem spec_l2Copy.mono : ∀ a0 a1 k, LeO (spec_l2Copy.f k a0 a1) (spec_l2Copy.f (k + 1) a0 a1) := by
 intro a0 a1 k
 have ih0 := spec_l2Copy.mono_l k
 unfold spec_l2Copy.f
 exact spec_l2Copy.mq
def spec_l2Copy.T5 : Bool × List (List Nat × List Nat) := (true, [([], []), ([0], [0]), ([], []), ([], []), ([3], [3]), ([], []), ([4, 5], [4, 5]), ([6], [6]), ([2, 7], [2, 7]), ([8], [8]), ([1, 9, 8], [1, 9]), ([0, 1, 2, 3, 4, 5, 6, 7, 8, 9, 10], []), ([11, 10, 10, 0, 1, 2, 3, 4, 5, 6, 7, 8, 9, 10], [10, 11])])
def spec_l2Copy.B5 : List Nat := [0, 1, 0, 0, 8, 0, 56, 120, 252, 508, 1023, 2047, 4095]
theorem spec_l2Copy.tab5 : rtab .any (opsOf Try.f80 5) = spec_l2Copy.T5 := by kernel_rfl
theorem spec_l2Copy.bits5 : waitsOk spec_l2Copy.T5.2 spec_l2Copy.B5 = true := by kernel_rfl
theorem qz7_ {p : Prop} (h : p := by repeat (first | (with_reducible first | exact HB.out | apply below_alloc | apply pw_below_drewN | apply below_drew1 | refine below_set ?_ GE436.out | refine below_set ?_ GE437.out | refine below_set ?_ GE444.out) | exact HB.out)) : p := h
set_option maxHeartbeats 8000000 in
set_option maxRecDepth 100000 in
theorem spec_l2Copy.calls (k : Nat) (A0_0 : Option Addr) (c0_0 : Nat) (l0_0 : List Int) (A0_1 : Option Addr) (c0_1 : Nat) (l0_1 : List (List Int)) (r1 : List Int) (r2 : List (List Int)) (w : World) (hr0_0 : Kd.C (Kd.int .i64) w A0_0 l0_0.length l0_0) (hc0_0 : l0_0.length ≤ c0_0) (hr0_1 : Kd.C (Kd.slice 3 (Kd.int .i64)) w A0_1 l0_1.length l0_1) (hc0_1 : l0_1.length ≤ c0_1) (h : spec_l2Copy.f k l0_0 l0_1 = some (r1, r2)) :
  Calls Try.prog 80 #[.agg #[.slice A0_0 l0_0.length c0_0, .slice A0_1 l0_1.length c0_1]] w fun e w' => ∃ v0_ v1_ : Value, e = .returned (.agg #[v0_, v1_]) ∧ Kd.R (Kd.int .i64) 3 w' w.heap.size (fun _ => True) v0_ r1 ∧ Kd.S (Kd.slice 3 (Kd.int .i64)) 22 w' w.heap.size (fun k_ => some k_ ≠ (v0_ : Value).ownBlock) v1_ r2 ∧ Below w.heap.size w w' := by
 have hu25 := Try.underlying25
 have HR0_0 := Aside0.mk hr0_0
 have HC0_0 := Aside0.mk hc0_0
 clear hr0_0 hc0_0
 have HR0_1 := Aside0.mk hr0_1
 have HC0_1 := Aside0.mk hc0_1
 clear hr0_1 hc0_1
 have HB := Aside0.mk (Below.refl w.heap.size w)
 have H : ((some (([] : List Int) : List Int)).bind fun y438 => (if y438.length + l0_0.length < 17592186044416 then (spec_l2Copy.l0 k 0 l0_0 l0_1 (y438 ++ l0_0) ([] : List (List Int))) else (none))) = some (r1, r2) := h
 clear h
 obtain ⟨y438, hy438⟩ : ∃ y_ : List Int, y_ = (([] : List Int)) := ⟨_, rfl⟩
 replace H : (if y438.length + l0_0.length < 17592186044416 then (spec_l2Copy.l0 k 0 l0_0 l0_1 (y438 ++ l0_0) ([] : List (List Int))) else (none)) = some (r1, r2) := by first | (rw [hy438]; with_reducible exact H) | (have H2_ := (Option.bind_some _ _).symm.trans H; rw [hy438]; with_reducible exact H2_) | (have H2_ := (Option.bind_some _ _).symm.trans H; with_reducible exact H2_) | with_reducible exact H | (rw [hy438]; exact H) | exact H
 have Ny438 := Aside0.mk hy438
 clear hy438
 obtain ⟨c2, H⟩ := pos_ H
 have LMc2 := Aside0.mk c2
 clear c2
 obtain ⟨y441, hy441⟩ : ∃ y_ : List Int, y_ = (y438 ++ l0_0) := ⟨_, rfl⟩
 replace H : (spec_l2Copy.l0 k 0 l0_0 l0_1 y441 ([] : List (List Int))) = some (r1, r2) := by first | (rw [hy441]; with_reducible exact H) | (have H2_ := (Option.bind_some _ _).symm.trans H; rw [hy441]; with_reducible exact H2_) | (have H2_ := (Option.bind_some _ _).symm.trans H; with_reducible exact H2_) | with_reducible exact H | (rw [hy441]; exact H) | exact H
 have Ny441 := Aside0.mk hy441
 clear hy441
 have H' := Aside0.mk H
 clear H
 go_enter Try.func80, Try.ntmps80
 go_wp2_with (first | ((with_reducible refine gate_dst (N := 1) rfl ?_); refine bx_ (N := 1) #[.slice A0_0 l0_0.length c0_0, .slice A0_1 l0_1.length c0_1] 25 ?_; intro gb436 hg w3 hbox hb; have BK436 := Aside0.mk (hbox); have GW436 := Aside0.mk ((g30_ : w.heap.size ≤ gb436)); have GE436 := Aside0.mk ((g30_ : w.heap.size ≤ gb436)); replace HB := Aside0.mk (below_step (qz7_) hb); clear hb hbox hg) | ((with_reducible refine gate_dst (N := 2) rfl ?_); refine bx_ (N := 2) #[.slice none 0 0, .slice none 0 0] 25 ?_; intro gb437 hg w4 hbox hb; have BK437 := Aside0.mk (hbox); have GW437 := Aside0.mk ((g30_ : w.heap.size ≤ gb437)); have GE437 := Aside0.mk ((g30_ : w.heap.size ≤ gb437)); replace HB := Aside0.mk (below_step (qz7_) hb); have NB436_437 := Aside0.mk ((by rw [hg]; exact Nat.ne_of_lt (blk_lt (g := gb436) (o := .cells #[.slice A0_0 l0_0.length c0_0, .slice A0_1 l0_1.length c0_1] 25 (0, 0)) (uf0_ BK436)) : gb436 ≠ gb437)); have NB437_436 := Aside0.mk ((by rw [hg]; exact Nat.ne_of_gt (blk_lt (g := gb436) (o := .cells #[.slice A0_0 l0_0.length c0_0, .slice A0_1 l0_1.length c0_1] 25 (0, 0)) (uf0_ BK436)) : gb437 ≠ gb436)); replace BK436 := bb_ BK436 hb; clear hb hbox hg) | ((with_reducible refine gate_dst (N := 5) rfl ?_); refine Kd.R_lit (Kd.int .i64) _ 3 ?hg (N := 5) ?hd (xs := ([] : List Int)) (inner := []) (ok := fun _ => True) (okp := fun _ => True) ?hr ?hp (fun _ hk => hk) trivial (Below.refl _ _) (Nat.le_refl _) (by simp) ?_; (case hd => rfl); (case hg => rfl); (case hr => first | (go_simp; done) | (go_simp; rfl)); (case hp => exact (Reps.none _ _)); intro v439 w5 ho6 hb hg_ hnew_; clear hg_ hnew_; (first | rw [← Ny438.out] at ho6 | (simp only [Int.reduceToNat] at ho6; rw [← Ny438.out] at ho6)); have HO440 := Aside0.mk (Kd.R_lower ho6 (below_size (qz7_))); replace BK436 := bb_ BK436 hb; replace BK437 := bb_ BK437 hb; replace HB := Aside0.mk (below_step (qz7_) hb); clear hb ho6; have hnb7 := NB436_437.out; have hnc7 := NB437_436.out; obtain ⟨hcz8_0, hcz8_1, hfz8_0, hfz8_1⟩ := blk2_ BK436) | ((with_reducible refine gate_builtin (b := .append) (xs := #[.tmp 5, .tmp 7]) rfl ?_); at_builtin; refine Kd.R_append_rows (Kd.int .i64) (w0 := w) w.heap.size rfl (.tmp 5) (.tmp 7) 22 3 (.int .i64 0) 8 rfl Try.underlying22 info3 rfl (by decide) (by omega) v439 y438 l0_0 _ _ _ (fun _ => True) (fun _ => False) rfl rfl ?aO ?aR (fun _ _ h => h) (fun _ h => h.elim) ?aF ?aB ?aS ?aL ?_; (case aR => exact uf3_ HR0_0); (case aB => exact (qz7_)); (case aF => exact (fun _ _ => trivial)); (case aO => exact (uf1_ HO440)); (case aS => exact (below_size (qz7_))); (case aL => have := LMc2.out; omega); intro v442 w9 ho hb hg hat; rw [← Ny441.out] at ho; replace BK436 := Aside0.mk (blk_grown (g := gb436) (o := .cells #[.slice A0_0 l0_0.length c0_0, .slice A0_1 l0_1.length c0_1] 25 (0, 0)) (uf0_ BK436) hg (Kd.R_ne HO440.out BK436.out (by decide))); replace BK437 := Aside0.mk (blk_grown (g := gb437) (o := .cells #[.slice none 0 0, .slice none 0 0] 25 (0, 0)) (uf0_ BK437) hg (Kd.R_ne HO440.out BK437.out (by decide))); replace HB := Aside0.mk (hb); have HO443 := Aside0.mk (ho); clear HO440; clear ho hb hg hat; obtain ⟨Ao10, co10, eo10⟩ := Kd.R_slice HO443.out; subst eo10) | ((with_reducible refine gate_dst (N := 3) rfl ?_); refine bx_ (N := 3) #[.slice none 0 0, .slice none 0 0] 25 ?_; intro gb444 hg w11 hbox hb; replace HO443 := Aside0.mk (Kd.R_below (uf1_ HO443) hb); have BK444 := Aside0.mk (hbox); have GW444 := Aside0.mk ((g30_ : w.heap.size ≤ gb444)); have GE444 := Aside0.mk ((g30_ : w.heap.size ≤ gb444)); replace HB := Aside0.mk (below_step (qz7_) hb); have NB436_444 := Aside0.mk ((by rw [hg]; exact Nat.ne_of_lt (blk_lt (g := gb436) (o := .cells #[.slice A0_0 l0_0.length c0_0, .slice A0_1 l0_1.length c0_1] 25 (0, 0)) (uf0_ BK436)) : gb436 ≠ gb444)); have NB444_436 := Aside0.mk ((by rw [hg]; exact Nat.ne_of_gt (blk_lt (g := gb436) (o := .cells #[.slice A0_0 l0_0.length c0_0, .slice A0_1 l0_1.length c0_1] 25 (0, 0)) (uf0_ BK436)) : gb444 ≠ gb436)); replace BK436 := bb_ BK436 hb; have NB437_444 := Aside0.mk ((by rw [hg]; exact Nat.ne_of_lt (blk_lt (g := gb437) (o := .cells #[.slice none 0 0, .slice none 0 0] 25 (0, 0)) (uf0_ BK437)) : gb437 ≠ gb444)); have NB444_437 := Aside0.mk ((by rw [hg]; exact Nat.ne_of_gt (blk_lt (g := gb437) (o := .cells #[.slice none 0 0, .slice none 0 0] 25 (0, 0)) (uf0_ BK437)) : gb444 ≠ gb437)); replace BK437 := bb_ BK437 hb; clear hb hbox hg; have hnb12 := NB444_436.out; have hnc12 := NB436_444.out; have hnb13 := NB444_437.out; have hnc13 := NB437_444.out; obtain ⟨hcz14_0, hcz14_1, hfz14_0, hfz14_1⟩ := blk2_ BK444))
 go_loopg [4] k (fun kq v4 w' => ∃ (x4_1 : Int) (x445001_1 : List (List Int)) (u445001 : Value), v4 = .int .i64 x4_1 ∧ Aside0 (spec_l2Copy.l0 kq x4_1 l0_0 l0_1 y441 x445001_1 = some (r1, r2)) ∧ Aside0 (kq ≤ k) ∧ Aside0 (Kd.R (Kd.int .i64) 3 w' w.heap.size (fun _ => True) (.slice Ao10 y441.length co10) y441) ∧ Aside0 (Kd.S (Kd.slice 3 (Kd.int .i64)) 22 w' w.heap.size (fun k_ => some k_ ≠ ((.slice Ao10 y441.length co10) : Value).ownBlock) u445001 x445001_1) ∧ Aside0 (w'.heap[gb436]? = some (.cells #[(.slice A0_0 l0_0.length c0_0), (.slice A0_1 l0_1.length c0_1)] 25 (0, 0))) ∧ Aside0 (w'.heap[gb437]? = some (.cells #[(.slice none 0 0), (.slice none 0 0)] 25 (0, 0))) ∧ Aside0 (w'.heap[gb444]? = some (.cells #[(.slice Ao10 y441.length co10), u445001] 25 (0, 0))) ∧ Aside0 (Below w.heap.size w w'))
 case atStart => exact ⟨(0), (([] : List (List Int))), (.slice none 0 0), (g3_), H', ⟨Nat.le_refl _⟩, ⟨by (with_reducible repeat (first | apply Kd.R_alloc | apply Kd.R_drewN | apply Kd.R_drew)); exact Kd.R_mono (Kd.R_far (p := ⟨gb444, 1, none⟩) (Kd.R_far (p := ⟨gb444, 0, none⟩) (Kd.R_types HO443.out BK444.out (by decide)) (fun _ hk => hk.2) (.slice Ao10 y441.length co10)) (fun _ hk => hk.2) (.slice none 0 0)) (fun _ hk => trivial)⟩, ⟨g17_⟩, ⟨by (with_reducible repeat (first | refine blk_drewN ?_ _ | refine blk_drew ?_ | refine blk_alloc ?_ _)); refine blk_far ?_ NB436_444.out _; (with_reducible repeat (first | refine blk_drewN ?_ _ | refine blk_drew ?_ | refine blk_alloc ?_ _)); refine blk_far ?_ NB436_444.out _; (with_reducible repeat (first | refine blk_drewN ?_ _ | refine blk_drew ?_ | refine blk_alloc ?_ _)); exact BK436.out⟩, ⟨by (with_reducible repeat (first | refine blk_drewN ?_ _ | refine blk_drew ?_ | refine blk_alloc ?_ _)); refine blk_far ?_ NB437_444.out _; (with_reducible repeat (first | refine blk_drewN ?_ _ | refine blk_drew ?_ | refine blk_alloc ?_ _)); refine blk_far ?_ NB437_444.out _; (with_reducible repeat (first | refine blk_drewN ?_ _ | refine blk_drew ?_ | refine blk_alloc ?_ _)); exact BK437.out⟩, ⟨by (with_reducible repeat (first | refine blk_drewN ?_ _ | refine blk_drew ?_ | refine blk_alloc ?_ _)); refine blk_put (cs := #[.slice Ao10 y441.length co10, .slice none 0 0]) ?_ 1 _ rfl; (with_reducible repeat (first | refine blk_drewN ?_ _ | refine blk_drew ?_ | refine blk_alloc ?_ _)); refine blk_put (cs := #[.slice none 0 0, .slice none 0 0]) ?_ 0 _ rfl; (with_reducible repeat (first | refine blk_drewN ?_ _ | refine blk_drew ?_ | refine blk_alloc ?_ _)); exact BK444.out⟩, ⟨qz7_⟩⟩
 case round =>
  clear H'
  try clear c1
  try clear c2
  try clear p2
  try clear c7
  try clear c8
  try clear c12
  try clear c13
  try clear hcz14_0
  try clear hcz14_1
  try clear hcz8_0
  try clear hcz8_1
  try clear hfz14_0
  try clear hfz14_1
  try clear hfz8_0
  try clear hfz8_1
  obtain ⟨x4_1, x445001_1, u445001, rfl, HA, HK1, HO_445000, HO_445001, BK436, BK437, BK444, HB⟩ := hrel
  cases gk with
  | zero => exact absurd HA.out (by simp [spec_l2Copy.l0])
  | succ k1 =>
   have H := HA.out
   clear HA
   simp only [spec_l2Copy.l0] at H
   by_cases c15 : x4_1 < (l0_1.length : Int)
   ·rw [if_pos c15] at H
    have c15b0 := decide_eq_true c15
    clear c15
    obtain ⟨y445, hy445⟩ : ∃ y_ : List Int, y_ = (([] : List Int)) := ⟨_, rfl⟩
    replace H : (if 0 ≤ x4_1 then (if y445.length + (rd_L1 l0_1 x4_1).length < 17592186044416 then (if x445001_1.length < 5864062014805 then (spec_l2Copy.l0 k1 (wrap64 (x4_1 + 1)) l0_0 l0_1 y441 (x445001_1 ++ [(y445 ++ (rd_L1 l0_1 x4_1))])) else (none)) else (none)) else (none)) = some (r1, r2) := by first | (rw [hy445]; with_reducible exact H) | (have H2_ := (Option.bind_some _ _).symm.trans H; rw [hy445]; with_reducible exact H2_) | (have H2_ := (Option.bind_some _ _).symm.trans H; with_reducible exact H2_) | with_reducible exact H | (rw [hy445]; exact H) | exact H
    have Ny445 := Aside0.mk hy445
    clear hy445
    obtain ⟨c16, H⟩ := pos_ H
    have c16b0 := decide_eq_true c16
    clear c16
    obtain ⟨c17, H⟩ := pos_ H
    have LMc17 := Aside0.mk c17
    clear c17
    obtain ⟨y449, hy449⟩ : ∃ y_ : List Int, y_ = (y445 ++ (rd_L1 l0_1 x4_1)) := ⟨_, rfl⟩
    replace H : (if x445001_1.length < 5864062014805 then (spec_l2Copy.l0 k1 (wrap64 (x4_1 + 1)) l0_0 l0_1 y441 (x445001_1 ++ [y449])) else (none)) = some (r1, r2) := by first | (rw [hy449]; with_reducible exact H) | (have H2_ := (Option.bind_some _ _).symm.trans H; rw [hy449]; with_reducible exact H2_) | (have H2_ := (Option.bind_some _ _).symm.trans H; with_reducible exact H2_) | with_reducible exact H | (rw [hy449]; exact H) | exact H
    have Ny449 := Aside0.mk hy449
    clear hy449
    obtain ⟨c18, H⟩ := pos_ H
    have LMc18 := Aside0.mk c18
    clear c18
    obtain ⟨y452, hy452⟩ : ∃ y_ : List (List Int), y_ = (x445001_1 ++ [y449]) := ⟨_, rfl⟩
    replace H : (spec_l2Copy.l0 k1 (wrap64 (x4_1 + 1)) l0_0 l0_1 y441 y452) = some (r1, r2) := by first | (rw [hy452]; with_reducible exact H) | (have H2_ := (Option.bind_some _ _).symm.trans H; rw [hy452]; with_reducible exact H2_) | (have H2_ := (Option.bind_some _ _).symm.trans H; with_reducible exact H2_) | with_reducible exact H | (rw [hy452]; exact H) | exact H
    have Ny452 := Aside0.mk hy452
    clear hy452
    have H' := Aside0.mk H
    clear H
    have hnb19 := NB436_437.out
    have hnc19 := NB437_436.out
    have hnb20 := NB436_444.out
    have hnc20 := NB444_436.out
    obtain ⟨hcz21_0, hcz21_1, hfz21_0, hfz21_1⟩ := blk2_ BK436
    try go_wp2
    replace HO_445000 := Aside0.mk (Kd.R_drew HO_445000.out)
    replace HO_445001 := Aside0.mk (Kd.S_drew HO_445001.out)
    replace BK436 := Aside0.mk (blk_drew BK436.out)
    replace BK437 := Aside0.mk (blk_drew BK437.out)
    replace BK444 := Aside0.mk (blk_drew BK444.out)
    replace HB := Aside0.mk (below_drew1 HB.out)
    have p448 : 0 ≤ (x4_1 : Int) := of_decide_eq_true (g0_)
    have q448 : x4_1 < (l0_1.length : Int) := of_decide_eq_true (g0_)
    obtain ⟨ad448, A448_0, c448_0, e448, hx448_0, hl448_0, hi448_0⟩ := at_L1 HR0_1.out x4_1 p448 q448
    have hw448_0 := hx448_0
    cases e448
    replace hx448_0 := cl_ HB hx448_0
    have HR448_0 := Aside0.mk hi448_0
    have HC448_0 := Aside0.mk hl448_0
    clear hi448_0 hl448_0
    replace p448 := eq_true p448
    replace q448 := eq_true q448
    refine start_ (n := 13) (S := fun w' => w'.cell? ⟨gb444, 0, none⟩ = some (.slice Ao10 y441.length co10) ∧ w'.cell? ⟨gb444, 1, none⟩ = some (u445001) ∧ w'.cell? ⟨gb436, 0, none⟩ = some (.slice A0_0 l0_0.length c0_0) ∧ w'.cell? ⟨gb436, 1, none⟩ = some (.slice (some ad448) l0_1.length c0_1) ∧ w'.cell? (ad448.add (x4_1).toNat) = some (.slice A448_0 (rd_L1 l0_1 x4_1).length c448_0)) (ds := [12]) (tl_ 13 0) (g1_) rfl (g1_) ⟨(blk_cell BK444.out 0).trans rfl, (blk_cell BK444.out 1).trans rfl, (blk_cell BK436.out 0).trans rfl, (blk_cell BK436.out 1).trans rfl, ((cl_ HB hw448_0).trans rfl)⟩ (fun hHeld => ?_); refine with_tabW spec_l2Copy.tab5 spec_l2Copy.bits5 (fun HT_ HW_ => ?_)
    generalize wr.drew = w22 at HO_445000 HO_445001 BK436 BK437 BK444 HB HR448_0 hx448_0 hHeld ⊢
    refine pw_ 0 17 (tl_ 13 1) rfl rfl ?_
    refine pw_ 3 20 (tl_ 13 9) rfl rfl ?_
    refine pw_ 5 22 (tl_ 13 41) rfl rfl ?_
    refine tk6_ 1 18 (tl_ 13 43) rfl rfl hHeld ?_
    refine tk6_ 4 21 (tl_ 13 59) rfl rfl hHeld ?_
    refine pw_ 6 23 (tl_ 13 123) rfl rfl ?_
    refine tk6_ 7 24 (tl_ 13 251) rfl rfl hHeld ?_
    refine one_ (i := 2) (N := some 19) (tl_ 13 255) rfl rfl (one_of HT_.out (g1_)) (by decide) (fun K hK => ?_)
    refine Kd.R_lit_step (Kd.int .i64) _ 3 ?hg (N := 19) ?hd (xs := ([] : List Int)) (inner := []) (ok := fun _ => True) (okp := fun _ => True) ?hr ?hp (fun _ hk => hk) trivial (Below.refl _ _) (Nat.le_refl _) (by simp) ?_; (case hd => rfl); (case hg => rfl); (case hr => first | (go_simp; done) | (go_simp; rfl)); (case hp => exact (Reps.none _ _))
    intro v446 w23 ho24 hb hg_ hnew_
    clear hg_ hnew_
    (first | rw [← Ny445.out] at ho24 | (simp only [Int.reduceToNat] at ho24; rw [← Ny445.out] at ho24))
    replace HO_445001 := Aside0.mk (Kd.S_elder' (uf2_ HO_445001) (Kd.R_base ho24) hb)
    have HO447 := Aside0.mk (Kd.R_lower (Kd.R_new' ho24 (Kd.R_lt (uf1_ HO_445000))) (below_size (qz7_)))
    replace HO_445000 := Aside0.mk (Kd.R_elder' (uf1_ HO_445000) (Kd.R_base ho24) hb)
    replace BK436 := bb_ BK436 hb
    replace BK437 := bb_ BK437 hb
    replace BK444 := bb_ BK444 hb
    replace HB := Aside0.mk (below_step (qz7_) hb)
    clear hb ho24
    refine hK.out _ _ ⟨(blk_cell BK444.out 0).trans rfl, (blk_cell BK444.out 1).trans rfl, (blk_cell BK436.out 0).trans rfl, (blk_cell BK436.out 1).trans rfl, ((cl_ HB hw448_0).trans rfl)⟩ (fun hHeld => ?_)
    clear hK K
    refine nm_ ?_
    refine one_ (i := 8) (N := some 25) (tl_ 13 511) rfl rfl (one_of HT_.out (g1_)) (by decide) (fun K hK => ?_)
    refine Kd.R_append_rows_step (Kd.int .i64) (w0 := w) w.heap.size (by rfl) (.tmp 19) (.tmp 24) 22 3 (.int .i64 0) 8 rfl Try.underlying22 info3 rfl (by decide) (by omega) v446 y445 (rd_L1 l0_1 x4_1) _ _ _ (fun k_ => some k_ ≠ (.slice Ao10 y441.length co10 : Value).ownBlock) (fun _ => False) rfl rfl ?aO ?aR (fun _ _ h => h) (fun _ h => h.elim) ?aF ?aB ?aS ?aL ?_
    (case aR => exact uf3_ HR448_0)
    (case aB => exact (qz7_))
    (case aF => exact (fun k_ hk => Kd.fresh' (Kd.R_lt (uf1_ HO_445000)) k_ hk))
    (case aO => exact (by (with_reducible repeat (first | apply Kd.R_alloc | apply Kd.R_drewN | apply Kd.R_drew)); exact Kd.R_mono HO447.out (fun _ hk => hk.2)))
    (case aS => exact (below_size (qz7_)))
    (case aL => have := LMc17.out; omega)
    intro v450 w25 ho hb hg hat
    rw [← Ny449.out] at ho
    replace HO_445000 := Aside0.mk (Kd.R_after (ok := (fun _ => True)) (uf1_ HO_445000) hg hat)
    replace HO_445001 := Aside0.mk (Kd.S_after (ok := (fun k_ => some k_ ≠ (.slice Ao10 y441.length co10 : Value).ownBlock)) (uf2_ HO_445001) hg hat)
    replace BK436 := Aside0.mk (blk_grown (g := gb436) (o := .cells #[.slice A0_0 l0_0.length c0_0, .slice (some ad448) l0_1.length c0_1] 25 (0, 0)) (uf0_ BK436) hg (Kd.R_ne HO447.out BK436.out (by decide)))
    replace BK437 := Aside0.mk (blk_grown (g := gb437) (o := .cells #[.slice none 0 0, .slice none 0 0] 25 (0, 0)) (uf0_ BK437) hg (Kd.R_ne HO447.out BK437.out (by decide)))
    replace BK444 := Aside0.mk (blk_grown (g := gb444) (o := .cells #[.slice Ao10 y441.length co10, u445001] 25 (0, 0)) (uf0_ BK444) hg (Kd.R_ne HO447.out BK444.out (by decide)))
    replace HB := Aside0.mk (hb)
    have HO451 := Aside0.mk (ho)
    clear HO447
    clear ho hb hg hat
    obtain ⟨Ao27, co27, eo27⟩ := Kd.R_slice HO451.out
    (first | subst eo27 | (injection eo27 with f1_ f2_ f3_; have f4_ := f1_.symm; have f5_ := f3_.symm; clear f1_ f2_ f3_; subst f4_; subst f5_))
    refine hK.out _ _ ⟨(blk_cell BK444.out 0).trans rfl, (blk_cell BK444.out 1).trans rfl, (blk_cell BK436.out 0).trans rfl, (blk_cell BK436.out 1).trans rfl, ((cl_ HB hw448_0).trans rfl)⟩ (fun hHeld => ?_)
    clear hK K
    refine nm_ ?_
    refine one_ (i := 9) (N := some 26) (tl_ 13 1023) rfl rfl (one_of HT_.out (g1_)) (by decide) (fun K hK => ?_)
    refine value_ (w1 := ?_) (v := ?_) (by rfl) rfl ?_ ?_
    rotate_left 2
    ·go_simp
     constructor
     ·rfl
     ·rfl
    refine hK.out _ _ ⟨(blk_cell (blk_alloc BK444.out _) 0).trans rfl, (blk_cell (blk_alloc BK444.out _) 1).trans rfl, (blk_cell (blk_alloc BK436.out _) 0).trans rfl, (blk_cell (blk_alloc BK436.out _) 1).trans rfl, (World.cell?_alloc_lt _ _ _ (World.block_lt_of_cell? _ _ (((cl_ HB hw448_0).trans rfl)))).trans (((cl_ HB hw448_0).trans rfl))⟩ (fun hHeld => ?_)
    clear hK K
    refine nm_ ?_
    refine one_ (i := 10) (N := some 27) (tl_ 13 2047) rfl rfl (one_of HT_.out (g1_)) (by decide) (fun K hK => ?_)
    refine Kd.S_append_step (Kd.slice 3 (Kd.int .i64)) (w0 := w) w.heap.size (by rfl) (.tmp 18) (.tmp 26) 23 22 (.slice none 0 0) 24 rfl Try.underlying23 info22 rfl (by decide) (by omega) u445001 x445001_1 y449 [.slice Ao27 y449.length co27] (fun k_ => some k_ ≠ (.slice Ao10 y441.length co10 : Value).ownBlock) (fun k_ => some k_ = (.slice Ao27 y449.length co27 : Value).ownBlock) rfl rfl ?aP (fun k_ hk_ => ((Kd.R_mono (ok' := fun k_ => ((fun k_ => some k_ ≠ (.slice Ao10 y441.length co10 : Value).ownBlock)) k_ ∧ some k_ ≠ (u445001 : Value).ownBlock) (Kd.R_apart' (HO451.out) (Kd.S_typed HO_445001.out) (by decide)) (fun k_ hk => ⟨hk.1, hk.2⟩))).1 k_ hk_.symm) ?aF ?aO ?aB ?aS ?aL ?_
    (case aP => exact Kd.M_row (Kd.R_mono (Kd.R_tight rfl (Kd.R_mono (ok' := fun k_ => ((fun k_ => some k_ ≠ (.slice Ao10 y441.length co10 : Value).ownBlock)) k_ ∧ some k_ ≠ (u445001 : Value).ownBlock) (Kd.R_apart' (HO451.out) (Kd.S_typed HO_445001.out) (by decide)) (fun k_ hk => ⟨hk.1, hk.2⟩))) (fun _ h_ => h_)))
    (case aB => exact (qz7_))
    (case aF => exact (fun k_ hk => Kd.fresh' (Kd.R_lt (uf1_ HO_445000)) k_ hk))
    (case aO => exact (by (with_reducible repeat (first | apply Kd.S_alloc | apply Kd.S_drewN | apply Kd.S_drew)); exact Kd.S_mono HO_445001.out (fun k_ hk => ⟨hk.1, fun e_ => hk.2 e_⟩)))
    (case aS => exact (below_size (qz7_)))
    (case aL => have := LMc18.out; omega)
    intro v453 w26 ho hb hg hat
    rw [← Ny452.out] at ho
    replace HO_445000 := Aside0.mk (Kd.R_over' (uf1_ HO_445000) (Kd.S_typed (uf2_ HO_445001)) (by decide) hg)
    replace BK436 := Aside0.mk (blk_grown (g := gb436) (o := .cells #[.slice A0_0 l0_0.length c0_0, .slice (some ad448) l0_1.length c0_1] 25 (0, 0)) (uf0_ BK436) hg (Kd.S_ne HO_445001.out BK436.out (by decide)))
    replace BK437 := Aside0.mk (blk_grown (g := gb437) (o := .cells #[.slice none 0 0, .slice none 0 0] 25 (0, 0)) (uf0_ BK437) hg (Kd.S_ne HO_445001.out BK437.out (by decide)))
    replace BK444 := Aside0.mk (blk_grown (g := gb444) (o := .cells #[.slice Ao10 y441.length co10, u445001] 25 (0, 0)) (uf0_ BK444) hg (Kd.S_ne HO_445001.out BK444.out (by decide)))
    replace HB := Aside0.mk (hb)
    have HO454 := Aside0.mk (ho)
    clear HO_445001 HO451
    clear ho hb hg hat
    obtain ⟨Ao28, co28, eo28⟩ := Kd.S_slice HO454.out
    (first | subst eo28 | (injection eo28 with f1_ f2_ f3_; have f4_ := f1_.symm; have f5_ := f3_.symm; clear f1_ f2_ f3_; subst f4_; subst f5_))
    refine hK.out _ _ ⟨(blk_cell BK444.out 0).trans rfl, (blk_cell BK444.out 1).trans rfl, (blk_cell BK436.out 0).trans rfl, (blk_cell BK436.out 1).trans rfl, ((cl_ HB hw448_0).trans rfl)⟩ (fun hHeld => ?_)
    clear hK K
    refine nm_ ?_
    refine pw_ 11 28 (tl_ 13 4095) rfl rfl ?_
    refine last_ (i := 12) (N := none) (tl_ 13 8191) rfl rfl (one_of HT_.out (g1_)) (by decide) (fun K hK => ?_)
    have hs29 : w26.cell? ⟨gb444, 1, none⟩ = some (u445001) := (blk_cell BK444.out 1).trans rfl
    have hfs29 := blk_frozen BK444.out 1
    have hns29_0 := NB436_444.out
    have hns29_1 := NB437_444.out
    have hms29_0 := NB444_436.out
    have hms29_1 := NB444_437.out
    refine skip_ (w1 := ?_) (by rfl) rfl ?_ ?_
    rotate_left
    ·go_simp
     rfl
    refine hK.out _ _ ?_
    clear hK K
    refine done_ (done_of HT_.out (g1_)) ?_
    try go_wp2
    go_roundg k1
    case measure => have := HK1.out; omega
    case rel => exact ⟨(wrap64 (x4_1 + 1)), (y452), (.slice Ao28 y452.length co28), (g3_), H', ⟨g8_⟩, ⟨by (with_reducible repeat (first | apply Kd.R_alloc | apply Kd.R_drewN | apply Kd.R_drew)); exact Kd.R_mono (Kd.R_far (p := ⟨gb444, 1, none⟩) (Kd.R_types HO_445000.out BK444.out (by decide)) (fun _ hk => hk.2) (.slice Ao28 y452.length co28)) (fun _ hk => trivial)⟩, ⟨by (with_reducible repeat (first | apply Kd.S_alloc | apply Kd.S_drewN | apply Kd.S_drew)); exact Kd.S_mono (Kd.S_far (p := ⟨gb444, 1, none⟩) (Kd.S_types HO454.out BK444.out (by decide)) (fun _ hk => hk.2) (.slice Ao28 y452.length co28)) (fun _ hk => hk.1)⟩, ⟨by (with_reducible repeat (first | refine blk_drewN ?_ _ | refine blk_drew ?_ | refine blk_alloc ?_ _)); refine blk_far ?_ NB436_444.out _; (with_reducible repeat (first | refine blk_drewN ?_ _ | refine blk_drew ?_ | refine blk_alloc ?_ _)); exact BK436.out⟩, ⟨by (with_reducible repeat (first | refine blk_drewN ?_ _ | refine blk_drew ?_ | refine blk_alloc ?_ _)); refine blk_far ?_ NB437_444.out _; (with_reducible repeat (first | refine blk_drewN ?_ _ | refine blk_drew ?_ | refine blk_alloc ?_ _)); exact BK437.out⟩, ⟨by (with_reducible repeat (first | refine blk_drewN ?_ _ | refine blk_drew ?_ | refine blk_alloc ?_ _)); refine blk_put (cs := #[.slice Ao10 y441.length co10, u445001]) ?_ 1 _ rfl; (with_reducible repeat (first | refine blk_drewN ?_ _ | refine blk_drew ?_ | refine blk_alloc ?_ _)); exact BK444.out⟩, ⟨qz7_⟩⟩
   ·rw [if_neg c15] at H
    have c15b0 := decide_eq_false c15
    clear c15
    simp only [Option.some.injEq, Prod.mk.injEq] at H
    obtain ⟨rfl, rfl⟩ := H
    have hnb30 := NB436_437.out
    have hnc30 := NB437_436.out
    have hnb31 := NB436_444.out
    have hnc31 := NB444_436.out
    obtain ⟨hcz32_0, hcz32_1, hfz32_0, hfz32_1⟩ := blk2_ BK436
    have hnb33 := NB444_437.out
    have hnc33 := NB437_444.out
    obtain ⟨hcz34_0, hcz34_1, hfz34_0, hfz34_1⟩ := blk2_ BK444
    obtain ⟨hcz35_0, hcz35_1, hfz35_0, hfz35_1⟩ := blk2_ BK437
    obtain ⟨Ao36, co36, eo36⟩ := Kd.S_slice HO_445001.out
    subst eo36
    go_wp2
    refine bodyPost_ret (results_cell_row rfl _ _ gb437 25 #[.slice Ao10 y441.length co10, .slice Ao36 x445001_1.length co36] (0, 0) _ rfl (by (with_reducible repeat (first | refine blk_drewN ?_ _ | refine blk_drew ?_ | refine blk_alloc ?_ _)); refine blk_put (cs := #[.slice Ao10 y441.length co10, .slice none 0 0]) ?_ 1 _ rfl; (with_reducible repeat (first | refine blk_drewN ?_ _ | refine blk_drew ?_ | refine blk_alloc ?_ _)); refine blk_put (cs := #[.slice none 0 0, .slice none 0 0]) ?_ 0 _ rfl; (with_reducible repeat (first | refine blk_drewN ?_ _ | refine blk_drew ?_ | refine blk_alloc ?_ _)); exact BK437.out) Try.underlying25 rfl (g1_)) rfl ?_
    exact ⟨_, _, g4_, by (with_reducible repeat (first | apply Kd.R_alloc | apply Kd.R_drewN | apply Kd.R_drew)); exact Kd.R_mono (Kd.R_far (p := ⟨gb437, 1, none⟩) (Kd.R_far (p := ⟨gb437, 0, none⟩) (Kd.R_types HO_445000.out BK437.out (by decide)) (fun _ hk => hk.2) (.slice Ao10 y441.length co10)) (fun _ hk => hk.2) (.slice Ao36 x445001_1.length co36)) (fun _ hk => trivial), by (with_reducible repeat (first | apply Kd.S_alloc | apply Kd.S_drewN | apply Kd.S_drew)); exact Kd.S_mono (Kd.S_far (p := ⟨gb437, 1, none⟩) (Kd.S_far (p := ⟨gb437, 0, none⟩) (Kd.S_types HO_445001.out BK437.out (by decide)) (fun _ hk => hk.2) (.slice Ao10 y441.length co10)) (fun _ hk => hk.2) (.slice Ao36 x445001_1.length co36)) (fun _ hk => hk.1), qz7_⟩
mutual
def spec_Netted.l0 : Nat → Int → List Int → List (List Int) → List Int → List (List Int) → Option (List Int × (List (List Int)))
 | 0, _, _, _, _, _ => none
 | k + 1, x4, x456000, x456001, x465000, x465001 => if x4 < (x456000.length : Int) then (spec_Netted.l1 k x4 0 x456000 x456001 x465000 x465001) else (some (x465000, x465001))
def spec_Netted.l1 : Nat → Int → Int → List Int → List (List Int) → List Int → List (List Int) → Option (List Int × (List (List Int)))
 | 0, _, _, _, _, _, _ => none
 | k + 1, x4, x5, x456000, x456001, x465000, x465001 => if x5 < x4 then (if 0 ≤ x4 then (if x4 < (x456001.length : Int) then (if 0 ≤ x5 then (if x5 < ((rd_L1 x456001 x4).length : Int) then (if x5 < (x456001.length : Int) then (if x4 < ((rd_L1 x456001 x5).length : Int) then (if x4 < (x465001.length : Int) then (if x5 < ((rd_L1 x465001 x4).length : Int) then ((some (x465001.set (x4 : Int).toNat ((rd_L1 x465001 x4).set (x5 : Int).toNat (wrap64 ((rd (rd_L1 x456001 x4) x5) - (mn (rd (rd_L1 x456001 x4) x5) (rd (rd_L1 x456001 x5) x4))))) : List (List Int))).bind fun y474 => (if x5 < (x465001.length : Int) then (if x4 < ((rd_L1 y474 x5).length : Int) then (spec_Netted.l1 k x4 (wrap64 (x5 + 1)) x456000 x456001 x465000 (y474.set (x5 : Int).toNat ((rd_L1 y474 x5).set (x4 : Int).toNat (wrap64 ((rd (rd_L1 x456001 x5) x4) - (mn (rd (rd_L1 x456001 x4) x5) (rd (rd_L1 x456001 x5) x4))))))) else (none)) else (none))) else (none)) else (none)) else (none)) else (none)) else (none)) else (none)) else (none)) else (none)) else (spec_Netted.l0 k (wrap64 (x4 + 1)) x456000 x456001 x465000 x465001)
end
def spec_Netted.f (k : Nat) (l0_0 : List Int) (l0_1 : List (List Int)) : Option (List Int × (List (List Int))) := (spec_BookOk.f k l0_0 l0_1).bind fun t457 => (if t457 = true then ((spec_l2Copy.f k l0_0 l0_1).bind fun bt458 => (spec_Netted.l0 k 0 l0_0 l0_1 bt458.1 bt458.2)) else (some (([] : List Int), ([] : List (List Int)))))
theorem spec_Netted.mq {p : Prop} (h : p := by
 repeat' first
 | (with_reducible exact ih0 _ _ _ _ _)
 | (with_reducible exact ih1 _ _ _ _ _ _)
 | (with_reducible exact spec_BookOk.mono _ _ _)
 | (with_reducible exact spec_l2Copy.mono _ _ _)
 | (with_reducible exact LeO.refl _)
 | (with_reducible exact LeO.none _)
 | (with_reducible refine LeO.ite ?_ ?_)
 | (with_reducible refine LeO.bind ?_ (fun _ => ?_))
 | exact ih0 _ _ _ _ _
 | exact ih1 _ _ _ _ _ _
 | exact spec_BookOk.mono _ _ _
 | exact spec_l2Copy.mono _ _ _
 | exact LeO.none _
 | refine LeO.ite ?_ ?_
 | refine LeO.bind ?_ (fun _ => ?_)) : p := h
theorem spec_Netted.mono_l : ∀ k, (∀ y0 y1 y2 y3 y4, LeO (spec_Netted.l0 k y0 y1 y2 y3 y4) (spec_Netted.l0 (k + 1) y0 y1 y2 y3 y4)) ∧ (∀ y0 y1 y2 y3 y4 y5, LeO (spec_Netted.l1 k y0 y1 y2 y3 y4 y5) (spec_Netted.l1 (k + 1) y0 y1 y2 y3 y4 y5))
 | 0 => ⟨fun _ _ _ _ _ r h => by simp [spec_Netted.l0] at h, fun _ _ _ _ _ _ r h => by simp [spec_Netted.l1] at h⟩
 | k + 1 => by
  obtain ⟨ih0, ih1⟩ := spec_Netted.mono_l k
  refine ⟨?_, ?_⟩
  ·intro y0 y1 y2 y3 y4
   unfold spec_Netted.l0
   exact spec_Netted.mq
  ·intro y0 y1 y2 y3 y4 y5
   unfold spec_Netted.l1
   exact spec_Netted.mq
theorem spec_Netted.mono : ∀ a0 a1 k, LeO (spec_Netted.f k a0 a1) (spec_Netted.f (k + 1) a0 a1) := by
 intro a0 a1 k
 obtain ⟨ih0, ih1⟩ := spec_Netted.mono_l k
 unfold spec_Netted.f
 exact spec_Netted.mq
def spec_Netted.T10 : Bool × List (List Nat × List Nat) := (true, [([], []), ([0], [0]), ([], []), ([1, 2], [1, 2]), ([3], [3]), ([], []), ([4, 5], [4, 5]), ([6], [6]), ([], []), ([8], [8]), ([], []), ([9, 10], [9, 10]), ([11], [11]), ([], []), ([12, 13], [12, 13]), ([14], [14]), ([7, 15], [7, 15]), ([16, 0, 1, 2, 3, 4, 5, 6, 7, 8, 9, 10, 11, 12, 13, 14, 15, 16], [16])])
def spec_Netted.B10 : List Nat := [0, 1, 0, 7, 15, 0, 63, 127, 0, 256, 0, 1792, 3840, 0, 16128, 32512, 65535, 131071]
theorem spec_Netted.tab10 : rtab .any (opsOf Try.f41 10) = spec_Netted.T10 := by kernel_rfl
theorem spec_Netted.bits10 : waitsOk spec_Netted.T10.2 spec_Netted.B10 = true := by kernel_rfl
def spec_Netted.T11 : Bool × List (List Nat × List Nat) := (true, [([], []), ([0], [0]), ([], []), ([1, 2], [1, 2]), ([3], [3]), ([], []), ([], []), ([6], [6]), ([], []), ([7, 8], [7, 8]), ([9], [9]), ([], []), ([10, 11], [10, 11]), ([12], [12]), ([], []), ([13, 14], [13, 14]), ([4, 5, 0, 1, 2, 3, 4, 5, 6, 7, 8, 9, 10, 11, 12, 13, 14, 15], [4, 5]), ([16, 15, 0, 1, 2, 3, 4, 5, 6, 7, 8, 9, 10, 11, 12, 13, 14, 15], [15, 16])])
def spec_Netted.B11 : List Nat := [0, 1, 0, 7, 15, 0, 0, 64, 0, 448, 960, 0, 4032, 8128, 0, 32704, 65535, 131071]
theorem spec_Netted.tab11 : rtab .any (opsOf Try.f41 11) = spec_Netted.T11 := by kernel_rfl
theorem spec_Netted.bits11 : waitsOk spec_Netted.T11.2 spec_Netted.B11 = true := by kernel_rfl
def spec_Netted.T12 : Bool × List (List Nat × List Nat) := (true, [([], []), ([0], [0]), ([], []), ([1, 2], [1, 2]), ([3], [3]), ([], []), ([], []), ([6], [6]), ([], []), ([7, 8], [7, 8]), ([9], [9]), ([], []), ([10, 11], [10, 11]), ([12], [12]), ([], []), ([13, 14], [13, 14]), ([4, 5, 0, 1, 2, 3, 4, 5, 6, 7, 8, 9, 10, 11, 12, 13, 14, 15], [4, 5]), ([16, 15, 0, 1, 2, 3, 4, 5, 6, 7, 8, 9, 10, 11, 12, 13, 14, 15], [15, 16])])
def spec_Netted.B12 : List Nat := [0, 1, 0, 7, 15, 0, 0, 64, 0, 448, 960, 0, 4032, 8128, 0, 32704, 65535, 131071]
theorem spec_Netted.tab12 : rtab .any (opsOf Try.f41 12) = spec_Netted.T12 := by kernel_rfl
theorem spec_Netted.bits12 : waitsOk spec_Netted.T12.2 spec_Netted.B12 = true := by kernel_rfl
theorem qz1_ {p : Prop} (h : p := by repeat (first | (with_reducible first | exact HB.out | apply below_alloc | apply pw_below_drewN | apply below_drew1 | refine below_set ?_ GE455.out | refine below_set ?_ GE456.out | refine below_set ?_ GE464.out | refine below_set ?_ GB32.out | refine below_set ?_ GB35.out) | exact HB.out)) : p := h
set_option maxHeartbeats 8000000 in
set_option maxRecDepth 100000 in
theorem spec_Netted.calls (k : Nat) (A0_0 : Option Addr) (c0_0 : Nat) (l0_0 : List Int) (A0_1 : Option Addr) (c0_1 : Nat) (l0_1 : List (List Int)) (r1 : List Int) (r2 : List (List Int)) (w : World) (hr0_0 : Kd.C (Kd.int .i64) w A0_0 l0_0.length l0_0) (hc0_0 : l0_0.length ≤ c0_0) (hr0_1 : Kd.C (Kd.slice 3 (Kd.int .i64)) w A0_1 l0_1.length l0_1) (hc0_1 : l0_1.length ≤ c0_1) (h : spec_Netted.f k l0_0 l0_1 = some (r1, r2)) :
  Calls Try.prog 41 #[.agg #[.slice A0_0 l0_0.length c0_0, .slice A0_1 l0_1.length c0_1]] w fun e w' => ∃ v0_ v1_ : Value, e = .returned (.agg #[v0_, v1_]) ∧ Kd.R (Kd.int .i64) 3 w' w.heap.size (fun _ => True) v0_ r1 ∧ Kd.S (Kd.slice 3 (Kd.int .i64)) 22 w' w.heap.size (fun k_ => some k_ ≠ (v0_ : Value).ownBlock) v1_ r2 ∧ Below w.heap.size w w' := by
 have hu25 := Try.underlying25
 have HR0_0 := Aside0.mk hr0_0
 have HC0_0 := Aside0.mk hc0_0
 clear hr0_0 hc0_0
 have HR0_1 := Aside0.mk hr0_1
 have HC0_1 := Aside0.mk hc0_1
 clear hr0_1 hc0_1
 have HB := Aside0.mk (Below.refl w.heap.size w)
 have H : ((spec_BookOk.f k l0_0 l0_1).bind fun t457 => (if t457 = true then ((spec_l2Copy.f k l0_0 l0_1).bind fun bt458 => (spec_Netted.l0 k 0 l0_0 l0_1 bt458.1 bt458.2)) else (some (([] : List Int), ([] : List (List Int)))))) = some (r1, r2) := h
 clear h
 obtain ⟨t457, A2, H⟩ := bind_ H
 by_cases c3 : t457 = true
 ·subst c3
  replace H := ifp_ H
  replace H := Option.bind_eq_some_iff.mp H
  obtain ⟨⟨t458, t461⟩, A40, H⟩ := H
  replace H : (spec_Netted.l0 k 0 l0_0 l0_1 t458 t461) = some (r1, r2) := H
  have A4 := Aside0.mk A40
  clear A40
  have H' := Aside0.mk H
  clear H
  go_enter Try.func41, Try.ntmps41
  go_wp2_with (first | ((with_reducible refine gate_dst (N := 1) rfl ?_); refine bx_ (N := 1) #[.slice A0_0 l0_0.length c0_0, .slice A0_1 l0_1.length c0_1] 25 ?_; intro gb455 hg w5 hbox hb; have BK455 := Aside0.mk (hbox); have GW455 := Aside0.mk ((g16_ : w.heap.size ≤ gb455)); have GE455 := Aside0.mk ((g16_ : w.heap.size ≤ gb455)); replace HB := Aside0.mk (below_step (qz1_) hb); clear hb hbox hg) | ((with_reducible refine gate_dst (N := 2) rfl ?_); refine bx_ (N := 2) #[.slice none 0 0, .slice none 0 0] 25 ?_; intro gb456 hg w6 hbox hb; have BK456 := Aside0.mk (hbox); have GW456 := Aside0.mk ((g16_ : w.heap.size ≤ gb456)); have GE456 := Aside0.mk ((g16_ : w.heap.size ≤ gb456)); replace HB := Aside0.mk (below_step (qz1_) hb); have NB455_456 := Aside0.mk ((g53_ : gb455 ≠ gb456)); have NB456_455 := Aside0.mk ((g54_ : gb456 ≠ gb455)); replace BK455 := bb_ BK455 hb; clear hb hbox hg; have hnb7 := NB455_456.out; have hnc7 := NB456_455.out; obtain ⟨hcz8_0, hcz8_1, hfz8_0, hfz8_1⟩ := blk2_ BK455) | ((with_reducible refine gate_callee (f := 42) rfl ?_); refine goesL_ (some 8) rfl rfl Try.func42 k_ rfl #[.agg #[.slice A0_0 l0_0.length c0_0, .slice A0_1 l0_1.length c0_1]] rfl (g2_) ?_; (with_reducible refine (spec_BookOk.calls k _ _ l0_0 _ _ l0_1 true _ ?side1 ?side2 ?side3 ?side4 A2.out).mono ?_); (case side1 => exact uf3_ HR0_0); (case side2 => exact HC0_0.out); (case side3 => exact uf3_ HR0_1); (case side4 => exact HC0_1.out); rintro e w9 ⟨rfl, hb⟩; refine ⟨_, rfl, ?_⟩; replace BK455 := bb_ BK455 hb; replace BK456 := bb_ BK456 hb; replace HB := Aside0.mk (below_step (qz1_) hb); (try clear hb); (try clear hk hi); obtain ⟨hcz10_0, hcz10_1, hfz10_0, hfz10_1⟩ := blk2_ BK455) | ((with_reducible refine gate_callee (f := 80) rfl ?_); refine goesL_ (some 12) rfl rfl Try.func80 k_ rfl #[.agg #[.slice A0_0 l0_0.length c0_0, .slice A0_1 l0_1.length c0_1]] rfl (g2_) ?_; (with_reducible refine (spec_l2Copy.calls k _ _ l0_0 _ _ l0_1 t458 t461 _ ?side1 ?side2 ?side3 ?side4 A4.out).mono ?_); (case side1 => exact uf3_ HR0_0); (case side2 => exact HC0_0.out); (case side3 => exact uf3_ HR0_1); (case side4 => exact HC0_1.out); rintro e w11 ⟨v459, v462, rfl, ho0, ho1, hb⟩; refine ⟨_, rfl, ?_⟩; have HO460 := Aside0.mk (Kd.R_lower ho0 (below_size (qz1_))); have HO463 := Aside0.mk (Kd.S_lower ho1 (below_size (qz1_))); replace BK455 := bb_ BK455 hb; replace BK456 := bb_ BK456 hb; replace HB := Aside0.mk (below_step (qz1_) hb); (try clear hb); (try clear hk hi); (try clear ho0); (try clear ho1)) | ((with_reducible refine gate_dst (N := 3) rfl ?_); refine bx_ (N := 3) #[.slice none 0 0, .slice none 0 0] 25 ?_; intro gb464 hg w12 hbox hb; replace HO460 := Aside0.mk (Kd.R_below (uf1_ HO460) hb); replace HO463 := Aside0.mk (Kd.S_below (uf2_ HO463) hb); have BK464 := Aside0.mk (hbox); have GW464 := Aside0.mk ((g16_ : w.heap.size ≤ gb464)); have GE464 := Aside0.mk ((g16_ : w.heap.size ≤ gb464)); replace HB := Aside0.mk (below_step (qz1_) hb); have NB455_464 := Aside0.mk ((g53_ : gb455 ≠ gb464)); have NB464_455 := Aside0.mk ((g54_ : gb464 ≠ gb455)); replace BK455 := bb_ BK455 hb; have NB456_464 := Aside0.mk ((by rw [hg]; exact Nat.ne_of_lt (blk_lt (g := gb456) (o := .cells #[.slice none 0 0, .slice none 0 0] 25 (0, 0)) (uf0_ BK456)) : gb456 ≠ gb464)); have NB464_456 := Aside0.mk ((by rw [hg]; exact Nat.ne_of_gt (blk_lt (g := gb456) (o := .cells #[.slice none 0 0, .slice none 0 0] 25 (0, 0)) (uf0_ BK456)) : gb464 ≠ gb456)); replace BK456 := bb_ BK456 hb; clear hb hbox hg; obtain ⟨Ao13, co13, eo13⟩ := Kd.R_slice HO460.out; subst eo13; have hnb14 := NB464_455.out; have hnc14 := NB455_464.out; have hnb15 := NB464_456.out; have hnc15 := NB456_464.out; obtain ⟨hcz16_0, hcz16_1, hfz16_0, hfz16_1⟩ := blk2_ BK464; obtain ⟨Ao17, co17, eo17⟩ := Kd.S_slice HO463.out; subst eo17))
  go_loopg [4] k (fun kq v4 w' => ∃ (x4_1 : Int) (x465000_1 : List Int) (x465001_1 : List (List Int)) (u465000 : Value) (u465001 : Value), v4 = .int .i64 x4_1 ∧ Aside0 (spec_Netted.l0 kq x4_1 l0_0 l0_1 x465000_1 x465001_1 = some (r1, r2)) ∧ Aside0 (kq ≤ k) ∧ Aside0 (Kd.R (Kd.int .i64) 3 w' w.heap.size (fun _ => True) u465000 x465000_1) ∧ Aside0 (Kd.S (Kd.slice 3 (Kd.int .i64)) 22 w' w.heap.size (fun k_ => some k_ ≠ (u465000 : Value).ownBlock) u465001 x465001_1) ∧ Aside0 (w'.heap[gb455]? = some (.cells #[(.slice A0_0 l0_0.length c0_0), (.slice A0_1 l0_1.length c0_1)] 25 (0, 0))) ∧ Aside0 (w'.heap[gb456]? = some (.cells #[(.slice none 0 0), (.slice none 0 0)] 25 (0, 0))) ∧ Aside0 (w'.heap[gb464]? = some (.cells #[u465000, u465001] 25 (0, 0))) ∧ Aside0 (Below w.heap.size w w'))
  case atStart => exact ⟨(0), (t458), (t461), (.slice Ao13 t458.length co13), (.slice Ao17 t461.length co17), (g3_), H', ⟨Nat.le_refl _⟩, ⟨by (with_reducible repeat (first | apply Kd.R_alloc | apply Kd.R_drewN | apply Kd.R_drew)); exact Kd.R_mono (Kd.R_far (p := ⟨gb464, 1, none⟩) (Kd.R_far (p := ⟨gb464, 0, none⟩) (Kd.R_types HO460.out BK464.out (by decide)) (fun _ hk => hk.2) (.slice Ao13 t458.length co13)) (fun _ hk => hk.2) (.slice Ao17 t461.length co17)) (fun _ hk => trivial)⟩, ⟨by (with_reducible repeat (first | apply Kd.S_alloc | apply Kd.S_drewN | apply Kd.S_drew)); exact Kd.S_mono (Kd.S_far (p := ⟨gb464, 1, none⟩) (Kd.S_far (p := ⟨gb464, 0, none⟩) (Kd.S_types HO463.out BK464.out (by decide)) (fun _ hk => hk.2) (.slice Ao13 t458.length co13)) (fun _ hk => hk.2) (.slice Ao17 t461.length co17)) (fun _ hk => hk.1)⟩, ⟨by (with_reducible repeat (first | refine blk_drewN ?_ _ | refine blk_drew ?_ | refine blk_alloc ?_ _)); refine blk_far ?_ NB455_464.out _; (with_reducible repeat (first | refine blk_drewN ?_ _ | refine blk_drew ?_ | refine blk_alloc ?_ _)); refine blk_far ?_ NB455_464.out _; (with_reducible repeat (first | refine blk_drewN ?_ _ | refine blk_drew ?_ | refine blk_alloc ?_ _)); exact BK455.out⟩, ⟨by (with_reducible repeat (first | refine blk_drewN ?_ _ | refine blk_drew ?_ | refine blk_alloc ?_ _)); refine blk_far ?_ NB456_464.out _; (with_reducible repeat (first | refine blk_drewN ?_ _ | refine blk_drew ?_ | refine blk_alloc ?_ _)); refine blk_far ?_ NB456_464.out _; (with_reducible repeat (first | refine blk_drewN ?_ _ | refine blk_drew ?_ | refine blk_alloc ?_ _)); exact BK456.out⟩, ⟨by (with_reducible repeat (first | refine blk_drewN ?_ _ | refine blk_drew ?_ | refine blk_alloc ?_ _)); refine blk_put (cs := #[.slice Ao13 t458.length co13, .slice none 0 0]) ?_ 1 _ rfl; (with_reducible repeat (first | refine blk_drewN ?_ _ | refine blk_drew ?_ | refine blk_alloc ?_ _)); refine blk_put (cs := #[.slice none 0 0, .slice none 0 0]) ?_ 0 _ rfl; (with_reducible repeat (first | refine blk_drewN ?_ _ | refine blk_drew ?_ | refine blk_alloc ?_ _)); exact BK464.out⟩, ⟨qz1_⟩⟩
  case round =>
   clear H'
   try clear c1
   try clear p2
   try clear c3
   try clear c4
   try clear c7
   try clear c8
   try clear c14
   try clear c15
   try clear hcz10_0
   try clear hcz10_1
   try clear hcz16_0
   try clear hcz16_1
   try clear hcz8_0
   try clear hcz8_1
   try clear hfz10_0
   try clear hfz10_1
   try clear hfz16_0
   try clear hfz16_1
   try clear hfz8_0
   try clear hfz8_1
   obtain ⟨x4_1, x465000_1, x465001_1, u465000, u465001, rfl, HA, HK1, HO_465000, HO_465001, BK455, BK456, BK464, HB⟩ := hrel
   cases gk with
   | zero => exact absurd HA.out (by simp [spec_Netted.l0])
   | succ k1 =>
    have H := HA.out
    clear HA
    simp only [spec_Netted.l0] at H
    by_cases c18 : x4_1 < (l0_0.length : Int)
    ·rw [if_pos c18] at H
     have c18b0 := decide_eq_true c18
     clear c18
     have H' := Aside0.mk H
     clear H
     have hnb19 := NB455_456.out
     have hnc19 := NB456_455.out
     have hnb20 := NB455_464.out
     have hnc20 := NB464_455.out
     obtain ⟨hcz21_0, hcz21_1, hfz21_0, hfz21_1⟩ := blk2_ BK455
     go_wp2
     go_loopg [5] k1 (fun kq v5 w' => ∃ (x5_2 : Int) (x465000_2 : List Int) (x465001_2 : List (List Int)) (u465000 : Value) (u465001 : Value), v5 = .int .i64 x5_2 ∧ Aside0 (spec_Netted.l1 kq x4_1 x5_2 l0_0 l0_1 x465000_2 x465001_2 = some (r1, r2)) ∧ Aside0 (kq ≤ k1) ∧ Aside0 (Kd.R (Kd.int .i64) 3 w' w.heap.size (fun _ => True) u465000 x465000_2) ∧ Aside0 (Kd.S (Kd.slice 3 (Kd.int .i64)) 22 w' w.heap.size (fun k_ => some k_ ≠ (u465000 : Value).ownBlock) u465001 x465001_2) ∧ Aside0 (w'.heap[gb455]? = some (.cells #[(.slice A0_0 l0_0.length c0_0), (.slice A0_1 l0_1.length c0_1)] 25 (0, 0))) ∧ Aside0 (w'.heap[gb456]? = some (.cells #[(.slice none 0 0), (.slice none 0 0)] 25 (0, 0))) ∧ Aside0 (w'.heap[gb464]? = some (.cells #[u465000, u465001] 25 (0, 0))) ∧ Aside0 (Below w.heap.size w w'))
     case atStart => exact ⟨(0), (x465000_1), (x465001_1), (u465000), (u465001), (g3_), H', ⟨Nat.le_refl _⟩, ⟨uf1_ HO_465000⟩, ⟨uf2_ HO_465001⟩, ⟨uf0_ BK455⟩, ⟨uf0_ BK456⟩, ⟨uf0_ BK464⟩, ⟨qz1_⟩⟩
     case round =>
      clear H'
      try clear c1
      try clear c2
      try clear p2
      try clear c3
      try clear c4
      try clear c7
      try clear c8
      try clear c14
      try clear c15
      try clear c18
      try clear c18b0
      try clear c19
      try clear c20
      try clear hcz10_0
      try clear hcz10_1
      try clear hcz16_0
      try clear hcz16_1
      try clear hcz21_0
      try clear hcz21_1
      try clear hcz8_0
      try clear hcz8_1
      try clear hfz10_0
      try clear hfz10_1
      try clear hfz16_0
      try clear hfz16_1
      try clear hfz21_0
      try clear hfz21_1
      try clear hfz8_0
      try clear hfz8_1
      try clear p2
      obtain ⟨x5_2, x465000_2, x465001_2, u465000, u465001, rfl, HA, HK2, HO_465000, HO_465001, BK455, BK456, BK464, HB⟩ := hrel
      cases gk with
      | zero => exact absurd HA.out (by simp [spec_Netted.l1])
      | succ k2 =>
       have H := HA.out
       clear HA
       simp only [spec_Netted.l1] at H
       by_cases c22 : x5_2 < x4_1
       ·rw [if_pos c22] at H
        have c22b0 := decide_eq_true c22
        clear c22
        obtain ⟨c23, H⟩ := pos_ H
        have c23b0 := decide_eq_true c23
        clear c23
        obtain ⟨c24, H⟩ := pos_ H
        have c24b0 := decide_eq_true c24
        clear c24
        obtain ⟨c25, H⟩ := pos_ H
        have c25b0 := decide_eq_true c25
        clear c25
        obtain ⟨c26, H⟩ := pos_ H
        have c26b0 := decide_eq_true c26
        clear c26
        obtain ⟨c27, H⟩ := pos_ H
        have c27b0 := decide_eq_true c27
        clear c27
        obtain ⟨c28, H⟩ := pos_ H
        have c28b0 := decide_eq_true c28
        clear c28
        obtain ⟨ji29, hji29⟩ : ∃ j_ : Int, (mn (rd (rd_L1 l0_1 x4_1) x5_2) (rd (rd_L1 l0_1 x5_2) x4_1)) = j_ := ⟨_, rfl⟩
        replace H : (if x4_1 < (x465001_2.length : Int) then (if x5_2 < ((rd_L1 x465001_2 x4_1).length : Int) then ((some (x465001_2.set (x4_1 : Int).toNat ((rd_L1 x465001_2 x4_1).set (x5_2 : Int).toNat (wrap64 ((rd (rd_L1 l0_1 x4_1) x5_2) - (ji29)))) : List (List Int))).bind fun y474 => (if x5_2 < (x465001_2.length : Int) then (if x4_1 < ((rd_L1 y474 x5_2).length : Int) then (spec_Netted.l1 k2 x4_1 (wrap64 (x5_2 + 1)) l0_0 l0_1 x465000_2 (y474.set (x5_2 : Int).toNat ((rd_L1 y474 x5_2).set (x4_1 : Int).toNat (wrap64 ((rd (rd_L1 l0_1 x5_2) x4_1) - (ji29)))))) else (none)) else (none))) else (none)) else (none)) = some (r1, r2) := by first | (rw [hji29] at H; exact H) | (simp only [hji29] at H ⊢; exact H)
        have hji29_ : (if (rd (rd_L1 l0_1 x5_2) x4_1) < (rd (rd_L1 l0_1 x4_1) x5_2) then (rd (rd_L1 l0_1 x5_2) x4_1) else (rd (rd_L1 l0_1 x4_1) x5_2)) = ji29 := hji29
        obtain ⟨c30, H⟩ := pos_ H
        have c30b0 := decide_eq_true c30
        clear c30
        obtain ⟨c31, H⟩ := pos_ H
        have c31b0 := decide_eq_true c31
        clear c31
        obtain ⟨y472, hy472⟩ : ∃ y_ : List Int, y_ = ((rd_L1 x465001_2 x4_1).set (x5_2 : Int).toNat (wrap64 ((rd (rd_L1 l0_1 x4_1) x5_2) - (ji29)))) := ⟨_, rfl⟩
        replace H : ((some (x465001_2.set (x4_1 : Int).toNat y472 : List (List Int))).bind fun y474 => (if x5_2 < (x465001_2.length : Int) then (if x4_1 < ((rd_L1 y474 x5_2).length : Int) then (spec_Netted.l1 k2 x4_1 (wrap64 (x5_2 + 1)) l0_0 l0_1 x465000_2 (y474.set (x5_2 : Int).toNat ((rd_L1 y474 x5_2).set (x4_1 : Int).toNat (wrap64 ((rd (rd_L1 l0_1 x5_2) x4_1) - (ji29)))))) else (none)) else (none))) = some (r1, r2) := by first | (rw [hy472]; with_reducible exact H) | (have H2_ := (Option.bind_some _ _).symm.trans H; rw [hy472]; with_reducible exact H2_) | (have H2_ := (Option.bind_some _ _).symm.trans H; with_reducible exact H2_) | with_reducible exact H | (rw [hy472]; exact H) | exact H
        have Ny472 := Aside0.mk hy472
        clear hy472
        obtain ⟨y474, hy474⟩ : ∃ y_ : List (List Int), y_ = (x465001_2.set (x4_1 : Int).toNat y472) := ⟨_, rfl⟩
        replace H : (if x5_2 < (x465001_2.length : Int) then (if x4_1 < ((rd_L1 y474 x5_2).length : Int) then (spec_Netted.l1 k2 x4_1 (wrap64 (x5_2 + 1)) l0_0 l0_1 x465000_2 (y474.set (x5_2 : Int).toNat ((rd_L1 y474 x5_2).set (x4_1 : Int).toNat (wrap64 ((rd (rd_L1 l0_1 x5_2) x4_1) - (ji29)))))) else (none)) else (none)) = some (r1, r2) := by first | (rw [hy474]; with_reducible exact H) | (have H2_ := (Option.bind_some _ _).symm.trans H; rw [hy474]; with_reducible exact H2_) | (have H2_ := (Option.bind_some _ _).symm.trans H; with_reducible exact H2_) | with_reducible exact H | (rw [hy474]; exact H) | exact H
        have Ny474 := Aside0.mk hy474
        clear hy474
        obtain ⟨c33, H⟩ := pos_ H
        have c33b0 := decide_eq_true c33
        clear c33
        obtain ⟨c34, H⟩ := pos_ H
        have c34b0 := decide_eq_true c34
        clear c34
        obtain ⟨y478, hy478⟩ : ∃ y_ : List Int, y_ = ((rd_L1 y474 x5_2).set (x4_1 : Int).toNat (wrap64 ((rd (rd_L1 l0_1 x5_2) x4_1) - (ji29)))) := ⟨_, rfl⟩
        replace H : (spec_Netted.l1 k2 x4_1 (wrap64 (x5_2 + 1)) l0_0 l0_1 x465000_2 (y474.set (x5_2 : Int).toNat y478)) = some (r1, r2) := by first | (rw [hy478]; with_reducible exact H) | (have H2_ := (Option.bind_some _ _).symm.trans H; rw [hy478]; with_reducible exact H2_) | (have H2_ := (Option.bind_some _ _).symm.trans H; with_reducible exact H2_) | with_reducible exact H | (rw [hy478]; exact H) | exact H
        have Ny478 := Aside0.mk hy478
        clear hy478
        obtain ⟨y480, hy480⟩ : ∃ y_ : List (List Int), y_ = (y474.set (x5_2 : Int).toNat y478) := ⟨_, rfl⟩
        replace H : (spec_Netted.l1 k2 x4_1 (wrap64 (x5_2 + 1)) l0_0 l0_1 x465000_2 y480) = some (r1, r2) := by first | (rw [hy480]; with_reducible exact H) | (have H2_ := (Option.bind_some _ _).symm.trans H; rw [hy480]; with_reducible exact H2_) | (have H2_ := (Option.bind_some _ _).symm.trans H; with_reducible exact H2_) | with_reducible exact H | (rw [hy480]; exact H) | exact H
        have Ny480 := Aside0.mk hy480
        clear hy480
        have H' := Aside0.mk H
        clear H
        try go_wp2
        replace HO_465000 := Aside0.mk (Kd.R_drew HO_465000.out)
        replace HO_465001 := Aside0.mk (Kd.S_drew HO_465001.out)
        replace BK455 := Aside0.mk (blk_drew BK455.out)
        replace BK456 := Aside0.mk (blk_drew BK456.out)
        replace BK464 := Aside0.mk (blk_drew BK464.out)
        replace HB := Aside0.mk (below_drew1 HB.out)
        have p465 : 0 ≤ (x4_1 : Int) := of_decide_eq_true (g0_)
        have q465 : x4_1 < (l0_1.length : Int) := of_decide_eq_true (g0_)
        obtain ⟨ad465, A465_0, c465_0, e465, hx465_0, hl465_0, hi465_0⟩ := at_L1 HR0_1.out x4_1 p465 q465
        have hw465_0 := hx465_0
        cases e465
        replace hx465_0 := cl_ HB hx465_0
        have HR465_0 := Aside0.mk hi465_0
        have HC465_0 := Aside0.mk hl465_0
        clear hi465_0 hl465_0
        replace p465 := eq_true p465
        replace q465 := eq_true q465
        have p466 : 0 ≤ (x5_2 : Int) := of_decide_eq_true (g0_)
        have q466 : x5_2 < ((rd_L1 l0_1 x4_1).length : Int) := of_decide_eq_true (g0_)
        obtain ⟨ad466, e466, hx466_0⟩ := Kd.at_int HR465_0.out x5_2 p466 q466
        have hw466_0 := hx466_0
        cases e466
        replace hx466_0 := cl_ HB hx466_0
        replace p466 := eq_true p466
        replace q466 := eq_true q466
        have p467 : 0 ≤ (x5_2 : Int) := of_decide_eq_true (g0_)
        have q467 : x5_2 < (l0_1.length : Int) := of_decide_eq_true (g0_)
        obtain ⟨ad467, A467_0, c467_0, e467, hx467_0, hl467_0, hi467_0⟩ := at_L1 HR0_1.out x5_2 p467 q467
        have hw467_0 := hx467_0
        obtain rfl : ad465 = ad467 := (by injection e467)
        replace hx467_0 := cl_ HB hx467_0
        have HR467_0 := Aside0.mk hi467_0
        have HC467_0 := Aside0.mk hl467_0
        clear hi467_0 hl467_0
        replace p467 := eq_true p467
        replace q467 := eq_true q467
        have p468 : 0 ≤ (x4_1 : Int) := of_decide_eq_true (g0_)
        have q468 : x4_1 < ((rd_L1 l0_1 x5_2).length : Int) := of_decide_eq_true (g0_)
        obtain ⟨ad468, e468, hx468_0⟩ := Kd.at_int HR467_0.out x4_1 p468 q468
        have hw468_0 := hx468_0
        cases e468
        replace hx468_0 := cl_ HB hx468_0
        replace p468 := eq_true p468
        replace q468 := eq_true q468
        refine start_ (n := 18) (S := fun w' => w'.cell? ⟨gb455, 0, none⟩ = some (.slice A0_0 l0_0.length c0_0) ∧ w'.cell? ⟨gb455, 1, none⟩ = some (.slice (some ad465) l0_1.length c0_1) ∧ w'.cell? (ad465.add (x4_1).toNat) = some (.slice (some ad466) (rd_L1 l0_1 x4_1).length c465_0) ∧ w'.cell? (ad466.add (x5_2).toNat) = some (.int .i64 (rd (rd_L1 l0_1 x4_1) x5_2)) ∧ w'.cell? (ad465.add (x5_2).toNat) = some (.slice (some ad468) (rd_L1 l0_1 x5_2).length c467_0) ∧ w'.cell? (ad468.add (x4_1).toNat) = some (.int .i64 (rd (rd_L1 l0_1 x5_2) x4_1))) (ds := []) (tl_ 18 0) (g1_) rfl (g1_) ⟨(blk_cell BK455.out 0).trans rfl, (blk_cell BK455.out 1).trans rfl, ((cl_ HB hw465_0).trans rfl), ((cl_ HB hw466_0).trans rfl), ((cl_ HB hw467_0).trans rfl), ((cl_ HB hw468_0).trans rfl)⟩ (fun hHeld => ?_); refine with_tabW spec_Netted.tab10 spec_Netted.bits10 (fun HT_ HW_ => ?_)
        generalize wr.drew = w36 at HO_465000 HO_465001 BK455 BK456 BK464 HB HR465_0 HR467_0 hx465_0 hx466_0 hx467_0 hx468_0 hHeld ⊢
        refine pw_ 0 25 (tl_ 18 1) rfl rfl ?_
        refine pw_ 2 27 (tl_ 18 5) rfl rfl ?_
        refine pw_ 5 30 (tl_ 18 37) rfl rfl ?_
        refine pw_ 8 33 (tl_ 18 293) rfl rfl ?_
        refine pw_ 10 35 (tl_ 18 1317) rfl rfl ?_
        refine pw_ 13 38 (tl_ 18 9509) rfl rfl ?_
        refine tk3_ 1 26 (tl_ 18 9511) rfl rfl hHeld ?_
        refine pw_ 3 28 (tl_ 18 9519) rfl rfl ?_
        refine tk3_ 4 29 (tl_ 18 9535) rfl rfl hHeld ?_
        refine pw_ 6 31 (tl_ 18 9599) rfl rfl ?_
        refine tk3_ 7 32 (tl_ 18 9727) rfl rfl hHeld ?_
        refine tk3_ 9 34 (tl_ 18 10239) rfl rfl hHeld ?_
        refine pw_ 11 36 (tl_ 18 12287) rfl rfl ?_
        refine tk3_ 12 37 (tl_ 18 16383) rfl rfl hHeld ?_
        refine pw_ 14 39 (tl_ 18 32767) rfl rfl ?_
        refine tk3_ 15 40 (tl_ 18 65535) rfl rfl hHeld ?_
        refine pw_ 16 41 (tl_ 18 131071) rfl rfl ?_
        refine pw_ 17 6 (tl_ 18 262143) rfl rfl ?_
        refine done_ (done_of HT_.out (g1_)) ?_
        try go_wp2
        replace HO_465000 := Aside0.mk (Kd.R_drew HO_465000.out)
        replace HO_465001 := Aside0.mk (Kd.S_drew HO_465001.out)
        replace BK455 := Aside0.mk (blk_drew BK455.out)
        replace BK456 := Aside0.mk (blk_drew BK456.out)
        replace BK464 := Aside0.mk (blk_drew BK464.out)
        replace HB := Aside0.mk (below_drew1 HB.out)
        obtain ⟨Ao38, co38, eo38⟩ := Kd.S_slice HO_465001.out
        (first | subst eo38 | (injection eo38 with f1_ f2_ f3_; have f4_ := f1_.symm; have f5_ := f3_.symm; clear f1_ f2_ f3_; subst f4_; subst f5_))
        have p469 : 0 ≤ (x4_1 : Int) := of_decide_eq_true (g0_)
        have q469 : x4_1 < (x465001_2.length : Int) := of_decide_eq_true (g0_)
        obtain ⟨ad469, A469_0, c469_0, e469, hx469_0, hl469_0, hi469_0⟩ := at_L1 (Kd.S_reads' HO_465001.out).2.2 x4_1 p469 q469
        cases e469
        obtain ⟨ce469, hce469, hMe469, hcc469⟩ := Kd.S_get HO_465001.out [] x4_1 p469 (by first | exact q469 | exact of_decide_eq_true (g0_) | (have e_ := (Kd.S_reads' HO_465001.out).1; omega))
        obtain ⟨ve469_0, rfl, ge469_0⟩ := hMe469
        have hv469_0 := hcc469 0 _ rfl
        rw [Nat.add_zero, show ((Kd.slice 3 (Kd.int .i64))).sz = 1 from rfl, Nat.mul_one] at hv469_0
        replace hv469_0 := Option.some.inj (hv469_0.symm.trans hx469_0)
        rw [hv469_0] at ge469_0
        have HL469_0 := Aside0.mk (show Kd.R (Kd.int .i64) 3 _ _ _ _ (rd_L1 x465001_2 x4_1) from ge469_0)
        clear hv469_0 ge469_0
        have HX469_0 := Aside0.mk hx469_0
        clear hcc469 hce469
        have HR469_0 := Aside0.mk hi469_0
        have HC469_0 := Aside0.mk hl469_0
        clear hi469_0 hl469_0
        replace p469 := eq_true p469
        replace q469 := eq_true q469
        have p470 : 0 ≤ (x4_1 : Int) := of_decide_eq_true (g0_)
        have q470 : x4_1 < (l0_1.length : Int) := of_decide_eq_true (g0_)
        obtain ⟨ad470, A470_0, c470_0, e470, hx470_0, hl470_0, hi470_0⟩ := at_L1 HR0_1.out x4_1 p470 q470
        have hw470_0 := hx470_0
        obtain rfl : ad465 = ad470 := (by injection e470)
        replace hx470_0 := cl_ HB hx470_0
        have HR470_0 := Aside0.mk hi470_0
        have HC470_0 := Aside0.mk hl470_0
        clear hi470_0 hl470_0
        replace p470 := eq_true p470
        replace q470 := eq_true q470
        have p471 : 0 ≤ (x5_2 : Int) := of_decide_eq_true (g0_)
        have q471 : x5_2 < ((rd_L1 l0_1 x4_1).length : Int) := of_decide_eq_true (g0_)
        obtain ⟨ad471, e471, hx471_0⟩ := Kd.at_int HR470_0.out x5_2 p471 q471
        have hw471_0 := hx471_0
        cases e471
        replace hx471_0 := cl_ HB hx471_0
        replace p471 := eq_true p471
        replace q471 := eq_true q471
        have p32 : 0 ≤ (x5_2 : Int) := of_decide_eq_true (g0_)
        have q32 : (x5_2 : Int) < (((rd_L1 x465001_2 x4_1).length : Int) : Int) := of_decide_eq_true (g0_)
        obtain ⟨go32, co32, eo32, gb32, gl32, cl32, HG32⟩ := Kd.R_form HL469_0.out (by omega)
        (first | cases eo32 | (injection eo32 with ea_ en_ ec_; (first | subst ea_ | (injection ea_ with ea_; subst ea_)); subst ec_; clear en_))
        have GB32 := Aside0.mk gb32
        have GG32 := Aside0.mk HG32
        clear gb32 gl32 HG32
        obtain ⟨hx32_0, hf32_0⟩ := Kd.R_celln 0 HL469_0.out (x5_2 : Int) p32 q32
        replace p32 := eq_true p32
        replace q32 := eq_true q32
        have hq39 : (x4_1 : Int) < (x465001_2.length : Int) := (by have h_ : (x4_1 : Int) < ((x465001_2.length : Int) : Int) := of_decide_eq_true (g0_); first | exact h_ | (have e_ := (Kd.S_reads' HO_465001.out).1; omega) | simpa only [List.length_set, List.length_set] using h_)
        obtain ⟨oki39, ce39, hcl39, hM39, hcc39, hok39, hbk39⟩ := Kd.S_borrow HO_465001.out [] (x4_1 : Int) (of_decide_eq_true (g0_)) (by first | exact hq39 | exact of_decide_eq_true (g0_) | (have e_ := (Kd.S_reads' HO_465001.out).1; omega))
        obtain ⟨ve39_0, rfl, ge39_0⟩ := hM39
        have hv39 := hcc39 0 _ rfl
        rw [Nat.add_zero, show ((Kd.slice 3 (Kd.int .i64))).sz = 1 from rfl, Nat.mul_one] at hv39
        replace hv39 := Option.some.inj (hv39.symm.trans HX469_0.out)
        subst hv39
        clear hcc39 hcl39
        replace ge39_0 := (show Kd.R (Kd.int .i64) 3 _ _ _ _ (rd_L1 x465001_2 x4_1) from ge39_0)
        have HP39 := Kd.R_putg ge39_0 (x5_2 : Int) (wrap64 ((rd (rd_L1 l0_1 x4_1) x5_2) - (ji29)))
        rw [← Ny472.out] at HP39
        have HS39 := hbk39 HP39.2 (fun k_ e_ => by injection e_ with e_; subst e_; exact ge39_0.1 _ rfl) (x' := y472) (Kd.M_row HP39.1)
        rw [← Ny474.out] at HS39
        have HQ39 := Aside0.mk HS39
        clear HP39 HS39 hbk39 hok39
        refine start_ (n := 18) (S := fun w' => w'.cell? ⟨gb464, 0, none⟩ = some (u465000) ∧ w'.cell? ⟨gb464, 1, none⟩ = some (.slice (some ad469) x465001_2.length co38) ∧ w'.cell? ⟨gb455, 0, none⟩ = some (.slice A0_0 l0_0.length c0_0) ∧ w'.cell? ⟨gb455, 1, none⟩ = some (.slice (some ad465) l0_1.length c0_1) ∧ w'.cell? (ad469.add (x4_1).toNat) = some (.slice (some ⟨go32, 0, none⟩) (rd_L1 x465001_2 x4_1).length c469_0) ∧ w'.cell? (ad465.add (x4_1).toNat) = some (.slice (some ad471) (rd_L1 l0_1 x4_1).length c470_0) ∧ w'.cell? (ad471.add (x5_2).toNat) = some (.int .i64 (rd (rd_L1 l0_1 x4_1) x5_2))) (ds := [17]) (tl_ 18 0) (g1_) rfl (g1_) ⟨(blk_cell BK464.out 0).trans rfl, (blk_cell BK464.out 1).trans rfl, (blk_cell BK455.out 0).trans rfl, (blk_cell BK455.out 1).trans rfl, hx469_0, ((cl_ HB hw470_0).trans rfl), ((cl_ HB hw471_0).trans rfl)⟩ (fun hHeld => ?_); refine with_tabW spec_Netted.tab11 spec_Netted.bits11 (fun HT_ HW_ => ?_)
        generalize w36.drew = w37 at HO_465000 HO_465001 BK455 BK456 BK464 HB GG32 HL469_0 HQ39 HR469_0 HR470_0 HX469_0 hf32_0 hx32_0 hx469_0 hx470_0 hx471_0 hHeld ⊢
        refine pw_ 0 42 (tl_ 18 1) rfl rfl ?_
        refine pw_ 2 44 (tl_ 18 5) rfl rfl ?_
        refine pw_ 5 47 (tl_ 18 37) rfl rfl ?_
        refine pw_ 6 48 (tl_ 18 101) rfl rfl ?_
        refine pw_ 8 50 (tl_ 18 357) rfl rfl ?_
        refine pw_ 11 53 (tl_ 18 2405) rfl rfl ?_
        refine pw_ 14 56 (tl_ 18 18789) rfl rfl ?_
        refine tk5_ 1 43 (tl_ 18 18791) rfl rfl hHeld ?_
        refine pw_ 3 45 (tl_ 18 18799) rfl rfl ?_
        refine tk5_ 4 46 (tl_ 18 18815) rfl rfl hHeld ?_
        refine tk5_ 7 49 (tl_ 18 18943) rfl rfl hHeld ?_
        refine pw_ 9 51 (tl_ 18 19455) rfl rfl ?_
        refine tk5_ 10 52 (tl_ 18 20479) rfl rfl hHeld ?_
        refine pw_ 12 54 (tl_ 18 24575) rfl rfl ?_
        refine tk5_ 13 55 (tl_ 18 32767) rfl rfl hHeld ?_
        refine pw_ 15 57 (tl_ 18 65535) rfl rfl ?_
        refine pw_ 16 58 (tl_ 18 131071) rfl rfl ?_
        refine last_ (i := 17) (N := none) (tl_ 18 262143) rfl rfl (one_of HT_.out (g1_)) (by decide) (fun K hK => ?_)
        refine skip_ (w1 := ?_) (by rfl) rfl ?_ ?_
        rotate_left
        ·go_simp
         rfl
        refine hK.out _ _ ?_
        clear hK K
        refine done_ (done_of HT_.out (g1_)) ?_
        try go_wp2
        have n0_ : Aside0 (Kd.R (Kd.int .i64) 3 (w37.setCell ⟨go32, (x5_2 : Int).toNat, none⟩ (.int .i64 (wrap64 ((rd (rd_L1 l0_1 x4_1) x5_2) - (ji29))))) w.heap.size (fun _ => True) u465000 x465000_2) := ⟨by (with_reducible repeat (first | apply Kd.R_alloc | apply Kd.R_drewN | apply Kd.R_drew)); exact Kd.R_mono (Kd.R_far (p := ⟨go32, (x5_2 : Int).toNat, none⟩) (Kd.R_far1 HO_465000.out rfl ((HL469_0.out.1 _ rfl).1)) (fun _ hk => hk.2) (.int .i64 (wrap64 ((rd (rd_L1 l0_1 x4_1) x5_2) - (ji29))))) (fun _ hk => trivial)⟩
        have n1_ : Aside0 (Kd.S (Kd.slice 3 (Kd.int .i64)) 22 (w37.setCell ⟨go32, (x5_2 : Int).toNat, none⟩ (.int .i64 (wrap64 ((rd (rd_L1 l0_1 x4_1) x5_2) - (ji29))))) w.heap.size (fun k_ => some k_ ≠ (u465000 : Value).ownBlock) (.slice (some ad469) x465001_2.length co38) y474) := ⟨uf2_ HQ39⟩
        have n2_ : Aside0 ((w37.setCell ⟨go32, (x5_2 : Int).toNat, none⟩ (.int .i64 (wrap64 ((rd (rd_L1 l0_1 x4_1) x5_2) - (ji29))))).heap[gb455]? = some (.cells #[.slice A0_0 l0_0.length c0_0, .slice (some ad465) l0_1.length c0_1] 25 (0, 0))) := ⟨by (with_reducible repeat (first | refine blk_drewN ?_ _ | refine blk_drew ?_ | refine blk_alloc ?_ _)); refine blk_far ?_ (by have h_ := Kd.R_ne HL469_0.out BK455.out (by decide); intro e_; exact h_ (g7_)) _; (with_reducible repeat (first | refine blk_drewN ?_ _ | refine blk_drew ?_ | refine blk_alloc ?_ _)); exact BK455.out⟩
        have n3_ : Aside0 ((w37.setCell ⟨go32, (x5_2 : Int).toNat, none⟩ (.int .i64 (wrap64 ((rd (rd_L1 l0_1 x4_1) x5_2) - (ji29))))).heap[gb456]? = some (.cells #[.slice none 0 0, .slice none 0 0] 25 (0, 0))) := ⟨by (with_reducible repeat (first | refine blk_drewN ?_ _ | refine blk_drew ?_ | refine blk_alloc ?_ _)); refine blk_far ?_ (by have h_ := Kd.R_ne HL469_0.out BK456.out (by decide); intro e_; exact h_ (g7_)) _; (with_reducible repeat (first | refine blk_drewN ?_ _ | refine blk_drew ?_ | refine blk_alloc ?_ _)); exact BK456.out⟩
        have n4_ : Aside0 ((w37.setCell ⟨go32, (x5_2 : Int).toNat, none⟩ (.int .i64 (wrap64 ((rd (rd_L1 l0_1 x4_1) x5_2) - (ji29))))).heap[gb464]? = some (.cells #[u465000, .slice (some ad469) x465001_2.length co38] 25 (0, 0))) := ⟨by (with_reducible repeat (first | refine blk_drewN ?_ _ | refine blk_drew ?_ | refine blk_alloc ?_ _)); refine blk_far ?_ (by have h_ := Kd.R_ne HL469_0.out BK464.out (by decide); intro e_; exact h_ (g7_)) _; (with_reducible repeat (first | refine blk_drewN ?_ _ | refine blk_drew ?_ | refine blk_alloc ?_ _)); exact BK464.out⟩
        have n5_ : Aside0 (Below w.heap.size w (w37.setCell ⟨go32, (x5_2 : Int).toNat, none⟩ (.int .i64 (wrap64 ((rd (rd_L1 l0_1 x4_1) x5_2) - (ji29)))))) := ⟨qz1_⟩
        (try clear HO_465000)
        (try clear HO_465001)
        (try clear BK455)
        (try clear BK456)
        (try clear BK464)
        (try clear HB)
        generalize (w37.setCell ⟨go32, (x5_2 : Int).toNat, none⟩ (.int .i64 (wrap64 ((rd (rd_L1 l0_1 x4_1) x5_2) - (ji29))))) = w41 at n0_ n1_ n2_ n3_ n4_ n5_ ⊢
        have HO_465000 := n0_
        have HO_465001 := n1_
        have BK455 := n2_
        have BK456 := n3_
        have BK464 := n4_
        have HB := n5_
        clear n0_ n1_ n2_ n3_ n4_ n5_
        replace HO_465000 := Aside0.mk (Kd.R_drew HO_465000.out)
        replace HO_465001 := Aside0.mk (Kd.S_drew HO_465001.out)
        replace BK455 := Aside0.mk (blk_drew BK455.out)
        replace BK456 := Aside0.mk (blk_drew BK456.out)
        replace BK464 := Aside0.mk (blk_drew BK464.out)
        replace HB := Aside0.mk (below_drew1 HB.out)
        have p475 : 0 ≤ (x5_2 : Int) := of_decide_eq_true (g0_)
        have q475 : x5_2 < (y474.length : Int) := (by have h_ : (x5_2 : Int) < ((x465001_2.length : Int) : Int) := of_decide_eq_true (g0_); first | (have e_ := (Kd.S_reads' HO_465001.out).1; omega) | simpa only [Ny474.out, List.length_set] using h_)
        have ql475 : ((x5_2 : Int) < ((x465001_2.length : Int) : Int)) = True := eq_true (of_decide_eq_true (g0_))
        obtain ⟨ad475, A475_0, c475_0, e475, hx475_0, hl475_0, hi475_0⟩ := at_L1 (Kd.S_reads' HO_465001.out).2.2 x5_2 p475 q475
        obtain rfl : ad469 = ad475 := (by injection e475)
        obtain ⟨ce475, hce475, hMe475, hcc475⟩ := Kd.S_get HO_465001.out [] x5_2 p475 (by first | exact q475 | exact of_decide_eq_true (g0_) | (have e_ := (Kd.S_reads' HO_465001.out).1; omega))
        obtain ⟨ve475_0, rfl, ge475_0⟩ := hMe475
        have hv475_0 := hcc475 0 _ rfl
        rw [Nat.add_zero, show ((Kd.slice 3 (Kd.int .i64))).sz = 1 from rfl, Nat.mul_one] at hv475_0
        replace hv475_0 := Option.some.inj (hv475_0.symm.trans hx475_0)
        rw [hv475_0] at ge475_0
        have HL475_0 := Aside0.mk (show Kd.R (Kd.int .i64) 3 _ _ _ _ (rd_L1 y474 x5_2) from ge475_0)
        clear hv475_0 ge475_0
        have HX475_0 := Aside0.mk hx475_0
        clear hcc475 hce475
        have HR475_0 := Aside0.mk hi475_0
        have HC475_0 := Aside0.mk hl475_0
        clear hi475_0 hl475_0
        replace p475 := eq_true p475
        replace q475 := eq_true q475
        have p476 : 0 ≤ (x5_2 : Int) := of_decide_eq_true (g0_)
        have q476 : x5_2 < (l0_1.length : Int) := of_decide_eq_true (g0_)
        obtain ⟨ad476, A476_0, c476_0, e476, hx476_0, hl476_0, hi476_0⟩ := at_L1 HR0_1.out x5_2 p476 q476
        have hw476_0 := hx476_0
        obtain rfl : ad465 = ad476 := (by injection e476)
        replace hx476_0 := cl_ HB hx476_0
        have HR476_0 := Aside0.mk hi476_0
        have HC476_0 := Aside0.mk hl476_0
        clear hi476_0 hl476_0
        replace p476 := eq_true p476
        replace q476 := eq_true q476
        have p477 : 0 ≤ (x4_1 : Int) := of_decide_eq_true (g0_)
        have q477 : x4_1 < ((rd_L1 l0_1 x5_2).length : Int) := of_decide_eq_true (g0_)
        obtain ⟨ad477, e477, hx477_0⟩ := Kd.at_int HR476_0.out x4_1 p477 q477
        have hw477_0 := hx477_0
        cases e477
        replace hx477_0 := cl_ HB hx477_0
        replace p477 := eq_true p477
        replace q477 := eq_true q477
        have p35 : 0 ≤ (x4_1 : Int) := of_decide_eq_true (g0_)
        have q35 : (x4_1 : Int) < (((rd_L1 y474 x5_2).length : Int) : Int) := of_decide_eq_true (g0_)
        obtain ⟨go35, co35, eo35, gb35, gl35, cl35, HG35⟩ := Kd.R_form HL475_0.out (by omega)
        (first | cases eo35 | (injection eo35 with ea_ en_ ec_; (first | subst ea_ | (injection ea_ with ea_; subst ea_)); subst ec_; clear en_))
        have GB35 := Aside0.mk gb35
        have GG35 := Aside0.mk HG35
        clear gb35 gl35 HG35
        obtain ⟨hx35_0, hf35_0⟩ := Kd.R_celln 0 HL475_0.out (x4_1 : Int) p35 q35
        replace p35 := eq_true p35
        replace q35 := eq_true q35
        have hq43 : (x5_2 : Int) < (y474.length : Int) := (by have h_ : (x5_2 : Int) < ((x465001_2.length : Int) : Int) := of_decide_eq_true (g0_); first | exact h_ | (have e_ := (Kd.S_reads' HO_465001.out).1; omega) | simpa only [Ny474.out, List.length_set] using h_)
        obtain ⟨oki43, ce43, hcl43, hM43, hcc43, hok43, hbk43⟩ := Kd.S_borrow HO_465001.out [] (x5_2 : Int) (of_decide_eq_true (g0_)) (by first | exact hq43 | exact of_decide_eq_true (g0_) | (have e_ := (Kd.S_reads' HO_465001.out).1; omega))
        obtain ⟨ve43_0, rfl, ge43_0⟩ := hM43
        have hv43 := hcc43 0 _ rfl
        rw [Nat.add_zero, show ((Kd.slice 3 (Kd.int .i64))).sz = 1 from rfl, Nat.mul_one] at hv43
        replace hv43 := Option.some.inj (hv43.symm.trans HX475_0.out)
        subst hv43
        clear hcc43 hcl43
        replace ge43_0 := (show Kd.R (Kd.int .i64) 3 _ _ _ _ (rd_L1 y474 x5_2) from ge43_0)
        have HP43 := Kd.R_putg ge43_0 (x4_1 : Int) (wrap64 ((rd (rd_L1 l0_1 x5_2) x4_1) - (ji29)))
        rw [← Ny478.out] at HP43
        have HS43 := hbk43 HP43.2 (fun k_ e_ => by injection e_ with e_; subst e_; exact ge43_0.1 _ rfl) (x' := y478) (Kd.M_row HP43.1)
        rw [← Ny480.out] at HS43
        have HQ43 := Aside0.mk HS43
        clear HP43 HS43 hbk43 hok43
        refine start_ (n := 18) (S := fun w' => w'.cell? ⟨gb464, 0, none⟩ = some (u465000) ∧ w'.cell? ⟨gb464, 1, none⟩ = some (.slice (some ad469) x465001_2.length co38) ∧ w'.cell? ⟨gb455, 0, none⟩ = some (.slice A0_0 l0_0.length c0_0) ∧ w'.cell? ⟨gb455, 1, none⟩ = some (.slice (some ad465) l0_1.length c0_1) ∧ w'.cell? (ad469.add (x5_2).toNat) = some (.slice (some ⟨go35, 0, none⟩) (rd_L1 y474 x5_2).length c475_0) ∧ w'.cell? (ad465.add (x5_2).toNat) = some (.slice (some ad477) (rd_L1 l0_1 x5_2).length c476_0) ∧ w'.cell? (ad477.add (x4_1).toNat) = some (.int .i64 (rd (rd_L1 l0_1 x5_2) x4_1))) (ds := [17]) (tl_ 18 0) (g1_) rfl (g1_) ⟨(blk_cell BK464.out 0).trans rfl, (blk_cell BK464.out 1).trans rfl, (blk_cell BK455.out 0).trans rfl, (blk_cell BK455.out 1).trans rfl, hx475_0, ((cl_ HB hw476_0).trans rfl), ((cl_ HB hw477_0).trans rfl)⟩ (fun hHeld => ?_); refine with_tabW spec_Netted.tab12 spec_Netted.bits12 (fun HT_ HW_ => ?_)
        generalize w41.drew = w42 at HO_465000 HO_465001 BK455 BK456 BK464 HB GG35 HL475_0 HQ39 HQ43 HR475_0 HR476_0 HX475_0 hf35_0 hx35_0 hx475_0 hx476_0 hx477_0 hHeld ⊢
        refine pw_ 0 59 (tl_ 18 1) rfl rfl ?_
        refine pw_ 2 61 (tl_ 18 5) rfl rfl ?_
        refine pw_ 5 64 (tl_ 18 37) rfl rfl ?_
        refine pw_ 6 65 (tl_ 18 101) rfl rfl ?_
        refine pw_ 8 67 (tl_ 18 357) rfl rfl ?_
        refine pw_ 11 70 (tl_ 18 2405) rfl rfl ?_
        refine pw_ 14 73 (tl_ 18 18789) rfl rfl ?_
        refine tk5_ 1 60 (tl_ 18 18791) rfl rfl hHeld ?_
        refine pw_ 3 62 (tl_ 18 18799) rfl rfl ?_
        refine tk5_ 4 63 (tl_ 18 18815) rfl rfl hHeld ?_
        refine tk5_ 7 66 (tl_ 18 18943) rfl rfl hHeld ?_
        refine pw_ 9 68 (tl_ 18 19455) rfl rfl ?_
        refine tk5_ 10 69 (tl_ 18 20479) rfl rfl hHeld ?_
        refine pw_ 12 71 (tl_ 18 24575) rfl rfl ?_
        refine tk5_ 13 72 (tl_ 18 32767) rfl rfl hHeld ?_
        refine pw_ 15 74 (tl_ 18 65535) rfl rfl ?_
        refine pw_ 16 75 (tl_ 18 131071) rfl rfl ?_
        refine last_ (i := 17) (N := none) (tl_ 18 262143) rfl rfl (one_of HT_.out (g1_)) (by decide) (fun K hK => ?_)
        refine skip_ (w1 := ?_) (by rfl) rfl ?_ ?_
        rotate_left
        ·go_simp
         rfl
        refine hK.out _ _ ?_
        clear hK K
        refine done_ (done_of HT_.out (g1_)) ?_
        try go_wp2
        go_roundg k2
        case measure => have := HK1.out; have := HK2.out; omega
        case rel => exact ⟨(wrap64 (x5_2 + 1)), (x465000_2), (y480), (u465000), (.slice (some ad469) x465001_2.length co38), (g3_), H', ⟨g11_⟩, ⟨by (with_reducible repeat (first | apply Kd.R_alloc | apply Kd.R_drewN | apply Kd.R_drew)); exact Kd.R_mono (Kd.R_far (p := ⟨go35, (x4_1 : Int).toNat, none⟩) (Kd.R_far1 HO_465000.out rfl ((HL475_0.out.1 _ rfl).1)) (fun _ hk => hk.2) (.int .i64 (wrap64 ((rd (rd_L1 l0_1 x5_2) x4_1) - (ji29))))) (fun _ hk => trivial)⟩, ⟨uf2_ HQ43⟩, ⟨by (with_reducible repeat (first | refine blk_drewN ?_ _ | refine blk_drew ?_ | refine blk_alloc ?_ _)); refine blk_far ?_ (by have h_ := Kd.R_ne HL475_0.out BK455.out (by decide); intro e_; exact h_ (g7_)) _; (with_reducible repeat (first | refine blk_drewN ?_ _ | refine blk_drew ?_ | refine blk_alloc ?_ _)); exact BK455.out⟩, ⟨by (with_reducible repeat (first | refine blk_drewN ?_ _ | refine blk_drew ?_ | refine blk_alloc ?_ _)); refine blk_far ?_ (by have h_ := Kd.R_ne HL475_0.out BK456.out (by decide); intro e_; exact h_ (g7_)) _; (with_reducible repeat (first | refine blk_drewN ?_ _ | refine blk_drew ?_ | refine blk_alloc ?_ _)); exact BK456.out⟩, ⟨by (with_reducible repeat (first | refine blk_drewN ?_ _ | refine blk_drew ?_ | refine blk_alloc ?_ _)); refine blk_far ?_ (by have h_ := Kd.R_ne HL475_0.out BK464.out (by decide); intro e_; exact h_ (g7_)) _; (with_reducible repeat (first | refine blk_drewN ?_ _ | refine blk_drew ?_ | refine blk_alloc ?_ _)); exact BK464.out⟩, ⟨qz1_⟩⟩
       ·rw [if_neg c22] at H
        have c22b0 := decide_eq_false c22
        clear c22
        have H' := Aside0.mk H
        clear H
        go_wp2
        go_roundg k2
        case measure => have := HK1.out; have := HK2.out; omega
        case rel => exact ⟨(wrap64 (x4_1 + 1)), (x465000_2), (x465001_2), (u465000), (u465001), (g3_), H', ⟨g11_⟩, ⟨uf1_ HO_465000⟩, ⟨uf2_ HO_465001⟩, ⟨uf0_ BK455⟩, ⟨uf0_ BK456⟩, ⟨uf0_ BK464⟩, ⟨qz1_⟩⟩
    ·rw [if_neg c18] at H
     have c18b0 := decide_eq_false c18
     clear c18
     simp only [Option.some.injEq, Prod.mk.injEq] at H
     obtain ⟨rfl, rfl⟩ := H
     have hnb45 := NB455_456.out
     have hnc45 := NB456_455.out
     have hnb46 := NB455_464.out
     have hnc46 := NB464_455.out
     obtain ⟨hcz47_0, hcz47_1, hfz47_0, hfz47_1⟩ := blk2_ BK455
     have hnb48 := NB464_456.out
     have hnc48 := NB456_464.out
     obtain ⟨hcz49_0, hcz49_1, hfz49_0, hfz49_1⟩ := blk2_ BK464
     obtain ⟨Ao50, co50, eo50⟩ := Kd.R_slice HO_465000.out
     subst eo50
     obtain ⟨hcz51_0, hcz51_1, hfz51_0, hfz51_1⟩ := blk2_ BK456
     obtain ⟨Ao52, co52, eo52⟩ := Kd.S_slice HO_465001.out
     subst eo52
     go_wp2
     refine bodyPost_ret (results_cell_row rfl _ _ gb456 25 #[.slice Ao50 x465000_1.length co50, .slice Ao52 x465001_1.length co52] (0, 0) _ rfl (by (with_reducible repeat (first | refine blk_drewN ?_ _ | refine blk_drew ?_ | refine blk_alloc ?_ _)); refine blk_put (cs := #[.slice Ao50 x465000_1.length co50, .slice none 0 0]) ?_ 1 _ rfl; (with_reducible repeat (first | refine blk_drewN ?_ _ | refine blk_drew ?_ | refine blk_alloc ?_ _)); refine blk_put (cs := #[.slice none 0 0, .slice none 0 0]) ?_ 0 _ rfl; (with_reducible repeat (first | refine blk_drewN ?_ _ | refine blk_drew ?_ | refine blk_alloc ?_ _)); exact BK456.out) Try.underlying25 rfl (g1_)) rfl ?_
     exact ⟨_, _, g4_, by (with_reducible repeat (first | apply Kd.R_alloc | apply Kd.R_drewN | apply Kd.R_drew)); exact Kd.R_mono (Kd.R_far (p := ⟨gb456, 1, none⟩) (Kd.R_far (p := ⟨gb456, 0, none⟩) (Kd.R_types HO_465000.out BK456.out (by decide)) (fun _ hk => hk.2) (.slice Ao50 x465000_1.length co50)) (fun _ hk => hk.2) (.slice Ao52 x465001_1.length co52)) (fun _ hk => trivial), by (with_reducible repeat (first | apply Kd.S_alloc | apply Kd.S_drewN | apply Kd.S_drew)); exact Kd.S_mono (Kd.S_far (p := ⟨gb456, 1, none⟩) (Kd.S_far (p := ⟨gb456, 0, none⟩) (Kd.S_types HO_465001.out BK456.out (by decide)) (fun _ hk => hk.2) (.slice Ao50 x465000_1.length co50)) (fun _ hk => hk.2) (.slice Ao52 x465001_1.length co52)) (fun _ hk => hk.1), qz1_⟩
 ·replace c3 := Bool.eq_false_iff.mpr c3
  subst c3
  replace H := ifn_ H
  simp only [Option.some.injEq, Prod.mk.injEq] at H
  obtain ⟨rfl, rfl⟩ := H
  go_enter Try.func41, Try.ntmps41
  go_wp2_with (first | ((with_reducible refine gate_dst (N := 1) rfl ?_); refine bx_ (N := 1) #[.slice A0_0 l0_0.length c0_0, .slice A0_1 l0_1.length c0_1] 25 ?_; intro gb455 hg w53 hbox hb; have BK455 := Aside0.mk (hbox); have GW455 := Aside0.mk ((g16_ : w.heap.size ≤ gb455)); have GE455 := Aside0.mk ((g16_ : w.heap.size ≤ gb455)); replace HB := Aside0.mk (below_step (qz1_) hb); clear hb hbox hg) | ((with_reducible refine gate_dst (N := 2) rfl ?_); refine bx_ (N := 2) #[.slice none 0 0, .slice none 0 0] 25 ?_; intro gb456 hg w54 hbox hb; have BK456 := Aside0.mk (hbox); have GW456 := Aside0.mk ((g16_ : w.heap.size ≤ gb456)); have GE456 := Aside0.mk ((g16_ : w.heap.size ≤ gb456)); replace HB := Aside0.mk (below_step (qz1_) hb); have NB455_456 := Aside0.mk ((g53_ : gb455 ≠ gb456)); have NB456_455 := Aside0.mk ((g54_ : gb456 ≠ gb455)); replace BK455 := bb_ BK455 hb; clear hb hbox hg; have hnb55 := NB455_456.out; have hnc55 := NB456_455.out; obtain ⟨hcz56_0, hcz56_1, hfz56_0, hfz56_1⟩ := blk2_ BK455) | ((with_reducible refine gate_callee (f := 42) rfl ?_); refine goesL_ (some 8) rfl rfl Try.func42 k_ rfl #[.agg #[.slice A0_0 l0_0.length c0_0, .slice A0_1 l0_1.length c0_1]] rfl (g2_) ?_; (with_reducible refine (spec_BookOk.calls k _ _ l0_0 _ _ l0_1 false _ ?side1 ?side2 ?side3 ?side4 A2.out).mono ?_); (case side1 => exact uf3_ HR0_0); (case side2 => exact HC0_0.out); (case side3 => exact uf3_ HR0_1); (case side4 => exact HC0_1.out); rintro e w57 ⟨rfl, hb⟩; refine ⟨_, rfl, ?_⟩; replace BK455 := bb_ BK455 hb; replace BK456 := bb_ BK456 hb; replace HB := Aside0.mk (below_step (qz1_) hb); (try clear hb); (try clear hk hi); obtain ⟨hcz58_0, hcz58_1, hfz58_0, hfz58_1⟩ := blk2_ BK456))
  refine bodyPost_ret (results_cell_row rfl _ _ gb456 25 #[.slice none 0 0, .slice none 0 0] (0, 0) _ rfl (by (with_reducible repeat (first | refine blk_drewN ?_ _ | refine blk_drew ?_ | refine blk_alloc ?_ _)); refine blk_put (cs := #[.slice none 0 0, .slice none 0 0]) ?_ 1 _ rfl; (with_reducible repeat (first | refine blk_drewN ?_ _ | refine blk_drew ?_ | refine blk_alloc ?_ _)); refine blk_put (cs := #[.slice none 0 0, .slice none 0 0]) ?_ 0 _ rfl; (with_reducible repeat (first | refine blk_drewN ?_ _ | refine blk_drew ?_ | refine blk_alloc ?_ _)); exact BK456.out) Try.underlying25 rfl (g1_)) rfl ?_
  exact ⟨_, _, g4_, g14_, g17_, qz1_⟩
def laws_noBook.f (k : Nat) (l0_0 : List Int) (l0_1 : List (List Int)) : Option (Bool) := (laws_sameBook.f k l0_0 l0_1 ([] : List Int) ([] : List (List Int))).bind fun t482 => (some t482)
theorem laws_noBook.mq {p : Prop} (h : p := by
 repeat' first
 | (with_reducible exact laws_sameBook.mono _ _ _ _ _)
 | (with_reducible exact LeO.refl _)
 | (with_reducible exact LeO.none _)
 | (with_reducible refine LeO.ite ?_ ?_)
 | (with_reducible refine LeO.bind ?_ (fun _ => ?_))
 | exact laws_sameBook.mono _ _ _ _ _
 | exact LeO.none _
 | refine LeO.ite ?_ ?_
 | refine LeO.bind ?_ (fun _ => ?_)) : p := h
theorem laws_noBook.mono : ∀ a0 a1 k, LeO (laws_noBook.f k a0 a1) (laws_noBook.f (k + 1) a0 a1) := by
 intro a0 a1 k
 unfold laws_noBook.f
 exact laws_noBook.mq
theorem qz29_ {p : Prop} (h : p := by repeat (first | (with_reducible first | exact HB.out | apply below_alloc | apply pw_below_drewN | apply below_drew1 | refine below_set ?_ GE481.out) | exact HB.out)) : p := h
set_option maxHeartbeats 8000000 in
set_option maxRecDepth 100000 in
theorem laws_noBook.calls (k : Nat) (A0_0 : Option Addr) (c0_0 : Nat) (l0_0 : List Int) (A0_1 : Option Addr) (c0_1 : Nat) (l0_1 : List (List Int)) (r : Bool) (w : World) (hr0_0 : Kd.C (Kd.int .i64) w A0_0 l0_0.length l0_0) (hc0_0 : l0_0.length ≤ c0_0) (hr0_1 : Kd.C (Kd.slice 3 (Kd.int .i64)) w A0_1 l0_1.length l0_1) (hc0_1 : l0_1.length ≤ c0_1) (h : laws_noBook.f k l0_0 l0_1 = some r) :
  Calls Try.prog 43 #[.agg #[.slice A0_0 l0_0.length c0_0, .slice A0_1 l0_1.length c0_1]] w fun e w' => e = .returned (.bool r) ∧ Below w.heap.size w w' := by
 have hu25 := Try.underlying25
 have HR0_0 := Aside0.mk hr0_0
 have HC0_0 := Aside0.mk hc0_0
 clear hr0_0 hc0_0
 have HR0_1 := Aside0.mk hr0_1
 have HC0_1 := Aside0.mk hc0_1
 clear hr0_1 hc0_1
 have HB := Aside0.mk (Below.refl w.heap.size w)
 have H : ((laws_sameBook.f k l0_0 l0_1 ([] : List Int) ([] : List (List Int))).bind fun t482 => (some t482)) = some r := h
 clear h
 obtain ⟨t482, A2, H⟩ := bind_ H
 obtain rfl := Option.some.inj H
 go_enter Try.func43, Try.ntmps43
 go_wp2_with (first | ((with_reducible refine gate_dst (N := 1) rfl ?_); refine bx_ (N := 1) #[.slice A0_0 l0_0.length c0_0, .slice A0_1 l0_1.length c0_1] 25 ?_; intro gb481 hg w3 hbox hb; have BK481 := Aside0.mk (hbox); have GW481 := Aside0.mk ((by rw [hg]; exact (below_size (qz29_)) : w.heap.size ≤ gb481)); have GE481 := Aside0.mk ((by rw [hg]; exact (below_size (qz29_)) : w.heap.size ≤ gb481)); replace HB := Aside0.mk (below_step (qz29_) hb); clear hb hbox hg; obtain ⟨hcz4_0, hcz4_1, hfz4_0, hfz4_1⟩ := blk2_ BK481) | ((with_reducible refine gate_callee (f := 40) rfl ?_); refine goesL_ (some 5) rfl rfl Try.func40 k_ rfl #[.agg #[.slice A0_0 l0_0.length c0_0, .slice A0_1 l0_1.length c0_1], .agg #[.slice none 0 0, .slice none 0 0]] rfl (g2_) ?_; (refine (laws_sameBook.calls k _ _ l0_0 _ _ l0_1 _ _ ([] : List Int) _ _ ([] : List (List Int)) t482 _ ?side1 ?side2 ?side3 ?side4 ?side5 ?side6 ?side7 ?side8 A2.out).mono ?_); (case side1 => exact uf3_ HR0_0); (case side2 => exact HC0_0.out); (case side3 => exact uf3_ HR0_1); (case side4 => exact HC0_1.out); (case side5 => exact Kd.C_nil _ _); (case side6 => exact Nat.le_refl _); (case side7 => exact Kd.C_nil _ _); (case side8 => exact Nat.le_refl _); rintro e w5 ⟨rfl, hb⟩; refine ⟨_, rfl, ?_⟩; replace BK481 := bb_ BK481 hb; replace HB := Aside0.mk (below_step (qz29_) hb); (try clear hb); (try clear hk hi)))
 go_ret
 exact ⟨g4_, qz29_⟩
def impl_BookOk.f (k : Nat) (l0_0 : List Int) (l0_1 : List (List Int)) : Option (Bool) := (impl_isBook.f k l0_0 l0_1).bind fun t484 => (some t484)
theorem impl_BookOk.mq {p : Prop} (h : p := by
 repeat' first
 | (with_reducible exact impl_isBook.mono _ _ _)
 | (with_reducible exact LeO.refl _)
 | (with_reducible exact LeO.none _)
 | (with_reducible refine LeO.ite ?_ ?_)
 | (with_reducible refine LeO.bind ?_ (fun _ => ?_))
 | exact impl_isBook.mono _ _ _
 | exact LeO.none _
 | refine LeO.ite ?_ ?_
 | refine LeO.bind ?_ (fun _ => ?_)) : p := h
theorem impl_BookOk.mono : ∀ a0 a1 k, LeO (impl_BookOk.f k a0 a1) (impl_BookOk.f (k + 1) a0 a1) := by
 intro a0 a1 k
 unfold impl_BookOk.f
 exact impl_BookOk.mq
theorem qz30_ {p : Prop} (h : p := by repeat (first | (with_reducible first | exact HB.out | apply below_alloc | apply pw_below_drewN | apply below_drew1 | refine below_set ?_ GE483.out) | exact HB.out)) : p := h
set_option maxHeartbeats 8000000 in
set_option maxRecDepth 100000 in
theorem impl_BookOk.calls (k : Nat) (A0_0 : Option Addr) (c0_0 : Nat) (l0_0 : List Int) (A0_1 : Option Addr) (c0_1 : Nat) (l0_1 : List (List Int)) (r : Bool) (w : World) (hr0_0 : Kd.C (Kd.int .i64) w A0_0 l0_0.length l0_0) (hc0_0 : l0_0.length ≤ c0_0) (hr0_1 : Kd.C (Kd.slice 3 (Kd.int .i64)) w A0_1 l0_1.length l0_1) (hc0_1 : l0_1.length ≤ c0_1) (h : impl_BookOk.f k l0_0 l0_1 = some r) :
  Calls Try.prog 44 #[.agg #[.slice A0_0 l0_0.length c0_0, .slice A0_1 l0_1.length c0_1]] w fun e w' => e = .returned (.bool r) ∧ Below w.heap.size w w' := by
 have hu25 := Try.underlying25
 have HR0_0 := Aside0.mk hr0_0
 have HC0_0 := Aside0.mk hc0_0
 clear hr0_0 hc0_0
 have HR0_1 := Aside0.mk hr0_1
 have HC0_1 := Aside0.mk hc0_1
 clear hr0_1 hc0_1
 have HB := Aside0.mk (Below.refl w.heap.size w)
 have H : ((impl_isBook.f k l0_0 l0_1).bind fun t484 => (some t484)) = some r := h
 clear h
 obtain ⟨t484, A2, H⟩ := bind_ H
 obtain rfl := Option.some.inj H
 go_enter Try.func44, Try.ntmps44
 go_wp2_with (first | ((with_reducible refine gate_dst (N := 1) rfl ?_); refine bx_ (N := 1) #[.slice A0_0 l0_0.length c0_0, .slice A0_1 l0_1.length c0_1] 25 ?_; intro gb483 hg w3 hbox hb; have BK483 := Aside0.mk (hbox); have GW483 := Aside0.mk ((by rw [hg]; exact (below_size (qz30_)) : w.heap.size ≤ gb483)); have GE483 := Aside0.mk ((by rw [hg]; exact (below_size (qz30_)) : w.heap.size ≤ gb483)); replace HB := Aside0.mk (below_step (qz30_) hb); clear hb hbox hg; obtain ⟨hcz4_0, hcz4_1, hfz4_0, hfz4_1⟩ := blk2_ BK483) | ((with_reducible refine gate_callee (f := 73) rfl ?_); refine goesL_ (some 4) rfl rfl Try.func73 k_ rfl #[.agg #[.slice A0_0 l0_0.length c0_0, .slice A0_1 l0_1.length c0_1]] rfl (g2_) ?_; (with_reducible refine (impl_isBook.calls k _ _ l0_0 _ _ l0_1 t484 _ ?side1 ?side2 ?side3 ?side4 A2.out).mono ?_); (case side1 => exact uf3_ HR0_0); (case side2 => exact HC0_0.out); (case side3 => exact uf3_ HR0_1); (case side4 => exact HC0_1.out); rintro e w5 ⟨rfl, hb⟩; refine ⟨_, rfl, ?_⟩; replace BK483 := bb_ BK483 hb; replace HB := Aside0.mk (below_step (qz30_) hb); (try clear hb); (try clear hk hi)))
 go_ret
 exact ⟨g4_, qz30_⟩
mutual
def impl_owed.l0 : Nat → List Int → List (List Int) → Int → Int → Option (List Int)
 | 0, _, _, _, _ => none
 | k + 1, x3, x13, x14, x15 => if x15 < x14 then (if 0 ≤ x15 then (if x15 < (x13.length : Int) then (impl_owed.l1 k x3 x13 x14 x15 (rd_L1 x13 x15) ((rd_L1 x13 x15).length : Int) 0) else (none)) else (none)) else (some x3)
def impl_owed.l1 : Nat → List Int → List (List Int) → Int → Int → List Int → Int → Int → Option (List Int)
 | 0, _, _, _, _, _, _, _ => none
 | k + 1, x3, x13, x14, x15, x19, x20, x21 => if x21 < x20 then (if 0 ≤ x21 then (if x21 < (x19.length : Int) then (if x21 < (x3.length : Int) then (impl_owed.l1 k (x3.set (x21 : Int).toNat (wrap64 ((rd x3 x21) + (rd x19 x21)))) x13 x14 x15 x19 x20 (wrap64 (x21 + 1))) else (none)) else (none)) else (none)) else (impl_owed.l0 k x3 x13 x14 (wrap64 (x15 + 1)))
end
def impl_owed.f (k : Nat) (l0_0 : List Int) (l0_1 : List (List Int)) : Option (List Int) := if 0 ≤ (l0_0.length : Int) then (if ((l0_0.length : Int) : Int).toNat ≤ 35184372088832 then (impl_owed.l0 k (List.replicate ((l0_0.length : Int) : Int).toNat 0) l0_1 (l0_1.length : Int) 0) else (none)) else (none)
theorem impl_owed.mq {p : Prop} (h : p := by
 repeat' first
 | (with_reducible exact ih0 _ _ _ _)
 | (with_reducible exact ih1 _ _ _ _ _ _ _)
 | (with_reducible exact LeO.refl _)
 | (with_reducible exact LeO.none _)
 | (with_reducible refine LeO.ite ?_ ?_)
 | (with_reducible refine LeO.bind ?_ (fun _ => ?_))
 | exact ih0 _ _ _ _
 | exact ih1 _ _ _ _ _ _ _
 | exact LeO.none _
 | refine LeO.ite ?_ ?_
 | refine LeO.bind ?_ (fun _ => ?_)) : p := h
theorem impl_owed.mono_l : ∀ k, (∀ y0 y1 y2 y3, LeO (impl_owed.l0 k y0 y1 y2 y3) (impl_owed.l0 (k + 1) y0 y1 y2 y3)) ∧ (∀ y0 y1 y2 y3 y4 y5 y6, LeO (impl_owed.l1 k y0 y1 y2 y3 y4 y5 y6) (impl_owed.l1 (k + 1) y0 y1 y2 y3 y4 y5 y6))
 | 0 => ⟨fun _ _ _ _ r h => by simp [impl_owed.l0] at h, fun _ _ _ _ _ _ _ r h => by simp [impl_owed.l1] at h⟩
 | k + 1 => by
  obtain ⟨ih0, ih1⟩ := impl_owed.mono_l k
  refine ⟨?_, ?_⟩
  ·intro y0 y1 y2 y3
   unfold impl_owed.l0
   exact impl_owed.mq
  ·intro y0 y1 y2 y3 y4 y5 y6
   unfold impl_owed.l1
   exact impl_owed.mq
theorem impl_owed.mono : ∀ a0 a1 k, LeO (impl_owed.f k a0 a1) (impl_owed.f (k + 1) a0 a1) := by
 intro a0 a1 k
 obtain ⟨ih0, ih1⟩ := impl_owed.mono_l k
 unfold impl_owed.f
 exact impl_owed.mq
theorem qz31_ {p : Prop} (h : p := by repeat (first | (with_reducible first | exact HB.out | apply below_alloc | apply pw_below_drewN | apply below_drew1 | refine below_set ?_ GE485.out) | exact HB.out)) : p := h
set_option maxHeartbeats 8000000 in
set_option maxRecDepth 100000 in
theorem impl_owed.calls (k : Nat) (A0_0 : Option Addr) (c0_0 : Nat) (l0_0 : List Int) (A0_1 : Option Addr) (c0_1 : Nat) (l0_1 : List (List Int)) (r : List Int) (w : World) (hr0_0 : Kd.C (Kd.int .i64) w A0_0 l0_0.length l0_0) (hc0_0 : l0_0.length ≤ c0_0) (hr0_1 : Kd.C (Kd.slice 3 (Kd.int .i64)) w A0_1 l0_1.length l0_1) (hc0_1 : l0_1.length ≤ c0_1) (h : impl_owed.f k l0_0 l0_1 = some r) :
  Calls Try.prog 112 #[.agg #[.slice A0_0 l0_0.length c0_0, .slice A0_1 l0_1.length c0_1]] w fun e w' => ∃ v0_ : Value, e = .returned (v0_) ∧ Kd.R (Kd.int .i64) 3 w' w.heap.size (fun _ => True) v0_ r ∧ Below w.heap.size w w' := by
 have hu25 := Try.underlying25
 have HR0_0 := Aside0.mk hr0_0
 have HC0_0 := Aside0.mk hc0_0
 clear hr0_0 hc0_0
 have HR0_1 := Aside0.mk hr0_1
 have HC0_1 := Aside0.mk hc0_1
 clear hr0_1 hc0_1
 have HB := Aside0.mk (Below.refl w.heap.size w)
 have H : (if 0 ≤ (l0_0.length : Int) then (if ((l0_0.length : Int) : Int).toNat ≤ 35184372088832 then (impl_owed.l0 k (List.replicate ((l0_0.length : Int) : Int).toNat 0) l0_1 (l0_1.length : Int) 0) else (none)) else (none)) = some r := h
 clear h
 obtain ⟨c2, H⟩ := pos_ H
 have c2b0 := eq_true c2
 have c2b1 := decide_eq_true c2
 clear c2
 obtain ⟨c3, H⟩ := pos_ H
 have c3b0 := eq_true c3
 have c3b1 := decide_eq_true c3
 clear c3
 obtain ⟨y486, hy486⟩ : ∃ y_ : List Int, y_ = (List.replicate ((l0_0.length : Int) : Int).toNat 0) := ⟨_, rfl⟩
 replace H : (impl_owed.l0 k y486 l0_1 (l0_1.length : Int) 0) = some r := by first | (rw [hy486]; with_reducible exact H) | (have H2_ := (Option.bind_some _ _).symm.trans H; rw [hy486]; with_reducible exact H2_) | (have H2_ := (Option.bind_some _ _).symm.trans H; with_reducible exact H2_) | with_reducible exact H | (rw [hy486]; exact H) | exact H
 have Ny486 := Aside0.mk hy486
 clear hy486
 have H' := Aside0.mk H
 clear H
 go_enter Try.func112, Try.ntmps112
 go_wp2_with (first | ((with_reducible refine gate_dst (N := 1) rfl ?_); refine bx_ (N := 1) #[.slice A0_0 l0_0.length c0_0, .slice A0_1 l0_1.length c0_1] 25 ?_; intro gb485 hg w4 hbox hb; have BK485 := Aside0.mk (hbox); have GW485 := Aside0.mk ((by rw [hg]; exact (below_size (qz31_)) : w.heap.size ≤ gb485)); have GE485 := Aside0.mk ((by rw [hg]; exact (below_size (qz31_)) : w.heap.size ≤ gb485)); replace HB := Aside0.mk (below_step (qz31_) hb); clear hb hbox hg; obtain ⟨hcz5_0, hcz5_1, hfz5_0, hfz5_1⟩ := blk2_ BK485) | ((with_reducible refine gate_dst (N := 11) rfl ?_); refine Kd.R_make (Kd.int .i64) _ 3 rfl (N := 11) rfl 22 _ _ rfl (l0_0.length : Int) rfl rfl Try.underlying22 (.int .i64 0) 8 info3 rfl (by decide) (by omega) 0 (ok := fun _ => True) (okp := fun _ => True) rfl (fun _ hk => hk) trivial (of_decide_eq_true (g0_)) (Nat.le_trans (Nat.mul_le_mul_right _ (of_decide_eq_true (g0_) : (l0_0.length : Int).toNat ≤ 35184372088832)) (by omega)) (Below.refl _ _) (Nat.le_refl _) ?_; intro v487 w6 ho7 hb hg_ hnew_; clear hg_ hnew_; (first | rw [← Ny486.out] at ho7 | (simp only [Int.reduceToNat] at ho7; rw [← Ny486.out] at ho7)); have HO488 := Aside0.mk (Kd.R_lower ho7 (below_size (qz31_))); replace BK485 := bb_ BK485 hb; replace HB := Aside0.mk (below_step (qz31_) hb); clear hb ho7; obtain ⟨hcz8_0, hcz8_1, hfz8_0, hfz8_1⟩ := blk2_ BK485))
 go_loopg [15] k (fun kq v15 w' => ∃ (x3_1 : List Int) (x15_1 : Int), v15 = .int .i64 x15_1 ∧ Aside0 (impl_owed.l0 kq x3_1 l0_1 (l0_1.length : Int) x15_1 = some r) ∧ Aside0 (kq ≤ k) ∧ Aside0 (Kd.R (Kd.int .i64) 3 w' w.heap.size (fun _ => True) v487 x3_1) ∧ Aside0 (w'.heap[gb485]? = some (.cells #[(.slice A0_0 l0_0.length c0_0), (.slice A0_1 l0_1.length c0_1)] 25 (0, 0))) ∧ Aside0 (Below w.heap.size w w'))
 case atStart => exact ⟨(y486), (0), (g3_), H', ⟨Nat.le_refl _⟩, ⟨uf1_ HO488⟩, ⟨uf0_ BK485⟩, ⟨qz31_⟩⟩
 case round =>
  clear H'
  try clear c1
  try clear c2
  try clear c2b0
  try clear c2b1
  try clear p2
  try clear c3
  try clear c3b0
  try clear c3b1
  try clear hcz5_0
  try clear hcz5_1
  try clear hcz8_0
  try clear hcz8_1
  try clear hfz5_0
  try clear hfz5_1
  try clear hfz8_0
  try clear hfz8_1
  obtain ⟨x3_1, x15_1, rfl, HA, HK1, HO_3, BK485, HB⟩ := hrel
  cases gk with
  | zero => exact absurd HA.out (by simp [impl_owed.l0])
  | succ k1 =>
   have H := HA.out
   clear HA
   simp only [impl_owed.l0] at H
   by_cases c9 : x15_1 < (l0_1.length : Int)
   ·rw [if_pos c9] at H
    have c9b0 := decide_eq_true c9
    clear c9
    obtain ⟨c10, H⟩ := pos_ H
    have c10b0 := decide_eq_true c10
    clear c10
    obtain ⟨c11, H⟩ := pos_ H
    have c11b0 := decide_eq_true c11
    clear c11
    have H' := Aside0.mk H
    clear H
    have p489 : 0 ≤ (x15_1 : Int) := of_decide_eq_true (g0_)
    have q489 : x15_1 < (l0_1.length : Int) := of_decide_eq_true (g0_)
    obtain ⟨ad489, A489_0, c489_0, e489, hx489_0, hl489_0, hi489_0⟩ := at_L1 HR0_1.out x15_1 p489 q489
    cases e489
    replace hx489_0 := cl_ HB hx489_0
    have HR489_0 := Aside0.mk hi489_0
    have HC489_0 := Aside0.mk hl489_0
    clear hi489_0 hl489_0
    replace p489 := eq_true p489
    replace q489 := eq_true q489
    go_wp2
    go_loopg [21] k1 (fun kq v21 w' => ∃ (x3_2 : List Int) (x21_2 : Int), v21 = .int .i64 x21_2 ∧ Aside0 (impl_owed.l1 kq x3_2 l0_1 (l0_1.length : Int) x15_1 (rd_L1 l0_1 x15_1) ((rd_L1 l0_1 x15_1).length : Int) x21_2 = some r) ∧ Aside0 (kq ≤ k1) ∧ Aside0 (Kd.R (Kd.int .i64) 3 w' w.heap.size (fun _ => True) v487 x3_2) ∧ Aside0 (w'.heap[gb485]? = some (.cells #[(.slice A0_0 l0_0.length c0_0), (.slice (some ad489) l0_1.length c0_1)] 25 (0, 0))) ∧ Aside0 (Below w.heap.size w w'))
    case atStart => exact ⟨(x3_1), (0), (g3_), H', ⟨Nat.le_refl _⟩, ⟨uf1_ HO_3⟩, ⟨uf0_ BK485⟩, ⟨qz31_⟩⟩
    case round =>
     clear H'
     try clear c1
     try clear c2
     try clear c2b0
     try clear c2b1
     try clear p2
     try clear c3
     try clear c3b0
     try clear c3b1
     try clear c4
     try clear p4
     try clear q4
     try clear hx4
     try clear c9
     try clear c9b0
     try clear c10
     try clear c10b0
     try clear c11
     try clear c11b0
     try clear hcz5_0
     try clear hcz5_1
     try clear hcz8_0
     try clear hcz8_1
     try clear hfz5_0
     try clear hfz5_1
     try clear hfz8_0
     try clear hfz8_1
     try clear hx489_0
     try clear p2
     try clear p489
     try clear q489
     obtain ⟨x3_2, x21_2, rfl, HA, HK2, HO_3, BK485, HB⟩ := hrel
     cases gk with
     | zero => exact absurd HA.out (by simp [impl_owed.l1])
     | succ k2 =>
      have H := HA.out
      clear HA
      simp only [impl_owed.l1] at H
      by_cases c12 : x21_2 < ((rd_L1 l0_1 x15_1).length : Int)
      ·rw [if_pos c12] at H
       have c12b0 := decide_eq_true c12
       clear c12
       obtain ⟨c13, H⟩ := pos_ H
       have c13b0 := decide_eq_true c13
       clear c13
       obtain ⟨c14, H⟩ := pos_ H
       have c14b0 := decide_eq_true c14
       clear c14
       obtain ⟨c15, H⟩ := pos_ H
       have c15b0 := decide_eq_true c15
       clear c15
       obtain ⟨y492, hy492⟩ : ∃ y_ : List Int, y_ = (x3_2.set (x21_2 : Int).toNat (wrap64 ((rd x3_2 x21_2) + (rd (rd_L1 l0_1 x15_1) x21_2)))) := ⟨_, rfl⟩
       replace H : (impl_owed.l1 k2 y492 l0_1 (l0_1.length : Int) x15_1 (rd_L1 l0_1 x15_1) ((rd_L1 l0_1 x15_1).length : Int) (wrap64 (x21_2 + 1))) = some r := by first | (rw [hy492]; with_reducible exact H) | (have H2_ := (Option.bind_some _ _).symm.trans H; rw [hy492]; with_reducible exact H2_) | (have H2_ := (Option.bind_some _ _).symm.trans H; with_reducible exact H2_) | with_reducible exact H | (rw [hy492]; exact H) | exact H
       have Ny492 := Aside0.mk hy492
       clear hy492
       have H' := Aside0.mk H
       clear H
       have p490 : 0 ≤ (x21_2 : Int) := of_decide_eq_true (g0_)
       have q490 : x21_2 < ((rd_L1 l0_1 x15_1).length : Int) := of_decide_eq_true (g0_)
       obtain ⟨ad490, e490, hx490_0⟩ := Kd.at_int HR489_0.out x21_2 p490 q490
       cases e490
       replace hx490_0 := cl_ HB hx490_0
       replace p490 := eq_true p490
       replace q490 := eq_true q490
       obtain ⟨Ao17, co17, eo17⟩ := Kd.R_slice HO_3.out
       subst eo17
       have p491 : 0 ≤ (x21_2 : Int) := of_decide_eq_true (g0_)
       have q491 : x21_2 < (x3_2.length : Int) := of_decide_eq_true (g0_)
       obtain ⟨ad491, e491, hx491_0⟩ := Kd.at_int (Kd.R_reads' HO_3.out).2.2 x21_2 p491 q491
       cases e491
       replace p491 := eq_true p491
       replace q491 := eq_true q491
       have p16 : 0 ≤ (x21_2 : Int) := of_decide_eq_true (g0_)
       have q16 : (x21_2 : Int) < ((x3_2.length : Int) : Int) := of_decide_eq_true (g0_)
       obtain ⟨go16, co16, eo16, gb16, gl16, cl16, HG16⟩ := Kd.R_form HO_3.out (by omega)
       (first | cases eo16 | (injection eo16 with ea_ en_ ec_; (first | subst ea_ | (injection ea_ with ea_; subst ea_)); subst ec_; clear en_))
       have GB16 := Aside0.mk gb16
       have GG16 := Aside0.mk HG16
       clear gb16 gl16 HG16
       (first | simp only [add_plain] at hx491_0 | skip)
       obtain ⟨hx16_0, hf16_0⟩ := Kd.R_celln 0 HO_3.out (x21_2 : Int) p16 q16
       replace p16 := eq_true p16
       replace q16 := eq_true q16
       have HP18 := Kd.R_putg HO_3.out (x21_2 : Int) (wrap64 ((rd x3_2 x21_2) + (rd (rd_L1 l0_1 x15_1) x21_2)))
       go_wp2_with (first | ((with_reducible refine gate_store (t := 3) (p := 32) rfl ?_); refine store_event (t := 3) (p := 32) (v := ?vo_w19) (w1 := (wr.setCell ⟨go16, (x21_2 : Int).toNat, none⟩ (.int .i64 (wrap64 ((rd x3_2 x21_2) + (rd (rd_L1 l0_1 x15_1) x21_2)))))) ?hg ?ho ?hn ?hr ?_; (case ho => rfl); (case hg => rfl); (case hn => rfl); (case hr => first | (go_simp; done) | (go_simp; rfl)); intro w19 hw; have hg : wr.grownBy w19 (some go16) := (by rw [hw]; exact HP18.2); have hp_ : Kd.R (Kd.int .i64) 3 w19 w.heap.size (fun _ => True) (.slice (some ⟨go16, 0, none⟩) x3_2.length co17) y492 := (by rw [hw, Ny492.out]; exact HP18.1); clear HP18; replace BK485 := Aside0.mk (blk_grown (g := gb485) (o := .cells #[.slice A0_0 l0_0.length c0_0, .slice (some ad489) l0_1.length c0_1] 25 (0, 0)) (uf0_ BK485) hg (Kd.R_ne HO_3.out BK485.out (by decide))); replace HO_3 := Aside0.mk (hp_); replace HB := Aside0.mk ((by rw [hw]; exact below_set (HB.out) GB16.out : Below w.heap.size w w19)); clear hg hw hp_))
       go_roundg k2
       case measure => have := HK1.out; have := HK2.out; omega
       case rel => exact ⟨(y492), (wrap64 (x21_2 + 1)), (g3_), H', ⟨g11_⟩, ⟨uf1_ HO_3⟩, ⟨uf0_ BK485⟩, ⟨qz31_⟩⟩
      ·rw [if_neg c12] at H
       have c12b0 := decide_eq_false c12
       clear c12
       have H' := Aside0.mk H
       clear H
       go_wp2
       go_roundg k2
       case measure => have := HK1.out; have := HK2.out; omega
       case rel => exact ⟨(x3_2), (wrap64 (x15_1 + 1)), (g3_), H', ⟨g11_⟩, ⟨uf1_ HO_3⟩, ⟨uf0_ BK485⟩, ⟨qz31_⟩⟩
   ·rw [if_neg c9] at H
    have c9b0 := decide_eq_false c9
    clear c9
    obtain rfl := Option.some.inj H
    go_wp2
    go_ret
    exact ⟨_, g4_, uf1_ HO_3, qz31_⟩
def impl_nets.l0 : Nat → List Int → List Int → Int → Int → Option (List Int)
 | 0, _, _, _, _ => none
 | k + 1, x3, x9, x10, x11 => if x11 < x10 then (if 0 ≤ x11 then (if x11 < (x9.length : Int) then (if x11 < (x3.length : Int) then (impl_nets.l0 k (x3.set (x11 : Int).toNat (wrap64 ((rd x3 x11) - (rd x9 x11)))) x9 x10 (wrap64 (x11 + 1))) else (none)) else (none)) else (none)) else (some x3)
def impl_nets.f (k : Nat) (l0_0 : List Int) (l0_1 : List (List Int)) : Option (List Int) := (impl_owed.f k l0_0 l0_1).bind fun t494 => ((impl_owes.f k l0_0 l0_1).bind fun t497 => (impl_nets.l0 k t494 t497 (t497.length : Int) 0))
theorem impl_nets.mq {p : Prop} (h : p := by
 repeat' first
 | (with_reducible exact ih0 _ _ _ _)
 | (with_reducible exact impl_owed.mono _ _ _)
 | (with_reducible exact impl_owes.mono _ _ _)
 | (with_reducible exact LeO.refl _)
 | (with_reducible exact LeO.none _)
 | (with_reducible refine LeO.ite ?_ ?_)
 | (with_reducible refine LeO.bind ?_ (fun _ => ?_))
 | exact ih0 _ _ _ _
 | exact impl_owed.mono _ _ _
 | exact impl_owes.mono _ _ _
 | exact LeO.none _
 | refine LeO.ite ?_ ?_
 | refine LeO.bind ?_ (fun _ => ?_)) : p := h
theorem impl_nets.mono_l : ∀ k, (∀ y0 y1 y2 y3, LeO (impl_nets.l0 k y0 y1 y2 y3) (impl_nets.l0 (k + 1) y0 y1 y2 y3))
 | 0 => fun _ _ _ _ r h => by simp [impl_nets.l0] at h
 | k + 1 => by
  have ih0 := impl_nets.mono_l k
  ·intro y0 y1 y2 y3
   unfold impl_nets.l0
   exact impl_nets.mq
theorem impl_nets.mono : ∀ a0 a1 k, LeO (impl_nets.f k a0 a1) (impl_nets.f (k + 1) a0 a1) := by
 intro a0 a1 k
 have ih0 := impl_nets.mono_l k
 unfold impl_nets.f
 exact impl_nets.mq
theorem qz32_ {p : Prop} (h : p := by repeat (first | (with_reducible first | exact HB.out | apply below_alloc | apply pw_below_drewN | apply below_drew1 | refine below_set ?_ GE493.out) | exact HB.out)) : p := h
set_option maxHeartbeats 8000000 in
set_option maxRecDepth 100000 in
theorem impl_nets.calls (k : Nat) (A0_0 : Option Addr) (c0_0 : Nat) (l0_0 : List Int) (A0_1 : Option Addr) (c0_1 : Nat) (l0_1 : List (List Int)) (r : List Int) (w : World) (hr0_0 : Kd.C (Kd.int .i64) w A0_0 l0_0.length l0_0) (hc0_0 : l0_0.length ≤ c0_0) (hr0_1 : Kd.C (Kd.slice 3 (Kd.int .i64)) w A0_1 l0_1.length l0_1) (hc0_1 : l0_1.length ≤ c0_1) (h : impl_nets.f k l0_0 l0_1 = some r) :
  Calls Try.prog 94 #[.agg #[.slice A0_0 l0_0.length c0_0, .slice A0_1 l0_1.length c0_1]] w fun e w' => ∃ v0_ : Value, e = .returned (v0_) ∧ Kd.R (Kd.int .i64) 3 w' w.heap.size (fun _ => True) v0_ r ∧ Below w.heap.size w w' := by
 have hu25 := Try.underlying25
 have HR0_0 := Aside0.mk hr0_0
 have HC0_0 := Aside0.mk hc0_0
 clear hr0_0 hc0_0
 have HR0_1 := Aside0.mk hr0_1
 have HC0_1 := Aside0.mk hc0_1
 clear hr0_1 hc0_1
 have HB := Aside0.mk (Below.refl w.heap.size w)
 have H : ((impl_owed.f k l0_0 l0_1).bind fun t494 => ((impl_owes.f k l0_0 l0_1).bind fun t497 => (impl_nets.l0 k t494 t497 (t497.length : Int) 0))) = some r := h
 clear h
 obtain ⟨t494, A2, H⟩ := bind_ H
 obtain ⟨t497, A3, H⟩ := bind_ H
 have H' := Aside0.mk H
 clear H
 go_enter Try.func94, Try.ntmps94
 go_wp2_with (first | ((with_reducible refine gate_dst (N := 1) rfl ?_); refine bx_ (N := 1) #[.slice A0_0 l0_0.length c0_0, .slice A0_1 l0_1.length c0_1] 25 ?_; intro gb493 hg w4 hbox hb; have BK493 := Aside0.mk (hbox); have GW493 := Aside0.mk ((by rw [hg]; exact (below_size (qz32_)) : w.heap.size ≤ gb493)); have GE493 := Aside0.mk ((by rw [hg]; exact (below_size (qz32_)) : w.heap.size ≤ gb493)); replace HB := Aside0.mk (below_step (qz32_) hb); clear hb hbox hg; obtain ⟨hcz5_0, hcz5_1, hfz5_0, hfz5_1⟩ := blk2_ BK493) | ((with_reducible refine gate_callee (f := 112) rfl ?_); refine goesL_ (some 7) rfl rfl Try.func112 k_ rfl #[.agg #[.slice A0_0 l0_0.length c0_0, .slice A0_1 l0_1.length c0_1]] rfl (g2_) ?_; (with_reducible refine (impl_owed.calls k _ _ l0_0 _ _ l0_1 t494 _ ?side1 ?side2 ?side3 ?side4 A2.out).mono ?_); (case side1 => exact uf3_ HR0_0); (case side2 => exact HC0_0.out); (case side3 => exact uf3_ HR0_1); (case side4 => exact HC0_1.out); rintro e w6 ⟨v495, rfl, ho0, hb⟩; refine ⟨_, rfl, ?_⟩; have HO496 := Aside0.mk (Kd.R_lower ho0 (below_size (qz32_))); replace BK493 := bb_ BK493 hb; replace HB := Aside0.mk (below_step (qz32_) hb); (try clear hb); (try clear hk hi); (try clear ho0); obtain ⟨hcz7_0, hcz7_1, hfz7_0, hfz7_1⟩ := blk2_ BK493) | ((with_reducible refine gate_callee (f := 74) rfl ?_); refine goesL_ (some 9) rfl rfl Try.func74 k_ rfl #[.agg #[.slice A0_0 l0_0.length c0_0, .slice A0_1 l0_1.length c0_1]] rfl (g2_) ?_; (with_reducible refine (impl_owes.calls k _ _ l0_0 _ _ l0_1 t497 _ ?side1 ?side2 ?side3 ?side4 A3.out).mono ?_); (case side1 => exact uf3_ HR0_0); (case side2 => exact HC0_0.out); (case side3 => exact uf3_ HR0_1); (case side4 => exact HC0_1.out); rintro e w8 ⟨v498, rfl, ho0, hb⟩; refine ⟨_, rfl, ?_⟩; have HO499 := Aside0.mk (Kd.R_lower (Kd.R_new' ho0 (Kd.R_lt (uf1_ HO496))) (below_size (qz32_))); replace HO496 := Aside0.mk (Kd.R_elder' (uf1_ HO496) (Kd.R_base ho0) hb); replace BK493 := bb_ BK493 hb; replace HB := Aside0.mk (below_step (qz32_) hb); (try clear hb); (try clear hk hi); (try clear ho0); obtain ⟨Ao9, co9, eo9⟩ := Kd.R_slice HO499.out; subst eo9))
 go_loopg [11] k (fun kq v11 w' => ∃ (x3_1 : List Int) (x11_1 : Int), v11 = .int .i64 x11_1 ∧ Aside0 (impl_nets.l0 kq x3_1 t497 (t497.length : Int) x11_1 = some r) ∧ Aside0 (kq ≤ k) ∧ Aside0 (Kd.R (Kd.int .i64) 3 w' w.heap.size (fun k_ => some k_ ≠ ((.slice Ao9 t497.length co9) : Value).ownBlock) v495 x3_1) ∧ Aside0 (Kd.R (Kd.int .i64) 3 w' w.heap.size (fun k_ => some k_ ≠ (v495 : Value).ownBlock) (.slice Ao9 t497.length co9) t497) ∧ Aside0 (w'.heap[gb493]? = some (.cells #[(.slice A0_0 l0_0.length c0_0), (.slice A0_1 l0_1.length c0_1)] 25 (0, 0))) ∧ Aside0 (Below w.heap.size w w'))
 case atStart => exact ⟨(t494), (0), (g3_), H', ⟨Nat.le_refl _⟩, ⟨by (with_reducible repeat (first | apply Kd.R_alloc | apply Kd.R_drewN | apply Kd.R_drew)); exact Kd.R_mono HO496.out (fun _ hk => hk.2)⟩, ⟨by (with_reducible repeat (first | apply Kd.R_alloc | apply Kd.R_drewN | apply Kd.R_drew)); exact Kd.R_mono HO499.out (fun _ hk => hk.2)⟩, ⟨uf0_ BK493⟩, ⟨qz32_⟩⟩
 case round =>
  clear H'
  try clear c1
  try clear p2
  try clear c7
  try clear c9
  try clear hcz5_0
  try clear hcz5_1
  try clear hcz7_0
  try clear hcz7_1
  try clear hfz5_0
  try clear hfz5_1
  try clear hfz7_0
  try clear hfz7_1
  obtain ⟨x3_1, x11_1, rfl, HA, HK1, HO_3, HO_9, BK493, HB⟩ := hrel
  cases gk with
  | zero => exact absurd HA.out (by simp [impl_nets.l0])
  | succ k1 =>
   have H := HA.out
   clear HA
   simp only [impl_nets.l0] at H
   by_cases c10 : x11_1 < (t497.length : Int)
   ·rw [if_pos c10] at H
    have c10b0 := decide_eq_true c10
    clear c10
    obtain ⟨c11, H⟩ := pos_ H
    have c11b0 := decide_eq_true c11
    clear c11
    obtain ⟨c12, H⟩ := pos_ H
    have c12b0 := decide_eq_true c12
    clear c12
    obtain ⟨c13, H⟩ := pos_ H
    have c13b0 := decide_eq_true c13
    clear c13
    obtain ⟨y502, hy502⟩ : ∃ y_ : List Int, y_ = (x3_1.set (x11_1 : Int).toNat (wrap64 ((rd x3_1 x11_1) - (rd t497 x11_1)))) := ⟨_, rfl⟩
    replace H : (impl_nets.l0 k1 y502 t497 (t497.length : Int) (wrap64 (x11_1 + 1))) = some r := by first | (rw [hy502]; with_reducible exact H) | (have H2_ := (Option.bind_some _ _).symm.trans H; rw [hy502]; with_reducible exact H2_) | (have H2_ := (Option.bind_some _ _).symm.trans H; with_reducible exact H2_) | with_reducible exact H | (rw [hy502]; exact H) | exact H
    have Ny502 := Aside0.mk hy502
    clear hy502
    have H' := Aside0.mk H
    clear H
    have p500 : 0 ≤ (x11_1 : Int) := of_decide_eq_true (g0_)
    have q500 : x11_1 < (t497.length : Int) := of_decide_eq_true (g0_)
    obtain ⟨ad500, e500, hx500_0⟩ := Kd.at_int (Kd.R_reads' HO_9.out).2.2 x11_1 p500 q500
    cases e500
    replace p500 := eq_true p500
    replace q500 := eq_true q500
    obtain ⟨Ao15, co15, eo15⟩ := Kd.R_slice HO_3.out
    subst eo15
    have p501 : 0 ≤ (x11_1 : Int) := of_decide_eq_true (g0_)
    have q501 : x11_1 < (x3_1.length : Int) := of_decide_eq_true (g0_)
    obtain ⟨ad501, e501, hx501_0⟩ := Kd.at_int (Kd.R_reads' HO_3.out).2.2 x11_1 p501 q501
    cases e501
    replace p501 := eq_true p501
    replace q501 := eq_true q501
    have p14 : 0 ≤ (x11_1 : Int) := of_decide_eq_true (g0_)
    have q14 : (x11_1 : Int) < ((x3_1.length : Int) : Int) := of_decide_eq_true (g0_)
    obtain ⟨go14, co14, eo14, gb14, gl14, cl14, HG14⟩ := Kd.R_form HO_3.out (by omega)
    (first | cases eo14 | (injection eo14 with ea_ en_ ec_; (first | subst ea_ | (injection ea_ with ea_; subst ea_)); subst ec_; clear en_))
    have GB14 := Aside0.mk gb14
    have GG14 := Aside0.mk HG14
    clear gb14 gl14 HG14
    (first | simp only [add_plain] at hx501_0 | skip)
    obtain ⟨hx14_0, hf14_0⟩ := Kd.R_celln 0 HO_3.out (x11_1 : Int) p14 q14
    replace p14 := eq_true p14
    replace q14 := eq_true q14
    have HP16 := Kd.R_putg HO_3.out (x11_1 : Int) (wrap64 ((rd x3_1 x11_1) - (rd t497 x11_1)))
    go_wp2_with (first | ((with_reducible refine gate_store (t := 3) (p := 22) rfl ?_); refine store_event (t := 3) (p := 22) (v := ?vo_w17) (w1 := (wr.setCell ⟨go14, (x11_1 : Int).toNat, none⟩ (.int .i64 (wrap64 ((rd x3_1 x11_1) - (rd t497 x11_1)))))) ?hg ?ho ?hn ?hr ?_; (case ho => rfl); (case hg => rfl); (case hn => rfl); (case hr => first | (go_simp; done) | (go_simp; rfl)); intro w17 hw; have hg : wr.grownBy w17 (some go14) := (by rw [hw]; exact HP16.2); have hp_ : Kd.R (Kd.int .i64) 3 w17 w.heap.size (fun k_ => some k_ ≠ (.slice (some ad500) t497.length co9 : Value).ownBlock) (.slice (some ⟨go14, 0, none⟩) x3_1.length co15) y502 := (by rw [hw, Ny502.out]; exact HP16.1); clear HP16; replace HO_9 := Aside0.mk (Kd.R_after (v := (.slice (some ⟨go14, 0, none⟩) x3_1.length co15)) (v1 := (.slice (some ⟨go14, 0, none⟩) x3_1.length co15)) (ok := (fun _ => True)) (by (with_reducible repeat (first | apply Kd.R_alloc | apply Kd.R_drewN | apply Kd.R_drew)); exact Kd.R_mono HO_9.out (fun _ hk => ⟨trivial, hk⟩)) hg (.inl rfl)); replace BK493 := Aside0.mk (blk_grown (g := gb493) (o := .cells #[.slice A0_0 l0_0.length c0_0, .slice A0_1 l0_1.length c0_1] 25 (0, 0)) (uf0_ BK493) hg (Kd.R_ne HO_3.out BK493.out (by decide))); replace HO_3 := Aside0.mk (hp_); replace HB := Aside0.mk ((by rw [hw]; exact below_set (HB.out) GB14.out : Below w.heap.size w w17)); clear hg hw hp_))
    go_roundg k1
    case measure => have := HK1.out; omega
    case rel => exact ⟨(y502), (wrap64 (x11_1 + 1)), (g3_), H', ⟨g8_⟩, ⟨uf1_ HO_3⟩, ⟨by (with_reducible repeat (first | apply Kd.R_alloc | apply Kd.R_drewN | apply Kd.R_drew)); exact Kd.R_mono HO_9.out (fun _ hk => hk.2)⟩, ⟨uf0_ BK493⟩, ⟨qz32_⟩⟩
   ·rw [if_neg c10] at H
    have c10b0 := decide_eq_false c10
    clear c10
    obtain rfl := Option.some.inj H
    go_wp2
    go_ret
    exact ⟨_, g4_, by (with_reducible repeat (first | apply Kd.R_alloc | apply Kd.R_drewN | apply Kd.R_drew)); exact Kd.R_mono HO_3.out (fun _ hk => trivial), qz32_⟩
def impl_NetsOf.f (k : Nat) (l0_0 : List Int) (l0_1 : List (List Int)) : Option (List Int) := (impl_isBook.f k l0_0 l0_1).bind fun t504 => (if t504 = true then ((impl_nets.f k l0_0 l0_1).bind fun t505 => (some t505)) else (some ([] : List Int)))
theorem impl_NetsOf.mq {p : Prop} (h : p := by
 repeat' first
 | (with_reducible exact impl_isBook.mono _ _ _)
 | (with_reducible exact impl_nets.mono _ _ _)
 | (with_reducible exact LeO.refl _)
 | (with_reducible exact LeO.none _)
 | (with_reducible refine LeO.ite ?_ ?_)
 | (with_reducible refine LeO.bind ?_ (fun _ => ?_))
 | exact impl_isBook.mono _ _ _
 | exact impl_nets.mono _ _ _
 | exact LeO.none _
 | refine LeO.ite ?_ ?_
 | refine LeO.bind ?_ (fun _ => ?_)) : p := h
theorem impl_NetsOf.mono : ∀ a0 a1 k, LeO (impl_NetsOf.f k a0 a1) (impl_NetsOf.f (k + 1) a0 a1) := by
 intro a0 a1 k
 unfold impl_NetsOf.f
 exact impl_NetsOf.mq
theorem qz11_ {p : Prop} (h : p := by repeat (first | (with_reducible first | exact HB.out | apply below_alloc | apply pw_below_drewN | apply below_drew1 | refine below_set ?_ GE503.out) | exact HB.out)) : p := h
set_option maxHeartbeats 8000000 in
set_option maxRecDepth 100000 in
theorem impl_NetsOf.calls (k : Nat) (A0_0 : Option Addr) (c0_0 : Nat) (l0_0 : List Int) (A0_1 : Option Addr) (c0_1 : Nat) (l0_1 : List (List Int)) (r : List Int) (w : World) (hr0_0 : Kd.C (Kd.int .i64) w A0_0 l0_0.length l0_0) (hc0_0 : l0_0.length ≤ c0_0) (hr0_1 : Kd.C (Kd.slice 3 (Kd.int .i64)) w A0_1 l0_1.length l0_1) (hc0_1 : l0_1.length ≤ c0_1) (h : impl_NetsOf.f k l0_0 l0_1 = some r) :
  Calls Try.prog 46 #[.agg #[.slice A0_0 l0_0.length c0_0, .slice A0_1 l0_1.length c0_1]] w fun e w' => ∃ v0_ : Value, e = .returned (v0_) ∧ Kd.R (Kd.int .i64) 3 w' w.heap.size (fun _ => True) v0_ r ∧ Below w.heap.size w w' := by
 have hu25 := Try.underlying25
 have HR0_0 := Aside0.mk hr0_0
 have HC0_0 := Aside0.mk hc0_0
 clear hr0_0 hc0_0
 have HR0_1 := Aside0.mk hr0_1
 have HC0_1 := Aside0.mk hc0_1
 clear hr0_1 hc0_1
 have HB := Aside0.mk (Below.refl w.heap.size w)
 have H : ((impl_isBook.f k l0_0 l0_1).bind fun t504 => (if t504 = true then ((impl_nets.f k l0_0 l0_1).bind fun t505 => (some t505)) else (some ([] : List Int)))) = some r := h
 clear h
 obtain ⟨t504, A2, H⟩ := bind_ H
 by_cases c3 : t504 = true
 ·subst c3
  replace H := ifp_ H
  obtain ⟨t505, A4, H⟩ := bind_ H
  obtain rfl := Option.some.inj H
  go_enter Try.func46, Try.ntmps46
  go_wp2_with (first | ((with_reducible refine gate_dst (N := 1) rfl ?_); refine bx_ (N := 1) #[.slice A0_0 l0_0.length c0_0, .slice A0_1 l0_1.length c0_1] 25 ?_; intro gb503 hg w5 hbox hb; have BK503 := Aside0.mk (hbox); have GW503 := Aside0.mk ((g37_ : w.heap.size ≤ gb503)); have GE503 := Aside0.mk ((g37_ : w.heap.size ≤ gb503)); replace HB := Aside0.mk (below_step (qz11_) hb); clear hb hbox hg; obtain ⟨hcz6_0, hcz6_1, hfz6_0, hfz6_1⟩ := blk2_ BK503) | ((with_reducible refine gate_callee (f := 73) rfl ?_); refine goesL_ (some 4) rfl rfl Try.func73 k_ rfl #[.agg #[.slice A0_0 l0_0.length c0_0, .slice A0_1 l0_1.length c0_1]] rfl (g2_) ?_; (with_reducible refine (impl_isBook.calls k _ _ l0_0 _ _ l0_1 true _ ?side1 ?side2 ?side3 ?side4 A2.out).mono ?_); (case side1 => exact uf3_ HR0_0); (case side2 => exact HC0_0.out); (case side3 => exact uf3_ HR0_1); (case side4 => exact HC0_1.out); rintro e w7 ⟨rfl, hb⟩; refine ⟨_, rfl, ?_⟩; replace BK503 := bb_ BK503 hb; replace HB := Aside0.mk (below_step (qz11_) hb); (try clear hb); (try clear hk hi); obtain ⟨hcz8_0, hcz8_1, hfz8_0, hfz8_1⟩ := blk2_ BK503) | ((with_reducible refine gate_callee (f := 94) rfl ?_); refine goesL_ (some 7) rfl rfl Try.func94 k_ rfl #[.agg #[.slice A0_0 l0_0.length c0_0, .slice A0_1 l0_1.length c0_1]] rfl (g2_) ?_; (with_reducible refine (impl_nets.calls k _ _ l0_0 _ _ l0_1 t505 _ ?side1 ?side2 ?side3 ?side4 A4.out).mono ?_); (case side1 => exact uf3_ HR0_0); (case side2 => exact HC0_0.out); (case side3 => exact uf3_ HR0_1); (case side4 => exact HC0_1.out); rintro e w9 ⟨v506, rfl, ho0, hb⟩; refine ⟨_, rfl, ?_⟩; have HO507 := Aside0.mk (Kd.R_lower ho0 (below_size (qz11_))); replace BK503 := bb_ BK503 hb; replace HB := Aside0.mk (below_step (qz11_) hb); (try clear hb); (try clear hk hi); (try clear ho0)))
  go_ret
  exact ⟨_, g4_, uf1_ HO507, qz11_⟩
 ·replace c3 := Bool.eq_false_iff.mpr c3
  subst c3
  replace H := ifn_ H
  obtain rfl := Option.some.inj H
  go_enter Try.func46, Try.ntmps46
  go_wp2_with (first | ((with_reducible refine gate_dst (N := 1) rfl ?_); refine bx_ (N := 1) #[.slice A0_0 l0_0.length c0_0, .slice A0_1 l0_1.length c0_1] 25 ?_; intro gb503 hg w10 hbox hb; have BK503 := Aside0.mk (hbox); have GW503 := Aside0.mk ((g37_ : w.heap.size ≤ gb503)); have GE503 := Aside0.mk ((g37_ : w.heap.size ≤ gb503)); replace HB := Aside0.mk (below_step (qz11_) hb); clear hb hbox hg; obtain ⟨hcz11_0, hcz11_1, hfz11_0, hfz11_1⟩ := blk2_ BK503) | ((with_reducible refine gate_callee (f := 73) rfl ?_); refine goesL_ (some 4) rfl rfl Try.func73 k_ rfl #[.agg #[.slice A0_0 l0_0.length c0_0, .slice A0_1 l0_1.length c0_1]] rfl (g2_) ?_; (with_reducible refine (impl_isBook.calls k _ _ l0_0 _ _ l0_1 false _ ?side1 ?side2 ?side3 ?side4 A2.out).mono ?_); (case side1 => exact uf3_ HR0_0); (case side2 => exact HC0_0.out); (case side3 => exact uf3_ HR0_1); (case side4 => exact HC0_1.out); rintro e w12 ⟨rfl, hb⟩; refine ⟨_, rfl, ?_⟩; replace BK503 := bb_ BK503 hb; replace HB := Aside0.mk (below_step (qz11_) hb); (try clear hb); (try clear hk hi)))
  go_ret
  exact ⟨_, g4_, g14_, qz11_⟩
end Go.Proofs.Ytfooakkhkehpiaa.PU
