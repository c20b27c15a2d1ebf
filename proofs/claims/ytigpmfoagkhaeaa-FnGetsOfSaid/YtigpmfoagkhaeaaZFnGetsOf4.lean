/- FnGetsOf: for every input the law holds. No condition. -/
import Derived.Test.YtigpmfoagkhaeaaZFnGetsOf1
import Derived.Test.YtigpmfoagkhaeaaZFnGetsOf2
import Derived.Test.YtigpmfoagkhaeaaZFnGetsOf3
import Derived.Below
import Derived.Deep.Draws
import Derived.Deep.AppendLies
import Derived.Maps.AppendAt
import Derived.OwnWalk
import Derived.Laws.BytesArg
import Derived.Laws.MakeOwn
import Derived.Laws.OwnMore
import Derived.Deep.OwnRows
import Derived.Tactics
import Derived.Lib.ConvBytes
import Derived.Laws.Slices
import Derived.WalkKit
import Derived.KernelRfl
import Derived.RowKit3
import Derived.Deep.LoopGhost
import Derived.Deep.QuietTactic
import Derived.BigQuiet
import Derived.WideLaws
import Derived.Deep.DeepCutAuto
import Derived.Deep.CutBlock
import Derived.Deep.RegionHeld3
import Derived.Laws.Rows
import Derived.Lib.AppendStr
import Derived.ArgAppend
import Derived.Laws.IdiomCopy
import Derived.RowKit
import Derived.OrdersHeld
import Derived.Laws.BitsLemmas
import Derived.Laws.StructEq
import Derived.Test.YtigpmfoagkhaeaaProg
namespace Go.Proofs.Ytigpmfoagkhaeaa.PU
open Go.RowKit Go.Proofs.YtigpmfoagkhaeaaW.PrintWords Go.Proofs.YtigpmfoagkhaeaaW.PrintLast Go.Proofs.YtigpmfoagkhaeaaW.PrintMore Go.Proofs.Ytigpmfoagkhaeaa.Qd
attribute [local go_sem] max2_int min2_int max_two min_two max_three min_three max_four min_four   -- for this text's walks alone
set_option linter.unusedVariables false
set_option linter.unusedSimpArgs false
def spec_l20Pays.l0 : Nat → Int → List (S36) → List Int → Int → List Int → Int → Option ((List (S36)) × Int)
 | 0, _, _, _, _, _, _ => none
 | k + 1, x2, x7, x8, x9, x1000, x1001 => if x9 < (x8.length : Int) then (if 0 ≤ x9 then ((spec_l20Rd_pick.f k x1000 x1001 (wrap64 ((wrap64 ((rd x8 x9) * 6)) + 1))).bind fun bt456 => ((spec_l1Low.f k bt456.1 6).bind fun bt458 => ((spec_l20Rd_pick.f k x1000 bt456.2 4).bind fun bt462 => (if bt462.1 = 0 then (if x7.length < 8796093022208 then (spec_l20Pays.l0 k x2 (x7 ++ [(⟨rd x8 x9, 1⟩ : S36)]) x8 (wrap64 (x9 + 1)) x1000 bt462.2) else (none)) else (if bt462.1 = 1 then ((spec_l20Rd_pick.f k x1000 bt462.2 (wrap64 ((rd x8 x9) + 1))).bind fun bt469 => (if x7.length < 8796093022208 then (spec_l20Pays.l0 k x2 (x7 ++ [(⟨bt469.1, 1⟩ : S36)]) x8 (wrap64 (x9 + 1)) x1000 bt469.2) else (none))) else (if x7.length < 8796093022208 then (spec_l20Pays.l0 k x2 (x7 ++ [(⟨bt458.1, bt458.2.1⟩ : S36)]) x8 (wrap64 (x9 + 1)) x1000 bt462.2) else (none))))))) else (none)) else ((spec_l20Rd_odd.f k x1000 x1001 x2).bind fun bt477 => (if bt477.1 = true then (if (x7.length : Int) = 0 then (if x7.length < 8796093022208 then (some ((x7 ++ [(⟨0, 1⟩ : S36)]), bt477.2)) else (none)) else ((spec_l20Rd_pick.f k x1000 bt477.2 2).bind fun bt482 => (if bt482.1 = 0 then (if x7.length < 8796093022208 then (some ((x7 ++ [(⟨0, 1⟩ : S36)]), bt482.2)) else (none)) else ((some (([(⟨0, 0⟩ : S36), (⟨(-1), 1⟩ : S36), (⟨100, 1⟩ : S36)] : List (S36)) : List (S36))).bind fun y487 => ((spec_l20Rd_pick.f k x1000 bt482.2 3).bind fun bt490 => (if 0 ≤ bt490.1 then (if bt490.1 < (y487.length : Int) then (if 0 < (x7.length : Int) then (some ((x7.set (0 : Int).toNat (⟨(rd_T36 y487 bt490.1).f0, (rd_T36 y487 bt490.1).f1⟩ : S36)), bt490.2)) else (none)) else (none)) else (none))))))) else (some (x7, bt477.2))))
def spec_l20Pays.f (k : Nat) (s0_0 : List Int) (s0_1 : Int) (l1_0 : List Int) (l1_1 : List (List Int)) (a2 : Int) : Option ((List (S36)) × Int) := (spec_OwesOf.f k l1_0 l1_1).bind fun t452 => (spec_l20Pays.l0 k a2 (([] : List (S36))) t452 0 s0_0 s0_1)
theorem spec_l20Pays.mono_l : ∀ k, (∀ y0 y1 y2 y3 y4 y5, LeO (spec_l20Pays.l0 k y0 y1 y2 y3 y4 y5) (spec_l20Pays.l0 (k + 1) y0 y1 y2 y3 y4 y5))
 | 0 => fun _ _ _ _ _ _ r h => by simp [spec_l20Pays.l0] at h
 | k + 1 => by
  have ih0 := spec_l20Pays.mono_l k
  ·intro y0 y1 y2 y3 y4 y5
   unfold spec_l20Pays.l0
   repeat' first
   | (with_reducible exact ih0 _ _ _ _ _ _)
   | (with_reducible exact spec_OwesOf.mono _ _ _)
   | (with_reducible exact spec_l1Low.mono _ _ _)
   | (with_reducible exact spec_l20Rd_odd.mono _ _ _ _)
   | (with_reducible exact spec_l20Rd_pick.mono _ _ _ _)
   | (with_reducible exact LeO.refl _)
   | (with_reducible exact LeO.none _)
   | (with_reducible refine LeO.ite ?_ ?_)
   | (with_reducible refine LeO.bind ?_ (fun _ => ?_))
   | exact ih0 _ _ _ _ _ _
   | exact spec_OwesOf.mono _ _ _
   | exact spec_l1Low.mono _ _ _
   | exact spec_l20Rd_odd.mono _ _ _ _
   | exact spec_l20Rd_pick.mono _ _ _ _
   | exact LeO.none _
   | refine LeO.ite ?_ ?_
   | refine LeO.bind ?_ (fun _ => ?_)
theorem spec_l20Pays.mono : ∀ a0 a1 a2 a3 a4 k, LeO (spec_l20Pays.f k a0 a1 a2 a3 a4) (spec_l20Pays.f (k + 1) a0 a1 a2 a3 a4) := by
 intro a0 a1 a2 a3 a4 k
 have ih0 := spec_l20Pays.mono_l k
 unfold spec_l20Pays.f
 repeat' first
   | (with_reducible exact ih0 _ _ _ _ _ _)
   | (with_reducible exact spec_OwesOf.mono _ _ _)
   | (with_reducible exact spec_l1Low.mono _ _ _)
   | (with_reducible exact spec_l20Rd_odd.mono _ _ _ _)
   | (with_reducible exact spec_l20Rd_pick.mono _ _ _ _)
   | (with_reducible exact LeO.refl _)
   | (with_reducible exact LeO.none _)
   | (with_reducible refine LeO.ite ?_ ?_)
   | (with_reducible refine LeO.bind ?_ (fun _ => ?_))
   | exact ih0 _ _ _ _ _ _
   | exact spec_OwesOf.mono _ _ _
   | exact spec_l1Low.mono _ _ _
   | exact spec_l20Rd_odd.mono _ _ _ _
   | exact spec_l20Rd_pick.mono _ _ _ _
   | exact LeO.none _
   | refine LeO.ite ?_ ?_
   | refine LeO.bind ?_ (fun _ => ?_)
theorem spec_l20Pays.calls_q0 {p : Prop} (h : p := by repeat (first | (with_reducible first | exact HI0.out | apply IsS79.alloc | apply IsS79.drewN | apply IsS79.drew | apply IsS79.set_1 | refine IsS79.far ?_ NB0_448.out _ | refine IsS79.far ?_ NB0_461.out _) | exact HI0.out)) : p := h
theorem spec_l20Pays.calls_q1 {p : Prop} (h : p := by repeat (first | (with_reducible first | exact HK.out | apply KeepBut.set_ | apply keep_drewN | apply keep_drew | apply keep_alloc | refine keep_far ?_ GW448.out _ | refine keep_far ?_ GW461.out _) | exact HK.out)) : p := h
theorem spec_l20Pays.calls_q2 {p : Prop} (h : p := by repeat (first | (with_reducible first | exact HB.out | apply below_alloc | apply pw_below_drewN | apply below_drew1 | refine below_set ?_ (IsS79.ge HI0.out) | refine below_set ?_ GE448.out | refine below_set ?_ GE461.out) | exact HB.out)) : p := h
set_option maxHeartbeats 8000000 in
set_option maxRecDepth 100000 in
theorem spec_l20Pays.calls (k : Nat) (g : Nat) (s0_0 : List Int) (s0_1 : Int) (A1_0 : Option Addr) (c1_0 : Nat) (l1_0 : List Int) (A1_1 : Option Addr) (c1_1 : Nat) (l1_1 : List (List Int)) (a2 : Int) (r1 : List (S36)) (r2 : Int) (w0 w : World) (hI : IsS79 w0 w g s0_0 s0_1) (hB : Below w0.heap.size w0 w) (hr1_0 : Kd.C (Kd.int .i64) w A1_0 l1_0.length l1_0) (hc1_0 : l1_0.length ≤ c1_0) (hf1_0 : ∀ ad, A1_0 = some ad → 0 < l1_0.length → ad.block ≠ g) (hr1_1 : ∀ W_, KeepBut w W_ g none → Kd.C (Kd.slice 3 (Kd.int .i64)) W_ A1_1 l1_1.length l1_1) (hc1_1 : l1_1.length ≤ c1_1) (h : spec_l20Pays.f k s0_0 s0_1 l1_0 l1_1 a2 = some (r1, r2)) :
  Calls Try.prog 71 #[.pointer (some ⟨g, 0, none⟩), .agg #[.slice A1_0 l1_0.length c1_0, .slice A1_1 l1_1.length c1_1], .int .i64 a2] w fun e w' => ∃ v0_ : Value, e = .returned (v0_) ∧ Kd.R k36 36 w' w.heap.size (fun _ => True) v0_ r1 ∧ IsS79 w0 w' g s0_0 r2 ∧ Below w0.heap.size w0 w' ∧ KeepBut w w' g none := by
 have hu26 := Try.underlying26
 have hu36 := Try.underlying36
 have HR1_0 := Aside0.mk hr1_0
 have HC1_0 := Aside0.mk hc1_0
 clear hr1_0 hc1_0
 have HR1_1 := Aside0.mk hr1_1
 have HC1_1 := Aside0.mk hc1_1
 clear hr1_1 hc1_1
 have HI0 := Aside0.mk hI
 have HK := Aside0.mk (KeepBut.refl w g none)
 have HL := Aside0.mk hB.size
 clear hI
 have HW0 := Aside0.mk hB.size
 have HB := Aside0.mk hB
 clear hB
 have H : ((spec_OwesOf.f k l1_0 l1_1).bind fun t452 => (spec_l20Pays.l0 k a2 (([] : List (S36))) t452 0 s0_0 s0_1)) = some (r1, r2) := h
 clear h
 obtain ⟨y449, hy449⟩ : ∃ y_ : List (S36), y_ = (([] : List (S36))) := ⟨_, rfl⟩
 replace H : ((spec_OwesOf.f k l1_0 l1_1).bind fun t452 => (spec_l20Pays.l0 k a2 y449 t452 0 s0_0 s0_1)) = some (r1, r2) := by first | (rw [hy449]; with_reducible exact H) | (have H2_ := (Option.bind_some _ _).symm.trans H; rw [hy449]; with_reducible exact H2_) | (have H2_ := (Option.bind_some _ _).symm.trans H; with_reducible exact H2_) | with_reducible exact H | (rw [hy449]; exact H) | exact H
 have Ny449 := Aside0.mk hy449
 clear hy449
 obtain ⟨t452, A4, H⟩ := bind_ H
 have H' := Aside0.mk H
 clear H
 go_enter Try.func71, Try.ntmps71
 go_wp2_with (first | ((with_reducible refine gate_dst (N := 4) rfl ?_); refine bx_ (N := 4) #[.slice A1_0 l1_0.length c1_0, .slice A1_1 l1_1.length c1_1] 26 ?_; intro gb448 hg w5 hbox hb; replace HB := Aside0.mk (below_step (spec_l20Pays.calls_q2) hb); have BK448 := Aside0.mk (hbox); have GW448 := Aside0.mk ((g42_ : w.heap.size ≤ gb448)); have GE448 := Aside0.mk ((Nat.le_trans HW0.out (g42_ : w.heap.size ≤ gb448) : w0.heap.size ≤ gb448)); replace HK := Aside0.mk (KeepBut.trans (spec_l20Pays.calls_q1) (KeepBut.of_below hb g none) (.inl rfl)); have NB0_448 := Aside0.mk ((by rw [hg]; exact Nat.ne_of_lt (IsS79.lt (show IsS79 w0 _ g s0_0 s0_1 from spec_l20Pays.calls_q0)) : g ≠ gb448)); have NB448_0 := Aside0.mk ((by rw [hg]; exact Nat.ne_of_gt (IsS79.lt (show IsS79 w0 _ g s0_0 s0_1 from spec_l20Pays.calls_q0)) : gb448 ≠ g)); replace HI0 := Aside0.mk (IsS79.below (spec_l20Pays.calls_q0) hb); clear hb hbox hg) | ((with_reducible refine gate_dst (N := 12) rfl ?_); refine Kd.R_lit k36 _ 36 ?hg (N := 12) ?hd (xs := ([] : List (S36))) (inner := []) (ok := fun _ => True) (okp := fun _ => True) ?hr ?hp (fun _ hk => hk) trivial (Below.refl _ _) (Nat.le_refl _) (by simp) ?_; (case hd => rfl); (case hg => rfl); (case hr => first | (go_simp; done) | (go_simp; rfl)); (case hp => exact (Reps.none _ _)); intro v450 w6 ho7 hb hg_ hnew_; clear hg_ hnew_; (first | rw [← Ny449.out] at ho7 | (simp only [Int.reduceToNat] at ho7; rw [← Ny449.out] at ho7)); have HO451 := Aside0.mk (Kd.R_lower ho7 (keep_size (w := w) (g := g) (row := none) (spec_l20Pays.calls_q1))); replace BK448 := Aside0.mk (blk_below (g := gb448) (o := .cells #[.slice A1_0 l1_0.length c1_0, .slice A1_1 l1_1.length c1_1] 26 (0, 0)) (uf0_ BK448) hb); replace HK := Aside0.mk (KeepBut.trans (spec_l20Pays.calls_q1) (KeepBut.of_below hb g none) (.inl rfl)); replace HB := Aside0.mk (below_step (spec_l20Pays.calls_q2) hb); replace HI0 := Aside0.mk (IsS79.below (spec_l20Pays.calls_q0) hb); clear hb ho7; have hnb8 := NB448_0.out; have hnc8 := NB0_448.out; obtain ⟨hcz9_0, hcz9_1, hfz9_0, hfz9_1⟩ := blk2_ BK448) | ((with_reducible refine gate_callee (f := 62) rfl ?_); refine goesL_ (some 14) rfl rfl Try.func62 k_ rfl #[.agg #[.slice A1_0 l1_0.length c1_0, .slice A1_1 l1_1.length c1_1]] rfl (g2_) ?_; (with_reducible refine (spec_OwesOf.calls k _ _ l1_0 _ _ l1_1 t452 _ ?side1 ?side2 ?side3 ?side4 A4.out).mono ?_); (case side1 => exact Kd.C_keep 0 HR1_0.out (spec_l20Pays.calls_q1) hf1_0); (case side2 => exact HC1_0.out); (case side3 => exact Kd.C_foot_now HR1_1.out (spec_l20Pays.calls_q1)); (case side4 => exact HC1_1.out); rintro e w10 ⟨v453, rfl, ho0, hb⟩; refine ⟨_, rfl, ?_⟩; replace HO451 := Aside0.mk (Kd.R_below (uf1_ HO451) hb); have HO454 := Aside0.mk (Kd.R_lower ho0 (keep_size (w := w) (g := g) (row := none) (spec_l20Pays.calls_q1))); replace BK448 := Aside0.mk (blk_below (g := gb448) (o := .cells #[.slice A1_0 l1_0.length c1_0, .slice A1_1 l1_1.length c1_1] 26 (0, 0)) (uf0_ BK448) hb); replace HK := Aside0.mk (KeepBut.trans (spec_l20Pays.calls_q1) (KeepBut.of_below hb g none) (.inl rfl)); replace HB := Aside0.mk (below_step (spec_l20Pays.calls_q2) hb); replace HI0 := Aside0.mk (IsS79.below (spec_l20Pays.calls_q0) hb); (try clear hb); (try clear hk hi); (try clear ho0)))
 go_loopg [7, 9] k (fun kq v7 v9 w' => ∃ (x7_1 : List (S36)) (x9_1 : Int) (x1001_1 : Int), v9 = .int .i64 x9_1 ∧ Aside0 (spec_l20Pays.l0 kq a2 x7_1 t452 x9_1 s0_0 x1001_1 = some (r1, r2)) ∧ Aside0 (kq ≤ k) ∧ Aside0 (Kd.R k36 36 w' w.heap.size (fun _ => True) v7 x7_1) ∧ Aside0 (Kd.R (Kd.int .i64) 3 w' w.heap.size (fun _ => True) v453 t452) ∧ Aside0 (w'.heap[gb448]? = some (.cells #[(.slice A1_0 l1_0.length c1_0), (.slice A1_1 l1_1.length c1_1)] 26 (0, 0))) ∧ Aside0 (IsS79 w0 w' g s0_0 x1001_1) ∧ Aside0 (KeepBut w w' g none) ∧ Aside0 (Below w0.heap.size w0 w'))
 case atStart => exact ⟨(y449), (0), (s0_1), (g3_), H', ⟨Nat.le_refl _⟩, ⟨uf1_ HO451⟩, ⟨uf1_ HO454⟩, ⟨uf0_ BK448⟩, ⟨spec_l20Pays.calls_q0⟩, ⟨spec_l20Pays.calls_q1⟩, ⟨spec_l20Pays.calls_q2⟩⟩
 case round =>
  clear H'
  try clear c1
  try clear p2
  try clear c6
  try clear c7
  try clear c8
  try clear hcz9_0
  try clear hcz9_1
  try clear hfz9_0
  try clear hfz9_1
  obtain ⟨x7_1, x9_1, x1001_1, rfl, HA, HK1, HO_7, HO_8, BK448, HI0, HK, HB⟩ := hrel
  cases gk with
  | zero => exact absurd HA.out (by simp [spec_l20Pays.l0])
  | succ k1 =>
   have H := HA.out
   clear HA
   simp only [spec_l20Pays.l0] at H
   by_cases c11 : x9_1 < (t452.length : Int)
   ·rw [if_pos c11] at H
    have c11b0 := decide_eq_true c11
    clear c11
    by_cases c12 : 0 ≤ x9_1
    ·rw [if_pos c12] at H
     have c12b0 := decide_eq_true c12
     clear c12
     replace H := Option.bind_eq_some_iff.mp H
     obtain ⟨⟨t456, t457⟩, A130, H⟩ := H
     replace H : ((spec_l1Low.f k1 t456 6).bind fun bt458 => ((spec_l20Rd_pick.f k1 s0_0 t457 4).bind fun bt462 => (if bt462.1 = 0 then (if x7_1.length < 8796093022208 then (spec_l20Pays.l0 k1 a2 (x7_1 ++ [(⟨rd t452 x9_1, 1⟩ : S36)]) t452 (wrap64 (x9_1 + 1)) s0_0 bt462.2) else (none)) else (if bt462.1 = 1 then ((spec_l20Rd_pick.f k1 s0_0 bt462.2 (wrap64 ((rd t452 x9_1) + 1))).bind fun bt469 => (if x7_1.length < 8796093022208 then (spec_l20Pays.l0 k1 a2 (x7_1 ++ [(⟨bt469.1, 1⟩ : S36)]) t452 (wrap64 (x9_1 + 1)) s0_0 bt469.2) else (none))) else (if x7_1.length < 8796093022208 then (spec_l20Pays.l0 k1 a2 (x7_1 ++ [(⟨bt458.1, bt458.2.1⟩ : S36)]) t452 (wrap64 (x9_1 + 1)) s0_0 bt462.2) else (none)))))) = some (r1, r2) := H
     have A13 := Aside0.mk A130
     clear A130
     replace H := Option.bind_eq_some_iff.mp H
     obtain ⟨⟨t458, t459, t460⟩, A140, H⟩ := H
     replace H : ((spec_l20Rd_pick.f k1 s0_0 t457 4).bind fun bt462 => (if bt462.1 = 0 then (if x7_1.length < 8796093022208 then (spec_l20Pays.l0 k1 a2 (x7_1 ++ [(⟨rd t452 x9_1, 1⟩ : S36)]) t452 (wrap64 (x9_1 + 1)) s0_0 bt462.2) else (none)) else (if bt462.1 = 1 then ((spec_l20Rd_pick.f k1 s0_0 bt462.2 (wrap64 ((rd t452 x9_1) + 1))).bind fun bt469 => (if x7_1.length < 8796093022208 then (spec_l20Pays.l0 k1 a2 (x7_1 ++ [(⟨bt469.1, 1⟩ : S36)]) t452 (wrap64 (x9_1 + 1)) s0_0 bt469.2) else (none))) else (if x7_1.length < 8796093022208 then (spec_l20Pays.l0 k1 a2 (x7_1 ++ [(⟨t458, t459⟩ : S36)]) t452 (wrap64 (x9_1 + 1)) s0_0 bt462.2) else (none))))) = some (r1, r2) := H
     have A14 := Aside0.mk A140
     clear A140
     replace H := Option.bind_eq_some_iff.mp H
     obtain ⟨⟨t462, t463⟩, A150, H⟩ := H
     replace H : (if t462 = 0 then (if x7_1.length < 8796093022208 then (spec_l20Pays.l0 k1 a2 (x7_1 ++ [(⟨rd t452 x9_1, 1⟩ : S36)]) t452 (wrap64 (x9_1 + 1)) s0_0 t463) else (none)) else (if t462 = 1 then ((spec_l20Rd_pick.f k1 s0_0 t463 (wrap64 ((rd t452 x9_1) + 1))).bind fun bt469 => (if x7_1.length < 8796093022208 then (spec_l20Pays.l0 k1 a2 (x7_1 ++ [(⟨bt469.1, 1⟩ : S36)]) t452 (wrap64 (x9_1 + 1)) s0_0 bt469.2) else (none))) else (if x7_1.length < 8796093022208 then (spec_l20Pays.l0 k1 a2 (x7_1 ++ [(⟨t458, t459⟩ : S36)]) t452 (wrap64 (x9_1 + 1)) s0_0 t463) else (none)))) = some (r1, r2) := H
     have A15 := Aside0.mk A150
     clear A150
     by_cases c16 : t462 = 0
     ·rw [if_pos c16] at H
      have c16b0 : (t462 == 0) = true := beq_iff_eq.mpr c16
      have c16b1 : (t462 != 0) = false := bne_eq_false_iff_eq.mpr c16
      clear c16
      by_cases c17 : x7_1.length < 8796093022208
      ·rw [if_pos c17] at H
       have LMc17 := Aside0.mk c17
       clear c17
       obtain ⟨y465, hy465⟩ : ∃ y_ : List (S36), y_ = (x7_1 ++ [(⟨rd t452 x9_1, 1⟩ : S36)]) := ⟨_, rfl⟩
       replace H : (spec_l20Pays.l0 k1 a2 y465 t452 (wrap64 (x9_1 + 1)) s0_0 t463) = some (r1, r2) := by first | (rw [hy465]; with_reducible exact H) | (have H2_ := (Option.bind_some _ _).symm.trans H; rw [hy465]; with_reducible exact H2_) | (have H2_ := (Option.bind_some _ _).symm.trans H; with_reducible exact H2_) | with_reducible exact H | (rw [hy465]; exact H) | exact H
       have Ny465 := Aside0.mk hy465
       clear hy465
       have H' := Aside0.mk H
       clear H
       obtain ⟨Ao18, co18, eo18⟩ := Kd.R_slice HO_8.out
       subst eo18
       have p455 : 0 ≤ (x9_1 : Int) := of_decide_eq_true (g1_)
       have q455 : x9_1 < (t452.length : Int) := of_decide_eq_true (g1_)
       obtain ⟨ad455, e455, hx455_0⟩ := Kd.at_int (Kd.R_reads' HO_8.out).2.2 x9_1 p455 q455
       cases e455
       replace p455 := eq_true p455
       replace q455 := eq_true q455
       go_wp2_with (first | ((with_reducible refine gate_callee (f := 87) rfl ?_); refine goesL_ (some 29) rfl rfl Try.func87 k_ rfl #[.pointer (some ⟨g, 0, none⟩), .int .i64 (wrap64 ((wrap64 ((rd t452 x9_1) * 6)) + 1))] rfl (g2_) ?_; (with_reducible refine (spec_l20Rd_pick.calls k1 g s0_0 x1001_1 (wrap64 ((wrap64 ((rd t452 x9_1) * 6)) + 1)) t456 t457 w0 _ ?side1 ?side2 A13.out).mono ?_); (case side1 => exact spec_l20Pays.calls_q0); (case side2 => exact spec_l20Pays.calls_q2); rintro e w19 ⟨rfl, hi, hb, hk⟩; refine ⟨_, rfl, ?_⟩; replace HO_7 := Aside0.mk (Kd.R_mono (Kd.R_keep (IsS79.apart (show IsS79 w0 _ g s0_0 x1001_1 from spec_l20Pays.calls_q0) (uf1_ HO_7) (by decide)) hk (fun _ h => h.2)) (fun _ h => h.1)); replace HO_8 := Aside0.mk (Kd.R_mono (Kd.R_keep (IsS79.apart (show IsS79 w0 _ g s0_0 x1001_1 from spec_l20Pays.calls_q0) (uf1_ HO_8) (by decide)) hk (fun _ h => h.2)) (fun _ h => h.1)); replace BK448 := Aside0.mk (KeepBut.blk hk (g' := gb448) (o := .cells #[.slice A1_0 l1_0.length c1_0, .slice A1_1 l1_1.length c1_1] 26 (0, 0)) (uf0_ BK448) NB448_0.out (by simp)); replace HK := Aside0.mk (KeepBut.trans (spec_l20Pays.calls_q1) hk (.inl rfl)); replace HB := Aside0.mk (hb); replace HI0 := Aside0.mk (hi); (try clear hb); (try clear hk hi)) | ((with_reducible refine gate_callee (f := 95) rfl ?_); refine goesL_ (some 30) rfl rfl Try.func95 k_ rfl #[.int .i64 t456, .int .i64 6] rfl (g2_) ?_; (with_reducible refine (spec_l1Low.calls k1 t456 6 t458 t459 t460 _ A14.out).mono ?_); rintro e w20 ⟨rfl, hb⟩; refine ⟨_, rfl, ?_⟩; replace HO_7 := Aside0.mk (Kd.R_below (uf1_ HO_7) hb); replace HO_8 := Aside0.mk (Kd.R_below (uf1_ HO_8) hb); replace BK448 := Aside0.mk (blk_below (g := gb448) (o := .cells #[.slice A1_0 l1_0.length c1_0, .slice A1_1 l1_1.length c1_1] 26 (0, 0)) (uf0_ BK448) hb); replace HK := Aside0.mk (KeepBut.trans (spec_l20Pays.calls_q1) (KeepBut.of_below hb g none) (.inl rfl)); replace HB := Aside0.mk (below_step (spec_l20Pays.calls_q2) hb); replace HI0 := Aside0.mk (IsS79.below (spec_l20Pays.calls_q0) hb); (try clear hb); (try clear hk hi)) | ((with_reducible refine gate_dst (N := 10) rfl ?_); refine bx_ (N := 10) #[.int .i64 0, .int .i64 0] 36 ?_; intro gb461 hg w21 hbox hb; replace HO_7 := Aside0.mk (Kd.R_below (Kd.R_elderB (uf1_ HO_7) gb461 (Nat.le_of_eq hg.symm)) hb); replace HO_8 := Aside0.mk (Kd.R_below (uf1_ HO_8) hb); replace HB := Aside0.mk (below_step (spec_l20Pays.calls_q2) hb); have BK461 := Aside0.mk (hbox); have GW461 := Aside0.mk ((g42_ : w.heap.size ≤ gb461)); have GE461 := Aside0.mk ((Nat.le_trans HW0.out (g42_ : w.heap.size ≤ gb461) : w0.heap.size ≤ gb461)); replace HK := Aside0.mk (KeepBut.trans (spec_l20Pays.calls_q1) (KeepBut.of_below hb g none) (.inl rfl)); have NB448_461 := Aside0.mk ((g147_ : gb448 ≠ gb461)); have NB461_448 := Aside0.mk ((g148_ : gb461 ≠ gb448)); replace BK448 := Aside0.mk (blk_below (g := gb448) (o := .cells #[.slice A1_0 l1_0.length c1_0, .slice A1_1 l1_1.length c1_1] 26 (0, 0)) (uf0_ BK448) hb); have NB0_461 := Aside0.mk ((by rw [hg]; exact Nat.ne_of_lt (IsS79.lt (show IsS79 w0 _ g s0_0 t457 from spec_l20Pays.calls_q0)) : g ≠ gb461)); have NB461_0 := Aside0.mk ((by rw [hg]; exact Nat.ne_of_gt (IsS79.lt (show IsS79 w0 _ g s0_0 t457 from spec_l20Pays.calls_q0)) : gb461 ≠ g)); replace HI0 := Aside0.mk (IsS79.below (spec_l20Pays.calls_q0) hb); clear hb hbox hg; have hnb22 := NB461_448.out; have hnc22 := NB448_461.out; have hnb23 := NB461_0.out; have hnc23 := NB0_461.out; obtain ⟨hcz24_0, hcz24_1, hfz24_0, hfz24_1⟩ := blk2_ BK461) | ((with_reducible refine gate_callee (f := 87) rfl ?_); refine goesL_ (some 34) rfl rfl Try.func87 k_ rfl #[.pointer (some ⟨g, 0, none⟩), .int .i64 4] rfl (g2_) ?_; (with_reducible refine (spec_l20Rd_pick.calls k1 g s0_0 t457 4 t462 t463 w0 _ ?side1 ?side2 A15.out).mono ?_); (case side1 => exact spec_l20Pays.calls_q0); (case side2 => exact spec_l20Pays.calls_q2); rintro e w25 ⟨rfl, hi, hb, hk⟩; refine ⟨_, rfl, ?_⟩; replace HO_7 := Aside0.mk (Kd.R_mono (Kd.R_keep (IsS79.apart (show IsS79 w0 _ g s0_0 t457 from spec_l20Pays.calls_q0) (g149_) (by decide)) hk (fun _ h => h.2)) (fun _ h => h.1)); replace HO_8 := Aside0.mk (Kd.R_mono (Kd.R_keep (IsS79.apart (show IsS79 w0 _ g s0_0 t457 from spec_l20Pays.calls_q0) (g150_) (by decide)) hk (fun _ h => h.2)) (fun _ h => h.1)); replace BK448 := Aside0.mk (KeepBut.blk hk (g' := gb448) (o := .cells #[.slice A1_0 l1_0.length c1_0, .slice A1_1 l1_1.length c1_1] 26 (0, 0)) (g83_) NB448_0.out (by simp)); replace BK461 := Aside0.mk (KeepBut.blk hk (g' := gb461) (o := .cells #[.int .i64 t458, .int .i64 t459] 36 (0, 0)) (g151_) NB461_0.out (by simp)); replace HK := Aside0.mk (KeepBut.trans (spec_l20Pays.calls_q1) hk (.inl rfl)); replace HB := Aside0.mk (hb); replace HI0 := Aside0.mk (hi); (try clear hb); (try clear hk hi); have p464 : 0 ≤ (x9_1 : Int) := of_decide_eq_true (g1_); have q464 : x9_1 < (t452.length : Int) := of_decide_eq_true (g1_); obtain ⟨ad464, e464, hx464_0⟩ := Kd.at_int (Kd.R_reads' HO_8.out).2.2 x9_1 p464 q464; obtain rfl : ad455 = ad464 := (by injection e464); replace p464 := eq_true p464; replace q464 := eq_true q464; obtain ⟨hcz26_0, hcz26_1, hfz26_0, hfz26_1⟩ := blk2_ BK461) | ((with_reducible refine gate_builtin (b := .append) (xs := #[.tmp 52, .tmp 54]) rfl ?_); at_builtin; refine Kd.R_append k36 w.heap.size rfl (.tmp 52) (.tmp 54) 28 36 (.agg #[(.int .i64 0), (.int .i64 0)]) 16 rfl Try.underlying28 info36 rfl (by decide) (by omega) u7 x7_1 (⟨rd t452 x9_1, 1⟩ : S36) [.int .i64 (rd t452 x9_1), .int .i64 1] (fun k_ => k_ ≠ gb461) (fun _ => False) rfl (g67_) ?aP (fun _ hk => hk.elim) ?aF ?aO (Below.refl _ _) ?aS ?aL ?_; (case aP => exact k36_mkM _ _ _ (⟨rd t452 x9_1, 1⟩ : S36)); (case aF => exact (fun k_ hk => Kd.freshB (g := gb461) (o := .cells #[.int .i64 (rd t452 x9_1), .int .i64 1] 36 (0, 0)) (by (with_reducible repeat (first | refine blk_drewN ?_ _ | refine blk_drew ?_ | refine blk_alloc ?_ _)); refine blk_put (cs := #[.int .i64 (rd t452 x9_1), .int .i64 t459]) ?_ 1 _ rfl; (with_reducible repeat (first | refine blk_drewN ?_ _ | refine blk_drew ?_ | refine blk_alloc ?_ _)); refine blk_put (cs := #[.int .i64 t458, .int .i64 t459]) ?_ 0 _ rfl; (with_reducible repeat (first | refine blk_drewN ?_ _ | refine blk_drew ?_ | refine blk_alloc ?_ _)); exact BK461.out) k_ hk)); (case aO => exact (by (with_reducible repeat (first | apply Kd.R_alloc | apply Kd.R_drewN | apply Kd.R_drew)); exact Kd.R_mono (Kd.R_far (p := ⟨gb461, 1, none⟩) (Kd.R_far (p := ⟨gb461, 0, none⟩) (Kd.R_mono HO_7.out (fun k_ hk => (⟨hk, hk.2⟩ : _ ∧ k_ ≠ gb461))) (fun _ hk => hk.2) (.int .i64 (rd t452 x9_1))) (fun _ hk => hk.2) (.int .i64 1)) (fun _ hk => hk.1.2))); (case aS => exact (keep_size (w := w) (g := g) (row := none) (spec_l20Pays.calls_q1))); (case aL => have := LMc17.out; omega); intro v466 w27 ho hb hg hat; rw [← Ny465.out] at ho; replace HO_8 := Aside0.mk (Kd.R_over' (by (with_reducible repeat (first | apply Kd.R_alloc | apply Kd.R_drewN | apply Kd.R_drew)); exact (Kd.R_mono (Kd.R_far (p := ⟨gb461, 1, none⟩) (Kd.R_far (p := ⟨gb461, 0, none⟩) (Kd.R_types HO_8.out BK461.out (by decide)) (fun _ hk => hk.2) (.int .i64 (rd t452 x9_1))) (fun _ hk => hk.2) (.int .i64 1)) (fun _ h_ => h_.1))) (Kd.R_typed (by (with_reducible repeat (first | apply Kd.R_alloc | apply Kd.R_drewN | apply Kd.R_drew)); exact (Kd.R_mono (Kd.R_far (p := ⟨gb461, 1, none⟩) (Kd.R_far (p := ⟨gb461, 0, none⟩) (Kd.R_mono HO_7.out (fun k_ hk => (⟨hk, hk.2⟩ : _ ∧ k_ ≠ gb461))) (fun _ hk => hk.2) (.int .i64 (rd t452 x9_1))) (fun _ hk => hk.2) (.int .i64 1)) (fun _ h_ => h_.1)))) (by decide) hg); replace BK448 := Aside0.mk (blk_grown (g := gb448) (o := .cells #[.slice A1_0 l1_0.length c1_0, .slice A1_1 l1_1.length c1_1] 26 (0, 0)) (g83_) hg (Kd.R_ne HO_7.out BK448.out (by decide))); replace BK461 := Aside0.mk (blk_grown (g := gb461) (o := .cells #[.int .i64 (rd t452 x9_1), .int .i64 1] 36 (0, 0)) (by (with_reducible repeat (first | refine blk_drewN ?_ _ | refine blk_drew ?_ | refine blk_alloc ?_ _)); refine blk_put (cs := #[.int .i64 (rd t452 x9_1), .int .i64 t459]) ?_ 1 _ rfl; (with_reducible repeat (first | refine blk_drewN ?_ _ | refine blk_drew ?_ | refine blk_alloc ?_ _)); refine blk_put (cs := #[.int .i64 t458, .int .i64 t459]) ?_ 0 _ rfl; (with_reducible repeat (first | refine blk_drewN ?_ _ | refine blk_drew ?_ | refine blk_alloc ?_ _)); exact BK461.out) hg (Kd.R_away HO_7.out (fun _ hk => hk.2))); replace HB := Aside0.mk (below_weaken (spec_l20Pays.calls_q2) HL.out hb); replace HI0 := Aside0.mk (IsS79.grown (w0 := w0) (f0 := s0_0) (f1 := t463) (spec_l20Pays.calls_q0) hg (IsS79.own_ne HI0.out HO_7.out (by decide))); replace HK := Aside0.mk (KeepBut.trans (spec_l20Pays.calls_q1) (KeepBut.of_grown hg g) (Kd.R_base2 HO_7.out)); have HO467 := Aside0.mk (ho); clear HO_7; clear ho hb hg hat))
       go_roundg k1
       case measure => have := HK1.out; omega
       case rel => exact ⟨(y465), (wrap64 (x9_1 + 1)), (t463), (g3_), H', ⟨g9_⟩, ⟨by (with_reducible repeat (first | apply Kd.R_alloc | apply Kd.R_drewN | apply Kd.R_drew)); exact Kd.R_mono HO467.out (fun _ hk => trivial)⟩, ⟨uf1_ HO_8⟩, ⟨uf0_ BK448⟩, ⟨spec_l20Pays.calls_q0⟩, ⟨spec_l20Pays.calls_q1⟩, ⟨spec_l20Pays.calls_q2⟩⟩
      ·rw [if_neg c17] at H
       exact absurd H (by simp)
     ·rw [if_neg c16] at H
      have c16b0 : (t462 == 0) = false := beq_eq_false_iff_ne.mpr c16
      have c16b1 : (t462 != 0) = true := bne_iff_ne.mpr c16
      by_cases c28 : t462 = 1
      ·rw [if_pos c28] at H
       have c28b0 : (t462 == 1) = true := beq_iff_eq.mpr c28
       have c28b1 : (t462 != 1) = false := bne_eq_false_iff_eq.mpr c28
       clear c28
       replace H := Option.bind_eq_some_iff.mp H
       obtain ⟨⟨t469, t470⟩, A290, H⟩ := H
       replace H : (if x7_1.length < 8796093022208 then (spec_l20Pays.l0 k1 a2 (x7_1 ++ [(⟨t469, 1⟩ : S36)]) t452 (wrap64 (x9_1 + 1)) s0_0 t470) else (none)) = some (r1, r2) := H
       have A29 := Aside0.mk A290
       clear A290
       by_cases c30 : x7_1.length < 8796093022208
       ·rw [if_pos c30] at H
        have LMc30 := Aside0.mk c30
        clear c30
        obtain ⟨y471, hy471⟩ : ∃ y_ : List (S36), y_ = (x7_1 ++ [(⟨t469, 1⟩ : S36)]) := ⟨_, rfl⟩
        replace H : (spec_l20Pays.l0 k1 a2 y471 t452 (wrap64 (x9_1 + 1)) s0_0 t470) = some (r1, r2) := by first | (rw [hy471]; with_reducible exact H) | (have H2_ := (Option.bind_some _ _).symm.trans H; rw [hy471]; with_reducible exact H2_) | (have H2_ := (Option.bind_some _ _).symm.trans H; with_reducible exact H2_) | with_reducible exact H | (rw [hy471]; exact H) | exact H
        have Ny471 := Aside0.mk hy471
        clear hy471
        have H' := Aside0.mk H
        clear H
        obtain ⟨Ao31, co31, eo31⟩ := Kd.R_slice HO_8.out
        subst eo31
        have p455 : 0 ≤ (x9_1 : Int) := of_decide_eq_true (g1_)
        have q455 : x9_1 < (t452.length : Int) := of_decide_eq_true (g1_)
        obtain ⟨ad455, e455, hx455_0⟩ := Kd.at_int (Kd.R_reads' HO_8.out).2.2 x9_1 p455 q455
        cases e455
        replace p455 := eq_true p455
        replace q455 := eq_true q455
        go_wp2_with (first | ((with_reducible refine gate_callee (f := 87) rfl ?_); refine goesL_ (some 29) rfl rfl Try.func87 k_ rfl #[.pointer (some ⟨g, 0, none⟩), .int .i64 (wrap64 ((wrap64 ((rd t452 x9_1) * 6)) + 1))] rfl (g2_) ?_; (with_reducible refine (spec_l20Rd_pick.calls k1 g s0_0 x1001_1 (wrap64 ((wrap64 ((rd t452 x9_1) * 6)) + 1)) t456 t457 w0 _ ?side1 ?side2 A13.out).mono ?_); (case side1 => exact spec_l20Pays.calls_q0); (case side2 => exact spec_l20Pays.calls_q2); rintro e w32 ⟨rfl, hi, hb, hk⟩; refine ⟨_, rfl, ?_⟩; replace HO_7 := Aside0.mk (Kd.R_mono (Kd.R_keep (IsS79.apart (show IsS79 w0 _ g s0_0 x1001_1 from spec_l20Pays.calls_q0) (uf1_ HO_7) (by decide)) hk (fun _ h => h.2)) (fun _ h => h.1)); replace HO_8 := Aside0.mk (Kd.R_mono (Kd.R_keep (IsS79.apart (show IsS79 w0 _ g s0_0 x1001_1 from spec_l20Pays.calls_q0) (uf1_ HO_8) (by decide)) hk (fun _ h => h.2)) (fun _ h => h.1)); replace BK448 := Aside0.mk (KeepBut.blk hk (g' := gb448) (o := .cells #[.slice A1_0 l1_0.length c1_0, .slice A1_1 l1_1.length c1_1] 26 (0, 0)) (uf0_ BK448) NB448_0.out (by simp)); replace HK := Aside0.mk (KeepBut.trans (spec_l20Pays.calls_q1) hk (.inl rfl)); replace HB := Aside0.mk (hb); replace HI0 := Aside0.mk (hi); (try clear hb); (try clear hk hi)) | ((with_reducible refine gate_callee (f := 95) rfl ?_); refine goesL_ (some 30) rfl rfl Try.func95 k_ rfl #[.int .i64 t456, .int .i64 6] rfl (g2_) ?_; (with_reducible refine (spec_l1Low.calls k1 t456 6 t458 t459 t460 _ A14.out).mono ?_); rintro e w33 ⟨rfl, hb⟩; refine ⟨_, rfl, ?_⟩; replace HO_7 := Aside0.mk (Kd.R_below (uf1_ HO_7) hb); replace HO_8 := Aside0.mk (Kd.R_below (uf1_ HO_8) hb); replace BK448 := Aside0.mk (blk_below (g := gb448) (o := .cells #[.slice A1_0 l1_0.length c1_0, .slice A1_1 l1_1.length c1_1] 26 (0, 0)) (uf0_ BK448) hb); replace HK := Aside0.mk (KeepBut.trans (spec_l20Pays.calls_q1) (KeepBut.of_below hb g none) (.inl rfl)); replace HB := Aside0.mk (below_step (spec_l20Pays.calls_q2) hb); replace HI0 := Aside0.mk (IsS79.below (spec_l20Pays.calls_q0) hb); (try clear hb); (try clear hk hi)) | ((with_reducible refine gate_dst (N := 10) rfl ?_); refine bx_ (N := 10) #[.int .i64 0, .int .i64 0] 36 ?_; intro gb461 hg w34 hbox hb; replace HO_7 := Aside0.mk (Kd.R_below (Kd.R_elderB (uf1_ HO_7) gb461 (Nat.le_of_eq hg.symm)) hb); replace HO_8 := Aside0.mk (Kd.R_below (uf1_ HO_8) hb); replace HB := Aside0.mk (below_step (spec_l20Pays.calls_q2) hb); have BK461 := Aside0.mk (hbox); have GW461 := Aside0.mk ((g42_ : w.heap.size ≤ gb461)); have GE461 := Aside0.mk ((Nat.le_trans HW0.out (g42_ : w.heap.size ≤ gb461) : w0.heap.size ≤ gb461)); replace HK := Aside0.mk (KeepBut.trans (spec_l20Pays.calls_q1) (KeepBut.of_below hb g none) (.inl rfl)); have NB448_461 := Aside0.mk ((g147_ : gb448 ≠ gb461)); have NB461_448 := Aside0.mk ((g148_ : gb461 ≠ gb448)); replace BK448 := Aside0.mk (blk_below (g := gb448) (o := .cells #[.slice A1_0 l1_0.length c1_0, .slice A1_1 l1_1.length c1_1] 26 (0, 0)) (uf0_ BK448) hb); have NB0_461 := Aside0.mk ((by rw [hg]; exact Nat.ne_of_lt (IsS79.lt (show IsS79 w0 _ g s0_0 t457 from spec_l20Pays.calls_q0)) : g ≠ gb461)); have NB461_0 := Aside0.mk ((by rw [hg]; exact Nat.ne_of_gt (IsS79.lt (show IsS79 w0 _ g s0_0 t457 from spec_l20Pays.calls_q0)) : gb461 ≠ g)); replace HI0 := Aside0.mk (IsS79.below (spec_l20Pays.calls_q0) hb); clear hb hbox hg; have hnb35 := NB461_448.out; have hnc35 := NB448_461.out; have hnb36 := NB461_0.out; have hnc36 := NB0_461.out; obtain ⟨hcz37_0, hcz37_1, hfz37_0, hfz37_1⟩ := blk2_ BK461) | ((with_reducible refine gate_callee (f := 87) rfl ?_); refine goesL_ (some 34) rfl rfl Try.func87 k_ rfl #[.pointer (some ⟨g, 0, none⟩), .int .i64 4] rfl (g2_) ?_; (with_reducible refine (spec_l20Rd_pick.calls k1 g s0_0 t457 4 t462 t463 w0 _ ?side1 ?side2 A15.out).mono ?_); (case side1 => exact spec_l20Pays.calls_q0); (case side2 => exact spec_l20Pays.calls_q2); rintro e w38 ⟨rfl, hi, hb, hk⟩; refine ⟨_, rfl, ?_⟩; replace HO_7 := Aside0.mk (Kd.R_mono (Kd.R_keep (IsS79.apart (show IsS79 w0 _ g s0_0 t457 from spec_l20Pays.calls_q0) (g149_) (by decide)) hk (fun _ h => h.2)) (fun _ h => h.1)); replace HO_8 := Aside0.mk (Kd.R_mono (Kd.R_keep (IsS79.apart (show IsS79 w0 _ g s0_0 t457 from spec_l20Pays.calls_q0) (g150_) (by decide)) hk (fun _ h => h.2)) (fun _ h => h.1)); replace BK448 := Aside0.mk (KeepBut.blk hk (g' := gb448) (o := .cells #[.slice A1_0 l1_0.length c1_0, .slice A1_1 l1_1.length c1_1] 26 (0, 0)) (g83_) NB448_0.out (by simp)); replace BK461 := Aside0.mk (KeepBut.blk hk (g' := gb461) (o := .cells #[.int .i64 t458, .int .i64 t459] 36 (0, 0)) (g151_) NB461_0.out (by simp)); replace HK := Aside0.mk (KeepBut.trans (spec_l20Pays.calls_q1) hk (.inl rfl)); replace HB := Aside0.mk (hb); replace HI0 := Aside0.mk (hi); (try clear hb); (try clear hk hi); have p468 : 0 ≤ (x9_1 : Int) := of_decide_eq_true (g1_); have q468 : x9_1 < (t452.length : Int) := of_decide_eq_true (g1_); obtain ⟨ad468, e468, hx468_0⟩ := Kd.at_int (Kd.R_reads' HO_8.out).2.2 x9_1 p468 q468; obtain rfl : ad455 = ad468 := (by injection e468); replace p468 := eq_true p468; replace q468 := eq_true q468) | ((with_reducible refine gate_callee (f := 87) rfl ?_); refine goesL_ (some 50) rfl rfl Try.func87 k_ rfl #[.pointer (some ⟨g, 0, none⟩), .int .i64 (wrap64 ((rd t452 x9_1) + 1))] rfl (g2_) ?_; (with_reducible refine (spec_l20Rd_pick.calls k1 g s0_0 t463 (wrap64 ((rd t452 x9_1) + 1)) t469 t470 w0 _ ?side1 ?side2 A29.out).mono ?_); (case side1 => exact spec_l20Pays.calls_q0); (case side2 => exact spec_l20Pays.calls_q2); rintro e w39 ⟨rfl, hi, hb, hk⟩; refine ⟨_, rfl, ?_⟩; replace HO_7 := Aside0.mk (Kd.R_mono (Kd.R_keep (IsS79.apart (show IsS79 w0 _ g s0_0 t463 from spec_l20Pays.calls_q0) (uf1_ HO_7) (by decide)) hk (fun _ h => h.2)) (fun _ h => h.1)); replace HO_8 := Aside0.mk (Kd.R_mono (Kd.R_keep (IsS79.apart (show IsS79 w0 _ g s0_0 t463 from spec_l20Pays.calls_q0) (uf1_ HO_8) (by decide)) hk (fun _ h => h.2)) (fun _ h => h.1)); replace BK448 := Aside0.mk (KeepBut.blk hk (g' := gb448) (o := .cells #[.slice A1_0 l1_0.length c1_0, .slice A1_1 l1_1.length c1_1] 26 (0, 0)) (uf0_ BK448) NB448_0.out (by simp)); replace BK461 := Aside0.mk (KeepBut.blk hk (g' := gb461) (o := .cells #[.int .i64 t458, .int .i64 t459] 36 (0, 0)) (uf0_ BK461) NB461_0.out (by simp)); replace HK := Aside0.mk (KeepBut.trans (spec_l20Pays.calls_q1) hk (.inl rfl)); replace HB := Aside0.mk (hb); replace HI0 := Aside0.mk (hi); (try clear hb); (try clear hk hi); obtain ⟨hcz40_0, hcz40_1, hfz40_0, hfz40_1⟩ := blk2_ BK461) | ((with_reducible refine gate_builtin (b := .append) (xs := #[.tmp 52, .tmp 54]) rfl ?_); at_builtin; refine Kd.R_append k36 w.heap.size rfl (.tmp 52) (.tmp 54) 28 36 (.agg #[(.int .i64 0), (.int .i64 0)]) 16 rfl Try.underlying28 info36 rfl (by decide) (by omega) u7 x7_1 (⟨t469, 1⟩ : S36) [.int .i64 t469, .int .i64 1] (fun k_ => k_ ≠ gb461) (fun _ => False) rfl (g67_) ?aP (fun _ hk => hk.elim) ?aF ?aO (Below.refl _ _) ?aS ?aL ?_; (case aP => exact k36_mkM _ _ _ (⟨t469, 1⟩ : S36)); (case aF => exact (fun k_ hk => Kd.freshB (g := gb461) (o := .cells #[.int .i64 t469, .int .i64 1] 36 (0, 0)) (by (with_reducible repeat (first | refine blk_drewN ?_ _ | refine blk_drew ?_ | refine blk_alloc ?_ _)); refine blk_put (cs := #[.int .i64 t469, .int .i64 t459]) ?_ 1 _ rfl; (with_reducible repeat (first | refine blk_drewN ?_ _ | refine blk_drew ?_ | refine blk_alloc ?_ _)); refine blk_put (cs := #[.int .i64 t458, .int .i64 t459]) ?_ 0 _ rfl; (with_reducible repeat (first | refine blk_drewN ?_ _ | refine blk_drew ?_ | refine blk_alloc ?_ _)); exact BK461.out) k_ hk)); (case aO => exact (by (with_reducible repeat (first | apply Kd.R_alloc | apply Kd.R_drewN | apply Kd.R_drew)); exact Kd.R_mono (Kd.R_far (p := ⟨gb461, 1, none⟩) (Kd.R_far (p := ⟨gb461, 0, none⟩) (Kd.R_mono HO_7.out (fun k_ hk => (⟨hk, hk.2⟩ : _ ∧ k_ ≠ gb461))) (fun _ hk => hk.2) (.int .i64 t469)) (fun _ hk => hk.2) (.int .i64 1)) (fun _ hk => hk.1.2))); (case aS => exact (keep_size (w := w) (g := g) (row := none) (spec_l20Pays.calls_q1))); (case aL => have := LMc30.out; omega); intro v472 w41 ho hb hg hat; rw [← Ny471.out] at ho; replace HO_8 := Aside0.mk (Kd.R_over' (by (with_reducible repeat (first | apply Kd.R_alloc | apply Kd.R_drewN | apply Kd.R_drew)); exact (Kd.R_mono (Kd.R_far (p := ⟨gb461, 1, none⟩) (Kd.R_far (p := ⟨gb461, 0, none⟩) (Kd.R_types HO_8.out BK461.out (by decide)) (fun _ hk => hk.2) (.int .i64 t469)) (fun _ hk => hk.2) (.int .i64 1)) (fun _ h_ => h_.1))) (Kd.R_typed (by (with_reducible repeat (first | apply Kd.R_alloc | apply Kd.R_drewN | apply Kd.R_drew)); exact (Kd.R_mono (Kd.R_far (p := ⟨gb461, 1, none⟩) (Kd.R_far (p := ⟨gb461, 0, none⟩) (Kd.R_mono HO_7.out (fun k_ hk => (⟨hk, hk.2⟩ : _ ∧ k_ ≠ gb461))) (fun _ hk => hk.2) (.int .i64 t469)) (fun _ hk => hk.2) (.int .i64 1)) (fun _ h_ => h_.1)))) (by decide) hg); replace BK448 := Aside0.mk (blk_grown (g := gb448) (o := .cells #[.slice A1_0 l1_0.length c1_0, .slice A1_1 l1_1.length c1_1] 26 (0, 0)) (g83_) hg (Kd.R_ne HO_7.out BK448.out (by decide))); replace BK461 := Aside0.mk (blk_grown (g := gb461) (o := .cells #[.int .i64 t469, .int .i64 1] 36 (0, 0)) (by (with_reducible repeat (first | refine blk_drewN ?_ _ | refine blk_drew ?_ | refine blk_alloc ?_ _)); refine blk_put (cs := #[.int .i64 t469, .int .i64 t459]) ?_ 1 _ rfl; (with_reducible repeat (first | refine blk_drewN ?_ _ | refine blk_drew ?_ | refine blk_alloc ?_ _)); refine blk_put (cs := #[.int .i64 t458, .int .i64 t459]) ?_ 0 _ rfl; (with_reducible repeat (first | refine blk_drewN ?_ _ | refine blk_drew ?_ | refine blk_alloc ?_ _)); exact BK461.out) hg (Kd.R_away HO_7.out (fun _ hk => hk.2))); replace HB := Aside0.mk (below_weaken (spec_l20Pays.calls_q2) HL.out hb); replace HI0 := Aside0.mk (IsS79.grown (w0 := w0) (f0 := s0_0) (f1 := t470) (spec_l20Pays.calls_q0) hg (IsS79.own_ne HI0.out HO_7.out (by decide))); replace HK := Aside0.mk (KeepBut.trans (spec_l20Pays.calls_q1) (KeepBut.of_grown hg g) (Kd.R_base2 HO_7.out)); have HO473 := Aside0.mk (ho); clear HO_7; clear ho hb hg hat))
        go_roundg k1
        case measure => have := HK1.out; omega
        case rel => exact ⟨(y471), (wrap64 (x9_1 + 1)), (t470), (g3_), H', ⟨g9_⟩, ⟨by (with_reducible repeat (first | apply Kd.R_alloc | apply Kd.R_drewN | apply Kd.R_drew)); exact Kd.R_mono HO473.out (fun _ hk => trivial)⟩, ⟨uf1_ HO_8⟩, ⟨uf0_ BK448⟩, ⟨spec_l20Pays.calls_q0⟩, ⟨spec_l20Pays.calls_q1⟩, ⟨spec_l20Pays.calls_q2⟩⟩
       ·rw [if_neg c30] at H
        exact absurd H (by simp)
      ·rw [if_neg c28] at H
       have c28b0 : (t462 == 1) = false := beq_eq_false_iff_ne.mpr c28
       have c28b1 : (t462 != 1) = true := bne_iff_ne.mpr c28
       by_cases c42 : x7_1.length < 8796093022208
       ·rw [if_pos c42] at H
        have LMc42 := Aside0.mk c42
        clear c42
        obtain ⟨y474, hy474⟩ : ∃ y_ : List (S36), y_ = (x7_1 ++ [(⟨t458, t459⟩ : S36)]) := ⟨_, rfl⟩
        replace H : (spec_l20Pays.l0 k1 a2 y474 t452 (wrap64 (x9_1 + 1)) s0_0 t463) = some (r1, r2) := by first | (rw [hy474]; with_reducible exact H) | (have H2_ := (Option.bind_some _ _).symm.trans H; rw [hy474]; with_reducible exact H2_) | (have H2_ := (Option.bind_some _ _).symm.trans H; with_reducible exact H2_) | with_reducible exact H | (rw [hy474]; exact H) | exact H
        have Ny474 := Aside0.mk hy474
        clear hy474
        have H' := Aside0.mk H
        clear H
        obtain ⟨Ao43, co43, eo43⟩ := Kd.R_slice HO_8.out
        subst eo43
        have p455 : 0 ≤ (x9_1 : Int) := of_decide_eq_true (g1_)
        have q455 : x9_1 < (t452.length : Int) := of_decide_eq_true (g1_)
        obtain ⟨ad455, e455, hx455_0⟩ := Kd.at_int (Kd.R_reads' HO_8.out).2.2 x9_1 p455 q455
        cases e455
        replace p455 := eq_true p455
        replace q455 := eq_true q455
        go_wp2_with (first | ((with_reducible refine gate_callee (f := 87) rfl ?_); refine goesL_ (some 29) rfl rfl Try.func87 k_ rfl #[.pointer (some ⟨g, 0, none⟩), .int .i64 (wrap64 ((wrap64 ((rd t452 x9_1) * 6)) + 1))] rfl (g2_) ?_; (with_reducible refine (spec_l20Rd_pick.calls k1 g s0_0 x1001_1 (wrap64 ((wrap64 ((rd t452 x9_1) * 6)) + 1)) t456 t457 w0 _ ?side1 ?side2 A13.out).mono ?_); (case side1 => exact spec_l20Pays.calls_q0); (case side2 => exact spec_l20Pays.calls_q2); rintro e w44 ⟨rfl, hi, hb, hk⟩; refine ⟨_, rfl, ?_⟩; replace HO_7 := Aside0.mk (Kd.R_mono (Kd.R_keep (IsS79.apart (show IsS79 w0 _ g s0_0 x1001_1 from spec_l20Pays.calls_q0) (uf1_ HO_7) (by decide)) hk (fun _ h => h.2)) (fun _ h => h.1)); replace HO_8 := Aside0.mk (Kd.R_mono (Kd.R_keep (IsS79.apart (show IsS79 w0 _ g s0_0 x1001_1 from spec_l20Pays.calls_q0) (uf1_ HO_8) (by decide)) hk (fun _ h => h.2)) (fun _ h => h.1)); replace BK448 := Aside0.mk (KeepBut.blk hk (g' := gb448) (o := .cells #[.slice A1_0 l1_0.length c1_0, .slice A1_1 l1_1.length c1_1] 26 (0, 0)) (uf0_ BK448) NB448_0.out (by simp)); replace HK := Aside0.mk (KeepBut.trans (spec_l20Pays.calls_q1) hk (.inl rfl)); replace HB := Aside0.mk (hb); replace HI0 := Aside0.mk (hi); (try clear hb); (try clear hk hi)) | ((with_reducible refine gate_callee (f := 95) rfl ?_); refine goesL_ (some 30) rfl rfl Try.func95 k_ rfl #[.int .i64 t456, .int .i64 6] rfl (g2_) ?_; (with_reducible refine (spec_l1Low.calls k1 t456 6 t458 t459 t460 _ A14.out).mono ?_); rintro e w45 ⟨rfl, hb⟩; refine ⟨_, rfl, ?_⟩; replace HO_7 := Aside0.mk (Kd.R_below (uf1_ HO_7) hb); replace HO_8 := Aside0.mk (Kd.R_below (uf1_ HO_8) hb); replace BK448 := Aside0.mk (blk_below (g := gb448) (o := .cells #[.slice A1_0 l1_0.length c1_0, .slice A1_1 l1_1.length c1_1] 26 (0, 0)) (uf0_ BK448) hb); replace HK := Aside0.mk (KeepBut.trans (spec_l20Pays.calls_q1) (KeepBut.of_below hb g none) (.inl rfl)); replace HB := Aside0.mk (below_step (spec_l20Pays.calls_q2) hb); replace HI0 := Aside0.mk (IsS79.below (spec_l20Pays.calls_q0) hb); (try clear hb); (try clear hk hi)) | ((with_reducible refine gate_dst (N := 10) rfl ?_); refine bx_ (N := 10) #[.int .i64 0, .int .i64 0] 36 ?_; intro gb461 hg w46 hbox hb; replace HO_7 := Aside0.mk (Kd.R_below (Kd.R_elderB (uf1_ HO_7) gb461 (Nat.le_of_eq hg.symm)) hb); replace HO_8 := Aside0.mk (Kd.R_below (uf1_ HO_8) hb); replace HB := Aside0.mk (below_step (spec_l20Pays.calls_q2) hb); have BK461 := Aside0.mk (hbox); have GW461 := Aside0.mk ((g42_ : w.heap.size ≤ gb461)); have GE461 := Aside0.mk ((Nat.le_trans HW0.out (g42_ : w.heap.size ≤ gb461) : w0.heap.size ≤ gb461)); replace HK := Aside0.mk (KeepBut.trans (spec_l20Pays.calls_q1) (KeepBut.of_below hb g none) (.inl rfl)); have NB448_461 := Aside0.mk ((g147_ : gb448 ≠ gb461)); have NB461_448 := Aside0.mk ((g148_ : gb461 ≠ gb448)); replace BK448 := Aside0.mk (blk_below (g := gb448) (o := .cells #[.slice A1_0 l1_0.length c1_0, .slice A1_1 l1_1.length c1_1] 26 (0, 0)) (uf0_ BK448) hb); have NB0_461 := Aside0.mk ((by rw [hg]; exact Nat.ne_of_lt (IsS79.lt (show IsS79 w0 _ g s0_0 t457 from spec_l20Pays.calls_q0)) : g ≠ gb461)); have NB461_0 := Aside0.mk ((by rw [hg]; exact Nat.ne_of_gt (IsS79.lt (show IsS79 w0 _ g s0_0 t457 from spec_l20Pays.calls_q0)) : gb461 ≠ g)); replace HI0 := Aside0.mk (IsS79.below (spec_l20Pays.calls_q0) hb); clear hb hbox hg; have hnb47 := NB461_448.out; have hnc47 := NB448_461.out; have hnb48 := NB461_0.out; have hnc48 := NB0_461.out; obtain ⟨hcz49_0, hcz49_1, hfz49_0, hfz49_1⟩ := blk2_ BK461) | ((with_reducible refine gate_callee (f := 87) rfl ?_); refine goesL_ (some 34) rfl rfl Try.func87 k_ rfl #[.pointer (some ⟨g, 0, none⟩), .int .i64 4] rfl (g2_) ?_; (with_reducible refine (spec_l20Rd_pick.calls k1 g s0_0 t457 4 t462 t463 w0 _ ?side1 ?side2 A15.out).mono ?_); (case side1 => exact spec_l20Pays.calls_q0); (case side2 => exact spec_l20Pays.calls_q2); rintro e w50 ⟨rfl, hi, hb, hk⟩; refine ⟨_, rfl, ?_⟩; replace HO_7 := Aside0.mk (Kd.R_mono (Kd.R_keep (IsS79.apart (show IsS79 w0 _ g s0_0 t457 from spec_l20Pays.calls_q0) (g149_) (by decide)) hk (fun _ h => h.2)) (fun _ h => h.1)); replace HO_8 := Aside0.mk (Kd.R_mono (Kd.R_keep (IsS79.apart (show IsS79 w0 _ g s0_0 t457 from spec_l20Pays.calls_q0) (g150_) (by decide)) hk (fun _ h => h.2)) (fun _ h => h.1)); replace BK448 := Aside0.mk (KeepBut.blk hk (g' := gb448) (o := .cells #[.slice A1_0 l1_0.length c1_0, .slice A1_1 l1_1.length c1_1] 26 (0, 0)) (g83_) NB448_0.out (by simp)); replace BK461 := Aside0.mk (KeepBut.blk hk (g' := gb461) (o := .cells #[.int .i64 t458, .int .i64 t459] 36 (0, 0)) (g151_) NB461_0.out (by simp)); replace HK := Aside0.mk (KeepBut.trans (spec_l20Pays.calls_q1) hk (.inl rfl)); replace HB := Aside0.mk (hb); replace HI0 := Aside0.mk (hi); (try clear hb); (try clear hk hi); obtain ⟨hcz51_0, hcz51_1, hfz51_0, hfz51_1⟩ := blk2_ BK461) | ((with_reducible refine gate_builtin (b := .append) (xs := #[.tmp 52, .tmp 54]) rfl ?_); at_builtin; refine Kd.R_append k36 w.heap.size rfl (.tmp 52) (.tmp 54) 28 36 (.agg #[(.int .i64 0), (.int .i64 0)]) 16 rfl Try.underlying28 info36 rfl (by decide) (by omega) u7 x7_1 (⟨t458, t459⟩ : S36) [.int .i64 t458, .int .i64 t459] (fun k_ => k_ ≠ gb461) (fun _ => False) rfl rfl ?aP (fun _ hk => hk.elim) ?aF ?aO (Below.refl _ _) ?aS ?aL ?_; (case aP => exact k36_mkM _ _ _ (⟨t458, t459⟩ : S36)); (case aF => exact (fun k_ hk => Kd.freshB (g := gb461) (o := .cells #[.int .i64 t458, .int .i64 t459] 36 (0, 0)) (uf0_ BK461) k_ hk)); (case aO => exact (by (with_reducible repeat (first | apply Kd.R_alloc | apply Kd.R_drewN | apply Kd.R_drew)); exact Kd.R_mono HO_7.out (fun _ hk => hk.2))); (case aS => exact (keep_size (w := w) (g := g) (row := none) (spec_l20Pays.calls_q1))); (case aL => have := LMc42.out; omega); intro v475 w52 ho hb hg hat; rw [← Ny474.out] at ho; replace HO_8 := Aside0.mk (Kd.R_over' (uf1_ HO_8) (Kd.R_typed (uf1_ HO_7)) (by decide) hg); replace BK448 := Aside0.mk (blk_grown (g := gb448) (o := .cells #[.slice A1_0 l1_0.length c1_0, .slice A1_1 l1_1.length c1_1] 26 (0, 0)) (uf0_ BK448) hg (Kd.R_ne HO_7.out BK448.out (by decide))); replace BK461 := Aside0.mk (blk_grown (g := gb461) (o := .cells #[.int .i64 t458, .int .i64 t459] 36 (0, 0)) (uf0_ BK461) hg (Kd.R_away HO_7.out (fun _ hk => hk.2))); replace HB := Aside0.mk (below_weaken (spec_l20Pays.calls_q2) HL.out hb); replace HI0 := Aside0.mk (IsS79.grown (w0 := w0) (f0 := s0_0) (f1 := t463) (spec_l20Pays.calls_q0) hg (IsS79.own_ne HI0.out HO_7.out (by decide))); replace HK := Aside0.mk (KeepBut.trans (spec_l20Pays.calls_q1) (KeepBut.of_grown hg g) (Kd.R_base2 HO_7.out)); have HO476 := Aside0.mk (ho); clear HO_7; clear ho hb hg hat))
        go_roundg k1
        case measure => have := HK1.out; omega
        case rel => exact ⟨(y474), (wrap64 (x9_1 + 1)), (t463), (g3_), H', ⟨g9_⟩, ⟨by (with_reducible repeat (first | apply Kd.R_alloc | apply Kd.R_drewN | apply Kd.R_drew)); exact Kd.R_mono HO476.out (fun _ hk => trivial)⟩, ⟨uf1_ HO_8⟩, ⟨uf0_ BK448⟩, ⟨spec_l20Pays.calls_q0⟩, ⟨spec_l20Pays.calls_q1⟩, ⟨spec_l20Pays.calls_q2⟩⟩
       ·rw [if_neg c42] at H
        exact absurd H (by simp)
    ·rw [if_neg c12] at H
     exact absurd H (by simp)
   ·rw [if_neg c11] at H
    have c11b0 := decide_eq_false c11
    clear c11
    replace H := Option.bind_eq_some_iff.mp H
    obtain ⟨⟨t477, t478⟩, A530, H⟩ := H
    replace H : (if t477 = true then (if (x7_1.length : Int) = 0 then (if x7_1.length < 8796093022208 then (some ((x7_1 ++ [(⟨0, 1⟩ : S36)]), t478)) else (none)) else ((spec_l20Rd_pick.f k1 s0_0 t478 2).bind fun bt482 => (if bt482.1 = 0 then (if x7_1.length < 8796093022208 then (some ((x7_1 ++ [(⟨0, 1⟩ : S36)]), bt482.2)) else (none)) else ((some (([(⟨0, 0⟩ : S36), (⟨(-1), 1⟩ : S36), (⟨100, 1⟩ : S36)] : List (S36)) : List (S36))).bind fun y487 => ((spec_l20Rd_pick.f k1 s0_0 bt482.2 3).bind fun bt490 => (if 0 ≤ bt490.1 then (if bt490.1 < (y487.length : Int) then (if 0 < (x7_1.length : Int) then (some ((x7_1.set (0 : Int).toNat (⟨(rd_T36 y487 bt490.1).f0, (rd_T36 y487 bt490.1).f1⟩ : S36)), bt490.2)) else (none)) else (none)) else (none))))))) else (some (x7_1, t478))) = some (r1, r2) := H
    have A53 := Aside0.mk A530
    clear A530
    by_cases c54 : t477 = true
    ·subst c54
     replace H := ifp_ H
     by_cases c55 : (x7_1.length : Int) = 0
     ·rw [if_pos c55] at H
      have c55b0 : ((x7_1.length : Int) == 0) = true := beq_iff_eq.mpr c55
      have c55b1 : ((x7_1.length : Int) != 0) = false := bne_eq_false_iff_eq.mpr c55
      clear c55
      by_cases c56 : x7_1.length < 8796093022208
      ·rw [if_pos c56] at H
       have LMc56 := Aside0.mk c56
       clear c56
       obtain ⟨y479, hy479⟩ : ∃ y_ : List (S36), y_ = (x7_1 ++ [(⟨0, 1⟩ : S36)]) := ⟨_, rfl⟩
       replace H : (some (y479, t478)) = some (r1, r2) := by first | (rw [hy479]; with_reducible exact H) | (have H2_ := (Option.bind_some _ _).symm.trans H; rw [hy479]; with_reducible exact H2_) | (have H2_ := (Option.bind_some _ _).symm.trans H; with_reducible exact H2_) | with_reducible exact H | (rw [hy479]; exact H) | exact H
       have Ny479 := Aside0.mk hy479
       clear hy479
       simp only [Option.some.injEq, Prod.mk.injEq] at H
       obtain ⟨rfl, rfl⟩ := H
       obtain ⟨Ao57, co57, eo57⟩ := Kd.R_slice HO_8.out
       subst eo57
       go_wp2_with (first | ((with_reducible refine gate_callee (f := 88) rfl ?_); refine goesL_ (some 58) rfl rfl Try.func88 k_ rfl #[.pointer (some ⟨g, 0, none⟩), .int .i64 a2] rfl (g2_) ?_; (with_reducible refine (spec_l20Rd_odd.calls k1 g s0_0 x1001_1 a2 true t478 w0 _ ?side1 ?side2 A53.out).mono ?_); (case side1 => exact spec_l20Pays.calls_q0); (case side2 => exact spec_l20Pays.calls_q2); rintro e w58 ⟨rfl, hi, hb, hk⟩; refine ⟨_, rfl, ?_⟩; replace HO_7 := Aside0.mk (Kd.R_mono (Kd.R_keep (IsS79.apart (show IsS79 w0 _ g s0_0 x1001_1 from spec_l20Pays.calls_q0) (uf1_ HO_7) (by decide)) hk (fun _ h => h.2)) (fun _ h => h.1)); replace HO_8 := Aside0.mk (Kd.R_mono (Kd.R_keep (IsS79.apart (show IsS79 w0 _ g s0_0 x1001_1 from spec_l20Pays.calls_q0) (uf1_ HO_8) (by decide)) hk (fun _ h => h.2)) (fun _ h => h.1)); replace BK448 := Aside0.mk (KeepBut.blk hk (g' := gb448) (o := .cells #[.slice A1_0 l1_0.length c1_0, .slice A1_1 l1_1.length c1_1] 26 (0, 0)) (uf0_ BK448) NB448_0.out (by simp)); replace HK := Aside0.mk (KeepBut.trans (spec_l20Pays.calls_q1) hk (.inl rfl)); replace HB := Aside0.mk (hb); replace HI0 := Aside0.mk (hi); (try clear hb); (try clear hk hi); obtain ⟨Ao59, co59, eo59⟩ := Kd.R_slice HO_7.out; subst eo59) | ((with_reducible refine gate_builtin (b := .append) (xs := #[.tmp 67, .tmp 69]) rfl ?_); at_builtin; refine Kd.R_append k36 w.heap.size rfl (.tmp 67) (.tmp 69) 28 36 (.agg #[(.int .i64 0), (.int .i64 0)]) 16 rfl Try.underlying28 info36 rfl (by decide) (by omega) (.slice Ao59 x7_1.length co59) x7_1 (⟨0, 1⟩ : S36) [.int .i64 0, .int .i64 1] (fun _ => True) (fun _ => False) rfl rfl ?aP (fun _ hk => hk.elim) ?aF ?aO (Below.refl _ _) ?aS ?aL ?_; (case aP => exact k36_mkM _ _ _ (⟨0, 1⟩ : S36)); (case aF => exact (fun _ _ => trivial)); (case aO => exact (uf1_ HO_7)); (case aS => exact (keep_size (w := w) (g := g) (row := none) (spec_l20Pays.calls_q1))); (case aL => have := LMc56.out; omega); intro v480 w60 ho hb hg hat; rw [← Ny479.out] at ho; replace HO_8 := Aside0.mk (Kd.R_over' (uf1_ HO_8) (Kd.R_typed (uf1_ HO_7)) (by decide) hg); replace BK448 := Aside0.mk (blk_grown (g := gb448) (o := .cells #[.slice A1_0 l1_0.length c1_0, .slice A1_1 l1_1.length c1_1] 26 (0, 0)) (uf0_ BK448) hg (Kd.R_ne HO_7.out BK448.out (by decide))); replace HB := Aside0.mk (below_weaken (spec_l20Pays.calls_q2) HL.out hb); replace HI0 := Aside0.mk (IsS79.grown (w0 := w0) (f0 := s0_0) (f1 := t478) (spec_l20Pays.calls_q0) hg (IsS79.own_ne HI0.out HO_7.out (by decide))); replace HK := Aside0.mk (KeepBut.trans (spec_l20Pays.calls_q1) (KeepBut.of_grown hg g) (Kd.R_base2 HO_7.out)); have HO481 := Aside0.mk (ho); clear HO_7; clear ho hb hg hat))
       go_ret
       exact ⟨_, g4_, uf1_ HO481, spec_l20Pays.calls_q0, spec_l20Pays.calls_q2, spec_l20Pays.calls_q1⟩
      ·rw [if_neg c56] at H
       exact absurd H (by simp)
     ·rw [if_neg c55] at H
      have c55b0 : ((x7_1.length : Int) == 0) = false := beq_eq_false_iff_ne.mpr c55
      have c55b1 : ((x7_1.length : Int) != 0) = true := bne_iff_ne.mpr c55
      have c55b2 : ¬ (x7_1 = []) := fun h_ => c55 (g46_)
      replace H := Option.bind_eq_some_iff.mp H
      obtain ⟨⟨t482, t483⟩, A610, H⟩ := H
      replace H : (if t482 = 0 then (if x7_1.length < 8796093022208 then (some ((x7_1 ++ [(⟨0, 1⟩ : S36)]), t483)) else (none)) else ((some (([(⟨0, 0⟩ : S36), (⟨(-1), 1⟩ : S36), (⟨100, 1⟩ : S36)] : List (S36)) : List (S36))).bind fun y487 => ((spec_l20Rd_pick.f k1 s0_0 t483 3).bind fun bt490 => (if 0 ≤ bt490.1 then (if bt490.1 < (y487.length : Int) then (if 0 < (x7_1.length : Int) then (some ((x7_1.set (0 : Int).toNat (⟨(rd_T36 y487 bt490.1).f0, (rd_T36 y487 bt490.1).f1⟩ : S36)), bt490.2)) else (none)) else (none)) else (none))))) = some (r1, r2) := H
      have A61 := Aside0.mk A610
      clear A610
      by_cases c62 : t482 = 0
      ·rw [if_pos c62] at H
       have c62b0 : (t482 == 0) = true := beq_iff_eq.mpr c62
       have c62b1 : (t482 != 0) = false := bne_eq_false_iff_eq.mpr c62
       clear c62
       by_cases c63 : x7_1.length < 8796093022208
       ·rw [if_pos c63] at H
        have LMc63 := Aside0.mk c63
        clear c63
        obtain ⟨y484, hy484⟩ : ∃ y_ : List (S36), y_ = (x7_1 ++ [(⟨0, 1⟩ : S36)]) := ⟨_, rfl⟩
        replace H : (some (y484, t483)) = some (r1, r2) := by first | (rw [hy484]; with_reducible exact H) | (have H2_ := (Option.bind_some _ _).symm.trans H; rw [hy484]; with_reducible exact H2_) | (have H2_ := (Option.bind_some _ _).symm.trans H; with_reducible exact H2_) | with_reducible exact H | (rw [hy484]; exact H) | exact H
        have Ny484 := Aside0.mk hy484
        clear hy484
        simp only [Option.some.injEq, Prod.mk.injEq] at H
        obtain ⟨rfl, rfl⟩ := H
        obtain ⟨Ao64, co64, eo64⟩ := Kd.R_slice HO_8.out
        subst eo64
        go_wp2_with (first | ((with_reducible refine gate_callee (f := 88) rfl ?_); refine goesL_ (some 58) rfl rfl Try.func88 k_ rfl #[.pointer (some ⟨g, 0, none⟩), .int .i64 a2] rfl (g2_) ?_; (with_reducible refine (spec_l20Rd_odd.calls k1 g s0_0 x1001_1 a2 true t478 w0 _ ?side1 ?side2 A53.out).mono ?_); (case side1 => exact spec_l20Pays.calls_q0); (case side2 => exact spec_l20Pays.calls_q2); rintro e w65 ⟨rfl, hi, hb, hk⟩; refine ⟨_, rfl, ?_⟩; replace HO_7 := Aside0.mk (Kd.R_mono (Kd.R_keep (IsS79.apart (show IsS79 w0 _ g s0_0 x1001_1 from spec_l20Pays.calls_q0) (uf1_ HO_7) (by decide)) hk (fun _ h => h.2)) (fun _ h => h.1)); replace HO_8 := Aside0.mk (Kd.R_mono (Kd.R_keep (IsS79.apart (show IsS79 w0 _ g s0_0 x1001_1 from spec_l20Pays.calls_q0) (uf1_ HO_8) (by decide)) hk (fun _ h => h.2)) (fun _ h => h.1)); replace BK448 := Aside0.mk (KeepBut.blk hk (g' := gb448) (o := .cells #[.slice A1_0 l1_0.length c1_0, .slice A1_1 l1_1.length c1_1] 26 (0, 0)) (uf0_ BK448) NB448_0.out (by simp)); replace HK := Aside0.mk (KeepBut.trans (spec_l20Pays.calls_q1) hk (.inl rfl)); replace HB := Aside0.mk (hb); replace HI0 := Aside0.mk (hi); (try clear hb); (try clear hk hi); obtain ⟨Ao66, co66, eo66⟩ := Kd.R_slice HO_7.out; subst eo66) | (go_at_call 87; (with_reducible refine (spec_l20Rd_pick.calls k1 g s0_0 t478 2 t482 t483 w0 _ ?side1 ?side2 A61.out).mono ?_); (case side1 => exact spec_l20Pays.calls_q0); (case side2 => exact spec_l20Pays.calls_q2); rintro e w67 ⟨rfl, hi, hb, hk⟩; replace HO_7 := Aside0.mk (Kd.R_mono (Kd.R_keep (IsS79.apart (show IsS79 w0 _ g s0_0 t478 from spec_l20Pays.calls_q0) (uf1_ HO_7) (by decide)) hk (fun _ h => h.2)) (fun _ h => h.1)); replace HO_8 := Aside0.mk (Kd.R_mono (Kd.R_keep (IsS79.apart (show IsS79 w0 _ g s0_0 t478 from spec_l20Pays.calls_q0) (uf1_ HO_8) (by decide)) hk (fun _ h => h.2)) (fun _ h => h.1)); replace BK448 := Aside0.mk (KeepBut.blk hk (g' := gb448) (o := .cells #[.slice A1_0 l1_0.length c1_0, .slice A1_1 l1_1.length c1_1] 26 (0, 0)) (uf0_ BK448) NB448_0.out (by simp)); replace HK := Aside0.mk (KeepBut.trans (spec_l20Pays.calls_q1) hk (.inl rfl)); replace HB := Aside0.mk (hb); replace HI0 := Aside0.mk (hi); (try clear hb); (try clear hk hi)) | ((with_reducible refine gate_builtin (b := .append) (xs := #[.tmp 67, .tmp 69]) rfl ?_); at_builtin; refine Kd.R_append k36 w.heap.size rfl (.tmp 67) (.tmp 69) 28 36 (.agg #[(.int .i64 0), (.int .i64 0)]) 16 rfl Try.underlying28 info36 rfl (by decide) (by omega) (.slice Ao66 x7_1.length co66) x7_1 (⟨0, 1⟩ : S36) [.int .i64 0, .int .i64 1] (fun _ => True) (fun _ => False) rfl rfl ?aP (fun _ hk => hk.elim) ?aF ?aO (Below.refl _ _) ?aS ?aL ?_; (case aP => exact k36_mkM _ _ _ (⟨0, 1⟩ : S36)); (case aF => exact (fun _ _ => trivial)); (case aO => exact (uf1_ HO_7)); (case aS => exact (keep_size (w := w) (g := g) (row := none) (spec_l20Pays.calls_q1))); (case aL => have := LMc63.out; omega); intro v485 w68 ho hb hg hat; rw [← Ny484.out] at ho; replace HO_8 := Aside0.mk (Kd.R_over' (uf1_ HO_8) (Kd.R_typed (uf1_ HO_7)) (by decide) hg); replace BK448 := Aside0.mk (blk_grown (g := gb448) (o := .cells #[.slice A1_0 l1_0.length c1_0, .slice A1_1 l1_1.length c1_1] 26 (0, 0)) (uf0_ BK448) hg (Kd.R_ne HO_7.out BK448.out (by decide))); replace HB := Aside0.mk (below_weaken (spec_l20Pays.calls_q2) HL.out hb); replace HI0 := Aside0.mk (IsS79.grown (w0 := w0) (f0 := s0_0) (f1 := t483) (spec_l20Pays.calls_q0) hg (IsS79.own_ne HI0.out HO_7.out (by decide))); replace HK := Aside0.mk (KeepBut.trans (spec_l20Pays.calls_q1) (KeepBut.of_grown hg g) (Kd.R_base2 HO_7.out)); have HO486 := Aside0.mk (ho); clear HO_7; clear ho hb hg hat))
        go_ret
        exact ⟨_, g4_, uf1_ HO486, spec_l20Pays.calls_q0, spec_l20Pays.calls_q2, spec_l20Pays.calls_q1⟩
       ·rw [if_neg c63] at H
        exact absurd H (by simp)
      ·rw [if_neg c62] at H
       have c62b0 : (t482 == 0) = false := beq_eq_false_iff_ne.mpr c62
       have c62b1 : (t482 != 0) = true := bne_iff_ne.mpr c62
       obtain ⟨y487, hy487⟩ : ∃ y_ : List (S36), y_ = (([(⟨0, 0⟩ : S36), (⟨(-1), 1⟩ : S36), (⟨100, 1⟩ : S36)] : List (S36))) := ⟨_, rfl⟩
       replace H : ((spec_l20Rd_pick.f k1 s0_0 t483 3).bind fun bt490 => (if 0 ≤ bt490.1 then (if bt490.1 < (y487.length : Int) then (if 0 < (x7_1.length : Int) then (some ((x7_1.set (0 : Int).toNat (⟨(rd_T36 y487 bt490.1).f0, (rd_T36 y487 bt490.1).f1⟩ : S36)), bt490.2)) else (none)) else (none)) else (none))) = some (r1, r2) := by first | (rw [hy487]; with_reducible exact H) | (have H2_ := (Option.bind_some _ _).symm.trans H; rw [hy487]; with_reducible exact H2_) | (have H2_ := (Option.bind_some _ _).symm.trans H; with_reducible exact H2_) | with_reducible exact H | (rw [hy487]; exact H) | exact H
       have Ny487 := Aside0.mk hy487
       clear hy487
       replace H := Option.bind_eq_some_iff.mp H
       obtain ⟨⟨t490, t491⟩, A690, H⟩ := H
       replace H : (if 0 ≤ t490 then (if t490 < (y487.length : Int) then (if 0 < (x7_1.length : Int) then (some ((x7_1.set (0 : Int).toNat (⟨(rd_T36 y487 t490).f0, (rd_T36 y487 t490).f1⟩ : S36)), t491)) else (none)) else (none)) else (none)) = some (r1, r2) := H
       have A69 := Aside0.mk A690
       clear A690
       by_cases c70 : 0 ≤ t490
       ·rw [if_pos c70] at H
        have c70b0 := decide_eq_true c70
        clear c70
        by_cases c71 : t490 < (y487.length : Int)
        ·rw [if_pos c71] at H
         have c71b0 := decide_eq_true c71
         clear c71
         by_cases c72 : 0 < (x7_1.length : Int)
         ·rw [if_pos c72] at H
          have c72b0 := decide_eq_true c72
          have c72b1 : decide (0 < x7_1.length) = true := decide_eq_true (by omega)
          clear c72
          obtain ⟨y493, hy493⟩ : ∃ y_ : List (S36), y_ = (x7_1.set (0 : Int).toNat (⟨(rd_T36 y487 t490).f0, (rd_T36 y487 t490).f1⟩ : S36)) := ⟨_, rfl⟩
          replace H : (some (y493, t491)) = some (r1, r2) := by first | (rw [hy493]; with_reducible exact H) | (have H2_ := (Option.bind_some _ _).symm.trans H; rw [hy493]; with_reducible exact H2_) | (have H2_ := (Option.bind_some _ _).symm.trans H; with_reducible exact H2_) | with_reducible exact H | (rw [hy493]; exact H) | exact H
          have Ny493 := Aside0.mk hy493
          clear hy493
          simp only [Option.some.injEq, Prod.mk.injEq] at H
          obtain ⟨rfl, rfl⟩ := H
          obtain ⟨Ao74, co74, eo74⟩ := Kd.R_slice HO_8.out
          subst eo74
          go_wp2_with (first | ((with_reducible refine gate_callee (f := 88) rfl ?_); refine goesL_ (some 58) rfl rfl Try.func88 k_ rfl #[.pointer (some ⟨g, 0, none⟩), .int .i64 a2] rfl (g2_) ?_; (with_reducible refine (spec_l20Rd_odd.calls k1 g s0_0 x1001_1 a2 true t478 w0 _ ?side1 ?side2 A53.out).mono ?_); (case side1 => exact spec_l20Pays.calls_q0); (case side2 => exact spec_l20Pays.calls_q2); rintro e w75 ⟨rfl, hi, hb, hk⟩; refine ⟨_, rfl, ?_⟩; replace HO_7 := Aside0.mk (Kd.R_mono (Kd.R_keep (IsS79.apart (show IsS79 w0 _ g s0_0 x1001_1 from spec_l20Pays.calls_q0) (uf1_ HO_7) (by decide)) hk (fun _ h => h.2)) (fun _ h => h.1)); replace HO_8 := Aside0.mk (Kd.R_mono (Kd.R_keep (IsS79.apart (show IsS79 w0 _ g s0_0 x1001_1 from spec_l20Pays.calls_q0) (uf1_ HO_8) (by decide)) hk (fun _ h => h.2)) (fun _ h => h.1)); replace BK448 := Aside0.mk (KeepBut.blk hk (g' := gb448) (o := .cells #[.slice A1_0 l1_0.length c1_0, .slice A1_1 l1_1.length c1_1] 26 (0, 0)) (uf0_ BK448) NB448_0.out (by simp)); replace HK := Aside0.mk (KeepBut.trans (spec_l20Pays.calls_q1) hk (.inl rfl)); replace HB := Aside0.mk (hb); replace HI0 := Aside0.mk (hi); (try clear hb); (try clear hk hi); obtain ⟨Ao76, co76, eo76⟩ := Kd.R_slice HO_7.out; subst eo76) | (go_at_call 87; (with_reducible refine (spec_l20Rd_pick.calls k1 g s0_0 t478 2 t482 t483 w0 _ ?side1 ?side2 A61.out).mono ?_); (case side1 => exact spec_l20Pays.calls_q0); (case side2 => exact spec_l20Pays.calls_q2); rintro e w77 ⟨rfl, hi, hb, hk⟩; replace HO_7 := Aside0.mk (Kd.R_mono (Kd.R_keep (IsS79.apart (show IsS79 w0 _ g s0_0 t478 from spec_l20Pays.calls_q0) (uf1_ HO_7) (by decide)) hk (fun _ h => h.2)) (fun _ h => h.1)); replace HO_8 := Aside0.mk (Kd.R_mono (Kd.R_keep (IsS79.apart (show IsS79 w0 _ g s0_0 t478 from spec_l20Pays.calls_q0) (uf1_ HO_8) (by decide)) hk (fun _ h => h.2)) (fun _ h => h.1)); replace BK448 := Aside0.mk (KeepBut.blk hk (g' := gb448) (o := .cells #[.slice A1_0 l1_0.length c1_0, .slice A1_1 l1_1.length c1_1] 26 (0, 0)) (uf0_ BK448) NB448_0.out (by simp)); replace HK := Aside0.mk (KeepBut.trans (spec_l20Pays.calls_q1) hk (.inl rfl)); replace HB := Aside0.mk (hb); replace HI0 := Aside0.mk (hi); (try clear hb); (try clear hk hi)) | ((with_reducible refine gate_dst (N := 75) rfl ?_); refine Kd.R_lit k36 _ 36 ?hg (N := 75) ?hd (xs := ([(⟨0, 0⟩ : S36), (⟨(-1), 1⟩ : S36), (⟨100, 1⟩ : S36)] : List (S36))) (inner := [.int .i64 0, .int .i64 0, .int .i64 (-1), .int .i64 1, .int .i64 100, .int .i64 1]) (ok := fun _ => True) (okp := fun _ => True) ?hr ?hp (fun _ hk => hk) trivial (Below.refl _ _) (Nat.le_refl _) (by simp) ?_; (case hd => rfl); (case hg => rfl); (case hr => first | (go_simp; done) | (go_simp; rfl)); (case hp => exact (Reps.c2 (show Kd.M k36 _ _ _ (⟨0, 0⟩ : S36) [.int .i64 0, .int .i64 0] from (k36_mkM _ _ _ (⟨0, 0⟩ : S36) )) (Reps.c2 (show Kd.M k36 _ _ _ (⟨(-1), 1⟩ : S36) [.int .i64 (-1), .int .i64 1] from (k36_mkM _ _ _ (⟨(-1), 1⟩ : S36) )) (Reps.c2 (show Kd.M k36 _ _ _ (⟨100, 1⟩ : S36) [.int .i64 100, .int .i64 1] from (k36_mkM _ _ _ (⟨100, 1⟩ : S36) )) (Reps.none _ _))))); intro v488 w78 ho79 hb hg_ hnew_; clear hg_ hnew_; (first | rw [← Ny487.out] at ho79 | (simp only [Int.reduceToNat] at ho79; rw [← Ny487.out] at ho79)); replace HO_8 := Aside0.mk (Kd.R_below (uf1_ HO_8) hb); have HO489 := Aside0.mk (Kd.R_lower (Kd.R_new' ho79 (Kd.R_lt (uf1_ HO_7))) (keep_size (w := w) (g := g) (row := none) (spec_l20Pays.calls_q1))); replace HO_7 := Aside0.mk (Kd.R_elder' (uf1_ HO_7) (Kd.R_base ho79) hb); replace BK448 := Aside0.mk (blk_below (g := gb448) (o := .cells #[.slice A1_0 l1_0.length c1_0, .slice A1_1 l1_1.length c1_1] 26 (0, 0)) (uf0_ BK448) hb); replace HK := Aside0.mk (KeepBut.trans (spec_l20Pays.calls_q1) (KeepBut.of_below hb g none) (.inl rfl)); replace HB := Aside0.mk (below_step (spec_l20Pays.calls_q2) hb); replace HI0 := Aside0.mk (IsS79.below (spec_l20Pays.calls_q0) hb); clear hb ho79) | ((with_reducible refine gate_callee (f := 87) rfl ?_); refine goesL_ (some 77) rfl rfl Try.func87 k_ rfl #[.pointer (some ⟨g, 0, none⟩), .int .i64 3] rfl (g2_) ?_; (with_reducible refine (spec_l20Rd_pick.calls k1 g s0_0 t483 3 t490 t491 w0 _ ?side1 ?side2 A69.out).mono ?_); (case side1 => exact spec_l20Pays.calls_q0); (case side2 => exact spec_l20Pays.calls_q2); rintro e w80 ⟨rfl, hi, hb, hk⟩; refine ⟨_, rfl, ?_⟩; replace HO_7 := Aside0.mk (Kd.R_mono (Kd.R_keep (IsS79.apart (show IsS79 w0 _ g s0_0 t483 from spec_l20Pays.calls_q0) (uf1_ HO_7) (by decide)) hk (fun _ h => h.2)) (fun _ h => h.1)); replace HO_8 := Aside0.mk (Kd.R_mono (Kd.R_keep (IsS79.apart (show IsS79 w0 _ g s0_0 t483 from spec_l20Pays.calls_q0) (uf1_ HO_8) (by decide)) hk (fun _ h => h.2)) (fun _ h => h.1)); replace BK448 := Aside0.mk (KeepBut.blk hk (g' := gb448) (o := .cells #[.slice A1_0 l1_0.length c1_0, .slice A1_1 l1_1.length c1_1] 26 (0, 0)) (uf0_ BK448) NB448_0.out (by simp)); replace HO489 := Aside0.mk (Kd.R_mono (Kd.R_keep (IsS79.apart (show IsS79 w0 _ g s0_0 t483 from spec_l20Pays.calls_q0) (uf1_ HO489) (by decide)) hk (fun _ h => h.2)) (fun _ h => h.1)); replace HK := Aside0.mk (KeepBut.trans (spec_l20Pays.calls_q1) hk (.inl rfl)); replace HB := Aside0.mk (hb); replace HI0 := Aside0.mk (hi); (try clear hb); (try clear hk hi); obtain ⟨Ao81, co81, eo81⟩ := Kd.R_slice HO489.out; subst eo81; have p492 : 0 ≤ (t490 : Int) := of_decide_eq_true (g1_); have q492 : t490 < (y487.length : Int) := of_decide_eq_true (g1_); obtain ⟨ad492, e492, hx492_0, hx492_1⟩ := at_T36 (Kd.R_reads' HO489.out).2.2 t490 p492 q492; cases e492; replace p492 := eq_true p492; replace q492 := eq_true q492; have p73 : 0 ≤ (0 : Int) := (by omega); have q73 : (0 : Int) < ((x7_1.length : Int) : Int) := of_decide_eq_true (g1_); have qi73 : (0 < x7_1.length) = True := eq_true (by omega); obtain ⟨go73, co73, eo73, gb73, gl73, cl73, HG73⟩ := Kd.R_form HO_7.out (by omega); (first | cases eo73 | (injection eo73 with ea_ en_ ec_; (first | subst ea_ | (injection ea_ with ea_; subst ea_)); subst ec_; clear en_)); have GB73 := Aside0.mk gb73; have GG73 := Aside0.mk HG73; clear gb73 gl73 HG73; obtain ⟨ce73, hcl73, hM73, hcc73, hfr73⟩ := Kd.R_elem HO_7.out z36 (0 : Int) p73 q73; obtain rfl := k36_openM hM73; have hx73_0 : w80.cell? ⟨go73, (0 : Int).toNat * 2, none⟩ = some (.int .i64 ((rd_T36 x7_1 0).f0)) := hcc73 0 _ rfl; have hx73_1 : w80.cell? ⟨go73, (0 : Int).toNat * 2 + 1, none⟩ = some (.int .i64 ((rd_T36 x7_1 0).f1)) := hcc73 1 _ rfl; have hf73_0 : w80.frozen? ⟨go73, (0 : Int).toNat * 2, none⟩ = false := hfr73 0; have hf73_1 : w80.frozen? ⟨go73, (0 : Int).toNat * 2 + 1, none⟩ = false := hfr73 1; clear hcl73 hcc73 hfr73 hM73; (try rw [show ((0 : Int)).toNat = 0 from rfl] at hx73_0); (try simp only [Nat.reduceMul, Nat.zero_mul, Nat.zero_add, Nat.reduceAdd] at hx73_0); (try rw [show ((0 : Int)).toNat = 0 from rfl] at hf73_0); (try simp only [Nat.reduceMul, Nat.zero_mul, Nat.zero_add, Nat.reduceAdd] at hf73_0); (try rw [show ((0 : Int)).toNat = 0 from rfl] at hx73_1); (try simp only [Nat.reduceMul, Nat.zero_mul, Nat.zero_add, Nat.reduceAdd] at hx73_1); (try rw [show ((0 : Int)).toNat = 0 from rfl] at hf73_1); (try simp only [Nat.reduceMul, Nat.zero_mul, Nat.zero_add, Nat.reduceAdd] at hf73_1); replace p73 := eq_true p73; replace q73 := eq_true q73; have n_ := Aside0.mk (Kd.R_mono (ok' := (fun k_ => some k_ ≠ (.slice (some ad492) y487.length co81 : Value).ownBlock)) HO_7.out (fun k_ hk => hk.2)); clear HO_7; have HO_7 := n_; clear n_; have HX82 := Aside0.mk (show Kd.R k36 36 w80 w.heap.size (fun k_ => some k_ ≠ (.slice (some ad492) y487.length co81 : Value).ownBlock) (.slice (some ⟨go73, 0, none⟩) x7_1.length co76) x7_1 from (uf1_ HO_7)); obtain ⟨ce82, hcl82, hM82, hcc82, hfr82⟩ := Kd.R_elem HX82.out z36 (0 : Int) (by omega) (by have h_ : (0 : Int) < ((x7_1.length : Int) : Int) := of_decide_eq_true (g1_); first | exact h_ | (have e_ := (Kd.R_reads' HO_7.out).1; omega) | simpa using h_); obtain rfl := k36_openM hM82; have HP82 := Kd.R_seg HX82.out (0 : Int) (by omega) (by have h_ : (0 : Int) < ((x7_1.length : Int) : Int) := of_decide_eq_true (g1_); first | exact h_ | (have e_ := (Kd.R_reads' HO_7.out).1; omega) | simpa using h_) (seg := [.int .i64 ((rd_T36 y487 t490).f0), .int .i64 ((rd_T36 y487 t490).f1)]) (j := 0) hcl82 hcc82 (show 2 ≤ 2 from by decide) (x' := (⟨(rd_T36 y487 t490).f0, (rd_T36 y487 t490).f1⟩ : S36)) (k36_mkM _ _ _ (⟨(rd_T36 y487 t490).f0, (rd_T36 y487 t490).f1⟩ : S36) ) (fun _ hk => hk); have hx82_0 := hcc82 0 _ rfl; (try simp only [show (k36).sz = 2 from rfl, Nat.mul_one, Nat.add_zero] at hx82_0); (try rw [show ((0 : Int)).toNat = 0 from rfl] at hx82_0); (try simp only [Nat.reduceMul, Nat.zero_mul, Nat.zero_add, Nat.reduceAdd] at hx82_0); have hf82_0 := hfr82 0; (try simp only [show (k36).sz = 2 from rfl, Nat.mul_one, Nat.add_zero] at hf82_0); (try rw [show ((0 : Int)).toNat = 0 from rfl] at hf82_0); (try simp only [Nat.reduceMul, Nat.zero_mul, Nat.zero_add, Nat.reduceAdd] at hf82_0); have hx82_1 := hcc82 1 _ rfl; (try simp only [show (k36).sz = 2 from rfl, Nat.mul_one, Nat.add_zero] at hx82_1); (try rw [show ((0 : Int)).toNat = 0 from rfl] at hx82_1); (try simp only [Nat.reduceMul, Nat.zero_mul, Nat.zero_add, Nat.reduceAdd] at hx82_1); have hf82_1 := hfr82 1; (try simp only [show (k36).sz = 2 from rfl, Nat.mul_one, Nat.add_zero] at hf82_1); (try rw [show ((0 : Int)).toNat = 0 from rfl] at hf82_1); (try simp only [Nat.reduceMul, Nat.zero_mul, Nat.zero_add, Nat.reduceAdd] at hf82_1); clear hcl82 hcc82 hfr82 hM82) | ((with_reducible refine gate_store (t := 36) (p := 80) rfl ?_); refine store_event (t := 36) (p := 80) (v := ?vo_w83) (w1 := ((w80.setCell ⟨go73, 0, none⟩ (.int .i64 ((rd_T36 y487 t490).f0))).setCell ⟨go73, 1, none⟩ (.int .i64 ((rd_T36 y487 t490).f1)))) ?hg ?ho ?hn ?hr ?_; (case ho => rfl); (case hg => rfl); (case hn => rfl); (case hr => first | (go_simp; done) | (go_simp; rfl)); intro w83 hw; have hg : w80.grownBy w83 (some go73) := (by rw [hw]; exact HP82.2); have hp_ : Kd.R k36 36 w83 w.heap.size (fun k_ => some k_ ≠ (.slice (some ad492) y487.length co81 : Value).ownBlock) (.slice (some ⟨go73, 0, none⟩) x7_1.length co76) y493 := (by rw [hw, Ny493.out]; exact HP82.1); clear HP82; replace HO_8 := Aside0.mk (Kd.R_over' (v := (.slice (some ⟨go73, 0, none⟩) x7_1.length co76)) (uf1_ HO_8) (Kd.R_typed HO_7.out) (by decide) hg); replace BK448 := Aside0.mk (blk_grown (g := gb448) (o := .cells #[.slice A1_0 l1_0.length c1_0, .slice A1_1 l1_1.length c1_1] 26 (0, 0)) (uf0_ BK448) hg (Kd.R_ne HO_7.out BK448.out (by decide))); replace HI0 := Aside0.mk (IsS79.grown (w0 := w0) (f0 := s0_0) (f1 := t491) (spec_l20Pays.calls_q0) hg (IsS79.own_ne HI0.out HO_7.out (by decide))); replace HO489 := Aside0.mk (Kd.R_after (v := (.slice (some ⟨go73, 0, none⟩) x7_1.length co76)) (v1 := (.slice (some ⟨go73, 0, none⟩) x7_1.length co76)) (ok := (fun _ => True)) (uf1_ HO489) hg (.inl rfl)); replace HB := Aside0.mk ((by rw [hw]; exact below_set (below_set (HB.out) (Nat.le_trans HL.out GB73.out)) (Nat.le_trans HL.out GB73.out) : Below w0.heap.size w0 w83)); replace HK := Aside0.mk (KeepBut.trans (spec_l20Pays.calls_q1) (KeepBut.of_grown hg g) (Kd.R_base2 HO_7.out)); replace HO_7 := Aside0.mk (hp_); clear hg hw hp_))
          go_ret
          exact ⟨_, g4_, by (with_reducible repeat (first | apply Kd.R_alloc | apply Kd.R_drewN | apply Kd.R_drew)); exact Kd.R_mono HO_7.out (fun _ hk => trivial), spec_l20Pays.calls_q0, spec_l20Pays.calls_q2, spec_l20Pays.calls_q1⟩
         ·rw [if_neg c72] at H
          exact absurd H (by simp)
        ·rw [if_neg c71] at H
         exact absurd H (by simp)
       ·rw [if_neg c70] at H
        exact absurd H (by simp)
    ·replace c54 := Bool.eq_false_iff.mpr c54
     subst c54
     replace H := ifn_ H
     simp only [Option.some.injEq, Prod.mk.injEq] at H
     obtain ⟨rfl, rfl⟩ := H
     obtain ⟨Ao84, co84, eo84⟩ := Kd.R_slice HO_8.out
     subst eo84
     go_wp2_with (first | ((with_reducible refine gate_callee (f := 88) rfl ?_); refine goesL_ (some 58) rfl rfl Try.func88 k_ rfl #[.pointer (some ⟨g, 0, none⟩), .int .i64 a2] rfl (g2_) ?_; (with_reducible refine (spec_l20Rd_odd.calls k1 g s0_0 x1001_1 a2 false t478 w0 _ ?side1 ?side2 A53.out).mono ?_); (case side1 => exact spec_l20Pays.calls_q0); (case side2 => exact spec_l20Pays.calls_q2); rintro e w85 ⟨rfl, hi, hb, hk⟩; refine ⟨_, rfl, ?_⟩; replace HO_7 := Aside0.mk (Kd.R_mono (Kd.R_keep (IsS79.apart (show IsS79 w0 _ g s0_0 x1001_1 from spec_l20Pays.calls_q0) (uf1_ HO_7) (by decide)) hk (fun _ h => h.2)) (fun _ h => h.1)); replace HO_8 := Aside0.mk (Kd.R_mono (Kd.R_keep (IsS79.apart (show IsS79 w0 _ g s0_0 x1001_1 from spec_l20Pays.calls_q0) (uf1_ HO_8) (by decide)) hk (fun _ h => h.2)) (fun _ h => h.1)); replace BK448 := Aside0.mk (KeepBut.blk hk (g' := gb448) (o := .cells #[.slice A1_0 l1_0.length c1_0, .slice A1_1 l1_1.length c1_1] 26 (0, 0)) (uf0_ BK448) NB448_0.out (by simp)); replace HK := Aside0.mk (KeepBut.trans (spec_l20Pays.calls_q1) hk (.inl rfl)); replace HB := Aside0.mk (hb); replace HI0 := Aside0.mk (hi); (try clear hb); (try clear hk hi)))
     go_ret
     exact ⟨_, g4_, uf1_ HO_7, spec_l20Pays.calls_q0, spec_l20Pays.calls_q2, spec_l20Pays.calls_q1⟩
end Go.Proofs.Ytigpmfoagkhaeaa.PU

namespace Go.Proofs.Ytigpmfoagkhaeaa.PU
open Go.RowKit Go.Proofs.YtigpmfoagkhaeaaW.PrintWords Go.Proofs.YtigpmfoagkhaeaaW.PrintLast Go.Proofs.YtigpmfoagkhaeaaW.PrintMore Go.Proofs.Ytigpmfoagkhaeaa.Qd
attribute [local go_sem] max2_int min2_int max_two min_two max_three min_three max_four min_four   -- for this text's walks alone
set_option linter.unusedVariables false
set_option linter.unusedSimpArgs false
def spec_l20Paid.f (k : Nat) (s0_0 : List Int) (s0_1 : Int) : Option (List Int × (List (List Int)) × (List (S36)) × Int) := (spec_l20Book.f k s0_0 s0_1 20).bind fun bt551 => ((spec_l20Pays.f k s0_0 bt551.2.2 bt551.1 bt551.2.1 14).bind fun bt559 => (some (bt551.1, bt551.2.1, bt559.1, bt559.2)))
theorem spec_l20Paid.mono : ∀ a0 a1 k, LeO (spec_l20Paid.f k a0 a1) (spec_l20Paid.f (k + 1) a0 a1) := by
 intro a0 a1 k
 unfold spec_l20Paid.f
 repeat' first
   | (with_reducible exact spec_l20Book.mono _ _ _ _)
   | (with_reducible exact spec_l20Pays.mono _ _ _ _ _ _)
   | (with_reducible exact LeO.refl _)
   | (with_reducible exact LeO.none _)
   | (with_reducible refine LeO.ite ?_ ?_)
   | (with_reducible refine LeO.bind ?_ (fun _ => ?_))
   | exact spec_l20Book.mono _ _ _ _
   | exact spec_l20Pays.mono _ _ _ _ _ _
   | exact LeO.none _
   | refine LeO.ite ?_ ?_
   | refine LeO.bind ?_ (fun _ => ?_)
theorem spec_l20Paid.calls_q0 {p : Prop} (h : p := by repeat (first | (with_reducible first | exact HI0.out | apply IsS79.alloc | apply IsS79.drewN | apply IsS79.drew | apply IsS79.set_1 | refine IsS79.far ?_ NB0_550.out _ | refine IsS79.far ?_ NB0_558.out _) | exact HI0.out)) : p := h
theorem spec_l20Paid.calls_q1 {p : Prop} (h : p := by repeat (first | (with_reducible first | exact HK.out | apply KeepBut.set_ | apply keep_drewN | apply keep_drew | apply keep_alloc | refine keep_far ?_ GW550.out _ | refine keep_far ?_ GW558.out _) | exact HK.out)) : p := h
theorem spec_l20Paid.calls_q2 {p : Prop} (h : p := by repeat (first | (with_reducible first | exact HB.out | apply below_alloc | apply pw_below_drewN | apply below_drew1 | refine below_set ?_ (IsS79.ge HI0.out) | refine below_set ?_ GE550.out | refine below_set ?_ GE558.out) | exact HB.out)) : p := h
set_option maxHeartbeats 8000000 in
set_option maxRecDepth 100000 in
theorem spec_l20Paid.calls (k : Nat) (g : Nat) (s0_0 : List Int) (s0_1 : Int) (r1 : List Int) (r2 : List (List Int)) (r3 : List (S36)) (r4 : Int) (w0 w : World) (hI : IsS79 w0 w g s0_0 s0_1) (hB : Below w0.heap.size w0 w) (h : spec_l20Paid.f k s0_0 s0_1 = some (r1, r2, r3, r4)) :
  Calls Try.prog 73 #[.pointer (some ⟨g, 0, none⟩)] w fun e w' => ∃ v0_ v1_ v2_ : Value, e = .returned (.tuple #[.agg #[v0_, v1_], v2_]) ∧ Kd.R (Kd.int .i64) 3 w' w.heap.size (fun k_ => (w.heap.size ≤ k_)) v0_ r1 ∧ Kd.V (Kd.slice 3 (Kd.int .i64)) 23 w' w.heap.size (fun k_ => (w.heap.size ≤ k_) ∧ some k_ ≠ (v0_ : Value).ownBlock ∧ some k_ ≠ (v2_ : Value).ownBlock) v1_ r2 ∧ Kd.R k36 36 w' w.heap.size (fun k_ => (w.heap.size ≤ k_)) v2_ r3 ∧ IsS79 w0 w' g s0_0 r4 ∧ Below w0.heap.size w0 w' ∧ KeepBut w w' g none := by
 have hu26 := Try.underlying26
 have HI0 := Aside0.mk hI
 have HK := Aside0.mk (KeepBut.refl w g none)
 have HL := Aside0.mk hB.size
 clear hI
 have HW0 := Aside0.mk hB.size
 have HB := Aside0.mk hB
 clear hB
 have H : ((spec_l20Book.f k s0_0 s0_1 20).bind fun bt551 => ((spec_l20Pays.f k s0_0 bt551.2.2 bt551.1 bt551.2.1 14).bind fun bt559 => (some (bt551.1, bt551.2.1, bt559.1, bt559.2)))) = some (r1, r2, r3, r4) := h
 clear h
 replace H := Option.bind_eq_some_iff.mp H
 obtain ⟨⟨t551, t554, t557⟩, A20, H⟩ := H
 replace H : ((spec_l20Pays.f k s0_0 t557 t551 t554 14).bind fun bt559 => (some (t551, t554, bt559.1, bt559.2))) = some (r1, r2, r3, r4) := H
 have A2 := Aside0.mk A20
 clear A20
 replace H := Option.bind_eq_some_iff.mp H
 obtain ⟨⟨t559, t562⟩, A30, H⟩ := H
 replace H : (some (t551, t554, t559, t562)) = some (r1, r2, r3, r4) := H
 have A3 := Aside0.mk A30
 clear A30
 simp only [Option.some.injEq, Prod.mk.injEq] at H
 obtain ⟨rfl, rfl, rfl, rfl⟩ := H
 go_enter Try.func73, Try.ntmps73
 try go_wp2_with (first | ((with_reducible refine gate_dst (N := 2) rfl ?_); refine bx_ (N := 2) #[.slice none 0 0, .slice none 0 0] 26 ?_; intro gb550 hg w4 hbox hb; replace HB := Aside0.mk (below_step (spec_l20Paid.calls_q2) hb); have BK550 := Aside0.mk (hbox); have GW550 := Aside0.mk ((g100_ : w.heap.size ≤ gb550)); have GE550 := Aside0.mk ((Nat.le_trans HW0.out (g100_ : w.heap.size ≤ gb550) : w0.heap.size ≤ gb550)); replace HK := Aside0.mk (KeepBut.trans (spec_l20Paid.calls_q1) (KeepBut.of_below hb g none) (.inl rfl)); have NB0_550 := Aside0.mk ((by rw [hg]; exact Nat.ne_of_lt (IsS79.lt (show IsS79 w0 _ g s0_0 s0_1 from spec_l20Paid.calls_q0)) : g ≠ gb550)); have NB550_0 := Aside0.mk ((by rw [hg]; exact Nat.ne_of_gt (IsS79.lt (show IsS79 w0 _ g s0_0 s0_1 from spec_l20Paid.calls_q0)) : gb550 ≠ g)); replace HI0 := Aside0.mk (IsS79.below (spec_l20Paid.calls_q0) hb); clear hb hbox hg) | ((with_reducible refine gate_callee (f := 52) rfl ?_); refine goesL_ (some 6) rfl rfl Try.func52 k_ rfl #[.pointer (some ⟨g, 0, none⟩), .int .i64 20] rfl (g2_) ?_; (with_reducible refine (spec_l20Book.calls k g s0_0 s0_1 20 t551 t554 t557 w0 _ ?side1 ?side2 A2.out).mono ?_); (case side1 => exact spec_l20Paid.calls_q0); (case side2 => exact spec_l20Paid.calls_q2); rintro e w5 ⟨v552, v555, rfl, ho0, ho1, hi, hb, hk⟩; refine ⟨_, rfl, ?_⟩; have HO553 := Aside0.mk (Kd.R_lower (Kd.R_newM (M := fun k_ => (w.heap.size ≤ k_)) (Kd.R_mono (ok' := fun k_ => True) ho0 (fun _ hk_ => trivial)) (keep_size (w := w) (g := g) (row := none) (spec_l20Paid.calls_q1)) (fun k_ h_ => h_)) (keep_size (w := w) (g := g) (row := none) (spec_l20Paid.calls_q1))); have HO556 := Aside0.mk (Kd.V_lower (Kd.V_mono (ok' := fun k_ => (w.heap.size ≤ k_) ∧ some k_ ≠ (v552 : Value).ownBlock ∧ k_ ≠ gb550 ∧ k_ ≠ g) ho1 (fun k_ hk_ => ⟨(Nat.le_trans (keep_size (w := w) (g := g) (row := none) (spec_l20Paid.calls_q1)) hk_.1), hk_.2, (Kd.freshB (g := gb550) (o := .cells #[.slice none 0 0, .slice none 0 0] 26 (0, 0)) (uf0_ BK550) k_ hk_.1), (IsS79.fresh (spec_l20Paid.calls_q0) k_ hk_.1)⟩)) (keep_size (w := w) (g := g) (row := none) (spec_l20Paid.calls_q1))); replace BK550 := Aside0.mk (KeepBut.blk hk (g' := gb550) (o := .cells #[.slice none 0 0, .slice none 0 0] 26 (0, 0)) (uf0_ BK550) NB550_0.out (by simp)); replace HK := Aside0.mk (KeepBut.trans (spec_l20Paid.calls_q1) hk (.inl rfl)); replace HB := Aside0.mk (hb); replace HI0 := Aside0.mk (hi); (try clear hb); (try clear hk hi); (try clear ho0); (try clear ho1)) | ((with_reducible refine gate_dst (N := 4) rfl ?_); refine bx_ (N := 4) #[.slice none 0 0, .slice none 0 0] 26 ?_; intro gb558 hg w6 hbox hb; replace HO553 := Aside0.mk (Kd.R_below (uf1_ HO553) hb); replace HO556 := Aside0.mk (Kd.V_below (Kd.V_elderB (uf5_ HO556) gb558 (Nat.le_of_eq hg.symm)) hb); replace HB := Aside0.mk (below_step (spec_l20Paid.calls_q2) hb); have BK558 := Aside0.mk (hbox); have GW558 := Aside0.mk ((g100_ : w.heap.size ≤ gb558)); have GE558 := Aside0.mk ((Nat.le_trans HW0.out (g100_ : w.heap.size ≤ gb558) : w0.heap.size ≤ gb558)); replace HK := Aside0.mk (KeepBut.trans (spec_l20Paid.calls_q1) (KeepBut.of_below hb g none) (.inl rfl)); have NB550_558 := Aside0.mk ((by rw [hg]; exact Nat.ne_of_lt (blk_lt (g := gb550) (o := .cells #[.slice none 0 0, .slice none 0 0] 26 (0, 0)) (uf0_ BK550)) : gb550 ≠ gb558)); have NB558_550 := Aside0.mk ((by rw [hg]; exact Nat.ne_of_gt (blk_lt (g := gb550) (o := .cells #[.slice none 0 0, .slice none 0 0] 26 (0, 0)) (uf0_ BK550)) : gb558 ≠ gb550)); replace BK550 := Aside0.mk (blk_below (g := gb550) (o := .cells #[.slice none 0 0, .slice none 0 0] 26 (0, 0)) (uf0_ BK550) hb); have NB0_558 := Aside0.mk ((by rw [hg]; exact Nat.ne_of_lt (IsS79.lt (show IsS79 w0 _ g s0_0 t557 from spec_l20Paid.calls_q0)) : g ≠ gb558)); have NB558_0 := Aside0.mk ((by rw [hg]; exact Nat.ne_of_gt (IsS79.lt (show IsS79 w0 _ g s0_0 t557 from spec_l20Paid.calls_q0)) : gb558 ≠ g)); replace HI0 := Aside0.mk (IsS79.below (spec_l20Paid.calls_q0) hb); clear hb hbox hg; obtain ⟨Ao7, co7, eo7⟩ := Kd.R_slice HO553.out; subst eo7; have hnb8 := NB558_550.out; have hnc8 := NB550_558.out; have hnb9 := NB558_0.out; have hnc9 := NB0_558.out; obtain ⟨hcz10_0, hcz10_1, hfz10_0, hfz10_1⟩ := blk2_ BK558; obtain ⟨Ao11, co11, eo11⟩ := Kd.V_slice HO556.out; subst eo11))
 have n0_ : Aside0 (Kd.R (Kd.int .i64) 3 ((w6.setCell ⟨gb558, 0, none⟩ (.slice Ao7 t551.length co7)).setCell ⟨gb558, 1, none⟩ (.slice Ao11 t554.length co11)) w.heap.size (fun k_ => (w.heap.size ≤ k_)) (.slice Ao7 t551.length co7) t551) := ⟨by (with_reducible repeat (first | apply Kd.R_alloc | apply Kd.R_drewN | apply Kd.R_drew)); exact Kd.R_mono (Kd.R_far (p := ⟨gb558, 1, none⟩) (Kd.R_far (p := ⟨gb558, 0, none⟩) (Kd.R_types HO553.out BK558.out (by decide)) (fun _ hk => hk.2) (.slice Ao7 t551.length co7)) (fun _ hk => hk.2) (.slice Ao11 t554.length co11)) (fun _ hk => hk.1.1)⟩
 have n1_ : Aside0 (Kd.V (Kd.slice 3 (Kd.int .i64)) 23 ((w6.setCell ⟨gb558, 0, none⟩ (.slice Ao7 t551.length co7)).setCell ⟨gb558, 1, none⟩ (.slice Ao11 t554.length co11)) w.heap.size (fun k_ => (w.heap.size ≤ k_) ∧ some k_ ≠ (.slice Ao7 t551.length co7 : Value).ownBlock ∧ k_ ≠ gb550 ∧ k_ ≠ g ∧ k_ ≠ gb558) (.slice Ao11 t554.length co11) t554) := ⟨by (with_reducible repeat (first | apply Kd.V_alloc | apply Kd.V_drewN | apply Kd.V_drew)); exact Kd.V_mono (Kd.V_far (p := ⟨gb558, 1, none⟩) (Kd.V_far (p := ⟨gb558, 0, none⟩) (Kd.V_mono HO556.out (fun k_ hk => (⟨hk, hk.2⟩ : _ ∧ k_ ≠ gb558))) (fun _ hk => hk.2) (.slice Ao7 t551.length co7)) (fun _ hk => hk.2) (.slice Ao11 t554.length co11)) (fun _ hk => ⟨hk.1.1.1, ⟨hk.1.1.2.1, ⟨hk.1.1.2.2.1, ⟨hk.1.1.2.2.2, hk.1.2⟩⟩⟩⟩)⟩
 have n2_ : Aside0 (((w6.setCell ⟨gb558, 0, none⟩ (.slice Ao7 t551.length co7)).setCell ⟨gb558, 1, none⟩ (.slice Ao11 t554.length co11)).heap[gb550]? = some (.cells #[.slice none 0 0, .slice none 0 0] 26 (0, 0))) := ⟨by (with_reducible repeat (first | refine blk_drewN ?_ _ | refine blk_drew ?_ | refine blk_alloc ?_ _)); refine blk_far ?_ NB550_558.out _; (with_reducible repeat (first | refine blk_drewN ?_ _ | refine blk_drew ?_ | refine blk_alloc ?_ _)); refine blk_far ?_ NB550_558.out _; (with_reducible repeat (first | refine blk_drewN ?_ _ | refine blk_drew ?_ | refine blk_alloc ?_ _)); exact BK550.out⟩
 have n3_ : Aside0 (((w6.setCell ⟨gb558, 0, none⟩ (.slice Ao7 t551.length co7)).setCell ⟨gb558, 1, none⟩ (.slice Ao11 t554.length co11)).heap[gb558]? = some (.cells #[.slice Ao7 t551.length co7, .slice Ao11 t554.length co11] 26 (0, 0))) := ⟨by (with_reducible repeat (first | refine blk_drewN ?_ _ | refine blk_drew ?_ | refine blk_alloc ?_ _)); refine blk_put (cs := #[.slice Ao7 t551.length co7, .slice none 0 0]) ?_ 1 _ rfl; (with_reducible repeat (first | refine blk_drewN ?_ _ | refine blk_drew ?_ | refine blk_alloc ?_ _)); refine blk_put (cs := #[.slice none 0 0, .slice none 0 0]) ?_ 0 _ rfl; (with_reducible repeat (first | refine blk_drewN ?_ _ | refine blk_drew ?_ | refine blk_alloc ?_ _)); exact BK558.out⟩
 have n4_ : Aside0 (IsS79 w0 ((w6.setCell ⟨gb558, 0, none⟩ (.slice Ao7 t551.length co7)).setCell ⟨gb558, 1, none⟩ (.slice Ao11 t554.length co11)) g s0_0 t557) := ⟨spec_l20Paid.calls_q0⟩
 have n5_ : Aside0 (KeepBut w ((w6.setCell ⟨gb558, 0, none⟩ (.slice Ao7 t551.length co7)).setCell ⟨gb558, 1, none⟩ (.slice Ao11 t554.length co11)) g none) := ⟨spec_l20Paid.calls_q1⟩
 have n6_ : Aside0 (Below w0.heap.size w0 ((w6.setCell ⟨gb558, 0, none⟩ (.slice Ao7 t551.length co7)).setCell ⟨gb558, 1, none⟩ (.slice Ao11 t554.length co11))) := ⟨spec_l20Paid.calls_q2⟩
 (try clear HO553)
 (try clear HO556)
 (try clear BK550)
 (try clear BK558)
 (try clear HI0)
 (try clear HK)
 (try clear HB)
 generalize ((w6.setCell ⟨gb558, 0, none⟩ (.slice Ao7 t551.length co7)).setCell ⟨gb558, 1, none⟩ (.slice Ao11 t554.length co11)) = w12 at n0_ n1_ n2_ n3_ n4_ n5_ n6_ ⊢
 have HO553 := n0_
 have HO556 := n1_
 have BK550 := n2_
 have BK558 := n3_
 have HI0 := n4_
 have HK := n5_
 have HB := n6_
 clear n0_ n1_ n2_ n3_ n4_ n5_ n6_
 replace HO553 := Aside0.mk (Kd.R_drew HO553.out)
 replace HO556 := Aside0.mk (Kd.V_drew HO556.out)
 replace BK550 := Aside0.mk (blk_drew BK550.out)
 replace BK558 := Aside0.mk (blk_drew BK558.out)
 replace HI0 := Aside0.mk (IsS79.drew HI0.out)
 replace HK := Aside0.mk (keep_drew HK.out)
 replace HB := Aside0.mk (below_drew1 HB.out)
 refine start_ (n := 6) (S := fun w' => w'.cell? ⟨gb558, 0, none⟩ = some (.slice Ao7 t551.length co7) ∧ w'.cell? ⟨gb558, 1, none⟩ = some (.slice Ao11 t554.length co11)) (ds := []) (tl_ 6 0) (g0_) rfl (g0_) ⟨(blk_cell BK558.out 0).trans rfl, (blk_cell BK558.out 1).trans rfl⟩ (fun hHeld => ?_)
 generalize w12.drew = w13 at HO553 HO556 BK550 BK558 HI0 HK HB hHeld ⊢
 refine pure_ (i := 1) (N := some 8) (v := ?_) (a' := ?_) (tl_ 6 2) rfl rfl (g0_) (fun _ _ _ h => h) (Or.inl ⟨by rfl, ?_⟩) ?_ ?_
 rotate_left
 ·intro w'
  go_simp
  with_reducible rfl
 rotate_left
 ·simp only [Act.put, List.setIfInBounds_toArray, List.set_cons_zero, List.set_cons_succ, i64_w, i32_w]
  rfl
 refine take_ (i := 0) (N := some 7) (v := ?_) (a' := ?_) (tl_ 6 3) rfl rfl (g0_) (fun _ _ _ h => h) (Or.inl ⟨by rfl, ?_⟩) hHeld ?_ ?_
 rotate_left
 ·rintro w' ⟨s0, s1⟩
  go_simp
  with_reducible rfl
 rotate_left
 ·simp only [Act.put, List.setIfInBounds_toArray, List.set_cons_zero, List.set_cons_succ, i64_w, i32_w]
  rfl
 refine take_ (i := 2) (N := some 9) (v := ?_) (a' := ?_) (tl_ 6 7) rfl rfl (g0_) (fun _ _ _ h => h) (Or.inl ⟨by rfl, ?_⟩) hHeld ?_ ?_
 rotate_left
 ·rintro w' ⟨s0, s1⟩
  go_simp
  with_reducible rfl
 rotate_left
 ·simp only [Act.put, List.setIfInBounds_toArray, List.set_cons_zero, List.set_cons_succ, i64_w, i32_w]
  rfl
 refine one_ (i := 3) (N := some 10) (tl_ 6 15) rfl rfl (g0_) (by decide) (fun K hK => ?_)
 refine goes_ Try.func71 (g0_) rfl #[.pointer (some ⟨g, 0, none⟩), .agg #[.slice Ao7 t551.length co7, .slice Ao11 t554.length co11], .int .i64 14] (by rfl) rfl rfl (g2_) ?_
 with_reducible refine (spec_l20Pays.calls k g s0_0 t557 _ _ t551 _ _ t554 14 t559 t562 w0 _ ?side1 ?side2 ?side3 ?side4 ?side5 ?side6 ?side7 A3.out).mono ?_
 (case side1 => exact spec_l20Paid.calls_q0)
 (case side2 => exact spec_l20Paid.calls_q2)
 (case side3 => repeat (first | exact (Kd.R_reads' HO553.out).2.2 | (with_reducible refine Kd.C_alloc ?_ _) | (with_reducible refine Kd.C_drewN ?_ _) | (with_reducible refine Kd.C_drew ?_)))
 (case side4 => exact (Kd.R_reads' HO553.out).2.1)
 (case side5 => exact far_slice (IsS79.own_ne HI0.out HO553.out (by decide)))
 (case side6 => exact Kd.C_foot_ownV (e := 0) (base := 0) (Kd.V_mono (ok := fun k_ => (((w.heap.size ≤ k_)) ∧ (some k_ ≠ (.slice Ao7 t551.length co7 : Value).ownBlock ∧ (k_ ≠ gb550 ∧ (k_ ≠ g ∧ k_ ≠ gb558))))) (uf5_ HO556) (fun k_ hk_ => (⟨hk_, hk_.2.2.2.1⟩ : _ ∧ k_ ≠ g))) (fun _ h_ => h_.2))
 (case side7 => exact (Kd.V_reads' HO556.out).2.1)
 rintro e w14 ⟨v560, rfl, ho0, hi, hb, hk⟩
 refine ⟨_, rfl, ?_⟩
 replace BK550 := Aside0.mk (KeepBut.blk hk (g' := gb550) (o := .cells #[.slice none 0 0, .slice none 0 0] 26 (0, 0)) (uf0_ BK550) NB550_0.out (by simp))
 replace HO553 := Aside0.mk (Kd.R_mono (Kd.R_keep (IsS79.apart (show IsS79 w0 _ g s0_0 t557 from spec_l20Paid.calls_q0) (uf1_ HO553) (by decide)) hk (fun _ h => h.2)) (fun _ h => h.1))
 replace HO556 := Aside0.mk (Kd.V_mono (Kd.V_told (Kd.V_oldK (Kd.V_mono (ok := fun k_ => (((w.heap.size ≤ k_)) ∧ (some k_ ≠ (.slice Ao7 t551.length co7 : Value).ownBlock ∧ (k_ ≠ gb550 ∧ (k_ ≠ g ∧ k_ ≠ gb558))))) (uf5_ HO556) (fun k_ hk_ => (⟨hk_, hk_.2.2.2.1⟩ : _ ∧ k_ ≠ g))) hk) (Kd.R_base ho0)) (fun _ h_ => h_.1))
 replace BK558 := Aside0.mk (KeepBut.blk hk (g' := gb558) (o := .cells #[.slice Ao7 t551.length co7, .slice Ao11 t554.length co11] 26 (0, 0)) (uf0_ BK558) NB558_0.out (by simp))
 have HO561 := Aside0.mk (Kd.R_lower (Kd.R_newM (M := fun k_ => (w.heap.size ≤ k_)) ho0 (keep_size (w := w) (g := g) (row := none) (spec_l20Paid.calls_q1)) (fun k_ h_ => h_)) (keep_size (w := w) (g := g) (row := none) (spec_l20Paid.calls_q1)))
 replace HK := Aside0.mk (KeepBut.trans (spec_l20Paid.calls_q1) hk (.inl rfl))
 replace HB := Aside0.mk (hb)
 replace HI0 := Aside0.mk (hi)
 (try clear hb)
 (try clear hk hi)
 (try clear ho0)
 refine hK.out _ _ ⟨(blk_cell BK558.out 0).trans rfl, (blk_cell BK558.out 1).trans rfl⟩ (fun hHeld => ?_)
 clear hK K
 refine nm_ ?_
 refine one_ (i := 4) (N := none) (tl_ 6 31) rfl rfl (g0_) (by decide) (fun K hK => ?_)
 have hs15 : w14.cell? ⟨gb550, 0, none⟩ = some (.slice none 0 0) := (blk_cell BK550.out 0).trans rfl
 have hfs15 := blk_frozen BK550.out 0
 have hns15_1 := NB558_550.out
 have hms15_1 := NB550_558.out
 have hs16 : w14.cell? ⟨gb550, 1, none⟩ = some (.slice none 0 0) := (blk_cell BK550.out 1).trans rfl
 have hfs16 := blk_frozen BK550.out 1
 have hns16_1 := NB558_550.out
 have hms16_1 := NB550_558.out
 refine skip_ (w1 := ?_) (by rfl) rfl ?_ ?_
 rotate_left
 ·go_simp
  rfl
 refine hK.out _ _ ⟨((cell_far (p := ⟨gb550, _, none⟩) NB558_550.out _).trans (((cell_far (p := ⟨gb550, _, none⟩) NB558_550.out _).trans (hHeld.1)))), ((cell_far (p := ⟨gb550, _, none⟩) NB558_550.out _).trans (((cell_far (p := ⟨gb550, _, none⟩) NB558_550.out _).trans (hHeld.2))))⟩ (fun hHeld => ?_)
 clear hK K
 refine pure_ (i := 5) (N := some 3) (v := ?_) (a' := ?_) (tl_ 6 63) rfl rfl (g0_) (fun _ _ _ h => h) (Or.inl ⟨by rfl, ?_⟩) ?_ ?_
 rotate_left
 ·intro w'
  go_simp
  with_reducible rfl
 rotate_left
 ·simp only [Act.put, List.setIfInBounds_toArray, List.set_cons_zero, List.set_cons_succ, i64_w, i32_w]
  rfl
 refine done_ (g0_) ?_
 try go_wp2
 refine bodyPost_ret (results_ct rfl _ _ gb550 26 #[.slice Ao7 t551.length co7, .slice Ao11 t554.length co11] (0, 0) _ rfl (by (with_reducible repeat (first | refine blk_drewN ?_ _ | refine blk_drew ?_ | refine blk_alloc ?_ _)); refine blk_put (cs := #[.slice Ao7 t551.length co7, .slice none 0 0]) ?_ 1 _ rfl; (with_reducible repeat (first | refine blk_drewN ?_ _ | refine blk_drew ?_ | refine blk_alloc ?_ _)); refine blk_put (cs := #[.slice none 0 0, .slice none 0 0]) ?_ 0 _ rfl; (with_reducible repeat (first | refine blk_drewN ?_ _ | refine blk_drew ?_ | refine blk_alloc ?_ _)); exact BK550.out) Try.underlying26 rfl (g0_)) rfl ?_
 exact ⟨_, _, _, g4_, by (with_reducible repeat (first | apply Kd.R_alloc | apply Kd.R_drewN | apply Kd.R_drew)); exact Kd.R_mono (Kd.R_far (p := ⟨gb550, 1, none⟩) (Kd.R_far (p := ⟨gb550, 0, none⟩) (Kd.R_types HO553.out BK550.out (by decide)) (fun _ hk => hk.2) (.slice Ao7 t551.length co7)) (fun _ hk => hk.2) (.slice Ao11 t554.length co11)) (fun _ hk => hk.1), by (with_reducible repeat (first | apply Kd.V_alloc | apply Kd.V_drewN | apply Kd.V_drew)); exact Kd.V_mono (Kd.V_far (p := ⟨gb550, 1, none⟩) (Kd.V_far (p := ⟨gb550, 0, none⟩) (Kd.V_mono HO556.out (fun k_ hk => (⟨hk, hk.1.2.2.1⟩ : _ ∧ k_ ≠ gb550))) (fun _ hk => hk.2) (.slice Ao7 t551.length co7)) (fun _ hk => hk.2) (.slice Ao11 t554.length co11)) (fun _ hk => ⟨hk.1.1.1, ⟨hk.1.1.2.1, hk.1.2⟩⟩), by (with_reducible repeat (first | apply Kd.R_alloc | apply Kd.R_drewN | apply Kd.R_drew)); exact Kd.R_mono (Kd.R_far (p := ⟨gb550, 1, none⟩) (Kd.R_far (p := ⟨gb550, 0, none⟩) (Kd.R_types HO561.out BK550.out (by decide)) (fun _ hk => hk.2) (.slice Ao7 t551.length co7)) (fun _ hk => hk.2) (.slice Ao11 t554.length co11)) (fun _ hk => hk.1.1), spec_l20Paid.calls_q0, spec_l20Paid.calls_q2, spec_l20Paid.calls_q1⟩
end Go.Proofs.Ytigpmfoagkhaeaa.PU

namespace Go.Proofs.Ytigpmfoagkhaeaa.PU
open Go.RowKit Go.Proofs.YtigpmfoagkhaeaaW.PrintWords Go.Proofs.YtigpmfoagkhaeaaW.PrintLast Go.Proofs.YtigpmfoagkhaeaaW.PrintMore Go.Proofs.Ytigpmfoagkhaeaa.Qd
attribute [local go_sem] max2_int min2_int max_two min_two max_three min_three max_four min_four   -- for this text's walks alone
set_option linter.unusedVariables false
set_option linter.unusedSimpArgs false
def spec_DrawGetsOf.f (k : Nat) (l0 : List Int) : Option (List Int × (List (List Int)) × (List (S36))) := (spec_l20Open.f l0).bind fun bt564 => ((spec_l20Paid.f k bt564.1 bt564.2).bind fun bt567 => (some (bt567.1, bt567.2.1, bt567.2.2.1)))
theorem spec_DrawGetsOf.mono : ∀ a0 k, LeO (spec_DrawGetsOf.f k a0) (spec_DrawGetsOf.f (k + 1) a0) := by
 intro a0 k
 unfold spec_DrawGetsOf.f
 repeat' first
   | (with_reducible exact spec_l20Paid.mono _ _ _)
   | (with_reducible exact LeO.refl _)
   | (with_reducible exact LeO.none _)
   | (with_reducible refine LeO.ite ?_ ?_)
   | (with_reducible refine LeO.bind ?_ (fun _ => ?_))
   | exact spec_l20Paid.mono _ _ _
   | exact LeO.none _
   | refine LeO.ite ?_ ?_
   | refine LeO.bind ?_ (fun _ => ?_)
theorem spec_DrawGetsOf.calls_q0 {p : Prop} (h : p := by repeat (first | (with_reducible first | exact HB.out | apply below_alloc | apply pw_below_drewN | apply below_drew1 | refine below_set ?_ GE563.out | refine below_set ?_ (IsS79.ge HI566.out)) | exact HB.out)) : p := h
theorem spec_DrawGetsOf.calls_q1 {p : Prop} (h : p := by repeat (first | (with_reducible first | exact HI566.out | apply IsS79.alloc | apply IsS79.drewN | apply IsS79.drew | apply IsS79.set_1 | refine IsS79.far ?_ NB566_563.out _) | exact HI566.out)) : p := h
set_option maxHeartbeats 8000000 in
set_option maxRecDepth 100000 in
theorem spec_DrawGetsOf.calls (k : Nat) (A0 : Option Addr) (c0 : Nat) (l0 : List Int) (r1 : List Int) (r2 : List (List Int)) (r3 : List (S36)) (w : World) (hr0 : Kd.C (Kd.int .u8) w A0 l0.length l0) (hc0 : l0.length ≤ c0) (h : spec_DrawGetsOf.f k l0 = some (r1, r2, r3)) :
  Calls Try.prog 29 #[.slice A0 l0.length c0] w fun e w' => ∃ v0_ v1_ v2_ : Value, e = .returned (.tuple #[.agg #[v0_, v1_], v2_]) ∧ Kd.R (Kd.int .i64) 3 w' w.heap.size (fun k_ => (w.heap.size ≤ k_)) v0_ r1 ∧ Kd.V (Kd.slice 3 (Kd.int .i64)) 23 w' w.heap.size (fun k_ => (w.heap.size ≤ k_) ∧ some k_ ≠ (v0_ : Value).ownBlock ∧ some k_ ≠ (v2_ : Value).ownBlock) v1_ r2 ∧ Kd.R k36 36 w' w.heap.size (fun k_ => (w.heap.size ≤ k_)) v2_ r3 ∧ Below w.heap.size w w' := by
 have hu26 := Try.underlying26
 have HR0 := Aside0.mk hr0
 have HC0 := Aside0.mk hc0
 clear hr0 hc0
 have HB := Aside0.mk (Below.refl w.heap.size w)
 have H : ((spec_l20Open.f l0).bind fun bt564 => ((spec_l20Paid.f k bt564.1 bt564.2).bind fun bt567 => (some (bt567.1, bt567.2.1, bt567.2.2.1)))) = some (r1, r2, r3) := h
 clear h
 replace H := Option.bind_eq_some_iff.mp H
 obtain ⟨⟨t564, t565⟩, A20, H⟩ := H
 replace H : ((spec_l20Paid.f k t564 t565).bind fun bt567 => (some (bt567.1, bt567.2.1, bt567.2.2.1))) = some (r1, r2, r3) := H
 have A2 := Aside0.mk A20
 clear A20
 replace H := Option.bind_eq_some_iff.mp H
 obtain ⟨⟨t567, t570, t573, t576⟩, A30, H⟩ := H
 replace H : (some (t567, t570, t573)) = some (r1, r2, r3) := H
 have A3 := Aside0.mk A30
 clear A30
 simp only [Option.some.injEq, Prod.mk.injEq] at H
 obtain ⟨rfl, rfl, rfl⟩ := H
 go_enter Try.func29, Try.ntmps29
 go_wp2_with (first | ((with_reducible refine gate_dst (N := 2) rfl ?_); refine bx_ (N := 2) #[.slice none 0 0, .slice none 0 0] 26 ?_; intro gb563 hg w4 hbox hb; have BK563 := Aside0.mk (hbox); have GW563 := Aside0.mk ((by rw [hg]; exact (below_size (spec_DrawGetsOf.calls_q0)) : w.heap.size ≤ gb563)); have GE563 := Aside0.mk ((by rw [hg]; exact (below_size (spec_DrawGetsOf.calls_q0)) : w.heap.size ≤ gb563)); replace HB := Aside0.mk (below_step (spec_DrawGetsOf.calls_q0) hb); clear hb hbox hg) | ((with_reducible refine gate_callee (f := 53) rfl ?_); refine goesL_ (some 5) rfl rfl Try.func53 k_ rfl #[.slice A0 l0.length c0] rfl (g2_) ?_; (with_reducible refine (spec_l20Open.calls _ _ l0 t564 t565 w _ ?side1 ?side2 ?side3 A2.out).mono ?_); (case side1 => exact spec_DrawGetsOf.calls_q0); (case side2 => exact HR0.out); (case side3 => exact HC0.out); rintro e w5 ⟨g566, rfl, hi, hb, hb2⟩; refine ⟨_, rfl, ?_⟩; replace HB := Aside0.mk (hb); have HI566 := Aside0.mk (hi); have NB566_563 := Aside0.mk (IsS79.ne_blk hi (blk_below (g := gb563) (o := .cells #[.slice none 0 0, .slice none 0 0] 26 (0, 0)) (uf0_ BK563) hb2) (by decide)); have NB563_566 := Aside0.mk (Ne.symm (IsS79.ne_blk hi (blk_below (g := gb563) (o := .cells #[.slice none 0 0, .slice none 0 0] 26 (0, 0)) (uf0_ BK563) hb2) (by decide))); replace BK563 := Aside0.mk (blk_below (g := gb563) (o := .cells #[.slice none 0 0, .slice none 0 0] 26 (0, 0)) (uf0_ BK563) hb2); (try clear hb); (try clear hb2); (try clear hk); (try clear hi)) | ((with_reducible refine gate_callee (f := 73) rfl ?_); refine goesL_ (some 6) rfl rfl Try.func73 k_ rfl #[.pointer (some ⟨g566, 0, none⟩)] rfl (g2_) ?_; (with_reducible refine (spec_l20Paid.calls k g566 t564 t565 t567 t570 t573 t576 w _ ?side1 ?side2 A3.out).mono ?_); (case side1 => exact spec_DrawGetsOf.calls_q1); (case side2 => exact spec_DrawGetsOf.calls_q0); rintro e w6 ⟨v568, v571, v574, rfl, ho0, ho1, ho2, hi, hb, hk⟩; refine ⟨_, rfl, ?_⟩; have HO569 := Aside0.mk (Kd.R_lower (Kd.R_newM (M := fun k_ => (w.heap.size ≤ k_)) (Kd.R_mono (ok' := fun k_ => True) ho0 (fun _ hk_ => trivial)) (below_size (spec_DrawGetsOf.calls_q0)) (fun k_ h_ => h_)) (below_size (spec_DrawGetsOf.calls_q0))); have HO572 := Aside0.mk (Kd.V_lower (Kd.V_mono (ok' := fun k_ => (w.heap.size ≤ k_) ∧ some k_ ≠ (v568 : Value).ownBlock ∧ some k_ ≠ (v574 : Value).ownBlock ∧ k_ ≠ gb563 ∧ k_ ≠ g566) ho1 (fun k_ hk_ => ⟨(Nat.le_trans (below_size (spec_DrawGetsOf.calls_q0)) hk_.1), hk_.2.1, hk_.2.2, (Kd.freshB (g := gb563) (o := .cells #[.slice none 0 0, .slice none 0 0] 26 (0, 0)) (uf0_ BK563) k_ hk_.1), (IsS79.fresh (spec_DrawGetsOf.calls_q1) k_ hk_.1)⟩)) (below_size (spec_DrawGetsOf.calls_q0))); replace BK563 := Aside0.mk (KeepBut.blk hk (g' := gb563) (o := .cells #[.slice none 0 0, .slice none 0 0] 26 (0, 0)) (uf0_ BK563) NB563_566.out (by simp)); have HO575 := Aside0.mk (Kd.R_lower (Kd.R_newM (M := fun k_ => (w.heap.size ≤ k_)) (Kd.R_mono (ok' := fun k_ => True) ho2 (fun _ hk_ => trivial)) (below_size (spec_DrawGetsOf.calls_q0)) (fun k_ h_ => h_)) (below_size (spec_DrawGetsOf.calls_q0))); replace HB := Aside0.mk (hb); replace HI566 := Aside0.mk (hi); (try clear hb); (try clear hb2); (try clear hk); (try clear hi); (try clear ho0); (try clear ho1); (try clear ho2); obtain ⟨Ao7, co7, eo7⟩ := Kd.R_slice HO569.out; subst eo7; have hnb8 := NB563_566.out; have hnc8 := NB566_563.out; obtain ⟨hcz9_0, hcz9_1, hfz9_0, hfz9_1⟩ := blk2_ BK563; obtain ⟨Ao10, co10, eo10⟩ := Kd.V_slice HO572.out; subst eo10))
 refine bodyPost_ret (results_ct rfl _ _ gb563 26 #[.slice Ao7 t567.length co7, .slice Ao10 t570.length co10] (0, 0) _ rfl (by (with_reducible repeat (first | refine blk_drewN ?_ _ | refine blk_drew ?_ | refine blk_alloc ?_ _)); refine blk_put (cs := #[.slice Ao7 t567.length co7, .slice none 0 0]) ?_ 1 _ rfl; (with_reducible repeat (first | refine blk_drewN ?_ _ | refine blk_drew ?_ | refine blk_alloc ?_ _)); refine blk_put (cs := #[.slice none 0 0, .slice none 0 0]) ?_ 0 _ rfl; (with_reducible repeat (first | refine blk_drewN ?_ _ | refine blk_drew ?_ | refine blk_alloc ?_ _)); exact BK563.out) Try.underlying26 rfl (g0_)) rfl ?_
 exact ⟨_, _, _, g4_, by (with_reducible repeat (first | apply Kd.R_alloc | apply Kd.R_drewN | apply Kd.R_drew)); exact Kd.R_mono (Kd.R_far (p := ⟨gb563, 1, none⟩) (Kd.R_far (p := ⟨gb563, 0, none⟩) (Kd.R_types HO569.out BK563.out (by decide)) (fun _ hk => hk.2) (.slice Ao7 t567.length co7)) (fun _ hk => hk.2) (.slice Ao10 t570.length co10)) (fun _ hk => hk.1.1), by (with_reducible repeat (first | apply Kd.V_alloc | apply Kd.V_drewN | apply Kd.V_drew)); exact Kd.V_mono (Kd.V_far (p := ⟨gb563, 1, none⟩) (Kd.V_far (p := ⟨gb563, 0, none⟩) (Kd.V_mono HO572.out (fun k_ hk => (⟨hk, hk.2.2.2.1⟩ : _ ∧ k_ ≠ gb563))) (fun _ hk => hk.2) (.slice Ao7 t567.length co7)) (fun _ hk => hk.2) (.slice Ao10 t570.length co10)) (fun _ hk => ⟨hk.1.1, ⟨hk.1.2.1, hk.1.2.2.1⟩⟩), by (with_reducible repeat (first | apply Kd.R_alloc | apply Kd.R_drewN | apply Kd.R_drew)); exact Kd.R_mono (Kd.R_far (p := ⟨gb563, 1, none⟩) (Kd.R_far (p := ⟨gb563, 0, none⟩) (Kd.R_types HO575.out BK563.out (by decide)) (fun _ hk => hk.2) (.slice Ao7 t567.length co7)) (fun _ hk => hk.2) (.slice Ao10 t570.length co10)) (fun _ hk => hk.1.1), spec_DrawGetsOf.calls_q0⟩
end Go.Proofs.Ytigpmfoagkhaeaa.PU

namespace Go.Proofs.Ytigpmfoagkhaeaa.PU
open Go.RowKit Go.Proofs.YtigpmfoagkhaeaaW.PrintWords Go.Proofs.YtigpmfoagkhaeaaW.PrintLast Go.Proofs.YtigpmfoagkhaeaaW.PrintMore Go.Proofs.Ytigpmfoagkhaeaa.Qd
attribute [local go_sem] max2_int min2_int max_two min_two max_three min_three max_four min_four   -- for this text's walks alone
set_option linter.unusedVariables false
set_option linter.unusedSimpArgs false
def spec_BeforeOf.j0 : Nat → Bool → Int → Int → Int → Int → Option (Int)
 | 0, _, _, _, _, _ => none
 | k + 1, x14, x347000, x347001, x348000, x348001 => if x14 = true then (some (-2)) else (if (wrap64 (x347000 * x348001)) < (wrap64 (x348000 * x347001)) then (some (-1)) else (if (wrap64 (x347000 * x348001)) > (wrap64 (x348000 * x347001)) then (some 1) else (some 0)))
def spec_BeforeOf.f (k : Nat) (a0_0 : Int) (a0_1 : Int) (a1_0 : Int) (a1_1 : Int) : Option (Int) := (spec_FracOk.f k a0_0 a0_1).bind fun t348 => (if t348 = true then ((spec_FracOk.f k a1_0 a1_1).bind fun t349 => (spec_BeforeOf.j0 k (!t349) a0_0 a0_1 a1_0 a1_1)) else (spec_BeforeOf.j0 k true a0_0 a0_1 a1_0 a1_1))
theorem spec_BeforeOf.mono_l : ∀ k, (∀ y0 y1 y2 y3 y4, LeO (spec_BeforeOf.j0 k y0 y1 y2 y3 y4) (spec_BeforeOf.j0 (k + 1) y0 y1 y2 y3 y4))
 | 0 => fun _ _ _ _ _ r h => by simp [spec_BeforeOf.j0] at h
 | k + 1 => by
  have ih0 := spec_BeforeOf.mono_l k
  ·intro y0 y1 y2 y3 y4
   unfold spec_BeforeOf.j0
   repeat' first
   | (with_reducible exact ih0 _ _ _ _ _)
   | (with_reducible exact spec_FracOk.mono _ _ _)
   | (with_reducible exact LeO.refl _)
   | (with_reducible exact LeO.none _)
   | (with_reducible refine LeO.ite ?_ ?_)
   | (with_reducible refine LeO.bind ?_ (fun _ => ?_))
   | exact ih0 _ _ _ _ _
   | exact spec_FracOk.mono _ _ _
   | exact LeO.none _
   | refine LeO.ite ?_ ?_
   | refine LeO.bind ?_ (fun _ => ?_)
theorem spec_BeforeOf.mono : ∀ a0 a1 a2 a3 k, LeO (spec_BeforeOf.f k a0 a1 a2 a3) (spec_BeforeOf.f (k + 1) a0 a1 a2 a3) := by
 intro a0 a1 a2 a3 k
 have ih0 := spec_BeforeOf.mono_l k
 unfold spec_BeforeOf.f
 repeat' first
   | (with_reducible exact ih0 _ _ _ _ _)
   | (with_reducible exact spec_FracOk.mono _ _ _)
   | (with_reducible exact LeO.refl _)
   | (with_reducible exact LeO.none _)
   | (with_reducible refine LeO.ite ?_ ?_)
   | (with_reducible refine LeO.bind ?_ (fun _ => ?_))
   | exact ih0 _ _ _ _ _
   | exact spec_FracOk.mono _ _ _
   | exact LeO.none _
   | refine LeO.ite ?_ ?_
   | refine LeO.bind ?_ (fun _ => ?_)
theorem spec_BeforeOf.calls_q0 {p : Prop} (h : p := by repeat (first | (with_reducible first | exact HB.out | apply below_alloc | apply pw_below_drewN | apply below_drew1 | refine below_set ?_ GE346.out | refine below_set ?_ GE347.out) | exact HB.out)) : p := h
set_option maxHeartbeats 8000000 in
set_option maxRecDepth 100000 in
theorem spec_BeforeOf.calls (k : Nat) (a0_0 : Int) (a0_1 : Int) (a1_0 : Int) (a1_1 : Int) (r : Int) (w : World) (h : spec_BeforeOf.f k a0_0 a0_1 a1_0 a1_1 = some r) :
  Calls Try.prog 64 #[.agg #[.int .i64 a0_0, .int .i64 a0_1], .agg #[.int .i64 a1_0, .int .i64 a1_1]] w fun e w' => e = .returned (.int .i64 r) ∧ Below w.heap.size w w' := by
 have hu36 := Try.underlying36
 have HB := Aside0.mk (Below.refl w.heap.size w)
 have H : ((spec_FracOk.f k a0_0 a0_1).bind fun t348 => (if t348 = true then ((spec_FracOk.f k a1_0 a1_1).bind fun t349 => (spec_BeforeOf.j0 k (!t349) a0_0 a0_1 a1_0 a1_1)) else (spec_BeforeOf.j0 k true a0_0 a0_1 a1_0 a1_1))) = some r := h
 clear h
 have HC3 := Aside0.mk H
 clear H
 go_enter Try.func64, Try.ntmps64
 go_upto_region 1 with (first | ((with_reducible refine gate_dst (N := 2) rfl ?_); refine bx_ (N := 2) #[.int .i64 a0_0, .int .i64 a0_1] 36 ?_; intro gb346 hg w4 hbox hb; have BK346 := Aside0.mk (hbox); have GW346 := Aside0.mk ((g92_ : w.heap.size ≤ gb346)); have GE346 := Aside0.mk ((g92_ : w.heap.size ≤ gb346)); replace HB := Aside0.mk (below_step (spec_BeforeOf.calls_q0) hb); clear hb hbox hg) | ((with_reducible refine gate_dst (N := 3) rfl ?_); refine bx_ (N := 3) #[.int .i64 a1_0, .int .i64 a1_1] 36 ?_; intro gb347 hg w5 hbox hb; have BK347 := Aside0.mk (hbox); have GW347 := Aside0.mk ((g92_ : w.heap.size ≤ gb347)); have GE347 := Aside0.mk ((g92_ : w.heap.size ≤ gb347)); replace HB := Aside0.mk (below_step (spec_BeforeOf.calls_q0) hb); have NB346_347 := Aside0.mk ((by rw [hg]; exact Nat.ne_of_lt (blk_lt (g := gb346) (o := .cells #[.int .i64 a0_0, .int .i64 a0_1] 36 (0, 0)) (uf0_ BK346)) : gb346 ≠ gb347)); have NB347_346 := Aside0.mk ((by rw [hg]; exact Nat.ne_of_gt (blk_lt (g := gb346) (o := .cells #[.int .i64 a0_0, .int .i64 a0_1] 36 (0, 0)) (uf0_ BK346)) : gb347 ≠ gb346)); replace BK346 := Aside0.mk (blk_below (g := gb346) (o := .cells #[.int .i64 a0_0, .int .i64 a0_1] 36 (0, 0)) (uf0_ BK346) hb); clear hb hbox hg))
 (try simp only [Act.put, List.setIfInBounds_toArray, List.set_cons_zero, List.set_cons_succ])
 go_cut [14] (fun v14 wc => ∃ (kq : Nat) (x14_2 : Bool), v14 = .bool x14_2 ∧ Aside0 (spec_BeforeOf.j0 kq x14_2 a0_0 a0_1 a1_0 a1_1 = some r) ∧ Aside0 (kq ≤ k) ∧ Aside0 (wc.heap[gb346]? = some (.cells #[.int .i64 a0_0, .int .i64 a0_1] 36 (0, 0))) ∧ Aside0 (wc.heap[gb347]? = some (.cells #[.int .i64 a1_0, .int .i64 a1_1] 36 (0, 0))) ∧ Aside0 (Below w.heap.size w wc))
 case first =>
  have H := HC3.out
  clear HC3
  obtain ⟨t348, A6, H⟩ := bind_ H
  by_cases c7 : t348 = true
  ·subst c7
   replace H := ifp_ H
   obtain ⟨t349, A8, H⟩ := bind_ H
   have H' := Aside0.mk H
   clear H
   have hnb9 := NB346_347.out
   have hnc9 := NB347_346.out
   obtain ⟨hcz10_0, hcz10_1, hfz10_0, hfz10_1⟩ := blk2_ BK346
   go_wp2_with (first | ((with_reducible refine gate_callee (f := 63) rfl ?_); refine goesL_ (some 8) rfl rfl Try.func63 k_ rfl #[.agg #[.int .i64 a0_0, .int .i64 a0_1]] rfl (g2_) ?_; (with_reducible refine (spec_FracOk.calls k a0_0 a0_1 true _ A6.out).mono ?_); rintro e w11 ⟨rfl, hb⟩; refine ⟨_, rfl, ?_⟩; replace BK346 := Aside0.mk (blk_below (g := gb346) (o := .cells #[.int .i64 a0_0, .int .i64 a0_1] 36 (0, 0)) (uf0_ BK346) hb); replace BK347 := Aside0.mk (blk_below (g := gb347) (o := .cells #[.int .i64 a1_0, .int .i64 a1_1] 36 (0, 0)) (uf0_ BK347) hb); replace HB := Aside0.mk (below_step (spec_BeforeOf.calls_q0) hb); (try clear hb); (try clear hk hi); obtain ⟨hcz12_0, hcz12_1, hfz12_0, hfz12_1⟩ := blk2_ BK347) | (go_at_call 63; (with_reducible refine (spec_FracOk.calls k a1_0 a1_1 t349 _ A8.out).mono ?_); rintro e w13 ⟨rfl, hb⟩; replace BK346 := Aside0.mk (blk_below (g := gb346) (o := .cells #[.int .i64 a0_0, .int .i64 a0_1] 36 (0, 0)) (uf0_ BK346) hb); replace BK347 := Aside0.mk (blk_below (g := gb347) (o := .cells #[.int .i64 a1_0, .int .i64 a1_1] 36 (0, 0)) (uf0_ BK347) hb); replace HB := Aside0.mk (below_step (spec_BeforeOf.calls_q0) hb); (try clear hb); (try clear hk hi)))
   go_meet
   case rel => exact ⟨_, (!t349), (g3_), H', ⟨g13_⟩, ⟨uf0_ BK346⟩, ⟨uf0_ BK347⟩, ⟨spec_BeforeOf.calls_q0⟩⟩
  ·replace c7 := Bool.eq_false_iff.mpr c7
   subst c7
   replace H := ifn_ H
   have H' := Aside0.mk H
   clear H
   have hnb14 := NB346_347.out
   have hnc14 := NB347_346.out
   obtain ⟨hcz15_0, hcz15_1, hfz15_0, hfz15_1⟩ := blk2_ BK346
   go_wp2_with (first | ((with_reducible refine gate_callee (f := 63) rfl ?_); refine goesL_ (some 8) rfl rfl Try.func63 k_ rfl #[.agg #[.int .i64 a0_0, .int .i64 a0_1]] rfl (g2_) ?_; (with_reducible refine (spec_FracOk.calls k a0_0 a0_1 false _ A6.out).mono ?_); rintro e w16 ⟨rfl, hb⟩; refine ⟨_, rfl, ?_⟩; replace BK346 := Aside0.mk (blk_below (g := gb346) (o := .cells #[.int .i64 a0_0, .int .i64 a0_1] 36 (0, 0)) (uf0_ BK346) hb); replace BK347 := Aside0.mk (blk_below (g := gb347) (o := .cells #[.int .i64 a1_0, .int .i64 a1_1] 36 (0, 0)) (uf0_ BK347) hb); replace HB := Aside0.mk (below_step (spec_BeforeOf.calls_q0) hb); (try clear hb); (try clear hk hi)))
   go_meet
   case rel => exact ⟨_, (true), (g3_), H', ⟨g13_⟩, ⟨uf0_ BK346⟩, ⟨uf0_ BK347⟩, ⟨spec_BeforeOf.calls_q0⟩⟩
 case rest =>
  clear HC3
  try clear c1
  try clear p2
  try clear c6
  try clear c7
  try clear c9
  try clear c14
  try clear hcz10_0
  try clear hcz10_1
  try clear hcz12_0
  try clear hcz12_1
  try clear hcz15_0
  try clear hcz15_1
  try clear hfz10_0
  try clear hfz10_1
  try clear hfz12_0
  try clear hfz12_1
  try clear hfz15_0
  try clear hfz15_1
  obtain ⟨kq, x14_2, rfl, HA, HJ2, BK346, BK347, HB⟩ := hcut
  cases kq with
  | zero => exact absurd HA.out (by simp [spec_BeforeOf.j0])
  | succ kj2 =>
   have H := HA.out
   clear HA
   simp only [spec_BeforeOf.j0] at H
   by_cases c17 : x14_2 = true
   ·subst c17
    replace H := ifp_ H
    obtain rfl := Option.some.inj H
    go_wp2
    go_ret
    exact ⟨g4_, spec_BeforeOf.calls_q0⟩
   ·replace c17 := Bool.eq_false_iff.mpr c17
    subst c17
    replace H := ifn_ H
    by_cases c18 : (wrap64 (a0_0 * a1_1)) < (wrap64 (a1_0 * a0_1))
    ·rw [if_pos c18] at H
     have c18b0 := decide_eq_true c18
     clear c18
     obtain rfl := Option.some.inj H
     have hnb19 := NB346_347.out
     have hnc19 := NB347_346.out
     obtain ⟨hcz20_0, hcz20_1, hfz20_0, hfz20_1⟩ := blk2_ BK346
     obtain ⟨hcz21_0, hcz21_1, hfz21_0, hfz21_1⟩ := blk2_ BK347
     go_wp2
     go_ret
     exact ⟨g4_, spec_BeforeOf.calls_q0⟩
    ·rw [if_neg c18] at H
     have c18b0 := decide_eq_false c18
     clear c18
     by_cases c22 : (wrap64 (a0_0 * a1_1)) > (wrap64 (a1_0 * a0_1))
     ·rw [if_pos c22] at H
      have c22b0 := decide_eq_true c22
      clear c22
      obtain rfl := Option.some.inj H
      have hnb23 := NB346_347.out
      have hnc23 := NB347_346.out
      obtain ⟨hcz24_0, hcz24_1, hfz24_0, hfz24_1⟩ := blk2_ BK346
      obtain ⟨hcz25_0, hcz25_1, hfz25_0, hfz25_1⟩ := blk2_ BK347
      go_wp2
      go_ret
      exact ⟨g4_, spec_BeforeOf.calls_q0⟩
     ·rw [if_neg c22] at H
      have c22b0 := decide_eq_false c22
      clear c22
      obtain rfl := Option.some.inj H
      have hnb26 := NB346_347.out
      have hnc26 := NB347_346.out
      obtain ⟨hcz27_0, hcz27_1, hfz27_0, hfz27_1⟩ := blk2_ BK346
      obtain ⟨hcz28_0, hcz28_1, hfz28_0, hfz28_1⟩ := blk2_ BK347
      go_wp2
      go_ret
      exact ⟨g4_, spec_BeforeOf.calls_q0⟩
end Go.Proofs.Ytigpmfoagkhaeaa.PU

namespace Go.Proofs.Ytigpmfoagkhaeaa.PU
open Go.RowKit Go.Proofs.YtigpmfoagkhaeaaW.PrintWords Go.Proofs.YtigpmfoagkhaeaaW.PrintLast Go.Proofs.YtigpmfoagkhaeaaW.PrintMore Go.Proofs.Ytigpmfoagkhaeaa.Qd
attribute [local go_sem] max2_int min2_int max_two min_two max_three min_three max_four min_four   -- for this text's walks alone
set_option linter.unusedVariables false
set_option linter.unusedSimpArgs false
mutual
def spec_PaysOk.l0 : Nat → List (S36) → List Int → Int → List Int → List (List Int) → Option (Bool)
 | 0, _, _, _, _, _ => none
 | k + 1, x1, x5, x6, x351000, x351001 => if x6 < (x1.length : Int) then (spec_PaysOk.j1 k x1 x5 x6 ((x1.length : Int) == (x5.length : Int)) x351000 x351001) else (spec_PaysOk.j1 k x1 x5 x6 false x351000 x351001)
def spec_PaysOk.j1 : Nat → List (S36) → List Int → Int → Bool → List Int → List (List Int) → Option (Bool)
 | 0, _, _, _, _, _, _ => none
 | k + 1, x1, x5, x6, x19, x351000, x351001 => if x19 = true then (if 0 ≤ x6 then (if x6 < (x1.length : Int) then ((spec_FracOk.f k ((rd_T36 x1 x6).f0) ((rd_T36 x1 x6).f1)).bind fun t356 => (if t356 = true then (if ((rd_T36 x1 x6).f0) < 0 then (some false) else (if x6 < (x5.length : Int) then ((spec_BeforeOf.f k ((rd_T36 x1 x6).f0) ((rd_T36 x1 x6).f1) (rd x5 x6) 1).bind fun t360 => (if t360 > 0 then (some false) else (spec_PaysOk.l0 k x1 x5 (wrap64 (x6 + 1)) x351000 x351001))) else (none))) else (some false))) else (none)) else (none)) else ((spec_BookOk.f k x351000 x351001).bind fun t354 => (if t354 = true then (some ((x1.length : Int) == (x5.length : Int))) else (some false)))
end
def spec_PaysOk.f (k : Nat) (l0_0 : List Int) (l0_1 : List (List Int)) (l1 : List (S36)) : Option (Bool) := (spec_OwesOf.f k l0_0 l0_1).bind fun t351 => (spec_PaysOk.l0 k l1 t351 0 l0_0 l0_1)
theorem spec_PaysOk.mono_l : ∀ k, (∀ y0 y1 y2 y3 y4, LeO (spec_PaysOk.l0 k y0 y1 y2 y3 y4) (spec_PaysOk.l0 (k + 1) y0 y1 y2 y3 y4)) ∧ (∀ y0 y1 y2 y3 y4 y5, LeO (spec_PaysOk.j1 k y0 y1 y2 y3 y4 y5) (spec_PaysOk.j1 (k + 1) y0 y1 y2 y3 y4 y5))
 | 0 => ⟨fun _ _ _ _ _ r h => by simp [spec_PaysOk.l0] at h, fun _ _ _ _ _ _ r h => by simp [spec_PaysOk.j1] at h⟩
 | k + 1 => by
  obtain ⟨ih0, ih1⟩ := spec_PaysOk.mono_l k
  refine ⟨?_, ?_⟩
  ·intro y0 y1 y2 y3 y4
   unfold spec_PaysOk.l0
   repeat' first
   | (with_reducible exact ih0 _ _ _ _ _)
   | (with_reducible exact ih1 _ _ _ _ _ _)
   | (with_reducible exact spec_BeforeOf.mono _ _ _ _ _)
   | (with_reducible exact spec_BookOk.mono _ _ _)
   | (with_reducible exact spec_FracOk.mono _ _ _)
   | (with_reducible exact spec_OwesOf.mono _ _ _)
   | (with_reducible exact LeO.refl _)
   | (with_reducible exact LeO.none _)
   | (with_reducible refine LeO.ite ?_ ?_)
   | (with_reducible refine LeO.bind ?_ (fun _ => ?_))
   | exact ih0 _ _ _ _ _
   | exact ih1 _ _ _ _ _ _
   | exact spec_BeforeOf.mono _ _ _ _ _
   | exact spec_BookOk.mono _ _ _
   | exact spec_FracOk.mono _ _ _
   | exact spec_OwesOf.mono _ _ _
   | exact LeO.none _
   | refine LeO.ite ?_ ?_
   | refine LeO.bind ?_ (fun _ => ?_)
  ·intro y0 y1 y2 y3 y4 y5
   unfold spec_PaysOk.j1
   repeat' first
   | (with_reducible exact ih0 _ _ _ _ _)
   | (with_reducible exact ih1 _ _ _ _ _ _)
   | (with_reducible exact spec_BeforeOf.mono _ _ _ _ _)
   | (with_reducible exact spec_BookOk.mono _ _ _)
   | (with_reducible exact spec_FracOk.mono _ _ _)
   | (with_reducible exact spec_OwesOf.mono _ _ _)
   | (with_reducible exact LeO.refl _)
   | (with_reducible exact LeO.none _)
   | (with_reducible refine LeO.ite ?_ ?_)
   | (with_reducible refine LeO.bind ?_ (fun _ => ?_))
   | exact ih0 _ _ _ _ _
   | exact ih1 _ _ _ _ _ _
   | exact spec_BeforeOf.mono _ _ _ _ _
   | exact spec_BookOk.mono _ _ _
   | exact spec_FracOk.mono _ _ _
   | exact spec_OwesOf.mono _ _ _
   | exact LeO.none _
   | refine LeO.ite ?_ ?_
   | refine LeO.bind ?_ (fun _ => ?_)
theorem spec_PaysOk.mono : ∀ a0 a1 a2 k, LeO (spec_PaysOk.f k a0 a1 a2) (spec_PaysOk.f (k + 1) a0 a1 a2) := by
 intro a0 a1 a2 k
 obtain ⟨ih0, ih1⟩ := spec_PaysOk.mono_l k
 unfold spec_PaysOk.f
 repeat' first
   | (with_reducible exact ih0 _ _ _ _ _)
   | (with_reducible exact ih1 _ _ _ _ _ _)
   | (with_reducible exact spec_BeforeOf.mono _ _ _ _ _)
   | (with_reducible exact spec_BookOk.mono _ _ _)
   | (with_reducible exact spec_FracOk.mono _ _ _)
   | (with_reducible exact spec_OwesOf.mono _ _ _)
   | (with_reducible exact LeO.refl _)
   | (with_reducible exact LeO.none _)
   | (with_reducible refine LeO.ite ?_ ?_)
   | (with_reducible refine LeO.bind ?_ (fun _ => ?_))
   | exact ih0 _ _ _ _ _
   | exact ih1 _ _ _ _ _ _
   | exact spec_BeforeOf.mono _ _ _ _ _
   | exact spec_BookOk.mono _ _ _
   | exact spec_FracOk.mono _ _ _
   | exact spec_OwesOf.mono _ _ _
   | exact LeO.none _
   | refine LeO.ite ?_ ?_
   | refine LeO.bind ?_ (fun _ => ?_)
def spec_PaysOk.T5 : Bool × List (List Nat × List Nat) := (true, [([], []), ([], []), ([0, 1], [0, 1]), ([2], [2]), ([3], [3]), ([4], [4]), ([5, 4], [5]), ([6], [6]), ([6], [6]), ([7, 8, 6], [6, 7, 8]), ([9, 6], [6, 9]), ([10, 6], [6, 10]), ([11, 6], [6, 11]), ([6, 12], [6, 12]), ([13, 6], [13]), ([14], [14]), ([14], [14]), ([15, 16, 14], [14, 15, 16]), ([17, 14], [14, 17]), ([14], [14]), ([14], [14]), ([19, 20, 14], [14, 19, 20]), ([21, 14], [14, 21]), ([22, 14], [14, 22]), ([18, 23, 14, 14], [14, 18, 23]), ([24, 14], [14, 24]), ([14, 25], [14, 25])])
def spec_PaysOk.B5 : List Nat := [0, 0, 3, 7, 15, 31, 63, 127, 127, 511, 1023, 2047, 4095, 8191, 16383, 32767, 32767, 131071, 262143, 32767, 32767, 1605631, 3702783, 7897087, 16777215, 33554431, 67108863]
theorem spec_PaysOk.tab5 : rtab .any (opsOf Try.f21 5) = spec_PaysOk.T5 := by kernel_rfl
theorem spec_PaysOk.bits5 : waitsOk spec_PaysOk.T5.2 spec_PaysOk.B5 = true := by kernel_rfl
theorem spec_PaysOk.calls_q0 {p : Prop} (h : p := by repeat (first | (with_reducible first | exact HB.out | apply below_alloc | apply pw_below_drewN | apply below_drew1 | refine below_set ?_ GE350.out) | exact HB.out)) : p := h
set_option maxHeartbeats 8000000 in
set_option maxRecDepth 100000 in
theorem spec_PaysOk.calls (k : Nat) (A0_0 : Option Addr) (c0_0 : Nat) (l0_0 : List Int) (A0_1 : Option Addr) (c0_1 : Nat) (l0_1 : List (List Int)) (A1 : Option Addr) (c1 : Nat) (l1 : List (S36)) (r : Bool) (w : World) (hr0_0 : Kd.C (Kd.int .i64) w A0_0 l0_0.length l0_0) (hc0_0 : l0_0.length ≤ c0_0) (hr0_1 : Kd.C (Kd.slice 3 (Kd.int .i64)) w A0_1 l0_1.length l0_1) (hc0_1 : l0_1.length ≤ c0_1) (hr1 : Kd.C k36 w A1 l1.length l1) (hc1 : l1.length ≤ c1) (h : spec_PaysOk.f k l0_0 l0_1 l1 = some r) :
  Calls Try.prog 21 #[.agg #[.slice A0_0 l0_0.length c0_0, .slice A0_1 l0_1.length c0_1], .slice A1 l1.length c1] w fun e w' => e = .returned (.bool r) ∧ Below w.heap.size w w' := by
 have hu26 := Try.underlying26
 have hu36 := Try.underlying36
 have HR0_0 := Aside0.mk hr0_0
 have HC0_0 := Aside0.mk hc0_0
 clear hr0_0 hc0_0
 have HR0_1 := Aside0.mk hr0_1
 have HC0_1 := Aside0.mk hc0_1
 clear hr0_1 hc0_1
 have HR1 := Aside0.mk hr1
 have HC1 := Aside0.mk hc1
 clear hr1 hc1
 have HB := Aside0.mk (Below.refl w.heap.size w)
 have H : ((spec_OwesOf.f k l0_0 l0_1).bind fun t351 => (spec_PaysOk.l0 k l1 t351 0 l0_0 l0_1)) = some r := h
 clear h
 obtain ⟨t351, A3, H⟩ := bind_ H
 have H' := Aside0.mk H
 clear H
 go_enter Try.func21, Try.ntmps21
 go_wp2_with (first | ((with_reducible refine gate_dst (N := 2) rfl ?_); (try (refine gate_guard (by rfl) ?_; dsimp only)); refine bx_ (N := 2) #[.slice A0_0 l0_0.length c0_0, .slice A0_1 l0_1.length c0_1] 26 ?_; intro gb350 hg w4 hbox hb; have BK350 := Aside0.mk (hbox); have GW350 := Aside0.mk ((by rw [hg]; exact (below_size (spec_PaysOk.calls_q0)) : w.heap.size ≤ gb350)); have GE350 := Aside0.mk ((by rw [hg]; exact (below_size (spec_PaysOk.calls_q0)) : w.heap.size ≤ gb350)); replace HB := Aside0.mk (below_step (spec_PaysOk.calls_q0) hb); clear hb hbox hg; obtain ⟨hcz5_0, hcz5_1, hfz5_0, hfz5_1⟩ := blk2_ BK350) | ((with_reducible refine gate_callee (f := 62) rfl ?_); refine goesL_ (some 8) rfl rfl Try.func62 k_ rfl #[.agg #[.slice A0_0 l0_0.length c0_0, .slice A0_1 l0_1.length c0_1]] rfl (g2_) ?_; (with_reducible refine (spec_OwesOf.calls k _ _ l0_0 _ _ l0_1 t351 _ ?side1 ?side2 ?side3 ?side4 A3.out).mono ?_); (case side1 => exact uf4_ HR0_0); (case side2 => exact HC0_0.out); (case side3 => exact uf4_ HR0_1); (case side4 => exact HC0_1.out); rintro e w6 ⟨v352, rfl, ho0, hb⟩; refine ⟨_, rfl, ?_⟩; have HO353 := Aside0.mk (Kd.R_lower ho0 (below_size (spec_PaysOk.calls_q0))); replace BK350 := Aside0.mk (blk_below (g := gb350) (o := .cells #[.slice A0_0 l0_0.length c0_0, .slice A0_1 l0_1.length c0_1] 26 (0, 0)) (uf0_ BK350) hb); replace HB := Aside0.mk (below_step (spec_PaysOk.calls_q0) hb); (try clear hb); (try clear hk hi); (try clear ho0)))
 go_loopg [6] k (fun kq v6 w' => ∃ (x6_1 : Int), v6 = .int .i64 x6_1 ∧ Aside0 (spec_PaysOk.l0 kq l1 t351 x6_1 l0_0 l0_1 = some r) ∧ Aside0 (kq ≤ k) ∧ Aside0 (Kd.R (Kd.int .i64) 3 w' w.heap.size (fun _ => True) v352 t351) ∧ Aside0 (w'.heap[gb350]? = some (.cells #[(.slice A0_0 l0_0.length c0_0), (.slice A0_1 l0_1.length c0_1)] 26 (0, 0))) ∧ Aside0 (Below w.heap.size w w'))
 case atStart => exact ⟨(0), (g3_), H', ⟨Nat.le_refl _⟩, ⟨uf1_ HO353⟩, ⟨uf0_ BK350⟩, ⟨spec_PaysOk.calls_q0⟩⟩
 case round =>
  clear H'
  try clear c1
  try clear c2
  try clear p2
  try clear c6
  try clear hcz5_0
  try clear hcz5_1
  try clear hfz5_0
  try clear hfz5_1
  obtain ⟨x6_1, rfl, HA, HK1, HO_5, BK350, HB⟩ := hrel
  cases gk with
  | zero => exact absurd HA.out (by simp [spec_PaysOk.l0])
  | succ k1 =>
   have H := HA.out
   clear HA
   simp only [spec_PaysOk.l0] at H
   have HC7 := Aside0.mk H
   clear H
   go_upto_region 3 with (fail)
   go_cut [19] (fun v19 wc => ∃ (kq : Nat) (x19_6 : Bool), v19 = .bool x19_6 ∧ Aside0 (spec_PaysOk.j1 kq l1 t351 x6_1 x19_6 l0_0 l0_1 = some r) ∧ Aside0 (kq ≤ k1) ∧ Aside0 (Kd.R (Kd.int .i64) 3 wc w.heap.size (fun _ => True) v352 t351) ∧ Aside0 (wc.heap[gb350]? = some (.cells #[(.slice A0_0 l0_0.length c0_0), (.slice A0_1 l0_1.length c0_1)] 26 (0, 0))) ∧ Aside0 (Below w.heap.size w wc))
   case first =>
    have H := HC7.out
    clear HC7
    by_cases c8 : x6_1 < (l1.length : Int)
    ·rw [if_pos c8] at H
     have c8b0 := decide_eq_true c8
     clear c8
     (first | rw [c8b0] | (simp only [i64_w, i32_w]; rw [c8b0]) | skip)
     have H' := Aside0.mk H
     clear H
     obtain ⟨Ao9, co9, eo9⟩ := Kd.R_slice HO_5.out
     subst eo9
     go_wp2
     go_meet
     case rel => exact ⟨_, (((l1.length : Int) == (t351.length : Int))), (g3_), H', ⟨g30_⟩, ⟨uf1_ HO_5⟩, ⟨uf0_ BK350⟩, ⟨spec_PaysOk.calls_q0⟩⟩
    ·rw [if_neg c8] at H
     have c8b0 := decide_eq_false c8
     clear c8
     (first | rw [c8b0] | (simp only [i64_w, i32_w]; rw [c8b0]) | skip)
     have H' := Aside0.mk H
     clear H
     go_wp2
     go_meet
     case rel => exact ⟨_, (false), (g3_), H', ⟨g30_⟩, ⟨uf1_ HO_5⟩, ⟨uf0_ BK350⟩, ⟨spec_PaysOk.calls_q0⟩⟩
   case rest =>
    clear HC7
    try clear c1
    try clear c2
    try clear p2
    try clear c6
    try clear c8
    try clear c8b0
    try clear hcz5_0
    try clear hcz5_1
    try clear hfz5_0
    try clear hfz5_1
    try clear p2
    obtain ⟨kq, x19_6, rfl, HA, HJ6, HO_5, BK350, HB⟩ := hcut
    cases kq with
    | zero => exact absurd HA.out (by simp [spec_PaysOk.j1])
    | succ kj6 =>
     have H := HA.out
     clear HA
     simp only [spec_PaysOk.j1] at H
     by_cases c10 : x19_6 = true
     ·subst c10
      replace H := ifp_ H
      by_cases c11 : 0 ≤ x6_1
      ·rw [if_pos c11] at H
       have c11b0 := decide_eq_true c11
       clear c11
       by_cases c12 : x6_1 < (l1.length : Int)
       ·rw [if_pos c12] at H
        have c12b0 := decide_eq_true c12
        clear c12
        obtain ⟨t356, A13, H⟩ := bind_ H
        by_cases c14 : t356 = true
        ·subst c14
         replace H := ifp_ H
         by_cases c15 : ((rd_T36 l1 x6_1).f0) < 0
         ·rw [if_pos c15] at H
          have c15b0 := decide_eq_true c15
          clear c15
          obtain rfl := Option.some.inj H
          try go_wp2
          replace HO_5 := Aside0.mk (Kd.R_drew HO_5.out)
          replace BK350 := Aside0.mk (blk_drew BK350.out)
          replace HB := Aside0.mk (below_drew1 HB.out)
          have p355 : 0 ≤ (x6_1 : Int) := of_decide_eq_true (g1_)
          have q355 : x6_1 < (l1.length : Int) := of_decide_eq_true (g1_)
          obtain ⟨ad355, e355, hx355_0, hx355_1⟩ := at_T36 HR1.out x6_1 p355 q355
          have hw355_1 := hx355_1
          have hw355_0 := hx355_0
          cases e355
          replace hx355_0 := cl_ HB hx355_0
          replace hx355_1 := cl_ HB hx355_1
          replace p355 := eq_true p355
          replace q355 := eq_true q355
          have p357 : 0 ≤ (x6_1 : Int) := of_decide_eq_true (g1_)
          have q357 : x6_1 < (l1.length : Int) := of_decide_eq_true (g1_)
          obtain ⟨ad357, e357, hx357_0, hx357_1⟩ := at_T36 HR1.out x6_1 p357 q357
          have hw357_1 := hx357_1
          have hw357_0 := hx357_0
          obtain rfl : ad355 = ad357 := (by injection e357)
          replace hx357_0 := cl_ HB hx357_0
          replace hx357_1 := cl_ HB hx357_1
          replace p357 := eq_true p357
          replace q357 := eq_true q357
          refine start_ (n := 27) (S := fun w' => w'.cell? (ad355.add ((x6_1).toNat * 2)) = some (.int .i64 ((rd_T36 l1 x6_1).f0)) ∧ w'.cell? ⟨(ad355.add ((x6_1).toNat * 2)).block, (ad355.add ((x6_1).toNat * 2)).off + 1, none⟩ = some (.int .i64 ((rd_T36 l1 x6_1).f1)) ∧ w'.cell? (ad355.add ((x6_1).toNat * 2)) = some (.int .i64 ((rd_T36 l1 x6_1).f0)) ∧ w'.cell? ⟨(ad355.add ((x6_1).toNat * 2)).block, (ad355.add ((x6_1).toNat * 2)).off + 1, none⟩ = some (.int .i64 ((rd_T36 l1 x6_1).f1))) (ds := []) (tl_ 27 0) (g0_) rfl (g0_) ⟨((cl_ HB hw355_0).trans rfl), ((cl_ HB hw355_1).trans rfl), ((cl_ HB hw357_0).trans rfl), ((cl_ HB hw357_1).trans rfl)⟩ (fun hHeld => ?_); refine with_tabW spec_PaysOk.tab5 spec_PaysOk.bits5 (fun HT_ HW_ => ?_)
          generalize wc.drew = w16 at HO_5 BK350 HB hx355_0 hx355_1 hx357_0 hx357_1 hHeld ⊢
          refine pw_ 0 22 (tl_ 27 1) rfl rfl ?_
          refine pw_ 1 23 (tl_ 27 3) rfl rfl ?_
          refine pw_ 2 24 (tl_ 27 7) rfl rfl ?_
          refine tk3_ 3 25 (tl_ 27 15) rfl rfl hHeld ?_
          refine one_ (i := 4) (N := some 26) (tl_ 27 31) rfl rfl (one_of HT_.out (g0_)) (by decide) (fun K hK => ?_)
          refine goes_ Try.func63 (g0_) rfl #[.agg #[.int .i64 ((rd_T36 l1 x6_1).f0), .int .i64 ((rd_T36 l1 x6_1).f1)]] (by rfl) rfl rfl (g2_) ?_
          with_reducible refine (spec_FracOk.calls kj6 ((rd_T36 l1 x6_1).f0) ((rd_T36 l1 x6_1).f1) true _ A13.out).mono ?_
          rintro e w17 ⟨rfl, hb⟩
          refine ⟨_, rfl, ?_⟩
          replace HO_5 := Aside0.mk (Kd.R_below (uf1_ HO_5) hb)
          replace BK350 := Aside0.mk (blk_below (g := gb350) (o := .cells #[.slice A0_0 l0_0.length c0_0, .slice A0_1 l0_1.length c0_1] 26 (0, 0)) (uf0_ BK350) hb)
          replace HB := Aside0.mk (below_step (spec_PaysOk.calls_q0) hb)
          (try clear hb)
          (try clear hk hi)
          refine hK.out _ _ ⟨((cl_ HB hw355_0).trans rfl), ((cl_ HB hw355_1).trans rfl), ((cl_ HB hw357_0).trans rfl), ((cl_ HB hw357_1).trans rfl)⟩ (fun hHeld => ?_)
          clear hK K
          refine nm_ ?_
          refine pw_ 5 27 (tl_ 27 63) rfl rfl ?_
          refine pw_ 6 28 (tl_ 27 127) rfl rfl ?_
          refine pw_ 7 29 (tl_ 27 255) rfl rfl ?_
          refine pw_ 8 30 (tl_ 27 511) rfl rfl ?_
          refine pw_ 9 31 (tl_ 27 1023) rfl rfl ?_
          refine pw_ 10 32 (tl_ 27 2047) rfl rfl ?_
          refine tk3_ 11 33 (tl_ 27 4095) rfl rfl hHeld ?_
          refine pw_ 12 34 (tl_ 27 8191) rfl rfl ?_
          refine pw_ 13 35 (tl_ 27 16383) rfl rfl ?_
          refine pw_ 14 36 (tl_ 27 32767) rfl rfl ?_
          refine pure_ (i := 15) (N := some 37) (v := undef) (a' := ?_) (tl_ 27 65535) rfl rfl (any_of HT_.out (g0_)) (fun _ _ _ h => h) (Or.inr ⟨by rfl, rfl⟩) ?_ ?_
          rotate_left
          ·simp only [Act.put, List.setIfInBounds_toArray, List.set_cons_zero, List.set_cons_succ, i64_w, i32_w]
           rfl
          refine pure_ (i := 16) (N := some 38) (v := undef) (a' := ?_) (tl_ 27 131071) rfl rfl (any_of HT_.out (g0_)) (fun _ _ _ h => h) (Or.inr ⟨by rfl, rfl⟩) ?_ ?_
          rotate_left
          ·simp only [Act.put, List.setIfInBounds_toArray, List.set_cons_zero, List.set_cons_succ, i64_w, i32_w]
           rfl
          refine pure_ (i := 17) (N := some 39) (v := undef) (a' := ?_) (tl_ 27 262143) rfl rfl (any_of HT_.out (g0_)) (fun _ _ _ h => h) (Or.inr ⟨by rfl, rfl⟩) ?_ ?_
          rotate_left
          ·simp only [Act.put, List.setIfInBounds_toArray, List.set_cons_zero, List.set_cons_succ, i64_w, i32_w]
           rfl
          refine pure_ (i := 18) (N := some 40) (v := undef) (a' := ?_) (tl_ 27 524287) rfl rfl (any_of HT_.out (g0_)) (fun _ _ _ h => h) (Or.inr ⟨by rfl, rfl⟩) ?_ ?_
          rotate_left
          ·simp only [Act.put, List.setIfInBounds_toArray, List.set_cons_zero, List.set_cons_succ, i64_w, i32_w]
           rfl
          refine pure_ (i := 19) (N := some 41) (v := undef) (a' := ?_) (tl_ 27 1048575) rfl rfl (any_of HT_.out (g0_)) (fun _ _ _ h => h) (Or.inr ⟨by rfl, rfl⟩) ?_ ?_
          rotate_left
          ·simp only [Act.put, List.setIfInBounds_toArray, List.set_cons_zero, List.set_cons_succ, i64_w, i32_w]
           rfl
          refine pure_ (i := 20) (N := some 42) (v := undef) (a' := ?_) (tl_ 27 2097151) rfl rfl (any_of HT_.out (g0_)) (fun _ _ _ h => h) (Or.inr ⟨by rfl, rfl⟩) ?_ ?_
          rotate_left
          ·simp only [Act.put, List.setIfInBounds_toArray, List.set_cons_zero, List.set_cons_succ, i64_w, i32_w]
           rfl
          refine pure_ (i := 21) (N := some 43) (v := undef) (a' := ?_) (tl_ 27 4194303) rfl rfl (any_of HT_.out (g0_)) (fun _ _ _ h => h) (Or.inr ⟨by rfl, rfl⟩) ?_ ?_
          rotate_left
          ·simp only [Act.put, List.setIfInBounds_toArray, List.set_cons_zero, List.set_cons_succ, i64_w, i32_w]
           rfl
          refine pure_ (i := 22) (N := some 44) (v := undef) (a' := ?_) (tl_ 27 8388607) rfl rfl (any_of HT_.out (g0_)) (fun _ _ _ h => h) (Or.inr ⟨by rfl, rfl⟩) ?_ ?_
          rotate_left
          ·simp only [Act.put, List.setIfInBounds_toArray, List.set_cons_zero, List.set_cons_succ, i64_w, i32_w]
           rfl
          refine pure_ (i := 23) (N := some 45) (v := undef) (a' := ?_) (tl_ 27 16777215) rfl rfl (any_of HT_.out (g0_)) (fun _ _ _ h => h) (Or.inr ⟨by rfl, rfl⟩) ?_ ?_
          rotate_left
          ·simp only [Act.put, List.setIfInBounds_toArray, List.set_cons_zero, List.set_cons_succ, i64_w, i32_w]
           rfl
          refine pure_ (i := 24) (N := some 46) (v := undef) (a' := ?_) (tl_ 27 33554431) rfl rfl (any_of HT_.out (g0_)) (fun _ _ _ h => h) (Or.inr ⟨by rfl, rfl⟩) ?_ ?_
          rotate_left
          ·simp only [Act.put, List.setIfInBounds_toArray, List.set_cons_zero, List.set_cons_succ, i64_w, i32_w]
           rfl
          refine pure_ (i := 25) (N := some 47) (v := undef) (a' := ?_) (tl_ 27 67108863) rfl rfl (any_of HT_.out (g0_)) (fun _ _ _ h => h) (Or.inr ⟨by rfl, rfl⟩) ?_ ?_
          rotate_left
          ·simp only [Act.put, List.setIfInBounds_toArray, List.set_cons_zero, List.set_cons_succ, i64_w, i32_w]
           rfl
          refine pw_ 26 48 (tl_ 27 134217727) rfl rfl ?_
          refine done_ (done_of HT_.out (g0_)) ?_
          try go_wp2
          go_ret
          exact ⟨g4_, spec_PaysOk.calls_q0⟩
         ·rw [if_neg c15] at H
          have c15b0 := decide_eq_false c15
          clear c15
          by_cases c18 : x6_1 < (t351.length : Int)
          ·rw [if_pos c18] at H
           have c18b0 := decide_eq_true c18
           clear c18
           obtain ⟨t360, A19, H⟩ := bind_ H
           by_cases c20 : t360 > 0
           ·rw [if_pos c20] at H
            have c20b0 := decide_eq_true c20
            clear c20
            obtain rfl := Option.some.inj H
            try go_wp2
            replace HO_5 := Aside0.mk (Kd.R_drew HO_5.out)
            replace BK350 := Aside0.mk (blk_drew BK350.out)
            replace HB := Aside0.mk (below_drew1 HB.out)
            have p355 : 0 ≤ (x6_1 : Int) := of_decide_eq_true (g1_)
            have q355 : x6_1 < (l1.length : Int) := of_decide_eq_true (g1_)
            obtain ⟨ad355, e355, hx355_0, hx355_1⟩ := at_T36 HR1.out x6_1 p355 q355
            have hw355_1 := hx355_1
            have hw355_0 := hx355_0
            cases e355
            replace hx355_0 := cl_ HB hx355_0
            replace hx355_1 := cl_ HB hx355_1
            replace p355 := eq_true p355
            replace q355 := eq_true q355
            have p357 : 0 ≤ (x6_1 : Int) := of_decide_eq_true (g1_)
            have q357 : x6_1 < (l1.length : Int) := of_decide_eq_true (g1_)
            obtain ⟨ad357, e357, hx357_0, hx357_1⟩ := at_T36 HR1.out x6_1 p357 q357
            have hw357_1 := hx357_1
            have hw357_0 := hx357_0
            obtain rfl : ad355 = ad357 := (by injection e357)
            replace hx357_0 := cl_ HB hx357_0
            replace hx357_1 := cl_ HB hx357_1
            replace p357 := eq_true p357
            replace q357 := eq_true q357
            have p358 : 0 ≤ (x6_1 : Int) := of_decide_eq_true (g1_)
            have q358 : x6_1 < (l1.length : Int) := of_decide_eq_true (g1_)
            obtain ⟨ad358, e358, hx358_0, hx358_1⟩ := at_T36 HR1.out x6_1 p358 q358
            have hw358_1 := hx358_1
            have hw358_0 := hx358_0
            obtain rfl : ad355 = ad358 := (by injection e358)
            replace hx358_0 := cl_ HB hx358_0
            replace hx358_1 := cl_ HB hx358_1
            replace p358 := eq_true p358
            replace q358 := eq_true q358
            have p359 : 0 ≤ (x6_1 : Int) := of_decide_eq_true (g1_)
            have q359 : x6_1 < (t351.length : Int) := of_decide_eq_true (g1_)
            try (obtain ⟨Aoz, coz, eoz⟩ := Kd.R_slice HO_5.out; subst eoz)
            obtain ⟨ad359, e359, hx359_0⟩ := Kd.at_int (Kd.R_reads' HO_5.out).2.2 x6_1 p359 q359
            cases e359
            replace p359 := eq_true p359
            replace q359 := eq_true q359
            refine start_ (n := 27) (S := fun w' => w'.cell? (ad355.add ((x6_1).toNat * 2)) = some (.int .i64 ((rd_T36 l1 x6_1).f0)) ∧ w'.cell? ⟨(ad355.add ((x6_1).toNat * 2)).block, (ad355.add ((x6_1).toNat * 2)).off + 1, none⟩ = some (.int .i64 ((rd_T36 l1 x6_1).f1)) ∧ w'.cell? (ad355.add ((x6_1).toNat * 2)) = some (.int .i64 ((rd_T36 l1 x6_1).f0)) ∧ w'.cell? ⟨(ad355.add ((x6_1).toNat * 2)).block, (ad355.add ((x6_1).toNat * 2)).off + 1, none⟩ = some (.int .i64 ((rd_T36 l1 x6_1).f1)) ∧ w'.cell? (ad355.add ((x6_1).toNat * 2)) = some (.int .i64 ((rd_T36 l1 x6_1).f0)) ∧ w'.cell? ⟨(ad355.add ((x6_1).toNat * 2)).block, (ad355.add ((x6_1).toNat * 2)).off + 1, none⟩ = some (.int .i64 ((rd_T36 l1 x6_1).f1)) ∧ w'.cell? (ad359.add (x6_1).toNat) = some (.int .i64 (rd t351 x6_1))) (ds := []) (tl_ 27 0) (g0_) rfl (g0_) ⟨((cl_ HB hw355_0).trans rfl), ((cl_ HB hw355_1).trans rfl), ((cl_ HB hw357_0).trans rfl), ((cl_ HB hw357_1).trans rfl), ((cl_ HB hw358_0).trans rfl), ((cl_ HB hw358_1).trans rfl), hx359_0⟩ (fun hHeld => ?_); refine with_tabW spec_PaysOk.tab5 spec_PaysOk.bits5 (fun HT_ HW_ => ?_)
            generalize wc.drew = w21 at HO_5 BK350 HB hx355_0 hx355_1 hx357_0 hx357_1 hx358_0 hx358_1 hx359_0 hHeld ⊢
            refine pw_ 0 22 (tl_ 27 1) rfl rfl ?_
            refine pw_ 1 23 (tl_ 27 3) rfl rfl ?_
            refine pw_ 2 24 (tl_ 27 7) rfl rfl ?_
            refine tk4_ 3 25 (tl_ 27 15) rfl rfl hHeld ?_
            refine one_ (i := 4) (N := some 26) (tl_ 27 31) rfl rfl (one_of HT_.out (g0_)) (by decide) (fun K hK => ?_)
            refine goes_ Try.func63 (g0_) rfl #[.agg #[.int .i64 ((rd_T36 l1 x6_1).f0), .int .i64 ((rd_T36 l1 x6_1).f1)]] (by rfl) rfl rfl (g2_) ?_
            with_reducible refine (spec_FracOk.calls kj6 ((rd_T36 l1 x6_1).f0) ((rd_T36 l1 x6_1).f1) true _ A13.out).mono ?_
            rintro e w22 ⟨rfl, hb⟩
            have HS6_ := (hb.cell (World.block_lt_of_cell? _ _ (hHeld.2.2.2.2.2.2))).trans (hHeld.2.2.2.2.2.2)
            refine ⟨_, rfl, ?_⟩
            replace HO_5 := Aside0.mk (Kd.R_below (uf1_ HO_5) hb)
            replace BK350 := Aside0.mk (blk_below (g := gb350) (o := .cells #[.slice A0_0 l0_0.length c0_0, .slice A0_1 l0_1.length c0_1] 26 (0, 0)) (uf0_ BK350) hb)
            replace HB := Aside0.mk (below_step (spec_PaysOk.calls_q0) hb)
            (try clear hb)
            (try clear hk hi)
            obtain ⟨Ao23, co23, eo23⟩ := Kd.R_slice HO_5.out
            (first | subst eo23 | (injection eo23 with f1_ f2_ f3_; have f4_ := f1_.symm; have f5_ := f3_.symm; clear f1_ f2_ f3_; subst f4_; subst f5_))
            refine hK.out _ _ ⟨((cl_ HB hw355_0).trans rfl), ((cl_ HB hw355_1).trans rfl), ((cl_ HB hw357_0).trans rfl), ((cl_ HB hw357_1).trans rfl), ((cl_ HB hw358_0).trans rfl), ((cl_ HB hw358_1).trans rfl), HS6_⟩ (fun hHeld => ?_)
            clear hK K
            refine nm_ ?_
            refine pw_ 5 27 (tl_ 27 63) rfl rfl ?_
            refine pw_ 6 28 (tl_ 27 127) rfl rfl ?_
            refine pw_ 7 29 (tl_ 27 255) rfl rfl ?_
            refine pw_ 8 30 (tl_ 27 511) rfl rfl ?_
            refine pw_ 9 31 (tl_ 27 1023) rfl rfl ?_
            refine pw_ 10 32 (tl_ 27 2047) rfl rfl ?_
            refine tk4_ 11 33 (tl_ 27 4095) rfl rfl hHeld ?_
            refine pw_ 12 34 (tl_ 27 8191) rfl rfl ?_
            refine pw_ 13 35 (tl_ 27 16383) rfl rfl ?_
            refine pw_ 14 36 (tl_ 27 32767) rfl rfl ?_
            refine pw_ 15 37 (tl_ 27 65535) rfl rfl ?_
            refine pw_ 16 38 (tl_ 27 131071) rfl rfl ?_
            refine pw_ 17 39 (tl_ 27 262143) rfl rfl ?_
            refine pw_ 19 41 (tl_ 27 786431) rfl rfl ?_
            refine pw_ 20 42 (tl_ 27 1835007) rfl rfl ?_
            refine pw_ 21 43 (tl_ 27 3932159) rfl rfl ?_
            refine tk4_ 18 40 (tl_ 27 4194303) rfl rfl hHeld ?_
            refine tk4_ 22 44 (tl_ 27 8388607) rfl rfl hHeld ?_
            refine pw_ 23 45 (tl_ 27 16777215) rfl rfl ?_
            refine one_ (i := 24) (N := some 46) (tl_ 27 33554431) rfl rfl (one_of HT_.out (g0_)) (by decide) (fun K hK => ?_)
            refine goes_ Try.func64 (g0_) rfl #[.agg #[.int .i64 ((rd_T36 l1 x6_1).f0), .int .i64 ((rd_T36 l1 x6_1).f1)], .agg #[.int .i64 (rd t351 x6_1), .int .i64 1]] (by rfl) rfl rfl (g2_) ?_
            with_reducible refine (spec_BeforeOf.calls kj6 ((rd_T36 l1 x6_1).f0) ((rd_T36 l1 x6_1).f1) (rd t351 x6_1) 1 t360 _ A19.out).mono ?_
            rintro e w24 ⟨rfl, hb⟩
            have HS6_ := (hb.cell (World.block_lt_of_cell? _ _ (hHeld.2.2.2.2.2.2))).trans (hHeld.2.2.2.2.2.2)
            refine ⟨_, rfl, ?_⟩
            replace HO_5 := Aside0.mk (Kd.R_below (uf1_ HO_5) hb)
            replace BK350 := Aside0.mk (blk_below (g := gb350) (o := .cells #[.slice A0_0 l0_0.length c0_0, .slice A0_1 l0_1.length c0_1] 26 (0, 0)) (uf0_ BK350) hb)
            replace HB := Aside0.mk (below_step (spec_PaysOk.calls_q0) hb)
            (try clear hb)
            (try clear hk hi)
            refine hK.out _ _ ⟨((cl_ HB hw355_0).trans rfl), ((cl_ HB hw355_1).trans rfl), ((cl_ HB hw357_0).trans rfl), ((cl_ HB hw357_1).trans rfl), ((cl_ HB hw358_0).trans rfl), ((cl_ HB hw358_1).trans rfl), HS6_⟩ (fun hHeld => ?_)
            clear hK K
            refine nm_ ?_
            refine pw_ 25 47 (tl_ 27 67108863) rfl rfl ?_
            refine pw_ 26 48 (tl_ 27 134217727) rfl rfl ?_
            refine done_ (done_of HT_.out (g0_)) ?_
            try go_wp2
            go_ret
            exact ⟨g4_, spec_PaysOk.calls_q0⟩
           ·rw [if_neg c20] at H
            have c20b0 := decide_eq_false c20
            clear c20
            have H' := Aside0.mk H
            clear H
            try go_wp2
            replace HO_5 := Aside0.mk (Kd.R_drew HO_5.out)
            replace BK350 := Aside0.mk (blk_drew BK350.out)
            replace HB := Aside0.mk (below_drew1 HB.out)
            have p355 : 0 ≤ (x6_1 : Int) := of_decide_eq_true (g1_)
            have q355 : x6_1 < (l1.length : Int) := of_decide_eq_true (g1_)
            obtain ⟨ad355, e355, hx355_0, hx355_1⟩ := at_T36 HR1.out x6_1 p355 q355
            have hw355_1 := hx355_1
            have hw355_0 := hx355_0
            cases e355
            replace hx355_0 := cl_ HB hx355_0
            replace hx355_1 := cl_ HB hx355_1
            replace p355 := eq_true p355
            replace q355 := eq_true q355
            have p357 : 0 ≤ (x6_1 : Int) := of_decide_eq_true (g1_)
            have q357 : x6_1 < (l1.length : Int) := of_decide_eq_true (g1_)
            obtain ⟨ad357, e357, hx357_0, hx357_1⟩ := at_T36 HR1.out x6_1 p357 q357
            have hw357_1 := hx357_1
            have hw357_0 := hx357_0
            obtain rfl : ad355 = ad357 := (by injection e357)
            replace hx357_0 := cl_ HB hx357_0
            replace hx357_1 := cl_ HB hx357_1
            replace p357 := eq_true p357
            replace q357 := eq_true q357
            have p358 : 0 ≤ (x6_1 : Int) := of_decide_eq_true (g1_)
            have q358 : x6_1 < (l1.length : Int) := of_decide_eq_true (g1_)
            obtain ⟨ad358, e358, hx358_0, hx358_1⟩ := at_T36 HR1.out x6_1 p358 q358
            have hw358_1 := hx358_1
            have hw358_0 := hx358_0
            obtain rfl : ad355 = ad358 := (by injection e358)
            replace hx358_0 := cl_ HB hx358_0
            replace hx358_1 := cl_ HB hx358_1
            replace p358 := eq_true p358
            replace q358 := eq_true q358
            have p359 : 0 ≤ (x6_1 : Int) := of_decide_eq_true (g1_)
            have q359 : x6_1 < (t351.length : Int) := of_decide_eq_true (g1_)
            try (obtain ⟨Aoz, coz, eoz⟩ := Kd.R_slice HO_5.out; subst eoz)
            obtain ⟨ad359, e359, hx359_0⟩ := Kd.at_int (Kd.R_reads' HO_5.out).2.2 x6_1 p359 q359
            cases e359
            replace p359 := eq_true p359
            replace q359 := eq_true q359
            refine start_ (n := 27) (S := fun w' => w'.cell? (ad355.add ((x6_1).toNat * 2)) = some (.int .i64 ((rd_T36 l1 x6_1).f0)) ∧ w'.cell? ⟨(ad355.add ((x6_1).toNat * 2)).block, (ad355.add ((x6_1).toNat * 2)).off + 1, none⟩ = some (.int .i64 ((rd_T36 l1 x6_1).f1)) ∧ w'.cell? (ad355.add ((x6_1).toNat * 2)) = some (.int .i64 ((rd_T36 l1 x6_1).f0)) ∧ w'.cell? ⟨(ad355.add ((x6_1).toNat * 2)).block, (ad355.add ((x6_1).toNat * 2)).off + 1, none⟩ = some (.int .i64 ((rd_T36 l1 x6_1).f1)) ∧ w'.cell? (ad355.add ((x6_1).toNat * 2)) = some (.int .i64 ((rd_T36 l1 x6_1).f0)) ∧ w'.cell? ⟨(ad355.add ((x6_1).toNat * 2)).block, (ad355.add ((x6_1).toNat * 2)).off + 1, none⟩ = some (.int .i64 ((rd_T36 l1 x6_1).f1)) ∧ w'.cell? (ad359.add (x6_1).toNat) = some (.int .i64 (rd t351 x6_1))) (ds := []) (tl_ 27 0) (g0_) rfl (g0_) ⟨((cl_ HB hw355_0).trans rfl), ((cl_ HB hw355_1).trans rfl), ((cl_ HB hw357_0).trans rfl), ((cl_ HB hw357_1).trans rfl), ((cl_ HB hw358_0).trans rfl), ((cl_ HB hw358_1).trans rfl), hx359_0⟩ (fun hHeld => ?_); refine with_tabW spec_PaysOk.tab5 spec_PaysOk.bits5 (fun HT_ HW_ => ?_)
            generalize wc.drew = w25 at HO_5 BK350 HB hx355_0 hx355_1 hx357_0 hx357_1 hx358_0 hx358_1 hx359_0 hHeld ⊢
            refine pw_ 0 22 (tl_ 27 1) rfl rfl ?_
            refine pw_ 1 23 (tl_ 27 3) rfl rfl ?_
            refine pw_ 2 24 (tl_ 27 7) rfl rfl ?_
            refine tk4_ 3 25 (tl_ 27 15) rfl rfl hHeld ?_
            refine one_ (i := 4) (N := some 26) (tl_ 27 31) rfl rfl (one_of HT_.out (g0_)) (by decide) (fun K hK => ?_)
            refine goes_ Try.func63 (g0_) rfl #[.agg #[.int .i64 ((rd_T36 l1 x6_1).f0), .int .i64 ((rd_T36 l1 x6_1).f1)]] (by rfl) rfl rfl (g2_) ?_
            with_reducible refine (spec_FracOk.calls kj6 ((rd_T36 l1 x6_1).f0) ((rd_T36 l1 x6_1).f1) true _ A13.out).mono ?_
            rintro e w26 ⟨rfl, hb⟩
            have HS6_ := (hb.cell (World.block_lt_of_cell? _ _ (hHeld.2.2.2.2.2.2))).trans (hHeld.2.2.2.2.2.2)
            refine ⟨_, rfl, ?_⟩
            replace HO_5 := Aside0.mk (Kd.R_below (uf1_ HO_5) hb)
            replace BK350 := Aside0.mk (blk_below (g := gb350) (o := .cells #[.slice A0_0 l0_0.length c0_0, .slice A0_1 l0_1.length c0_1] 26 (0, 0)) (uf0_ BK350) hb)
            replace HB := Aside0.mk (below_step (spec_PaysOk.calls_q0) hb)
            (try clear hb)
            (try clear hk hi)
            obtain ⟨Ao27, co27, eo27⟩ := Kd.R_slice HO_5.out
            (first | subst eo27 | (injection eo27 with f1_ f2_ f3_; have f4_ := f1_.symm; have f5_ := f3_.symm; clear f1_ f2_ f3_; subst f4_; subst f5_))
            refine hK.out _ _ ⟨((cl_ HB hw355_0).trans rfl), ((cl_ HB hw355_1).trans rfl), ((cl_ HB hw357_0).trans rfl), ((cl_ HB hw357_1).trans rfl), ((cl_ HB hw358_0).trans rfl), ((cl_ HB hw358_1).trans rfl), HS6_⟩ (fun hHeld => ?_)
            clear hK K
            refine nm_ ?_
            refine pw_ 5 27 (tl_ 27 63) rfl rfl ?_
            refine pw_ 6 28 (tl_ 27 127) rfl rfl ?_
            refine pw_ 7 29 (tl_ 27 255) rfl rfl ?_
            refine pw_ 8 30 (tl_ 27 511) rfl rfl ?_
            refine pw_ 9 31 (tl_ 27 1023) rfl rfl ?_
            refine pw_ 10 32 (tl_ 27 2047) rfl rfl ?_
            refine tk4_ 11 33 (tl_ 27 4095) rfl rfl hHeld ?_
            refine pw_ 12 34 (tl_ 27 8191) rfl rfl ?_
            refine pw_ 13 35 (tl_ 27 16383) rfl rfl ?_
            refine pw_ 14 36 (tl_ 27 32767) rfl rfl ?_
            refine pw_ 15 37 (tl_ 27 65535) rfl rfl ?_
            refine pw_ 16 38 (tl_ 27 131071) rfl rfl ?_
            refine pw_ 17 39 (tl_ 27 262143) rfl rfl ?_
            refine pw_ 19 41 (tl_ 27 786431) rfl rfl ?_
            refine pw_ 20 42 (tl_ 27 1835007) rfl rfl ?_
            refine pw_ 21 43 (tl_ 27 3932159) rfl rfl ?_
            refine tk4_ 18 40 (tl_ 27 4194303) rfl rfl hHeld ?_
            refine tk4_ 22 44 (tl_ 27 8388607) rfl rfl hHeld ?_
            refine pw_ 23 45 (tl_ 27 16777215) rfl rfl ?_
            refine one_ (i := 24) (N := some 46) (tl_ 27 33554431) rfl rfl (one_of HT_.out (g0_)) (by decide) (fun K hK => ?_)
            refine goes_ Try.func64 (g0_) rfl #[.agg #[.int .i64 ((rd_T36 l1 x6_1).f0), .int .i64 ((rd_T36 l1 x6_1).f1)], .agg #[.int .i64 (rd t351 x6_1), .int .i64 1]] (by rfl) rfl rfl (g2_) ?_
            with_reducible refine (spec_BeforeOf.calls kj6 ((rd_T36 l1 x6_1).f0) ((rd_T36 l1 x6_1).f1) (rd t351 x6_1) 1 t360 _ A19.out).mono ?_
            rintro e w28 ⟨rfl, hb⟩
            have HS6_ := (hb.cell (World.block_lt_of_cell? _ _ (hHeld.2.2.2.2.2.2))).trans (hHeld.2.2.2.2.2.2)
            refine ⟨_, rfl, ?_⟩
            replace HO_5 := Aside0.mk (Kd.R_below (uf1_ HO_5) hb)
            replace BK350 := Aside0.mk (blk_below (g := gb350) (o := .cells #[.slice A0_0 l0_0.length c0_0, .slice A0_1 l0_1.length c0_1] 26 (0, 0)) (uf0_ BK350) hb)
            replace HB := Aside0.mk (below_step (spec_PaysOk.calls_q0) hb)
            (try clear hb)
            (try clear hk hi)
            refine hK.out _ _ ⟨((cl_ HB hw355_0).trans rfl), ((cl_ HB hw355_1).trans rfl), ((cl_ HB hw357_0).trans rfl), ((cl_ HB hw357_1).trans rfl), ((cl_ HB hw358_0).trans rfl), ((cl_ HB hw358_1).trans rfl), HS6_⟩ (fun hHeld => ?_)
            clear hK K
            refine nm_ ?_
            refine pw_ 25 47 (tl_ 27 67108863) rfl rfl ?_
            refine pw_ 26 48 (tl_ 27 134217727) rfl rfl ?_
            refine done_ (done_of HT_.out (g0_)) ?_
            try go_wp2
            go_roundg kj6
            case measure => have := HK1.out; have := HJ6.out; omega
            case rel => exact ⟨(wrap64 (x6_1 + 1)), (g3_), H', ⟨by have := HK1.out; have := HJ6.out; omega⟩, ⟨uf1_ HO_5⟩, ⟨uf0_ BK350⟩, ⟨spec_PaysOk.calls_q0⟩⟩
          ·rw [if_neg c18] at H
           exact absurd H (by simp)
        ·replace c14 := Bool.eq_false_iff.mpr c14
         subst c14
         replace H := ifn_ H
         obtain rfl := Option.some.inj H
         try go_wp2
         replace HO_5 := Aside0.mk (Kd.R_drew HO_5.out)
         replace BK350 := Aside0.mk (blk_drew BK350.out)
         replace HB := Aside0.mk (below_drew1 HB.out)
         have p355 : 0 ≤ (x6_1 : Int) := of_decide_eq_true (g1_)
         have q355 : x6_1 < (l1.length : Int) := of_decide_eq_true (g1_)
         obtain ⟨ad355, e355, hx355_0, hx355_1⟩ := at_T36 HR1.out x6_1 p355 q355
         have hw355_1 := hx355_1
         have hw355_0 := hx355_0
         cases e355
         replace hx355_0 := cl_ HB hx355_0
         replace hx355_1 := cl_ HB hx355_1
         replace p355 := eq_true p355
         replace q355 := eq_true q355
         refine start_ (n := 27) (S := fun w' => w'.cell? (ad355.add ((x6_1).toNat * 2)) = some (.int .i64 ((rd_T36 l1 x6_1).f0)) ∧ w'.cell? ⟨(ad355.add ((x6_1).toNat * 2)).block, (ad355.add ((x6_1).toNat * 2)).off + 1, none⟩ = some (.int .i64 ((rd_T36 l1 x6_1).f1))) (ds := []) (tl_ 27 0) (g0_) rfl (g0_) ⟨((cl_ HB hw355_0).trans rfl), ((cl_ HB hw355_1).trans rfl)⟩ (fun hHeld => ?_); refine with_tabW spec_PaysOk.tab5 spec_PaysOk.bits5 (fun HT_ HW_ => ?_)
         generalize wc.drew = w29 at HO_5 BK350 HB hx355_0 hx355_1 hHeld ⊢
         refine pw_ 0 22 (tl_ 27 1) rfl rfl ?_
         refine pw_ 1 23 (tl_ 27 3) rfl rfl ?_
         refine pw_ 2 24 (tl_ 27 7) rfl rfl ?_
         refine tk0_ 3 25 (tl_ 27 15) rfl rfl hHeld ?_
         refine one_ (i := 4) (N := some 26) (tl_ 27 31) rfl rfl (one_of HT_.out (g0_)) (by decide) (fun K hK => ?_)
         refine goes_ Try.func63 (g0_) rfl #[.agg #[.int .i64 ((rd_T36 l1 x6_1).f0), .int .i64 ((rd_T36 l1 x6_1).f1)]] (by rfl) rfl rfl (g2_) ?_
         with_reducible refine (spec_FracOk.calls kj6 ((rd_T36 l1 x6_1).f0) ((rd_T36 l1 x6_1).f1) false _ A13.out).mono ?_
         rintro e w30 ⟨rfl, hb⟩
         refine ⟨_, rfl, ?_⟩
         replace HO_5 := Aside0.mk (Kd.R_below (uf1_ HO_5) hb)
         replace BK350 := Aside0.mk (blk_below (g := gb350) (o := .cells #[.slice A0_0 l0_0.length c0_0, .slice A0_1 l0_1.length c0_1] 26 (0, 0)) (uf0_ BK350) hb)
         replace HB := Aside0.mk (below_step (spec_PaysOk.calls_q0) hb)
         (try clear hb)
         (try clear hk hi)
         refine hK.out _ _ ⟨((cl_ HB hw355_0).trans rfl), ((cl_ HB hw355_1).trans rfl)⟩ (fun hHeld => ?_)
         clear hK K
         refine nm_ ?_
         refine pw_ 5 27 (tl_ 27 63) rfl rfl ?_
         refine pw_ 6 28 (tl_ 27 127) rfl rfl ?_
         refine pure_ (i := 7) (N := some 29) (v := undef) (a' := ?_) (tl_ 27 255) rfl rfl (any_of HT_.out (g0_)) (fun _ _ _ h => h) (Or.inr ⟨by rfl, rfl⟩) ?_ ?_
         rotate_left
         ·simp only [Act.put, List.setIfInBounds_toArray, List.set_cons_zero, List.set_cons_succ, i64_w, i32_w]
          rfl
         refine pure_ (i := 8) (N := some 30) (v := undef) (a' := ?_) (tl_ 27 511) rfl rfl (any_of HT_.out (g0_)) (fun _ _ _ h => h) (Or.inr ⟨by rfl, rfl⟩) ?_ ?_
         rotate_left
         ·simp only [Act.put, List.setIfInBounds_toArray, List.set_cons_zero, List.set_cons_succ, i64_w, i32_w]
          rfl
         refine pure_ (i := 9) (N := some 31) (v := undef) (a' := ?_) (tl_ 27 1023) rfl rfl (any_of HT_.out (g0_)) (fun _ _ _ h => h) (Or.inr ⟨by rfl, rfl⟩) ?_ ?_
         rotate_left
         ·simp only [Act.put, List.setIfInBounds_toArray, List.set_cons_zero, List.set_cons_succ, i64_w, i32_w]
          rfl
         refine pure_ (i := 10) (N := some 32) (v := undef) (a' := ?_) (tl_ 27 2047) rfl rfl (any_of HT_.out (g0_)) (fun _ _ _ h => h) (Or.inr ⟨by rfl, rfl⟩) ?_ ?_
         rotate_left
         ·simp only [Act.put, List.setIfInBounds_toArray, List.set_cons_zero, List.set_cons_succ, i64_w, i32_w]
          rfl
         refine pure_ (i := 11) (N := some 33) (v := undef) (a' := ?_) (tl_ 27 4095) rfl rfl (any_of HT_.out (g0_)) (fun _ _ _ h => h) (Or.inr ⟨by rfl, rfl⟩) ?_ ?_
         rotate_left
         ·simp only [Act.put, List.setIfInBounds_toArray, List.set_cons_zero, List.set_cons_succ, i64_w, i32_w]
          rfl
         refine pure_ (i := 12) (N := some 34) (v := undef) (a' := ?_) (tl_ 27 8191) rfl rfl (any_of HT_.out (g0_)) (fun _ _ _ h => h) (Or.inr ⟨by rfl, rfl⟩) ?_ ?_
         rotate_left
         ·simp only [Act.put, List.setIfInBounds_toArray, List.set_cons_zero, List.set_cons_succ, i64_w, i32_w]
          rfl
         refine pw_ 13 35 (tl_ 27 16383) rfl rfl ?_
         refine pw_ 14 36 (tl_ 27 32767) rfl rfl ?_
         refine pure_ (i := 15) (N := some 37) (v := undef) (a' := ?_) (tl_ 27 65535) rfl rfl (any_of HT_.out (g0_)) (fun _ _ _ h => h) (Or.inr ⟨by rfl, rfl⟩) ?_ ?_
         rotate_left
         ·simp only [Act.put, List.setIfInBounds_toArray, List.set_cons_zero, List.set_cons_succ, i64_w, i32_w]
          rfl
         refine pure_ (i := 16) (N := some 38) (v := undef) (a' := ?_) (tl_ 27 131071) rfl rfl (any_of HT_.out (g0_)) (fun _ _ _ h => h) (Or.inr ⟨by rfl, rfl⟩) ?_ ?_
         rotate_left
         ·simp only [Act.put, List.setIfInBounds_toArray, List.set_cons_zero, List.set_cons_succ, i64_w, i32_w]
          rfl
         refine pure_ (i := 17) (N := some 39) (v := undef) (a' := ?_) (tl_ 27 262143) rfl rfl (any_of HT_.out (g0_)) (fun _ _ _ h => h) (Or.inr ⟨by rfl, rfl⟩) ?_ ?_
         rotate_left
         ·simp only [Act.put, List.setIfInBounds_toArray, List.set_cons_zero, List.set_cons_succ, i64_w, i32_w]
          rfl
         refine pure_ (i := 18) (N := some 40) (v := undef) (a' := ?_) (tl_ 27 524287) rfl rfl (any_of HT_.out (g0_)) (fun _ _ _ h => h) (Or.inr ⟨by rfl, rfl⟩) ?_ ?_
         rotate_left
         ·simp only [Act.put, List.setIfInBounds_toArray, List.set_cons_zero, List.set_cons_succ, i64_w, i32_w]
          rfl
         refine pure_ (i := 19) (N := some 41) (v := undef) (a' := ?_) (tl_ 27 1048575) rfl rfl (any_of HT_.out (g0_)) (fun _ _ _ h => h) (Or.inr ⟨by rfl, rfl⟩) ?_ ?_
         rotate_left
         ·simp only [Act.put, List.setIfInBounds_toArray, List.set_cons_zero, List.set_cons_succ, i64_w, i32_w]
          rfl
         refine pure_ (i := 20) (N := some 42) (v := undef) (a' := ?_) (tl_ 27 2097151) rfl rfl (any_of HT_.out (g0_)) (fun _ _ _ h => h) (Or.inr ⟨by rfl, rfl⟩) ?_ ?_
         rotate_left
         ·simp only [Act.put, List.setIfInBounds_toArray, List.set_cons_zero, List.set_cons_succ, i64_w, i32_w]
          rfl
         refine pure_ (i := 21) (N := some 43) (v := undef) (a' := ?_) (tl_ 27 4194303) rfl rfl (any_of HT_.out (g0_)) (fun _ _ _ h => h) (Or.inr ⟨by rfl, rfl⟩) ?_ ?_
         rotate_left
         ·simp only [Act.put, List.setIfInBounds_toArray, List.set_cons_zero, List.set_cons_succ, i64_w, i32_w]
          rfl
         refine pure_ (i := 22) (N := some 44) (v := undef) (a' := ?_) (tl_ 27 8388607) rfl rfl (any_of HT_.out (g0_)) (fun _ _ _ h => h) (Or.inr ⟨by rfl, rfl⟩) ?_ ?_
         rotate_left
         ·simp only [Act.put, List.setIfInBounds_toArray, List.set_cons_zero, List.set_cons_succ, i64_w, i32_w]
          rfl
         refine pure_ (i := 23) (N := some 45) (v := undef) (a' := ?_) (tl_ 27 16777215) rfl rfl (any_of HT_.out (g0_)) (fun _ _ _ h => h) (Or.inr ⟨by rfl, rfl⟩) ?_ ?_
         rotate_left
         ·simp only [Act.put, List.setIfInBounds_toArray, List.set_cons_zero, List.set_cons_succ, i64_w, i32_w]
          rfl
         refine pure_ (i := 24) (N := some 46) (v := undef) (a' := ?_) (tl_ 27 33554431) rfl rfl (any_of HT_.out (g0_)) (fun _ _ _ h => h) (Or.inr ⟨by rfl, rfl⟩) ?_ ?_
         rotate_left
         ·simp only [Act.put, List.setIfInBounds_toArray, List.set_cons_zero, List.set_cons_succ, i64_w, i32_w]
          rfl
         refine pure_ (i := 25) (N := some 47) (v := undef) (a' := ?_) (tl_ 27 67108863) rfl rfl (any_of HT_.out (g0_)) (fun _ _ _ h => h) (Or.inr ⟨by rfl, rfl⟩) ?_ ?_
         rotate_left
         ·simp only [Act.put, List.setIfInBounds_toArray, List.set_cons_zero, List.set_cons_succ, i64_w, i32_w]
          rfl
         refine pw_ 26 48 (tl_ 27 134217727) rfl rfl ?_
         refine done_ (done_of HT_.out (g0_)) ?_
         try go_wp2
         go_ret
         exact ⟨g4_, spec_PaysOk.calls_q0⟩
       ·rw [if_neg c12] at H
        exact absurd H (by simp)
      ·rw [if_neg c11] at H
       exact absurd H (by simp)
     ·replace c10 := Bool.eq_false_iff.mpr c10
      subst c10
      replace H := ifn_ H
      obtain ⟨t354, A31, H⟩ := bind_ H
      by_cases c32 : t354 = true
      ·subst c32
       replace H := ifp_ H
       obtain rfl := Option.some.inj H
       obtain ⟨hcz33_0, hcz33_1, hfz33_0, hfz33_1⟩ := blk2_ BK350
       go_wp2_with (first | ((with_reducible refine gate_callee (f := 56) rfl ?_); refine goesL_ (some 50) rfl rfl Try.func56 k_ rfl #[.agg #[.slice A0_0 l0_0.length c0_0, .slice A0_1 l0_1.length c0_1]] rfl (g2_) ?_; (with_reducible refine (spec_BookOk.calls kj6 _ _ l0_0 _ _ l0_1 true _ ?side1 ?side2 ?side3 ?side4 A31.out).mono ?_); (case side1 => exact uf4_ HR0_0); (case side2 => exact HC0_0.out); (case side3 => exact uf4_ HR0_1); (case side4 => exact HC0_1.out); rintro e w34 ⟨rfl, hb⟩; refine ⟨_, rfl, ?_⟩; replace HO_5 := Aside0.mk (Kd.R_below (uf1_ HO_5) hb); replace BK350 := Aside0.mk (blk_below (g := gb350) (o := .cells #[.slice A0_0 l0_0.length c0_0, .slice A0_1 l0_1.length c0_1] 26 (0, 0)) (uf0_ BK350) hb); replace HB := Aside0.mk (below_step (spec_PaysOk.calls_q0) hb); (try clear hb); (try clear hk hi); obtain ⟨Ao35, co35, eo35⟩ := Kd.R_slice HO_5.out; subst eo35))
       go_ret
       exact ⟨g4_, spec_PaysOk.calls_q0⟩
      ·replace c32 := Bool.eq_false_iff.mpr c32
       subst c32
       replace H := ifn_ H
       obtain rfl := Option.some.inj H
       obtain ⟨hcz36_0, hcz36_1, hfz36_0, hfz36_1⟩ := blk2_ BK350
       go_wp2_with (first | ((with_reducible refine gate_callee (f := 56) rfl ?_); refine goesL_ (some 50) rfl rfl Try.func56 k_ rfl #[.agg #[.slice A0_0 l0_0.length c0_0, .slice A0_1 l0_1.length c0_1]] rfl (g2_) ?_; (with_reducible refine (spec_BookOk.calls kj6 _ _ l0_0 _ _ l0_1 false _ ?side1 ?side2 ?side3 ?side4 A31.out).mono ?_); (case side1 => exact uf4_ HR0_0); (case side2 => exact HC0_0.out); (case side3 => exact uf4_ HR0_1); (case side4 => exact HC0_1.out); rintro e w37 ⟨rfl, hb⟩; refine ⟨_, rfl, ?_⟩; replace HO_5 := Aside0.mk (Kd.R_below (uf1_ HO_5) hb); replace BK350 := Aside0.mk (blk_below (g := gb350) (o := .cells #[.slice A0_0 l0_0.length c0_0, .slice A0_1 l0_1.length c0_1] 26 (0, 0)) (uf0_ BK350) hb); replace HB := Aside0.mk (below_step (spec_PaysOk.calls_q0) hb); (try clear hb); (try clear hk hi)))
       go_ret
       exact ⟨g4_, spec_PaysOk.calls_q0⟩
end Go.Proofs.Ytigpmfoagkhaeaa.PU

namespace Go.Proofs.Ytigpmfoagkhaeaa.PU
open Go.RowKit Go.Proofs.YtigpmfoagkhaeaaW.PrintWords Go.Proofs.YtigpmfoagkhaeaaW.PrintLast Go.Proofs.YtigpmfoagkhaeaaW.PrintMore Go.Proofs.Ytigpmfoagkhaeaa.Qd
attribute [local go_sem] max2_int min2_int max_two min_two max_three min_three max_four min_four   -- for this text's walks alone
set_option linter.unusedVariables false
set_option linter.unusedSimpArgs false
def spec_FracOf.f (k : Nat) (a0 : Int) (a1 : Int) : Option (Int × Int × Bool) := (spec_l1In.f a0 (-1000000000) 1000000000).bind fun t578 => (if t578 = true then ((spec_l1In.f a1 (-1000000000) 1000000000).bind fun t579 => (if t579 = true then (if a1 = 0 then (some (0, 0, false)) else ((spec_l1Low.f k a0 a1).bind fun bt580 => (some (bt580.1, bt580.2.1, bt580.2.2)))) else (some (0, 0, false)))) else (some (0, 0, false)))
theorem spec_FracOf.mono : ∀ a0 a1 k, LeO (spec_FracOf.f k a0 a1) (spec_FracOf.f (k + 1) a0 a1) := by
 intro a0 a1 k
 unfold spec_FracOf.f
 repeat' first
   | (with_reducible exact spec_l1Low.mono _ _ _)
   | (with_reducible exact LeO.refl _)
   | (with_reducible exact LeO.none _)
   | (with_reducible refine LeO.ite ?_ ?_)
   | (with_reducible refine LeO.bind ?_ (fun _ => ?_))
   | exact spec_l1Low.mono _ _ _
   | exact LeO.none _
   | refine LeO.ite ?_ ?_
   | refine LeO.bind ?_ (fun _ => ?_)
theorem spec_FracOf.calls_q0 {p : Prop} (h : p := by repeat (first | (with_reducible first | exact HB.out | apply below_alloc | apply pw_below_drewN | apply below_drew1 | refine below_set ?_ GE577.out) | exact HB.out)) : p := h
set_option maxHeartbeats 8000000 in
set_option maxRecDepth 100000 in
theorem spec_FracOf.calls (k : Nat) (a0 : Int) (a1 : Int) (r1 : Int) (r2 : Int) (r3 : Bool) (w : World) (h : spec_FracOf.f k a0 a1 = some (r1, r2, r3)) :
  Calls Try.prog 74 #[.int .i64 a0, .int .i64 a1] w fun e w' => e = .returned (.tuple #[.agg #[.int .i64 r1, .int .i64 r2], .bool r3]) ∧ Below w.heap.size w w' := by
 have hu36 := Try.underlying36
 have HB := Aside0.mk (Below.refl w.heap.size w)
 have H : ((spec_l1In.f a0 (-1000000000) 1000000000).bind fun t578 => (if t578 = true then ((spec_l1In.f a1 (-1000000000) 1000000000).bind fun t579 => (if t579 = true then (if a1 = 0 then (some (0, 0, false)) else ((spec_l1Low.f k a0 a1).bind fun bt580 => (some (bt580.1, bt580.2.1, bt580.2.2)))) else (some (0, 0, false)))) else (some (0, 0, false)))) = some (r1, r2, r3) := h
 clear h
 obtain ⟨t578, A3, H⟩ := bind_ H
 by_cases c4 : t578 = true
 ·subst c4
  replace H := ifp_ H
  obtain ⟨t579, A5, H⟩ := bind_ H
  by_cases c6 : t579 = true
  ·subst c6
   replace H := ifp_ H
   by_cases c7 : a1 = 0
   ·rw [if_pos c7] at H
    have c7b0 : (a1 == 0) = true := beq_iff_eq.mpr c7
    have c7b1 : (a1 != 0) = false := bne_eq_false_iff_eq.mpr c7
    clear c7
    simp only [Option.some.injEq, Prod.mk.injEq] at H
    obtain ⟨rfl, rfl, rfl⟩ := H
    go_enter Try.func74, Try.ntmps74
    go_wp2_with (first | ((with_reducible refine gate_dst (N := 4) rfl ?_); refine bx_ (N := 4) #[.int .i64 0, .int .i64 0] 36 ?_; intro gb577 hg w8 hbox hb; have BK577 := Aside0.mk (hbox); have GW577 := Aside0.mk ((g44_ : w.heap.size ≤ gb577)); have GE577 := Aside0.mk ((g44_ : w.heap.size ≤ gb577)); replace HB := Aside0.mk (below_step (spec_FracOf.calls_q0) hb); clear hb hbox hg) | ((with_reducible refine gate_callee (f := 90) rfl ?_); refine goesL_ (some 7) rfl rfl Try.func90 k_ rfl #[.int .i64 a0, .int .i64 (-1000000000), .int .i64 1000000000] rfl (g2_) ?_; (with_reducible refine (spec_l1In.calls a0 (-1000000000) 1000000000 true _ A3.out).mono ?_); rintro e w' ⟨rfl, ⟨nd, rfl⟩⟩; refine ⟨_, rfl, ?_⟩; (try (rw [drewN_self w8]; generalize hq_ : World.drewN w8 _ = w8; replace BK577 : Aside0 (w8.heap[gb577]? = some (.cells #[.int .i64 0, .int .i64 0] 36 (0, 0))) := ⟨g48_⟩; replace HB : Aside0 (Below w.heap.size w w8) := ⟨g49_⟩; clear hq_))) | (go_at_call 90; (with_reducible refine (spec_l1In.calls a1 (-1000000000) 1000000000 true _ A5.out).mono ?_); rintro e w' ⟨rfl, ⟨nd, rfl⟩⟩; (try (rw [drewN_self w8]; generalize hq_ : World.drewN w8 _ = w8; replace BK577 : Aside0 (w8.heap[gb577]? = some (.cells #[.int .i64 0, .int .i64 0] 36 (0, 0))) := ⟨g48_⟩; replace HB : Aside0 (Below w.heap.size w w8) := ⟨g49_⟩; clear hq_)); obtain ⟨hcz9_0, hcz9_1, hfz9_0, hfz9_1⟩ := blk2_ BK577))
    refine bodyPost_ret (results_ct rfl _ _ gb577 36 #[.int .i64 0, .int .i64 0] (0, 0) _ rfl (g152_) Try.underlying36 rfl (g0_)) rfl ?_
    exact ⟨g4_, spec_FracOf.calls_q0⟩
   ·rw [if_neg c7] at H
    have c7b0 : (a1 == 0) = false := beq_eq_false_iff_ne.mpr c7
    have c7b1 : (a1 != 0) = true := bne_iff_ne.mpr c7
    replace H := Option.bind_eq_some_iff.mp H
    obtain ⟨⟨t580, t581, t582⟩, A100, H⟩ := H
    replace H : (some (t580, t581, t582)) = some (r1, r2, r3) := H
    have A10 := Aside0.mk A100
    clear A100
    simp only [Option.some.injEq, Prod.mk.injEq] at H
    obtain ⟨rfl, rfl, rfl⟩ := H
    go_enter Try.func74, Try.ntmps74
    go_wp2_with (first | ((with_reducible refine gate_dst (N := 4) rfl ?_); refine bx_ (N := 4) #[.int .i64 0, .int .i64 0] 36 ?_; intro gb577 hg w11 hbox hb; have BK577 := Aside0.mk (hbox); have GW577 := Aside0.mk ((g44_ : w.heap.size ≤ gb577)); have GE577 := Aside0.mk ((g44_ : w.heap.size ≤ gb577)); replace HB := Aside0.mk (below_step (spec_FracOf.calls_q0) hb); clear hb hbox hg) | ((with_reducible refine gate_callee (f := 90) rfl ?_); refine goesL_ (some 7) rfl rfl Try.func90 k_ rfl #[.int .i64 a0, .int .i64 (-1000000000), .int .i64 1000000000] rfl (g2_) ?_; (with_reducible refine (spec_l1In.calls a0 (-1000000000) 1000000000 true _ A3.out).mono ?_); rintro e w' ⟨rfl, ⟨nd, rfl⟩⟩; refine ⟨_, rfl, ?_⟩; (try (rw [drewN_self w11]; generalize hq_ : World.drewN w11 _ = w11; replace BK577 : Aside0 (w11.heap[gb577]? = some (.cells #[.int .i64 0, .int .i64 0] 36 (0, 0))) := ⟨g48_⟩; replace HB : Aside0 (Below w.heap.size w w11) := ⟨g49_⟩; clear hq_))) | (go_at_call 90; (with_reducible refine (spec_l1In.calls a1 (-1000000000) 1000000000 true _ A5.out).mono ?_); rintro e w' ⟨rfl, ⟨nd, rfl⟩⟩; (try (rw [drewN_self w11]; generalize hq_ : World.drewN w11 _ = w11; replace BK577 : Aside0 (w11.heap[gb577]? = some (.cells #[.int .i64 0, .int .i64 0] 36 (0, 0))) := ⟨g48_⟩; replace HB : Aside0 (Below w.heap.size w w11) := ⟨g49_⟩; clear hq_))) | ((with_reducible refine gate_callee (f := 95) rfl ?_); refine goesL_ (some 21) rfl rfl Try.func95 k_ rfl #[.int .i64 a0, .int .i64 a1] rfl (g2_) ?_; (with_reducible refine (spec_l1Low.calls k a0 a1 t580 t581 t582 _ A10.out).mono ?_); rintro e w12 ⟨rfl, hb⟩; refine ⟨_, rfl, ?_⟩; replace BK577 := Aside0.mk (blk_below (g := gb577) (o := .cells #[.int .i64 0, .int .i64 0] 36 (0, 0)) (uf0_ BK577) hb); replace HB := Aside0.mk (below_step (spec_FracOf.calls_q0) hb); (try clear hb); (try clear hk hi); obtain ⟨hcz13_0, hcz13_1, hfz13_0, hfz13_1⟩ := blk2_ BK577))
    refine bodyPost_ret (results_ct rfl _ _ gb577 36 #[.int .i64 t580, .int .i64 t581] (0, 0) _ rfl (by (with_reducible repeat (first | refine blk_drewN ?_ _ | refine blk_drew ?_ | refine blk_alloc ?_ _)); refine blk_put (cs := #[.int .i64 t580, .int .i64 0]) ?_ 1 _ rfl; (with_reducible repeat (first | refine blk_drewN ?_ _ | refine blk_drew ?_ | refine blk_alloc ?_ _)); refine blk_put (cs := #[.int .i64 0, .int .i64 0]) ?_ 0 _ rfl; (with_reducible repeat (first | refine blk_drewN ?_ _ | refine blk_drew ?_ | refine blk_alloc ?_ _)); exact BK577.out) Try.underlying36 rfl (g0_)) rfl ?_
    exact ⟨g4_, spec_FracOf.calls_q0⟩
  ·replace c6 := Bool.eq_false_iff.mpr c6
   subst c6
   replace H := ifn_ H
   simp only [Option.some.injEq, Prod.mk.injEq] at H
   obtain ⟨rfl, rfl, rfl⟩ := H
   go_enter Try.func74, Try.ntmps74
   go_wp2_with (first | ((with_reducible refine gate_dst (N := 4) rfl ?_); refine bx_ (N := 4) #[.int .i64 0, .int .i64 0] 36 ?_; intro gb577 hg w14 hbox hb; have BK577 := Aside0.mk (hbox); have GW577 := Aside0.mk ((g44_ : w.heap.size ≤ gb577)); have GE577 := Aside0.mk ((g44_ : w.heap.size ≤ gb577)); replace HB := Aside0.mk (below_step (spec_FracOf.calls_q0) hb); clear hb hbox hg) | ((with_reducible refine gate_callee (f := 90) rfl ?_); refine goesL_ (some 7) rfl rfl Try.func90 k_ rfl #[.int .i64 a0, .int .i64 (-1000000000), .int .i64 1000000000] rfl (g2_) ?_; (with_reducible refine (spec_l1In.calls a0 (-1000000000) 1000000000 true _ A3.out).mono ?_); rintro e w' ⟨rfl, ⟨nd, rfl⟩⟩; refine ⟨_, rfl, ?_⟩; (try (rw [drewN_self w14]; generalize hq_ : World.drewN w14 _ = w14; replace BK577 : Aside0 (w14.heap[gb577]? = some (.cells #[.int .i64 0, .int .i64 0] 36 (0, 0))) := ⟨g48_⟩; replace HB : Aside0 (Below w.heap.size w w14) := ⟨g49_⟩; clear hq_))) | (go_at_call 90; (with_reducible refine (spec_l1In.calls a1 (-1000000000) 1000000000 false _ A5.out).mono ?_); rintro e w' ⟨rfl, ⟨nd, rfl⟩⟩; (try (rw [drewN_self w14]; generalize hq_ : World.drewN w14 _ = w14; replace BK577 : Aside0 (w14.heap[gb577]? = some (.cells #[.int .i64 0, .int .i64 0] 36 (0, 0))) := ⟨g48_⟩; replace HB : Aside0 (Below w.heap.size w w14) := ⟨g49_⟩; clear hq_)); obtain ⟨hcz15_0, hcz15_1, hfz15_0, hfz15_1⟩ := blk2_ BK577))
   refine bodyPost_ret (results_ct rfl _ _ gb577 36 #[.int .i64 0, .int .i64 0] (0, 0) _ rfl (g152_) Try.underlying36 rfl (g0_)) rfl ?_
   exact ⟨g4_, spec_FracOf.calls_q0⟩
 ·replace c4 := Bool.eq_false_iff.mpr c4
  subst c4
  replace H := ifn_ H
  simp only [Option.some.injEq, Prod.mk.injEq] at H
  obtain ⟨rfl, rfl, rfl⟩ := H
  go_enter Try.func74, Try.ntmps74
  go_wp2_with (first | ((with_reducible refine gate_dst (N := 4) rfl ?_); refine bx_ (N := 4) #[.int .i64 0, .int .i64 0] 36 ?_; intro gb577 hg w16 hbox hb; have BK577 := Aside0.mk (hbox); have GW577 := Aside0.mk ((g44_ : w.heap.size ≤ gb577)); have GE577 := Aside0.mk ((g44_ : w.heap.size ≤ gb577)); replace HB := Aside0.mk (below_step (spec_FracOf.calls_q0) hb); clear hb hbox hg) | ((with_reducible refine gate_callee (f := 90) rfl ?_); refine goesL_ (some 7) rfl rfl Try.func90 k_ rfl #[.int .i64 a0, .int .i64 (-1000000000), .int .i64 1000000000] rfl (g2_) ?_; (with_reducible refine (spec_l1In.calls a0 (-1000000000) 1000000000 false _ A3.out).mono ?_); rintro e w' ⟨rfl, ⟨nd, rfl⟩⟩; refine ⟨_, rfl, ?_⟩; (try (rw [drewN_self w16]; generalize hq_ : World.drewN w16 _ = w16; replace BK577 : Aside0 (w16.heap[gb577]? = some (.cells #[.int .i64 0, .int .i64 0] 36 (0, 0))) := ⟨g48_⟩; replace HB : Aside0 (Below w.heap.size w w16) := ⟨g49_⟩; clear hq_)); obtain ⟨hcz17_0, hcz17_1, hfz17_0, hfz17_1⟩ := blk2_ BK577))
  refine bodyPost_ret (results_ct rfl _ _ gb577 36 #[.int .i64 0, .int .i64 0] (0, 0) _ rfl (g152_) Try.underlying36 rfl (g0_)) rfl ?_
  exact ⟨g4_, spec_FracOf.calls_q0⟩
end Go.Proofs.Ytigpmfoagkhaeaa.PU

namespace Go.Proofs.Ytigpmfoagkhaeaa.PU
open Go.RowKit Go.Proofs.YtigpmfoagkhaeaaW.PrintWords Go.Proofs.YtigpmfoagkhaeaaW.PrintLast Go.Proofs.YtigpmfoagkhaeaaW.PrintMore Go.Proofs.Ytigpmfoagkhaeaa.Qd
attribute [local go_sem] max2_int min2_int max_two min_two max_three min_three max_four min_four   -- for this text's walks alone
set_option linter.unusedVariables false
set_option linter.unusedSimpArgs false
def spec_TimesOf.f (k : Nat) (a0_0 : Int) (a0_1 : Int) (a1_0 : Int) (a1_1 : Int) : Option (Int × Int × Bool) := (spec_FracOk.f k a0_0 a0_1).bind fun t586 => (if t586 = true then ((spec_FracOk.f k a1_0 a1_1).bind fun t587 => (if t587 = true then ((spec_l1Low.f k (wrap64 (a0_0 * a1_0)) (wrap64 (a0_1 * a1_1))).bind fun bt588 => (some (bt588.1, bt588.2.1, bt588.2.2))) else (some (0, 0, false)))) else (some (0, 0, false)))
theorem spec_TimesOf.mono : ∀ a0 a1 a2 a3 k, LeO (spec_TimesOf.f k a0 a1 a2 a3) (spec_TimesOf.f (k + 1) a0 a1 a2 a3) := by
 intro a0 a1 a2 a3 k
 unfold spec_TimesOf.f
 repeat' first
   | (with_reducible exact spec_FracOk.mono _ _ _)
   | (with_reducible exact spec_l1Low.mono _ _ _)
   | (with_reducible exact LeO.refl _)
   | (with_reducible exact LeO.none _)
   | (with_reducible refine LeO.ite ?_ ?_)
   | (with_reducible refine LeO.bind ?_ (fun _ => ?_))
   | exact spec_FracOk.mono _ _ _
   | exact spec_l1Low.mono _ _ _
   | exact LeO.none _
   | refine LeO.ite ?_ ?_
   | refine LeO.bind ?_ (fun _ => ?_)
theorem spec_TimesOf.calls_q0 {p : Prop} (h : p := by repeat (first | (with_reducible first | exact HB.out | apply below_alloc | apply pw_below_drewN | apply below_drew1 | refine below_set ?_ GE583.out | refine below_set ?_ GE584.out | refine below_set ?_ GE585.out) | exact HB.out)) : p := h
set_option maxHeartbeats 8000000 in
set_option maxRecDepth 100000 in
theorem spec_TimesOf.calls (k : Nat) (a0_0 : Int) (a0_1 : Int) (a1_0 : Int) (a1_1 : Int) (r1 : Int) (r2 : Int) (r3 : Bool) (w : World) (h : spec_TimesOf.f k a0_0 a0_1 a1_0 a1_1 = some (r1, r2, r3)) :
  Calls Try.prog 75 #[.agg #[.int .i64 a0_0, .int .i64 a0_1], .agg #[.int .i64 a1_0, .int .i64 a1_1]] w fun e w' => e = .returned (.tuple #[.agg #[.int .i64 r1, .int .i64 r2], .bool r3]) ∧ Below w.heap.size w w' := by
 have hu36 := Try.underlying36
 have HB := Aside0.mk (Below.refl w.heap.size w)
 have H : ((spec_FracOk.f k a0_0 a0_1).bind fun t586 => (if t586 = true then ((spec_FracOk.f k a1_0 a1_1).bind fun t587 => (if t587 = true then ((spec_l1Low.f k (wrap64 (a0_0 * a1_0)) (wrap64 (a0_1 * a1_1))).bind fun bt588 => (some (bt588.1, bt588.2.1, bt588.2.2))) else (some (0, 0, false)))) else (some (0, 0, false)))) = some (r1, r2, r3) := h
 clear h
 obtain ⟨t586, A3, H⟩ := bind_ H
 by_cases c4 : t586 = true
 ·subst c4
  replace H := ifp_ H
  obtain ⟨t587, A5, H⟩ := bind_ H
  by_cases c6 : t587 = true
  ·subst c6
   replace H := ifp_ H
   replace H := Option.bind_eq_some_iff.mp H
   obtain ⟨⟨t588, t589, t590⟩, A70, H⟩ := H
   replace H : (some (t588, t589, t590)) = some (r1, r2, r3) := H
   have A7 := Aside0.mk A70
   clear A70
   simp only [Option.some.injEq, Prod.mk.injEq] at H
   obtain ⟨rfl, rfl, rfl⟩ := H
   go_enter Try.func75, Try.ntmps75
   go_wp2_with (first | ((with_reducible refine gate_dst (N := 2) rfl ?_); refine bx_ (N := 2) #[.int .i64 a0_0, .int .i64 a0_1] 36 ?_; intro gb583 hg w8 hbox hb; have BK583 := Aside0.mk (hbox); have GW583 := Aside0.mk ((g14_ : w.heap.size ≤ gb583)); have GE583 := Aside0.mk ((g14_ : w.heap.size ≤ gb583)); replace HB := Aside0.mk (below_step (spec_TimesOf.calls_q0) hb); clear hb hbox hg) | ((with_reducible refine gate_dst (N := 3) rfl ?_); refine bx_ (N := 3) #[.int .i64 a1_0, .int .i64 a1_1] 36 ?_; intro gb584 hg w9 hbox hb; have BK584 := Aside0.mk (hbox); have GW584 := Aside0.mk ((g14_ : w.heap.size ≤ gb584)); have GE584 := Aside0.mk ((g14_ : w.heap.size ≤ gb584)); replace HB := Aside0.mk (below_step (spec_TimesOf.calls_q0) hb); have NB583_584 := Aside0.mk ((g68_ : gb583 ≠ gb584)); have NB584_583 := Aside0.mk ((g69_ : gb584 ≠ gb583)); replace BK583 := Aside0.mk (blk_below (g := gb583) (o := .cells #[.int .i64 a0_0, .int .i64 a0_1] 36 (0, 0)) (uf0_ BK583) hb); clear hb hbox hg) | ((with_reducible refine gate_dst (N := 4) rfl ?_); refine bx_ (N := 4) #[.int .i64 0, .int .i64 0] 36 ?_; intro gb585 hg w10 hbox hb; have BK585 := Aside0.mk (hbox); have GW585 := Aside0.mk ((g14_ : w.heap.size ≤ gb585)); have GE585 := Aside0.mk ((g14_ : w.heap.size ≤ gb585)); replace HB := Aside0.mk (below_step (spec_TimesOf.calls_q0) hb); have NB583_585 := Aside0.mk ((g68_ : gb583 ≠ gb585)); have NB585_583 := Aside0.mk ((g69_ : gb585 ≠ gb583)); replace BK583 := Aside0.mk (blk_below (g := gb583) (o := .cells #[.int .i64 a0_0, .int .i64 a0_1] 36 (0, 0)) (uf0_ BK583) hb); have NB584_585 := Aside0.mk ((g153_ : gb584 ≠ gb585)); have NB585_584 := Aside0.mk ((g154_ : gb585 ≠ gb584)); replace BK584 := Aside0.mk (blk_below (g := gb584) (o := .cells #[.int .i64 a1_0, .int .i64 a1_1] 36 (0, 0)) (uf0_ BK584) hb); clear hb hbox hg; have hnb11 := NB583_584.out; have hnc11 := NB584_583.out; have hnb12 := NB583_585.out; have hnc12 := NB585_583.out; obtain ⟨hcz13_0, hcz13_1, hfz13_0, hfz13_1⟩ := blk2_ BK583) | ((with_reducible refine gate_callee (f := 63) rfl ?_); refine goesL_ (some 7) rfl rfl Try.func63 k_ rfl #[.agg #[.int .i64 a0_0, .int .i64 a0_1]] rfl (g2_) ?_; (with_reducible refine (spec_FracOk.calls k a0_0 a0_1 true _ A3.out).mono ?_); rintro e w14 ⟨rfl, hb⟩; refine ⟨_, rfl, ?_⟩; replace BK583 := Aside0.mk (blk_below (g := gb583) (o := .cells #[.int .i64 a0_0, .int .i64 a0_1] 36 (0, 0)) (uf0_ BK583) hb); replace BK584 := Aside0.mk (blk_below (g := gb584) (o := .cells #[.int .i64 a1_0, .int .i64 a1_1] 36 (0, 0)) (uf0_ BK584) hb); replace BK585 := Aside0.mk (blk_below (g := gb585) (o := .cells #[.int .i64 0, .int .i64 0] 36 (0, 0)) (uf0_ BK585) hb); replace HB := Aside0.mk (below_step (spec_TimesOf.calls_q0) hb); (try clear hb); (try clear hk hi); have hnb15 := NB584_585.out; have hnc15 := NB585_584.out; obtain ⟨hcz16_0, hcz16_1, hfz16_0, hfz16_1⟩ := blk2_ BK584) | (go_at_call 63; (with_reducible refine (spec_FracOk.calls k a1_0 a1_1 true _ A5.out).mono ?_); rintro e w17 ⟨rfl, hb⟩; replace BK583 := Aside0.mk (blk_below (g := gb583) (o := .cells #[.int .i64 a0_0, .int .i64 a0_1] 36 (0, 0)) (uf0_ BK583) hb); replace BK584 := Aside0.mk (blk_below (g := gb584) (o := .cells #[.int .i64 a1_0, .int .i64 a1_1] 36 (0, 0)) (uf0_ BK584) hb); replace BK585 := Aside0.mk (blk_below (g := gb585) (o := .cells #[.int .i64 0, .int .i64 0] 36 (0, 0)) (uf0_ BK585) hb); replace HB := Aside0.mk (below_step (spec_TimesOf.calls_q0) hb); (try clear hb); (try clear hk hi); obtain ⟨hcz18_0, hcz18_1, hfz18_0, hfz18_1⟩ := blk2_ BK583; obtain ⟨hcz19_0, hcz19_1, hfz19_0, hfz19_1⟩ := blk2_ BK584) | ((with_reducible refine gate_callee (f := 95) rfl ?_); refine goesL_ (some 25) rfl rfl Try.func95 k_ rfl #[.int .i64 (wrap64 (a0_0 * a1_0)), .int .i64 (wrap64 (a0_1 * a1_1))] rfl (g2_) ?_; (with_reducible refine (spec_l1Low.calls k (wrap64 (a0_0 * a1_0)) (wrap64 (a0_1 * a1_1)) t588 t589 t590 _ A7.out).mono ?_); rintro e w20 ⟨rfl, hb⟩; refine ⟨_, rfl, ?_⟩; replace BK583 := Aside0.mk (blk_below (g := gb583) (o := .cells #[.int .i64 a0_0, .int .i64 a0_1] 36 (0, 0)) (uf0_ BK583) hb); replace BK584 := Aside0.mk (blk_below (g := gb584) (o := .cells #[.int .i64 a1_0, .int .i64 a1_1] 36 (0, 0)) (uf0_ BK584) hb); replace BK585 := Aside0.mk (blk_below (g := gb585) (o := .cells #[.int .i64 0, .int .i64 0] 36 (0, 0)) (uf0_ BK585) hb); replace HB := Aside0.mk (below_step (spec_TimesOf.calls_q0) hb); (try clear hb); (try clear hk hi); obtain ⟨hcz21_0, hcz21_1, hfz21_0, hfz21_1⟩ := blk2_ BK585))
   refine bodyPost_ret (results_ct rfl _ _ gb585 36 #[.int .i64 t588, .int .i64 t589] (0, 0) _ rfl (by (with_reducible repeat (first | refine blk_drewN ?_ _ | refine blk_drew ?_ | refine blk_alloc ?_ _)); refine blk_put (cs := #[.int .i64 t588, .int .i64 0]) ?_ 1 _ rfl; (with_reducible repeat (first | refine blk_drewN ?_ _ | refine blk_drew ?_ | refine blk_alloc ?_ _)); refine blk_put (cs := #[.int .i64 0, .int .i64 0]) ?_ 0 _ rfl; (with_reducible repeat (first | refine blk_drewN ?_ _ | refine blk_drew ?_ | refine blk_alloc ?_ _)); exact BK585.out) Try.underlying36 rfl (g0_)) rfl ?_
   exact ⟨g4_, spec_TimesOf.calls_q0⟩
  ·replace c6 := Bool.eq_false_iff.mpr c6
   subst c6
   replace H := ifn_ H
   simp only [Option.some.injEq, Prod.mk.injEq] at H
   obtain ⟨rfl, rfl, rfl⟩ := H
   go_enter Try.func75, Try.ntmps75
   go_wp2_with (first | ((with_reducible refine gate_dst (N := 2) rfl ?_); refine bx_ (N := 2) #[.int .i64 a0_0, .int .i64 a0_1] 36 ?_; intro gb583 hg w22 hbox hb; have BK583 := Aside0.mk (hbox); have GW583 := Aside0.mk ((g14_ : w.heap.size ≤ gb583)); have GE583 := Aside0.mk ((g14_ : w.heap.size ≤ gb583)); replace HB := Aside0.mk (below_step (spec_TimesOf.calls_q0) hb); clear hb hbox hg) | ((with_reducible refine gate_dst (N := 3) rfl ?_); refine bx_ (N := 3) #[.int .i64 a1_0, .int .i64 a1_1] 36 ?_; intro gb584 hg w23 hbox hb; have BK584 := Aside0.mk (hbox); have GW584 := Aside0.mk ((g14_ : w.heap.size ≤ gb584)); have GE584 := Aside0.mk ((g14_ : w.heap.size ≤ gb584)); replace HB := Aside0.mk (below_step (spec_TimesOf.calls_q0) hb); have NB583_584 := Aside0.mk ((g68_ : gb583 ≠ gb584)); have NB584_583 := Aside0.mk ((g69_ : gb584 ≠ gb583)); replace BK583 := Aside0.mk (blk_below (g := gb583) (o := .cells #[.int .i64 a0_0, .int .i64 a0_1] 36 (0, 0)) (uf0_ BK583) hb); clear hb hbox hg) | ((with_reducible refine gate_dst (N := 4) rfl ?_); refine bx_ (N := 4) #[.int .i64 0, .int .i64 0] 36 ?_; intro gb585 hg w24 hbox hb; have BK585 := Aside0.mk (hbox); have GW585 := Aside0.mk ((g14_ : w.heap.size ≤ gb585)); have GE585 := Aside0.mk ((g14_ : w.heap.size ≤ gb585)); replace HB := Aside0.mk (below_step (spec_TimesOf.calls_q0) hb); have NB583_585 := Aside0.mk ((g68_ : gb583 ≠ gb585)); have NB585_583 := Aside0.mk ((g69_ : gb585 ≠ gb583)); replace BK583 := Aside0.mk (blk_below (g := gb583) (o := .cells #[.int .i64 a0_0, .int .i64 a0_1] 36 (0, 0)) (uf0_ BK583) hb); have NB584_585 := Aside0.mk ((g153_ : gb584 ≠ gb585)); have NB585_584 := Aside0.mk ((g154_ : gb585 ≠ gb584)); replace BK584 := Aside0.mk (blk_below (g := gb584) (o := .cells #[.int .i64 a1_0, .int .i64 a1_1] 36 (0, 0)) (uf0_ BK584) hb); clear hb hbox hg; have hnb25 := NB583_584.out; have hnc25 := NB584_583.out; have hnb26 := NB583_585.out; have hnc26 := NB585_583.out; obtain ⟨hcz27_0, hcz27_1, hfz27_0, hfz27_1⟩ := blk2_ BK583) | ((with_reducible refine gate_callee (f := 63) rfl ?_); refine goesL_ (some 7) rfl rfl Try.func63 k_ rfl #[.agg #[.int .i64 a0_0, .int .i64 a0_1]] rfl (g2_) ?_; (with_reducible refine (spec_FracOk.calls k a0_0 a0_1 true _ A3.out).mono ?_); rintro e w28 ⟨rfl, hb⟩; refine ⟨_, rfl, ?_⟩; replace BK583 := Aside0.mk (blk_below (g := gb583) (o := .cells #[.int .i64 a0_0, .int .i64 a0_1] 36 (0, 0)) (uf0_ BK583) hb); replace BK584 := Aside0.mk (blk_below (g := gb584) (o := .cells #[.int .i64 a1_0, .int .i64 a1_1] 36 (0, 0)) (uf0_ BK584) hb); replace BK585 := Aside0.mk (blk_below (g := gb585) (o := .cells #[.int .i64 0, .int .i64 0] 36 (0, 0)) (uf0_ BK585) hb); replace HB := Aside0.mk (below_step (spec_TimesOf.calls_q0) hb); (try clear hb); (try clear hk hi); have hnb29 := NB584_585.out; have hnc29 := NB585_584.out; obtain ⟨hcz30_0, hcz30_1, hfz30_0, hfz30_1⟩ := blk2_ BK584) | (go_at_call 63; (with_reducible refine (spec_FracOk.calls k a1_0 a1_1 false _ A5.out).mono ?_); rintro e w31 ⟨rfl, hb⟩; replace BK583 := Aside0.mk (blk_below (g := gb583) (o := .cells #[.int .i64 a0_0, .int .i64 a0_1] 36 (0, 0)) (uf0_ BK583) hb); replace BK584 := Aside0.mk (blk_below (g := gb584) (o := .cells #[.int .i64 a1_0, .int .i64 a1_1] 36 (0, 0)) (uf0_ BK584) hb); replace BK585 := Aside0.mk (blk_below (g := gb585) (o := .cells #[.int .i64 0, .int .i64 0] 36 (0, 0)) (uf0_ BK585) hb); replace HB := Aside0.mk (below_step (spec_TimesOf.calls_q0) hb); (try clear hb); (try clear hk hi); obtain ⟨hcz32_0, hcz32_1, hfz32_0, hfz32_1⟩ := blk2_ BK585))
   refine bodyPost_ret (results_ct rfl _ _ gb585 36 #[.int .i64 0, .int .i64 0] (0, 0) _ rfl (by (with_reducible repeat (first | refine blk_drewN ?_ _ | refine blk_drew ?_ | refine blk_alloc ?_ _)); refine blk_put (cs := #[.int .i64 0, .int .i64 0]) ?_ 1 _ rfl; (with_reducible repeat (first | refine blk_drewN ?_ _ | refine blk_drew ?_ | refine blk_alloc ?_ _)); refine blk_put (cs := #[.int .i64 0, .int .i64 0]) ?_ 0 _ rfl; (with_reducible repeat (first | refine blk_drewN ?_ _ | refine blk_drew ?_ | refine blk_alloc ?_ _)); exact BK585.out) Try.underlying36 rfl (g0_)) rfl ?_
   exact ⟨g4_, spec_TimesOf.calls_q0⟩
 ·replace c4 := Bool.eq_false_iff.mpr c4
  subst c4
  replace H := ifn_ H
  simp only [Option.some.injEq, Prod.mk.injEq] at H
  obtain ⟨rfl, rfl, rfl⟩ := H
  go_enter Try.func75, Try.ntmps75
  go_wp2_with (first | ((with_reducible refine gate_dst (N := 2) rfl ?_); refine bx_ (N := 2) #[.int .i64 a0_0, .int .i64 a0_1] 36 ?_; intro gb583 hg w33 hbox hb; have BK583 := Aside0.mk (hbox); have GW583 := Aside0.mk ((g14_ : w.heap.size ≤ gb583)); have GE583 := Aside0.mk ((g14_ : w.heap.size ≤ gb583)); replace HB := Aside0.mk (below_step (spec_TimesOf.calls_q0) hb); clear hb hbox hg) | ((with_reducible refine gate_dst (N := 3) rfl ?_); refine bx_ (N := 3) #[.int .i64 a1_0, .int .i64 a1_1] 36 ?_; intro gb584 hg w34 hbox hb; have BK584 := Aside0.mk (hbox); have GW584 := Aside0.mk ((g14_ : w.heap.size ≤ gb584)); have GE584 := Aside0.mk ((g14_ : w.heap.size ≤ gb584)); replace HB := Aside0.mk (below_step (spec_TimesOf.calls_q0) hb); have NB583_584 := Aside0.mk ((g68_ : gb583 ≠ gb584)); have NB584_583 := Aside0.mk ((g69_ : gb584 ≠ gb583)); replace BK583 := Aside0.mk (blk_below (g := gb583) (o := .cells #[.int .i64 a0_0, .int .i64 a0_1] 36 (0, 0)) (uf0_ BK583) hb); clear hb hbox hg) | ((with_reducible refine gate_dst (N := 4) rfl ?_); refine bx_ (N := 4) #[.int .i64 0, .int .i64 0] 36 ?_; intro gb585 hg w35 hbox hb; have BK585 := Aside0.mk (hbox); have GW585 := Aside0.mk ((g14_ : w.heap.size ≤ gb585)); have GE585 := Aside0.mk ((g14_ : w.heap.size ≤ gb585)); replace HB := Aside0.mk (below_step (spec_TimesOf.calls_q0) hb); have NB583_585 := Aside0.mk ((g68_ : gb583 ≠ gb585)); have NB585_583 := Aside0.mk ((g69_ : gb585 ≠ gb583)); replace BK583 := Aside0.mk (blk_below (g := gb583) (o := .cells #[.int .i64 a0_0, .int .i64 a0_1] 36 (0, 0)) (uf0_ BK583) hb); have NB584_585 := Aside0.mk ((g153_ : gb584 ≠ gb585)); have NB585_584 := Aside0.mk ((g154_ : gb585 ≠ gb584)); replace BK584 := Aside0.mk (blk_below (g := gb584) (o := .cells #[.int .i64 a1_0, .int .i64 a1_1] 36 (0, 0)) (uf0_ BK584) hb); clear hb hbox hg; have hnb36 := NB583_584.out; have hnc36 := NB584_583.out; have hnb37 := NB583_585.out; have hnc37 := NB585_583.out; obtain ⟨hcz38_0, hcz38_1, hfz38_0, hfz38_1⟩ := blk2_ BK583) | ((with_reducible refine gate_callee (f := 63) rfl ?_); refine goesL_ (some 7) rfl rfl Try.func63 k_ rfl #[.agg #[.int .i64 a0_0, .int .i64 a0_1]] rfl (g2_) ?_; (with_reducible refine (spec_FracOk.calls k a0_0 a0_1 false _ A3.out).mono ?_); rintro e w39 ⟨rfl, hb⟩; refine ⟨_, rfl, ?_⟩; replace BK583 := Aside0.mk (blk_below (g := gb583) (o := .cells #[.int .i64 a0_0, .int .i64 a0_1] 36 (0, 0)) (uf0_ BK583) hb); replace BK584 := Aside0.mk (blk_below (g := gb584) (o := .cells #[.int .i64 a1_0, .int .i64 a1_1] 36 (0, 0)) (uf0_ BK584) hb); replace BK585 := Aside0.mk (blk_below (g := gb585) (o := .cells #[.int .i64 0, .int .i64 0] 36 (0, 0)) (uf0_ BK585) hb); replace HB := Aside0.mk (below_step (spec_TimesOf.calls_q0) hb); (try clear hb); (try clear hk hi); have hnb40 := NB585_584.out; have hnc40 := NB584_585.out; obtain ⟨hcz41_0, hcz41_1, hfz41_0, hfz41_1⟩ := blk2_ BK585))
  refine bodyPost_ret (results_ct rfl _ _ gb585 36 #[.int .i64 0, .int .i64 0] (0, 0) _ rfl (by (with_reducible repeat (first | refine blk_drewN ?_ _ | refine blk_drew ?_ | refine blk_alloc ?_ _)); refine blk_put (cs := #[.int .i64 0, .int .i64 0]) ?_ 1 _ rfl; (with_reducible repeat (first | refine blk_drewN ?_ _ | refine blk_drew ?_ | refine blk_alloc ?_ _)); refine blk_put (cs := #[.int .i64 0, .int .i64 0]) ?_ 0 _ rfl; (with_reducible repeat (first | refine blk_drewN ?_ _ | refine blk_drew ?_ | refine blk_alloc ?_ _)); exact BK585.out) Try.underlying36 rfl (g0_)) rfl ?_
  exact ⟨g4_, spec_TimesOf.calls_q0⟩
end Go.Proofs.Ytigpmfoagkhaeaa.PU

namespace Go.Proofs.Ytigpmfoagkhaeaa.PU
open Go.RowKit Go.Proofs.YtigpmfoagkhaeaaW.PrintWords Go.Proofs.YtigpmfoagkhaeaaW.PrintLast Go.Proofs.YtigpmfoagkhaeaaW.PrintMore Go.Proofs.Ytigpmfoagkhaeaa.Qd
attribute [local go_sem] max2_int min2_int max_two min_two max_three min_three max_four min_four   -- for this text's walks alone
set_option linter.unusedVariables false
set_option linter.unusedSimpArgs false
def spec_PlusOf.f (k : Nat) (a0_0 : Int) (a0_1 : Int) (a1_0 : Int) (a1_1 : Int) : Option (Int × Int × Bool) := (spec_FracOk.f k a0_0 a0_1).bind fun t594 => (if t594 = true then ((spec_FracOk.f k a1_0 a1_1).bind fun t595 => (if t595 = true then ((spec_l1Low.f k (wrap64 ((wrap64 (a0_0 * a1_1)) + (wrap64 (a1_0 * a0_1)))) (wrap64 (a0_1 * a1_1))).bind fun bt596 => (some (bt596.1, bt596.2.1, bt596.2.2))) else (some (0, 0, false)))) else (some (0, 0, false)))
theorem spec_PlusOf.mono : ∀ a0 a1 a2 a3 k, LeO (spec_PlusOf.f k a0 a1 a2 a3) (spec_PlusOf.f (k + 1) a0 a1 a2 a3) := by
 intro a0 a1 a2 a3 k
 unfold spec_PlusOf.f
 repeat' first
   | (with_reducible exact spec_FracOk.mono _ _ _)
   | (with_reducible exact spec_l1Low.mono _ _ _)
   | (with_reducible exact LeO.refl _)
   | (with_reducible exact LeO.none _)
   | (with_reducible refine LeO.ite ?_ ?_)
   | (with_reducible refine LeO.bind ?_ (fun _ => ?_))
   | exact spec_FracOk.mono _ _ _
   | exact spec_l1Low.mono _ _ _
   | exact LeO.none _
   | refine LeO.ite ?_ ?_
   | refine LeO.bind ?_ (fun _ => ?_)
theorem spec_PlusOf.calls_q0 {p : Prop} (h : p := by repeat (first | (with_reducible first | exact HB.out | apply below_alloc | apply pw_below_drewN | apply below_drew1 | refine below_set ?_ GE591.out | refine below_set ?_ GE592.out | refine below_set ?_ GE593.out) | exact HB.out)) : p := h
set_option maxHeartbeats 8000000 in
set_option maxRecDepth 100000 in
theorem spec_PlusOf.calls (k : Nat) (a0_0 : Int) (a0_1 : Int) (a1_0 : Int) (a1_1 : Int) (r1 : Int) (r2 : Int) (r3 : Bool) (w : World) (h : spec_PlusOf.f k a0_0 a0_1 a1_0 a1_1 = some (r1, r2, r3)) :
  Calls Try.prog 76 #[.agg #[.int .i64 a0_0, .int .i64 a0_1], .agg #[.int .i64 a1_0, .int .i64 a1_1]] w fun e w' => e = .returned (.tuple #[.agg #[.int .i64 r1, .int .i64 r2], .bool r3]) ∧ Below w.heap.size w w' := by
 have hu36 := Try.underlying36
 have HB := Aside0.mk (Below.refl w.heap.size w)
 have H : ((spec_FracOk.f k a0_0 a0_1).bind fun t594 => (if t594 = true then ((spec_FracOk.f k a1_0 a1_1).bind fun t595 => (if t595 = true then ((spec_l1Low.f k (wrap64 ((wrap64 (a0_0 * a1_1)) + (wrap64 (a1_0 * a0_1)))) (wrap64 (a0_1 * a1_1))).bind fun bt596 => (some (bt596.1, bt596.2.1, bt596.2.2))) else (some (0, 0, false)))) else (some (0, 0, false)))) = some (r1, r2, r3) := h
 clear h
 obtain ⟨t594, A3, H⟩ := bind_ H
 by_cases c4 : t594 = true
 ·subst c4
  replace H := ifp_ H
  obtain ⟨t595, A5, H⟩ := bind_ H
  by_cases c6 : t595 = true
  ·subst c6
   replace H := ifp_ H
   replace H := Option.bind_eq_some_iff.mp H
   obtain ⟨⟨t596, t597, t598⟩, A70, H⟩ := H
   replace H : (some (t596, t597, t598)) = some (r1, r2, r3) := H
   have A7 := Aside0.mk A70
   clear A70
   simp only [Option.some.injEq, Prod.mk.injEq] at H
   obtain ⟨rfl, rfl, rfl⟩ := H
   go_enter Try.func76, Try.ntmps76
   go_wp2_with (first | ((with_reducible refine gate_dst (N := 2) rfl ?_); refine bx_ (N := 2) #[.int .i64 a0_0, .int .i64 a0_1] 36 ?_; intro gb591 hg w8 hbox hb; have BK591 := Aside0.mk (hbox); have GW591 := Aside0.mk ((g15_ : w.heap.size ≤ gb591)); have GE591 := Aside0.mk ((g15_ : w.heap.size ≤ gb591)); replace HB := Aside0.mk (below_step (spec_PlusOf.calls_q0) hb); clear hb hbox hg) | ((with_reducible refine gate_dst (N := 3) rfl ?_); refine bx_ (N := 3) #[.int .i64 a1_0, .int .i64 a1_1] 36 ?_; intro gb592 hg w9 hbox hb; have BK592 := Aside0.mk (hbox); have GW592 := Aside0.mk ((g15_ : w.heap.size ≤ gb592)); have GE592 := Aside0.mk ((g15_ : w.heap.size ≤ gb592)); replace HB := Aside0.mk (below_step (spec_PlusOf.calls_q0) hb); have NB591_592 := Aside0.mk ((g70_ : gb591 ≠ gb592)); have NB592_591 := Aside0.mk ((g71_ : gb592 ≠ gb591)); replace BK591 := Aside0.mk (blk_below (g := gb591) (o := .cells #[.int .i64 a0_0, .int .i64 a0_1] 36 (0, 0)) (uf0_ BK591) hb); clear hb hbox hg) | ((with_reducible refine gate_dst (N := 4) rfl ?_); refine bx_ (N := 4) #[.int .i64 0, .int .i64 0] 36 ?_; intro gb593 hg w10 hbox hb; have BK593 := Aside0.mk (hbox); have GW593 := Aside0.mk ((g15_ : w.heap.size ≤ gb593)); have GE593 := Aside0.mk ((g15_ : w.heap.size ≤ gb593)); replace HB := Aside0.mk (below_step (spec_PlusOf.calls_q0) hb); have NB591_593 := Aside0.mk ((g70_ : gb591 ≠ gb593)); have NB593_591 := Aside0.mk ((g71_ : gb593 ≠ gb591)); replace BK591 := Aside0.mk (blk_below (g := gb591) (o := .cells #[.int .i64 a0_0, .int .i64 a0_1] 36 (0, 0)) (uf0_ BK591) hb); have NB592_593 := Aside0.mk ((g155_ : gb592 ≠ gb593)); have NB593_592 := Aside0.mk ((g156_ : gb593 ≠ gb592)); replace BK592 := Aside0.mk (blk_below (g := gb592) (o := .cells #[.int .i64 a1_0, .int .i64 a1_1] 36 (0, 0)) (uf0_ BK592) hb); clear hb hbox hg; have hnb11 := NB591_592.out; have hnc11 := NB592_591.out; have hnb12 := NB591_593.out; have hnc12 := NB593_591.out; obtain ⟨hcz13_0, hcz13_1, hfz13_0, hfz13_1⟩ := blk2_ BK591) | ((with_reducible refine gate_callee (f := 63) rfl ?_); refine goesL_ (some 7) rfl rfl Try.func63 k_ rfl #[.agg #[.int .i64 a0_0, .int .i64 a0_1]] rfl (g2_) ?_; (with_reducible refine (spec_FracOk.calls k a0_0 a0_1 true _ A3.out).mono ?_); rintro e w14 ⟨rfl, hb⟩; refine ⟨_, rfl, ?_⟩; replace BK591 := Aside0.mk (blk_below (g := gb591) (o := .cells #[.int .i64 a0_0, .int .i64 a0_1] 36 (0, 0)) (uf0_ BK591) hb); replace BK592 := Aside0.mk (blk_below (g := gb592) (o := .cells #[.int .i64 a1_0, .int .i64 a1_1] 36 (0, 0)) (uf0_ BK592) hb); replace BK593 := Aside0.mk (blk_below (g := gb593) (o := .cells #[.int .i64 0, .int .i64 0] 36 (0, 0)) (uf0_ BK593) hb); replace HB := Aside0.mk (below_step (spec_PlusOf.calls_q0) hb); (try clear hb); (try clear hk hi); have hnb15 := NB592_593.out; have hnc15 := NB593_592.out; obtain ⟨hcz16_0, hcz16_1, hfz16_0, hfz16_1⟩ := blk2_ BK592) | (go_at_call 63; (with_reducible refine (spec_FracOk.calls k a1_0 a1_1 true _ A5.out).mono ?_); rintro e w17 ⟨rfl, hb⟩; replace BK591 := Aside0.mk (blk_below (g := gb591) (o := .cells #[.int .i64 a0_0, .int .i64 a0_1] 36 (0, 0)) (uf0_ BK591) hb); replace BK592 := Aside0.mk (blk_below (g := gb592) (o := .cells #[.int .i64 a1_0, .int .i64 a1_1] 36 (0, 0)) (uf0_ BK592) hb); replace BK593 := Aside0.mk (blk_below (g := gb593) (o := .cells #[.int .i64 0, .int .i64 0] 36 (0, 0)) (uf0_ BK593) hb); replace HB := Aside0.mk (below_step (spec_PlusOf.calls_q0) hb); (try clear hb); (try clear hk hi); obtain ⟨hcz18_0, hcz18_1, hfz18_0, hfz18_1⟩ := blk2_ BK591; obtain ⟨hcz19_0, hcz19_1, hfz19_0, hfz19_1⟩ := blk2_ BK592) | ((with_reducible refine gate_callee (f := 95) rfl ?_); refine goesL_ (some 31) rfl rfl Try.func95 k_ rfl #[.int .i64 (wrap64 ((wrap64 (a0_0 * a1_1)) + (wrap64 (a1_0 * a0_1)))), .int .i64 (wrap64 (a0_1 * a1_1))] rfl (g2_) ?_; (with_reducible refine (spec_l1Low.calls k (wrap64 ((wrap64 (a0_0 * a1_1)) + (wrap64 (a1_0 * a0_1)))) (wrap64 (a0_1 * a1_1)) t596 t597 t598 _ A7.out).mono ?_); rintro e w20 ⟨rfl, hb⟩; refine ⟨_, rfl, ?_⟩; replace BK591 := Aside0.mk (blk_below (g := gb591) (o := .cells #[.int .i64 a0_0, .int .i64 a0_1] 36 (0, 0)) (uf0_ BK591) hb); replace BK592 := Aside0.mk (blk_below (g := gb592) (o := .cells #[.int .i64 a1_0, .int .i64 a1_1] 36 (0, 0)) (uf0_ BK592) hb); replace BK593 := Aside0.mk (blk_below (g := gb593) (o := .cells #[.int .i64 0, .int .i64 0] 36 (0, 0)) (uf0_ BK593) hb); replace HB := Aside0.mk (below_step (spec_PlusOf.calls_q0) hb); (try clear hb); (try clear hk hi); obtain ⟨hcz21_0, hcz21_1, hfz21_0, hfz21_1⟩ := blk2_ BK593))
   refine bodyPost_ret (results_ct rfl _ _ gb593 36 #[.int .i64 t596, .int .i64 t597] (0, 0) _ rfl (by (with_reducible repeat (first | refine blk_drewN ?_ _ | refine blk_drew ?_ | refine blk_alloc ?_ _)); refine blk_put (cs := #[.int .i64 t596, .int .i64 0]) ?_ 1 _ rfl; (with_reducible repeat (first | refine blk_drewN ?_ _ | refine blk_drew ?_ | refine blk_alloc ?_ _)); refine blk_put (cs := #[.int .i64 0, .int .i64 0]) ?_ 0 _ rfl; (with_reducible repeat (first | refine blk_drewN ?_ _ | refine blk_drew ?_ | refine blk_alloc ?_ _)); exact BK593.out) Try.underlying36 rfl (g0_)) rfl ?_
   exact ⟨g4_, spec_PlusOf.calls_q0⟩
  ·replace c6 := Bool.eq_false_iff.mpr c6
   subst c6
   replace H := ifn_ H
   simp only [Option.some.injEq, Prod.mk.injEq] at H
   obtain ⟨rfl, rfl, rfl⟩ := H
   go_enter Try.func76, Try.ntmps76
   go_wp2_with (first | ((with_reducible refine gate_dst (N := 2) rfl ?_); refine bx_ (N := 2) #[.int .i64 a0_0, .int .i64 a0_1] 36 ?_; intro gb591 hg w22 hbox hb; have BK591 := Aside0.mk (hbox); have GW591 := Aside0.mk ((g15_ : w.heap.size ≤ gb591)); have GE591 := Aside0.mk ((g15_ : w.heap.size ≤ gb591)); replace HB := Aside0.mk (below_step (spec_PlusOf.calls_q0) hb); clear hb hbox hg) | ((with_reducible refine gate_dst (N := 3) rfl ?_); refine bx_ (N := 3) #[.int .i64 a1_0, .int .i64 a1_1] 36 ?_; intro gb592 hg w23 hbox hb; have BK592 := Aside0.mk (hbox); have GW592 := Aside0.mk ((g15_ : w.heap.size ≤ gb592)); have GE592 := Aside0.mk ((g15_ : w.heap.size ≤ gb592)); replace HB := Aside0.mk (below_step (spec_PlusOf.calls_q0) hb); have NB591_592 := Aside0.mk ((g70_ : gb591 ≠ gb592)); have NB592_591 := Aside0.mk ((g71_ : gb592 ≠ gb591)); replace BK591 := Aside0.mk (blk_below (g := gb591) (o := .cells #[.int .i64 a0_0, .int .i64 a0_1] 36 (0, 0)) (uf0_ BK591) hb); clear hb hbox hg) | ((with_reducible refine gate_dst (N := 4) rfl ?_); refine bx_ (N := 4) #[.int .i64 0, .int .i64 0] 36 ?_; intro gb593 hg w24 hbox hb; have BK593 := Aside0.mk (hbox); have GW593 := Aside0.mk ((g15_ : w.heap.size ≤ gb593)); have GE593 := Aside0.mk ((g15_ : w.heap.size ≤ gb593)); replace HB := Aside0.mk (below_step (spec_PlusOf.calls_q0) hb); have NB591_593 := Aside0.mk ((g70_ : gb591 ≠ gb593)); have NB593_591 := Aside0.mk ((g71_ : gb593 ≠ gb591)); replace BK591 := Aside0.mk (blk_below (g := gb591) (o := .cells #[.int .i64 a0_0, .int .i64 a0_1] 36 (0, 0)) (uf0_ BK591) hb); have NB592_593 := Aside0.mk ((g155_ : gb592 ≠ gb593)); have NB593_592 := Aside0.mk ((g156_ : gb593 ≠ gb592)); replace BK592 := Aside0.mk (blk_below (g := gb592) (o := .cells #[.int .i64 a1_0, .int .i64 a1_1] 36 (0, 0)) (uf0_ BK592) hb); clear hb hbox hg; have hnb25 := NB591_592.out; have hnc25 := NB592_591.out; have hnb26 := NB591_593.out; have hnc26 := NB593_591.out; obtain ⟨hcz27_0, hcz27_1, hfz27_0, hfz27_1⟩ := blk2_ BK591) | ((with_reducible refine gate_callee (f := 63) rfl ?_); refine goesL_ (some 7) rfl rfl Try.func63 k_ rfl #[.agg #[.int .i64 a0_0, .int .i64 a0_1]] rfl (g2_) ?_; (with_reducible refine (spec_FracOk.calls k a0_0 a0_1 true _ A3.out).mono ?_); rintro e w28 ⟨rfl, hb⟩; refine ⟨_, rfl, ?_⟩; replace BK591 := Aside0.mk (blk_below (g := gb591) (o := .cells #[.int .i64 a0_0, .int .i64 a0_1] 36 (0, 0)) (uf0_ BK591) hb); replace BK592 := Aside0.mk (blk_below (g := gb592) (o := .cells #[.int .i64 a1_0, .int .i64 a1_1] 36 (0, 0)) (uf0_ BK592) hb); replace BK593 := Aside0.mk (blk_below (g := gb593) (o := .cells #[.int .i64 0, .int .i64 0] 36 (0, 0)) (uf0_ BK593) hb); replace HB := Aside0.mk (below_step (spec_PlusOf.calls_q0) hb); (try clear hb); (try clear hk hi); have hnb29 := NB592_593.out; have hnc29 := NB593_592.out; obtain ⟨hcz30_0, hcz30_1, hfz30_0, hfz30_1⟩ := blk2_ BK592) | (go_at_call 63; (with_reducible refine (spec_FracOk.calls k a1_0 a1_1 false _ A5.out).mono ?_); rintro e w31 ⟨rfl, hb⟩; replace BK591 := Aside0.mk (blk_below (g := gb591) (o := .cells #[.int .i64 a0_0, .int .i64 a0_1] 36 (0, 0)) (uf0_ BK591) hb); replace BK592 := Aside0.mk (blk_below (g := gb592) (o := .cells #[.int .i64 a1_0, .int .i64 a1_1] 36 (0, 0)) (uf0_ BK592) hb); replace BK593 := Aside0.mk (blk_below (g := gb593) (o := .cells #[.int .i64 0, .int .i64 0] 36 (0, 0)) (uf0_ BK593) hb); replace HB := Aside0.mk (below_step (spec_PlusOf.calls_q0) hb); (try clear hb); (try clear hk hi); obtain ⟨hcz32_0, hcz32_1, hfz32_0, hfz32_1⟩ := blk2_ BK593))
   refine bodyPost_ret (results_ct rfl _ _ gb593 36 #[.int .i64 0, .int .i64 0] (0, 0) _ rfl (by (with_reducible repeat (first | refine blk_drewN ?_ _ | refine blk_drew ?_ | refine blk_alloc ?_ _)); refine blk_put (cs := #[.int .i64 0, .int .i64 0]) ?_ 1 _ rfl; (with_reducible repeat (first | refine blk_drewN ?_ _ | refine blk_drew ?_ | refine blk_alloc ?_ _)); refine blk_put (cs := #[.int .i64 0, .int .i64 0]) ?_ 0 _ rfl; (with_reducible repeat (first | refine blk_drewN ?_ _ | refine blk_drew ?_ | refine blk_alloc ?_ _)); exact BK593.out) Try.underlying36 rfl (g0_)) rfl ?_
   exact ⟨g4_, spec_PlusOf.calls_q0⟩
 ·replace c4 := Bool.eq_false_iff.mpr c4
  subst c4
  replace H := ifn_ H
  simp only [Option.some.injEq, Prod.mk.injEq] at H
  obtain ⟨rfl, rfl, rfl⟩ := H
  go_enter Try.func76, Try.ntmps76
  go_wp2_with (first | ((with_reducible refine gate_dst (N := 2) rfl ?_); refine bx_ (N := 2) #[.int .i64 a0_0, .int .i64 a0_1] 36 ?_; intro gb591 hg w33 hbox hb; have BK591 := Aside0.mk (hbox); have GW591 := Aside0.mk ((g15_ : w.heap.size ≤ gb591)); have GE591 := Aside0.mk ((g15_ : w.heap.size ≤ gb591)); replace HB := Aside0.mk (below_step (spec_PlusOf.calls_q0) hb); clear hb hbox hg) | ((with_reducible refine gate_dst (N := 3) rfl ?_); refine bx_ (N := 3) #[.int .i64 a1_0, .int .i64 a1_1] 36 ?_; intro gb592 hg w34 hbox hb; have BK592 := Aside0.mk (hbox); have GW592 := Aside0.mk ((g15_ : w.heap.size ≤ gb592)); have GE592 := Aside0.mk ((g15_ : w.heap.size ≤ gb592)); replace HB := Aside0.mk (below_step (spec_PlusOf.calls_q0) hb); have NB591_592 := Aside0.mk ((g70_ : gb591 ≠ gb592)); have NB592_591 := Aside0.mk ((g71_ : gb592 ≠ gb591)); replace BK591 := Aside0.mk (blk_below (g := gb591) (o := .cells #[.int .i64 a0_0, .int .i64 a0_1] 36 (0, 0)) (uf0_ BK591) hb); clear hb hbox hg) | ((with_reducible refine gate_dst (N := 4) rfl ?_); refine bx_ (N := 4) #[.int .i64 0, .int .i64 0] 36 ?_; intro gb593 hg w35 hbox hb; have BK593 := Aside0.mk (hbox); have GW593 := Aside0.mk ((g15_ : w.heap.size ≤ gb593)); have GE593 := Aside0.mk ((g15_ : w.heap.size ≤ gb593)); replace HB := Aside0.mk (below_step (spec_PlusOf.calls_q0) hb); have NB591_593 := Aside0.mk ((g70_ : gb591 ≠ gb593)); have NB593_591 := Aside0.mk ((g71_ : gb593 ≠ gb591)); replace BK591 := Aside0.mk (blk_below (g := gb591) (o := .cells #[.int .i64 a0_0, .int .i64 a0_1] 36 (0, 0)) (uf0_ BK591) hb); have NB592_593 := Aside0.mk ((g155_ : gb592 ≠ gb593)); have NB593_592 := Aside0.mk ((g156_ : gb593 ≠ gb592)); replace BK592 := Aside0.mk (blk_below (g := gb592) (o := .cells #[.int .i64 a1_0, .int .i64 a1_1] 36 (0, 0)) (uf0_ BK592) hb); clear hb hbox hg; have hnb36 := NB591_592.out; have hnc36 := NB592_591.out; have hnb37 := NB591_593.out; have hnc37 := NB593_591.out; obtain ⟨hcz38_0, hcz38_1, hfz38_0, hfz38_1⟩ := blk2_ BK591) | ((with_reducible refine gate_callee (f := 63) rfl ?_); refine goesL_ (some 7) rfl rfl Try.func63 k_ rfl #[.agg #[.int .i64 a0_0, .int .i64 a0_1]] rfl (g2_) ?_; (with_reducible refine (spec_FracOk.calls k a0_0 a0_1 false _ A3.out).mono ?_); rintro e w39 ⟨rfl, hb⟩; refine ⟨_, rfl, ?_⟩; replace BK591 := Aside0.mk (blk_below (g := gb591) (o := .cells #[.int .i64 a0_0, .int .i64 a0_1] 36 (0, 0)) (uf0_ BK591) hb); replace BK592 := Aside0.mk (blk_below (g := gb592) (o := .cells #[.int .i64 a1_0, .int .i64 a1_1] 36 (0, 0)) (uf0_ BK592) hb); replace BK593 := Aside0.mk (blk_below (g := gb593) (o := .cells #[.int .i64 0, .int .i64 0] 36 (0, 0)) (uf0_ BK593) hb); replace HB := Aside0.mk (below_step (spec_PlusOf.calls_q0) hb); (try clear hb); (try clear hk hi); have hnb40 := NB593_592.out; have hnc40 := NB592_593.out; obtain ⟨hcz41_0, hcz41_1, hfz41_0, hfz41_1⟩ := blk2_ BK593))
  refine bodyPost_ret (results_ct rfl _ _ gb593 36 #[.int .i64 0, .int .i64 0] (0, 0) _ rfl (by (with_reducible repeat (first | refine blk_drewN ?_ _ | refine blk_drew ?_ | refine blk_alloc ?_ _)); refine blk_put (cs := #[.int .i64 0, .int .i64 0]) ?_ 1 _ rfl; (with_reducible repeat (first | refine blk_drewN ?_ _ | refine blk_drew ?_ | refine blk_alloc ?_ _)); refine blk_put (cs := #[.int .i64 0, .int .i64 0]) ?_ 0 _ rfl; (with_reducible repeat (first | refine blk_drewN ?_ _ | refine blk_drew ?_ | refine blk_alloc ?_ _)); exact BK593.out) Try.underlying36 rfl (g0_)) rfl ?_
  exact ⟨g4_, spec_PlusOf.calls_q0⟩
end Go.Proofs.Ytigpmfoagkhaeaa.PU
