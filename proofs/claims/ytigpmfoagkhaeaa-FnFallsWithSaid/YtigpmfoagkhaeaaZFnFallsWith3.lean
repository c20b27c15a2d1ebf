/- FnFallsWith: for every input the law holds. No condition. -/
import Derived.Test.YtigpmfoagkhaeaaZFnFallsWith1
import Derived.Test.YtigpmfoagkhaeaaZFnFallsWith2
import Derived.Below
import Derived.Deep.Draws
import Derived.Deep.AppendLies
import Derived.Maps.AppendAt
import Derived.OwnWalk
import Derived.Laws.BytesArg
import Derived.Laws.MakeOwn
import Derived.Laws.OwnMore
import Derived.Deep.OwnRows
import Derived.Tactics
import Derived.Lib.ConvBytes
import Derived.Laws.Slices
import Derived.WalkKit
import Derived.KernelRfl
import Derived.RowKit3
import Derived.Deep.LoopGhost
import Derived.Deep.QuietTactic
import Derived.BigQuiet
import Derived.WideLaws
import Derived.Deep.DeepCutAuto
import Derived.Deep.CutBlock
import Derived.Deep.RegionHeld3
import Derived.Laws.Rows
import Derived.Lib.AppendStr
import Derived.ArgAppend
import Derived.Laws.IdiomCopy
import Derived.RowKit
import Derived.OrdersHeld
import Derived.Laws.BitsLemmas
import Derived.Laws.StructEq
import Derived.Test.YtigpmfoagkhaeaaProg
namespace Go.Proofs.Ytigpmfoagkhaeaa.PU
open Go.RowKit Go.Proofs.YtigpmfoagkhaeaaW.PrintWords Go.Proofs.YtigpmfoagkhaeaaW.PrintLast Go.Proofs.YtigpmfoagkhaeaaW.PrintMore Go.Proofs.Ytigpmfoagkhaeaa.Qd
attribute [local go_sem] max2_int min2_int max_two min_two max_three min_three max_four min_four   -- for this text's walks alone
set_option linter.unusedVariables false
set_option linter.unusedSimpArgs false
def spec_l20Pays.l0 : Nat → Int → List (S36) → List Int → Int → List Int → Int → Option ((List (S36)) × Int)
 | 0, _, _, _, _, _, _ => none
 | k + 1, x2, x7, x8, x9, x1000, x1001 => if x9 < (x8.length : Int) then (if 0 ≤ x9 then ((spec_l20Rd_pick.f k x1000 x1001 (wrap64 ((wrap64 ((rd x8 x9) * 6)) + 1))).bind fun bt456 => ((spec_l1Low.f k bt456.1 6).bind fun bt458 => ((spec_l20Rd_pick.f k x1000 bt456.2 4).bind fun bt462 => (if bt462.1 = 0 then (if x7.length < 8796093022208 then (spec_l20Pays.l0 k x2 (x7 ++ [(⟨rd x8 x9, 1⟩ : S36)]) x8 (wrap64 (x9 + 1)) x1000 bt462.2) else (none)) else (if bt462.1 = 1 then ((spec_l20Rd_pick.f k x1000 bt462.2 (wrap64 ((rd x8 x9) + 1))).bind fun bt469 => (if x7.length < 8796093022208 then (spec_l20Pays.l0 k x2 (x7 ++ [(⟨bt469.1, 1⟩ : S36)]) x8 (wrap64 (x9 + 1)) x1000 bt469.2) else (none))) else (if x7.length < 8796093022208 then (spec_l20Pays.l0 k x2 (x7 ++ [(⟨bt458.1, bt458.2.1⟩ : S36)]) x8 (wrap64 (x9 + 1)) x1000 bt462.2) else (none))))))) else (none)) else ((spec_l20Rd_odd.f k x1000 x1001 x2).bind fun bt477 => (if bt477.1 = true then (if (x7.length : Int) = 0 then (if x7.length < 8796093022208 then (some ((x7 ++ [(⟨0, 1⟩ : S36)]), bt477.2)) else (none)) else ((spec_l20Rd_pick.f k x1000 bt477.2 2).bind fun bt482 => (if bt482.1 = 0 then (if x7.length < 8796093022208 then (some ((x7 ++ [(⟨0, 1⟩ : S36)]), bt482.2)) else (none)) else ((some (([(⟨0, 0⟩ : S36), (⟨(-1), 1⟩ : S36), (⟨100, 1⟩ : S36)] : List (S36)) : List (S36))).bind fun y487 => ((spec_l20Rd_pick.f k x1000 bt482.2 3).bind fun bt490 => (if 0 ≤ bt490.1 then (if bt490.1 < (y487.length : Int) then (if 0 < (x7.length : Int) then (some ((x7.set (0 : Int).toNat (⟨(rd_T36 y487 bt490.1).f0, (rd_T36 y487 bt490.1).f1⟩ : S36)), bt490.2)) else (none)) else (none)) else (none))))))) else (some (x7, bt477.2))))
def spec_l20Pays.f (k : Nat) (s0_0 : List Int) (s0_1 : Int) (l1_0 : List Int) (l1_1 : List (List Int)) (a2 : Int) : Option ((List (S36)) × Int) := (spec_OwesOf.f k l1_0 l1_1).bind fun t452 => (spec_l20Pays.l0 k a2 (([] : List (S36))) t452 0 s0_0 s0_1)
theorem spec_l20Pays.mono_l : ∀ k, (∀ y0 y1 y2 y3 y4 y5, LeO (spec_l20Pays.l0 k y0 y1 y2 y3 y4 y5) (spec_l20Pays.l0 (k + 1) y0 y1 y2 y3 y4 y5))
 | 0 => fun _ _ _ _ _ _ r h => by simp [spec_l20Pays.l0] at h
 | k + 1 => by
  have ih0 := spec_l20Pays.mono_l k
  ·intro y0 y1 y2 y3 y4 y5
   unfold spec_l20Pays.l0
   repeat' first
   | (with_reducible exact ih0 _ _ _ _ _ _)
   | (with_reducible exact spec_OwesOf.mono _ _ _)
   | (with_reducible exact spec_l1Low.mono _ _ _)
   | (with_reducible exact spec_l20Rd_odd.mono _ _ _ _)
   | (with_reducible exact spec_l20Rd_pick.mono _ _ _ _)
   | (with_reducible exact LeO.refl _)
   | (with_reducible exact LeO.none _)
   | (with_reducible refine LeO.ite ?_ ?_)
   | (with_reducible refine LeO.bind ?_ (fun _ => ?_))
   | exact ih0 _ _ _ _ _ _
   | exact spec_OwesOf.mono _ _ _
   | exact spec_l1Low.mono _ _ _
   | exact spec_l20Rd_odd.mono _ _ _ _
   | exact spec_l20Rd_pick.mono _ _ _ _
   | exact LeO.none _
   | refine LeO.ite ?_ ?_
   | refine LeO.bind ?_ (fun _ => ?_)
theorem spec_l20Pays.mono : ∀ a0 a1 a2 a3 a4 k, LeO (spec_l20Pays.f k a0 a1 a2 a3 a4) (spec_l20Pays.f (k + 1) a0 a1 a2 a3 a4) := by
 intro a0 a1 a2 a3 a4 k
 have ih0 := spec_l20Pays.mono_l k
 unfold spec_l20Pays.f
 repeat' first
   | (with_reducible exact ih0 _ _ _ _ _ _)
   | (with_reducible exact spec_OwesOf.mono _ _ _)
   | (with_reducible exact spec_l1Low.mono _ _ _)
   | (with_reducible exact spec_l20Rd_odd.mono _ _ _ _)
   | (with_reducible exact spec_l20Rd_pick.mono _ _ _ _)
   | (with_reducible exact LeO.refl _)
   | (with_reducible exact LeO.none _)
   | (with_reducible refine LeO.ite ?_ ?_)
   | (with_reducible refine LeO.bind ?_ (fun _ => ?_))
   | exact ih0 _ _ _ _ _ _
   | exact spec_OwesOf.mono _ _ _
   | exact spec_l1Low.mono _ _ _
   | exact spec_l20Rd_odd.mono _ _ _ _
   | exact spec_l20Rd_pick.mono _ _ _ _
   | exact LeO.none _
   | refine LeO.ite ?_ ?_
   | refine LeO.bind ?_ (fun _ => ?_)
theorem spec_l20Pays.calls_q0 {p : Prop} (h : p := by repeat (first | (with_reducible first | exact HI0.out | apply IsS79.alloc | apply IsS79.drewN | apply IsS79.drew | apply IsS79.set_1 | refine IsS79.far ?_ NB0_448.out _ | refine IsS79.far ?_ NB0_461.out _) | exact HI0.out)) : p := h
theorem spec_l20Pays.calls_q1 {p : Prop} (h : p := by repeat (first | (with_reducible first | exact HK.out | apply KeepBut.set_ | apply keep_drewN | apply keep_drew | apply keep_alloc | refine keep_far ?_ GW448.out _ | refine keep_far ?_ GW461.out _) | exact HK.out)) : p := h
theorem spec_l20Pays.calls_q2 {p : Prop} (h : p := by repeat (first | (with_reducible first | exact HB.out | apply below_alloc | apply pw_below_drewN | apply below_drew1 | refine below_set ?_ (IsS79.ge HI0.out) | refine below_set ?_ GE448.out | refine below_set ?_ GE461.out) | exact HB.out)) : p := h
set_option maxHeartbeats 8000000 in
set_option maxRecDepth 100000 in
theorem spec_l20Pays.calls (k : Nat) (g : Nat) (s0_0 : List Int) (s0_1 : Int) (A1_0 : Option Addr) (c1_0 : Nat) (l1_0 : List Int) (A1_1 : Option Addr) (c1_1 : Nat) (l1_1 : List (List Int)) (a2 : Int) (r1 : List (S36)) (r2 : Int) (w0 w : World) (hI : IsS79 w0 w g s0_0 s0_1) (hB : Below w0.heap.size w0 w) (hr1_0 : Kd.C (Kd.int .i64) w A1_0 l1_0.length l1_0) (hc1_0 : l1_0.length ≤ c1_0) (hf1_0 : ∀ ad, A1_0 = some ad → 0 < l1_0.length → ad.block ≠ g) (hr1_1 : ∀ W_, KeepBut w W_ g none → Kd.C (Kd.slice 3 (Kd.int .i64)) W_ A1_1 l1_1.length l1_1) (hc1_1 : l1_1.length ≤ c1_1) (h : spec_l20Pays.f k s0_0 s0_1 l1_0 l1_1 a2 = some (r1, r2)) :
  Calls Try.prog 71 #[.pointer (some ⟨g, 0, none⟩), .agg #[.slice A1_0 l1_0.length c1_0, .slice A1_1 l1_1.length c1_1], .int .i64 a2] w fun e w' => ∃ v0_ : Value, e = .returned (v0_) ∧ Kd.R k36 36 w' w.heap.size (fun _ => True) v0_ r1 ∧ IsS79 w0 w' g s0_0 r2 ∧ Below w0.heap.size w0 w' ∧ KeepBut w w' g none := by
 have hu26 := Try.underlying26
 have hu36 := Try.underlying36
 have HR1_0 := Aside0.mk hr1_0
 have HC1_0 := Aside0.mk hc1_0
 clear hr1_0 hc1_0
 have HR1_1 := Aside0.mk hr1_1
 have HC1_1 := Aside0.mk hc1_1
 clear hr1_1 hc1_1
 have HI0 := Aside0.mk hI
 have HK := Aside0.mk (KeepBut.refl w g none)
 have HL := Aside0.mk hB.size
 clear hI
 have HW0 := Aside0.mk hB.size
 have HB := Aside0.mk hB
 clear hB
 have H : ((spec_OwesOf.f k l1_0 l1_1).bind fun t452 => (spec_l20Pays.l0 k a2 (([] : List (S36))) t452 0 s0_0 s0_1)) = some (r1, r2) := h
 clear h
 obtain ⟨y449, hy449⟩ : ∃ y_ : List (S36), y_ = (([] : List (S36))) := ⟨_, rfl⟩
 replace H : ((spec_OwesOf.f k l1_0 l1_1).bind fun t452 => (spec_l20Pays.l0 k a2 y449 t452 0 s0_0 s0_1)) = some (r1, r2) := by first | (rw [hy449]; with_reducible exact H) | (have H2_ := (Option.bind_some _ _).symm.trans H; rw [hy449]; with_reducible exact H2_) | (have H2_ := (Option.bind_some _ _).symm.trans H; with_reducible exact H2_) | with_reducible exact H | (rw [hy449]; exact H) | exact H
 have Ny449 := Aside0.mk hy449
 clear hy449
 obtain ⟨t452, A4, H⟩ := bind_ H
 have H' := Aside0.mk H
 clear H
 go_enter Try.func71, Try.ntmps71
 go_wp2_with (first | ((with_reducible refine gate_dst (N := 4) rfl ?_); refine bx_ (N := 4) #[.slice A1_0 l1_0.length c1_0, .slice A1_1 l1_1.length c1_1] 26 ?_; intro gb448 hg w5 hbox hb; replace HB := Aside0.mk (below_step (spec_l20Pays.calls_q2) hb); have BK448 := Aside0.mk (hbox); have GW448 := Aside0.mk ((g42_ : w.heap.size ≤ gb448)); have GE448 := Aside0.mk ((Nat.le_trans HW0.out (g42_ : w.heap.size ≤ gb448) : w0.heap.size ≤ gb448)); replace HK := Aside0.mk (KeepBut.trans (spec_l20Pays.calls_q1) (KeepBut.of_below hb g none) (.inl rfl)); have NB0_448 := Aside0.mk ((by rw [hg]; exact Nat.ne_of_lt (IsS79.lt (show IsS79 w0 _ g s0_0 s0_1 from spec_l20Pays.calls_q0)) : g ≠ gb448)); have NB448_0 := Aside0.mk ((by rw [hg]; exact Nat.ne_of_gt (IsS79.lt (show IsS79 w0 _ g s0_0 s0_1 from spec_l20Pays.calls_q0)) : gb448 ≠ g)); replace HI0 := Aside0.mk (IsS79.below (spec_l20Pays.calls_q0) hb); clear hb hbox hg) | ((with_reducible refine gate_dst (N := 12) rfl ?_); refine Kd.R_lit k36 _ 36 ?hg (N := 12) ?hd (xs := ([] : List (S36))) (inner := []) (ok := fun _ => True) (okp := fun _ => True) ?hr ?hp (fun _ hk => hk) trivial (Below.refl _ _) (Nat.le_refl _) (by simp) ?_; (case hd => rfl); (case hg => rfl); (case hr => first | (go_simp; done) | (go_simp; rfl)); (case hp => exact (Reps.none _ _)); intro v450 w6 ho7 hb hg_ hnew_; clear hg_ hnew_; (first | rw [← Ny449.out] at ho7 | (simp only [Int.reduceToNat] at ho7; rw [← Ny449.out] at ho7)); have HO451 := Aside0.mk (Kd.R_lower ho7 (keep_size (w := w) (g := g) (row := none) (spec_l20Pays.calls_q1))); replace BK448 := Aside0.mk (blk_below (g := gb448) (o := .cells #[.slice A1_0 l1_0.length c1_0, .slice A1_1 l1_1.length c1_1] 26 (0, 0)) (uf0_ BK448) hb); replace HK := Aside0.mk (KeepBut.trans (spec_l20Pays.calls_q1) (KeepBut.of_below hb g none) (.inl rfl)); replace HB := Aside0.mk (below_step (spec_l20Pays.calls_q2) hb); replace HI0 := Aside0.mk (IsS79.below (spec_l20Pays.calls_q0) hb); clear hb ho7; have hnb8 := NB448_0.out; have hnc8 := NB0_448.out; obtain ⟨hcz9_0, hcz9_1, hfz9_0, hfz9_1⟩ := blk2_ BK448) | ((with_reducible refine gate_callee (f := 62) rfl ?_); refine goesL_ (some 14) rfl rfl Try.func62 k_ rfl #[.agg #[.slice A1_0 l1_0.length c1_0, .slice A1_1 l1_1.length c1_1]] rfl (g2_) ?_; (with_reducible refine (spec_OwesOf.calls k _ _ l1_0 _ _ l1_1 t452 _ ?side1 ?side2 ?side3 ?side4 A4.out).mono ?_); (case side1 => exact Kd.C_keep 0 HR1_0.out (spec_l20Pays.calls_q1) hf1_0); (case side2 => exact HC1_0.out); (case side3 => exact Kd.C_foot_now HR1_1.out (spec_l20Pays.calls_q1)); (case side4 => exact HC1_1.out); rintro e w10 ⟨v453, rfl, ho0, hb⟩; refine ⟨_, rfl, ?_⟩; replace HO451 := Aside0.mk (Kd.R_below (uf1_ HO451) hb); have HO454 := Aside0.mk (Kd.R_lower ho0 (keep_size (w := w) (g := g) (row := none) (spec_l20Pays.calls_q1))); replace BK448 := Aside0.mk (blk_below (g := gb448) (o := .cells #[.slice A1_0 l1_0.length c1_0, .slice A1_1 l1_1.length c1_1] 26 (0, 0)) (uf0_ BK448) hb); replace HK := Aside0.mk (KeepBut.trans (spec_l20Pays.calls_q1) (KeepBut.of_below hb g none) (.inl rfl)); replace HB := Aside0.mk (below_step (spec_l20Pays.calls_q2) hb); replace HI0 := Aside0.mk (IsS79.below (spec_l20Pays.calls_q0) hb); (try clear hb); (try clear hk hi); (try clear ho0)))
 go_loopg [7, 9] k (fun kq v7 v9 w' => ∃ (x7_1 : List (S36)) (x9_1 : Int) (x1001_1 : Int), v9 = .int .i64 x9_1 ∧ Aside0 (spec_l20Pays.l0 kq a2 x7_1 t452 x9_1 s0_0 x1001_1 = some (r1, r2)) ∧ Aside0 (kq ≤ k) ∧ Aside0 (Kd.R k36 36 w' w.heap.size (fun _ => True) v7 x7_1) ∧ Aside0 (Kd.R (Kd.int .i64) 3 w' w.heap.size (fun _ => True) v453 t452) ∧ Aside0 (w'.heap[gb448]? = some (.cells #[(.slice A1_0 l1_0.length c1_0), (.slice A1_1 l1_1.length c1_1)] 26 (0, 0))) ∧ Aside0 (IsS79 w0 w' g s0_0 x1001_1) ∧ Aside0 (KeepBut w w' g none) ∧ Aside0 (Below w0.heap.size w0 w'))
 case atStart => exact ⟨(y449), (0), (s0_1), (g3_), H', ⟨Nat.le_refl _⟩, ⟨uf1_ HO451⟩, ⟨uf1_ HO454⟩, ⟨uf0_ BK448⟩, ⟨spec_l20Pays.calls_q0⟩, ⟨spec_l20Pays.calls_q1⟩, ⟨spec_l20Pays.calls_q2⟩⟩
 case round =>
  clear H'
  try clear c1
  try clear p2
  try clear c6
  try clear c7
  try clear c8
  try clear hcz9_0
  try clear hcz9_1
  try clear hfz9_0
  try clear hfz9_1
  obtain ⟨x7_1, x9_1, x1001_1, rfl, HA, HK1, HO_7, HO_8, BK448, HI0, HK, HB⟩ := hrel
  cases gk with
  | zero => exact absurd HA.out (by simp [spec_l20Pays.l0])
  | succ k1 =>
   have H := HA.out
   clear HA
   simp only [spec_l20Pays.l0] at H
   by_cases c11 : x9_1 < (t452.length : Int)
   ·rw [if_pos c11] at H
    have c11b0 := decide_eq_true c11
    clear c11
    by_cases c12 : 0 ≤ x9_1
    ·rw [if_pos c12] at H
     have c12b0 := decide_eq_true c12
     clear c12
     replace H := Option.bind_eq_some_iff.mp H
     obtain ⟨⟨t456, t457⟩, A130, H⟩ := H
     replace H : ((spec_l1Low.f k1 t456 6).bind fun bt458 => ((spec_l20Rd_pick.f k1 s0_0 t457 4).bind fun bt462 => (if bt462.1 = 0 then (if x7_1.length < 8796093022208 then (spec_l20Pays.l0 k1 a2 (x7_1 ++ [(⟨rd t452 x9_1, 1⟩ : S36)]) t452 (wrap64 (x9_1 + 1)) s0_0 bt462.2) else (none)) else (if bt462.1 = 1 then ((spec_l20Rd_pick.f k1 s0_0 bt462.2 (wrap64 ((rd t452 x9_1) + 1))).bind fun bt469 => (if x7_1.length < 8796093022208 then (spec_l20Pays.l0 k1 a2 (x7_1 ++ [(⟨bt469.1, 1⟩ : S36)]) t452 (wrap64 (x9_1 + 1)) s0_0 bt469.2) else (none))) else (if x7_1.length < 8796093022208 then (spec_l20Pays.l0 k1 a2 (x7_1 ++ [(⟨bt458.1, bt458.2.1⟩ : S36)]) t452 (wrap64 (x9_1 + 1)) s0_0 bt462.2) else (none)))))) = some (r1, r2) := H
     have A13 := Aside0.mk A130
     clear A130
     replace H := Option.bind_eq_some_iff.mp H
     obtain ⟨⟨t458, t459, t460⟩, A140, H⟩ := H
     replace H : ((spec_l20Rd_pick.f k1 s0_0 t457 4).bind fun bt462 => (if bt462.1 = 0 then (if x7_1.length < 8796093022208 then (spec_l20Pays.l0 k1 a2 (x7_1 ++ [(⟨rd t452 x9_1, 1⟩ : S36)]) t452 (wrap64 (x9_1 + 1)) s0_0 bt462.2) else (none)) else (if bt462.1 = 1 then ((spec_l20Rd_pick.f k1 s0_0 bt462.2 (wrap64 ((rd t452 x9_1) + 1))).bind fun bt469 => (if x7_1.length < 8796093022208 then (spec_l20Pays.l0 k1 a2 (x7_1 ++ [(⟨bt469.1, 1⟩ : S36)]) t452 (wrap64 (x9_1 + 1)) s0_0 bt469.2) else (none))) else (if x7_1.length < 8796093022208 then (spec_l20Pays.l0 k1 a2 (x7_1 ++ [(⟨t458, t459⟩ : S36)]) t452 (wrap64 (x9_1 + 1)) s0_0 bt462.2) else (none))))) = some (r1, r2) := H
     have A14 := Aside0.mk A140
     clear A140
     replace H := Option.bind_eq_some_iff.mp H
     obtain ⟨⟨t462, t463⟩, A150, H⟩ := H
     replace H : (if t462 = 0 then (if x7_1.length < 8796093022208 then (spec_l20Pays.l0 k1 a2 (x7_1 ++ [(⟨rd t452 x9_1, 1⟩ : S36)]) t452 (wrap64 (x9_1 + 1)) s0_0 t463) else (none)) else (if t462 = 1 then ((spec_l20Rd_pick.f k1 s0_0 t463 (wrap64 ((rd t452 x9_1) + 1))).bind fun bt469 => (if x7_1.length < 8796093022208 then (spec_l20Pays.l0 k1 a2 (x7_1 ++ [(⟨bt469.1, 1⟩ : S36)]) t452 (wrap64 (x9_1 + 1)) s0_0 bt469.2) else (none))) else (if x7_1.length < 8796093022208 then (spec_l20Pays.l0 k1 a2 (x7_1 ++ [(⟨t458, t459⟩ : S36)]) t452 (wrap64 (x9_1 + 1)) s0_0 t463) else (none)))) = some (r1, r2) := H
     have A15 := Aside0.mk A150
     clear A150
     by_cases c16 : t462 = 0
     ·rw [if_pos c16] at H
      have c16b0 : (t462 == 0) = true := beq_iff_eq.mpr c16
      have c16b1 : (t462 != 0) = false := bne_eq_false_iff_eq.mpr c16
      clear c16
      by_cases c17 : x7_1.length < 8796093022208
      ·rw [if_pos c17] at H
       have LMc17 := Aside0.mk c17
       clear c17
       obtain ⟨y465, hy465⟩ : ∃ y_ : List (S36), y_ = (x7_1 ++ [(⟨rd t452 x9_1, 1⟩ : S36)]) := ⟨_, rfl⟩
       replace H : (spec_l20Pays.l0 k1 a2 y465 t452 (wrap64 (x9_1 + 1)) s0_0 t463) = some (r1, r2) := by first | (rw [hy465]; with_reducible exact H) | (have H2_ := (Option.bind_some _ _).symm.trans H; rw [hy465]; with_reducible exact H2_) | (have H2_ := (Option.bind_some _ _).symm.trans H; with_reducible exact H2_) | with_reducible exact H | (rw [hy465]; exact H) | exact H
       have Ny465 := Aside0.mk hy465
       clear hy465
       have H' := Aside0.mk H
       clear H
       obtain ⟨Ao18, co18, eo18⟩ := Kd.R_slice HO_8.out
       subst eo18
       have p455 : 0 ≤ (x9_1 : Int) := of_decide_eq_true (g1_)
       have q455 : x9_1 < (t452.length : Int) := of_decide_eq_true (g1_)
       obtain ⟨ad455, e455, hx455_0⟩ := Kd.at_int (Kd.R_reads' HO_8.out).2.2 x9_1 p455 q455
       cases e455
       replace p455 := eq_true p455
       replace q455 := eq_true q455
       go_wp2_with (first | ((with_reducible refine gate_callee (f := 87) rfl ?_); refine goesL_ (some 29) rfl rfl Try.func87 k_ rfl #[.pointer (some ⟨g, 0, none⟩), .int .i64 (wrap64 ((wrap64 ((rd t452 x9_1) * 6)) + 1))] rfl (g2_) ?_; (with_reducible refine (spec_l20Rd_pick.calls k1 g s0_0 x1001_1 (wrap64 ((wrap64 ((rd t452 x9_1) * 6)) + 1)) t456 t457 w0 _ ?side1 ?side2 A13.out).mono ?_); (case side1 => exact spec_l20Pays.calls_q0); (case side2 => exact spec_l20Pays.calls_q2); rintro e w19 ⟨rfl, hi, hb, hk⟩; refine ⟨_, rfl, ?_⟩; replace HO_7 := Aside0.mk (Kd.R_mono (Kd.R_keep (IsS79.apart (show IsS79 w0 _ g s0_0 x1001_1 from spec_l20Pays.calls_q0) (uf1_ HO_7) (by decide)) hk (fun _ h => h.2)) (fun _ h => h.1)); replace HO_8 := Aside0.mk (Kd.R_mono (Kd.R_keep (IsS79.apart (show IsS79 w0 _ g s0_0 x1001_1 from spec_l20Pays.calls_q0) (uf1_ HO_8) (by decide)) hk (fun _ h => h.2)) (fun _ h => h.1)); replace BK448 := Aside0.mk (KeepBut.blk hk (g' := gb448) (o := .cells #[.slice A1_0 l1_0.length c1_0, .slice A1_1 l1_1.length c1_1] 26 (0, 0)) (uf0_ BK448) NB448_0.out (by simp)); replace HK := Aside0.mk (KeepBut.trans (spec_l20Pays.calls_q1) hk (.inl rfl)); replace HB := Aside0.mk (hb); replace HI0 := Aside0.mk (hi); (try clear hb); (try clear hk hi)) | ((with_reducible refine gate_callee (f := 95) rfl ?_); refine goesL_ (some 30) rfl rfl Try.func95 k_ rfl #[.int .i64 t456, .int .i64 6] rfl (g2_) ?_; (with_reducible refine (spec_l1Low.calls k1 t456 6 t458 t459 t460 _ A14.out).mono ?_); rintro e w20 ⟨rfl, hb⟩; refine ⟨_, rfl, ?_⟩; replace HO_7 := Aside0.mk (Kd.R_below (uf1_ HO_7) hb); replace HO_8 := Aside0.mk (Kd.R_below (uf1_ HO_8) hb); replace BK448 := Aside0.mk (blk_below (g := gb448) (o := .cells #[.slice A1_0 l1_0.length c1_0, .slice A1_1 l1_1.length c1_1] 26 (0, 0)) (uf0_ BK448) hb); replace HK := Aside0.mk (KeepBut.trans (spec_l20Pays.calls_q1) (KeepBut.of_below hb g none) (.inl rfl)); replace HB := Aside0.mk (below_step (spec_l20Pays.calls_q2) hb); replace HI0 := Aside0.mk (IsS79.below (spec_l20Pays.calls_q0) hb); (try clear hb); (try clear hk hi)) | ((with_reducible refine gate_dst (N := 10) rfl ?_); refine bx_ (N := 10) #[.int .i64 0, .int .i64 0] 36 ?_; intro gb461 hg w21 hbox hb; replace HO_7 := Aside0.mk (Kd.R_below (Kd.R_elderB (uf1_ HO_7) gb461 (Nat.le_of_eq hg.symm)) hb); replace HO_8 := Aside0.mk (Kd.R_below (uf1_ HO_8) hb); replace HB := Aside0.mk (below_step (spec_l20Pays.calls_q2) hb); have BK461 := Aside0.mk (hbox); have GW461 := Aside0.mk ((g42_ : w.heap.size ≤ gb461)); have GE461 := Aside0.mk ((Nat.le_trans HW0.out (g42_ : w.heap.size ≤ gb461) : w0.heap.size ≤ gb461)); replace HK := Aside0.mk (KeepBut.trans (spec_l20Pays.calls_q1) (KeepBut.of_below hb g none) (.inl rfl)); have NB448_461 := Aside0.mk ((g147_ : gb448 ≠ gb461)); have NB461_448 := Aside0.mk ((g148_ : gb461 ≠ gb448)); replace BK448 := Aside0.mk (blk_below (g := gb448) (o := .cells #[.slice A1_0 l1_0.length c1_0, .slice A1_1 l1_1.length c1_1] 26 (0, 0)) (uf0_ BK448) hb); have NB0_461 := Aside0.mk ((by rw [hg]; exact Nat.ne_of_lt (IsS79.lt (show IsS79 w0 _ g s0_0 t457 from spec_l20Pays.calls_q0)) : g ≠ gb461)); have NB461_0 := Aside0.mk ((by rw [hg]; exact Nat.ne_of_gt (IsS79.lt (show IsS79 w0 _ g s0_0 t457 from spec_l20Pays.calls_q0)) : gb461 ≠ g)); replace HI0 := Aside0.mk (IsS79.below (spec_l20Pays.calls_q0) hb); clear hb hbox hg; have hnb22 := NB461_448.out; have hnc22 := NB448_461.out; have hnb23 := NB461_0.out; have hnc23 := NB0_461.out; obtain ⟨hcz24_0, hcz24_1, hfz24_0, hfz24_1⟩ := blk2_ BK461) | ((with_reducible refine gate_callee (f := 87) rfl ?_); refine goesL_ (some 34) rfl rfl Try.func87 k_ rfl #[.pointer (some ⟨g, 0, none⟩), .int .i64 4] rfl (g2_) ?_; (with_reducible refine (spec_l20Rd_pick.calls k1 g s0_0 t457 4 t462 t463 w0 _ ?side1 ?side2 A15.out).mono ?_); (case side1 => exact spec_l20Pays.calls_q0); (case side2 => exact spec_l20Pays.calls_q2); rintro e w25 ⟨rfl, hi, hb, hk⟩; refine ⟨_, rfl, ?_⟩; replace HO_7 := Aside0.mk (Kd.R_mono (Kd.R_keep (IsS79.apart (show IsS79 w0 _ g s0_0 t457 from spec_l20Pays.calls_q0) (g149_) (by decide)) hk (fun _ h => h.2)) (fun _ h => h.1)); replace HO_8 := Aside0.mk (Kd.R_mono (Kd.R_keep (IsS79.apart (show IsS79 w0 _ g s0_0 t457 from spec_l20Pays.calls_q0) (g150_) (by decide)) hk (fun _ h => h.2)) (fun _ h => h.1)); replace BK448 := Aside0.mk (KeepBut.blk hk (g' := gb448) (o := .cells #[.slice A1_0 l1_0.length c1_0, .slice A1_1 l1_1.length c1_1] 26 (0, 0)) (g83_) NB448_0.out (by simp)); replace BK461 := Aside0.mk (KeepBut.blk hk (g' := gb461) (o := .cells #[.int .i64 t458, .int .i64 t459] 36 (0, 0)) (g151_) NB461_0.out (by simp)); replace HK := Aside0.mk (KeepBut.trans (spec_l20Pays.calls_q1) hk (.inl rfl)); replace HB := Aside0.mk (hb); replace HI0 := Aside0.mk (hi); (try clear hb); (try clear hk hi); have p464 : 0 ≤ (x9_1 : Int) := of_decide_eq_true (g1_); have q464 : x9_1 < (t452.length : Int) := of_decide_eq_true (g1_); obtain ⟨ad464, e464, hx464_0⟩ := Kd.at_int (Kd.R_reads' HO_8.out).2.2 x9_1 p464 q464; obtain rfl : ad455 = ad464 := (by injection e464); replace p464 := eq_true p464; replace q464 := eq_true q464; obtain ⟨hcz26_0, hcz26_1, hfz26_0, hfz26_1⟩ := blk2_ BK461) | ((with_reducible refine gate_builtin (b := .append) (xs := #[.tmp 52, .tmp 54]) rfl ?_); at_builtin; refine Kd.R_append k36 w.heap.size rfl (.tmp 52) (.tmp 54) 28 36 (.agg #[(.int .i64 0), (.int .i64 0)]) 16 rfl Try.underlying28 info36 rfl (by decide) (by omega) u7 x7_1 (⟨rd t452 x9_1, 1⟩ : S36) [.int .i64 (rd t452 x9_1), .int .i64 1] (fun k_ => k_ ≠ gb461) (fun _ => False) rfl (g67_) ?aP (fun _ hk => hk.elim) ?aF ?aO (Below.refl _ _) ?aS ?aL ?_; (case aP => exact k36_mkM _ _ _ (⟨rd t452 x9_1, 1⟩ : S36)); (case aF => exact (fun k_ hk => Kd.freshB (g := gb461) (o := .cells #[.int .i64 (rd t452 x9_1), .int .i64 1] 36 (0, 0)) (by (with_reducible repeat (first | refine blk_drewN ?_ _ | refine blk_drew ?_ | refine blk_alloc ?_ _)); refine blk_put (cs := #[.int .i64 (rd t452 x9_1), .int .i64 t459]) ?_ 1 _ rfl; (with_reducible repeat (first | refine blk_drewN ?_ _ | refine blk_drew ?_ | refine blk_alloc ?_ _)); refine blk_put (cs := #[.int .i64 t458, .int .i64 t459]) ?_ 0 _ rfl; (with_reducible repeat (first | refine blk_drewN ?_ _ | refine blk_drew ?_ | refine blk_alloc ?_ _)); exact BK461.out) k_ hk)); (case aO => exact (by (with_reducible repeat (first | apply Kd.R_alloc | apply Kd.R_drewN | apply Kd.R_drew)); exact Kd.R_mono (Kd.R_far (p := ⟨gb461, 1, none⟩) (Kd.R_far (p := ⟨gb461, 0, none⟩) (Kd.R_mono HO_7.out (fun k_ hk => (⟨hk, hk.2⟩ : _ ∧ k_ ≠ gb461))) (fun _ hk => hk.2) (.int .i64 (rd t452 x9_1))) (fun _ hk => hk.2) (.int .i64 1)) (fun _ hk => hk.1.2))); (case aS => exact (keep_size (w := w) (g := g) (row := none) (spec_l20Pays.calls_q1))); (case aL => have := LMc17.out; omega); intro v466 w27 ho hb hg hat; rw [← Ny465.out] at ho; replace HO_8 := Aside0.mk (Kd.R_over' (by (with_reducible repeat (first | apply Kd.R_alloc | apply Kd.R_drewN | apply Kd.R_drew)); exact (Kd.R_mono (Kd.R_far (p := ⟨gb461, 1, none⟩) (Kd.R_far (p := ⟨gb461, 0, none⟩) (Kd.R_types HO_8.out BK461.out (by decide)) (fun _ hk => hk.2) (.int .i64 (rd t452 x9_1))) (fun _ hk => hk.2) (.int .i64 1)) (fun _ h_ => h_.1))) (Kd.R_typed (by (with_reducible repeat (first | apply Kd.R_alloc | apply Kd.R_drewN | apply Kd.R_drew)); exact (Kd.R_mono (Kd.R_far (p := ⟨gb461, 1, none⟩) (Kd.R_far (p := ⟨gb461, 0, none⟩) (Kd.R_mono HO_7.out (fun k_ hk => (⟨hk, hk.2⟩ : _ ∧ k_ ≠ gb461))) (fun _ hk => hk.2) (.int .i64 (rd t452 x9_1))) (fun _ hk => hk.2) (.int .i64 1)) (fun _ h_ => h_.1)))) (by decide) hg); replace BK448 := Aside0.mk (blk_grown (g := gb448) (o := .cells #[.slice A1_0 l1_0.length c1_0, .slice A1_1 l1_1.length c1_1] 26 (0, 0)) (g83_) hg (Kd.R_ne HO_7.out BK448.out (by decide))); replace BK461 := Aside0.mk (blk_grown (g := gb461) (o := .cells #[.int .i64 (rd t452 x9_1), .int .i64 1] 36 (0, 0)) (by (with_reducible repeat (first | refine blk_drewN ?_ _ | refine blk_drew ?_ | refine blk_alloc ?_ _)); refine blk_put (cs := #[.int .i64 (rd t452 x9_1), .int .i64 t459]) ?_ 1 _ rfl; (with_reducible repeat (first | refine blk_drewN ?_ _ | refine blk_drew ?_ | refine blk_alloc ?_ _)); refine blk_put (cs := #[.int .i64 t458, .int .i64 t459]) ?_ 0 _ rfl; (with_reducible repeat (first | refine blk_drewN ?_ _ | refine blk_drew ?_ | refine blk_alloc ?_ _)); exact BK461.out) hg (Kd.R_away HO_7.out (fun _ hk => hk.2))); replace HB := Aside0.mk (below_weaken (spec_l20Pays.calls_q2) HL.out hb); replace HI0 := Aside0.mk (IsS79.grown (w0 := w0) (f0 := s0_0) (f1 := t463) (spec_l20Pays.calls_q0) hg (IsS79.own_ne HI0.out HO_7.out (by decide))); replace HK := Aside0.mk (KeepBut.trans (spec_l20Pays.calls_q1) (KeepBut.of_grown hg g) (Kd.R_base2 HO_7.out)); have HO467 := Aside0.mk (ho); clear HO_7; clear ho hb hg hat))
       go_roundg k1
       case measure => have := HK1.out; omega
       case rel => exact ⟨(y465), (wrap64 (x9_1 + 1)), (t463), (g3_), H', ⟨g9_⟩, ⟨by (with_reducible repeat (first | apply Kd.R_alloc | apply Kd.R_drewN | apply Kd.R_drew)); exact Kd.R_mono HO467.out (fun _ hk => trivial)⟩, ⟨uf1_ HO_8⟩, ⟨uf0_ BK448⟩, ⟨spec_l20Pays.calls_q0⟩, ⟨spec_l20Pays.calls_q1⟩, ⟨spec_l20Pays.calls_q2⟩⟩
      ·rw [if_neg c17] at H
       exact absurd H (by simp)
     ·rw [if_neg c16] at H
      have c16b0 : (t462 == 0) = false := beq_eq_false_iff_ne.mpr c16
      have c16b1 : (t462 != 0) = true := bne_iff_ne.mpr c16
      by_cases c28 : t462 = 1
      ·rw [if_pos c28] at H
       have c28b0 : (t462 == 1) = true := beq_iff_eq.mpr c28
       have c28b1 : (t462 != 1) = false := bne_eq_false_iff_eq.mpr c28
       clear c28
       replace H := Option.bind_eq_some_iff.mp H
       obtain ⟨⟨t469, t470⟩, A290, H⟩ := H
       replace H : (if x7_1.length < 8796093022208 then (spec_l20Pays.l0 k1 a2 (x7_1 ++ [(⟨t469, 1⟩ : S36)]) t452 (wrap64 (x9_1 + 1)) s0_0 t470) else (none)) = some (r1, r2) := H
       have A29 := Aside0.mk A290
       clear A290
       by_cases c30 : x7_1.length < 8796093022208
       ·rw [if_pos c30] at H
        have LMc30 := Aside0.mk c30
        clear c30
        obtain ⟨y471, hy471⟩ : ∃ y_ : List (S36), y_ = (x7_1 ++ [(⟨t469, 1⟩ : S36)]) := ⟨_, rfl⟩
        replace H : (spec_l20Pays.l0 k1 a2 y471 t452 (wrap64 (x9_1 + 1)) s0_0 t470) = some (r1, r2) := by first | (rw [hy471]; with_reducible exact H) | (have H2_ := (Option.bind_some _ _).symm.trans H; rw [hy471]; with_reducible exact H2_) | (have H2_ := (Option.bind_some _ _).symm.trans H; with_reducible exact H2_) | with_reducible exact H | (rw [hy471]; exact H) | exact H
        have Ny471 := Aside0.mk hy471
        clear hy471
        have H' := Aside0.mk H
        clear H
        obtain ⟨Ao31, co31, eo31⟩ := Kd.R_slice HO_8.out
        subst eo31
        have p455 : 0 ≤ (x9_1 : Int) := of_decide_eq_true (g1_)
        have q455 : x9_1 < (t452.length : Int) := of_decide_eq_true (g1_)
        obtain ⟨ad455, e455, hx455_0⟩ := Kd.at_int (Kd.R_reads' HO_8.out).2.2 x9_1 p455 q455
        cases e455
        replace p455 := eq_true p455
        replace q455 := eq_true q455
        go_wp2_with (first | ((with_reducible refine gate_callee (f := 87) rfl ?_); refine goesL_ (some 29) rfl rfl Try.func87 k_ rfl #[.pointer (some ⟨g, 0, none⟩), .int .i64 (wrap64 ((wrap64 ((rd t452 x9_1) * 6)) + 1))] rfl (g2_) ?_; (with_reducible refine (spec_l20Rd_pick.calls k1 g s0_0 x1001_1 (wrap64 ((wrap64 ((rd t452 x9_1) * 6)) + 1)) t456 t457 w0 _ ?side1 ?side2 A13.out).mono ?_); (case side1 => exact spec_l20Pays.calls_q0); (case side2 => exact spec_l20Pays.calls_q2); rintro e w32 ⟨rfl, hi, hb, hk⟩; refine ⟨_, rfl, ?_⟩; replace HO_7 := Aside0.mk (Kd.R_mono (Kd.R_keep (IsS79.apart (show IsS79 w0 _ g s0_0 x1001_1 from spec_l20Pays.calls_q0) (uf1_ HO_7) (by decide)) hk (fun _ h => h.2)) (fun _ h => h.1)); replace HO_8 := Aside0.mk (Kd.R_mono (Kd.R_keep (IsS79.apart (show IsS79 w0 _ g s0_0 x1001_1 from spec_l20Pays.calls_q0) (uf1_ HO_8) (by decide)) hk (fun _ h => h.2)) (fun _ h => h.1)); replace BK448 := Aside0.mk (KeepBut.blk hk (g' := gb448) (o := .cells #[.slice A1_0 l1_0.length c1_0, .slice A1_1 l1_1.length c1_1] 26 (0, 0)) (uf0_ BK448) NB448_0.out (by simp)); replace HK := Aside0.mk (KeepBut.trans (spec_l20Pays.calls_q1) hk (.inl rfl)); replace HB := Aside0.mk (hb); replace HI0 := Aside0.mk (hi); (try clear hb); (try clear hk hi)) | ((with_reducible refine gate_callee (f := 95) rfl ?_); refine goesL_ (some 30) rfl rfl Try.func95 k_ rfl #[.int .i64 t456, .int .i64 6] rfl (g2_) ?_; (with_reducible refine (spec_l1Low.calls k1 t456 6 t458 t459 t460 _ A14.out).mono ?_); rintro e w33 ⟨rfl, hb⟩; refine ⟨_, rfl, ?_⟩; replace HO_7 := Aside0.mk (Kd.R_below (uf1_ HO_7) hb); replace HO_8 := Aside0.mk (Kd.R_below (uf1_ HO_8) hb); replace BK448 := Aside0.mk (blk_below (g := gb448) (o := .cells #[.slice A1_0 l1_0.length c1_0, .slice A1_1 l1_1.length c1_1] 26 (0, 0)) (uf0_ BK448) hb); replace HK := Aside0.mk (KeepBut.trans (spec_l20Pays.calls_q1) (KeepBut.of_below hb g none) (.inl rfl)); replace HB := Aside0.mk (below_step (spec_l20Pays.calls_q2) hb); replace HI0 := Aside0.mk (IsS79.below (spec_l20Pays.calls_q0) hb); (try clear hb); (try clear hk hi)) | ((with_reducible refine gate_dst (N := 10) rfl ?_); refine bx_ (N := 10) #[.int .i64 0, .int .i64 0] 36 ?_; intro gb461 hg w34 hbox hb; replace HO_7 := Aside0.mk (Kd.R_below (Kd.R_elderB (uf1_ HO_7) gb461 (Nat.le_of_eq hg.symm)) hb); replace HO_8 := Aside0.mk (Kd.R_below (uf1_ HO_8) hb); replace HB := Aside0.mk (below_step (spec_l20Pays.calls_q2) hb); have BK461 := Aside0.mk (hbox); have GW461 := Aside0.mk ((g42_ : w.heap.size ≤ gb461)); have GE461 := Aside0.mk ((Nat.le_trans HW0.out (g42_ : w.heap.size ≤ gb461) : w0.heap.size ≤ gb461)); replace HK := Aside0.mk (KeepBut.trans (spec_l20Pays.calls_q1) (KeepBut.of_below hb g none) (.inl rfl)); have NB448_461 := Aside0.mk ((g147_ : gb448 ≠ gb461)); have NB461_448 := Aside0.mk ((g148_ : gb461 ≠ gb448)); replace BK448 := Aside0.mk (blk_below (g := gb448) (o := .cells #[.slice A1_0 l1_0.length c1_0, .slice A1_1 l1_1.length c1_1] 26 (0, 0)) (uf0_ BK448) hb); have NB0_461 := Aside0.mk ((by rw [hg]; exact Nat.ne_of_lt (IsS79.lt (show IsS79 w0 _ g s0_0 t457 from spec_l20Pays.calls_q0)) : g ≠ gb461)); have NB461_0 := Aside0.mk ((by rw [hg]; exact Nat.ne_of_gt (IsS79.lt (show IsS79 w0 _ g s0_0 t457 from spec_l20Pays.calls_q0)) : gb461 ≠ g)); replace HI0 := Aside0.mk (IsS79.below (spec_l20Pays.calls_q0) hb); clear hb hbox hg; have hnb35 := NB461_448.out; have hnc35 := NB448_461.out; have hnb36 := NB461_0.out; have hnc36 := NB0_461.out; obtain ⟨hcz37_0, hcz37_1, hfz37_0, hfz37_1⟩ := blk2_ BK461) | ((with_reducible refine gate_callee (f := 87) rfl ?_); refine goesL_ (some 34) rfl rfl Try.func87 k_ rfl #[.pointer (some ⟨g, 0, none⟩), .int .i64 4] rfl (g2_) ?_; (with_reducible refine (spec_l20Rd_pick.calls k1 g s0_0 t457 4 t462 t463 w0 _ ?side1 ?side2 A15.out).mono ?_); (case side1 => exact spec_l20Pays.calls_q0); (case side2 => exact spec_l20Pays.calls_q2); rintro e w38 ⟨rfl, hi, hb, hk⟩; refine ⟨_, rfl, ?_⟩; replace HO_7 := Aside0.mk (Kd.R_mono (Kd.R_keep (IsS79.apart (show IsS79 w0 _ g s0_0 t457 from spec_l20Pays.calls_q0) (g149_) (by decide)) hk (fun _ h => h.2)) (fun _ h => h.1)); replace HO_8 := Aside0.mk (Kd.R_mono (Kd.R_keep (IsS79.apart (show IsS79 w0 _ g s0_0 t457 from spec_l20Pays.calls_q0) (g150_) (by decide)) hk (fun _ h => h.2)) (fun _ h => h.1)); replace BK448 := Aside0.mk (KeepBut.blk hk (g' := gb448) (o := .cells #[.slice A1_0 l1_0.length c1_0, .slice A1_1 l1_1.length c1_1] 26 (0, 0)) (g83_) NB448_0.out (by simp)); replace BK461 := Aside0.mk (KeepBut.blk hk (g' := gb461) (o := .cells #[.int .i64 t458, .int .i64 t459] 36 (0, 0)) (g151_) NB461_0.out (by simp)); replace HK := Aside0.mk (KeepBut.trans (spec_l20Pays.calls_q1) hk (.inl rfl)); replace HB := Aside0.mk (hb); replace HI0 := Aside0.mk (hi); (try clear hb); (try clear hk hi); have p468 : 0 ≤ (x9_1 : Int) := of_decide_eq_true (g1_); have q468 : x9_1 < (t452.length : Int) := of_decide_eq_true (g1_); obtain ⟨ad468, e468, hx468_0⟩ := Kd.at_int (Kd.R_reads' HO_8.out).2.2 x9_1 p468 q468; obtain rfl : ad455 = ad468 := (by injection e468); replace p468 := eq_true p468; replace q468 := eq_true q468) | ((with_reducible refine gate_callee (f := 87) rfl ?_); refine goesL_ (some 50) rfl rfl Try.func87 k_ rfl #[.pointer (some ⟨g, 0, none⟩), .int .i64 (wrap64 ((rd t452 x9_1) + 1))] rfl (g2_) ?_; (with_reducible refine (spec_l20Rd_pick.calls k1 g s0_0 t463 (wrap64 ((rd t452 x9_1) + 1)) t469 t470 w0 _ ?side1 ?side2 A29.out).mono ?_); (case side1 => exact spec_l20Pays.calls_q0); (case side2 => exact spec_l20Pays.calls_q2); rintro e w39 ⟨rfl, hi, hb, hk⟩; refine ⟨_, rfl, ?_⟩; replace HO_7 := Aside0.mk (Kd.R_mono (Kd.R_keep (IsS79.apart (show IsS79 w0 _ g s0_0 t463 from spec_l20Pays.calls_q0) (uf1_ HO_7) (by decide)) hk (fun _ h => h.2)) (fun _ h => h.1)); replace HO_8 := Aside0.mk (Kd.R_mono (Kd.R_keep (IsS79.apart (show IsS79 w0 _ g s0_0 t463 from spec_l20Pays.calls_q0) (uf1_ HO_8) (by decide)) hk (fun _ h => h.2)) (fun _ h => h.1)); replace BK448 := Aside0.mk (KeepBut.blk hk (g' := gb448) (o := .cells #[.slice A1_0 l1_0.length c1_0, .slice A1_1 l1_1.length c1_1] 26 (0, 0)) (uf0_ BK448) NB448_0.out (by simp)); replace BK461 := Aside0.mk (KeepBut.blk hk (g' := gb461) (o := .cells #[.int .i64 t458, .int .i64 t459] 36 (0, 0)) (uf0_ BK461) NB461_0.out (by simp)); replace HK := Aside0.mk (KeepBut.trans (spec_l20Pays.calls_q1) hk (.inl rfl)); replace HB := Aside0.mk (hb); replace HI0 := Aside0.mk (hi); (try clear hb); (try clear hk hi); obtain ⟨hcz40_0, hcz40_1, hfz40_0, hfz40_1⟩ := blk2_ BK461) | ((with_reducible refine gate_builtin (b := .append) (xs := #[.tmp 52, .tmp 54]) rfl ?_); at_builtin; refine Kd.R_append k36 w.heap.size rfl (.tmp 52) (.tmp 54) 28 36 (.agg #[(.int .i64 0), (.int .i64 0)]) 16 rfl Try.underlying28 info36 rfl (by decide) (by omega) u7 x7_1 (⟨t469, 1⟩ : S36) [.int .i64 t469, .int .i64 1] (fun k_ => k_ ≠ gb461) (fun _ => False) rfl (g67_) ?aP (fun _ hk => hk.elim) ?aF ?aO (Below.refl _ _) ?aS ?aL ?_; (case aP => exact k36_mkM _ _ _ (⟨t469, 1⟩ : S36)); (case aF => exact (fun k_ hk => Kd.freshB (g := gb461) (o := .cells #[.int .i64 t469, .int .i64 1] 36 (0, 0)) (by (with_reducible repeat (first | refine blk_drewN ?_ _ | refine blk_drew ?_ | refine blk_alloc ?_ _)); refine blk_put (cs := #[.int .i64 t469, .int .i64 t459]) ?_ 1 _ rfl; (with_reducible repeat (first | refine blk_drewN ?_ _ | refine blk_drew ?_ | refine blk_alloc ?_ _)); refine blk_put (cs := #[.int .i64 t458, .int .i64 t459]) ?_ 0 _ rfl; (with_reducible repeat (first | refine blk_drewN ?_ _ | refine blk_drew ?_ | refine blk_alloc ?_ _)); exact BK461.out) k_ hk)); (case aO => exact (by (with_reducible repeat (first | apply Kd.R_alloc | apply Kd.R_drewN | apply Kd.R_drew)); exact Kd.R_mono (Kd.R_far (p := ⟨gb461, 1, none⟩) (Kd.R_far (p := ⟨gb461, 0, none⟩) (Kd.R_mono HO_7.out (fun k_ hk => (⟨hk, hk.2⟩ : _ ∧ k_ ≠ gb461))) (fun _ hk => hk.2) (.int .i64 t469)) (fun _ hk => hk.2) (.int .i64 1)) (fun _ hk => hk.1.2))); (case aS => exact (keep_size (w := w) (g := g) (row := none) (spec_l20Pays.calls_q1))); (case aL => have := LMc30.out; omega); intro v472 w41 ho hb hg hat; rw [← Ny471.out] at ho; replace HO_8 := Aside0.mk (Kd.R_over' (by (with_reducible repeat (first | apply Kd.R_alloc | apply Kd.R_drewN | apply Kd.R_drew)); exact (Kd.R_mono (Kd.R_far (p := ⟨gb461, 1, none⟩) (Kd.R_far (p := ⟨gb461, 0, none⟩) (Kd.R_types HO_8.out BK461.out (by decide)) (fun _ hk => hk.2) (.int .i64 t469)) (fun _ hk => hk.2) (.int .i64 1)) (fun _ h_ => h_.1))) (Kd.R_typed (by (with_reducible repeat (first | apply Kd.R_alloc | apply Kd.R_drewN | apply Kd.R_drew)); exact (Kd.R_mono (Kd.R_far (p := ⟨gb461, 1, none⟩) (Kd.R_far (p := ⟨gb461, 0, none⟩) (Kd.R_mono HO_7.out (fun k_ hk => (⟨hk, hk.2⟩ : _ ∧ k_ ≠ gb461))) (fun _ hk => hk.2) (.int .i64 t469)) (fun _ hk => hk.2) (.int .i64 1)) (fun _ h_ => h_.1)))) (by decide) hg); replace BK448 := Aside0.mk (blk_grown (g := gb448) (o := .cells #[.slice A1_0 l1_0.length c1_0, .slice A1_1 l1_1.length c1_1] 26 (0, 0)) (g83_) hg (Kd.R_ne HO_7.out BK448.out (by decide))); replace BK461 := Aside0.mk (blk_grown (g := gb461) (o := .cells #[.int .i64 t469, .int .i64 1] 36 (0, 0)) (by (with_reducible repeat (first | refine blk_drewN ?_ _ | refine blk_drew ?_ | refine blk_alloc ?_ _)); refine blk_put (cs := #[.int .i64 t469, .int .i64 t459]) ?_ 1 _ rfl; (with_reducible repeat (first | refine blk_drewN ?_ _ | refine blk_drew ?_ | refine blk_alloc ?_ _)); refine blk_put (cs := #[.int .i64 t458, .int .i64 t459]) ?_ 0 _ rfl; (with_reducible repeat (first | refine blk_drewN ?_ _ | refine blk_drew ?_ | refine blk_alloc ?_ _)); exact BK461.out) hg (Kd.R_away HO_7.out (fun _ hk => hk.2))); replace HB := Aside0.mk (below_weaken (spec_l20Pays.calls_q2) HL.out hb); replace HI0 := Aside0.mk (IsS79.grown (w0 := w0) (f0 := s0_0) (f1 := t470) (spec_l20Pays.calls_q0) hg (IsS79.own_ne HI0.out HO_7.out (by decide))); replace HK := Aside0.mk (KeepBut.trans (spec_l20Pays.calls_q1) (KeepBut.of_grown hg g) (Kd.R_base2 HO_7.out)); have HO473 := Aside0.mk (ho); clear HO_7; clear ho hb hg hat))
        go_roundg k1
        case measure => have := HK1.out; omega
        case rel => exact ⟨(y471), (wrap64 (x9_1 + 1)), (t470), (g3_), H', ⟨g9_⟩, ⟨by (with_reducible repeat (first | apply Kd.R_alloc | apply Kd.R_drewN | apply Kd.R_drew)); exact Kd.R_mono HO473.out (fun _ hk => trivial)⟩, ⟨uf1_ HO_8⟩, ⟨uf0_ BK448⟩, ⟨spec_l20Pays.calls_q0⟩, ⟨spec_l20Pays.calls_q1⟩, ⟨spec_l20Pays.calls_q2⟩⟩
       ·rw [if_neg c30] at H
        exact absurd H (by simp)
      ·rw [if_neg c28] at H
       have c28b0 : (t462 == 1) = false := beq_eq_false_iff_ne.mpr c28
       have c28b1 : (t462 != 1) = true := bne_iff_ne.mpr c28
       by_cases c42 : x7_1.length < 8796093022208
       ·rw [if_pos c42] at H
        have LMc42 := Aside0.mk c42
        clear c42
        obtain ⟨y474, hy474⟩ : ∃ y_ : List (S36), y_ = (x7_1 ++ [(⟨t458, t459⟩ : S36)]) := ⟨_, rfl⟩
        replace H : (spec_l20Pays.l0 k1 a2 y474 t452 (wrap64 (x9_1 + 1)) s0_0 t463) = some (r1, r2) := by first | (rw [hy474]; with_reducible exact H) | (have H2_ := (Option.bind_some _ _).symm.trans H; rw [hy474]; with_reducible exact H2_) | (have H2_ := (Option.bind_some _ _).symm.trans H; with_reducible exact H2_) | with_reducible exact H | (rw [hy474]; exact H) | exact H
        have Ny474 := Aside0.mk hy474
        clear hy474
        have H' := Aside0.mk H
        clear H
        obtain ⟨Ao43, co43, eo43⟩ := Kd.R_slice HO_8.out
        subst eo43
        have p455 : 0 ≤ (x9_1 : Int) := of_decide_eq_true (g1_)
        have q455 : x9_1 < (t452.length : Int) := of_decide_eq_true (g1_)
        obtain ⟨ad455, e455, hx455_0⟩ := Kd.at_int (Kd.R_reads' HO_8.out).2.2 x9_1 p455 q455
        cases e455
        replace p455 := eq_true p455
        replace q455 := eq_true q455
        go_wp2_with (first | ((with_reducible refine gate_callee (f := 87) rfl ?_); refine goesL_ (some 29) rfl rfl Try.func87 k_ rfl #[.pointer (some ⟨g, 0, none⟩), .int .i64 (wrap64 ((wrap64 ((rd t452 x9_1) * 6)) + 1))] rfl (g2_) ?_; (with_reducible refine (spec_l20Rd_pick.calls k1 g s0_0 x1001_1 (wrap64 ((wrap64 ((rd t452 x9_1) * 6)) + 1)) t456 t457 w0 _ ?side1 ?side2 A13.out).mono ?_); (case side1 => exact spec_l20Pays.calls_q0); (case side2 => exact spec_l20Pays.calls_q2); rintro e w44 ⟨rfl, hi, hb, hk⟩; refine ⟨_, rfl, ?_⟩; replace HO_7 := Aside0.mk (Kd.R_mono (Kd.R_keep (IsS79.apart (show IsS79 w0 _ g s0_0 x1001_1 from spec_l20Pays.calls_q0) (uf1_ HO_7) (by decide)) hk (fun _ h => h.2)) (fun _ h => h.1)); replace HO_8 := Aside0.mk (Kd.R_mono (Kd.R_keep (IsS79.apart (show IsS79 w0 _ g s0_0 x1001_1 from spec_l20Pays.calls_q0) (uf1_ HO_8) (by decide)) hk (fun _ h => h.2)) (fun _ h => h.1)); replace BK448 := Aside0.mk (KeepBut.blk hk (g' := gb448) (o := .cells #[.slice A1_0 l1_0.length c1_0, .slice A1_1 l1_1.length c1_1] 26 (0, 0)) (uf0_ BK448) NB448_0.out (by simp)); replace HK := Aside0.mk (KeepBut.trans (spec_l20Pays.calls_q1) hk (.inl rfl)); replace HB := Aside0.mk (hb); replace HI0 := Aside0.mk (hi); (try clear hb); (try clear hk hi)) | ((with_reducible refine gate_callee (f := 95) rfl ?_); refine goesL_ (some 30) rfl rfl Try.func95 k_ rfl #[.int .i64 t456, .int .i64 6] rfl (g2_) ?_; (with_reducible refine (spec_l1Low.calls k1 t456 6 t458 t459 t460 _ A14.out).mono ?_); rintro e w45 ⟨rfl, hb⟩; refine ⟨_, rfl, ?_⟩; replace HO_7 := Aside0.mk (Kd.R_below (uf1_ HO_7) hb); replace HO_8 := Aside0.mk (Kd.R_below (uf1_ HO_8) hb); replace BK448 := Aside0.mk (blk_below (g := gb448) (o := .cells #[.slice A1_0 l1_0.length c1_0, .slice A1_1 l1_1.length c1_1] 26 (0, 0)) (uf0_ BK448) hb); replace HK := Aside0.mk (KeepBut.trans (spec_l20Pays.calls_q1) (KeepBut.of_below hb g none) (.inl rfl)); replace HB := Aside0.mk (below_step (spec_l20Pays.calls_q2) hb); replace HI0 := Aside0.mk (IsS79.below (spec_l20Pays.calls_q0) hb); (try clear hb); (try clear hk hi)) | ((with_reducible refine gate_dst (N := 10) rfl ?_); refine bx_ (N := 10) #[.int .i64 0, .int .i64 0] 36 ?_; intro gb461 hg w46 hbox hb; replace HO_7 := Aside0.mk (Kd.R_below (Kd.R_elderB (uf1_ HO_7) gb461 (Nat.le_of_eq hg.symm)) hb); replace HO_8 := Aside0.mk (Kd.R_below (uf1_ HO_8) hb); replace HB := Aside0.mk (below_step (spec_l20Pays.calls_q2) hb); have BK461 := Aside0.mk (hbox); have GW461 := Aside0.mk ((g42_ : w.heap.size ≤ gb461)); have GE461 := Aside0.mk ((Nat.le_trans HW0.out (g42_ : w.heap.size ≤ gb461) : w0.heap.size ≤ gb461)); replace HK := Aside0.mk (KeepBut.trans (spec_l20Pays.calls_q1) (KeepBut.of_below hb g none) (.inl rfl)); have NB448_461 := Aside0.mk ((g147_ : gb448 ≠ gb461)); have NB461_448 := Aside0.mk ((g148_ : gb461 ≠ gb448)); replace BK448 := Aside0.mk (blk_below (g := gb448) (o := .cells #[.slice A1_0 l1_0.length c1_0, .slice A1_1 l1_1.length c1_1] 26 (0, 0)) (uf0_ BK448) hb); have NB0_461 := Aside0.mk ((by rw [hg]; exact Nat.ne_of_lt (IsS79.lt (show IsS79 w0 _ g s0_0 t457 from spec_l20Pays.calls_q0)) : g ≠ gb461)); have NB461_0 := Aside0.mk ((by rw [hg]; exact Nat.ne_of_gt (IsS79.lt (show IsS79 w0 _ g s0_0 t457 from spec_l20Pays.calls_q0)) : gb461 ≠ g)); replace HI0 := Aside0.mk (IsS79.below (spec_l20Pays.calls_q0) hb); clear hb hbox hg; have hnb47 := NB461_448.out; have hnc47 := NB448_461.out; have hnb48 := NB461_0.out; have hnc48 := NB0_461.out; obtain ⟨hcz49_0, hcz49_1, hfz49_0, hfz49_1⟩ := blk2_ BK461) | ((with_reducible refine gate_callee (f := 87) rfl ?_); refine goesL_ (some 34) rfl rfl Try.func87 k_ rfl #[.pointer (some ⟨g, 0, none⟩), .int .i64 4] rfl (g2_) ?_; (with_reducible refine (spec_l20Rd_pick.calls k1 g s0_0 t457 4 t462 t463 w0 _ ?side1 ?side2 A15.out).mono ?_); (case side1 => exact spec_l20Pays.calls_q0); (case side2 => exact spec_l20Pays.calls_q2); rintro e w50 ⟨rfl, hi, hb, hk⟩; refine ⟨_, rfl, ?_⟩; replace HO_7 := Aside0.mk (Kd.R_mono (Kd.R_keep (IsS79.apart (show IsS79 w0 _ g s0_0 t457 from spec_l20Pays.calls_q0) (g149_) (by decide)) hk (fun _ h => h.2)) (fun _ h => h.1)); replace HO_8 := Aside0.mk (Kd.R_mono (Kd.R_keep (IsS79.apart (show IsS79 w0 _ g s0_0 t457 from spec_l20Pays.calls_q0) (g150_) (by decide)) hk (fun _ h => h.2)) (fun _ h => h.1)); replace BK448 := Aside0.mk (KeepBut.blk hk (g' := gb448) (o := .cells #[.slice A1_0 l1_0.length c1_0, .slice A1_1 l1_1.length c1_1] 26 (0, 0)) (g83_) NB448_0.out (by simp)); replace BK461 := Aside0.mk (KeepBut.blk hk (g' := gb461) (o := .cells #[.int .i64 t458, .int .i64 t459] 36 (0, 0)) (g151_) NB461_0.out (by simp)); replace HK := Aside0.mk (KeepBut.trans (spec_l20Pays.calls_q1) hk (.inl rfl)); replace HB := Aside0.mk (hb); replace HI0 := Aside0.mk (hi); (try clear hb); (try clear hk hi); obtain ⟨hcz51_0, hcz51_1, hfz51_0, hfz51_1⟩ := blk2_ BK461) | ((with_reducible refine gate_builtin (b := .append) (xs := #[.tmp 52, .tmp 54]) rfl ?_); at_builtin; refine Kd.R_append k36 w.heap.size rfl (.tmp 52) (.tmp 54) 28 36 (.agg #[(.int .i64 0), (.int .i64 0)]) 16 rfl Try.underlying28 info36 rfl (by decide) (by omega) u7 x7_1 (⟨t458, t459⟩ : S36) [.int .i64 t458, .int .i64 t459] (fun k_ => k_ ≠ gb461) (fun _ => False) rfl rfl ?aP (fun _ hk => hk.elim) ?aF ?aO (Below.refl _ _) ?aS ?aL ?_; (case aP => exact k36_mkM _ _ _ (⟨t458, t459⟩ : S36)); (case aF => exact (fun k_ hk => Kd.freshB (g := gb461) (o := .cells #[.int .i64 t458, .int .i64 t459] 36 (0, 0)) (uf0_ BK461) k_ hk)); (case aO => exact (by (with_reducible repeat (first | apply Kd.R_alloc | apply Kd.R_drewN | apply Kd.R_drew)); exact Kd.R_mono HO_7.out (fun _ hk => hk.2))); (case aS => exact (keep_size (w := w) (g := g) (row := none) (spec_l20Pays.calls_q1))); (case aL => have := LMc42.out; omega); intro v475 w52 ho hb hg hat; rw [← Ny474.out] at ho; replace HO_8 := Aside0.mk (Kd.R_over' (uf1_ HO_8) (Kd.R_typed (uf1_ HO_7)) (by decide) hg); replace BK448 := Aside0.mk (blk_grown (g := gb448) (o := .cells #[.slice A1_0 l1_0.length c1_0, .slice A1_1 l1_1.length c1_1] 26 (0, 0)) (uf0_ BK448) hg (Kd.R_ne HO_7.out BK448.out (by decide))); replace BK461 := Aside0.mk (blk_grown (g := gb461) (o := .cells #[.int .i64 t458, .int .i64 t459] 36 (0, 0)) (uf0_ BK461) hg (Kd.R_away HO_7.out (fun _ hk => hk.2))); replace HB := Aside0.mk (below_weaken (spec_l20Pays.calls_q2) HL.out hb); replace HI0 := Aside0.mk (IsS79.grown (w0 := w0) (f0 := s0_0) (f1 := t463) (spec_l20Pays.calls_q0) hg (IsS79.own_ne HI0.out HO_7.out (by decide))); replace HK := Aside0.mk (KeepBut.trans (spec_l20Pays.calls_q1) (KeepBut.of_grown hg g) (Kd.R_base2 HO_7.out)); have HO476 := Aside0.mk (ho); clear HO_7; clear ho hb hg hat))
        go_roundg k1
        case measure => have := HK1.out; omega
        case rel => exact ⟨(y474), (wrap64 (x9_1 + 1)), (t463), (g3_), H', ⟨g9_⟩, ⟨by (with_reducible repeat (first | apply Kd.R_alloc | apply Kd.R_drewN | apply Kd.R_drew)); exact Kd.R_mono HO476.out (fun _ hk => trivial)⟩, ⟨uf1_ HO_8⟩, ⟨uf0_ BK448⟩, ⟨spec_l20Pays.calls_q0⟩, ⟨spec_l20Pays.calls_q1⟩, ⟨spec_l20Pays.calls_q2⟩⟩
       ·rw [if_neg c42] at H
        exact absurd H (by simp)
    ·rw [if_neg c12] at H
     exact absurd H (by simp)
   ·rw [if_neg c11] at H
    have c11b0 := decide_eq_false c11
    clear c11
    replace H := Option.bind_eq_some_iff.mp H
    obtain ⟨⟨t477, t478⟩, A530, H⟩ := H
    replace H : (if t477 = true then (if (x7_1.length : Int) = 0 then (if x7_1.length < 8796093022208 then (some ((x7_1 ++ [(⟨0, 1⟩ : S36)]), t478)) else (none)) else ((spec_l20Rd_pick.f k1 s0_0 t478 2).bind fun bt482 => (if bt482.1 = 0 then (if x7_1.length < 8796093022208 then (some ((x7_1 ++ [(⟨0, 1⟩ : S36)]), bt482.2)) else (none)) else ((some (([(⟨0, 0⟩ : S36), (⟨(-1), 1⟩ : S36), (⟨100, 1⟩ : S36)] : List (S36)) : List (S36))).bind fun y487 => ((spec_l20Rd_pick.f k1 s0_0 bt482.2 3).bind fun bt490 => (if 0 ≤ bt490.1 then (if bt490.1 < (y487.length : Int) then (if 0 < (x7_1.length : Int) then (some ((x7_1.set (0 : Int).toNat (⟨(rd_T36 y487 bt490.1).f0, (rd_T36 y487 bt490.1).f1⟩ : S36)), bt490.2)) else (none)) else (none)) else (none))))))) else (some (x7_1, t478))) = some (r1, r2) := H
    have A53 := Aside0.mk A530
    clear A530
    by_cases c54 : t477 = true
    ·subst c54
     replace H := ifp_ H
     by_cases c55 : (x7_1.length : Int) = 0
     ·rw [if_pos c55] at H
      have c55b0 : ((x7_1.length : Int) == 0) = true := beq_iff_eq.mpr c55
      have c55b1 : ((x7_1.length : Int) != 0) = false := bne_eq_false_iff_eq.mpr c55
      clear c55
      by_cases c56 : x7_1.length < 8796093022208
      ·rw [if_pos c56] at H
       have LMc56 := Aside0.mk c56
       clear c56
       obtain ⟨y479, hy479⟩ : ∃ y_ : List (S36), y_ = (x7_1 ++ [(⟨0, 1⟩ : S36)]) := ⟨_, rfl⟩
       replace H : (some (y479, t478)) = some (r1, r2) := by first | (rw [hy479]; with_reducible exact H) | (have H2_ := (Option.bind_some _ _).symm.trans H; rw [hy479]; with_reducible exact H2_) | (have H2_ := (Option.bind_some _ _).symm.trans H; with_reducible exact H2_) | with_reducible exact H | (rw [hy479]; exact H) | exact H
       have Ny479 := Aside0.mk hy479
       clear hy479
       simp only [Option.some.injEq, Prod.mk.injEq] at H
       obtain ⟨rfl, rfl⟩ := H
       obtain ⟨Ao57, co57, eo57⟩ := Kd.R_slice HO_8.out
       subst eo57
       go_wp2_with (first | ((with_reducible refine gate_callee (f := 88) rfl ?_); refine goesL_ (some 58) rfl rfl Try.func88 k_ rfl #[.pointer (some ⟨g, 0, none⟩), .int .i64 a2] rfl (g2_) ?_; (with_reducible refine (spec_l20Rd_odd.calls k1 g s0_0 x1001_1 a2 true t478 w0 _ ?side1 ?side2 A53.out).mono ?_); (case side1 => exact spec_l20Pays.calls_q0); (case side2 => exact spec_l20Pays.calls_q2); rintro e w58 ⟨rfl, hi, hb, hk⟩; refine ⟨_, rfl, ?_⟩; replace HO_7 := Aside0.mk (Kd.R_mono (Kd.R_keep (IsS79.apart (show IsS79 w0 _ g s0_0 x1001_1 from spec_l20Pays.calls_q0) (uf1_ HO_7) (by decide)) hk (fun _ h => h.2)) (fun _ h => h.1)); replace HO_8 := Aside0.mk (Kd.R_mono (Kd.R_keep (IsS79.apart (show IsS79 w0 _ g s0_0 x1001_1 from spec_l20Pays.calls_q0) (uf1_ HO_8) (by decide)) hk (fun _ h => h.2)) (fun _ h => h.1)); replace BK448 := Aside0.mk (KeepBut.blk hk (g' := gb448) (o := .cells #[.slice A1_0 l1_0.length c1_0, .slice A1_1 l1_1.length c1_1] 26 (0, 0)) (uf0_ BK448) NB448_0.out (by simp)); replace HK := Aside0.mk (KeepBut.trans (spec_l20Pays.calls_q1) hk (.inl rfl)); replace HB := Aside0.mk (hb); replace HI0 := Aside0.mk (hi); (try clear hb); (try clear hk hi); obtain ⟨Ao59, co59, eo59⟩ := Kd.R_slice HO_7.out; subst eo59) | ((with_reducible refine gate_builtin (b := .append) (xs := #[.tmp 67, .tmp 69]) rfl ?_); at_builtin; refine Kd.R_append k36 w.heap.size rfl (.tmp 67) (.tmp 69) 28 36 (.agg #[(.int .i64 0), (.int .i64 0)]) 16 rfl Try.underlying28 info36 rfl (by decide) (by omega) (.slice Ao59 x7_1.length co59) x7_1 (⟨0, 1⟩ : S36) [.int .i64 0, .int .i64 1] (fun _ => True) (fun _ => False) rfl rfl ?aP (fun _ hk => hk.elim) ?aF ?aO (Below.refl _ _) ?aS ?aL ?_; (case aP => exact k36_mkM _ _ _ (⟨0, 1⟩ : S36)); (case aF => exact (fun _ _ => trivial)); (case aO => exact (uf1_ HO_7)); (case aS => exact (keep_size (w := w) (g := g) (row := none) (spec_l20Pays.calls_q1))); (case aL => have := LMc56.out; omega); intro v480 w60 ho hb hg hat; rw [← Ny479.out] at ho; replace HO_8 := Aside0.mk (Kd.R_over' (uf1_ HO_8) (Kd.R_typed (uf1_ HO_7)) (by decide) hg); replace BK448 := Aside0.mk (blk_grown (g := gb448) (o := .cells #[.slice A1_0 l1_0.length c1_0, .slice A1_1 l1_1.length c1_1] 26 (0, 0)) (uf0_ BK448) hg (Kd.R_ne HO_7.out BK448.out (by decide))); replace HB := Aside0.mk (below_weaken (spec_l20Pays.calls_q2) HL.out hb); replace HI0 := Aside0.mk (IsS79.grown (w0 := w0) (f0 := s0_0) (f1 := t478) (spec_l20Pays.calls_q0) hg (IsS79.own_ne HI0.out HO_7.out (by decide))); replace HK := Aside0.mk (KeepBut.trans (spec_l20Pays.calls_q1) (KeepBut.of_grown hg g) (Kd.R_base2 HO_7.out)); have HO481 := Aside0.mk (ho); clear HO_7; clear ho hb hg hat))
       go_ret
       exact ⟨_, g4_, uf1_ HO481, spec_l20Pays.calls_q0, spec_l20Pays.calls_q2, spec_l20Pays.calls_q1⟩
      ·rw [if_neg c56] at H
       exact absurd H (by simp)
     ·rw [if_neg c55] at H
      have c55b0 : ((x7_1.length : Int) == 0) = false := beq_eq_false_iff_ne.mpr c55
      have c55b1 : ((x7_1.length : Int) != 0) = true := bne_iff_ne.mpr c55
      have c55b2 : ¬ (x7_1 = []) := fun h_ => c55 (g46_)
      replace H := Option.bind_eq_some_iff.mp H
      obtain ⟨⟨t482, t483⟩, A610, H⟩ := H
      replace H : (if t482 = 0 then (if x7_1.length < 8796093022208 then (some ((x7_1 ++ [(⟨0, 1⟩ : S36)]), t483)) else (none)) else ((some (([(⟨0, 0⟩ : S36), (⟨(-1), 1⟩ : S36), (⟨100, 1⟩ : S36)] : List (S36)) : List (S36))).bind fun y487 => ((spec_l20Rd_pick.f k1 s0_0 t483 3).bind fun bt490 => (if 0 ≤ bt490.1 then (if bt490.1 < (y487.length : Int) then (if 0 < (x7_1.length : Int) then (some ((x7_1.set (0 : Int).toNat (⟨(rd_T36 y487 bt490.1).f0, (rd_T36 y487 bt490.1).f1⟩ : S36)), bt490.2)) else (none)) else (none)) else (none))))) = some (r1, r2) := H
      have A61 := Aside0.mk A610
      clear A610
      by_cases c62 : t482 = 0
      ·rw [if_pos c62] at H
       have c62b0 : (t482 == 0) = true := beq_iff_eq.mpr c62
       have c62b1 : (t482 != 0) = false := bne_eq_false_iff_eq.mpr c62
       clear c62
       by_cases c63 : x7_1.length < 8796093022208
       ·rw [if_pos c63] at H
        have LMc63 := Aside0.mk c63
        clear c63
        obtain ⟨y484, hy484⟩ : ∃ y_ : List (S36), y_ = (x7_1 ++ [(⟨0, 1⟩ : S36)]) := ⟨_, rfl⟩
        replace H : (some (y484, t483)) = some (r1, r2) := by first | (rw [hy484]; with_reducible exact H) | (have H2_ := (Option.bind_some _ _).symm.trans H; rw [hy484]; with_reducible exact H2_) | (have H2_ := (Option.bind_some _ _).symm.trans H; with_reducible exact H2_) | with_reducible exact H | (rw [hy484]; exact H) | exact H
        have Ny484 := Aside0.mk hy484
        clear hy484
        simp only [Option.some.injEq, Prod.mk.injEq] at H
        obtain ⟨rfl, rfl⟩ := H
        obtain ⟨Ao64, co64, eo64⟩ := Kd.R_slice HO_8.out
        subst eo64
        go_wp2_with (first | ((with_reducible refine gate_callee (f := 88) rfl ?_); refine goesL_ (some 58) rfl rfl Try.func88 k_ rfl #[.pointer (some ⟨g, 0, none⟩), .int .i64 a2] rfl (g2_) ?_; (with_reducible refine (spec_l20Rd_odd.calls k1 g s0_0 x1001_1 a2 true t478 w0 _ ?side1 ?side2 A53.out).mono ?_); (case side1 => exact spec_l20Pays.calls_q0); (case side2 => exact spec_l20Pays.calls_q2); rintro e w65 ⟨rfl, hi, hb, hk⟩; refine ⟨_, rfl, ?_⟩; replace HO_7 := Aside0.mk (Kd.R_mono (Kd.R_keep (IsS79.apart (show IsS79 w0 _ g s0_0 x1001_1 from spec_l20Pays.calls_q0) (uf1_ HO_7) (by decide)) hk (fun _ h => h.2)) (fun _ h => h.1)); replace HO_8 := Aside0.mk (Kd.R_mono (Kd.R_keep (IsS79.apart (show IsS79 w0 _ g s0_0 x1001_1 from spec_l20Pays.calls_q0) (uf1_ HO_8) (by decide)) hk (fun _ h => h.2)) (fun _ h => h.1)); replace BK448 := Aside0.mk (KeepBut.blk hk (g' := gb448) (o := .cells #[.slice A1_0 l1_0.length c1_0, .slice A1_1 l1_1.length c1_1] 26 (0, 0)) (uf0_ BK448) NB448_0.out (by simp)); replace HK := Aside0.mk (KeepBut.trans (spec_l20Pays.calls_q1) hk (.inl rfl)); replace HB := Aside0.mk (hb); replace HI0 := Aside0.mk (hi); (try clear hb); (try clear hk hi); obtain ⟨Ao66, co66, eo66⟩ := Kd.R_slice HO_7.out; subst eo66) | (go_at_call 87; (with_reducible refine (spec_l20Rd_pick.calls k1 g s0_0 t478 2 t482 t483 w0 _ ?side1 ?side2 A61.out).mono ?_); (case side1 => exact spec_l20Pays.calls_q0); (case side2 => exact spec_l20Pays.calls_q2); rintro e w67 ⟨rfl, hi, hb, hk⟩; replace HO_7 := Aside0.mk (Kd.R_mono (Kd.R_keep (IsS79.apart (show IsS79 w0 _ g s0_0 t478 from spec_l20Pays.calls_q0) (uf1_ HO_7) (by decide)) hk (fun _ h => h.2)) (fun _ h => h.1)); replace HO_8 := Aside0.mk (Kd.R_mono (Kd.R_keep (IsS79.apart (show IsS79 w0 _ g s0_0 t478 from spec_l20Pays.calls_q0) (uf1_ HO_8) (by decide)) hk (fun _ h => h.2)) (fun _ h => h.1)); replace BK448 := Aside0.mk (KeepBut.blk hk (g' := gb448) (o := .cells #[.slice A1_0 l1_0.length c1_0, .slice A1_1 l1_1.length c1_1] 26 (0, 0)) (uf0_ BK448) NB448_0.out (by simp)); replace HK := Aside0.mk (KeepBut.trans (spec_l20Pays.calls_q1) hk (.inl rfl)); replace HB := Aside0.mk (hb); replace HI0 := Aside0.mk (hi); (try clear hb); (try clear hk hi)) | ((with_reducible refine gate_builtin (b := .append) (xs := #[.tmp 67, .tmp 69]) rfl ?_); at_builtin; refine Kd.R_append k36 w.heap.size rfl (.tmp 67) (.tmp 69) 28 36 (.agg #[(.int .i64 0), (.int .i64 0)]) 16 rfl Try.underlying28 info36 rfl (by decide) (by omega) (.slice Ao66 x7_1.length co66) x7_1 (⟨0, 1⟩ : S36) [.int .i64 0, .int .i64 1] (fun _ => True) (fun _ => False) rfl rfl ?aP (fun _ hk => hk.elim) ?aF ?aO (Below.refl _ _) ?aS ?aL ?_; (case aP => exact k36_mkM _ _ _ (⟨0, 1⟩ : S36)); (case aF => exact (fun _ _ => trivial)); (case aO => exact (uf1_ HO_7)); (case aS => exact (keep_size (w := w) (g := g) (row := none) (spec_l20Pays.calls_q1))); (case aL => have := LMc63.out; omega); intro v485 w68 ho hb hg hat; rw [← Ny484.out] at ho; replace HO_8 := Aside0.mk (Kd.R_over' (uf1_ HO_8) (Kd.R_typed (uf1_ HO_7)) (by decide) hg); replace BK448 := Aside0.mk (blk_grown (g := gb448) (o := .cells #[.slice A1_0 l1_0.length c1_0, .slice A1_1 l1_1.length c1_1] 26 (0, 0)) (uf0_ BK448) hg (Kd.R_ne HO_7.out BK448.out (by decide))); replace HB := Aside0.mk (below_weaken (spec_l20Pays.calls_q2) HL.out hb); replace HI0 := Aside0.mk (IsS79.grown (w0 := w0) (f0 := s0_0) (f1 := t483) (spec_l20Pays.calls_q0) hg (IsS79.own_ne HI0.out HO_7.out (by decide))); replace HK := Aside0.mk (KeepBut.trans (spec_l20Pays.calls_q1) (KeepBut.of_grown hg g) (Kd.R_base2 HO_7.out)); have HO486 := Aside0.mk (ho); clear HO_7; clear ho hb hg hat))
        go_ret
        exact ⟨_, g4_, uf1_ HO486, spec_l20Pays.calls_q0, spec_l20Pays.calls_q2, spec_l20Pays.calls_q1⟩
       ·rw [if_neg c63] at H
        exact absurd H (by simp)
      ·rw [if_neg c62] at H
       have c62b0 : (t482 == 0) = false := beq_eq_false_iff_ne.mpr c62
       have c62b1 : (t482 != 0) = true := bne_iff_ne.mpr c62
       obtain ⟨y487, hy487⟩ : ∃ y_ : List (S36), y_ = (([(⟨0, 0⟩ : S36), (⟨(-1), 1⟩ : S36), (⟨100, 1⟩ : S36)] : List (S36))) := ⟨_, rfl⟩
       replace H : ((spec_l20Rd_pick.f k1 s0_0 t483 3).bind fun bt490 => (if 0 ≤ bt490.1 then (if bt490.1 < (y487.length : Int) then (if 0 < (x7_1.length : Int) then (some ((x7_1.set (0 : Int).toNat (⟨(rd_T36 y487 bt490.1).f0, (rd_T36 y487 bt490.1).f1⟩ : S36)), bt490.2)) else (none)) else (none)) else (none))) = some (r1, r2) := by first | (rw [hy487]; with_reducible exact H) | (have H2_ := (Option.bind_some _ _).symm.trans H; rw [hy487]; with_reducible exact H2_) | (have H2_ := (Option.bind_some _ _).symm.trans H; with_reducible exact H2_) | with_reducible exact H | (rw [hy487]; exact H) | exact H
       have Ny487 := Aside0.mk hy487
       clear hy487
       replace H := Option.bind_eq_some_iff.mp H
       obtain ⟨⟨t490, t491⟩, A690, H⟩ := H
       replace H : (if 0 ≤ t490 then (if t490 < (y487.length : Int) then (if 0 < (x7_1.length : Int) then (some ((x7_1.set (0 : Int).toNat (⟨(rd_T36 y487 t490).f0, (rd_T36 y487 t490).f1⟩ : S36)), t491)) else (none)) else (none)) else (none)) = some (r1, r2) := H
       have A69 := Aside0.mk A690
       clear A690
       by_cases c70 : 0 ≤ t490
       ·rw [if_pos c70] at H
        have c70b0 := decide_eq_true c70
        clear c70
        by_cases c71 : t490 < (y487.length : Int)
        ·rw [if_pos c71] at H
         have c71b0 := decide_eq_true c71
         clear c71
         by_cases c72 : 0 < (x7_1.length : Int)
         ·rw [if_pos c72] at H
          have c72b0 := decide_eq_true c72
          have c72b1 : decide (0 < x7_1.length) = true := decide_eq_true (by omega)
          clear c72
          obtain ⟨y493, hy493⟩ : ∃ y_ : List (S36), y_ = (x7_1.set (0 : Int).toNat (⟨(rd_T36 y487 t490).f0, (rd_T36 y487 t490).f1⟩ : S36)) := ⟨_, rfl⟩
          replace H : (some (y493, t491)) = some (r1, r2) := by first | (rw [hy493]; with_reducible exact H) | (have H2_ := (Option.bind_some _ _).symm.trans H; rw [hy493]; with_reducible exact H2_) | (have H2_ := (Option.bind_some _ _).symm.trans H; with_reducible exact H2_) | with_reducible exact H | (rw [hy493]; exact H) | exact H
          have Ny493 := Aside0.mk hy493
          clear hy493
          simp only [Option.some.injEq, Prod.mk.injEq] at H
          obtain ⟨rfl, rfl⟩ := H
          obtain ⟨Ao74, co74, eo74⟩ := Kd.R_slice HO_8.out
          subst eo74
          go_wp2_with (first | ((with_reducible refine gate_callee (f := 88) rfl ?_); refine goesL_ (some 58) rfl rfl Try.func88 k_ rfl #[.pointer (some ⟨g, 0, none⟩), .int .i64 a2] rfl (g2_) ?_; (with_reducible refine (spec_l20Rd_odd.calls k1 g s0_0 x1001_1 a2 true t478 w0 _ ?side1 ?side2 A53.out).mono ?_); (case side1 => exact spec_l20Pays.calls_q0); (case side2 => exact spec_l20Pays.calls_q2); rintro e w75 ⟨rfl, hi, hb, hk⟩; refine ⟨_, rfl, ?_⟩; replace HO_7 := Aside0.mk (Kd.R_mono (Kd.R_keep (IsS79.apart (show IsS79 w0 _ g s0_0 x1001_1 from spec_l20Pays.calls_q0) (uf1_ HO_7) (by decide)) hk (fun _ h => h.2)) (fun _ h => h.1)); replace HO_8 := Aside0.mk (Kd.R_mono (Kd.R_keep (IsS79.apart (show IsS79 w0 _ g s0_0 x1001_1 from spec_l20Pays.calls_q0) (uf1_ HO_8) (by decide)) hk (fun _ h => h.2)) (fun _ h => h.1)); replace BK448 := Aside0.mk (KeepBut.blk hk (g' := gb448) (o := .cells #[.slice A1_0 l1_0.length c1_0, .slice A1_1 l1_1.length c1_1] 26 (0, 0)) (uf0_ BK448) NB448_0.out (by simp)); replace HK := Aside0.mk (KeepBut.trans (spec_l20Pays.calls_q1) hk (.inl rfl)); replace HB := Aside0.mk (hb); replace HI0 := Aside0.mk (hi); (try clear hb); (try clear hk hi); obtain ⟨Ao76, co76, eo76⟩ := Kd.R_slice HO_7.out; subst eo76) | (go_at_call 87; (with_reducible refine (spec_l20Rd_pick.calls k1 g s0_0 t478 2 t482 t483 w0 _ ?side1 ?side2 A61.out).mono ?_); (case side1 => exact spec_l20Pays.calls_q0); (case side2 => exact spec_l20Pays.calls_q2); rintro e w77 ⟨rfl, hi, hb, hk⟩; replace HO_7 := Aside0.mk (Kd.R_mono (Kd.R_keep (IsS79.apart (show IsS79 w0 _ g s0_0 t478 from spec_l20Pays.calls_q0) (uf1_ HO_7) (by decide)) hk (fun _ h => h.2)) (fun _ h => h.1)); replace HO_8 := Aside0.mk (Kd.R_mono (Kd.R_keep (IsS79.apart (show IsS79 w0 _ g s0_0 t478 from spec_l20Pays.calls_q0) (uf1_ HO_8) (by decide)) hk (fun _ h => h.2)) (fun _ h => h.1)); replace BK448 := Aside0.mk (KeepBut.blk hk (g' := gb448) (o := .cells #[.slice A1_0 l1_0.length c1_0, .slice A1_1 l1_1.length c1_1] 26 (0, 0)) (uf0_ BK448) NB448_0.out (by simp)); replace HK := Aside0.mk (KeepBut.trans (spec_l20Pays.calls_q1) hk (.inl rfl)); replace HB := Aside0.mk (hb); replace HI0 := Aside0.mk (hi); (try clear hb); (try clear hk hi)) | ((with_reducible refine gate_dst (N := 75) rfl ?_); refine Kd.R_lit k36 _ 36 ?hg (N := 75) ?hd (xs := ([(⟨0, 0⟩ : S36), (⟨(-1), 1⟩ : S36), (⟨100, 1⟩ : S36)] : List (S36))) (inner := [.int .i64 0, .int .i64 0, .int .i64 (-1), .int .i64 1, .int .i64 100, .int .i64 1]) (ok := fun _ => True) (okp := fun _ => True) ?hr ?hp (fun _ hk => hk) trivial (Below.refl _ _) (Nat.le_refl _) (by simp) ?_; (case hd => rfl); (case hg => rfl); (case hr => first | (go_simp; done) | (go_simp; rfl)); (case hp => exact (Reps.c2 (show Kd.M k36 _ _ _ (⟨0, 0⟩ : S36) [.int .i64 0, .int .i64 0] from (k36_mkM _ _ _ (⟨0, 0⟩ : S36) )) (Reps.c2 (show Kd.M k36 _ _ _ (⟨(-1), 1⟩ : S36) [.int .i64 (-1), .int .i64 1] from (k36_mkM _ _ _ (⟨(-1), 1⟩ : S36) )) (Reps.c2 (show Kd.M k36 _ _ _ (⟨100, 1⟩ : S36) [.int .i64 100, .int .i64 1] from (k36_mkM _ _ _ (⟨100, 1⟩ : S36) )) (Reps.none _ _))))); intro v488 w78 ho79 hb hg_ hnew_; clear hg_ hnew_; (first | rw [← Ny487.out] at ho79 | (simp only [Int.reduceToNat] at ho79; rw [← Ny487.out] at ho79)); replace HO_8 := Aside0.mk (Kd.R_below (uf1_ HO_8) hb); have HO489 := Aside0.mk (Kd.R_lower (Kd.R_new' ho79 (Kd.R_lt (uf1_ HO_7))) (keep_size (w := w) (g := g) (row := none) (spec_l20Pays.calls_q1))); replace HO_7 := Aside0.mk (Kd.R_elder' (uf1_ HO_7) (Kd.R_base ho79) hb); replace BK448 := Aside0.mk (blk_below (g := gb448) (o := .cells #[.slice A1_0 l1_0.length c1_0, .slice A1_1 l1_1.length c1_1] 26 (0, 0)) (uf0_ BK448) hb); replace HK := Aside0.mk (KeepBut.trans (spec_l20Pays.calls_q1) (KeepBut.of_below hb g none) (.inl rfl)); replace HB := Aside0.mk (below_step (spec_l20Pays.calls_q2) hb); replace HI0 := Aside0.mk (IsS79.below (spec_l20Pays.calls_q0) hb); clear hb ho79) | ((with_reducible refine gate_callee (f := 87) rfl ?_); refine goesL_ (some 77) rfl rfl Try.func87 k_ rfl #[.pointer (some ⟨g, 0, none⟩), .int .i64 3] rfl (g2_) ?_; (with_reducible refine (spec_l20Rd_pick.calls k1 g s0_0 t483 3 t490 t491 w0 _ ?side1 ?side2 A69.out).mono ?_); (case side1 => exact spec_l20Pays.calls_q0); (case side2 => exact spec_l20Pays.calls_q2); rintro e w80 ⟨rfl, hi, hb, hk⟩; refine ⟨_, rfl, ?_⟩; replace HO_7 := Aside0.mk (Kd.R_mono (Kd.R_keep (IsS79.apart (show IsS79 w0 _ g s0_0 t483 from spec_l20Pays.calls_q0) (uf1_ HO_7) (by decide)) hk (fun _ h => h.2)) (fun _ h => h.1)); replace HO_8 := Aside0.mk (Kd.R_mono (Kd.R_keep (IsS79.apart (show IsS79 w0 _ g s0_0 t483 from spec_l20Pays.calls_q0) (uf1_ HO_8) (by decide)) hk (fun _ h => h.2)) (fun _ h => h.1)); replace BK448 := Aside0.mk (KeepBut.blk hk (g' := gb448) (o := .cells #[.slice A1_0 l1_0.length c1_0, .slice A1_1 l1_1.length c1_1] 26 (0, 0)) (uf0_ BK448) NB448_0.out (by simp)); replace HO489 := Aside0.mk (Kd.R_mono (Kd.R_keep (IsS79.apart (show IsS79 w0 _ g s0_0 t483 from spec_l20Pays.calls_q0) (uf1_ HO489) (by decide)) hk (fun _ h => h.2)) (fun _ h => h.1)); replace HK := Aside0.mk (KeepBut.trans (spec_l20Pays.calls_q1) hk (.inl rfl)); replace HB := Aside0.mk (hb); replace HI0 := Aside0.mk (hi); (try clear hb); (try clear hk hi); obtain ⟨Ao81, co81, eo81⟩ := Kd.R_slice HO489.out; subst eo81; have p492 : 0 ≤ (t490 : Int) := of_decide_eq_true (g1_); have q492 : t490 < (y487.length : Int) := of_decide_eq_true (g1_); obtain ⟨ad492, e492, hx492_0, hx492_1⟩ := at_T36 (Kd.R_reads' HO489.out).2.2 t490 p492 q492; cases e492; replace p492 := eq_true p492; replace q492 := eq_true q492; have p73 : 0 ≤ (0 : Int) := (by omega); have q73 : (0 : Int) < ((x7_1.length : Int) : Int) := of_decide_eq_true (g1_); have qi73 : (0 < x7_1.length) = True := eq_true (by omega); obtain ⟨go73, co73, eo73, gb73, gl73, cl73, HG73⟩ := Kd.R_form HO_7.out (by omega); (first | cases eo73 | (injection eo73 with ea_ en_ ec_; (first | subst ea_ | (injection ea_ with ea_; subst ea_)); subst ec_; clear en_)); have GB73 := Aside0.mk gb73; have GG73 := Aside0.mk HG73; clear gb73 gl73 HG73; obtain ⟨ce73, hcl73, hM73, hcc73, hfr73⟩ := Kd.R_elem HO_7.out z36 (0 : Int) p73 q73; obtain rfl := k36_openM hM73; have hx73_0 : w80.cell? ⟨go73, (0 : Int).toNat * 2, none⟩ = some (.int .i64 ((rd_T36 x7_1 0).f0)) := hcc73 0 _ rfl; have hx73_1 : w80.cell? ⟨go73, (0 : Int).toNat * 2 + 1, none⟩ = some (.int .i64 ((rd_T36 x7_1 0).f1)) := hcc73 1 _ rfl; have hf73_0 : w80.frozen? ⟨go73, (0 : Int).toNat * 2, none⟩ = false := hfr73 0; have hf73_1 : w80.frozen? ⟨go73, (0 : Int).toNat * 2 + 1, none⟩ = false := hfr73 1; clear hcl73 hcc73 hfr73 hM73; (try rw [show ((0 : Int)).toNat = 0 from rfl] at hx73_0); (try simp only [Nat.reduceMul, Nat.zero_mul, Nat.zero_add, Nat.reduceAdd] at hx73_0); (try rw [show ((0 : Int)).toNat = 0 from rfl] at hf73_0); (try simp only [Nat.reduceMul, Nat.zero_mul, Nat.zero_add, Nat.reduceAdd] at hf73_0); (try rw [show ((0 : Int)).toNat = 0 from rfl] at hx73_1); (try simp only [Nat.reduceMul, Nat.zero_mul, Nat.zero_add, Nat.reduceAdd] at hx73_1); (try rw [show ((0 : Int)).toNat = 0 from rfl] at hf73_1); (try simp only [Nat.reduceMul, Nat.zero_mul, Nat.zero_add, Nat.reduceAdd] at hf73_1); replace p73 := eq_true p73; replace q73 := eq_true q73; have n_ := Aside0.mk (Kd.R_mono (ok' := (fun k_ => some k_ ≠ (.slice (some ad492) y487.length co81 : Value).ownBlock)) HO_7.out (fun k_ hk => hk.2)); clear HO_7; have HO_7 := n_; clear n_; have HX82 := Aside0.mk (show Kd.R k36 36 w80 w.heap.size (fun k_ => some k_ ≠ (.slice (some ad492) y487.length co81 : Value).ownBlock) (.slice (some ⟨go73, 0, none⟩) x7_1.length co76) x7_1 from (uf1_ HO_7)); obtain ⟨ce82, hcl82, hM82, hcc82, hfr82⟩ := Kd.R_elem HX82.out z36 (0 : Int) (by omega) (by have h_ : (0 : Int) < ((x7_1.length : Int) : Int) := of_decide_eq_true (g1_); first | exact h_ | (have e_ := (Kd.R_reads' HO_7.out).1; omega) | simpa using h_); obtain rfl := k36_openM hM82; have HP82 := Kd.R_seg HX82.out (0 : Int) (by omega) (by have h_ : (0 : Int) < ((x7_1.length : Int) : Int) := of_decide_eq_true (g1_); first | exact h_ | (have e_ := (Kd.R_reads' HO_7.out).1; omega) | simpa using h_) (seg := [.int .i64 ((rd_T36 y487 t490).f0), .int .i64 ((rd_T36 y487 t490).f1)]) (j := 0) hcl82 hcc82 (show 2 ≤ 2 from by decide) (x' := (⟨(rd_T36 y487 t490).f0, (rd_T36 y487 t490).f1⟩ : S36)) (k36_mkM _ _ _ (⟨(rd_T36 y487 t490).f0, (rd_T36 y487 t490).f1⟩ : S36) ) (fun _ hk => hk); have hx82_0 := hcc82 0 _ rfl; (try simp only [show (k36).sz = 2 from rfl, Nat.mul_one, Nat.add_zero] at hx82_0); (try rw [show ((0 : Int)).toNat = 0 from rfl] at hx82_0); (try simp only [Nat.reduceMul, Nat.zero_mul, Nat.zero_add, Nat.reduceAdd] at hx82_0); have hf82_0 := hfr82 0; (try simp only [show (k36).sz = 2 from rfl, Nat.mul_one, Nat.add_zero] at hf82_0); (try rw [show ((0 : Int)).toNat = 0 from rfl] at hf82_0); (try simp only [Nat.reduceMul, Nat.zero_mul, Nat.zero_add, Nat.reduceAdd] at hf82_0); have hx82_1 := hcc82 1 _ rfl; (try simp only [show (k36).sz = 2 from rfl, Nat.mul_one, Nat.add_zero] at hx82_1); (try rw [show ((0 : Int)).toNat = 0 from rfl] at hx82_1); (try simp only [Nat.reduceMul, Nat.zero_mul, Nat.zero_add, Nat.reduceAdd] at hx82_1); have hf82_1 := hfr82 1; (try simp only [show (k36).sz = 2 from rfl, Nat.mul_one, Nat.add_zero] at hf82_1); (try rw [show ((0 : Int)).toNat = 0 from rfl] at hf82_1); (try simp only [Nat.reduceMul, Nat.zero_mul, Nat.zero_add, Nat.reduceAdd] at hf82_1); clear hcl82 hcc82 hfr82 hM82) | ((with_reducible refine gate_store (t := 36) (p := 80) rfl ?_); refine store_event (t := 36) (p := 80) (v := ?vo_w83) (w1 := ((w80.setCell ⟨go73, 0, none⟩ (.int .i64 ((rd_T36 y487 t490).f0))).setCell ⟨go73, 1, none⟩ (.int .i64 ((rd_T36 y487 t490).f1)))) ?hg ?ho ?hn ?hr ?_; (case ho => rfl); (case hg => rfl); (case hn => rfl); (case hr => first | (go_simp; done) | (go_simp; rfl)); intro w83 hw; have hg : w80.grownBy w83 (some go73) := (by rw [hw]; exact HP82.2); have hp_ : Kd.R k36 36 w83 w.heap.size (fun k_ => some k_ ≠ (.slice (some ad492) y487.length co81 : Value).ownBlock) (.slice (some ⟨go73, 0, none⟩) x7_1.length co76) y493 := (by rw [hw, Ny493.out]; exact HP82.1); clear HP82; replace HO_8 := Aside0.mk (Kd.R_over' (v := (.slice (some ⟨go73, 0, none⟩) x7_1.length co76)) (uf1_ HO_8) (Kd.R_typed HO_7.out) (by decide) hg); replace BK448 := Aside0.mk (blk_grown (g := gb448) (o := .cells #[.slice A1_0 l1_0.length c1_0, .slice A1_1 l1_1.length c1_1] 26 (0, 0)) (uf0_ BK448) hg (Kd.R_ne HO_7.out BK448.out (by decide))); replace HI0 := Aside0.mk (IsS79.grown (w0 := w0) (f0 := s0_0) (f1 := t491) (spec_l20Pays.calls_q0) hg (IsS79.own_ne HI0.out HO_7.out (by decide))); replace HO489 := Aside0.mk (Kd.R_after (v := (.slice (some ⟨go73, 0, none⟩) x7_1.length co76)) (v1 := (.slice (some ⟨go73, 0, none⟩) x7_1.length co76)) (ok := (fun _ => True)) (uf1_ HO489) hg (.inl rfl)); replace HB := Aside0.mk ((by rw [hw]; exact below_set (below_set (HB.out) (Nat.le_trans HL.out GB73.out)) (Nat.le_trans HL.out GB73.out) : Below w0.heap.size w0 w83)); replace HK := Aside0.mk (KeepBut.trans (spec_l20Pays.calls_q1) (KeepBut.of_grown hg g) (Kd.R_base2 HO_7.out)); replace HO_7 := Aside0.mk (hp_); clear hg hw hp_))
          go_ret
          exact ⟨_, g4_, by (with_reducible repeat (first | apply Kd.R_alloc | apply Kd.R_drewN | apply Kd.R_drew)); exact Kd.R_mono HO_7.out (fun _ hk => trivial), spec_l20Pays.calls_q0, spec_l20Pays.calls_q2, spec_l20Pays.calls_q1⟩
         ·rw [if_neg c72] at H
          exact absurd H (by simp)
        ·rw [if_neg c71] at H
         exact absurd H (by simp)
       ·rw [if_neg c70] at H
        exact absurd H (by simp)
    ·replace c54 := Bool.eq_false_iff.mpr c54
     subst c54
     replace H := ifn_ H
     simp only [Option.some.injEq, Prod.mk.injEq] at H
     obtain ⟨rfl, rfl⟩ := H
     obtain ⟨Ao84, co84, eo84⟩ := Kd.R_slice HO_8.out
     subst eo84
     go_wp2_with (first | ((with_reducible refine gate_callee (f := 88) rfl ?_); refine goesL_ (some 58) rfl rfl Try.func88 k_ rfl #[.pointer (some ⟨g, 0, none⟩), .int .i64 a2] rfl (g2_) ?_; (with_reducible refine (spec_l20Rd_odd.calls k1 g s0_0 x1001_1 a2 false t478 w0 _ ?side1 ?side2 A53.out).mono ?_); (case side1 => exact spec_l20Pays.calls_q0); (case side2 => exact spec_l20Pays.calls_q2); rintro e w85 ⟨rfl, hi, hb, hk⟩; refine ⟨_, rfl, ?_⟩; replace HO_7 := Aside0.mk (Kd.R_mono (Kd.R_keep (IsS79.apart (show IsS79 w0 _ g s0_0 x1001_1 from spec_l20Pays.calls_q0) (uf1_ HO_7) (by decide)) hk (fun _ h => h.2)) (fun _ h => h.1)); replace HO_8 := Aside0.mk (Kd.R_mono (Kd.R_keep (IsS79.apart (show IsS79 w0 _ g s0_0 x1001_1 from spec_l20Pays.calls_q0) (uf1_ HO_8) (by decide)) hk (fun _ h => h.2)) (fun _ h => h.1)); replace BK448 := Aside0.mk (KeepBut.blk hk (g' := gb448) (o := .cells #[.slice A1_0 l1_0.length c1_0, .slice A1_1 l1_1.length c1_1] 26 (0, 0)) (uf0_ BK448) NB448_0.out (by simp)); replace HK := Aside0.mk (KeepBut.trans (spec_l20Pays.calls_q1) hk (.inl rfl)); replace HB := Aside0.mk (hb); replace HI0 := Aside0.mk (hi); (try clear hb); (try clear hk hi)))
     go_ret
     exact ⟨_, g4_, uf1_ HO_7, spec_l20Pays.calls_q0, spec_l20Pays.calls_q2, spec_l20Pays.calls_q1⟩
end Go.Proofs.Ytigpmfoagkhaeaa.PU

namespace Go.Proofs.Ytigpmfoagkhaeaa.PU
open Go.RowKit Go.Proofs.YtigpmfoagkhaeaaW.PrintWords Go.Proofs.YtigpmfoagkhaeaaW.PrintLast Go.Proofs.YtigpmfoagkhaeaaW.PrintMore Go.Proofs.Ytigpmfoagkhaeaa.Qd
attribute [local go_sem] max2_int min2_int max_two min_two max_three min_three max_four min_four   -- for this text's walks alone
set_option linter.unusedVariables false
set_option linter.unusedSimpArgs false
def spec_l20Paid.f (k : Nat) (s0_0 : List Int) (s0_1 : Int) : Option (List Int × (List (List Int)) × (List (S36)) × Int) := (spec_l20Book.f k s0_0 s0_1 20).bind fun bt551 => ((spec_l20Pays.f k s0_0 bt551.2.2 bt551.1 bt551.2.1 14).bind fun bt559 => (some (bt551.1, bt551.2.1, bt559.1, bt559.2)))
theorem spec_l20Paid.mono : ∀ a0 a1 k, LeO (spec_l20Paid.f k a0 a1) (spec_l20Paid.f (k + 1) a0 a1) := by
 intro a0 a1 k
 unfold spec_l20Paid.f
 repeat' first
   | (with_reducible exact spec_l20Book.mono _ _ _ _)
   | (with_reducible exact spec_l20Pays.mono _ _ _ _ _ _)
   | (with_reducible exact LeO.refl _)
   | (with_reducible exact LeO.none _)
   | (with_reducible refine LeO.ite ?_ ?_)
   | (with_reducible refine LeO.bind ?_ (fun _ => ?_))
   | exact spec_l20Book.mono _ _ _ _
   | exact spec_l20Pays.mono _ _ _ _ _ _
   | exact LeO.none _
   | refine LeO.ite ?_ ?_
   | refine LeO.bind ?_ (fun _ => ?_)
theorem spec_l20Paid.calls_q0 {p : Prop} (h : p := by repeat (first | (with_reducible first | exact HI0.out | apply IsS79.alloc | apply IsS79.drewN | apply IsS79.drew | apply IsS79.set_1 | refine IsS79.far ?_ NB0_550.out _ | refine IsS79.far ?_ NB0_558.out _) | exact HI0.out)) : p := h
theorem spec_l20Paid.calls_q1 {p : Prop} (h : p := by repeat (first | (with_reducible first | exact HK.out | apply KeepBut.set_ | apply keep_drewN | apply keep_drew | apply keep_alloc | refine keep_far ?_ GW550.out _ | refine keep_far ?_ GW558.out _) | exact HK.out)) : p := h
theorem spec_l20Paid.calls_q2 {p : Prop} (h : p := by repeat (first | (with_reducible first | exact HB.out | apply below_alloc | apply pw_below_drewN | apply below_drew1 | refine below_set ?_ (IsS79.ge HI0.out) | refine below_set ?_ GE550.out | refine below_set ?_ GE558.out) | exact HB.out)) : p := h
set_option maxHeartbeats 8000000 in
set_option maxRecDepth 100000 in
theorem spec_l20Paid.calls (k : Nat) (g : Nat) (s0_0 : List Int) (s0_1 : Int) (r1 : List Int) (r2 : List (List Int)) (r3 : List (S36)) (r4 : Int) (w0 w : World) (hI : IsS79 w0 w g s0_0 s0_1) (hB : Below w0.heap.size w0 w) (h : spec_l20Paid.f k s0_0 s0_1 = some (r1, r2, r3, r4)) :
  Calls Try.prog 73 #[.pointer (some ⟨g, 0, none⟩)] w fun e w' => ∃ v0_ v1_ v2_ : Value, e = .returned (.tuple #[.agg #[v0_, v1_], v2_]) ∧ Kd.R (Kd.int .i64) 3 w' w.heap.size (fun k_ => (w.heap.size ≤ k_)) v0_ r1 ∧ Kd.V (Kd.slice 3 (Kd.int .i64)) 23 w' w.heap.size (fun k_ => (w.heap.size ≤ k_) ∧ some k_ ≠ (v0_ : Value).ownBlock ∧ some k_ ≠ (v2_ : Value).ownBlock) v1_ r2 ∧ Kd.R k36 36 w' w.heap.size (fun k_ => (w.heap.size ≤ k_)) v2_ r3 ∧ IsS79 w0 w' g s0_0 r4 ∧ Below w0.heap.size w0 w' ∧ KeepBut w w' g none := by
 have hu26 := Try.underlying26
 have HI0 := Aside0.mk hI
 have HK := Aside0.mk (KeepBut.refl w g none)
 have HL := Aside0.mk hB.size
 clear hI
 have HW0 := Aside0.mk hB.size
 have HB := Aside0.mk hB
 clear hB
 have H : ((spec_l20Book.f k s0_0 s0_1 20).bind fun bt551 => ((spec_l20Pays.f k s0_0 bt551.2.2 bt551.1 bt551.2.1 14).bind fun bt559 => (some (bt551.1, bt551.2.1, bt559.1, bt559.2)))) = some (r1, r2, r3, r4) := h
 clear h
 replace H := Option.bind_eq_some_iff.mp H
 obtain ⟨⟨t551, t554, t557⟩, A20, H⟩ := H
 replace H : ((spec_l20Pays.f k s0_0 t557 t551 t554 14).bind fun bt559 => (some (t551, t554, bt559.1, bt559.2))) = some (r1, r2, r3, r4) := H
 have A2 := Aside0.mk A20
 clear A20
 replace H := Option.bind_eq_some_iff.mp H
 obtain ⟨⟨t559, t562⟩, A30, H⟩ := H
 replace H : (some (t551, t554, t559, t562)) = some (r1, r2, r3, r4) := H
 have A3 := Aside0.mk A30
 clear A30
 simp only [Option.some.injEq, Prod.mk.injEq] at H
 obtain ⟨rfl, rfl, rfl, rfl⟩ := H
 go_enter Try.func73, Try.ntmps73
 try go_wp2_with (first | ((with_reducible refine gate_dst (N := 2) rfl ?_); refine bx_ (N := 2) #[.slice none 0 0, .slice none 0 0] 26 ?_; intro gb550 hg w4 hbox hb; replace HB := Aside0.mk (below_step (spec_l20Paid.calls_q2) hb); have BK550 := Aside0.mk (hbox); have GW550 := Aside0.mk ((g100_ : w.heap.size ≤ gb550)); have GE550 := Aside0.mk ((Nat.le_trans HW0.out (g100_ : w.heap.size ≤ gb550) : w0.heap.size ≤ gb550)); replace HK := Aside0.mk (KeepBut.trans (spec_l20Paid.calls_q1) (KeepBut.of_below hb g none) (.inl rfl)); have NB0_550 := Aside0.mk ((by rw [hg]; exact Nat.ne_of_lt (IsS79.lt (show IsS79 w0 _ g s0_0 s0_1 from spec_l20Paid.calls_q0)) : g ≠ gb550)); have NB550_0 := Aside0.mk ((by rw [hg]; exact Nat.ne_of_gt (IsS79.lt (show IsS79 w0 _ g s0_0 s0_1 from spec_l20Paid.calls_q0)) : gb550 ≠ g)); replace HI0 := Aside0.mk (IsS79.below (spec_l20Paid.calls_q0) hb); clear hb hbox hg) | ((with_reducible refine gate_callee (f := 52) rfl ?_); refine goesL_ (some 6) rfl rfl Try.func52 k_ rfl #[.pointer (some ⟨g, 0, none⟩), .int .i64 20] rfl (g2_) ?_; (with_reducible refine (spec_l20Book.calls k g s0_0 s0_1 20 t551 t554 t557 w0 _ ?side1 ?side2 A2.out).mono ?_); (case side1 => exact spec_l20Paid.calls_q0); (case side2 => exact spec_l20Paid.calls_q2); rintro e w5 ⟨v552, v555, rfl, ho0, ho1, hi, hb, hk⟩; refine ⟨_, rfl, ?_⟩; have HO553 := Aside0.mk (Kd.R_lower (Kd.R_newM (M := fun k_ => (w.heap.size ≤ k_)) (Kd.R_mono (ok' := fun k_ => True) ho0 (fun _ hk_ => trivial)) (keep_size (w := w) (g := g) (row := none) (spec_l20Paid.calls_q1)) (fun k_ h_ => h_)) (keep_size (w := w) (g := g) (row := none) (spec_l20Paid.calls_q1))); have HO556 := Aside0.mk (Kd.V_lower (Kd.V_mono (ok' := fun k_ => (w.heap.size ≤ k_) ∧ some k_ ≠ (v552 : Value).ownBlock ∧ k_ ≠ gb550 ∧ k_ ≠ g) ho1 (fun k_ hk_ => ⟨(Nat.le_trans (keep_size (w := w) (g := g) (row := none) (spec_l20Paid.calls_q1)) hk_.1), hk_.2, (Kd.freshB (g := gb550) (o := .cells #[.slice none 0 0, .slice none 0 0] 26 (0, 0)) (uf0_ BK550) k_ hk_.1), (IsS79.fresh (spec_l20Paid.calls_q0) k_ hk_.1)⟩)) (keep_size (w := w) (g := g) (row := none) (spec_l20Paid.calls_q1))); replace BK550 := Aside0.mk (KeepBut.blk hk (g' := gb550) (o := .cells #[.slice none 0 0, .slice none 0 0] 26 (0, 0)) (uf0_ BK550) NB550_0.out (by simp)); replace HK := Aside0.mk (KeepBut.trans (spec_l20Paid.calls_q1) hk (.inl rfl)); replace HB := Aside0.mk (hb); replace HI0 := Aside0.mk (hi); (try clear hb); (try clear hk hi); (try clear ho0); (try clear ho1)) | ((with_reducible refine gate_dst (N := 4) rfl ?_); refine bx_ (N := 4) #[.slice none 0 0, .slice none 0 0] 26 ?_; intro gb558 hg w6 hbox hb; replace HO553 := Aside0.mk (Kd.R_below (uf1_ HO553) hb); replace HO556 := Aside0.mk (Kd.V_below (Kd.V_elderB (uf5_ HO556) gb558 (Nat.le_of_eq hg.symm)) hb); replace HB := Aside0.mk (below_step (spec_l20Paid.calls_q2) hb); have BK558 := Aside0.mk (hbox); have GW558 := Aside0.mk ((g100_ : w.heap.size ≤ gb558)); have GE558 := Aside0.mk ((Nat.le_trans HW0.out (g100_ : w.heap.size ≤ gb558) : w0.heap.size ≤ gb558)); replace HK := Aside0.mk (KeepBut.trans (spec_l20Paid.calls_q1) (KeepBut.of_below hb g none) (.inl rfl)); have NB550_558 := Aside0.mk ((by rw [hg]; exact Nat.ne_of_lt (blk_lt (g := gb550) (o := .cells #[.slice none 0 0, .slice none 0 0] 26 (0, 0)) (uf0_ BK550)) : gb550 ≠ gb558)); have NB558_550 := Aside0.mk ((by rw [hg]; exact Nat.ne_of_gt (blk_lt (g := gb550) (o := .cells #[.slice none 0 0, .slice none 0 0] 26 (0, 0)) (uf0_ BK550)) : gb558 ≠ gb550)); replace BK550 := Aside0.mk (blk_below (g := gb550) (o := .cells #[.slice none 0 0, .slice none 0 0] 26 (0, 0)) (uf0_ BK550) hb); have NB0_558 := Aside0.mk ((by rw [hg]; exact Nat.ne_of_lt (IsS79.lt (show IsS79 w0 _ g s0_0 t557 from spec_l20Paid.calls_q0)) : g ≠ gb558)); have NB558_0 := Aside0.mk ((by rw [hg]; exact Nat.ne_of_gt (IsS79.lt (show IsS79 w0 _ g s0_0 t557 from spec_l20Paid.calls_q0)) : gb558 ≠ g)); replace HI0 := Aside0.mk (IsS79.below (spec_l20Paid.calls_q0) hb); clear hb hbox hg; obtain ⟨Ao7, co7, eo7⟩ := Kd.R_slice HO553.out; subst eo7; have hnb8 := NB558_550.out; have hnc8 := NB550_558.out; have hnb9 := NB558_0.out; have hnc9 := NB0_558.out; obtain ⟨hcz10_0, hcz10_1, hfz10_0, hfz10_1⟩ := blk2_ BK558; obtain ⟨Ao11, co11, eo11⟩ := Kd.V_slice HO556.out; subst eo11))
 have n0_ : Aside0 (Kd.R (Kd.int .i64) 3 ((w6.setCell ⟨gb558, 0, none⟩ (.slice Ao7 t551.length co7)).setCell ⟨gb558, 1, none⟩ (.slice Ao11 t554.length co11)) w.heap.size (fun k_ => (w.heap.size ≤ k_)) (.slice Ao7 t551.length co7) t551) := ⟨by (with_reducible repeat (first | apply Kd.R_alloc | apply Kd.R_drewN | apply Kd.R_drew)); exact Kd.R_mono (Kd.R_far (p := ⟨gb558, 1, none⟩) (Kd.R_far (p := ⟨gb558, 0, none⟩) (Kd.R_types HO553.out BK558.out (by decide)) (fun _ hk => hk.2) (.slice Ao7 t551.length co7)) (fun _ hk => hk.2) (.slice Ao11 t554.length co11)) (fun _ hk => hk.1.1)⟩
 have n1_ : Aside0 (Kd.V (Kd.slice 3 (Kd.int .i64)) 23 ((w6.setCell ⟨gb558, 0, none⟩ (.slice Ao7 t551.length co7)).setCell ⟨gb558, 1, none⟩ (.slice Ao11 t554.length co11)) w.heap.size (fun k_ => (w.heap.size ≤ k_) ∧ some k_ ≠ (.slice Ao7 t551.length co7 : Value).ownBlock ∧ k_ ≠ gb550 ∧ k_ ≠ g ∧ k_ ≠ gb558) (.slice Ao11 t554.length co11) t554) := ⟨by (with_reducible repeat (first | apply Kd.V_alloc | apply Kd.V_drewN | apply Kd.V_drew)); exact Kd.V_mono (Kd.V_far (p := ⟨gb558, 1, none⟩) (Kd.V_far (p := ⟨gb558, 0, none⟩) (Kd.V_mono HO556.out (fun k_ hk => (⟨hk, hk.2⟩ : _ ∧ k_ ≠ gb558))) (fun _ hk => hk.2) (.slice Ao7 t551.length co7)) (fun _ hk => hk.2) (.slice Ao11 t554.length co11)) (fun _ hk => ⟨hk.1.1.1, ⟨hk.1.1.2.1, ⟨hk.1.1.2.2.1, ⟨hk.1.1.2.2.2, hk.1.2⟩⟩⟩⟩)⟩
 have n2_ : Aside0 (((w6.setCell ⟨gb558, 0, none⟩ (.slice Ao7 t551.length co7)).setCell ⟨gb558, 1, none⟩ (.slice Ao11 t554.length co11)).heap[gb550]? = some (.cells #[.slice none 0 0, .slice none 0 0] 26 (0, 0))) := ⟨by (with_reducible repeat (first | refine blk_drewN ?_ _ | refine blk_drew ?_ | refine blk_alloc ?_ _)); refine blk_far ?_ NB550_558.out _; (with_reducible repeat (first | refine blk_drewN ?_ _ | refine blk_drew ?_ | refine blk_alloc ?_ _)); refine blk_far ?_ NB550_558.out _; (with_reducible repeat (first | refine blk_drewN ?_ _ | refine blk_drew ?_ | refine blk_alloc ?_ _)); exact BK550.out⟩
 have n3_ : Aside0 (((w6.setCell ⟨gb558, 0, none⟩ (.slice Ao7 t551.length co7)).setCell ⟨gb558, 1, none⟩ (.slice Ao11 t554.length co11)).heap[gb558]? = some (.cells #[.slice Ao7 t551.length co7, .slice Ao11 t554.length co11] 26 (0, 0))) := ⟨by (with_reducible repeat (first | refine blk_drewN ?_ _ | refine blk_drew ?_ | refine blk_alloc ?_ _)); refine blk_put (cs := #[.slice Ao7 t551.length co7, .slice none 0 0]) ?_ 1 _ rfl; (with_reducible repeat (first | refine blk_drewN ?_ _ | refine blk_drew ?_ | refine blk_alloc ?_ _)); refine blk_put (cs := #[.slice none 0 0, .slice none 0 0]) ?_ 0 _ rfl; (with_reducible repeat (first | refine blk_drewN ?_ _ | refine blk_drew ?_ | refine blk_alloc ?_ _)); exact BK558.out⟩
 have n4_ : Aside0 (IsS79 w0 ((w6.setCell ⟨gb558, 0, none⟩ (.slice Ao7 t551.length co7)).setCell ⟨gb558, 1, none⟩ (.slice Ao11 t554.length co11)) g s0_0 t557) := ⟨spec_l20Paid.calls_q0⟩
 have n5_ : Aside0 (KeepBut w ((w6.setCell ⟨gb558, 0, none⟩ (.slice Ao7 t551.length co7)).setCell ⟨gb558, 1, none⟩ (.slice Ao11 t554.length co11)) g none) := ⟨spec_l20Paid.calls_q1⟩
 have n6_ : Aside0 (Below w0.heap.size w0 ((w6.setCell ⟨gb558, 0, none⟩ (.slice Ao7 t551.length co7)).setCell ⟨gb558, 1, none⟩ (.slice Ao11 t554.length co11))) := ⟨spec_l20Paid.calls_q2⟩
 (try clear HO553)
 (try clear HO556)
 (try clear BK550)
 (try clear BK558)
 (try clear HI0)
 (try clear HK)
 (try clear HB)
 generalize ((w6.setCell ⟨gb558, 0, none⟩ (.slice Ao7 t551.length co7)).setCell ⟨gb558, 1, none⟩ (.slice Ao11 t554.length co11)) = w12 at n0_ n1_ n2_ n3_ n4_ n5_ n6_ ⊢
 have HO553 := n0_
 have HO556 := n1_
 have BK550 := n2_
 have BK558 := n3_
 have HI0 := n4_
 have HK := n5_
 have HB := n6_
 clear n0_ n1_ n2_ n3_ n4_ n5_ n6_
 replace HO553 := Aside0.mk (Kd.R_drew HO553.out)
 replace HO556 := Aside0.mk (Kd.V_drew HO556.out)
 replace BK550 := Aside0.mk (blk_drew BK550.out)
 replace BK558 := Aside0.mk (blk_drew BK558.out)
 replace HI0 := Aside0.mk (IsS79.drew HI0.out)
 replace HK := Aside0.mk (keep_drew HK.out)
 replace HB := Aside0.mk (below_drew1 HB.out)
 refine start_ (n := 6) (S := fun w' => w'.cell? ⟨gb558, 0, none⟩ = some (.slice Ao7 t551.length co7) ∧ w'.cell? ⟨gb558, 1, none⟩ = some (.slice Ao11 t554.length co11)) (ds := []) (tl_ 6 0) (g0_) rfl (g0_) ⟨(blk_cell BK558.out 0).trans rfl, (blk_cell BK558.out 1).trans rfl⟩ (fun hHeld => ?_)
 generalize w12.drew = w13 at HO553 HO556 BK550 BK558 HI0 HK HB hHeld ⊢
 refine pure_ (i := 1) (N := some 8) (v := ?_) (a' := ?_) (tl_ 6 2) rfl rfl (g0_) (fun _ _ _ h => h) (Or.inl ⟨by rfl, ?_⟩) ?_ ?_
 rotate_left
 ·intro w'
  go_simp
  with_reducible rfl
 rotate_left
 ·simp only [Act.put, List.setIfInBounds_toArray, List.set_cons_zero, List.set_cons_succ, i64_w, i32_w]
  rfl
 refine take_ (i := 0) (N := some 7) (v := ?_) (a' := ?_) (tl_ 6 3) rfl rfl (g0_) (fun _ _ _ h => h) (Or.inl ⟨by rfl, ?_⟩) hHeld ?_ ?_
 rotate_left
 ·rintro w' ⟨s0, s1⟩
  go_simp
  with_reducible rfl
 rotate_left
 ·simp only [Act.put, List.setIfInBounds_toArray, List.set_cons_zero, List.set_cons_succ, i64_w, i32_w]
  rfl
 refine take_ (i := 2) (N := some 9) (v := ?_) (a' := ?_) (tl_ 6 7) rfl rfl (g0_) (fun _ _ _ h => h) (Or.inl ⟨by rfl, ?_⟩) hHeld ?_ ?_
 rotate_left
 ·rintro w' ⟨s0, s1⟩
  go_simp
  with_reducible rfl
 rotate_left
 ·simp only [Act.put, List.setIfInBounds_toArray, List.set_cons_zero, List.set_cons_succ, i64_w, i32_w]
  rfl
 refine one_ (i := 3) (N := some 10) (tl_ 6 15) rfl rfl (g0_) (by decide) (fun K hK => ?_)
 refine goes_ Try.func71 (g0_) rfl #[.pointer (some ⟨g, 0, none⟩), .agg #[.slice Ao7 t551.length co7, .slice Ao11 t554.length co11], .int .i64 14] (by rfl) rfl rfl (g2_) ?_
 with_reducible refine (spec_l20Pays.calls k g s0_0 t557 _ _ t551 _ _ t554 14 t559 t562 w0 _ ?side1 ?side2 ?side3 ?side4 ?side5 ?side6 ?side7 A3.out).mono ?_
 (case side1 => exact spec_l20Paid.calls_q0)
 (case side2 => exact spec_l20Paid.calls_q2)
 (case side3 => repeat (first | exact (Kd.R_reads' HO553.out).2.2 | (with_reducible refine Kd.C_alloc ?_ _) | (with_reducible refine Kd.C_drewN ?_ _) | (with_reducible refine Kd.C_drew ?_)))
 (case side4 => exact (Kd.R_reads' HO553.out).2.1)
 (case side5 => exact far_slice (IsS79.own_ne HI0.out HO553.out (by decide)))
 (case side6 => exact Kd.C_foot_ownV (e := 0) (base := 0) (Kd.V_mono (ok := fun k_ => (((w.heap.size ≤ k_)) ∧ (some k_ ≠ (.slice Ao7 t551.length co7 : Value).ownBlock ∧ (k_ ≠ gb550 ∧ (k_ ≠ g ∧ k_ ≠ gb558))))) (uf5_ HO556) (fun k_ hk_ => (⟨hk_, hk_.2.2.2.1⟩ : _ ∧ k_ ≠ g))) (fun _ h_ => h_.2))
 (case side7 => exact (Kd.V_reads' HO556.out).2.1)
 rintro e w14 ⟨v560, rfl, ho0, hi, hb, hk⟩
 refine ⟨_, rfl, ?_⟩
 replace BK550 := Aside0.mk (KeepBut.blk hk (g' := gb550) (o := .cells #[.slice none 0 0, .slice none 0 0] 26 (0, 0)) (uf0_ BK550) NB550_0.out (by simp))
 replace HO553 := Aside0.mk (Kd.R_mono (Kd.R_keep (IsS79.apart (show IsS79 w0 _ g s0_0 t557 from spec_l20Paid.calls_q0) (uf1_ HO553) (by decide)) hk (fun _ h => h.2)) (fun _ h => h.1))
 replace HO556 := Aside0.mk (Kd.V_mono (Kd.V_told (Kd.V_oldK (Kd.V_mono (ok := fun k_ => (((w.heap.size ≤ k_)) ∧ (some k_ ≠ (.slice Ao7 t551.length co7 : Value).ownBlock ∧ (k_ ≠ gb550 ∧ (k_ ≠ g ∧ k_ ≠ gb558))))) (uf5_ HO556) (fun k_ hk_ => (⟨hk_, hk_.2.2.2.1⟩ : _ ∧ k_ ≠ g))) hk) (Kd.R_base ho0)) (fun _ h_ => h_.1))
 replace BK558 := Aside0.mk (KeepBut.blk hk (g' := gb558) (o := .cells #[.slice Ao7 t551.length co7, .slice Ao11 t554.length co11] 26 (0, 0)) (uf0_ BK558) NB558_0.out (by simp))
 have HO561 := Aside0.mk (Kd.R_lower (Kd.R_newM (M := fun k_ => (w.heap.size ≤ k_)) ho0 (keep_size (w := w) (g := g) (row := none) (spec_l20Paid.calls_q1)) (fun k_ h_ => h_)) (keep_size (w := w) (g := g) (row := none) (spec_l20Paid.calls_q1)))
 replace HK := Aside0.mk (KeepBut.trans (spec_l20Paid.calls_q1) hk (.inl rfl))
 replace HB := Aside0.mk (hb)
 replace HI0 := Aside0.mk (hi)
 (try clear hb)
 (try clear hk hi)
 (try clear ho0)
 refine hK.out _ _ ⟨(blk_cell BK558.out 0).trans rfl, (blk_cell BK558.out 1).trans rfl⟩ (fun hHeld => ?_)
 clear hK K
 refine nm_ ?_
 refine one_ (i := 4) (N := none) (tl_ 6 31) rfl rfl (g0_) (by decide) (fun K hK => ?_)
 have hs15 : w14.cell? ⟨gb550, 0, none⟩ = some (.slice none 0 0) := (blk_cell BK550.out 0).trans rfl
 have hfs15 := blk_frozen BK550.out 0
 have hns15_1 := NB558_550.out
 have hms15_1 := NB550_558.out
 have hs16 : w14.cell? ⟨gb550, 1, none⟩ = some (.slice none 0 0) := (blk_cell BK550.out 1).trans rfl
 have hfs16 := blk_frozen BK550.out 1
 have hns16_1 := NB558_550.out
 have hms16_1 := NB550_558.out
 refine skip_ (w1 := ?_) (by rfl) rfl ?_ ?_
 rotate_left
 ·go_simp
  rfl
 refine hK.out _ _ ⟨((cell_far (p := ⟨gb550, _, none⟩) NB558_550.out _).trans (((cell_far (p := ⟨gb550, _, none⟩) NB558_550.out _).trans (hHeld.1)))), ((cell_far (p := ⟨gb550, _, none⟩) NB558_550.out _).trans (((cell_far (p := ⟨gb550, _, none⟩) NB558_550.out _).trans (hHeld.2))))⟩ (fun hHeld => ?_)
 clear hK K
 refine pure_ (i := 5) (N := some 3) (v := ?_) (a' := ?_) (tl_ 6 63) rfl rfl (g0_) (fun _ _ _ h => h) (Or.inl ⟨by rfl, ?_⟩) ?_ ?_
 rotate_left
 ·intro w'
  go_simp
  with_reducible rfl
 rotate_left
 ·simp only [Act.put, List.setIfInBounds_toArray, List.set_cons_zero, List.set_cons_succ, i64_w, i32_w]
  rfl
 refine done_ (g0_) ?_
 try go_wp2
 refine bodyPost_ret (results_ct rfl _ _ gb550 26 #[.slice Ao7 t551.length co7, .slice Ao11 t554.length co11] (0, 0) _ rfl (by (with_reducible repeat (first | refine blk_drewN ?_ _ | refine blk_drew ?_ | refine blk_alloc ?_ _)); refine blk_put (cs := #[.slice Ao7 t551.length co7, .slice none 0 0]) ?_ 1 _ rfl; (with_reducible repeat (first | refine blk_drewN ?_ _ | refine blk_drew ?_ | refine blk_alloc ?_ _)); refine blk_put (cs := #[.slice none 0 0, .slice none 0 0]) ?_ 0 _ rfl; (with_reducible repeat (first | refine blk_drewN ?_ _ | refine blk_drew ?_ | refine blk_alloc ?_ _)); exact BK550.out) Try.underlying26 rfl (g0_)) rfl ?_
 exact ⟨_, _, _, g4_, by (with_reducible repeat (first | apply Kd.R_alloc | apply Kd.R_drewN | apply Kd.R_drew)); exact Kd.R_mono (Kd.R_far (p := ⟨gb550, 1, none⟩) (Kd.R_far (p := ⟨gb550, 0, none⟩) (Kd.R_types HO553.out BK550.out (by decide)) (fun _ hk => hk.2) (.slice Ao7 t551.length co7)) (fun _ hk => hk.2) (.slice Ao11 t554.length co11)) (fun _ hk => hk.1), by (with_reducible repeat (first | apply Kd.V_alloc | apply Kd.V_drewN | apply Kd.V_drew)); exact Kd.V_mono (Kd.V_far (p := ⟨gb550, 1, none⟩) (Kd.V_far (p := ⟨gb550, 0, none⟩) (Kd.V_mono HO556.out (fun k_ hk => (⟨hk, hk.1.2.2.1⟩ : _ ∧ k_ ≠ gb550))) (fun _ hk => hk.2) (.slice Ao7 t551.length co7)) (fun _ hk => hk.2) (.slice Ao11 t554.length co11)) (fun _ hk => ⟨hk.1.1.1, ⟨hk.1.1.2.1, hk.1.2⟩⟩), by (with_reducible repeat (first | apply Kd.R_alloc | apply Kd.R_drewN | apply Kd.R_drew)); exact Kd.R_mono (Kd.R_far (p := ⟨gb550, 1, none⟩) (Kd.R_far (p := ⟨gb550, 0, none⟩) (Kd.R_types HO561.out BK550.out (by decide)) (fun _ hk => hk.2) (.slice Ao7 t551.length co7)) (fun _ hk => hk.2) (.slice Ao11 t554.length co11)) (fun _ hk => hk.1.1), spec_l20Paid.calls_q0, spec_l20Paid.calls_q2, spec_l20Paid.calls_q1⟩
end Go.Proofs.Ytigpmfoagkhaeaa.PU

namespace Go.Proofs.Ytigpmfoagkhaeaa.PU
open Go.RowKit Go.Proofs.YtigpmfoagkhaeaaW.PrintWords Go.Proofs.YtigpmfoagkhaeaaW.PrintLast Go.Proofs.YtigpmfoagkhaeaaW.PrintMore Go.Proofs.Ytigpmfoagkhaeaa.Qd
attribute [local go_sem] max2_int min2_int max_two min_two max_three min_three max_four min_four   -- for this text's walks alone
set_option linter.unusedVariables false
set_option linter.unusedSimpArgs false
def spec_DrawFallsWith.f (k : Nat) (l0 : List Int) : Option (List Int × (List (List Int)) × (List (S36))) := (spec_l20Open.f l0).bind fun bt782 => ((spec_l20Paid.f k bt782.1 bt782.2).bind fun bt785 => (some (bt785.1, bt785.2.1, bt785.2.2.1)))
theorem spec_DrawFallsWith.mono : ∀ a0 k, LeO (spec_DrawFallsWith.f k a0) (spec_DrawFallsWith.f (k + 1) a0) := by
 intro a0 k
 unfold spec_DrawFallsWith.f
 repeat' first
   | (with_reducible exact spec_l20Paid.mono _ _ _)
   | (with_reducible exact LeO.refl _)
   | (with_reducible exact LeO.none _)
   | (with_reducible refine LeO.ite ?_ ?_)
   | (with_reducible refine LeO.bind ?_ (fun _ => ?_))
   | exact spec_l20Paid.mono _ _ _
   | exact LeO.none _
   | refine LeO.ite ?_ ?_
   | refine LeO.bind ?_ (fun _ => ?_)
theorem spec_DrawFallsWith.calls_q0 {p : Prop} (h : p := by repeat (first | (with_reducible first | exact HB.out | apply below_alloc | apply pw_below_drewN | apply below_drew1 | refine below_set ?_ GE781.out | refine below_set ?_ (IsS79.ge HI784.out)) | exact HB.out)) : p := h
theorem spec_DrawFallsWith.calls_q1 {p : Prop} (h : p := by repeat (first | (with_reducible first | exact HI784.out | apply IsS79.alloc | apply IsS79.drewN | apply IsS79.drew | apply IsS79.set_1 | refine IsS79.far ?_ NB784_781.out _) | exact HI784.out)) : p := h
set_option maxHeartbeats 8000000 in
set_option maxRecDepth 100000 in
theorem spec_DrawFallsWith.calls (k : Nat) (A0 : Option Addr) (c0 : Nat) (l0 : List Int) (r1 : List Int) (r2 : List (List Int)) (r3 : List (S36)) (w : World) (hr0 : Kd.C (Kd.int .u8) w A0 l0.length l0) (hc0 : l0.length ≤ c0) (h : spec_DrawFallsWith.f k l0 = some (r1, r2, r3)) :
  Calls Try.prog 38 #[.slice A0 l0.length c0] w fun e w' => ∃ v0_ v1_ v2_ : Value, e = .returned (.tuple #[.agg #[v0_, v1_], v2_]) ∧ Kd.R (Kd.int .i64) 3 w' w.heap.size (fun k_ => (w.heap.size ≤ k_)) v0_ r1 ∧ Kd.V (Kd.slice 3 (Kd.int .i64)) 23 w' w.heap.size (fun k_ => (w.heap.size ≤ k_) ∧ some k_ ≠ (v0_ : Value).ownBlock ∧ some k_ ≠ (v2_ : Value).ownBlock) v1_ r2 ∧ Kd.R k36 36 w' w.heap.size (fun k_ => (w.heap.size ≤ k_)) v2_ r3 ∧ Below w.heap.size w w' := by
 have hu26 := Try.underlying26
 have HR0 := Aside0.mk hr0
 have HC0 := Aside0.mk hc0
 clear hr0 hc0
 have HB := Aside0.mk (Below.refl w.heap.size w)
 have H : ((spec_l20Open.f l0).bind fun bt782 => ((spec_l20Paid.f k bt782.1 bt782.2).bind fun bt785 => (some (bt785.1, bt785.2.1, bt785.2.2.1)))) = some (r1, r2, r3) := h
 clear h
 replace H := Option.bind_eq_some_iff.mp H
 obtain ⟨⟨t782, t783⟩, A20, H⟩ := H
 replace H : ((spec_l20Paid.f k t782 t783).bind fun bt785 => (some (bt785.1, bt785.2.1, bt785.2.2.1))) = some (r1, r2, r3) := H
 have A2 := Aside0.mk A20
 clear A20
 replace H := Option.bind_eq_some_iff.mp H
 obtain ⟨⟨t785, t788, t791, t794⟩, A30, H⟩ := H
 replace H : (some (t785, t788, t791)) = some (r1, r2, r3) := H
 have A3 := Aside0.mk A30
 clear A30
 simp only [Option.some.injEq, Prod.mk.injEq] at H
 obtain ⟨rfl, rfl, rfl⟩ := H
 go_enter Try.func38, Try.ntmps38
 go_wp2_with (first | ((with_reducible refine gate_dst (N := 2) rfl ?_); refine bx_ (N := 2) #[.slice none 0 0, .slice none 0 0] 26 ?_; intro gb781 hg w4 hbox hb; have BK781 := Aside0.mk (hbox); have GW781 := Aside0.mk ((by rw [hg]; exact (below_size (spec_DrawFallsWith.calls_q0)) : w.heap.size ≤ gb781)); have GE781 := Aside0.mk ((by rw [hg]; exact (below_size (spec_DrawFallsWith.calls_q0)) : w.heap.size ≤ gb781)); replace HB := Aside0.mk (below_step (spec_DrawFallsWith.calls_q0) hb); clear hb hbox hg) | ((with_reducible refine gate_callee (f := 53) rfl ?_); refine goesL_ (some 5) rfl rfl Try.func53 k_ rfl #[.slice A0 l0.length c0] rfl (g2_) ?_; (with_reducible refine (spec_l20Open.calls _ _ l0 t782 t783 w _ ?side1 ?side2 ?side3 A2.out).mono ?_); (case side1 => exact spec_DrawFallsWith.calls_q0); (case side2 => exact HR0.out); (case side3 => exact HC0.out); rintro e w5 ⟨g784, rfl, hi, hb, hb2⟩; refine ⟨_, rfl, ?_⟩; replace HB := Aside0.mk (hb); have HI784 := Aside0.mk (hi); have NB784_781 := Aside0.mk (IsS79.ne_blk hi (blk_below (g := gb781) (o := .cells #[.slice none 0 0, .slice none 0 0] 26 (0, 0)) (uf0_ BK781) hb2) (by decide)); have NB781_784 := Aside0.mk (Ne.symm (IsS79.ne_blk hi (blk_below (g := gb781) (o := .cells #[.slice none 0 0, .slice none 0 0] 26 (0, 0)) (uf0_ BK781) hb2) (by decide))); replace BK781 := Aside0.mk (blk_below (g := gb781) (o := .cells #[.slice none 0 0, .slice none 0 0] 26 (0, 0)) (uf0_ BK781) hb2); (try clear hb); (try clear hb2); (try clear hk); (try clear hi)) | ((with_reducible refine gate_callee (f := 73) rfl ?_); refine goesL_ (some 6) rfl rfl Try.func73 k_ rfl #[.pointer (some ⟨g784, 0, none⟩)] rfl (g2_) ?_; (with_reducible refine (spec_l20Paid.calls k g784 t782 t783 t785 t788 t791 t794 w _ ?side1 ?side2 A3.out).mono ?_); (case side1 => exact spec_DrawFallsWith.calls_q1); (case side2 => exact spec_DrawFallsWith.calls_q0); rintro e w6 ⟨v786, v789, v792, rfl, ho0, ho1, ho2, hi, hb, hk⟩; refine ⟨_, rfl, ?_⟩; have HO787 := Aside0.mk (Kd.R_lower (Kd.R_newM (M := fun k_ => (w.heap.size ≤ k_)) (Kd.R_mono (ok' := fun k_ => True) ho0 (fun _ hk_ => trivial)) (below_size (spec_DrawFallsWith.calls_q0)) (fun k_ h_ => h_)) (below_size (spec_DrawFallsWith.calls_q0))); have HO790 := Aside0.mk (Kd.V_lower (Kd.V_mono (ok' := fun k_ => (w.heap.size ≤ k_) ∧ some k_ ≠ (v786 : Value).ownBlock ∧ some k_ ≠ (v792 : Value).ownBlock ∧ k_ ≠ gb781 ∧ k_ ≠ g784) ho1 (fun k_ hk_ => ⟨(Nat.le_trans (below_size (spec_DrawFallsWith.calls_q0)) hk_.1), hk_.2.1, hk_.2.2, (Kd.freshB (g := gb781) (o := .cells #[.slice none 0 0, .slice none 0 0] 26 (0, 0)) (uf0_ BK781) k_ hk_.1), (IsS79.fresh (spec_DrawFallsWith.calls_q1) k_ hk_.1)⟩)) (below_size (spec_DrawFallsWith.calls_q0))); replace BK781 := Aside0.mk (KeepBut.blk hk (g' := gb781) (o := .cells #[.slice none 0 0, .slice none 0 0] 26 (0, 0)) (uf0_ BK781) NB781_784.out (by simp)); have HO793 := Aside0.mk (Kd.R_lower (Kd.R_newM (M := fun k_ => (w.heap.size ≤ k_)) (Kd.R_mono (ok' := fun k_ => True) ho2 (fun _ hk_ => trivial)) (below_size (spec_DrawFallsWith.calls_q0)) (fun k_ h_ => h_)) (below_size (spec_DrawFallsWith.calls_q0))); replace HB := Aside0.mk (hb); replace HI784 := Aside0.mk (hi); (try clear hb); (try clear hb2); (try clear hk); (try clear hi); (try clear ho0); (try clear ho1); (try clear ho2); obtain ⟨Ao7, co7, eo7⟩ := Kd.R_slice HO787.out; subst eo7; have hnb8 := NB781_784.out; have hnc8 := NB784_781.out; obtain ⟨hcz9_0, hcz9_1, hfz9_0, hfz9_1⟩ := blk2_ BK781; obtain ⟨Ao10, co10, eo10⟩ := Kd.V_slice HO790.out; subst eo10))
 refine bodyPost_ret (results_ct rfl _ _ gb781 26 #[.slice Ao7 t785.length co7, .slice Ao10 t788.length co10] (0, 0) _ rfl (by (with_reducible repeat (first | refine blk_drewN ?_ _ | refine blk_drew ?_ | refine blk_alloc ?_ _)); refine blk_put (cs := #[.slice Ao7 t785.length co7, .slice none 0 0]) ?_ 1 _ rfl; (with_reducible repeat (first | refine blk_drewN ?_ _ | refine blk_drew ?_ | refine blk_alloc ?_ _)); refine blk_put (cs := #[.slice none 0 0, .slice none 0 0]) ?_ 0 _ rfl; (with_reducible repeat (first | refine blk_drewN ?_ _ | refine blk_drew ?_ | refine blk_alloc ?_ _)); exact BK781.out) Try.underlying26 rfl (g0_)) rfl ?_
 exact ⟨_, _, _, g4_, by (with_reducible repeat (first | apply Kd.R_alloc | apply Kd.R_drewN | apply Kd.R_drew)); exact Kd.R_mono (Kd.R_far (p := ⟨gb781, 1, none⟩) (Kd.R_far (p := ⟨gb781, 0, none⟩) (Kd.R_types HO787.out BK781.out (by decide)) (fun _ hk => hk.2) (.slice Ao7 t785.length co7)) (fun _ hk => hk.2) (.slice Ao10 t788.length co10)) (fun _ hk => hk.1.1), by (with_reducible repeat (first | apply Kd.V_alloc | apply Kd.V_drewN | apply Kd.V_drew)); exact Kd.V_mono (Kd.V_far (p := ⟨gb781, 1, none⟩) (Kd.V_far (p := ⟨gb781, 0, none⟩) (Kd.V_mono HO790.out (fun k_ hk => (⟨hk, hk.2.2.2.1⟩ : _ ∧ k_ ≠ gb781))) (fun _ hk => hk.2) (.slice Ao7 t785.length co7)) (fun _ hk => hk.2) (.slice Ao10 t788.length co10)) (fun _ hk => ⟨hk.1.1, ⟨hk.1.2.1, hk.1.2.2.1⟩⟩), by (with_reducible repeat (first | apply Kd.R_alloc | apply Kd.R_drewN | apply Kd.R_drew)); exact Kd.R_mono (Kd.R_far (p := ⟨gb781, 1, none⟩) (Kd.R_far (p := ⟨gb781, 0, none⟩) (Kd.R_types HO793.out BK781.out (by decide)) (fun _ hk => hk.2) (.slice Ao7 t785.length co7)) (fun _ hk => hk.2) (.slice Ao10 t788.length co10)) (fun _ hk => hk.1.1), spec_DrawFallsWith.calls_q0⟩
end Go.Proofs.Ytigpmfoagkhaeaa.PU

namespace Go.Proofs.Ytigpmfoagkhaeaa.PU
open Go.RowKit Go.Proofs.YtigpmfoagkhaeaaW.PrintWords Go.Proofs.YtigpmfoagkhaeaaW.PrintLast Go.Proofs.YtigpmfoagkhaeaaW.PrintMore Go.Proofs.Ytigpmfoagkhaeaa.Qd
attribute [local go_sem] max2_int min2_int max_two min_two max_three min_three max_four min_four   -- for this text's walks alone
set_option linter.unusedVariables false
set_option linter.unusedSimpArgs false
def cmp_isNaN_int.f (a0 : Int) : Option (Bool) := some (a0 != a0)
set_option maxHeartbeats 8000000 in
set_option maxRecDepth 100000 in
theorem cmp_isNaN_int.calls (a0 : Int) (r : Bool) (w : World) (h : cmp_isNaN_int.f a0 = some r) :
  Calls Try.prog 101 #[.int .i64 a0] w fun e w' => e = .returned (.bool r) ∧ Drawn0 w w' := by
 have H : (some (a0 != a0)) = some r := h
 clear h
 obtain rfl := Option.some.inj H
 go_enter Try.func101, Try.ntmps101
 go_wp2
 go_ret
 exact ⟨g3_, g5_⟩
end Go.Proofs.Ytigpmfoagkhaeaa.PU

namespace Go.Proofs.Ytigpmfoagkhaeaa.PU
open Go.RowKit Go.Proofs.YtigpmfoagkhaeaaW.PrintWords Go.Proofs.YtigpmfoagkhaeaaW.PrintLast Go.Proofs.YtigpmfoagkhaeaaW.PrintMore Go.Proofs.Ytigpmfoagkhaeaa.Qd
attribute [local go_sem] max2_int min2_int max_two min_two max_three min_three max_four min_four   -- for this text's walks alone
set_option linter.unusedVariables false
set_option linter.unusedSimpArgs false
def cmp_Compare_int.f (a0 : Int) (a1 : Int) : Option (Int) := (cmp_isNaN_int.f a0).bind fun t221 => ((cmp_isNaN_int.f a1).bind fun t222 => (if t221 = true then (if t222 = true then (some 0) else (some (-1))) else (if t222 = true then (some 1) else (if a0 < a1 then (some (-1)) else (if a0 > a1 then (some 1) else (some 0))))))
set_option maxHeartbeats 8000000 in
set_option maxRecDepth 100000 in
theorem cmp_Compare_int.calls (a0 : Int) (a1 : Int) (r : Int) (w : World) (h : cmp_Compare_int.f a0 a1 = some r) :
  Calls Try.prog 98 #[.int .i64 a0, .int .i64 a1] w fun e w' => e = .returned (.int .i64 r) ∧ Drawn0 w w' := by
 have H : ((cmp_isNaN_int.f a0).bind fun t221 => ((cmp_isNaN_int.f a1).bind fun t222 => (if t221 = true then (if t222 = true then (some 0) else (some (-1))) else (if t222 = true then (some 1) else (if a0 < a1 then (some (-1)) else (if a0 > a1 then (some 1) else (some 0))))))) = some r := h
 clear h
 obtain ⟨t221, A3, H⟩ := bind_ H
 obtain ⟨t222, A4, H⟩ := bind_ H
 by_cases c5 : t221 = true
 ·subst c5
  replace H := ifp_ H
  by_cases c6 : t222 = true
  ·subst c6
   replace H := ifp_ H
   obtain rfl := Option.some.inj H
   go_enter Try.func98, Try.ntmps98
   go_wp2_with (first | ((with_reducible refine gate_callee (f := 101) rfl ?_); refine goesL_ (some 8) rfl rfl Try.func101 k_ rfl #[.int .i64 a0] rfl (g2_) ?_; (with_reducible refine (cmp_isNaN_int.calls a0 true _ A3.out).mono ?_); rintro e w' ⟨rfl, ⟨nd, rfl⟩⟩; refine ⟨_, rfl, ?_⟩) | ((with_reducible refine gate_callee (f := 101) rfl ?_); refine goesL_ (some 10) rfl rfl Try.func101 k_ rfl #[.int .i64 a1] rfl (g2_) ?_; (with_reducible refine (cmp_isNaN_int.calls a1 true _ A4.out).mono ?_); rintro e w' ⟨rfl, ⟨nd, rfl⟩⟩; refine ⟨_, rfl, ?_⟩))
   go_ret
   exact ⟨g3_, g5_⟩
  ·replace c6 := Bool.eq_false_iff.mpr c6
   subst c6
   replace H := ifn_ H
   obtain rfl := Option.some.inj H
   go_enter Try.func98, Try.ntmps98
   go_wp2_with (first | ((with_reducible refine gate_callee (f := 101) rfl ?_); refine goesL_ (some 8) rfl rfl Try.func101 k_ rfl #[.int .i64 a0] rfl (g2_) ?_; (with_reducible refine (cmp_isNaN_int.calls a0 true _ A3.out).mono ?_); rintro e w' ⟨rfl, ⟨nd, rfl⟩⟩; refine ⟨_, rfl, ?_⟩) | ((with_reducible refine gate_callee (f := 101) rfl ?_); refine goesL_ (some 10) rfl rfl Try.func101 k_ rfl #[.int .i64 a1] rfl (g2_) ?_; (with_reducible refine (cmp_isNaN_int.calls a1 false _ A4.out).mono ?_); rintro e w' ⟨rfl, ⟨nd, rfl⟩⟩; refine ⟨_, rfl, ?_⟩))
   go_ret
   exact ⟨g3_, g5_⟩
 ·replace c5 := Bool.eq_false_iff.mpr c5
  subst c5
  replace H := ifn_ H
  by_cases c7 : t222 = true
  ·subst c7
   replace H := ifp_ H
   obtain rfl := Option.some.inj H
   go_enter Try.func98, Try.ntmps98
   go_wp2_with (first | ((with_reducible refine gate_callee (f := 101) rfl ?_); refine goesL_ (some 8) rfl rfl Try.func101 k_ rfl #[.int .i64 a0] rfl (g2_) ?_; (with_reducible refine (cmp_isNaN_int.calls a0 false _ A3.out).mono ?_); rintro e w' ⟨rfl, ⟨nd, rfl⟩⟩; refine ⟨_, rfl, ?_⟩) | ((with_reducible refine gate_callee (f := 101) rfl ?_); refine goesL_ (some 10) rfl rfl Try.func101 k_ rfl #[.int .i64 a1] rfl (g2_) ?_; (with_reducible refine (cmp_isNaN_int.calls a1 true _ A4.out).mono ?_); rintro e w' ⟨rfl, ⟨nd, rfl⟩⟩; refine ⟨_, rfl, ?_⟩))
   go_ret
   exact ⟨g3_, g5_⟩
  ·replace c7 := Bool.eq_false_iff.mpr c7
   subst c7
   replace H := ifn_ H
   by_cases c8 : a0 < a1
   ·rw [if_pos c8] at H
    have c8b0 := decide_eq_true c8
    clear c8
    obtain rfl := Option.some.inj H
    go_enter Try.func98, Try.ntmps98
    go_wp2_with (first | ((with_reducible refine gate_callee (f := 101) rfl ?_); refine goesL_ (some 8) rfl rfl Try.func101 k_ rfl #[.int .i64 a0] rfl (g2_) ?_; (with_reducible refine (cmp_isNaN_int.calls a0 false _ A3.out).mono ?_); rintro e w' ⟨rfl, ⟨nd, rfl⟩⟩; refine ⟨_, rfl, ?_⟩) | ((with_reducible refine gate_callee (f := 101) rfl ?_); refine goesL_ (some 10) rfl rfl Try.func101 k_ rfl #[.int .i64 a1] rfl (g2_) ?_; (with_reducible refine (cmp_isNaN_int.calls a1 false _ A4.out).mono ?_); rintro e w' ⟨rfl, ⟨nd, rfl⟩⟩; refine ⟨_, rfl, ?_⟩))
    go_ret
    exact ⟨g3_, g5_⟩
   ·rw [if_neg c8] at H
    have c8b0 := decide_eq_false c8
    clear c8
    by_cases c9 : a0 > a1
    ·rw [if_pos c9] at H
     have c9b0 := decide_eq_true c9
     clear c9
     obtain rfl := Option.some.inj H
     go_enter Try.func98, Try.ntmps98
     go_wp2_with (first | ((with_reducible refine gate_callee (f := 101) rfl ?_); refine goesL_ (some 8) rfl rfl Try.func101 k_ rfl #[.int .i64 a0] rfl (g2_) ?_; (with_reducible refine (cmp_isNaN_int.calls a0 false _ A3.out).mono ?_); rintro e w' ⟨rfl, ⟨nd, rfl⟩⟩; refine ⟨_, rfl, ?_⟩) | ((with_reducible refine gate_callee (f := 101) rfl ?_); refine goesL_ (some 10) rfl rfl Try.func101 k_ rfl #[.int .i64 a1] rfl (g2_) ?_; (with_reducible refine (cmp_isNaN_int.calls a1 false _ A4.out).mono ?_); rintro e w' ⟨rfl, ⟨nd, rfl⟩⟩; refine ⟨_, rfl, ?_⟩))
     go_ret
     exact ⟨g3_, g5_⟩
    ·rw [if_neg c9] at H
     have c9b0 := decide_eq_false c9
     clear c9
     obtain rfl := Option.some.inj H
     go_enter Try.func98, Try.ntmps98
     go_wp2_with (first | ((with_reducible refine gate_callee (f := 101) rfl ?_); refine goesL_ (some 8) rfl rfl Try.func101 k_ rfl #[.int .i64 a0] rfl (g2_) ?_; (with_reducible refine (cmp_isNaN_int.calls a0 false _ A3.out).mono ?_); rintro e w' ⟨rfl, ⟨nd, rfl⟩⟩; refine ⟨_, rfl, ?_⟩) | ((with_reducible refine gate_callee (f := 101) rfl ?_); refine goesL_ (some 10) rfl rfl Try.func101 k_ rfl #[.int .i64 a1] rfl (g2_) ?_; (with_reducible refine (cmp_isNaN_int.calls a1 false _ A4.out).mono ?_); rintro e w' ⟨rfl, ⟨nd, rfl⟩⟩; refine ⟨_, rfl, ?_⟩))
     go_ret
     exact ⟨g3_, g5_⟩
end Go.Proofs.Ytigpmfoagkhaeaa.PU

namespace Go.Proofs.Ytigpmfoagkhaeaa.PU
open Go.RowKit Go.Proofs.YtigpmfoagkhaeaaW.PrintWords Go.Proofs.YtigpmfoagkhaeaaW.PrintLast Go.Proofs.YtigpmfoagkhaeaaW.PrintMore Go.Proofs.Ytigpmfoagkhaeaa.Qd
attribute [local go_sem] max2_int min2_int max_two min_two max_three min_three max_four min_four   -- for this text's walks alone
set_option linter.unusedVariables false
set_option linter.unusedSimpArgs false
def impl_compare.f (a0_0 : Int) (a0_1 : Int) (a1_0 : Int) (a1_1 : Int) : Option (Int) := (cmp_Compare_int.f (wrap64 (a0_0 * a1_1)) (wrap64 (a1_0 * a0_1))).bind fun t225 => (some t225)
theorem impl_compare.calls_q0 {p : Prop} (h : p := by repeat (first | (with_reducible first | exact HB.out | apply below_alloc | apply pw_below_drewN | apply below_drew1 | refine below_set ?_ GE223.out | refine below_set ?_ GE224.out) | exact HB.out)) : p := h
set_option maxHeartbeats 8000000 in
set_option maxRecDepth 100000 in
theorem impl_compare.calls (a0_0 : Int) (a0_1 : Int) (a1_0 : Int) (a1_1 : Int) (r : Int) (w : World) (h : impl_compare.f a0_0 a0_1 a1_0 a1_1 = some r) :
  Calls Try.prog 78 #[.agg #[.int .i64 a0_0, .int .i64 a0_1], .agg #[.int .i64 a1_0, .int .i64 a1_1]] w fun e w' => e = .returned (.int .i64 r) ∧ Below w.heap.size w w' := by
 have hu36 := Try.underlying36
 have HB := Aside0.mk (Below.refl w.heap.size w)
 have H : ((cmp_Compare_int.f (wrap64 (a0_0 * a1_1)) (wrap64 (a1_0 * a0_1))).bind fun t225 => (some t225)) = some r := h
 clear h
 obtain ⟨t225, A3, H⟩ := bind_ H
 obtain rfl := Option.some.inj H
 go_enter Try.func78, Try.ntmps78
 go_wp2_with (first | ((with_reducible refine gate_dst (N := 2) rfl ?_); refine bx_ (N := 2) #[.int .i64 a0_0, .int .i64 a0_1] 36 ?_; intro gb223 hg w4 hbox hb; have BK223 := Aside0.mk (hbox); have GW223 := Aside0.mk ((g87_ : w.heap.size ≤ gb223)); have GE223 := Aside0.mk ((g87_ : w.heap.size ≤ gb223)); replace HB := Aside0.mk (below_step (impl_compare.calls_q0) hb); clear hb hbox hg) | ((with_reducible refine gate_dst (N := 3) rfl ?_); refine bx_ (N := 3) #[.int .i64 a1_0, .int .i64 a1_1] 36 ?_; intro gb224 hg w5 hbox hb; have BK224 := Aside0.mk (hbox); have GW224 := Aside0.mk ((g87_ : w.heap.size ≤ gb224)); have GE224 := Aside0.mk ((g87_ : w.heap.size ≤ gb224)); replace HB := Aside0.mk (below_step (impl_compare.calls_q0) hb); have NB223_224 := Aside0.mk ((by rw [hg]; exact Nat.ne_of_lt (blk_lt (g := gb223) (o := .cells #[.int .i64 a0_0, .int .i64 a0_1] 36 (0, 0)) (uf0_ BK223)) : gb223 ≠ gb224)); have NB224_223 := Aside0.mk ((by rw [hg]; exact Nat.ne_of_gt (blk_lt (g := gb223) (o := .cells #[.int .i64 a0_0, .int .i64 a0_1] 36 (0, 0)) (uf0_ BK223)) : gb224 ≠ gb223)); replace BK223 := Aside0.mk (blk_below (g := gb223) (o := .cells #[.int .i64 a0_0, .int .i64 a0_1] 36 (0, 0)) (uf0_ BK223) hb); clear hb hbox hg; have hnb6 := NB223_224.out; have hnc6 := NB224_223.out; obtain ⟨hcz7_0, hcz7_1, hfz7_0, hfz7_1⟩ := blk2_ BK223; obtain ⟨hcz8_0, hcz8_1, hfz8_0, hfz8_1⟩ := blk2_ BK224) | ((with_reducible refine gate_callee (f := 98) rfl ?_); refine goesL_ (some 15) rfl rfl Try.func98 k_ rfl #[.int .i64 (wrap64 (a0_0 * a1_1)), .int .i64 (wrap64 (a1_0 * a0_1))] rfl (g2_) ?_; (with_reducible refine (cmp_Compare_int.calls (wrap64 (a0_0 * a1_1)) (wrap64 (a1_0 * a0_1)) t225 _ A3.out).mono ?_); rintro e w' ⟨rfl, ⟨nd, rfl⟩⟩; refine ⟨_, rfl, ?_⟩))
 go_ret
 exact ⟨g4_, impl_compare.calls_q0⟩
end Go.Proofs.Ytigpmfoagkhaeaa.PU

namespace Go.Proofs.Ytigpmfoagkhaeaa.PU
open Go.RowKit Go.Proofs.YtigpmfoagkhaeaaW.PrintWords Go.Proofs.YtigpmfoagkhaeaaW.PrintLast Go.Proofs.YtigpmfoagkhaeaaW.PrintMore Go.Proofs.Ytigpmfoagkhaeaa.Qd
attribute [local go_sem] max2_int min2_int max_two min_two max_three min_three max_four min_four   -- for this text's walks alone
set_option linter.unusedVariables false
set_option linter.unusedSimpArgs false
mutual
def impl_arePays.j0 : Nat → List (S36) → Bool → List Int → List (List Int) → Option (Bool)
 | 0, _, _, _, _ => none
 | k + 1, x1, x17, x235000, x235001 => if x17 = true then (some false) else ((impl_owes.f k x235000 x235001).bind fun t236 => (impl_arePays.l0 k x1 t236 (t236.length : Int) 0))
def impl_arePays.l0 : Nat → List (S36) → List Int → Int → Int → Option (Bool)
 | 0, _, _, _, _ => none
 | k + 1, x1, x19, x20, x21 => if x21 < x20 then (if 0 ≤ x21 then (if x21 < (x19.length : Int) then (if x21 < (x1.length : Int) then ((impl_isFrac.f k ((rd_T36 x1 x21).f0) ((rd_T36 x1 x21).f1)).bind fun t241 => (if t241 = true then (if ((rd_T36 x1 x21).f0) < 0 then (some false) else ((impl_whole.f (rd x19 x21)).bind fun bt244 => ((impl_compare.f ((rd_T36 x1 x21).f0) ((rd_T36 x1 x21).f1) bt244.1 bt244.2).bind fun t246 => (if t246 > 0 then (some false) else (impl_arePays.l0 k x1 x19 x20 (wrap64 (x21 + 1))))))) else (some false))) else (none)) else (none)) else (none)) else (some true)
end
def impl_arePays.f (k : Nat) (l0_0 : List Int) (l0_1 : List (List Int)) (l1 : List (S36)) : Option (Bool) := (impl_isBook.f k l0_0 l0_1).bind fun t235 => (if t235 = true then (impl_arePays.j0 k l1 ((l1.length : Int) != (l0_0.length : Int)) l0_0 l0_1) else (impl_arePays.j0 k l1 true l0_0 l0_1))
theorem impl_arePays.mono_l : ∀ k, (∀ y0 y1 y2 y3, LeO (impl_arePays.j0 k y0 y1 y2 y3) (impl_arePays.j0 (k + 1) y0 y1 y2 y3)) ∧ (∀ y0 y1 y2 y3, LeO (impl_arePays.l0 k y0 y1 y2 y3) (impl_arePays.l0 (k + 1) y0 y1 y2 y3))
 | 0 => ⟨fun _ _ _ _ r h => by simp [impl_arePays.j0] at h, fun _ _ _ _ r h => by simp [impl_arePays.l0] at h⟩
 | k + 1 => by
  obtain ⟨ih0, ih1⟩ := impl_arePays.mono_l k
  refine ⟨?_, ?_⟩
  ·intro y0 y1 y2 y3
   unfold impl_arePays.j0
   repeat' first
   | (with_reducible exact ih0 _ _ _ _)
   | (with_reducible exact ih1 _ _ _ _)
   | (with_reducible exact impl_isBook.mono _ _ _)
   | (with_reducible exact impl_isFrac.mono _ _ _)
   | (with_reducible exact impl_owes.mono _ _ _)
   | (with_reducible exact LeO.refl _)
   | (with_reducible exact LeO.none _)
   | (with_reducible refine LeO.ite ?_ ?_)
   | (with_reducible refine LeO.bind ?_ (fun _ => ?_))
   | exact ih0 _ _ _ _
   | exact ih1 _ _ _ _
   | exact impl_isBook.mono _ _ _
   | exact impl_isFrac.mono _ _ _
   | exact impl_owes.mono _ _ _
   | exact LeO.none _
   | refine LeO.ite ?_ ?_
   | refine LeO.bind ?_ (fun _ => ?_)
  ·intro y0 y1 y2 y3
   unfold impl_arePays.l0
   repeat' first
   | (with_reducible exact ih0 _ _ _ _)
   | (with_reducible exact ih1 _ _ _ _)
   | (with_reducible exact impl_isBook.mono _ _ _)
   | (with_reducible exact impl_isFrac.mono _ _ _)
   | (with_reducible exact impl_owes.mono _ _ _)
   | (with_reducible exact LeO.refl _)
   | (with_reducible exact LeO.none _)
   | (with_reducible refine LeO.ite ?_ ?_)
   | (with_reducible refine LeO.bind ?_ (fun _ => ?_))
   | exact ih0 _ _ _ _
   | exact ih1 _ _ _ _
   | exact impl_isBook.mono _ _ _
   | exact impl_isFrac.mono _ _ _
   | exact impl_owes.mono _ _ _
   | exact LeO.none _
   | refine LeO.ite ?_ ?_
   | refine LeO.bind ?_ (fun _ => ?_)
theorem impl_arePays.mono : ∀ a0 a1 a2 k, LeO (impl_arePays.f k a0 a1 a2) (impl_arePays.f (k + 1) a0 a1 a2) := by
 intro a0 a1 a2 k
 obtain ⟨ih0, ih1⟩ := impl_arePays.mono_l k
 unfold impl_arePays.f
 repeat' first
   | (with_reducible exact ih0 _ _ _ _)
   | (with_reducible exact ih1 _ _ _ _)
   | (with_reducible exact impl_isBook.mono _ _ _)
   | (with_reducible exact impl_isFrac.mono _ _ _)
   | (with_reducible exact impl_owes.mono _ _ _)
   | (with_reducible exact LeO.refl _)
   | (with_reducible exact LeO.none _)
   | (with_reducible refine LeO.ite ?_ ?_)
   | (with_reducible refine LeO.bind ?_ (fun _ => ?_))
   | exact ih0 _ _ _ _
   | exact ih1 _ _ _ _
   | exact impl_isBook.mono _ _ _
   | exact impl_isFrac.mono _ _ _
   | exact impl_owes.mono _ _ _
   | exact LeO.none _
   | refine LeO.ite ?_ ?_
   | refine LeO.bind ?_ (fun _ => ?_)
def impl_arePays.T6 : Bool × List (List Nat × List Nat) := (true, [([], []), ([], []), ([0, 1], [0, 1]), ([2], [2]), ([3], [3]), ([4], [4]), ([5, 4], [5]), ([6], [6]), ([6], [6]), ([7, 8, 6], [6, 7, 8]), ([9, 6], [6, 9]), ([10, 6], [6, 10]), ([11, 6], [6, 11]), ([6, 12], [6, 12]), ([13, 6], [13]), ([14], [14]), ([14], [14]), ([15, 16, 14], [14, 15, 16]), ([17, 14], [14, 17]), ([14], [14]), ([19, 14, 14], [14, 19]), ([18, 20, 20, 14], [14, 18, 20]), ([21, 14], [14, 21]), ([14, 22], [14, 22])])
def impl_arePays.B6 : List Nat := [0, 0, 3, 7, 15, 31, 63, 127, 127, 511, 1023, 2047, 4095, 8191, 16383, 32767, 32767, 131071, 262143, 32767, 557055, 2097151, 4194303, 8388607]
theorem impl_arePays.tab6 : rtab .any (opsOf Try.f58 6) = impl_arePays.T6 := by kernel_rfl
theorem impl_arePays.bits6 : waitsOk impl_arePays.T6.2 impl_arePays.B6 = true := by kernel_rfl
theorem impl_arePays.calls_q0 {p : Prop} (h : p := by repeat (first | (with_reducible first | exact HB.out | apply below_alloc | apply pw_below_drewN | apply below_drew1 | refine below_set ?_ GE234.out) | exact HB.out)) : p := h
set_option maxHeartbeats 8000000 in
set_option maxRecDepth 100000 in
theorem impl_arePays.calls (k : Nat) (A0_0 : Option Addr) (c0_0 : Nat) (l0_0 : List Int) (A0_1 : Option Addr) (c0_1 : Nat) (l0_1 : List (List Int)) (A1 : Option Addr) (c1 : Nat) (l1 : List (S36)) (r : Bool) (w : World) (hr0_0 : Kd.C (Kd.int .i64) w A0_0 l0_0.length l0_0) (hc0_0 : l0_0.length ≤ c0_0) (hr0_1 : Kd.C (Kd.slice 3 (Kd.int .i64)) w A0_1 l0_1.length l0_1) (hc0_1 : l0_1.length ≤ c0_1) (hr1 : Kd.C k36 w A1 l1.length l1) (hc1 : l1.length ≤ c1) (h : impl_arePays.f k l0_0 l0_1 l1 = some r) :
  Calls Try.prog 58 #[.agg #[.slice A0_0 l0_0.length c0_0, .slice A0_1 l0_1.length c0_1], .slice A1 l1.length c1] w fun e w' => e = .returned (.bool r) ∧ Below w.heap.size w w' := by
 have hu26 := Try.underlying26
 have hu36 := Try.underlying36
 have HR0_0 := Aside0.mk hr0_0
 have HC0_0 := Aside0.mk hc0_0
 clear hr0_0 hc0_0
 have HR0_1 := Aside0.mk hr0_1
 have HC0_1 := Aside0.mk hc0_1
 clear hr0_1 hc0_1
 have HR1 := Aside0.mk hr1
 have HC1 := Aside0.mk hc1
 clear hr1 hc1
 have HB := Aside0.mk (Below.refl w.heap.size w)
 have H : ((impl_isBook.f k l0_0 l0_1).bind fun t235 => (if t235 = true then (impl_arePays.j0 k l1 ((l1.length : Int) != (l0_0.length : Int)) l0_0 l0_1) else (impl_arePays.j0 k l1 true l0_0 l0_1))) = some r := h
 clear h
 have HC3 := Aside0.mk H
 clear H
 go_enter Try.func58, Try.ntmps58
 go_upto_region 1 with (first | ((with_reducible refine gate_dst (N := 2) rfl ?_); (try (refine gate_guard (by rfl) ?_; dsimp only)); refine bx_ (N := 2) #[.slice A0_0 l0_0.length c0_0, .slice A0_1 l0_1.length c0_1] 26 ?_; intro gb234 hg w4 hbox hb; have BK234 := Aside0.mk (hbox); have GW234 := Aside0.mk ((by rw [hg]; exact (below_size (impl_arePays.calls_q0)) : w.heap.size ≤ gb234)); have GE234 := Aside0.mk ((by rw [hg]; exact (below_size (impl_arePays.calls_q0)) : w.heap.size ≤ gb234)); replace HB := Aside0.mk (below_step (impl_arePays.calls_q0) hb); clear hb hbox hg))
 (try simp only [Act.put, List.setIfInBounds_toArray, List.set_cons_zero, List.set_cons_succ])
 go_cut [17] (fun v17 wc => ∃ (kq : Nat) (x17_2 : Bool), v17 = .bool x17_2 ∧ Aside0 (impl_arePays.j0 kq l1 x17_2 l0_0 l0_1 = some r) ∧ Aside0 (kq ≤ k) ∧ Aside0 (wc.heap[gb234]? = some (.cells #[(.slice A0_0 l0_0.length c0_0), (.slice A0_1 l0_1.length c0_1)] 26 (0, 0))) ∧ Aside0 (Below w.heap.size w wc))
 case first =>
  have H := HC3.out
  clear HC3
  obtain ⟨t235, A5, H⟩ := bind_ H
  by_cases c6 : t235 = true
  ·subst c6
   replace H := ifp_ H
   have H' := Aside0.mk H
   clear H
   obtain ⟨hcz7_0, hcz7_1, hfz7_0, hfz7_1⟩ := blk2_ BK234
   go_wp2_with (first | ((with_reducible refine gate_callee (f := 54) rfl ?_); refine goesL_ (some 8) rfl rfl Try.func54 k_ rfl #[.agg #[.slice A0_0 l0_0.length c0_0, .slice A0_1 l0_1.length c0_1]] rfl (g2_) ?_; (with_reducible refine (impl_isBook.calls k _ _ l0_0 _ _ l0_1 true _ ?side1 ?side2 ?side3 ?side4 A5.out).mono ?_); (case side1 => exact uf4_ HR0_0); (case side2 => exact HC0_0.out); (case side3 => exact uf4_ HR0_1); (case side4 => exact HC0_1.out); rintro e w8 ⟨rfl, hb⟩; refine ⟨_, rfl, ?_⟩; replace BK234 := Aside0.mk (blk_below (g := gb234) (o := .cells #[.slice A0_0 l0_0.length c0_0, .slice A0_1 l0_1.length c0_1] 26 (0, 0)) (uf0_ BK234) hb); replace HB := Aside0.mk (below_step (impl_arePays.calls_q0) hb); (try clear hb); (try clear hk hi); obtain ⟨hcz9_0, hcz9_1, hfz9_0, hfz9_1⟩ := blk2_ BK234))
   go_meet
   case rel => exact ⟨_, (((l1.length : Int) != (l0_0.length : Int))), (g3_), H', ⟨g13_⟩, ⟨uf0_ BK234⟩, ⟨impl_arePays.calls_q0⟩⟩
  ·replace c6 := Bool.eq_false_iff.mpr c6
   subst c6
   replace H := ifn_ H
   have H' := Aside0.mk H
   clear H
   obtain ⟨hcz10_0, hcz10_1, hfz10_0, hfz10_1⟩ := blk2_ BK234
   go_wp2_with (first | ((with_reducible refine gate_callee (f := 54) rfl ?_); refine goesL_ (some 8) rfl rfl Try.func54 k_ rfl #[.agg #[.slice A0_0 l0_0.length c0_0, .slice A0_1 l0_1.length c0_1]] rfl (g2_) ?_; (with_reducible refine (impl_isBook.calls k _ _ l0_0 _ _ l0_1 false _ ?side1 ?side2 ?side3 ?side4 A5.out).mono ?_); (case side1 => exact uf4_ HR0_0); (case side2 => exact HC0_0.out); (case side3 => exact uf4_ HR0_1); (case side4 => exact HC0_1.out); rintro e w11 ⟨rfl, hb⟩; refine ⟨_, rfl, ?_⟩; replace BK234 := Aside0.mk (blk_below (g := gb234) (o := .cells #[.slice A0_0 l0_0.length c0_0, .slice A0_1 l0_1.length c0_1] 26 (0, 0)) (uf0_ BK234) hb); replace HB := Aside0.mk (below_step (impl_arePays.calls_q0) hb); (try clear hb); (try clear hk hi)))
   go_meet
   case rel => exact ⟨_, (true), (g3_), H', ⟨g13_⟩, ⟨uf0_ BK234⟩, ⟨impl_arePays.calls_q0⟩⟩
 case rest =>
  clear HC3
  try clear c1
  try clear p2
  try clear c5
  try clear c6
  try clear hcz10_0
  try clear hcz10_1
  try clear hcz7_0
  try clear hcz7_1
  try clear hcz9_0
  try clear hcz9_1
  try clear hfz10_0
  try clear hfz10_1
  try clear hfz7_0
  try clear hfz7_1
  try clear hfz9_0
  try clear hfz9_1
  obtain ⟨kq, x17_2, rfl, HA, HJ2, BK234, HB⟩ := hcut
  cases kq with
  | zero => exact absurd HA.out (by simp [impl_arePays.j0])
  | succ kj2 =>
   have H := HA.out
   clear HA
   simp only [impl_arePays.j0] at H
   by_cases c12 : x17_2 = true
   ·subst c12
    replace H := ifp_ H
    obtain rfl := Option.some.inj H
    go_wp2
    go_ret
    exact ⟨g4_, impl_arePays.calls_q0⟩
   ·replace c12 := Bool.eq_false_iff.mpr c12
    subst c12
    replace H := ifn_ H
    obtain ⟨t236, A13, H⟩ := bind_ H
    have H' := Aside0.mk H
    clear H
    obtain ⟨hcz14_0, hcz14_1, hfz14_0, hfz14_1⟩ := blk2_ BK234
    go_wp2_with (first | ((with_reducible refine gate_callee (f := 91) rfl ?_); refine goesL_ (some 19) rfl rfl Try.func91 k_ rfl #[.agg #[.slice A0_0 l0_0.length c0_0, .slice A0_1 l0_1.length c0_1]] rfl (g2_) ?_; (with_reducible refine (impl_owes.calls kj2 _ _ l0_0 _ _ l0_1 t236 _ ?side1 ?side2 ?side3 ?side4 A13.out).mono ?_); (case side1 => exact uf4_ HR0_0); (case side2 => exact HC0_0.out); (case side3 => exact uf4_ HR0_1); (case side4 => exact HC0_1.out); rintro e w15 ⟨v237, rfl, ho0, hb⟩; refine ⟨_, rfl, ?_⟩; have HO238 := Aside0.mk (Kd.R_lower ho0 (below_size (impl_arePays.calls_q0))); replace BK234 := Aside0.mk (blk_below (g := gb234) (o := .cells #[.slice A0_0 l0_0.length c0_0, .slice A0_1 l0_1.length c0_1] 26 (0, 0)) (uf0_ BK234) hb); replace HB := Aside0.mk (below_step (impl_arePays.calls_q0) hb); (try clear hb); (try clear hk hi); (try clear ho0); obtain ⟨Ao16, co16, eo16⟩ := Kd.R_slice HO238.out; subst eo16))
    go_loopg [21] kj2 (fun kq v21 w' => ∃ (x21_2 : Int), v21 = .int .i64 x21_2 ∧ Aside0 (impl_arePays.l0 kq l1 t236 (t236.length : Int) x21_2 = some r) ∧ Aside0 (kq ≤ kj2) ∧ Aside0 (Kd.R (Kd.int .i64) 3 w' w.heap.size (fun _ => True) (.slice Ao16 t236.length co16) t236) ∧ Aside0 (w'.heap[gb234]? = some (.cells #[(.slice A0_0 l0_0.length c0_0), (.slice A0_1 l0_1.length c0_1)] 26 (0, 0))) ∧ Aside0 (Below w.heap.size w w'))
    case atStart => exact ⟨(0), (g3_), H', ⟨Nat.le_refl _⟩, ⟨uf1_ HO238⟩, ⟨uf0_ BK234⟩, ⟨impl_arePays.calls_q0⟩⟩
    case round =>
     clear H'
     try clear c1
     try clear p2
     try clear c5
     try clear c6
     try clear c9
     try clear c12
     try clear hcz10_0
     try clear hcz10_1
     try clear hcz14_0
     try clear hcz14_1
     try clear hcz7_0
     try clear hcz7_1
     try clear hcz9_0
     try clear hcz9_1
     try clear hfz10_0
     try clear hfz10_1
     try clear hfz14_0
     try clear hfz14_1
     try clear hfz7_0
     try clear hfz7_1
     try clear hfz9_0
     try clear hfz9_1
     try clear p2
     obtain ⟨x21_2, rfl, HA, HK2, HO_19, BK234, HB⟩ := hrel
     cases gk with
     | zero => exact absurd HA.out (by simp [impl_arePays.l0])
     | succ k2 =>
      have H := HA.out
      clear HA
      simp only [impl_arePays.l0] at H
      by_cases c17 : x21_2 < (t236.length : Int)
      ·rw [if_pos c17] at H
       have c17b0 := decide_eq_true c17
       clear c17
       by_cases c18 : 0 ≤ x21_2
       ·rw [if_pos c18] at H
        have c18b0 := decide_eq_true c18
        clear c18
        by_cases c19 : x21_2 < (t236.length : Int)
        ·rw [if_pos c19] at H
         have c19b0 := decide_eq_true c19
         clear c19
         by_cases c20 : x21_2 < (l1.length : Int)
         ·rw [if_pos c20] at H
          have c20b0 := decide_eq_true c20
          clear c20
          obtain ⟨t241, A21, H⟩ := bind_ H
          by_cases c22 : t241 = true
          ·subst c22
           replace H := ifp_ H
           by_cases c23 : ((rd_T36 l1 x21_2).f0) < 0
           ·rw [if_pos c23] at H
            have c23b0 := decide_eq_true c23
            clear c23
            obtain rfl := Option.some.inj H
            have p239 : 0 ≤ (x21_2 : Int) := of_decide_eq_true (g1_)
            have q239 : x21_2 < (t236.length : Int) := of_decide_eq_true (g1_)
            obtain ⟨ad239, e239, hx239_0⟩ := Kd.at_int (Kd.R_reads' HO_19.out).2.2 x21_2 p239 q239
            cases e239
            replace p239 := eq_true p239
            replace q239 := eq_true q239
            try go_wp2
            replace HO_19 := Aside0.mk (Kd.R_drew HO_19.out)
            replace BK234 := Aside0.mk (blk_drew BK234.out)
            replace HB := Aside0.mk (below_drew1 HB.out)
            have p240 : 0 ≤ (x21_2 : Int) := of_decide_eq_true (g1_)
            have q240 : x21_2 < (l1.length : Int) := of_decide_eq_true (g1_)
            obtain ⟨ad240, e240, hx240_0, hx240_1⟩ := at_T36 HR1.out x21_2 p240 q240
            have hw240_1 := hx240_1
            have hw240_0 := hx240_0
            cases e240
            replace hx240_0 := cl_ HB hx240_0
            replace hx240_1 := cl_ HB hx240_1
            replace p240 := eq_true p240
            replace q240 := eq_true q240
            have p242 : 0 ≤ (x21_2 : Int) := of_decide_eq_true (g1_)
            have q242 : x21_2 < (l1.length : Int) := of_decide_eq_true (g1_)
            obtain ⟨ad242, e242, hx242_0, hx242_1⟩ := at_T36 HR1.out x21_2 p242 q242
            have hw242_1 := hx242_1
            have hw242_0 := hx242_0
            obtain rfl : ad240 = ad242 := (by injection e242)
            replace hx242_0 := cl_ HB hx242_0
            replace hx242_1 := cl_ HB hx242_1
            replace p242 := eq_true p242
            replace q242 := eq_true q242
            refine start_ (n := 24) (S := fun w' => w'.cell? (ad240.add ((x21_2).toNat * 2)) = some (.int .i64 ((rd_T36 l1 x21_2).f0)) ∧ w'.cell? ⟨(ad240.add ((x21_2).toNat * 2)).block, (ad240.add ((x21_2).toNat * 2)).off + 1, none⟩ = some (.int .i64 ((rd_T36 l1 x21_2).f1)) ∧ w'.cell? (ad240.add ((x21_2).toNat * 2)) = some (.int .i64 ((rd_T36 l1 x21_2).f0)) ∧ w'.cell? ⟨(ad240.add ((x21_2).toNat * 2)).block, (ad240.add ((x21_2).toNat * 2)).off + 1, none⟩ = some (.int .i64 ((rd_T36 l1 x21_2).f1))) (ds := []) (tl_ 24 0) (g0_) rfl (g0_) ⟨((cl_ HB hw240_0).trans rfl), ((cl_ HB hw240_1).trans rfl), ((cl_ HB hw242_0).trans rfl), ((cl_ HB hw242_1).trans rfl)⟩ (fun hHeld => ?_); refine with_tabW impl_arePays.tab6 impl_arePays.bits6 (fun HT_ HW_ => ?_)
            generalize wr.drew = w24 at HO_19 BK234 HB hx240_0 hx240_1 hx242_0 hx242_1 hHeld ⊢
            refine pw_ 0 26 (tl_ 24 1) rfl rfl ?_
            refine pw_ 1 27 (tl_ 24 3) rfl rfl ?_
            refine pw_ 2 28 (tl_ 24 7) rfl rfl ?_
            refine tk3_ 3 29 (tl_ 24 15) rfl rfl hHeld ?_
            refine one_ (i := 4) (N := some 30) (tl_ 24 31) rfl rfl (one_of HT_.out (g0_)) (by decide) (fun K hK => ?_)
            refine goes_ Try.func77 (g0_) rfl #[.agg #[.int .i64 ((rd_T36 l1 x21_2).f0), .int .i64 ((rd_T36 l1 x21_2).f1)]] (by rfl) rfl rfl (g2_) ?_
            with_reducible refine (impl_isFrac.calls k2 ((rd_T36 l1 x21_2).f0) ((rd_T36 l1 x21_2).f1) true _ A21.out).mono ?_
            rintro e w25 ⟨rfl, hb⟩
            refine ⟨_, rfl, ?_⟩
            replace HO_19 := Aside0.mk (Kd.R_below (uf1_ HO_19) hb)
            replace BK234 := Aside0.mk (blk_below (g := gb234) (o := .cells #[.slice A0_0 l0_0.length c0_0, .slice A0_1 l0_1.length c0_1] 26 (0, 0)) (uf0_ BK234) hb)
            replace HB := Aside0.mk (below_step (impl_arePays.calls_q0) hb)
            (try clear hb)
            (try clear hk hi)
            refine hK.out _ _ ⟨((cl_ HB hw240_0).trans rfl), ((cl_ HB hw240_1).trans rfl), ((cl_ HB hw242_0).trans rfl), ((cl_ HB hw242_1).trans rfl)⟩ (fun hHeld => ?_)
            clear hK K
            refine nm_ ?_
            refine pw_ 5 31 (tl_ 24 63) rfl rfl ?_
            refine pw_ 6 32 (tl_ 24 127) rfl rfl ?_
            refine pw_ 7 33 (tl_ 24 255) rfl rfl ?_
            refine pw_ 8 34 (tl_ 24 511) rfl rfl ?_
            refine pw_ 9 35 (tl_ 24 1023) rfl rfl ?_
            refine pw_ 10 36 (tl_ 24 2047) rfl rfl ?_
            refine tk3_ 11 37 (tl_ 24 4095) rfl rfl hHeld ?_
            refine pw_ 12 38 (tl_ 24 8191) rfl rfl ?_
            refine pw_ 13 39 (tl_ 24 16383) rfl rfl ?_
            refine pw_ 14 40 (tl_ 24 32767) rfl rfl ?_
            refine pure_ (i := 15) (N := some 41) (v := undef) (a' := ?_) (tl_ 24 65535) rfl rfl (any_of HT_.out (g0_)) (fun _ _ _ h => h) (Or.inr ⟨by rfl, rfl⟩) ?_ ?_
            rotate_left
            ·simp only [Act.put, List.setIfInBounds_toArray, List.set_cons_zero, List.set_cons_succ, i64_w, i32_w]
             rfl
            refine pure_ (i := 16) (N := some 42) (v := undef) (a' := ?_) (tl_ 24 131071) rfl rfl (any_of HT_.out (g0_)) (fun _ _ _ h => h) (Or.inr ⟨by rfl, rfl⟩) ?_ ?_
            rotate_left
            ·simp only [Act.put, List.setIfInBounds_toArray, List.set_cons_zero, List.set_cons_succ, i64_w, i32_w]
             rfl
            refine pure_ (i := 17) (N := some 43) (v := undef) (a' := ?_) (tl_ 24 262143) rfl rfl (any_of HT_.out (g0_)) (fun _ _ _ h => h) (Or.inr ⟨by rfl, rfl⟩) ?_ ?_
            rotate_left
            ·simp only [Act.put, List.setIfInBounds_toArray, List.set_cons_zero, List.set_cons_succ, i64_w, i32_w]
             rfl
            refine pure_ (i := 18) (N := some 44) (v := undef) (a' := ?_) (tl_ 24 524287) rfl rfl (any_of HT_.out (g0_)) (fun _ _ _ h => h) (Or.inr ⟨by rfl, rfl⟩) ?_ ?_
            rotate_left
            ·simp only [Act.put, List.setIfInBounds_toArray, List.set_cons_zero, List.set_cons_succ, i64_w, i32_w]
             rfl
            refine pure_ (i := 19) (N := some 45) (v := undef) (a' := ?_) (tl_ 24 1048575) rfl rfl (any_of HT_.out (g0_)) (fun _ _ _ h => h) (Or.inr ⟨by rfl, rfl⟩) ?_ ?_
            rotate_left
            ·simp only [Act.put, List.setIfInBounds_toArray, List.set_cons_zero, List.set_cons_succ, i64_w, i32_w]
             rfl
            refine pure_ (i := 20) (N := some 46) (v := undef) (a' := ?_) (tl_ 24 2097151) rfl rfl (any_of HT_.out (g0_)) (fun _ _ _ h => h) (Or.inr ⟨by rfl, rfl⟩) ?_ ?_
            rotate_left
            ·simp only [Act.put, List.setIfInBounds_toArray, List.set_cons_zero, List.set_cons_succ, i64_w, i32_w]
             rfl
            refine pure_ (i := 21) (N := some 47) (v := undef) (a' := ?_) (tl_ 24 4194303) rfl rfl (any_of HT_.out (g0_)) (fun _ _ _ h => h) (Or.inr ⟨by rfl, rfl⟩) ?_ ?_
            rotate_left
            ·simp only [Act.put, List.setIfInBounds_toArray, List.set_cons_zero, List.set_cons_succ, i64_w, i32_w]
             rfl
            refine pure_ (i := 22) (N := some 48) (v := undef) (a' := ?_) (tl_ 24 8388607) rfl rfl (any_of HT_.out (g0_)) (fun _ _ _ h => h) (Or.inr ⟨by rfl, rfl⟩) ?_ ?_
            rotate_left
            ·simp only [Act.put, List.setIfInBounds_toArray, List.set_cons_zero, List.set_cons_succ, i64_w, i32_w]
             rfl
            refine pw_ 23 49 (tl_ 24 16777215) rfl rfl ?_
            refine done_ (done_of HT_.out (g0_)) ?_
            try go_wp2
            go_ret
            exact ⟨g4_, impl_arePays.calls_q0⟩
           ·rw [if_neg c23] at H
            have c23b0 := decide_eq_false c23
            clear c23
            replace H := Option.bind_eq_some_iff.mp H
            obtain ⟨⟨t244, t245⟩, A260, H⟩ := H
            replace H : ((impl_compare.f ((rd_T36 l1 x21_2).f0) ((rd_T36 l1 x21_2).f1) t244 t245).bind fun t246 => (if t246 > 0 then (some false) else (impl_arePays.l0 k2 l1 t236 (t236.length : Int) (wrap64 (x21_2 + 1))))) = some r := H
            have A26 := Aside0.mk A260
            clear A260
            obtain ⟨t246, A27, H⟩ := bind_ H
            by_cases c28 : t246 > 0
            ·rw [if_pos c28] at H
             have c28b0 := decide_eq_true c28
             clear c28
             obtain rfl := Option.some.inj H
             have p239 : 0 ≤ (x21_2 : Int) := of_decide_eq_true (g1_)
             have q239 : x21_2 < (t236.length : Int) := of_decide_eq_true (g1_)
             obtain ⟨ad239, e239, hx239_0⟩ := Kd.at_int (Kd.R_reads' HO_19.out).2.2 x21_2 p239 q239
             cases e239
             replace p239 := eq_true p239
             replace q239 := eq_true q239
             try go_wp2
             replace HO_19 := Aside0.mk (Kd.R_drew HO_19.out)
             replace BK234 := Aside0.mk (blk_drew BK234.out)
             replace HB := Aside0.mk (below_drew1 HB.out)
             have p240 : 0 ≤ (x21_2 : Int) := of_decide_eq_true (g1_)
             have q240 : x21_2 < (l1.length : Int) := of_decide_eq_true (g1_)
             obtain ⟨ad240, e240, hx240_0, hx240_1⟩ := at_T36 HR1.out x21_2 p240 q240
             have hw240_1 := hx240_1
             have hw240_0 := hx240_0
             cases e240
             replace hx240_0 := cl_ HB hx240_0
             replace hx240_1 := cl_ HB hx240_1
             replace p240 := eq_true p240
             replace q240 := eq_true q240
             have p242 : 0 ≤ (x21_2 : Int) := of_decide_eq_true (g1_)
             have q242 : x21_2 < (l1.length : Int) := of_decide_eq_true (g1_)
             obtain ⟨ad242, e242, hx242_0, hx242_1⟩ := at_T36 HR1.out x21_2 p242 q242
             have hw242_1 := hx242_1
             have hw242_0 := hx242_0
             obtain rfl : ad240 = ad242 := (by injection e242)
             replace hx242_0 := cl_ HB hx242_0
             replace hx242_1 := cl_ HB hx242_1
             replace p242 := eq_true p242
             replace q242 := eq_true q242
             have p243 : 0 ≤ (x21_2 : Int) := of_decide_eq_true (g1_)
             have q243 : x21_2 < (l1.length : Int) := of_decide_eq_true (g1_)
             obtain ⟨ad243, e243, hx243_0, hx243_1⟩ := at_T36 HR1.out x21_2 p243 q243
             have hw243_1 := hx243_1
             have hw243_0 := hx243_0
             obtain rfl : ad240 = ad243 := (by injection e243)
             replace hx243_0 := cl_ HB hx243_0
             replace hx243_1 := cl_ HB hx243_1
             replace p243 := eq_true p243
             replace q243 := eq_true q243
             refine start_ (n := 24) (S := fun w' => w'.cell? (ad240.add ((x21_2).toNat * 2)) = some (.int .i64 ((rd_T36 l1 x21_2).f0)) ∧ w'.cell? ⟨(ad240.add ((x21_2).toNat * 2)).block, (ad240.add ((x21_2).toNat * 2)).off + 1, none⟩ = some (.int .i64 ((rd_T36 l1 x21_2).f1)) ∧ w'.cell? (ad240.add ((x21_2).toNat * 2)) = some (.int .i64 ((rd_T36 l1 x21_2).f0)) ∧ w'.cell? ⟨(ad240.add ((x21_2).toNat * 2)).block, (ad240.add ((x21_2).toNat * 2)).off + 1, none⟩ = some (.int .i64 ((rd_T36 l1 x21_2).f1)) ∧ w'.cell? (ad240.add ((x21_2).toNat * 2)) = some (.int .i64 ((rd_T36 l1 x21_2).f0)) ∧ w'.cell? ⟨(ad240.add ((x21_2).toNat * 2)).block, (ad240.add ((x21_2).toNat * 2)).off + 1, none⟩ = some (.int .i64 ((rd_T36 l1 x21_2).f1))) (ds := []) (tl_ 24 0) (g0_) rfl (g0_) ⟨((cl_ HB hw240_0).trans rfl), ((cl_ HB hw240_1).trans rfl), ((cl_ HB hw242_0).trans rfl), ((cl_ HB hw242_1).trans rfl), ((cl_ HB hw243_0).trans rfl), ((cl_ HB hw243_1).trans rfl)⟩ (fun hHeld => ?_); refine with_tabW impl_arePays.tab6 impl_arePays.bits6 (fun HT_ HW_ => ?_)
             generalize wr.drew = w29 at HO_19 BK234 HB hx240_0 hx240_1 hx242_0 hx242_1 hx243_0 hx243_1 hHeld ⊢
             refine pw_ 0 26 (tl_ 24 1) rfl rfl ?_
             refine pw_ 1 27 (tl_ 24 3) rfl rfl ?_
             refine pw_ 2 28 (tl_ 24 7) rfl rfl ?_
             refine tk2_ 3 29 (tl_ 24 15) rfl rfl hHeld ?_
             refine one_ (i := 4) (N := some 30) (tl_ 24 31) rfl rfl (one_of HT_.out (g0_)) (by decide) (fun K hK => ?_)
             refine goes_ Try.func77 (g0_) rfl #[.agg #[.int .i64 ((rd_T36 l1 x21_2).f0), .int .i64 ((rd_T36 l1 x21_2).f1)]] (by rfl) rfl rfl (g2_) ?_
             with_reducible refine (impl_isFrac.calls k2 ((rd_T36 l1 x21_2).f0) ((rd_T36 l1 x21_2).f1) true _ A21.out).mono ?_
             rintro e w30 ⟨rfl, hb⟩
             refine ⟨_, rfl, ?_⟩
             replace HO_19 := Aside0.mk (Kd.R_below (uf1_ HO_19) hb)
             replace BK234 := Aside0.mk (blk_below (g := gb234) (o := .cells #[.slice A0_0 l0_0.length c0_0, .slice A0_1 l0_1.length c0_1] 26 (0, 0)) (uf0_ BK234) hb)
             replace HB := Aside0.mk (below_step (impl_arePays.calls_q0) hb)
             (try clear hb)
             (try clear hk hi)
             refine hK.out _ _ ⟨((cl_ HB hw240_0).trans rfl), ((cl_ HB hw240_1).trans rfl), ((cl_ HB hw242_0).trans rfl), ((cl_ HB hw242_1).trans rfl), ((cl_ HB hw243_0).trans rfl), ((cl_ HB hw243_1).trans rfl)⟩ (fun hHeld => ?_)
             clear hK K
             refine nm_ ?_
             refine pw_ 5 31 (tl_ 24 63) rfl rfl ?_
             refine pw_ 6 32 (tl_ 24 127) rfl rfl ?_
             refine pw_ 7 33 (tl_ 24 255) rfl rfl ?_
             refine pw_ 8 34 (tl_ 24 511) rfl rfl ?_
             refine pw_ 9 35 (tl_ 24 1023) rfl rfl ?_
             refine pw_ 10 36 (tl_ 24 2047) rfl rfl ?_
             refine tk2_ 11 37 (tl_ 24 4095) rfl rfl hHeld ?_
             refine pw_ 12 38 (tl_ 24 8191) rfl rfl ?_
             refine pw_ 13 39 (tl_ 24 16383) rfl rfl ?_
             refine pw_ 14 40 (tl_ 24 32767) rfl rfl ?_
             refine pw_ 15 41 (tl_ 24 65535) rfl rfl ?_
             refine pw_ 16 42 (tl_ 24 131071) rfl rfl ?_
             refine pw_ 17 43 (tl_ 24 262143) rfl rfl ?_
             refine pw_ 19 45 (tl_ 24 786431) rfl rfl ?_
             refine tk2_ 18 44 (tl_ 24 1048575) rfl rfl hHeld ?_
             refine one_ (i := 20) (N := some 46) (tl_ 24 2097151) rfl rfl (one_of HT_.out (g0_)) (by decide) (fun K hK => ?_)
             refine goes_ Try.func89 (g0_) rfl #[.int .i64 (rd t236 x21_2)] (by rfl) rfl rfl (g2_) ?_
             with_reducible refine (impl_whole.calls (rd t236 x21_2) t244 t245 _ A26.out).mono ?_
             rintro e w31 ⟨rfl, hb⟩
             refine ⟨_, rfl, ?_⟩
             replace HO_19 := Aside0.mk (Kd.R_below (uf1_ HO_19) hb)
             replace BK234 := Aside0.mk (blk_below (g := gb234) (o := .cells #[.slice A0_0 l0_0.length c0_0, .slice A0_1 l0_1.length c0_1] 26 (0, 0)) (uf0_ BK234) hb)
             replace HB := Aside0.mk (below_step (impl_arePays.calls_q0) hb)
             (try clear hb)
             (try clear hk hi)
             refine hK.out _ _ ⟨((cl_ HB hw240_0).trans rfl), ((cl_ HB hw240_1).trans rfl), ((cl_ HB hw242_0).trans rfl), ((cl_ HB hw242_1).trans rfl), ((cl_ HB hw243_0).trans rfl), ((cl_ HB hw243_1).trans rfl)⟩ (fun hHeld => ?_)
             clear hK K
             refine nm_ ?_
             refine one_ (i := 21) (N := some 47) (tl_ 24 4194303) rfl rfl (one_of HT_.out (g0_)) (by decide) (fun K hK => ?_)
             refine goes_ Try.func78 (g0_) rfl #[.agg #[.int .i64 ((rd_T36 l1 x21_2).f0), .int .i64 ((rd_T36 l1 x21_2).f1)], .agg #[.int .i64 t244, .int .i64 t245]] (by rfl) rfl rfl (g2_) ?_
             with_reducible refine (impl_compare.calls ((rd_T36 l1 x21_2).f0) ((rd_T36 l1 x21_2).f1) t244 t245 t246 _ A27.out).mono ?_
             rintro e w32 ⟨rfl, hb⟩
             refine ⟨_, rfl, ?_⟩
             replace HO_19 := Aside0.mk (Kd.R_below (uf1_ HO_19) hb)
             replace BK234 := Aside0.mk (blk_below (g := gb234) (o := .cells #[.slice A0_0 l0_0.length c0_0, .slice A0_1 l0_1.length c0_1] 26 (0, 0)) (uf0_ BK234) hb)
             replace HB := Aside0.mk (below_step (impl_arePays.calls_q0) hb)
             (try clear hb)
             (try clear hk hi)
             refine hK.out _ _ ⟨((cl_ HB hw240_0).trans rfl), ((cl_ HB hw240_1).trans rfl), ((cl_ HB hw242_0).trans rfl), ((cl_ HB hw242_1).trans rfl), ((cl_ HB hw243_0).trans rfl), ((cl_ HB hw243_1).trans rfl)⟩ (fun hHeld => ?_)
             clear hK K
             refine nm_ ?_
             refine pw_ 22 48 (tl_ 24 8388607) rfl rfl ?_
             refine pw_ 23 49 (tl_ 24 16777215) rfl rfl ?_
             refine done_ (done_of HT_.out (g0_)) ?_
             try go_wp2
             go_ret
             exact ⟨g4_, impl_arePays.calls_q0⟩
            ·rw [if_neg c28] at H
             have c28b0 := decide_eq_false c28
             clear c28
             have H' := Aside0.mk H
             clear H
             have p239 : 0 ≤ (x21_2 : Int) := of_decide_eq_true (g1_)
             have q239 : x21_2 < (t236.length : Int) := of_decide_eq_true (g1_)
             obtain ⟨ad239, e239, hx239_0⟩ := Kd.at_int (Kd.R_reads' HO_19.out).2.2 x21_2 p239 q239
             cases e239
             replace p239 := eq_true p239
             replace q239 := eq_true q239
             try go_wp2
             replace HO_19 := Aside0.mk (Kd.R_drew HO_19.out)
             replace BK234 := Aside0.mk (blk_drew BK234.out)
             replace HB := Aside0.mk (below_drew1 HB.out)
             have p240 : 0 ≤ (x21_2 : Int) := of_decide_eq_true (g1_)
             have q240 : x21_2 < (l1.length : Int) := of_decide_eq_true (g1_)
             obtain ⟨ad240, e240, hx240_0, hx240_1⟩ := at_T36 HR1.out x21_2 p240 q240
             have hw240_1 := hx240_1
             have hw240_0 := hx240_0
             cases e240
             replace hx240_0 := cl_ HB hx240_0
             replace hx240_1 := cl_ HB hx240_1
             replace p240 := eq_true p240
             replace q240 := eq_true q240
             have p242 : 0 ≤ (x21_2 : Int) := of_decide_eq_true (g1_)
             have q242 : x21_2 < (l1.length : Int) := of_decide_eq_true (g1_)
             obtain ⟨ad242, e242, hx242_0, hx242_1⟩ := at_T36 HR1.out x21_2 p242 q242
             have hw242_1 := hx242_1
             have hw242_0 := hx242_0
             obtain rfl : ad240 = ad242 := (by injection e242)
             replace hx242_0 := cl_ HB hx242_0
             replace hx242_1 := cl_ HB hx242_1
             replace p242 := eq_true p242
             replace q242 := eq_true q242
             have p243 : 0 ≤ (x21_2 : Int) := of_decide_eq_true (g1_)
             have q243 : x21_2 < (l1.length : Int) := of_decide_eq_true (g1_)
             obtain ⟨ad243, e243, hx243_0, hx243_1⟩ := at_T36 HR1.out x21_2 p243 q243
             have hw243_1 := hx243_1
             have hw243_0 := hx243_0
             obtain rfl : ad240 = ad243 := (by injection e243)
             replace hx243_0 := cl_ HB hx243_0
             replace hx243_1 := cl_ HB hx243_1
             replace p243 := eq_true p243
             replace q243 := eq_true q243
             refine start_ (n := 24) (S := fun w' => w'.cell? (ad240.add ((x21_2).toNat * 2)) = some (.int .i64 ((rd_T36 l1 x21_2).f0)) ∧ w'.cell? ⟨(ad240.add ((x21_2).toNat * 2)).block, (ad240.add ((x21_2).toNat * 2)).off + 1, none⟩ = some (.int .i64 ((rd_T36 l1 x21_2).f1)) ∧ w'.cell? (ad240.add ((x21_2).toNat * 2)) = some (.int .i64 ((rd_T36 l1 x21_2).f0)) ∧ w'.cell? ⟨(ad240.add ((x21_2).toNat * 2)).block, (ad240.add ((x21_2).toNat * 2)).off + 1, none⟩ = some (.int .i64 ((rd_T36 l1 x21_2).f1)) ∧ w'.cell? (ad240.add ((x21_2).toNat * 2)) = some (.int .i64 ((rd_T36 l1 x21_2).f0)) ∧ w'.cell? ⟨(ad240.add ((x21_2).toNat * 2)).block, (ad240.add ((x21_2).toNat * 2)).off + 1, none⟩ = some (.int .i64 ((rd_T36 l1 x21_2).f1))) (ds := []) (tl_ 24 0) (g0_) rfl (g0_) ⟨((cl_ HB hw240_0).trans rfl), ((cl_ HB hw240_1).trans rfl), ((cl_ HB hw242_0).trans rfl), ((cl_ HB hw242_1).trans rfl), ((cl_ HB hw243_0).trans rfl), ((cl_ HB hw243_1).trans rfl)⟩ (fun hHeld => ?_); refine with_tabW impl_arePays.tab6 impl_arePays.bits6 (fun HT_ HW_ => ?_)
             generalize wr.drew = w33 at HO_19 BK234 HB hx240_0 hx240_1 hx242_0 hx242_1 hx243_0 hx243_1 hHeld ⊢
             refine pw_ 0 26 (tl_ 24 1) rfl rfl ?_
             refine pw_ 1 27 (tl_ 24 3) rfl rfl ?_
             refine pw_ 2 28 (tl_ 24 7) rfl rfl ?_
             refine tk2_ 3 29 (tl_ 24 15) rfl rfl hHeld ?_
             refine one_ (i := 4) (N := some 30) (tl_ 24 31) rfl rfl (one_of HT_.out (g0_)) (by decide) (fun K hK => ?_)
             refine goes_ Try.func77 (g0_) rfl #[.agg #[.int .i64 ((rd_T36 l1 x21_2).f0), .int .i64 ((rd_T36 l1 x21_2).f1)]] (by rfl) rfl rfl (g2_) ?_
             with_reducible refine (impl_isFrac.calls k2 ((rd_T36 l1 x21_2).f0) ((rd_T36 l1 x21_2).f1) true _ A21.out).mono ?_
             rintro e w34 ⟨rfl, hb⟩
             refine ⟨_, rfl, ?_⟩
             replace HO_19 := Aside0.mk (Kd.R_below (uf1_ HO_19) hb)
             replace BK234 := Aside0.mk (blk_below (g := gb234) (o := .cells #[.slice A0_0 l0_0.length c0_0, .slice A0_1 l0_1.length c0_1] 26 (0, 0)) (uf0_ BK234) hb)
             replace HB := Aside0.mk (below_step (impl_arePays.calls_q0) hb)
             (try clear hb)
             (try clear hk hi)
             refine hK.out _ _ ⟨((cl_ HB hw240_0).trans rfl), ((cl_ HB hw240_1).trans rfl), ((cl_ HB hw242_0).trans rfl), ((cl_ HB hw242_1).trans rfl), ((cl_ HB hw243_0).trans rfl), ((cl_ HB hw243_1).trans rfl)⟩ (fun hHeld => ?_)
             clear hK K
             refine nm_ ?_
             refine pw_ 5 31 (tl_ 24 63) rfl rfl ?_
             refine pw_ 6 32 (tl_ 24 127) rfl rfl ?_
             refine pw_ 7 33 (tl_ 24 255) rfl rfl ?_
             refine pw_ 8 34 (tl_ 24 511) rfl rfl ?_
             refine pw_ 9 35 (tl_ 24 1023) rfl rfl ?_
             refine pw_ 10 36 (tl_ 24 2047) rfl rfl ?_
             refine tk2_ 11 37 (tl_ 24 4095) rfl rfl hHeld ?_
             refine pw_ 12 38 (tl_ 24 8191) rfl rfl ?_
             refine pw_ 13 39 (tl_ 24 16383) rfl rfl ?_
             refine pw_ 14 40 (tl_ 24 32767) rfl rfl ?_
             refine pw_ 15 41 (tl_ 24 65535) rfl rfl ?_
             refine pw_ 16 42 (tl_ 24 131071) rfl rfl ?_
             refine pw_ 17 43 (tl_ 24 262143) rfl rfl ?_
             refine pw_ 19 45 (tl_ 24 786431) rfl rfl ?_
             refine tk2_ 18 44 (tl_ 24 1048575) rfl rfl hHeld ?_
             refine one_ (i := 20) (N := some 46) (tl_ 24 2097151) rfl rfl (one_of HT_.out (g0_)) (by decide) (fun K hK => ?_)
             refine goes_ Try.func89 (g0_) rfl #[.int .i64 (rd t236 x21_2)] (by rfl) rfl rfl (g2_) ?_
             with_reducible refine (impl_whole.calls (rd t236 x21_2) t244 t245 _ A26.out).mono ?_
             rintro e w35 ⟨rfl, hb⟩
             refine ⟨_, rfl, ?_⟩
             replace HO_19 := Aside0.mk (Kd.R_below (uf1_ HO_19) hb)
             replace BK234 := Aside0.mk (blk_below (g := gb234) (o := .cells #[.slice A0_0 l0_0.length c0_0, .slice A0_1 l0_1.length c0_1] 26 (0, 0)) (uf0_ BK234) hb)
             replace HB := Aside0.mk (below_step (impl_arePays.calls_q0) hb)
             (try clear hb)
             (try clear hk hi)
             refine hK.out _ _ ⟨((cl_ HB hw240_0).trans rfl), ((cl_ HB hw240_1).trans rfl), ((cl_ HB hw242_0).trans rfl), ((cl_ HB hw242_1).trans rfl), ((cl_ HB hw243_0).trans rfl), ((cl_ HB hw243_1).trans rfl)⟩ (fun hHeld => ?_)
             clear hK K
             refine nm_ ?_
             refine one_ (i := 21) (N := some 47) (tl_ 24 4194303) rfl rfl (one_of HT_.out (g0_)) (by decide) (fun K hK => ?_)
             refine goes_ Try.func78 (g0_) rfl #[.agg #[.int .i64 ((rd_T36 l1 x21_2).f0), .int .i64 ((rd_T36 l1 x21_2).f1)], .agg #[.int .i64 t244, .int .i64 t245]] (by rfl) rfl rfl (g2_) ?_
             with_reducible refine (impl_compare.calls ((rd_T36 l1 x21_2).f0) ((rd_T36 l1 x21_2).f1) t244 t245 t246 _ A27.out).mono ?_
             rintro e w36 ⟨rfl, hb⟩
             refine ⟨_, rfl, ?_⟩
             replace HO_19 := Aside0.mk (Kd.R_below (uf1_ HO_19) hb)
             replace BK234 := Aside0.mk (blk_below (g := gb234) (o := .cells #[.slice A0_0 l0_0.length c0_0, .slice A0_1 l0_1.length c0_1] 26 (0, 0)) (uf0_ BK234) hb)
             replace HB := Aside0.mk (below_step (impl_arePays.calls_q0) hb)
             (try clear hb)
             (try clear hk hi)
             refine hK.out _ _ ⟨((cl_ HB hw240_0).trans rfl), ((cl_ HB hw240_1).trans rfl), ((cl_ HB hw242_0).trans rfl), ((cl_ HB hw242_1).trans rfl), ((cl_ HB hw243_0).trans rfl), ((cl_ HB hw243_1).trans rfl)⟩ (fun hHeld => ?_)
             clear hK K
             refine nm_ ?_
             refine pw_ 22 48 (tl_ 24 8388607) rfl rfl ?_
             refine pw_ 23 49 (tl_ 24 16777215) rfl rfl ?_
             refine done_ (done_of HT_.out (g0_)) ?_
             try go_wp2
             go_roundg k2
             case measure => have := HJ2.out; have := HK2.out; omega
             case rel => exact ⟨(wrap64 (x21_2 + 1)), (g3_), H', ⟨by have := HJ2.out; have := HK2.out; omega⟩, ⟨uf1_ HO_19⟩, ⟨uf0_ BK234⟩, ⟨impl_arePays.calls_q0⟩⟩
          ·replace c22 := Bool.eq_false_iff.mpr c22
           subst c22
           replace H := ifn_ H
           obtain rfl := Option.some.inj H
           have p239 : 0 ≤ (x21_2 : Int) := of_decide_eq_true (g1_)
           have q239 : x21_2 < (t236.length : Int) := of_decide_eq_true (g1_)
           obtain ⟨ad239, e239, hx239_0⟩ := Kd.at_int (Kd.R_reads' HO_19.out).2.2 x21_2 p239 q239
           cases e239
           replace p239 := eq_true p239
           replace q239 := eq_true q239
           try go_wp2
           replace HO_19 := Aside0.mk (Kd.R_drew HO_19.out)
           replace BK234 := Aside0.mk (blk_drew BK234.out)
           replace HB := Aside0.mk (below_drew1 HB.out)
           have p240 : 0 ≤ (x21_2 : Int) := of_decide_eq_true (g1_)
           have q240 : x21_2 < (l1.length : Int) := of_decide_eq_true (g1_)
           obtain ⟨ad240, e240, hx240_0, hx240_1⟩ := at_T36 HR1.out x21_2 p240 q240
           have hw240_1 := hx240_1
           have hw240_0 := hx240_0
           cases e240
           replace hx240_0 := cl_ HB hx240_0
           replace hx240_1 := cl_ HB hx240_1
           replace p240 := eq_true p240
           replace q240 := eq_true q240
           refine start_ (n := 24) (S := fun w' => w'.cell? (ad240.add ((x21_2).toNat * 2)) = some (.int .i64 ((rd_T36 l1 x21_2).f0)) ∧ w'.cell? ⟨(ad240.add ((x21_2).toNat * 2)).block, (ad240.add ((x21_2).toNat * 2)).off + 1, none⟩ = some (.int .i64 ((rd_T36 l1 x21_2).f1))) (ds := []) (tl_ 24 0) (g0_) rfl (g0_) ⟨((cl_ HB hw240_0).trans rfl), ((cl_ HB hw240_1).trans rfl)⟩ (fun hHeld => ?_); refine with_tabW impl_arePays.tab6 impl_arePays.bits6 (fun HT_ HW_ => ?_)
           generalize wr.drew = w37 at HO_19 BK234 HB hx240_0 hx240_1 hHeld ⊢
           refine pw_ 0 26 (tl_ 24 1) rfl rfl ?_
           refine pw_ 1 27 (tl_ 24 3) rfl rfl ?_
           refine pw_ 2 28 (tl_ 24 7) rfl rfl ?_
           refine tk0_ 3 29 (tl_ 24 15) rfl rfl hHeld ?_
           refine one_ (i := 4) (N := some 30) (tl_ 24 31) rfl rfl (one_of HT_.out (g0_)) (by decide) (fun K hK => ?_)
           refine goes_ Try.func77 (g0_) rfl #[.agg #[.int .i64 ((rd_T36 l1 x21_2).f0), .int .i64 ((rd_T36 l1 x21_2).f1)]] (by rfl) rfl rfl (g2_) ?_
           with_reducible refine (impl_isFrac.calls k2 ((rd_T36 l1 x21_2).f0) ((rd_T36 l1 x21_2).f1) false _ A21.out).mono ?_
           rintro e w38 ⟨rfl, hb⟩
           refine ⟨_, rfl, ?_⟩
           replace HO_19 := Aside0.mk (Kd.R_below (uf1_ HO_19) hb)
           replace BK234 := Aside0.mk (blk_below (g := gb234) (o := .cells #[.slice A0_0 l0_0.length c0_0, .slice A0_1 l0_1.length c0_1] 26 (0, 0)) (uf0_ BK234) hb)
           replace HB := Aside0.mk (below_step (impl_arePays.calls_q0) hb)
           (try clear hb)
           (try clear hk hi)
           refine hK.out _ _ ⟨((cl_ HB hw240_0).trans rfl), ((cl_ HB hw240_1).trans rfl)⟩ (fun hHeld => ?_)
           clear hK K
           refine nm_ ?_
           refine pw_ 5 31 (tl_ 24 63) rfl rfl ?_
           refine pw_ 6 32 (tl_ 24 127) rfl rfl ?_
           refine pure_ (i := 7) (N := some 33) (v := undef) (a' := ?_) (tl_ 24 255) rfl rfl (any_of HT_.out (g0_)) (fun _ _ _ h => h) (Or.inr ⟨by rfl, rfl⟩) ?_ ?_
           rotate_left
           ·simp only [Act.put, List.setIfInBounds_toArray, List.set_cons_zero, List.set_cons_succ, i64_w, i32_w]
            rfl
           refine pure_ (i := 8) (N := some 34) (v := undef) (a' := ?_) (tl_ 24 511) rfl rfl (any_of HT_.out (g0_)) (fun _ _ _ h => h) (Or.inr ⟨by rfl, rfl⟩) ?_ ?_
           rotate_left
           ·simp only [Act.put, List.setIfInBounds_toArray, List.set_cons_zero, List.set_cons_succ, i64_w, i32_w]
            rfl
           refine pure_ (i := 9) (N := some 35) (v := undef) (a' := ?_) (tl_ 24 1023) rfl rfl (any_of HT_.out (g0_)) (fun _ _ _ h => h) (Or.inr ⟨by rfl, rfl⟩) ?_ ?_
           rotate_left
           ·simp only [Act.put, List.setIfInBounds_toArray, List.set_cons_zero, List.set_cons_succ, i64_w, i32_w]
            rfl
           refine pure_ (i := 10) (N := some 36) (v := undef) (a' := ?_) (tl_ 24 2047) rfl rfl (any_of HT_.out (g0_)) (fun _ _ _ h => h) (Or.inr ⟨by rfl, rfl⟩) ?_ ?_
           rotate_left
           ·simp only [Act.put, List.setIfInBounds_toArray, List.set_cons_zero, List.set_cons_succ, i64_w, i32_w]
            rfl
           refine pure_ (i := 11) (N := some 37) (v := undef) (a' := ?_) (tl_ 24 4095) rfl rfl (any_of HT_.out (g0_)) (fun _ _ _ h => h) (Or.inr ⟨by rfl, rfl⟩) ?_ ?_
           rotate_left
           ·simp only [Act.put, List.setIfInBounds_toArray, List.set_cons_zero, List.set_cons_succ, i64_w, i32_w]
            rfl
           refine pure_ (i := 12) (N := some 38) (v := undef) (a' := ?_) (tl_ 24 8191) rfl rfl (any_of HT_.out (g0_)) (fun _ _ _ h => h) (Or.inr ⟨by rfl, rfl⟩) ?_ ?_
           rotate_left
           ·simp only [Act.put, List.setIfInBounds_toArray, List.set_cons_zero, List.set_cons_succ, i64_w, i32_w]
            rfl
           refine pw_ 13 39 (tl_ 24 16383) rfl rfl ?_
           refine pw_ 14 40 (tl_ 24 32767) rfl rfl ?_
           refine pure_ (i := 15) (N := some 41) (v := undef) (a' := ?_) (tl_ 24 65535) rfl rfl (any_of HT_.out (g0_)) (fun _ _ _ h => h) (Or.inr ⟨by rfl, rfl⟩) ?_ ?_
           rotate_left
           ·simp only [Act.put, List.setIfInBounds_toArray, List.set_cons_zero, List.set_cons_succ, i64_w, i32_w]
            rfl
           refine pure_ (i := 16) (N := some 42) (v := undef) (a' := ?_) (tl_ 24 131071) rfl rfl (any_of HT_.out (g0_)) (fun _ _ _ h => h) (Or.inr ⟨by rfl, rfl⟩) ?_ ?_
           rotate_left
           ·simp only [Act.put, List.setIfInBounds_toArray, List.set_cons_zero, List.set_cons_succ, i64_w, i32_w]
            rfl
           refine pure_ (i := 17) (N := some 43) (v := undef) (a' := ?_) (tl_ 24 262143) rfl rfl (any_of HT_.out (g0_)) (fun _ _ _ h => h) (Or.inr ⟨by rfl, rfl⟩) ?_ ?_
           rotate_left
           ·simp only [Act.put, List.setIfInBounds_toArray, List.set_cons_zero, List.set_cons_succ, i64_w, i32_w]
            rfl
           refine pure_ (i := 18) (N := some 44) (v := undef) (a' := ?_) (tl_ 24 524287) rfl rfl (any_of HT_.out (g0_)) (fun _ _ _ h => h) (Or.inr ⟨by rfl, rfl⟩) ?_ ?_
           rotate_left
           ·simp only [Act.put, List.setIfInBounds_toArray, List.set_cons_zero, List.set_cons_succ, i64_w, i32_w]
            rfl
           refine pure_ (i := 19) (N := some 45) (v := undef) (a' := ?_) (tl_ 24 1048575) rfl rfl (any_of HT_.out (g0_)) (fun _ _ _ h => h) (Or.inr ⟨by rfl, rfl⟩) ?_ ?_
           rotate_left
           ·simp only [Act.put, List.setIfInBounds_toArray, List.set_cons_zero, List.set_cons_succ, i64_w, i32_w]
            rfl
           refine pure_ (i := 20) (N := some 46) (v := undef) (a' := ?_) (tl_ 24 2097151) rfl rfl (any_of HT_.out (g0_)) (fun _ _ _ h => h) (Or.inr ⟨by rfl, rfl⟩) ?_ ?_
           rotate_left
           ·simp only [Act.put, List.setIfInBounds_toArray, List.set_cons_zero, List.set_cons_succ, i64_w, i32_w]
            rfl
           refine pure_ (i := 21) (N := some 47) (v := undef) (a' := ?_) (tl_ 24 4194303) rfl rfl (any_of HT_.out (g0_)) (fun _ _ _ h => h) (Or.inr ⟨by rfl, rfl⟩) ?_ ?_
           rotate_left
           ·simp only [Act.put, List.setIfInBounds_toArray, List.set_cons_zero, List.set_cons_succ, i64_w, i32_w]
            rfl
           refine pure_ (i := 22) (N := some 48) (v := undef) (a' := ?_) (tl_ 24 8388607) rfl rfl (any_of HT_.out (g0_)) (fun _ _ _ h => h) (Or.inr ⟨by rfl, rfl⟩) ?_ ?_
           rotate_left
           ·simp only [Act.put, List.setIfInBounds_toArray, List.set_cons_zero, List.set_cons_succ, i64_w, i32_w]
            rfl
           refine pw_ 23 49 (tl_ 24 16777215) rfl rfl ?_
           refine done_ (done_of HT_.out (g0_)) ?_
           try go_wp2
           go_ret
           exact ⟨g4_, impl_arePays.calls_q0⟩
         ·rw [if_neg c20] at H
          exact absurd H (by simp)
        ·rw [if_neg c19] at H
         exact absurd H (by simp)
       ·rw [if_neg c18] at H
        exact absurd H (by simp)
      ·rw [if_neg c17] at H
       have c17b0 := decide_eq_false c17
       clear c17
       obtain rfl := Option.some.inj H
       go_wp2
       go_ret
       exact ⟨g4_, impl_arePays.calls_q0⟩
end Go.Proofs.Ytigpmfoagkhaeaa.PU

namespace Go.Proofs.Ytigpmfoagkhaeaa.PU
open Go.RowKit Go.Proofs.YtigpmfoagkhaeaaW.PrintWords Go.Proofs.YtigpmfoagkhaeaaW.PrintLast Go.Proofs.YtigpmfoagkhaeaaW.PrintMore Go.Proofs.Ytigpmfoagkhaeaa.Qd
attribute [local go_sem] max2_int min2_int max_two min_two max_three min_three max_four min_four   -- for this text's walks alone
set_option linter.unusedVariables false
set_option linter.unusedSimpArgs false
def impl_lowest.f (k : Nat) (a0 : Int) (a1 : Int) : Option (Int × Int × Bool) := (impl_gcd.f k a0 a1).bind fun t248 => (if a1 < 0 then (if (wrap64 (-t248)) = 0 then (none) else ((impl_isFrac.f k (wrap64 (Int.tdiv a0 (wrap64 (-t248)))) (wrap64 (Int.tdiv a1 (wrap64 (-t248))))).bind fun t250 => (if t250 = true then (some (wrap64 (Int.tdiv a0 (wrap64 (-t248))), wrap64 (Int.tdiv a1 (wrap64 (-t248))), true)) else (some (0, 0, false))))) else (if t248 = 0 then (none) else ((impl_isFrac.f k (wrap64 (Int.tdiv a0 t248)) (wrap64 (Int.tdiv a1 t248))).bind fun t252 => (if t252 = true then (some (wrap64 (Int.tdiv a0 t248), wrap64 (Int.tdiv a1 t248), true)) else (some (0, 0, false))))))
theorem impl_lowest.mono : ∀ a0 a1 k, LeO (impl_lowest.f k a0 a1) (impl_lowest.f (k + 1) a0 a1) := by
 intro a0 a1 k
 unfold impl_lowest.f
 repeat' first
   | (with_reducible exact impl_gcd.mono _ _ _)
   | (with_reducible exact impl_isFrac.mono _ _ _)
   | (with_reducible exact LeO.refl _)
   | (with_reducible exact LeO.none _)
   | (with_reducible refine LeO.ite ?_ ?_)
   | (with_reducible refine LeO.bind ?_ (fun _ => ?_))
   | exact impl_gcd.mono _ _ _
   | exact impl_isFrac.mono _ _ _
   | exact LeO.none _
   | refine LeO.ite ?_ ?_
   | refine LeO.bind ?_ (fun _ => ?_)
def impl_lowest.T4 : Bool × List (List Nat × List Nat) := (true, [([], []), ([], []), ([0, 1], [0, 1]), ([], []), ([], []), ([3, 4], [3, 4]), ([2, 5], [2, 5]), ([], []), ([7, 6, 0, 1, 2, 3, 4, 5, 6, 7], [6, 7])])
def impl_lowest.B4 : List Nat := [0, 0, 3, 0, 0, 24, 63, 0, 255]
theorem impl_lowest.tab4 : rtab .any (opsOf Try.f92 4) = impl_lowest.T4 := by kernel_rfl
theorem impl_lowest.bits4 : waitsOk impl_lowest.T4.2 impl_lowest.B4 = true := by kernel_rfl
theorem impl_lowest.calls_q0 {p : Prop} (h : p := by repeat (first | (with_reducible first | exact HB.out | apply below_alloc | apply pw_below_drewN | apply below_drew1 | refine below_set ?_ GE247.out | refine below_set ?_ GE249.out | refine below_set ?_ GE251.out) | exact HB.out)) : p := h
set_option maxHeartbeats 8000000 in
set_option maxRecDepth 100000 in
theorem impl_lowest.calls (k : Nat) (a0 : Int) (a1 : Int) (r1 : Int) (r2 : Int) (r3 : Bool) (w : World) (h : impl_lowest.f k a0 a1 = some (r1, r2, r3)) :
  Calls Try.prog 92 #[.int .i64 a0, .int .i64 a1] w fun e w' => e = .returned (.tuple #[.agg #[.int .i64 r1, .int .i64 r2], .bool r3]) ∧ Below w.heap.size w w' := by
 have hu36 := Try.underlying36
 have HB := Aside0.mk (Below.refl w.heap.size w)
 have H : ((impl_gcd.f k a0 a1).bind fun t248 => (if a1 < 0 then (if (wrap64 (-t248)) = 0 then (none) else ((impl_isFrac.f k (wrap64 (Int.tdiv a0 (wrap64 (-t248)))) (wrap64 (Int.tdiv a1 (wrap64 (-t248))))).bind fun t250 => (if t250 = true then (some (wrap64 (Int.tdiv a0 (wrap64 (-t248))), wrap64 (Int.tdiv a1 (wrap64 (-t248))), true)) else (some (0, 0, false))))) else (if t248 = 0 then (none) else ((impl_isFrac.f k (wrap64 (Int.tdiv a0 t248)) (wrap64 (Int.tdiv a1 t248))).bind fun t252 => (if t252 = true then (some (wrap64 (Int.tdiv a0 t248), wrap64 (Int.tdiv a1 t248), true)) else (some (0, 0, false))))))) = some (r1, r2, r3) := h
 clear h
 obtain ⟨t248, A3, H⟩ := bind_ H
 by_cases c4 : a1 < 0
 ·rw [if_pos c4] at H
  have c4b0 := decide_eq_true c4
  clear c4
  by_cases c5 : (wrap64 (-t248)) = 0
  ·rw [if_pos c5] at H
   exact absurd H (by simp)
  ·rw [if_neg c5] at H
   have c5b0 : ((wrap64 (-t248)) == 0) = false := beq_eq_false_iff_ne.mpr c5
   have c5b1 : ((wrap64 (-t248)) != 0) = true := bne_iff_ne.mpr c5
   obtain ⟨t250, A6, H⟩ := bind_ H
   by_cases c7 : t250 = true
   ·subst c7
    replace H := ifp_ H
    simp only [Option.some.injEq, Prod.mk.injEq] at H
    obtain ⟨rfl, rfl, rfl⟩ := H
    go_enter Try.func92, Try.ntmps92
    try go_wp2_with (first | ((with_reducible refine gate_dst (N := 4) rfl ?_); refine bx_ (N := 4) #[.int .i64 0, .int .i64 0] 36 ?_; intro gb247 hg w8 hbox hb; have BK247 := Aside0.mk (hbox); have GW247 := Aside0.mk ((g18_ : w.heap.size ≤ gb247)); have GE247 := Aside0.mk ((g18_ : w.heap.size ≤ gb247)); replace HB := Aside0.mk (below_step (impl_lowest.calls_q0) hb); clear hb hbox hg) | ((with_reducible refine gate_callee (f := 97) rfl ?_); refine goesL_ (some 10) rfl rfl Try.func97 k_ rfl #[.int .i64 a0, .int .i64 a1] rfl (g2_) ?_; (with_reducible refine (impl_gcd.calls k a0 a1 t248 _ A3.out).mono ?_); rintro e w9 ⟨rfl, hb⟩; refine ⟨_, rfl, ?_⟩; replace BK247 := Aside0.mk (blk_below (g := gb247) (o := .cells #[.int .i64 0, .int .i64 0] 36 (0, 0)) (uf0_ BK247) hb); replace HB := Aside0.mk (below_step (impl_lowest.calls_q0) hb); (try clear hb); (try clear hk hi)))
    replace BK247 := Aside0.mk (blk_drew BK247.out)
    replace HB := Aside0.mk (below_drew1 HB.out)
    refine start_ (n := 9) (S := fun w' => True) (ds := []) (tl_ 9 0) (g0_) rfl (g0_) trivial (fun hHeld => ?_); refine with_tabW impl_lowest.tab4 impl_lowest.bits4 (fun HT_ HW_ => ?_)
    generalize w9.drew = w10 at BK247 HB hHeld ⊢
    refine pw_ 0 15 (tl_ 9 1) rfl rfl ?_
    refine pw_ 1 16 (tl_ 9 3) rfl rfl ?_
    refine pw_ 2 17 (tl_ 9 7) rfl rfl ?_
    refine pw_ 3 18 (tl_ 9 15) rfl rfl ?_
    refine pw_ 4 19 (tl_ 9 31) rfl rfl ?_
    refine pw_ 5 20 (tl_ 9 63) rfl rfl ?_
    refine pw_ 6 21 (tl_ 9 127) rfl rfl ?_
    refine one_ (i := 7) (N := some 7) (tl_ 9 255) rfl rfl (one_of HT_.out (g0_)) (by decide) (fun K hK => ?_)
    refine box_step ?hg (N := 7) ?hd (cs := #[.int .i64 0, .int .i64 0]) (t := 36) ?hr ?_; (case hd => rfl); (case hg => rfl); (case hr => first | (go_simp; done) | (go_simp; rfl))
    intro gb249 hg w11 hbox hb
    have BK249 := Aside0.mk (hbox)
    have GW249 := Aside0.mk ((g18_ : w.heap.size ≤ gb249))
    have GE249 := Aside0.mk ((g18_ : w.heap.size ≤ gb249))
    replace HB := Aside0.mk (below_step (impl_lowest.calls_q0) hb)
    have NB247_249 := Aside0.mk ((g88_ : gb247 ≠ gb249))
    have NB249_247 := Aside0.mk ((g89_ : gb249 ≠ gb247))
    replace BK247 := Aside0.mk (blk_below (g := gb247) (o := .cells #[.int .i64 0, .int .i64 0] 36 (0, 0)) (uf0_ BK247) hb)
    clear hb hbox hg
    refine hK.out _ _ trivial (fun hHeld => ?_)
    clear hK K
    refine nm_ ?_
    refine one_ (i := 8) (N := none) (tl_ 9 511) rfl rfl (one_of HT_.out (g0_)) (by decide) (fun K hK => ?_)
    have hs12 : w11.cell? ⟨gb249, 0, none⟩ = some (.int .i64 0) := (blk_cell BK249.out 0).trans rfl
    have hfs12 := blk_frozen BK249.out 0
    have hns12_0 := NB247_249.out
    have hms12_0 := NB249_247.out
    have hs13 : w11.cell? ⟨gb249, 1, none⟩ = some (.int .i64 0) := (blk_cell BK249.out 1).trans rfl
    have hfs13 := blk_frozen BK249.out 1
    have hns13_0 := NB247_249.out
    have hms13_0 := NB249_247.out
    refine skip_ (w1 := ?_) (by rfl) rfl ?_ ?_
    rotate_left
    ·go_simp
     rfl
    refine hK.out _ _ trivial (fun hHeld => ?_)
    clear hK K
    refine done_ (done_of HT_.out (g0_)) ?_
    have hnb14 := NB249_247.out
    have hnc14 := NB247_249.out
    obtain ⟨hcz15_0, hcz15_1, hfz15_0, hfz15_1⟩ := blk2_ BK249
    try go_wp2_with (first | ((with_reducible refine gate_callee (f := 77) rfl ?_); refine goesL_ (some 23) rfl rfl Try.func77 k_ rfl #[.agg #[.int .i64 (wrap64 (Int.tdiv a0 (wrap64 (-t248)))), .int .i64 (wrap64 (Int.tdiv a1 (wrap64 (-t248))))]] rfl (g2_) ?_; (with_reducible refine (impl_isFrac.calls k (wrap64 (Int.tdiv a0 (wrap64 (-t248)))) (wrap64 (Int.tdiv a1 (wrap64 (-t248)))) true _ A6.out).mono ?_); rintro e w16 ⟨rfl, hb⟩; refine ⟨_, rfl, ?_⟩; replace BK247 := Aside0.mk (blk_below (g := gb247) (o := .cells #[.int .i64 0, .int .i64 0] 36 (0, 0)) (by (with_reducible repeat (first | refine blk_drewN ?_ _ | refine blk_drew ?_ | refine blk_alloc ?_ _)); refine blk_far ?_ NB247_249.out _; (with_reducible repeat (first | refine blk_drewN ?_ _ | refine blk_drew ?_ | refine blk_alloc ?_ _)); refine blk_far ?_ NB247_249.out _; (with_reducible repeat (first | refine blk_drewN ?_ _ | refine blk_drew ?_ | refine blk_alloc ?_ _)); exact BK247.out) hb); replace BK249 := Aside0.mk (blk_below (g := gb249) (o := .cells #[.int .i64 (wrap64 (Int.tdiv a0 (wrap64 (-t248)))), .int .i64 (wrap64 (Int.tdiv a1 (wrap64 (-t248))))] 36 (0, 0)) (by (with_reducible repeat (first | refine blk_drewN ?_ _ | refine blk_drew ?_ | refine blk_alloc ?_ _)); refine blk_put (cs := #[.int .i64 (wrap64 (Int.tdiv a0 (wrap64 (-t248)))), .int .i64 0]) ?_ 1 _ rfl; (with_reducible repeat (first | refine blk_drewN ?_ _ | refine blk_drew ?_ | refine blk_alloc ?_ _)); refine blk_put (cs := #[.int .i64 0, .int .i64 0]) ?_ 0 _ rfl; (with_reducible repeat (first | refine blk_drewN ?_ _ | refine blk_drew ?_ | refine blk_alloc ?_ _)); exact BK249.out) hb); replace HB := Aside0.mk (below_step (impl_lowest.calls_q0) hb); (try clear hb); (try clear hk hi); obtain ⟨hcz17_0, hcz17_1, hfz17_0, hfz17_1⟩ := blk2_ BK249; obtain ⟨hcz18_0, hcz18_1, hfz18_0, hfz18_1⟩ := blk2_ BK247))
    refine bodyPost_ret (results_ct rfl _ _ gb247 36 #[.int .i64 (wrap64 (Int.tdiv a0 (wrap64 (-t248)))), .int .i64 (wrap64 (Int.tdiv a1 (wrap64 (-t248))))] (0, 0) _ rfl (by (with_reducible repeat (first | refine blk_drewN ?_ _ | refine blk_drew ?_ | refine blk_alloc ?_ _)); refine blk_put (cs := #[.int .i64 (wrap64 (Int.tdiv a0 (wrap64 (-t248)))), .int .i64 0]) ?_ 1 _ rfl; (with_reducible repeat (first | refine blk_drewN ?_ _ | refine blk_drew ?_ | refine blk_alloc ?_ _)); refine blk_put (cs := #[.int .i64 0, .int .i64 0]) ?_ 0 _ rfl; (with_reducible repeat (first | refine blk_drewN ?_ _ | refine blk_drew ?_ | refine blk_alloc ?_ _)); exact BK247.out) Try.underlying36 rfl (g0_)) rfl ?_
    exact ⟨g4_, impl_lowest.calls_q0⟩
   ·replace c7 := Bool.eq_false_iff.mpr c7
    subst c7
    replace H := ifn_ H
    simp only [Option.some.injEq, Prod.mk.injEq] at H
    obtain ⟨rfl, rfl, rfl⟩ := H
    go_enter Try.func92, Try.ntmps92
    try go_wp2_with (first | ((with_reducible refine gate_dst (N := 4) rfl ?_); refine bx_ (N := 4) #[.int .i64 0, .int .i64 0] 36 ?_; intro gb247 hg w19 hbox hb; have BK247 := Aside0.mk (hbox); have GW247 := Aside0.mk ((g18_ : w.heap.size ≤ gb247)); have GE247 := Aside0.mk ((g18_ : w.heap.size ≤ gb247)); replace HB := Aside0.mk (below_step (impl_lowest.calls_q0) hb); clear hb hbox hg) | ((with_reducible refine gate_callee (f := 97) rfl ?_); refine goesL_ (some 10) rfl rfl Try.func97 k_ rfl #[.int .i64 a0, .int .i64 a1] rfl (g2_) ?_; (with_reducible refine (impl_gcd.calls k a0 a1 t248 _ A3.out).mono ?_); rintro e w20 ⟨rfl, hb⟩; refine ⟨_, rfl, ?_⟩; replace BK247 := Aside0.mk (blk_below (g := gb247) (o := .cells #[.int .i64 0, .int .i64 0] 36 (0, 0)) (uf0_ BK247) hb); replace HB := Aside0.mk (below_step (impl_lowest.calls_q0) hb); (try clear hb); (try clear hk hi)))
    replace BK247 := Aside0.mk (blk_drew BK247.out)
    replace HB := Aside0.mk (below_drew1 HB.out)
    refine start_ (n := 9) (S := fun w' => True) (ds := []) (tl_ 9 0) (g0_) rfl (g0_) trivial (fun hHeld => ?_); refine with_tabW impl_lowest.tab4 impl_lowest.bits4 (fun HT_ HW_ => ?_)
    generalize w20.drew = w21 at BK247 HB hHeld ⊢
    refine pw_ 0 15 (tl_ 9 1) rfl rfl ?_
    refine pw_ 1 16 (tl_ 9 3) rfl rfl ?_
    refine pw_ 2 17 (tl_ 9 7) rfl rfl ?_
    refine pw_ 3 18 (tl_ 9 15) rfl rfl ?_
    refine pw_ 4 19 (tl_ 9 31) rfl rfl ?_
    refine pw_ 5 20 (tl_ 9 63) rfl rfl ?_
    refine pw_ 6 21 (tl_ 9 127) rfl rfl ?_
    refine one_ (i := 7) (N := some 7) (tl_ 9 255) rfl rfl (one_of HT_.out (g0_)) (by decide) (fun K hK => ?_)
    refine box_step ?hg (N := 7) ?hd (cs := #[.int .i64 0, .int .i64 0]) (t := 36) ?hr ?_; (case hd => rfl); (case hg => rfl); (case hr => first | (go_simp; done) | (go_simp; rfl))
    intro gb249 hg w22 hbox hb
    have BK249 := Aside0.mk (hbox)
    have GW249 := Aside0.mk ((g18_ : w.heap.size ≤ gb249))
    have GE249 := Aside0.mk ((g18_ : w.heap.size ≤ gb249))
    replace HB := Aside0.mk (below_step (impl_lowest.calls_q0) hb)
    have NB247_249 := Aside0.mk ((g88_ : gb247 ≠ gb249))
    have NB249_247 := Aside0.mk ((g89_ : gb249 ≠ gb247))
    replace BK247 := Aside0.mk (blk_below (g := gb247) (o := .cells #[.int .i64 0, .int .i64 0] 36 (0, 0)) (uf0_ BK247) hb)
    clear hb hbox hg
    refine hK.out _ _ trivial (fun hHeld => ?_)
    clear hK K
    refine nm_ ?_
    refine one_ (i := 8) (N := none) (tl_ 9 511) rfl rfl (one_of HT_.out (g0_)) (by decide) (fun K hK => ?_)
    have hs23 : w22.cell? ⟨gb249, 0, none⟩ = some (.int .i64 0) := (blk_cell BK249.out 0).trans rfl
    have hfs23 := blk_frozen BK249.out 0
    have hns23_0 := NB247_249.out
    have hms23_0 := NB249_247.out
    have hs24 : w22.cell? ⟨gb249, 1, none⟩ = some (.int .i64 0) := (blk_cell BK249.out 1).trans rfl
    have hfs24 := blk_frozen BK249.out 1
    have hns24_0 := NB247_249.out
    have hms24_0 := NB249_247.out
    refine skip_ (w1 := ?_) (by rfl) rfl ?_ ?_
    rotate_left
    ·go_simp
     rfl
    refine hK.out _ _ trivial (fun hHeld => ?_)
    clear hK K
    refine done_ (done_of HT_.out (g0_)) ?_
    have hnb25 := NB249_247.out
    have hnc25 := NB247_249.out
    obtain ⟨hcz26_0, hcz26_1, hfz26_0, hfz26_1⟩ := blk2_ BK249
    try go_wp2_with (first | ((with_reducible refine gate_callee (f := 77) rfl ?_); refine goesL_ (some 23) rfl rfl Try.func77 k_ rfl #[.agg #[.int .i64 (wrap64 (Int.tdiv a0 (wrap64 (-t248)))), .int .i64 (wrap64 (Int.tdiv a1 (wrap64 (-t248))))]] rfl (g2_) ?_; (with_reducible refine (impl_isFrac.calls k (wrap64 (Int.tdiv a0 (wrap64 (-t248)))) (wrap64 (Int.tdiv a1 (wrap64 (-t248)))) false _ A6.out).mono ?_); rintro e w27 ⟨rfl, hb⟩; refine ⟨_, rfl, ?_⟩; replace BK247 := Aside0.mk (blk_below (g := gb247) (o := .cells #[.int .i64 0, .int .i64 0] 36 (0, 0)) (by (with_reducible repeat (first | refine blk_drewN ?_ _ | refine blk_drew ?_ | refine blk_alloc ?_ _)); refine blk_far ?_ NB247_249.out _; (with_reducible repeat (first | refine blk_drewN ?_ _ | refine blk_drew ?_ | refine blk_alloc ?_ _)); refine blk_far ?_ NB247_249.out _; (with_reducible repeat (first | refine blk_drewN ?_ _ | refine blk_drew ?_ | refine blk_alloc ?_ _)); exact BK247.out) hb); replace BK249 := Aside0.mk (blk_below (g := gb249) (o := .cells #[.int .i64 (wrap64 (Int.tdiv a0 (wrap64 (-t248)))), .int .i64 (wrap64 (Int.tdiv a1 (wrap64 (-t248))))] 36 (0, 0)) (by (with_reducible repeat (first | refine blk_drewN ?_ _ | refine blk_drew ?_ | refine blk_alloc ?_ _)); refine blk_put (cs := #[.int .i64 (wrap64 (Int.tdiv a0 (wrap64 (-t248)))), .int .i64 0]) ?_ 1 _ rfl; (with_reducible repeat (first | refine blk_drewN ?_ _ | refine blk_drew ?_ | refine blk_alloc ?_ _)); refine blk_put (cs := #[.int .i64 0, .int .i64 0]) ?_ 0 _ rfl; (with_reducible repeat (first | refine blk_drewN ?_ _ | refine blk_drew ?_ | refine blk_alloc ?_ _)); exact BK249.out) hb); replace HB := Aside0.mk (below_step (impl_lowest.calls_q0) hb); (try clear hb); (try clear hk hi); obtain ⟨hcz28_0, hcz28_1, hfz28_0, hfz28_1⟩ := blk2_ BK247))
    refine bodyPost_ret (results_ct rfl _ _ gb247 36 #[.int .i64 0, .int .i64 0] (0, 0) _ rfl (by (with_reducible repeat (first | refine blk_drewN ?_ _ | refine blk_drew ?_ | refine blk_alloc ?_ _)); refine blk_put (cs := #[.int .i64 0, .int .i64 0]) ?_ 1 _ rfl; (with_reducible repeat (first | refine blk_drewN ?_ _ | refine blk_drew ?_ | refine blk_alloc ?_ _)); refine blk_put (cs := #[.int .i64 0, .int .i64 0]) ?_ 0 _ rfl; (with_reducible repeat (first | refine blk_drewN ?_ _ | refine blk_drew ?_ | refine blk_alloc ?_ _)); exact BK247.out) Try.underlying36 rfl (g0_)) rfl ?_
    exact ⟨g4_, impl_lowest.calls_q0⟩
 ·rw [if_neg c4] at H
  have c4b0 := decide_eq_false c4
  clear c4
  by_cases c29 : t248 = 0
  ·rw [if_pos c29] at H
   exact absurd H (by simp)
  ·rw [if_neg c29] at H
   have c29b0 : (t248 == 0) = false := beq_eq_false_iff_ne.mpr c29
   have c29b1 : (t248 != 0) = true := bne_iff_ne.mpr c29
   obtain ⟨t252, A30, H⟩ := bind_ H
   by_cases c31 : t252 = true
   ·subst c31
    replace H := ifp_ H
    simp only [Option.some.injEq, Prod.mk.injEq] at H
    obtain ⟨rfl, rfl, rfl⟩ := H
    go_enter Try.func92, Try.ntmps92
    try go_wp2_with (first | ((with_reducible refine gate_dst (N := 4) rfl ?_); refine bx_ (N := 4) #[.int .i64 0, .int .i64 0] 36 ?_; intro gb247 hg w32 hbox hb; have BK247 := Aside0.mk (hbox); have GW247 := Aside0.mk ((g18_ : w.heap.size ≤ gb247)); have GE247 := Aside0.mk ((g18_ : w.heap.size ≤ gb247)); replace HB := Aside0.mk (below_step (impl_lowest.calls_q0) hb); clear hb hbox hg) | ((with_reducible refine gate_callee (f := 97) rfl ?_); refine goesL_ (some 10) rfl rfl Try.func97 k_ rfl #[.int .i64 a0, .int .i64 a1] rfl (g2_) ?_; (with_reducible refine (impl_gcd.calls k a0 a1 t248 _ A3.out).mono ?_); rintro e w33 ⟨rfl, hb⟩; refine ⟨_, rfl, ?_⟩; replace BK247 := Aside0.mk (blk_below (g := gb247) (o := .cells #[.int .i64 0, .int .i64 0] 36 (0, 0)) (uf0_ BK247) hb); replace HB := Aside0.mk (below_step (impl_lowest.calls_q0) hb); (try clear hb); (try clear hk hi)))
    replace BK247 := Aside0.mk (blk_drew BK247.out)
    replace HB := Aside0.mk (below_drew1 HB.out)
    refine start_ (n := 9) (S := fun w' => True) (ds := []) (tl_ 9 0) (g0_) rfl (g0_) trivial (fun hHeld => ?_); refine with_tabW impl_lowest.tab4 impl_lowest.bits4 (fun HT_ HW_ => ?_)
    generalize w33.drew = w34 at BK247 HB hHeld ⊢
    refine pw_ 0 15 (tl_ 9 1) rfl rfl ?_
    refine pw_ 1 16 (tl_ 9 3) rfl rfl ?_
    refine pw_ 2 17 (tl_ 9 7) rfl rfl ?_
    refine pw_ 3 18 (tl_ 9 15) rfl rfl ?_
    refine pw_ 4 19 (tl_ 9 31) rfl rfl ?_
    refine pw_ 5 20 (tl_ 9 63) rfl rfl ?_
    refine pw_ 6 21 (tl_ 9 127) rfl rfl ?_
    refine one_ (i := 7) (N := some 7) (tl_ 9 255) rfl rfl (one_of HT_.out (g0_)) (by decide) (fun K hK => ?_)
    refine box_step ?hg (N := 7) ?hd (cs := #[.int .i64 0, .int .i64 0]) (t := 36) ?hr ?_; (case hd => rfl); (case hg => rfl); (case hr => first | (go_simp; done) | (go_simp; rfl))
    intro gb251 hg w35 hbox hb
    have BK251 := Aside0.mk (hbox)
    have GW251 := Aside0.mk ((g18_ : w.heap.size ≤ gb251))
    have GE251 := Aside0.mk ((g18_ : w.heap.size ≤ gb251))
    replace HB := Aside0.mk (below_step (impl_lowest.calls_q0) hb)
    have NB247_251 := Aside0.mk ((g88_ : gb247 ≠ gb251))
    have NB251_247 := Aside0.mk ((g89_ : gb251 ≠ gb247))
    replace BK247 := Aside0.mk (blk_below (g := gb247) (o := .cells #[.int .i64 0, .int .i64 0] 36 (0, 0)) (uf0_ BK247) hb)
    clear hb hbox hg
    refine hK.out _ _ trivial (fun hHeld => ?_)
    clear hK K
    refine nm_ ?_
    refine one_ (i := 8) (N := none) (tl_ 9 511) rfl rfl (one_of HT_.out (g0_)) (by decide) (fun K hK => ?_)
    have hs36 : w35.cell? ⟨gb251, 0, none⟩ = some (.int .i64 0) := (blk_cell BK251.out 0).trans rfl
    have hfs36 := blk_frozen BK251.out 0
    have hns36_0 := NB247_251.out
    have hms36_0 := NB251_247.out
    have hs37 : w35.cell? ⟨gb251, 1, none⟩ = some (.int .i64 0) := (blk_cell BK251.out 1).trans rfl
    have hfs37 := blk_frozen BK251.out 1
    have hns37_0 := NB247_251.out
    have hms37_0 := NB251_247.out
    refine skip_ (w1 := ?_) (by rfl) rfl ?_ ?_
    rotate_left
    ·go_simp
     rfl
    refine hK.out _ _ trivial (fun hHeld => ?_)
    clear hK K
    refine done_ (done_of HT_.out (g0_)) ?_
    have hnb38 := NB251_247.out
    have hnc38 := NB247_251.out
    obtain ⟨hcz39_0, hcz39_1, hfz39_0, hfz39_1⟩ := blk2_ BK251
    try go_wp2_with (first | ((with_reducible refine gate_callee (f := 77) rfl ?_); refine goesL_ (some 23) rfl rfl Try.func77 k_ rfl #[.agg #[.int .i64 (wrap64 (Int.tdiv a0 t248)), .int .i64 (wrap64 (Int.tdiv a1 t248))]] rfl (g2_) ?_; (with_reducible refine (impl_isFrac.calls k (wrap64 (Int.tdiv a0 t248)) (wrap64 (Int.tdiv a1 t248)) true _ A30.out).mono ?_); rintro e w40 ⟨rfl, hb⟩; refine ⟨_, rfl, ?_⟩; replace BK247 := Aside0.mk (blk_below (g := gb247) (o := .cells #[.int .i64 0, .int .i64 0] 36 (0, 0)) (by (with_reducible repeat (first | refine blk_drewN ?_ _ | refine blk_drew ?_ | refine blk_alloc ?_ _)); refine blk_far ?_ NB247_251.out _; (with_reducible repeat (first | refine blk_drewN ?_ _ | refine blk_drew ?_ | refine blk_alloc ?_ _)); refine blk_far ?_ NB247_251.out _; (with_reducible repeat (first | refine blk_drewN ?_ _ | refine blk_drew ?_ | refine blk_alloc ?_ _)); exact BK247.out) hb); replace BK251 := Aside0.mk (blk_below (g := gb251) (o := .cells #[.int .i64 (wrap64 (Int.tdiv a0 t248)), .int .i64 (wrap64 (Int.tdiv a1 t248))] 36 (0, 0)) (by (with_reducible repeat (first | refine blk_drewN ?_ _ | refine blk_drew ?_ | refine blk_alloc ?_ _)); refine blk_put (cs := #[.int .i64 (wrap64 (Int.tdiv a0 t248)), .int .i64 0]) ?_ 1 _ rfl; (with_reducible repeat (first | refine blk_drewN ?_ _ | refine blk_drew ?_ | refine blk_alloc ?_ _)); refine blk_put (cs := #[.int .i64 0, .int .i64 0]) ?_ 0 _ rfl; (with_reducible repeat (first | refine blk_drewN ?_ _ | refine blk_drew ?_ | refine blk_alloc ?_ _)); exact BK251.out) hb); replace HB := Aside0.mk (below_step (impl_lowest.calls_q0) hb); (try clear hb); (try clear hk hi); obtain ⟨hcz41_0, hcz41_1, hfz41_0, hfz41_1⟩ := blk2_ BK251; obtain ⟨hcz42_0, hcz42_1, hfz42_0, hfz42_1⟩ := blk2_ BK247))
    refine bodyPost_ret (results_ct rfl _ _ gb247 36 #[.int .i64 (wrap64 (Int.tdiv a0 t248)), .int .i64 (wrap64 (Int.tdiv a1 t248))] (0, 0) _ rfl (by (with_reducible repeat (first | refine blk_drewN ?_ _ | refine blk_drew ?_ | refine blk_alloc ?_ _)); refine blk_put (cs := #[.int .i64 (wrap64 (Int.tdiv a0 t248)), .int .i64 0]) ?_ 1 _ rfl; (with_reducible repeat (first | refine blk_drewN ?_ _ | refine blk_drew ?_ | refine blk_alloc ?_ _)); refine blk_put (cs := #[.int .i64 0, .int .i64 0]) ?_ 0 _ rfl; (with_reducible repeat (first | refine blk_drewN ?_ _ | refine blk_drew ?_ | refine blk_alloc ?_ _)); exact BK247.out) Try.underlying36 rfl (g0_)) rfl ?_
    exact ⟨g4_, impl_lowest.calls_q0⟩
   ·replace c31 := Bool.eq_false_iff.mpr c31
    subst c31
    replace H := ifn_ H
    simp only [Option.some.injEq, Prod.mk.injEq] at H
    obtain ⟨rfl, rfl, rfl⟩ := H
    go_enter Try.func92, Try.ntmps92
    try go_wp2_with (first | ((with_reducible refine gate_dst (N := 4) rfl ?_); refine bx_ (N := 4) #[.int .i64 0, .int .i64 0] 36 ?_; intro gb247 hg w43 hbox hb; have BK247 := Aside0.mk (hbox); have GW247 := Aside0.mk ((g18_ : w.heap.size ≤ gb247)); have GE247 := Aside0.mk ((g18_ : w.heap.size ≤ gb247)); replace HB := Aside0.mk (below_step (impl_lowest.calls_q0) hb); clear hb hbox hg) | ((with_reducible refine gate_callee (f := 97) rfl ?_); refine goesL_ (some 10) rfl rfl Try.func97 k_ rfl #[.int .i64 a0, .int .i64 a1] rfl (g2_) ?_; (with_reducible refine (impl_gcd.calls k a0 a1 t248 _ A3.out).mono ?_); rintro e w44 ⟨rfl, hb⟩; refine ⟨_, rfl, ?_⟩; replace BK247 := Aside0.mk (blk_below (g := gb247) (o := .cells #[.int .i64 0, .int .i64 0] 36 (0, 0)) (uf0_ BK247) hb); replace HB := Aside0.mk (below_step (impl_lowest.calls_q0) hb); (try clear hb); (try clear hk hi)))
    replace BK247 := Aside0.mk (blk_drew BK247.out)
    replace HB := Aside0.mk (below_drew1 HB.out)
    refine start_ (n := 9) (S := fun w' => True) (ds := []) (tl_ 9 0) (g0_) rfl (g0_) trivial (fun hHeld => ?_); refine with_tabW impl_lowest.tab4 impl_lowest.bits4 (fun HT_ HW_ => ?_)
    generalize w44.drew = w45 at BK247 HB hHeld ⊢
    refine pw_ 0 15 (tl_ 9 1) rfl rfl ?_
    refine pw_ 1 16 (tl_ 9 3) rfl rfl ?_
    refine pw_ 2 17 (tl_ 9 7) rfl rfl ?_
    refine pw_ 3 18 (tl_ 9 15) rfl rfl ?_
    refine pw_ 4 19 (tl_ 9 31) rfl rfl ?_
    refine pw_ 5 20 (tl_ 9 63) rfl rfl ?_
    refine pw_ 6 21 (tl_ 9 127) rfl rfl ?_
    refine one_ (i := 7) (N := some 7) (tl_ 9 255) rfl rfl (one_of HT_.out (g0_)) (by decide) (fun K hK => ?_)
    refine box_step ?hg (N := 7) ?hd (cs := #[.int .i64 0, .int .i64 0]) (t := 36) ?hr ?_; (case hd => rfl); (case hg => rfl); (case hr => first | (go_simp; done) | (go_simp; rfl))
    intro gb251 hg w46 hbox hb
    have BK251 := Aside0.mk (hbox)
    have GW251 := Aside0.mk ((g18_ : w.heap.size ≤ gb251))
    have GE251 := Aside0.mk ((g18_ : w.heap.size ≤ gb251))
    replace HB := Aside0.mk (below_step (impl_lowest.calls_q0) hb)
    have NB247_251 := Aside0.mk ((g88_ : gb247 ≠ gb251))
    have NB251_247 := Aside0.mk ((g89_ : gb251 ≠ gb247))
    replace BK247 := Aside0.mk (blk_below (g := gb247) (o := .cells #[.int .i64 0, .int .i64 0] 36 (0, 0)) (uf0_ BK247) hb)
    clear hb hbox hg
    refine hK.out _ _ trivial (fun hHeld => ?_)
    clear hK K
    refine nm_ ?_
    refine one_ (i := 8) (N := none) (tl_ 9 511) rfl rfl (one_of HT_.out (g0_)) (by decide) (fun K hK => ?_)
    have hs47 : w46.cell? ⟨gb251, 0, none⟩ = some (.int .i64 0) := (blk_cell BK251.out 0).trans rfl
    have hfs47 := blk_frozen BK251.out 0
    have hns47_0 := NB247_251.out
    have hms47_0 := NB251_247.out
    have hs48 : w46.cell? ⟨gb251, 1, none⟩ = some (.int .i64 0) := (blk_cell BK251.out 1).trans rfl
    have hfs48 := blk_frozen BK251.out 1
    have hns48_0 := NB247_251.out
    have hms48_0 := NB251_247.out
    refine skip_ (w1 := ?_) (by rfl) rfl ?_ ?_
    rotate_left
    ·go_simp
     rfl
    refine hK.out _ _ trivial (fun hHeld => ?_)
    clear hK K
    refine done_ (done_of HT_.out (g0_)) ?_
    have hnb49 := NB251_247.out
    have hnc49 := NB247_251.out
    obtain ⟨hcz50_0, hcz50_1, hfz50_0, hfz50_1⟩ := blk2_ BK251
    try go_wp2_with (first | ((with_reducible refine gate_callee (f := 77) rfl ?_); refine goesL_ (some 23) rfl rfl Try.func77 k_ rfl #[.agg #[.int .i64 (wrap64 (Int.tdiv a0 t248)), .int .i64 (wrap64 (Int.tdiv a1 t248))]] rfl (g2_) ?_; (with_reducible refine (impl_isFrac.calls k (wrap64 (Int.tdiv a0 t248)) (wrap64 (Int.tdiv a1 t248)) false _ A30.out).mono ?_); rintro e w51 ⟨rfl, hb⟩; refine ⟨_, rfl, ?_⟩; replace BK247 := Aside0.mk (blk_below (g := gb247) (o := .cells #[.int .i64 0, .int .i64 0] 36 (0, 0)) (by (with_reducible repeat (first | refine blk_drewN ?_ _ | refine blk_drew ?_ | refine blk_alloc ?_ _)); refine blk_far ?_ NB247_251.out _; (with_reducible repeat (first | refine blk_drewN ?_ _ | refine blk_drew ?_ | refine blk_alloc ?_ _)); refine blk_far ?_ NB247_251.out _; (with_reducible repeat (first | refine blk_drewN ?_ _ | refine blk_drew ?_ | refine blk_alloc ?_ _)); exact BK247.out) hb); replace BK251 := Aside0.mk (blk_below (g := gb251) (o := .cells #[.int .i64 (wrap64 (Int.tdiv a0 t248)), .int .i64 (wrap64 (Int.tdiv a1 t248))] 36 (0, 0)) (by (with_reducible repeat (first | refine blk_drewN ?_ _ | refine blk_drew ?_ | refine blk_alloc ?_ _)); refine blk_put (cs := #[.int .i64 (wrap64 (Int.tdiv a0 t248)), .int .i64 0]) ?_ 1 _ rfl; (with_reducible repeat (first | refine blk_drewN ?_ _ | refine blk_drew ?_ | refine blk_alloc ?_ _)); refine blk_put (cs := #[.int .i64 0, .int .i64 0]) ?_ 0 _ rfl; (with_reducible repeat (first | refine blk_drewN ?_ _ | refine blk_drew ?_ | refine blk_alloc ?_ _)); exact BK251.out) hb); replace HB := Aside0.mk (below_step (impl_lowest.calls_q0) hb); (try clear hb); (try clear hk hi); obtain ⟨hcz52_0, hcz52_1, hfz52_0, hfz52_1⟩ := blk2_ BK247))
    refine bodyPost_ret (results_ct rfl _ _ gb247 36 #[.int .i64 0, .int .i64 0] (0, 0) _ rfl (by (with_reducible repeat (first | refine blk_drewN ?_ _ | refine blk_drew ?_ | refine blk_alloc ?_ _)); refine blk_put (cs := #[.int .i64 0, .int .i64 0]) ?_ 1 _ rfl; (with_reducible repeat (first | refine blk_drewN ?_ _ | refine blk_drew ?_ | refine blk_alloc ?_ _)); refine blk_put (cs := #[.int .i64 0, .int .i64 0]) ?_ 0 _ rfl; (with_reducible repeat (first | refine blk_drewN ?_ _ | refine blk_drew ?_ | refine blk_alloc ?_ _)); exact BK247.out) Try.underlying36 rfl (g0_)) rfl ?_
    exact ⟨g4_, impl_lowest.calls_q0⟩
end Go.Proofs.Ytigpmfoagkhaeaa.PU

namespace Go.Proofs.Ytigpmfoagkhaeaa.PU
open Go.RowKit Go.Proofs.YtigpmfoagkhaeaaW.PrintWords Go.Proofs.YtigpmfoagkhaeaaW.PrintLast Go.Proofs.YtigpmfoagkhaeaaW.PrintMore Go.Proofs.Ytigpmfoagkhaeaa.Qd
attribute [local go_sem] max2_int min2_int max_two min_two max_three min_three max_four min_four   -- for this text's walks alone
set_option linter.unusedVariables false
set_option linter.unusedSimpArgs false
def impl_plus.f (k : Nat) (a0_0 : Int) (a0_1 : Int) (a1_0 : Int) (a1_1 : Int) : Option (Int × Int × Bool) := (impl_lowest.f k (wrap64 ((wrap64 (a0_0 * a1_1)) + (wrap64 (a1_0 * a0_1)))) (wrap64 (a0_1 * a1_1))).bind fun bt256 => (some (bt256.1, bt256.2.1, bt256.2.2))
theorem impl_plus.mono : ∀ a0 a1 a2 a3 k, LeO (impl_plus.f k a0 a1 a2 a3) (impl_plus.f (k + 1) a0 a1 a2 a3) := by
 intro a0 a1 a2 a3 k
 unfold impl_plus.f
 repeat' first
   | (with_reducible exact impl_lowest.mono _ _ _)
   | (with_reducible exact LeO.refl _)
   | (with_reducible exact LeO.none _)
   | (with_reducible refine LeO.ite ?_ ?_)
   | (with_reducible refine LeO.bind ?_ (fun _ => ?_))
   | exact impl_lowest.mono _ _ _
   | exact LeO.none _
   | refine LeO.ite ?_ ?_
   | refine LeO.bind ?_ (fun _ => ?_)
theorem impl_plus.calls_q0 {p : Prop} (h : p := by repeat (first | (with_reducible first | exact HB.out | apply below_alloc | apply pw_below_drewN | apply below_drew1 | refine below_set ?_ GE253.out | refine below_set ?_ GE254.out | refine below_set ?_ GE255.out) | exact HB.out)) : p := h
set_option maxHeartbeats 8000000 in
set_option maxRecDepth 100000 in
theorem impl_plus.calls (k : Nat) (a0_0 : Int) (a0_1 : Int) (a1_0 : Int) (a1_1 : Int) (r1 : Int) (r2 : Int) (r3 : Bool) (w : World) (h : impl_plus.f k a0_0 a0_1 a1_0 a1_1 = some (r1, r2, r3)) :
  Calls Try.prog 81 #[.agg #[.int .i64 a0_0, .int .i64 a0_1], .agg #[.int .i64 a1_0, .int .i64 a1_1]] w fun e w' => e = .returned (.tuple #[.agg #[.int .i64 r1, .int .i64 r2], .bool r3]) ∧ Below w.heap.size w w' := by
 have hu36 := Try.underlying36
 have HB := Aside0.mk (Below.refl w.heap.size w)
 have H : ((impl_lowest.f k (wrap64 ((wrap64 (a0_0 * a1_1)) + (wrap64 (a1_0 * a0_1)))) (wrap64 (a0_1 * a1_1))).bind fun bt256 => (some (bt256.1, bt256.2.1, bt256.2.2))) = some (r1, r2, r3) := h
 clear h
 replace H := Option.bind_eq_some_iff.mp H
 obtain ⟨⟨t256, t257, t258⟩, A30, H⟩ := H
 replace H : (some (t256, t257, t258)) = some (r1, r2, r3) := H
 have A3 := Aside0.mk A30
 clear A30
 simp only [Option.some.injEq, Prod.mk.injEq] at H
 obtain ⟨rfl, rfl, rfl⟩ := H
 go_enter Try.func81, Try.ntmps81
 go_wp2_with (first | ((with_reducible refine gate_dst (N := 2) rfl ?_); refine bx_ (N := 2) #[.int .i64 a0_0, .int .i64 a0_1] 36 ?_; intro gb253 hg w4 hbox hb; have BK253 := Aside0.mk (hbox); have GW253 := Aside0.mk ((g50_ : w.heap.size ≤ gb253)); have GE253 := Aside0.mk ((g50_ : w.heap.size ≤ gb253)); replace HB := Aside0.mk (below_step (impl_plus.calls_q0) hb); clear hb hbox hg) | ((with_reducible refine gate_dst (N := 3) rfl ?_); refine bx_ (N := 3) #[.int .i64 a1_0, .int .i64 a1_1] 36 ?_; intro gb254 hg w5 hbox hb; have BK254 := Aside0.mk (hbox); have GW254 := Aside0.mk ((g50_ : w.heap.size ≤ gb254)); have GE254 := Aside0.mk ((g50_ : w.heap.size ≤ gb254)); replace HB := Aside0.mk (below_step (impl_plus.calls_q0) hb); have NB253_254 := Aside0.mk ((by rw [hg]; exact Nat.ne_of_lt (blk_lt (g := gb253) (o := .cells #[.int .i64 a0_0, .int .i64 a0_1] 36 (0, 0)) (uf0_ BK253)) : gb253 ≠ gb254)); have NB254_253 := Aside0.mk ((by rw [hg]; exact Nat.ne_of_gt (blk_lt (g := gb253) (o := .cells #[.int .i64 a0_0, .int .i64 a0_1] 36 (0, 0)) (uf0_ BK253)) : gb254 ≠ gb253)); replace BK253 := Aside0.mk (blk_below (g := gb253) (o := .cells #[.int .i64 a0_0, .int .i64 a0_1] 36 (0, 0)) (uf0_ BK253) hb); clear hb hbox hg) | ((with_reducible refine gate_dst (N := 4) rfl ?_); refine bx_ (N := 4) #[.int .i64 0, .int .i64 0] 36 ?_; intro gb255 hg w6 hbox hb; have BK255 := Aside0.mk (hbox); have GW255 := Aside0.mk ((g50_ : w.heap.size ≤ gb255)); have GE255 := Aside0.mk ((g50_ : w.heap.size ≤ gb255)); replace HB := Aside0.mk (below_step (impl_plus.calls_q0) hb); have NB253_255 := Aside0.mk ((by rw [hg]; exact Nat.ne_of_lt (blk_lt (g := gb253) (o := .cells #[.int .i64 a0_0, .int .i64 a0_1] 36 (0, 0)) (uf0_ BK253)) : gb253 ≠ gb255)); have NB255_253 := Aside0.mk ((by rw [hg]; exact Nat.ne_of_gt (blk_lt (g := gb253) (o := .cells #[.int .i64 a0_0, .int .i64 a0_1] 36 (0, 0)) (uf0_ BK253)) : gb255 ≠ gb253)); replace BK253 := Aside0.mk (blk_below (g := gb253) (o := .cells #[.int .i64 a0_0, .int .i64 a0_1] 36 (0, 0)) (uf0_ BK253) hb); have NB254_255 := Aside0.mk ((by rw [hg]; exact Nat.ne_of_lt (blk_lt (g := gb254) (o := .cells #[.int .i64 a1_0, .int .i64 a1_1] 36 (0, 0)) (uf0_ BK254)) : gb254 ≠ gb255)); have NB255_254 := Aside0.mk ((by rw [hg]; exact Nat.ne_of_gt (blk_lt (g := gb254) (o := .cells #[.int .i64 a1_0, .int .i64 a1_1] 36 (0, 0)) (uf0_ BK254)) : gb255 ≠ gb254)); replace BK254 := Aside0.mk (blk_below (g := gb254) (o := .cells #[.int .i64 a1_0, .int .i64 a1_1] 36 (0, 0)) (uf0_ BK254) hb); clear hb hbox hg; have hnb7 := NB253_254.out; have hnc7 := NB254_253.out; have hnb8 := NB253_255.out; have hnc8 := NB255_253.out; obtain ⟨hcz9_0, hcz9_1, hfz9_0, hfz9_1⟩ := blk2_ BK253; have hnb10 := NB254_255.out; have hnc10 := NB255_254.out; obtain ⟨hcz11_0, hcz11_1, hfz11_0, hfz11_1⟩ := blk2_ BK254) | ((with_reducible refine gate_callee (f := 92) rfl ?_); refine goesL_ (some 22) rfl rfl Try.func92 k_ rfl #[.int .i64 (wrap64 ((wrap64 (a0_0 * a1_1)) + (wrap64 (a1_0 * a0_1)))), .int .i64 (wrap64 (a0_1 * a1_1))] rfl (g2_) ?_; (with_reducible refine (impl_lowest.calls k (wrap64 ((wrap64 (a0_0 * a1_1)) + (wrap64 (a1_0 * a0_1)))) (wrap64 (a0_1 * a1_1)) t256 t257 t258 _ A3.out).mono ?_); rintro e w12 ⟨rfl, hb⟩; refine ⟨_, rfl, ?_⟩; replace BK253 := Aside0.mk (blk_below (g := gb253) (o := .cells #[.int .i64 a0_0, .int .i64 a0_1] 36 (0, 0)) (uf0_ BK253) hb); replace BK254 := Aside0.mk (blk_below (g := gb254) (o := .cells #[.int .i64 a1_0, .int .i64 a1_1] 36 (0, 0)) (uf0_ BK254) hb); replace BK255 := Aside0.mk (blk_below (g := gb255) (o := .cells #[.int .i64 0, .int .i64 0] 36 (0, 0)) (uf0_ BK255) hb); replace HB := Aside0.mk (below_step (impl_plus.calls_q0) hb); (try clear hb); (try clear hk hi); obtain ⟨hcz13_0, hcz13_1, hfz13_0, hfz13_1⟩ := blk2_ BK255))
 refine bodyPost_ret (results_ct rfl _ _ gb255 36 #[.int .i64 t256, .int .i64 t257] (0, 0) _ rfl (by (with_reducible repeat (first | refine blk_drewN ?_ _ | refine blk_drew ?_ | refine blk_alloc ?_ _)); refine blk_put (cs := #[.int .i64 t256, .int .i64 0]) ?_ 1 _ rfl; (with_reducible repeat (first | refine blk_drewN ?_ _ | refine blk_drew ?_ | refine blk_alloc ?_ _)); refine blk_put (cs := #[.int .i64 0, .int .i64 0]) ?_ 0 _ rfl; (with_reducible repeat (first | refine blk_drewN ?_ _ | refine blk_drew ?_ | refine blk_alloc ?_ _)); exact BK255.out) Try.underlying36 rfl (g0_)) rfl ?_
 exact ⟨g4_, impl_plus.calls_q0⟩
end Go.Proofs.Ytigpmfoagkhaeaa.PU

namespace Go.Proofs.Ytigpmfoagkhaeaa.PU
open Go.RowKit Go.Proofs.YtigpmfoagkhaeaaW.PrintWords Go.Proofs.YtigpmfoagkhaeaaW.PrintLast Go.Proofs.YtigpmfoagkhaeaaW.PrintMore Go.Proofs.Ytigpmfoagkhaeaa.Qd
attribute [local go_sem] max2_int min2_int max_two min_two max_three min_three max_four min_four   -- for this text's walks alone
set_option linter.unusedVariables false
set_option linter.unusedSimpArgs false
def impl_times.f (k : Nat) (a0_0 : Int) (a0_1 : Int) (a1_0 : Int) (a1_1 : Int) : Option (Int × Int × Bool) := (impl_lowest.f k (wrap64 (a0_0 * a1_0)) (wrap64 (a0_1 * a1_1))).bind fun bt262 => (some (bt262.1, bt262.2.1, bt262.2.2))
theorem impl_times.mono : ∀ a0 a1 a2 a3 k, LeO (impl_times.f k a0 a1 a2 a3) (impl_times.f (k + 1) a0 a1 a2 a3) := by
 intro a0 a1 a2 a3 k
 unfold impl_times.f
 repeat' first
   | (with_reducible exact impl_lowest.mono _ _ _)
   | (with_reducible exact LeO.refl _)
   | (with_reducible exact LeO.none _)
   | (with_reducible refine LeO.ite ?_ ?_)
   | (with_reducible refine LeO.bind ?_ (fun _ => ?_))
   | exact impl_lowest.mono _ _ _
   | exact LeO.none _
   | refine LeO.ite ?_ ?_
   | refine LeO.bind ?_ (fun _ => ?_)
theorem impl_times.calls_q0 {p : Prop} (h : p := by repeat (first | (with_reducible first | exact HB.out | apply below_alloc | apply pw_below_drewN | apply below_drew1 | refine below_set ?_ GE259.out | refine below_set ?_ GE260.out | refine below_set ?_ GE261.out) | exact HB.out)) : p := h
set_option maxHeartbeats 8000000 in
set_option maxRecDepth 100000 in
theorem impl_times.calls (k : Nat) (a0_0 : Int) (a0_1 : Int) (a1_0 : Int) (a1_1 : Int) (r1 : Int) (r2 : Int) (r3 : Bool) (w : World) (h : impl_times.f k a0_0 a0_1 a1_0 a1_1 = some (r1, r2, r3)) :
  Calls Try.prog 93 #[.agg #[.int .i64 a0_0, .int .i64 a0_1], .agg #[.int .i64 a1_0, .int .i64 a1_1]] w fun e w' => e = .returned (.tuple #[.agg #[.int .i64 r1, .int .i64 r2], .bool r3]) ∧ Below w.heap.size w w' := by
 have hu36 := Try.underlying36
 have HB := Aside0.mk (Below.refl w.heap.size w)
 have H : ((impl_lowest.f k (wrap64 (a0_0 * a1_0)) (wrap64 (a0_1 * a1_1))).bind fun bt262 => (some (bt262.1, bt262.2.1, bt262.2.2))) = some (r1, r2, r3) := h
 clear h
 replace H := Option.bind_eq_some_iff.mp H
 obtain ⟨⟨t262, t263, t264⟩, A30, H⟩ := H
 replace H : (some (t262, t263, t264)) = some (r1, r2, r3) := H
 have A3 := Aside0.mk A30
 clear A30
 simp only [Option.some.injEq, Prod.mk.injEq] at H
 obtain ⟨rfl, rfl, rfl⟩ := H
 go_enter Try.func93, Try.ntmps93
 go_wp2_with (first | ((with_reducible refine gate_dst (N := 2) rfl ?_); refine bx_ (N := 2) #[.int .i64 a0_0, .int .i64 a0_1] 36 ?_; intro gb259 hg w4 hbox hb; have BK259 := Aside0.mk (hbox); have GW259 := Aside0.mk ((g51_ : w.heap.size ≤ gb259)); have GE259 := Aside0.mk ((g51_ : w.heap.size ≤ gb259)); replace HB := Aside0.mk (below_step (impl_times.calls_q0) hb); clear hb hbox hg) | ((with_reducible refine gate_dst (N := 3) rfl ?_); refine bx_ (N := 3) #[.int .i64 a1_0, .int .i64 a1_1] 36 ?_; intro gb260 hg w5 hbox hb; have BK260 := Aside0.mk (hbox); have GW260 := Aside0.mk ((g51_ : w.heap.size ≤ gb260)); have GE260 := Aside0.mk ((g51_ : w.heap.size ≤ gb260)); replace HB := Aside0.mk (below_step (impl_times.calls_q0) hb); have NB259_260 := Aside0.mk ((by rw [hg]; exact Nat.ne_of_lt (blk_lt (g := gb259) (o := .cells #[.int .i64 a0_0, .int .i64 a0_1] 36 (0, 0)) (uf0_ BK259)) : gb259 ≠ gb260)); have NB260_259 := Aside0.mk ((by rw [hg]; exact Nat.ne_of_gt (blk_lt (g := gb259) (o := .cells #[.int .i64 a0_0, .int .i64 a0_1] 36 (0, 0)) (uf0_ BK259)) : gb260 ≠ gb259)); replace BK259 := Aside0.mk (blk_below (g := gb259) (o := .cells #[.int .i64 a0_0, .int .i64 a0_1] 36 (0, 0)) (uf0_ BK259) hb); clear hb hbox hg) | ((with_reducible refine gate_dst (N := 4) rfl ?_); refine bx_ (N := 4) #[.int .i64 0, .int .i64 0] 36 ?_; intro gb261 hg w6 hbox hb; have BK261 := Aside0.mk (hbox); have GW261 := Aside0.mk ((g51_ : w.heap.size ≤ gb261)); have GE261 := Aside0.mk ((g51_ : w.heap.size ≤ gb261)); replace HB := Aside0.mk (below_step (impl_times.calls_q0) hb); have NB259_261 := Aside0.mk ((by rw [hg]; exact Nat.ne_of_lt (blk_lt (g := gb259) (o := .cells #[.int .i64 a0_0, .int .i64 a0_1] 36 (0, 0)) (uf0_ BK259)) : gb259 ≠ gb261)); have NB261_259 := Aside0.mk ((by rw [hg]; exact Nat.ne_of_gt (blk_lt (g := gb259) (o := .cells #[.int .i64 a0_0, .int .i64 a0_1] 36 (0, 0)) (uf0_ BK259)) : gb261 ≠ gb259)); replace BK259 := Aside0.mk (blk_below (g := gb259) (o := .cells #[.int .i64 a0_0, .int .i64 a0_1] 36 (0, 0)) (uf0_ BK259) hb); have NB260_261 := Aside0.mk ((by rw [hg]; exact Nat.ne_of_lt (blk_lt (g := gb260) (o := .cells #[.int .i64 a1_0, .int .i64 a1_1] 36 (0, 0)) (uf0_ BK260)) : gb260 ≠ gb261)); have NB261_260 := Aside0.mk ((by rw [hg]; exact Nat.ne_of_gt (blk_lt (g := gb260) (o := .cells #[.int .i64 a1_0, .int .i64 a1_1] 36 (0, 0)) (uf0_ BK260)) : gb261 ≠ gb260)); replace BK260 := Aside0.mk (blk_below (g := gb260) (o := .cells #[.int .i64 a1_0, .int .i64 a1_1] 36 (0, 0)) (uf0_ BK260) hb); clear hb hbox hg; have hnb7 := NB259_260.out; have hnc7 := NB260_259.out; have hnb8 := NB259_261.out; have hnc8 := NB261_259.out; obtain ⟨hcz9_0, hcz9_1, hfz9_0, hfz9_1⟩ := blk2_ BK259; have hnb10 := NB260_261.out; have hnc10 := NB261_260.out; obtain ⟨hcz11_0, hcz11_1, hfz11_0, hfz11_1⟩ := blk2_ BK260) | ((with_reducible refine gate_callee (f := 92) rfl ?_); refine goesL_ (some 16) rfl rfl Try.func92 k_ rfl #[.int .i64 (wrap64 (a0_0 * a1_0)), .int .i64 (wrap64 (a0_1 * a1_1))] rfl (g2_) ?_; (with_reducible refine (impl_lowest.calls k (wrap64 (a0_0 * a1_0)) (wrap64 (a0_1 * a1_1)) t262 t263 t264 _ A3.out).mono ?_); rintro e w12 ⟨rfl, hb⟩; refine ⟨_, rfl, ?_⟩; replace BK259 := Aside0.mk (blk_below (g := gb259) (o := .cells #[.int .i64 a0_0, .int .i64 a0_1] 36 (0, 0)) (uf0_ BK259) hb); replace BK260 := Aside0.mk (blk_below (g := gb260) (o := .cells #[.int .i64 a1_0, .int .i64 a1_1] 36 (0, 0)) (uf0_ BK260) hb); replace BK261 := Aside0.mk (blk_below (g := gb261) (o := .cells #[.int .i64 0, .int .i64 0] 36 (0, 0)) (uf0_ BK261) hb); replace HB := Aside0.mk (below_step (impl_times.calls_q0) hb); (try clear hb); (try clear hk hi); obtain ⟨hcz13_0, hcz13_1, hfz13_0, hfz13_1⟩ := blk2_ BK261))
 refine bodyPost_ret (results_ct rfl _ _ gb261 36 #[.int .i64 t262, .int .i64 t263] (0, 0) _ rfl (by (with_reducible repeat (first | refine blk_drewN ?_ _ | refine blk_drew ?_ | refine blk_alloc ?_ _)); refine blk_put (cs := #[.int .i64 t262, .int .i64 0]) ?_ 1 _ rfl; (with_reducible repeat (first | refine blk_drewN ?_ _ | refine blk_drew ?_ | refine blk_alloc ?_ _)); refine blk_put (cs := #[.int .i64 0, .int .i64 0]) ?_ 0 _ rfl; (with_reducible repeat (first | refine blk_drewN ?_ _ | refine blk_drew ?_ | refine blk_alloc ?_ _)); exact BK261.out) Try.underlying36 rfl (g0_)) rfl ?_
 exact ⟨g4_, impl_times.calls_q0⟩
end Go.Proofs.Ytigpmfoagkhaeaa.PU
