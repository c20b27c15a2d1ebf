/- FnDeskNew: for every input the law holds. No condition. -/
import Derived.Test.YtfooakkhkehpiaaZFnDeskNew1
import Derived.Below
import Derived.Deep.Draws
import Derived.Deep.AppendLies
import Derived.Maps.AppendAt
import Derived.OwnWalk
import Derived.Laws.BytesArg
import Derived.Laws.MakeOwn
import Derived.Laws.OwnMore
import Derived.Deep.OwnRows
import Derived.Tactics
import Derived.Lib.ConvBytes
import Derived.Laws.Slices
import Derived.WalkKit
import Derived.KernelRfl
import Derived.RowKit3
import Derived.Deep.LoopGhost
import Derived.Deep.QuietTactic
import Derived.BigQuiet
import Derived.WideLaws
import Derived.Deep.DeepCutAuto
import Derived.Deep.CutBlock
import Derived.Deep.RegionHeld3
import Derived.Laws.Rows
import Derived.Lib.AppendStr
import Derived.ArgAppend
import Derived.Laws.IdiomCopy
import Derived.RowKit
import Derived.OrdersHeld
import Derived.Laws.BitsLemmas
import Derived.Laws.StructEq
import Derived.Test.YtfooakkhkehpiaaProg
import Derived.SizedLaws
import Derived.ChangeSlices
import Derived.Test.YtfooakkhkehpiaaRows
import Derived.ProofKit
import Derived.OpenShut
import Derived.ShutString
import Derived.ChangeOld
namespace Go.Proofs.Ytfooakkhkehpiaa.PU
open Go.RowKit Go.Proofs.YtfooakkhkehpiaaW.PrintWords Go.Proofs.YtfooakkhkehpiaaW.PrintLast Go.Proofs.YtfooakkhkehpiaaW.PrintMore Go.Proofs.Ytfooakkhkehpiaa.Qd
attribute [local go_sem] max2_int min2_int max_two min_two max_three min_three max_four min_four
set_option linter.unusedVariables false
set_option linter.unusedSimpArgs false
def laws_noDesk.f (k : Nat) (l0_0 : List Int) (l0_1 : List (List Int)) (l0_2 : List (S25)) : Option (Bool) := (laws_sameDesk.f k l0_0 l0_1 l0_2 ([] : List Int) ([] : List (List Int)) ([] : List (S25))).bind fun t151 => (some t151)
theorem laws_noDesk.mq {p : Prop} (h : p := by
 repeat' first
 | (with_reducible exact laws_sameDesk.mono _ _ _ _ _ _ _)
 | (with_reducible exact LeO.refl _)
 | (with_reducible exact LeO.none _)
 | (with_reducible refine LeO.ite ?_ ?_)
 | (with_reducible refine LeO.bind ?_ (fun _ => ?_))
 | exact laws_sameDesk.mono _ _ _ _ _ _ _
 | exact LeO.none _
 | refine LeO.ite ?_ ?_
 | refine LeO.bind ?_ (fun _ => ?_)) : p := h
theorem laws_noDesk.mono : ∀ a0 a1 a2 k, LeO (laws_noDesk.f k a0 a1 a2) (laws_noDesk.f (k + 1) a0 a1 a2) := by
 intro a0 a1 a2 k
 unfold laws_noDesk.f
 exact laws_noDesk.mq
theorem laws_noDesk.calls_q0 {p : Prop} (h : p := by repeat (first | (with_reducible first | exact HB.out | apply below_alloc | apply pw_below_drewN | apply below_drew1 | refine below_set ?_ GE150.out) | exact HB.out)) : p := h
set_option maxHeartbeats 8000000 in
set_option maxRecDepth 100000 in
theorem laws_noDesk.calls (k : Nat) (A0_0 : Option Addr) (c0_0 : Nat) (l0_0 : List Int) (A0_1 : Option Addr) (c0_1 : Nat) (l0_1 : List (List Int)) (A0_2 : Option Addr) (c0_2 : Nat) (l0_2 : List (S25)) (r : Bool) (w : World) (hr0_0 : Kd.C (Kd.int .i64) w A0_0 l0_0.length l0_0) (hc0_0 : l0_0.length ≤ c0_0) (hr0_1 : Kd.C (Kd.slice 3 (Kd.int .i64)) w A0_1 l0_1.length l0_1) (hc0_1 : l0_1.length ≤ c0_1) (hr0_2 : Kd.C k25 w A0_2 l0_2.length l0_2) (hc0_2 : l0_2.length ≤ c0_2) (h : laws_noDesk.f k l0_0 l0_1 l0_2 = some r) :
  Calls Try.prog 22 #[.agg #[.slice A0_0 l0_0.length c0_0, .slice A0_1 l0_1.length c0_1, .slice A0_2 l0_2.length c0_2]] w fun e w' => e = .returned (.bool r) ∧ Below w.heap.size w w' := by
 have hu28 := Try.underlying28
 have HR0_0 := Aside0.mk hr0_0
 have HC0_0 := Aside0.mk hc0_0
 clear hr0_0 hc0_0
 have HR0_1 := Aside0.mk hr0_1
 have HC0_1 := Aside0.mk hc0_1
 clear hr0_1 hc0_1
 have HR0_2 := Aside0.mk hr0_2
 have HC0_2 := Aside0.mk hc0_2
 clear hr0_2 hc0_2
 have HB := Aside0.mk (Below.refl w.heap.size w)
 have H : ((laws_sameDesk.f k l0_0 l0_1 l0_2 ([] : List Int) ([] : List (List Int)) ([] : List (S25))).bind fun t151 => (some t151)) = some r := h
 clear h
 obtain ⟨t151, A2, H⟩ := bind_ H
 obtain rfl := Option.some.inj H
 go_enter Try.func22, Try.ntmps22
 go_wp2_with (first | ((with_reducible refine gate_dst (N := 1) rfl ?_); refine bx_ (N := 1) #[.slice A0_0 l0_0.length c0_0, .slice A0_1 l0_1.length c0_1, .slice A0_2 l0_2.length c0_2] 28 ?_; intro gb150 hg w3 hbox hb; have BK150 := Aside0.mk (hbox); have GW150 := Aside0.mk ((by rw [hg]; exact (below_size (laws_noDesk.calls_q0)) : w.heap.size ≤ gb150)); have GE150 := Aside0.mk ((by rw [hg]; exact (below_size (laws_noDesk.calls_q0)) : w.heap.size ≤ gb150)); replace HB := Aside0.mk (below_step (laws_noDesk.calls_q0) hb); clear hb hbox hg; obtain ⟨hcz4_0, hcz4_1, hcz4_2, hfz4_0, hfz4_1, hfz4_2⟩ := blk3_ BK150) | ((with_reducible refine gate_callee (f := 21) rfl ?_); refine goesL_ (some 5) rfl rfl Try.func21 k_ rfl #[.agg #[.slice A0_0 l0_0.length c0_0, .slice A0_1 l0_1.length c0_1, .slice A0_2 l0_2.length c0_2], .agg #[.slice none 0 0, .slice none 0 0, .slice none 0 0]] rfl (g4_) ?_; (refine (laws_sameDesk.calls k _ _ l0_0 _ _ l0_1 _ _ l0_2 _ _ ([] : List Int) _ _ ([] : List (List Int)) _ _ ([] : List (S25)) t151 _ ?side1 ?side2 ?side3 ?side4 ?side5 ?side6 ?side7 ?side8 ?side9 ?side10 ?side11 ?side12 A2.out).mono ?_); (case side1 => exact uf3_ HR0_0); (case side2 => exact HC0_0.out); (case side3 => exact uf3_ HR0_1); (case side4 => exact HC0_1.out); (case side5 => exact uf3_ HR0_2); (case side6 => exact HC0_2.out); (case side7 => exact Kd.C_nil _ _); (case side8 => exact Nat.le_refl _); (case side9 => exact Kd.C_nil _ _); (case side10 => exact Nat.le_refl _); (case side11 => exact Kd.C_nil _ _); (case side12 => exact Nat.le_refl _); rintro e w5 ⟨rfl, hb⟩; refine ⟨_, rfl, ?_⟩; replace BK150 := bb_ BK150 hb; replace HB := Aside0.mk (below_step (laws_noDesk.calls_q0) hb); (try clear hb); (try clear hk hi)))
 go_ret
 exact ⟨g3_, laws_noDesk.calls_q0⟩
def impl_isNumber.f (a0 : Int) : Option (Bool) := if a0 ≥ (-1000000000) then (some (decide (a0 ≤ 1000000000))) else (some false)
set_option maxHeartbeats 8000000 in
set_option maxRecDepth 100000 in
theorem impl_isNumber.calls (a0 : Int) (r : Bool) (w : World) (h : impl_isNumber.f a0 = some r) :
  Calls Try.prog 125 #[.int .i64 a0] w fun e w' => e = .returned (.bool r) ∧ Drawn0 w w' := by
 have H : (if a0 ≥ (-1000000000) then (some (decide (a0 ≤ 1000000000))) else (some false)) = some r := h
 clear h
 by_cases c2 : a0 ≥ (-1000000000)
 ·rw [if_pos c2] at H
  have c2b0 := decide_eq_true c2
  clear c2
  obtain rfl := Option.some.inj H
  go_enter Try.func125, Try.ntmps125
  go_wp2
  go_ret
  exact ⟨g1_, g6_⟩
 ·rw [if_neg c2] at H
  have c2b0 := decide_eq_false c2
  clear c2
  obtain rfl := Option.some.inj H
  go_enter Try.func125, Try.ntmps125
  go_wp2
  go_ret
  exact ⟨g1_, g6_⟩
def impl_gcd.l0 : Nat → Int → Int → Option (Int)
 | 0, _, _ => none
 | k + 1, x0, x1 => if x1 = 0 then (some (mx x0 (wrap64 (-x0)))) else (impl_gcd.l0 k x1 (Int.tmod x0 x1))
def impl_gcd.f (k : Nat) (a0 : Int) (a1 : Int) : Option (Int) := impl_gcd.l0 k a0 a1
theorem impl_gcd.mq {p : Prop} (h : p := by
 repeat' first
 | (with_reducible exact ih0 _ _)
 | (with_reducible exact LeO.refl _)
 | (with_reducible exact LeO.none _)
 | (with_reducible refine LeO.ite ?_ ?_)
 | (with_reducible refine LeO.bind ?_ (fun _ => ?_))
 | exact ih0 _ _
 | exact LeO.none _
 | refine LeO.ite ?_ ?_
 | refine LeO.bind ?_ (fun _ => ?_)) : p := h
theorem impl_gcd.mono_l : ∀ k, (∀ y0 y1, LeO (impl_gcd.l0 k y0 y1) (impl_gcd.l0 (k + 1) y0 y1))
 | 0 => fun _ _ r h => by simp [impl_gcd.l0] at h
 | k + 1 => by
  have ih0 := impl_gcd.mono_l k
  ·intro y0 y1
   unfold impl_gcd.l0
   exact impl_gcd.mq
theorem impl_gcd.mono : ∀ a0 a1 k, LeO (impl_gcd.f k a0 a1) (impl_gcd.f (k + 1) a0 a1) := by
 intro a0 a1 k
 have ih0 := impl_gcd.mono_l k
 unfold impl_gcd.f
 exact impl_gcd.mq
theorem impl_gcd.calls_q0 {p : Prop} (h : p := by repeat (first | (with_reducible first | exact HB.out | apply below_alloc | apply pw_below_drewN | apply below_drew1) | exact HB.out)) : p := h
set_option maxHeartbeats 8000000 in
set_option maxRecDepth 100000 in
theorem impl_gcd.calls (k : Nat) (a0 : Int) (a1 : Int) (r : Int) (w : World) (h : impl_gcd.f k a0 a1 = some r) :
  Calls Try.prog 126 #[.int .i64 a0, .int .i64 a1] w fun e w' => e = .returned (.int .i64 r) ∧ Below w.heap.size w w' := by
 have HB := Aside0.mk (Below.refl w.heap.size w)
 have H : (impl_gcd.l0 k a0 a1) = some r := h
 clear h
 have H' := Aside0.mk H
 clear H
 go_enter Try.func126, Try.ntmps126
 go_wp2
 repeat (go_quiet (fail); try go_wp2)
 go_loopg [0, 1] k (fun kq v0 v1 w' => ∃ (x0_1 : Int) (x1_1 : Int), v0 = .int .i64 x0_1 ∧ v1 = .int .i64 x1_1 ∧ Aside0 (impl_gcd.l0 kq x0_1 x1_1 = some r) ∧ Aside0 (kq ≤ k) ∧ Aside0 (Below w.heap.size w w'))
 case atStart => exact ⟨(a0), (a1), (g1_), (g1_), H', ⟨Nat.le_refl _⟩, ⟨impl_gcd.calls_q0⟩⟩
 case round =>
  clear H'
  try clear c1
  try clear p2
  obtain ⟨x0_1, x1_1, rfl, rfl, HA, HK1, HB⟩ := hrel
  cases gk with
  | zero => exact absurd HA.out (by simp [impl_gcd.l0])
  | succ k1 =>
   have H := HA.out
   clear HA
   simp only [impl_gcd.l0] at H
   by_cases c3 : x1_1 = 0
   ·rw [if_pos c3] at H
    have c3b0 : (x1_1 == 0) = true := beq_iff_eq.mpr c3
    have c3b1 : (x1_1 != 0) = false := bne_eq_false_iff_eq.mpr c3
    clear c3
    obtain ⟨ji4, hji4⟩ : ∃ j_ : Int, (mx x0_1 (wrap64 (-x0_1))) = j_ := ⟨_, rfl⟩
    replace H : (some ji4) = some r := by first | (rw [hji4] at H; exact H) | (simp only [hji4] at H ⊢; exact H)
    have hji4_ : (if x0_1 < (wrap64 (-x0_1)) then (wrap64 (-x0_1)) else x0_1) = ji4 := hji4
    obtain rfl := Option.some.inj H
    go_wp2
    repeat (go_quiet (fail); try go_wp2)
    go_ret
    exact ⟨by first | rfl | (simp [errW_none, errW_some] <;> rfl) | (simp only [← hji4]; first | rfl | (simp [errW_none, errW_some] <;> rfl)) | (simp [*, errW_none, errW_some] <;> rfl), impl_gcd.calls_q0⟩
   ·rw [if_neg c3] at H
    have c3b0 : (x1_1 == 0) = false := beq_eq_false_iff_ne.mpr c3
    have c3b1 : (x1_1 != 0) = true := bne_iff_ne.mpr c3
    have H' := Aside0.mk H
    clear H
    go_wp2
    repeat (go_quiet (fail); try go_wp2)
    go_roundg k1
    case measure => have := HK1.out; omega
    case rel => exact ⟨(x1_1), (Int.tmod x0_1 x1_1), (g1_), (g1_), H', ⟨g11_⟩, ⟨impl_gcd.calls_q0⟩⟩
def impl_isFrac.f (k : Nat) (a0_0 : Int) (a0_1 : Int) : Option (Bool) := (impl_isNumber.f a0_0).bind fun t153 => (if t153 = true then (if a0_1 ≥ 1 then (if a0_1 ≤ 1000000000 then ((impl_gcd.f k a0_0 a0_1).bind fun t154 => (some (t154 == 1))) else (some false)) else (some false)) else (some false))
theorem impl_isFrac.mq {p : Prop} (h : p := by
 repeat' first
 | (with_reducible exact impl_gcd.mono _ _ _)
 | (with_reducible exact LeO.refl _)
 | (with_reducible exact LeO.none _)
 | (with_reducible refine LeO.ite ?_ ?_)
 | (with_reducible refine LeO.bind ?_ (fun _ => ?_))
 | exact impl_gcd.mono _ _ _
 | exact LeO.none _
 | refine LeO.ite ?_ ?_
 | refine LeO.bind ?_ (fun _ => ?_)) : p := h
theorem impl_isFrac.mono : ∀ a0 a1 k, LeO (impl_isFrac.f k a0 a1) (impl_isFrac.f (k + 1) a0 a1) := by
 intro a0 a1 k
 unfold impl_isFrac.f
 exact impl_isFrac.mq
theorem impl_isFrac.calls_q0 {p : Prop} (h : p := by repeat (first | (with_reducible first | exact HB.out | apply below_alloc | apply pw_below_drewN | apply below_drew1 | refine below_set ?_ GE152.out) | exact HB.out)) : p := h
set_option maxHeartbeats 8000000 in
set_option maxRecDepth 100000 in
theorem impl_isFrac.calls (k : Nat) (a0_0 : Int) (a0_1 : Int) (r : Bool) (w : World) (h : impl_isFrac.f k a0_0 a0_1 = some r) :
  Calls Try.prog 108 #[.agg #[.int .i64 a0_0, .int .i64 a0_1]] w fun e w' => e = .returned (.bool r) ∧ Below w.heap.size w w' := by
 have hu93 := Try.underlying93
 have HB := Aside0.mk (Below.refl w.heap.size w)
 have H : ((impl_isNumber.f a0_0).bind fun t153 => (if t153 = true then (if a0_1 ≥ 1 then (if a0_1 ≤ 1000000000 then ((impl_gcd.f k a0_0 a0_1).bind fun t154 => (some (t154 == 1))) else (some false)) else (some false)) else (some false))) = some r := h
 clear h
 obtain ⟨t153, A2, H⟩ := bind_ H
 by_cases c3 : t153 = true
 ·subst c3
  replace H := ifp_ H
  by_cases c4 : a0_1 ≥ 1
  ·rw [if_pos c4] at H
   have c4b0 := decide_eq_true c4
   clear c4
   by_cases c5 : a0_1 ≤ 1000000000
   ·rw [if_pos c5] at H
    have c5b0 := decide_eq_true c5
    clear c5
    obtain ⟨t154, A6, H⟩ := bind_ H
    obtain rfl := Option.some.inj H
    go_enter Try.func108, Try.ntmps108
    go_wp2_with (first | ((with_reducible refine gate_dst (N := 1) rfl ?_); refine bx_ (N := 1) #[.int .i64 a0_0, .int .i64 a0_1] 93 ?_; intro gb152 hg w7 hbox hb; have BK152 := Aside0.mk (hbox); have GW152 := Aside0.mk ((g10_ : w.heap.size ≤ gb152)); have GE152 := Aside0.mk ((g10_ : w.heap.size ≤ gb152)); replace HB := Aside0.mk (below_step (impl_isFrac.calls_q0) hb); clear hb hbox hg; obtain ⟨hcz8_0, hcz8_1, hfz8_0, hfz8_1⟩ := blk2_ BK152) | ((with_reducible refine gate_callee (f := 125) rfl ?_); refine goesL_ (some 5) rfl rfl Try.func125 k_ rfl #[.int .i64 a0_0] rfl (g4_) ?_; (with_reducible refine (impl_isNumber.calls a0_0 true _ A2.out).mono ?_); rintro e w' ⟨rfl, ⟨nd, rfl⟩⟩; refine ⟨_, rfl, ?_⟩) | (go_at_call 126; (with_reducible refine (impl_gcd.calls k a0_0 a0_1 t154 _ A6.out).mono ?_); rintro e w9 ⟨rfl, hb⟩; replace BK152 := bb_ BK152 hb; replace HB := Aside0.mk (below_step (impl_isFrac.calls_q0) hb); (try clear hb); (try clear hk hi)))
    go_ret
    exact ⟨g3_, impl_isFrac.calls_q0⟩
   ·rw [if_neg c5] at H
    have c5b0 := decide_eq_false c5
    clear c5
    obtain rfl := Option.some.inj H
    go_enter Try.func108, Try.ntmps108
    go_wp2_with (first | ((with_reducible refine gate_dst (N := 1) rfl ?_); refine bx_ (N := 1) #[.int .i64 a0_0, .int .i64 a0_1] 93 ?_; intro gb152 hg w10 hbox hb; have BK152 := Aside0.mk (hbox); have GW152 := Aside0.mk ((g10_ : w.heap.size ≤ gb152)); have GE152 := Aside0.mk ((g10_ : w.heap.size ≤ gb152)); replace HB := Aside0.mk (below_step (impl_isFrac.calls_q0) hb); clear hb hbox hg; obtain ⟨hcz11_0, hcz11_1, hfz11_0, hfz11_1⟩ := blk2_ BK152) | ((with_reducible refine gate_callee (f := 125) rfl ?_); refine goesL_ (some 5) rfl rfl Try.func125 k_ rfl #[.int .i64 a0_0] rfl (g4_) ?_; (with_reducible refine (impl_isNumber.calls a0_0 true _ A2.out).mono ?_); rintro e w' ⟨rfl, ⟨nd, rfl⟩⟩; refine ⟨_, rfl, ?_⟩))
    go_ret
    exact ⟨g3_, impl_isFrac.calls_q0⟩
  ·rw [if_neg c4] at H
   have c4b0 := decide_eq_false c4
   clear c4
   obtain rfl := Option.some.inj H
   go_enter Try.func108, Try.ntmps108
   go_wp2_with (first | ((with_reducible refine gate_dst (N := 1) rfl ?_); refine bx_ (N := 1) #[.int .i64 a0_0, .int .i64 a0_1] 93 ?_; intro gb152 hg w12 hbox hb; have BK152 := Aside0.mk (hbox); have GW152 := Aside0.mk ((g10_ : w.heap.size ≤ gb152)); have GE152 := Aside0.mk ((g10_ : w.heap.size ≤ gb152)); replace HB := Aside0.mk (below_step (impl_isFrac.calls_q0) hb); clear hb hbox hg; obtain ⟨hcz13_0, hcz13_1, hfz13_0, hfz13_1⟩ := blk2_ BK152) | ((with_reducible refine gate_callee (f := 125) rfl ?_); refine goesL_ (some 5) rfl rfl Try.func125 k_ rfl #[.int .i64 a0_0] rfl (g4_) ?_; (with_reducible refine (impl_isNumber.calls a0_0 true _ A2.out).mono ?_); rintro e w' ⟨rfl, ⟨nd, rfl⟩⟩; refine ⟨_, rfl, ?_⟩))
   go_ret
   exact ⟨g3_, impl_isFrac.calls_q0⟩
 ·replace c3 := Bool.eq_false_iff.mpr c3
  subst c3
  replace H := ifn_ H
  obtain rfl := Option.some.inj H
  go_enter Try.func108, Try.ntmps108
  go_wp2_with (first | ((with_reducible refine gate_dst (N := 1) rfl ?_); refine bx_ (N := 1) #[.int .i64 a0_0, .int .i64 a0_1] 93 ?_; intro gb152 hg w14 hbox hb; have BK152 := Aside0.mk (hbox); have GW152 := Aside0.mk ((g10_ : w.heap.size ≤ gb152)); have GE152 := Aside0.mk ((g10_ : w.heap.size ≤ gb152)); replace HB := Aside0.mk (below_step (impl_isFrac.calls_q0) hb); clear hb hbox hg; obtain ⟨hcz15_0, hcz15_1, hfz15_0, hfz15_1⟩ := blk2_ BK152) | ((with_reducible refine gate_callee (f := 125) rfl ?_); refine goesL_ (some 5) rfl rfl Try.func125 k_ rfl #[.int .i64 a0_0] rfl (g4_) ?_; (with_reducible refine (impl_isNumber.calls a0_0 false _ A2.out).mono ?_); rintro e w' ⟨rfl, ⟨nd, rfl⟩⟩; refine ⟨_, rfl, ?_⟩))
  go_ret
  exact ⟨g3_, impl_isFrac.calls_q0⟩
def impl_FracOk.f (k : Nat) (a0_0 : Int) (a0_1 : Int) : Option (Bool) := (impl_isFrac.f k a0_0 a0_1).bind fun t156 => (some t156)
theorem impl_FracOk.mq {p : Prop} (h : p := by
 repeat' first
 | (with_reducible exact impl_isFrac.mono _ _ _)
 | (with_reducible exact LeO.refl _)
 | (with_reducible exact LeO.none _)
 | (with_reducible refine LeO.ite ?_ ?_)
 | (with_reducible refine LeO.bind ?_ (fun _ => ?_))
 | exact impl_isFrac.mono _ _ _
 | exact LeO.none _
 | refine LeO.ite ?_ ?_
 | refine LeO.bind ?_ (fun _ => ?_)) : p := h
theorem impl_FracOk.mono : ∀ a0 a1 k, LeO (impl_FracOk.f k a0 a1) (impl_FracOk.f (k + 1) a0 a1) := by
 intro a0 a1 k
 unfold impl_FracOk.f
 exact impl_FracOk.mq
theorem impl_FracOk.calls_q0 {p : Prop} (h : p := by repeat (first | (with_reducible first | exact HB.out | apply below_alloc | apply pw_below_drewN | apply below_drew1 | refine below_set ?_ GE155.out) | exact HB.out)) : p := h
set_option maxHeartbeats 8000000 in
set_option maxRecDepth 100000 in
theorem impl_FracOk.calls (k : Nat) (a0_0 : Int) (a0_1 : Int) (r : Bool) (w : World) (h : impl_FracOk.f k a0_0 a0_1 = some r) :
  Calls Try.prog 71 #[.agg #[.int .i64 a0_0, .int .i64 a0_1]] w fun e w' => e = .returned (.bool r) ∧ Below w.heap.size w w' := by
 have hu93 := Try.underlying93
 have HB := Aside0.mk (Below.refl w.heap.size w)
 have H : ((impl_isFrac.f k a0_0 a0_1).bind fun t156 => (some t156)) = some r := h
 clear h
 obtain ⟨t156, A2, H⟩ := bind_ H
 obtain rfl := Option.some.inj H
 go_enter Try.func71, Try.ntmps71
 go_wp2_with (first | ((with_reducible refine gate_dst (N := 1) rfl ?_); refine bx_ (N := 1) #[.int .i64 a0_0, .int .i64 a0_1] 93 ?_; intro gb155 hg w3 hbox hb; have BK155 := Aside0.mk (hbox); have GW155 := Aside0.mk ((by rw [hg]; exact (below_size (impl_FracOk.calls_q0)) : w.heap.size ≤ gb155)); have GE155 := Aside0.mk ((by rw [hg]; exact (below_size (impl_FracOk.calls_q0)) : w.heap.size ≤ gb155)); replace HB := Aside0.mk (below_step (impl_FracOk.calls_q0) hb); clear hb hbox hg; obtain ⟨hcz4_0, hcz4_1, hfz4_0, hfz4_1⟩ := blk2_ BK155) | ((with_reducible refine gate_callee (f := 108) rfl ?_); refine goesL_ (some 4) rfl rfl Try.func108 k_ rfl #[.agg #[.int .i64 a0_0, .int .i64 a0_1]] rfl (g4_) ?_; (with_reducible refine (impl_isFrac.calls k a0_0 a0_1 t156 _ A2.out).mono ?_); rintro e w5 ⟨rfl, hb⟩; refine ⟨_, rfl, ?_⟩; replace BK155 := bb_ BK155 hb; replace HB := Aside0.mk (below_step (impl_FracOk.calls_q0) hb); (try clear hb); (try clear hk hi)))
 go_ret
 exact ⟨g3_, impl_FracOk.calls_q0⟩
def laws_alive.f (k : Nat)  : Option (Bool) := (impl_FracOk.f k 1 2).bind fun t157 => (if t157 = true then ((impl_FracOk.f k 2 4).bind fun t158 => (some (!t158))) else (some false))
theorem laws_alive.mq {p : Prop} (h : p := by
 repeat' first
 | (with_reducible exact impl_FracOk.mono _ _ _)
 | (with_reducible exact LeO.refl _)
 | (with_reducible exact LeO.none _)
 | (with_reducible refine LeO.ite ?_ ?_)
 | (with_reducible refine LeO.bind ?_ (fun _ => ?_))
 | exact impl_FracOk.mono _ _ _
 | exact LeO.none _
 | refine LeO.ite ?_ ?_
 | refine LeO.bind ?_ (fun _ => ?_)) : p := h
theorem laws_alive.mono : ∀ k, LeO (laws_alive.f k ) (laws_alive.f (k + 1) ) := by
 intro  k
 unfold laws_alive.f
 exact laws_alive.mq
theorem laws_alive.calls_q0 {p : Prop} (h : p := by repeat (first | (with_reducible first | exact HB.out | apply below_alloc | apply pw_below_drewN | apply below_drew1) | exact HB.out)) : p := h
set_option maxHeartbeats 8000000 in
set_option maxRecDepth 100000 in
theorem laws_alive.calls (k : Nat)  (r : Bool) (w : World) (h : laws_alive.f k  = some r) :
  Calls Try.prog 23 #[] w fun e w' => e = .returned (.bool r) ∧ Below w.heap.size w w' := by
 have hu93 := Try.underlying93
 have HB := Aside0.mk (Below.refl w.heap.size w)
 have H : ((impl_FracOk.f k 1 2).bind fun t157 => (if t157 = true then ((impl_FracOk.f k 2 4).bind fun t158 => (some (!t158))) else (some false))) = some r := h
 clear h
 obtain ⟨t157, A1, H⟩ := bind_ H
 by_cases c2 : t157 = true
 ·subst c2
  replace H := ifp_ H
  obtain ⟨t158, A3, H⟩ := bind_ H
  obtain rfl := Option.some.inj H
  go_enter Try.func23, Try.ntmps23
  go_wp2_with (first | ((with_reducible refine gate_callee (f := 71) rfl ?_); refine goesL_ (some 2) rfl rfl Try.func71 k_ rfl #[.agg #[.int .i64 1, .int .i64 2]] rfl (g4_) ?_; (with_reducible refine (impl_FracOk.calls k 1 2 true _ A1.out).mono ?_); rintro e w4 ⟨rfl, hb⟩; refine ⟨_, rfl, ?_⟩; replace HB := Aside0.mk (below_step (laws_alive.calls_q0) hb); (try clear hb); (try clear hk hi)) | (go_at_call 71; (with_reducible refine (impl_FracOk.calls k 2 4 t158 _ A3.out).mono ?_); rintro e w5 ⟨rfl, hb⟩; replace HB := Aside0.mk (below_step (laws_alive.calls_q0) hb); (try clear hb); (try clear hk hi)))
  go_ret
  exact ⟨g3_, laws_alive.calls_q0⟩
 ·replace c2 := Bool.eq_false_iff.mpr c2
  subst c2
  replace H := ifn_ H
  obtain rfl := Option.some.inj H
  go_enter Try.func23, Try.ntmps23
  go_wp2_with (first | ((with_reducible refine gate_callee (f := 71) rfl ?_); refine goesL_ (some 2) rfl rfl Try.func71 k_ rfl #[.agg #[.int .i64 1, .int .i64 2]] rfl (g4_) ?_; (with_reducible refine (impl_FracOk.calls k 1 2 false _ A1.out).mono ?_); rintro e w6 ⟨rfl, hb⟩; refine ⟨_, rfl, ?_⟩; replace HB := Aside0.mk (below_step (laws_alive.calls_q0) hb); (try clear hb); (try clear hk hi)))
  go_ret
  exact ⟨g3_, laws_alive.calls_q0⟩
mutual
def impl_isBook.j0 : Nat → Int → Bool → List Int → List (List Int) → Option (Bool)
 | 0, _, _, _, _ => none
 | k + 1, x3, x23, x160000, x160001 => if x23 = true then (some false) else (impl_isBook.l0 k x3 x160001 (x160001.length : Int) 0 x160000 x160001)
def impl_isBook.l0 : Nat → Int → List (List Int) → Int → Int → List Int → List (List Int) → Option (Bool)
 | 0, _, _, _, _, _, _ => none
 | k + 1, x3, x25, x26, x27, x160000, x160001 => if x27 < x26 then (if 0 ≤ x27 then (if x27 < (x25.length : Int) then (if x27 < (x160000.length : Int) then (if (rd x160000 x27) < 0 then (impl_isBook.j2 k x3 (rd_L1 x25 x27) x25 x26 x27 true x160000 x160001) else (if (rd x160000 x27) > 20 then (impl_isBook.j2 k x3 (rd_L1 x25 x27) x25 x26 x27 true x160000 x160001) else (if ((rd_L1 x25 x27).length : Int) = x3 then (if x27 < ((rd_L1 x25 x27).length : Int) then (impl_isBook.j2 k x3 (rd_L1 x25 x27) x25 x26 x27 ((rd (rd_L1 x25 x27) x27) != 0) x160000 x160001) else (none)) else (impl_isBook.j2 k x3 (rd_L1 x25 x27) x25 x26 x27 true x160000 x160001)))) else (none)) else (none)) else (none)) else (some true)
def impl_isBook.j2 : Nat → Int → List Int → List (List Int) → Int → Int → Bool → List Int → List (List Int) → Option (Bool)
 | 0, _, _, _, _, _, _, _, _ => none
 | k + 1, x3, x5, x25, x26, x27, x58, x160000, x160001 => if x58 = true then (some false) else (impl_isBook.l1 k x3 x25 x26 x27 x5 (x5.length : Int) 0 x160000 x160001)
def impl_isBook.l1 : Nat → Int → List (List Int) → Int → Int → List Int → Int → Int → List Int → List (List Int) → Option (Bool)
 | 0, _, _, _, _, _, _, _, _, _ => none
 | k + 1, x3, x25, x26, x27, x59, x60, x61, x160000, x160001 => if x61 < x60 then (if 0 ≤ x61 then (if x61 < (x59.length : Int) then (if (rd x59 x61) < 0 then (some false) else (if (rd x59 x61) > 9 then (some false) else (impl_isBook.l1 k x3 x25 x26 x27 x59 x60 (wrap64 (x61 + 1)) x160000 x160001))) else (none)) else (none)) else (impl_isBook.l0 k x3 x25 x26 (wrap64 (x27 + 1)) x160000 x160001)
end
def impl_isBook.f (k : Nat) (l0_0 : List Int) (l0_1 : List (List Int)) : Option (Bool) := if (l0_0.length : Int) < 1 then (impl_isBook.j0 k (l0_0.length : Int) true l0_0 l0_1) else (if (l0_0.length : Int) > 4 then (impl_isBook.j0 k (l0_0.length : Int) true l0_0 l0_1) else (impl_isBook.j0 k (l0_0.length : Int) ((l0_1.length : Int) != (l0_0.length : Int)) l0_0 l0_1))
theorem impl_isBook.mq {p : Prop} (h : p := by
 repeat' first
 | (with_reducible exact ih0 _ _ _ _)
 | (with_reducible exact ih1 _ _ _ _ _ _)
 | (with_reducible exact ih2 _ _ _ _ _ _ _ _)
 | (with_reducible exact ih3 _ _ _ _ _ _ _ _ _)
 | (with_reducible exact LeO.refl _)
 | (with_reducible exact LeO.none _)
 | (with_reducible refine LeO.ite ?_ ?_)
 | (with_reducible refine LeO.bind ?_ (fun _ => ?_))
 | exact ih0 _ _ _ _
 | exact ih1 _ _ _ _ _ _
 | exact ih2 _ _ _ _ _ _ _ _
 | exact ih3 _ _ _ _ _ _ _ _ _
 | exact LeO.none _
 | refine LeO.ite ?_ ?_
 | refine LeO.bind ?_ (fun _ => ?_)) : p := h
theorem impl_isBook.mono_l : ∀ k, (∀ y0 y1 y2 y3, LeO (impl_isBook.j0 k y0 y1 y2 y3) (impl_isBook.j0 (k + 1) y0 y1 y2 y3)) ∧ (∀ y0 y1 y2 y3 y4 y5, LeO (impl_isBook.l0 k y0 y1 y2 y3 y4 y5) (impl_isBook.l0 (k + 1) y0 y1 y2 y3 y4 y5)) ∧ (∀ y0 y1 y2 y3 y4 y5 y6 y7, LeO (impl_isBook.j2 k y0 y1 y2 y3 y4 y5 y6 y7) (impl_isBook.j2 (k + 1) y0 y1 y2 y3 y4 y5 y6 y7)) ∧ (∀ y0 y1 y2 y3 y4 y5 y6 y7 y8, LeO (impl_isBook.l1 k y0 y1 y2 y3 y4 y5 y6 y7 y8) (impl_isBook.l1 (k + 1) y0 y1 y2 y3 y4 y5 y6 y7 y8))
 | 0 => ⟨fun _ _ _ _ r h => by simp [impl_isBook.j0] at h, fun _ _ _ _ _ _ r h => by simp [impl_isBook.l0] at h, fun _ _ _ _ _ _ _ _ r h => by simp [impl_isBook.j2] at h, fun _ _ _ _ _ _ _ _ _ r h => by simp [impl_isBook.l1] at h⟩
 | k + 1 => by
  obtain ⟨ih0, ih1, ih2, ih3⟩ := impl_isBook.mono_l k
  refine ⟨?_, ?_, ?_, ?_⟩
  ·intro y0 y1 y2 y3
   unfold impl_isBook.j0
   exact impl_isBook.mq
  ·intro y0 y1 y2 y3 y4 y5
   unfold impl_isBook.l0
   exact impl_isBook.mq
  ·intro y0 y1 y2 y3 y4 y5 y6 y7
   unfold impl_isBook.j2
   exact impl_isBook.mq
  ·intro y0 y1 y2 y3 y4 y5 y6 y7 y8
   unfold impl_isBook.l1
   exact impl_isBook.mq
theorem impl_isBook.mono : ∀ a0 a1 k, LeO (impl_isBook.f k a0 a1) (impl_isBook.f (k + 1) a0 a1) := by
 intro a0 a1 k
 obtain ⟨ih0, ih1, ih2, ih3⟩ := impl_isBook.mono_l k
 unfold impl_isBook.f
 exact impl_isBook.mq
theorem impl_isBook.calls_q0 {p : Prop} (h : p := by repeat (first | (with_reducible first | exact HB.out | apply below_alloc | apply pw_below_drewN | apply below_drew1 | refine below_set ?_ GE159.out) | exact HB.out)) : p := h
set_option maxHeartbeats 8000000 in
set_option maxRecDepth 100000 in
theorem impl_isBook.calls (k : Nat) (A0_0 : Option Addr) (c0_0 : Nat) (l0_0 : List Int) (A0_1 : Option Addr) (c0_1 : Nat) (l0_1 : List (List Int)) (r : Bool) (w : World) (hr0_0 : Kd.C (Kd.int .i64) w A0_0 l0_0.length l0_0) (hc0_0 : l0_0.length ≤ c0_0) (hr0_1 : Kd.C (Kd.slice 3 (Kd.int .i64)) w A0_1 l0_1.length l0_1) (hc0_1 : l0_1.length ≤ c0_1) (h : impl_isBook.f k l0_0 l0_1 = some r) :
  Calls Try.prog 73 #[.agg #[.slice A0_0 l0_0.length c0_0, .slice A0_1 l0_1.length c0_1]] w fun e w' => e = .returned (.bool r) ∧ Below w.heap.size w w' := by
 have hu25 := Try.underlying25
 have HR0_0 := Aside0.mk hr0_0
 have HC0_0 := Aside0.mk hc0_0
 clear hr0_0 hc0_0
 have HR0_1 := Aside0.mk hr0_1
 have HC0_1 := Aside0.mk hc0_1
 clear hr0_1 hc0_1
 have HB := Aside0.mk (Below.refl w.heap.size w)
 have H : (if (l0_0.length : Int) < 1 then (impl_isBook.j0 k (l0_0.length : Int) true l0_0 l0_1) else (if (l0_0.length : Int) > 4 then (impl_isBook.j0 k (l0_0.length : Int) true l0_0 l0_1) else (impl_isBook.j0 k (l0_0.length : Int) ((l0_1.length : Int) != (l0_0.length : Int)) l0_0 l0_1))) = some r := h
 clear h
 have HC2 := Aside0.mk H
 clear H
 go_enter Try.func73, Try.ntmps73
 go_upto_region 2 with (first | ((with_reducible refine gate_dst (N := 1) rfl ?_); (try (refine gate_guard (by rfl) ?_; dsimp only)); refine bx_ (N := 1) #[.slice A0_0 l0_0.length c0_0, .slice A0_1 l0_1.length c0_1] 25 ?_; intro gb159 hg w3 hbox hb; have BK159 := Aside0.mk (hbox); have GW159 := Aside0.mk ((by rw [hg]; exact (below_size (impl_isBook.calls_q0)) : w.heap.size ≤ gb159)); have GE159 := Aside0.mk ((by rw [hg]; exact (below_size (impl_isBook.calls_q0)) : w.heap.size ≤ gb159)); replace HB := Aside0.mk (below_step (impl_isBook.calls_q0) hb); clear hb hbox hg; obtain ⟨hcz4_0, hcz4_1, hfz4_0, hfz4_1⟩ := blk2_ BK159))
 (try simp only [Act.put, List.setIfInBounds_toArray, List.set_cons_zero, List.set_cons_succ])
 go_cut [23] (fun v23 wc => ∃ (kq : Nat) (x23_1 : Bool), v23 = .bool x23_1 ∧ Aside0 (impl_isBook.j0 kq (l0_0.length : Int) x23_1 l0_0 l0_1 = some r) ∧ Aside0 (kq ≤ k) ∧ Aside0 (wc.heap[gb159]? = some (.cells #[(.slice A0_0 l0_0.length c0_0), (.slice A0_1 l0_1.length c0_1)] 25 (0, 0))) ∧ Aside0 (Below w.heap.size w wc))
 case first =>
  have H := HC2.out
  clear HC2
  by_cases c5 : (l0_0.length : Int) < 1
  ·rw [if_pos c5] at H
   have c5b0 := decide_eq_true c5
   have c5b1 : decide (l0_0.length < 1) = true := decide_eq_true (by omega)
   clear c5
   (first | rw [c5b0] | (simp only [i64_w, i32_w]; rw [c5b0]) | skip)
   have H' := Aside0.mk H
   clear H
   go_wp2
   go_meet
   case rel => exact ⟨_, (true), (g1_), H', ⟨g7_⟩, ⟨uf0_ BK159⟩, ⟨impl_isBook.calls_q0⟩⟩
  ·rw [if_neg c5] at H
   have c5b0 := decide_eq_false c5
   have c5b1 : decide (l0_0.length < 1) = false := decide_eq_false (by omega)
   clear c5
   (first | rw [c5b0] | (simp only [i64_w, i32_w]; rw [c5b0]) | skip)
   by_cases c6 : (l0_0.length : Int) > 4
   ·rw [if_pos c6] at H
    have c6b0 := decide_eq_true c6
    have c6b1 : decide (4 < l0_0.length) = true := decide_eq_true (by omega)
    clear c6
    have H' := Aside0.mk H
    clear H
    go_wp2
    go_meet
    case rel => exact ⟨_, (true), (g1_), H', ⟨g7_⟩, ⟨uf0_ BK159⟩, ⟨impl_isBook.calls_q0⟩⟩
   ·rw [if_neg c6] at H
    have c6b0 := decide_eq_false c6
    have c6b1 : decide (4 < l0_0.length) = false := decide_eq_false (by omega)
    clear c6
    have H' := Aside0.mk H
    clear H
    obtain ⟨hcz7_0, hcz7_1, hfz7_0, hfz7_1⟩ := blk2_ BK159
    go_wp2
    go_meet
    case rel => exact ⟨_, (((l0_1.length : Int) != (l0_0.length : Int))), (g1_), H', ⟨g7_⟩, ⟨uf0_ BK159⟩, ⟨impl_isBook.calls_q0⟩⟩
 case rest =>
  clear HC2
  try clear p2
  try clear c5
  try clear c5b0
  try clear c5b1
  try clear c6
  try clear c6b0
  try clear c6b1
  try clear c7
  try clear hcz4_0
  try clear hcz4_1
  try clear hcz7_0
  try clear hcz7_1
  try clear hfz4_0
  try clear hfz4_1
  try clear hfz7_0
  try clear hfz7_1
  obtain ⟨kq, x23_1, rfl, HA, HJ1, BK159, HB⟩ := hcut
  cases kq with
  | zero => exact absurd HA.out (by simp [impl_isBook.j0])
  | succ kj1 =>
   have H := HA.out
   clear HA
   simp only [impl_isBook.j0] at H
   by_cases c8 : x23_1 = true
   ·subst c8
    replace H := ifp_ H
    obtain rfl := Option.some.inj H
    go_wp2
    go_ret
    exact ⟨g3_, impl_isBook.calls_q0⟩
   ·replace c8 := Bool.eq_false_iff.mpr c8
    subst c8
    replace H := ifn_ H
    have H' := Aside0.mk H
    clear H
    obtain ⟨hcz9_0, hcz9_1, hfz9_0, hfz9_1⟩ := blk2_ BK159
    go_wp2
    go_loopg [27] kj1 (fun kq v27 w' => ∃ (x27_2 : Int), v27 = .int .i64 x27_2 ∧ Aside0 (impl_isBook.l0 kq (l0_0.length : Int) l0_1 (l0_1.length : Int) x27_2 l0_0 l0_1 = some r) ∧ Aside0 (kq ≤ kj1) ∧ Aside0 (w'.heap[gb159]? = some (.cells #[(.slice A0_0 l0_0.length c0_0), (.slice A0_1 l0_1.length c0_1)] 25 (0, 0))) ∧ Aside0 (Below w.heap.size w w'))
    case atStart => exact ⟨(0), (g1_), H', ⟨Nat.le_refl _⟩, ⟨uf0_ BK159⟩, ⟨impl_isBook.calls_q0⟩⟩
    case round =>
     clear H'
     try clear p2
     try clear c5
     try clear c5b0
     try clear c5b1
     try clear c6
     try clear c6b0
     try clear c6b1
     try clear c7
     try clear c8
     try clear hcz4_0
     try clear hcz4_1
     try clear hcz7_0
     try clear hcz7_1
     try clear hcz9_0
     try clear hcz9_1
     try clear hfz4_0
     try clear hfz4_1
     try clear hfz7_0
     try clear hfz7_1
     try clear hfz9_0
     try clear hfz9_1
     try clear p2
     obtain ⟨x27_2, rfl, HA, HK2, BK159, HB⟩ := hrel
     cases gk with
     | zero => exact absurd HA.out (by simp [impl_isBook.l0])
     | succ k2 =>
      have H := HA.out
      clear HA
      simp only [impl_isBook.l0] at H
      by_cases c10 : x27_2 < (l0_1.length : Int)
      ·rw [if_pos c10] at H
       have c10b0 := decide_eq_true c10
       clear c10
       obtain ⟨c11, H⟩ := pos_ H
       have c11b0 := decide_eq_true c11
       clear c11
       obtain ⟨c12, H⟩ := pos_ H
       have c12b0 := decide_eq_true c12
       clear c12
       have HC13 := Aside0.mk H
       clear H
       have p160 : 0 ≤ (x27_2 : Int) := of_decide_eq_true (g0_)
       have q160 : x27_2 < (l0_1.length : Int) := of_decide_eq_true (g0_)
       obtain ⟨ad160, A160_0, c160_0, e160, hx160_0, hl160_0, hi160_0⟩ := at_L1 HR0_1.out x27_2 p160 q160
       cases e160
       replace hx160_0 := cl_ HB hx160_0
       have HR160_0 := Aside0.mk hi160_0
       have HC160_0 := Aside0.mk hl160_0
       clear hi160_0 hl160_0
       replace p160 := eq_true p160
       replace q160 := eq_true q160
       go_upto_region 7 with (fail)
       go_cut [58] (fun v58 wc => ∃ (kq : Nat) (x58_12 : Bool), v58 = .bool x58_12 ∧ Aside0 (impl_isBook.j2 kq (l0_0.length : Int) (rd_L1 l0_1 x27_2) l0_1 (l0_1.length : Int) x27_2 x58_12 l0_0 l0_1 = some r) ∧ Aside0 (kq ≤ k2) ∧ Aside0 (wc.heap[gb159]? = some (.cells #[(.slice A0_0 l0_0.length c0_0), (.slice (some ad160) l0_1.length c0_1)] 25 (0, 0))) ∧ Aside0 (Below w.heap.size w wc))
       case first =>
        have H := HC13.out
        clear HC13
        obtain ⟨c14, H⟩ := pos_ H
        have c14b0 := decide_eq_true c14
        clear c14
        (first | rw [c14b0] | (simp only [i64_w, i32_w]; rw [c14b0]) | skip)
        by_cases c15 : (rd l0_0 x27_2) < 0
        ·rw [if_pos c15] at H
         have c15b0 := decide_eq_true c15
         clear c15
         have H' := Aside0.mk H
         clear H
         obtain ⟨hcz16_0, hcz16_1, hfz16_0, hfz16_1⟩ := blk2_ BK159
         have p161 : 0 ≤ (x27_2 : Int) := of_decide_eq_true (g0_)
         have q161 : x27_2 < (l0_0.length : Int) := of_decide_eq_true (g0_)
         obtain ⟨ad161, e161, hx161_0⟩ := Kd.at_int HR0_0.out x27_2 p161 q161
         cases e161
         replace hx161_0 := cl_ HB hx161_0
         replace p161 := eq_true p161
         replace q161 := eq_true q161
         go_wp2
         go_meet
         case rel => exact ⟨_, (true), (g1_), H', ⟨g18_⟩, ⟨uf0_ BK159⟩, ⟨impl_isBook.calls_q0⟩⟩
        ·rw [if_neg c15] at H
         have c15b0 := decide_eq_false c15
         clear c15
         by_cases c17 : (rd l0_0 x27_2) > 20
         ·rw [if_pos c17] at H
          have c17b0 := decide_eq_true c17
          clear c17
          have H' := Aside0.mk H
          clear H
          obtain ⟨hcz18_0, hcz18_1, hfz18_0, hfz18_1⟩ := blk2_ BK159
          have p161 : 0 ≤ (x27_2 : Int) := of_decide_eq_true (g0_)
          have q161 : x27_2 < (l0_0.length : Int) := of_decide_eq_true (g0_)
          obtain ⟨ad161, e161, hx161_0⟩ := Kd.at_int HR0_0.out x27_2 p161 q161
          cases e161
          replace hx161_0 := cl_ HB hx161_0
          replace p161 := eq_true p161
          replace q161 := eq_true q161
          have p162 : 0 ≤ (x27_2 : Int) := of_decide_eq_true (g0_)
          have q162 : x27_2 < (l0_0.length : Int) := of_decide_eq_true (g0_)
          obtain ⟨ad162, e162, hx162_0⟩ := Kd.at_int HR0_0.out x27_2 p162 q162
          obtain rfl : ad161 = ad162 := (by injection e162)
          replace hx162_0 := cl_ HB hx162_0
          replace p162 := eq_true p162
          replace q162 := eq_true q162
          go_wp2
          go_meet
          case rel => exact ⟨_, (true), (g1_), H', ⟨g18_⟩, ⟨uf0_ BK159⟩, ⟨impl_isBook.calls_q0⟩⟩
         ·rw [if_neg c17] at H
          have c17b0 := decide_eq_false c17
          clear c17
          by_cases c19 : ((rd_L1 l0_1 x27_2).length : Int) = (l0_0.length : Int)
          ·rw [if_pos c19] at H
           have c19b0 : (((rd_L1 l0_1 x27_2).length : Int) == (l0_0.length : Int)) = true := beq_iff_eq.mpr c19
           have c19b1 : (((rd_L1 l0_1 x27_2).length : Int) != (l0_0.length : Int)) = false := bne_eq_false_iff_eq.mpr c19
           have c19b2 : ((rd_L1 l0_1 x27_2).length == l0_0.length) = true := by first | simpa using c19 | (simp at c19 ⊢; omega)
           clear c19
           obtain ⟨c20, H⟩ := pos_ H
           have c20b0 := decide_eq_true c20
           clear c20
           have H' := Aside0.mk H
           clear H
           obtain ⟨hcz21_0, hcz21_1, hfz21_0, hfz21_1⟩ := blk2_ BK159
           have p161 : 0 ≤ (x27_2 : Int) := of_decide_eq_true (g0_)
           have q161 : x27_2 < (l0_0.length : Int) := of_decide_eq_true (g0_)
           obtain ⟨ad161, e161, hx161_0⟩ := Kd.at_int HR0_0.out x27_2 p161 q161
           cases e161
           replace hx161_0 := cl_ HB hx161_0
           replace p161 := eq_true p161
           replace q161 := eq_true q161
           have p162 : 0 ≤ (x27_2 : Int) := of_decide_eq_true (g0_)
           have q162 : x27_2 < (l0_0.length : Int) := of_decide_eq_true (g0_)
           obtain ⟨ad162, e162, hx162_0⟩ := Kd.at_int HR0_0.out x27_2 p162 q162
           obtain rfl : ad161 = ad162 := (by injection e162)
           replace hx162_0 := cl_ HB hx162_0
           replace p162 := eq_true p162
           replace q162 := eq_true q162
           have p163 : 0 ≤ (x27_2 : Int) := of_decide_eq_true (g0_)
           have q163 : x27_2 < ((rd_L1 l0_1 x27_2).length : Int) := of_decide_eq_true (g0_)
           obtain ⟨ad163, e163, hx163_0⟩ := Kd.at_int HR160_0.out x27_2 p163 q163
           cases e163
           replace hx163_0 := cl_ HB hx163_0
           replace p163 := eq_true p163
           replace q163 := eq_true q163
           go_wp2
           go_meet
           case rel => exact ⟨_, (((rd (rd_L1 l0_1 x27_2) x27_2) != 0)), (g1_), H', ⟨g18_⟩, ⟨uf0_ BK159⟩, ⟨impl_isBook.calls_q0⟩⟩
          ·rw [if_neg c19] at H
           have c19b0 : (((rd_L1 l0_1 x27_2).length : Int) == (l0_0.length : Int)) = false := beq_eq_false_iff_ne.mpr c19
           have c19b1 : (((rd_L1 l0_1 x27_2).length : Int) != (l0_0.length : Int)) = true := bne_iff_ne.mpr c19
           have c19b2 : ((rd_L1 l0_1 x27_2).length == l0_0.length) = false := by first | simpa using c19 | (simp at c19 ⊢; omega)
           have H' := Aside0.mk H
           clear H
           obtain ⟨hcz22_0, hcz22_1, hfz22_0, hfz22_1⟩ := blk2_ BK159
           have p161 : 0 ≤ (x27_2 : Int) := of_decide_eq_true (g0_)
           have q161 : x27_2 < (l0_0.length : Int) := of_decide_eq_true (g0_)
           obtain ⟨ad161, e161, hx161_0⟩ := Kd.at_int HR0_0.out x27_2 p161 q161
           cases e161
           replace hx161_0 := cl_ HB hx161_0
           replace p161 := eq_true p161
           replace q161 := eq_true q161
           have p162 : 0 ≤ (x27_2 : Int) := of_decide_eq_true (g0_)
           have q162 : x27_2 < (l0_0.length : Int) := of_decide_eq_true (g0_)
           obtain ⟨ad162, e162, hx162_0⟩ := Kd.at_int HR0_0.out x27_2 p162 q162
           obtain rfl : ad161 = ad162 := (by injection e162)
           replace hx162_0 := cl_ HB hx162_0
           replace p162 := eq_true p162
           replace q162 := eq_true q162
           go_wp2
           go_meet
           case rel => exact ⟨_, (true), (g1_), H', ⟨g18_⟩, ⟨uf0_ BK159⟩, ⟨impl_isBook.calls_q0⟩⟩
       case rest =>
        clear HC13
        try clear c1
        try clear p1
        try clear q1
        try clear hx1
        try clear c2
        try clear p2
        try clear c5
        try clear c5b0
        try clear c5b1
        try clear c6
        try clear c6b0
        try clear c6b1
        try clear c7
        try clear c8
        try clear c10
        try clear c10b0
        try clear c11
        try clear c11b0
        try clear c12
        try clear c12b0
        try clear c14
        try clear c14b0
        try clear c15
        try clear c15b0
        try clear c16
        try clear p16
        try clear q16
        try clear hx16
        try clear c17
        try clear c17b0
        try clear c19
        try clear c19b0
        try clear c19b1
        try clear c19b2
        try clear c20
        try clear c20b0
        try clear hcz16_0
        try clear hcz16_1
        try clear hcz18_0
        try clear hcz18_1
        try clear hcz21_0
        try clear hcz21_1
        try clear hcz22_0
        try clear hcz22_1
        try clear hcz4_0
        try clear hcz4_1
        try clear hcz7_0
        try clear hcz7_1
        try clear hcz9_0
        try clear hcz9_1
        try clear hfz16_0
        try clear hfz16_1
        try clear hfz18_0
        try clear hfz18_1
        try clear hfz21_0
        try clear hfz21_1
        try clear hfz22_0
        try clear hfz22_1
        try clear hfz4_0
        try clear hfz4_1
        try clear hfz7_0
        try clear hfz7_1
        try clear hfz9_0
        try clear hfz9_1
        try clear hx160_0
        try clear hx161_0
        try clear hx162_0
        try clear hx163_0
        try clear p160
        try clear p161
        try clear p162
        try clear p163
        try clear p2
        try clear q160
        try clear q161
        try clear q162
        try clear q163
        obtain ⟨kq, x58_12, rfl, HA, HJ12, BK159, HB⟩ := hcut
        cases kq with
        | zero => exact absurd HA.out (by simp [impl_isBook.j2])
        | succ kj12 =>
         have H := HA.out
         clear HA
         simp only [impl_isBook.j2] at H
         by_cases c23 : x58_12 = true
         ·subst c23
          replace H := ifp_ H
          obtain rfl := Option.some.inj H
          go_wp2
          go_ret
          exact ⟨g3_, impl_isBook.calls_q0⟩
         ·replace c23 := Bool.eq_false_iff.mpr c23
          subst c23
          replace H := ifn_ H
          have H' := Aside0.mk H
          clear H
          go_wp2
          go_loopg [61] kj12 (fun kq v61 w' => ∃ (x61_4 : Int), v61 = .int .i64 x61_4 ∧ Aside0 (impl_isBook.l1 kq (l0_0.length : Int) l0_1 (l0_1.length : Int) x27_2 (rd_L1 l0_1 x27_2) ((rd_L1 l0_1 x27_2).length : Int) x61_4 l0_0 l0_1 = some r) ∧ Aside0 (kq ≤ kj12) ∧ Aside0 (w'.heap[gb159]? = some (.cells #[(.slice A0_0 l0_0.length c0_0), (.slice (some ad160) l0_1.length c0_1)] 25 (0, 0))) ∧ Aside0 (Below w.heap.size w w'))
          case atStart => exact ⟨(0), (g1_), H', ⟨Nat.le_refl _⟩, ⟨uf0_ BK159⟩, ⟨impl_isBook.calls_q0⟩⟩
          case round =>
           clear H'
           try clear c1
           try clear p1
           try clear q1
           try clear hx1
           try clear c2
           try clear p2
           try clear c5
           try clear c5b0
           try clear c5b1
           try clear c6
           try clear c6b0
           try clear c6b1
           try clear c7
           try clear c8
           try clear c10
           try clear c10b0
           try clear c11
           try clear c11b0
           try clear c12
           try clear c12b0
           try clear c14
           try clear c14b0
           try clear c15
           try clear c15b0
           try clear c16
           try clear p16
           try clear q16
           try clear hx16
           try clear c17
           try clear c17b0
           try clear c19
           try clear c19b0
           try clear c19b1
           try clear c19b2
           try clear c20
           try clear c20b0
           try clear c23
           try clear hcz16_0
           try clear hcz16_1
           try clear hcz18_0
           try clear hcz18_1
           try clear hcz21_0
           try clear hcz21_1
           try clear hcz22_0
           try clear hcz22_1
           try clear hcz4_0
           try clear hcz4_1
           try clear hcz7_0
           try clear hcz7_1
           try clear hcz9_0
           try clear hcz9_1
           try clear hfz16_0
           try clear hfz16_1
           try clear hfz18_0
           try clear hfz18_1
           try clear hfz21_0
           try clear hfz21_1
           try clear hfz22_0
           try clear hfz22_1
           try clear hfz4_0
           try clear hfz4_1
           try clear hfz7_0
           try clear hfz7_1
           try clear hfz9_0
           try clear hfz9_1
           try clear hx160_0
           try clear hx161_0
           try clear hx162_0
           try clear hx163_0
           try clear p1
           try clear p16
           try clear p160
           try clear p161
           try clear p162
           try clear p163
           try clear p2
           try clear q1
           try clear q16
           try clear q160
           try clear q161
           try clear q162
           try clear q163
           obtain ⟨x61_4, rfl, HA, HK4, BK159, HB⟩ := hrel
           cases gk with
           | zero => exact absurd HA.out (by simp [impl_isBook.l1])
           | succ k4 =>
            have H := HA.out
            clear HA
            simp only [impl_isBook.l1] at H
            by_cases c24 : x61_4 < ((rd_L1 l0_1 x27_2).length : Int)
            ·rw [if_pos c24] at H
             have c24b0 := decide_eq_true c24
             clear c24
             obtain ⟨c25, H⟩ := pos_ H
             have c25b0 := decide_eq_true c25
             clear c25
             obtain ⟨c26, H⟩ := pos_ H
             have c26b0 := decide_eq_true c26
             clear c26
             by_cases c27 : (rd (rd_L1 l0_1 x27_2) x61_4) < 0
             ·rw [if_pos c27] at H
              have c27b0 := decide_eq_true c27
              clear c27
              obtain rfl := Option.some.inj H
              have p164 : 0 ≤ (x61_4 : Int) := of_decide_eq_true (g0_)
              have q164 : x61_4 < ((rd_L1 l0_1 x27_2).length : Int) := of_decide_eq_true (g0_)
              obtain ⟨ad164, e164, hx164_0⟩ := Kd.at_int HR160_0.out x61_4 p164 q164
              cases e164
              replace hx164_0 := cl_ HB hx164_0
              replace p164 := eq_true p164
              replace q164 := eq_true q164
              go_wp2
              go_ret
              exact ⟨g3_, impl_isBook.calls_q0⟩
             ·rw [if_neg c27] at H
              have c27b0 := decide_eq_false c27
              clear c27
              by_cases c28 : (rd (rd_L1 l0_1 x27_2) x61_4) > 9
              ·rw [if_pos c28] at H
               have c28b0 := decide_eq_true c28
               clear c28
               obtain rfl := Option.some.inj H
               have p164 : 0 ≤ (x61_4 : Int) := of_decide_eq_true (g0_)
               have q164 : x61_4 < ((rd_L1 l0_1 x27_2).length : Int) := of_decide_eq_true (g0_)
               obtain ⟨ad164, e164, hx164_0⟩ := Kd.at_int HR160_0.out x61_4 p164 q164
               cases e164
               replace hx164_0 := cl_ HB hx164_0
               replace p164 := eq_true p164
               replace q164 := eq_true q164
               go_wp2
               go_ret
               exact ⟨g3_, impl_isBook.calls_q0⟩
              ·rw [if_neg c28] at H
               have c28b0 := decide_eq_false c28
               clear c28
               have H' := Aside0.mk H
               clear H
               have p164 : 0 ≤ (x61_4 : Int) := of_decide_eq_true (g0_)
               have q164 : x61_4 < ((rd_L1 l0_1 x27_2).length : Int) := of_decide_eq_true (g0_)
               obtain ⟨ad164, e164, hx164_0⟩ := Kd.at_int HR160_0.out x61_4 p164 q164
               cases e164
               replace hx164_0 := cl_ HB hx164_0
               replace p164 := eq_true p164
               replace q164 := eq_true q164
               go_wp2
               go_roundg k4
               case measure => have := HJ1.out; have := HK2.out; have := HJ12.out; have := HK4.out; omega
               case rel => exact ⟨(wrap64 (x61_4 + 1)), (g1_), H', ⟨by have := HJ1.out; have := HK2.out; have := HJ12.out; have := HK4.out; omega⟩, ⟨uf0_ BK159⟩, ⟨impl_isBook.calls_q0⟩⟩
            ·rw [if_neg c24] at H
             have c24b0 := decide_eq_false c24
             clear c24
             have H' := Aside0.mk H
             clear H
             go_wp2
             go_roundg k4
             case measure => have := HJ1.out; have := HK2.out; have := HJ12.out; have := HK4.out; omega
             case rel => exact ⟨(wrap64 (x27_2 + 1)), (g1_), H', ⟨by have := HJ1.out; have := HK2.out; have := HJ12.out; have := HK4.out; omega⟩, ⟨uf0_ BK159⟩, ⟨impl_isBook.calls_q0⟩⟩
      ·rw [if_neg c10] at H
       have c10b0 := decide_eq_false c10
       clear c10
       obtain rfl := Option.some.inj H
       go_wp2
       go_ret
       exact ⟨g3_, impl_isBook.calls_q0⟩
def impl_isDesk.bad (k : Nat) (n : Int) : List S25 → Nat → Option Int
 | [], _ => some (-1)
 | x :: r, i => (impl_isBook.f k x.f0 x.f1).bind fun t => if t = true then (if (x.f0.length : Int) = n then impl_isDesk.bad k n r (i + 1) else some (i : Int)) else some (i : Int)
def impl_isDesk.f (k : Nat) (l0 : List Int) (l1 : List (List Int)) (l2 : List S25) : Option Bool := (impl_isBook.f k l0 l1).bind fun t => if t = true then (if (l2.length : Int) ≤ 8 then (impl_isDesk.bad k (l0.length : Int) l2 0).bind fun q => some (!decide (q ≥ 0)) else some false) else some false
theorem impl_isDesk.bad_mono (k : Nat) (n : Int) : ∀ (l : List S25) (i : Nat), LeO (impl_isDesk.bad k n l i) (impl_isDesk.bad (k + 1) n l i)
 | [], _ => LeO.refl _
 | x :: r, i => by
  unfold impl_isDesk.bad
  refine LeO.bind (impl_isBook.mono _ _ _) (fun _ => ?_)
  refine LeO.ite ?_ (LeO.refl _)
  exact LeO.ite (impl_isDesk.bad_mono k n r (i + 1)) (LeO.refl _)
theorem impl_isDesk.mono : ∀ a0 a1 a2 k, LeO (impl_isDesk.f k a0 a1 a2) (impl_isDesk.f (k + 1) a0 a1 a2) := by
 intro a0 a1 a2 k
 unfold impl_isDesk.f
 refine LeO.bind (impl_isBook.mono _ _ _) (fun _ => ?_)
 refine LeO.ite ?_ (LeO.refl _)
 refine LeO.ite ?_ (LeO.refl _)
 exact LeO.bind (impl_isDesk.bad_mono _ _ _ _) (fun _ => LeO.refl _)
set_option maxHeartbeats 8000000 in
set_option maxRecDepth 100000 in
theorem impl_isDesk.lit (k : Nat) (A0 : Option Addr) (c0 : Nat) (l0 : List Int) (A1 : Option Addr) (c1 : Nat) (l1 : List (List Int)) (gb : Nat) (AN : Option Addr) (nN cN : Nat) (vD vP : Value) (t : Bool) (w : World) (hr0 : Kd.C (Kd.int .i64) w A0 l0.length l0) (hc0 : l0.length ≤ c0) (hr1 : Kd.C (Kd.slice 3 (Kd.int .i64)) w A1 l1.length l1) (hc1 : l1.length ≤ c1) (hbk : w.heap[gb]? = some (.cells #[.slice AN nN cN, vD, vP] 28 (0, 0))) (h : impl_isBook.f k l0 l1 = some t) :
  Calls Try.prog 110 #[.agg #[.slice A0 l0.length c0, .slice A1 l1.length c1], .pointer (some ⟨gb, 0, none⟩)] w fun e w' => e = .returned (.bool (if t = true then ((l0.length : Int) != (nN : Int)) else true)) ∧ Below w.heap.size w w' := by
 have hu := Try.underlying25
 have hu2 := Try.underlying28
 have HR0 := Aside0.mk hr0
 have HR1 := Aside0.mk hr1
 have BKD := Aside0.mk hbk
 have HB := Aside0.mk (Below.refl w.heap.size w)
 have HT := Aside0.mk h
 have HC0 := Aside0.mk hc0
 have HC1 := Aside0.mk hc1
 clear hr0 hr1 hbk h hc0 hc1
 by_cases ht : t = true
 ·subst ht
  go_enter Try.func110, Try.ntmps110
  go_wp2_with (first | ((with_reducible refine gate_dst (N := 2) rfl ?_); refine box_event ?hg (N := 2) ?hd (cs := #[.slice A0 l0.length c0, .slice A1 l1.length c1]) (t := 25) ?hr ?_; (case hd => rfl); (case hg => rfl); (case hr => first | (go_simp; done) | (go_simp; rfl)); intro g2 hg w2 hbox hb; have n0_ := Aside0.mk (blk_below BKD.out hb); have n1_ := Aside0.mk (below_step HB.out hb); have BK := Aside0.mk hbox; clear BKD HB hbox hg; have BKD := n0_; have HB := n1_; clear n0_ n1_ hb; have hcz_0 : w2.cell? ⟨g2, 0, none⟩ = some (.slice A0 l0.length c0) := (blk_cell BK.out 0).trans rfl; have hcz_1 : w2.cell? ⟨g2, 1, none⟩ = some (.slice A1 l1.length c1) := (blk_cell BK.out 1).trans rfl) | ((with_reducible refine gate_callee (f := 73) rfl ?_); refine goesL_ (some 5) rfl rfl Try.func73 (g2_) rfl #[.agg #[.slice A0 l0.length c0, .slice A1 l1.length c1]] rfl (g14_) ?_; (with_reducible refine (impl_isBook.calls k _ _ l0 _ _ l1 true _ ?side1 ?side2 ?side3 ?side4 HT.out).mono ?_); (case side1 => repeat (first | exact (Kd.C_below HR0.out HB.out) | (with_reducible refine Kd.C_alloc ?_ _) | (with_reducible refine Kd.C_drewN ?_ _) | (with_reducible refine Kd.C_drew ?_))); (case side2 => exact HC0.out); (case side3 => repeat (first | exact (Kd.C_below HR1.out HB.out) | (with_reducible refine Kd.C_alloc ?_ _) | (with_reducible refine Kd.C_drewN ?_ _) | (with_reducible refine Kd.C_drew ?_))); (case side4 => exact HC1.out); rintro e w3 ⟨rfl, hb⟩; refine ⟨_, rfl, ?_⟩; have n0_ := Aside0.mk (blk_below (by (with_reducible repeat (first | refine blk_drewN ?_ _ | refine blk_drew ?_ | refine blk_alloc ?_ _)); exact BKD.out) hb); have n1_ := Aside0.mk (blk_below (by (with_reducible repeat (first | refine blk_drewN ?_ _ | refine blk_drew ?_ | refine blk_alloc ?_ _)); exact BK.out) hb); have n2_ := Aside0.mk (below_step (g5_) hb); clear BKD BK HB hb; have BKD := n0_; have BK := n1_; have HB := n2_; clear n0_ n1_ n2_; have hcy_0 : w3.cell? ⟨g2, 0, none⟩ = some (.slice A0 l0.length c0) := (blk_cell BK.out 0).trans rfl; have hcd_0 : w3.cell? ⟨gb, 0, none⟩ = some (.slice AN nN cN) := (blk_cell BKD.out 0).trans rfl))
  go_ret
  exact ⟨g1_, g5_⟩
 ·obtain rfl : t = false := by simpa using ht
  clear ht
  go_enter Try.func110, Try.ntmps110
  go_wp2_with (first | ((with_reducible refine gate_dst (N := 2) rfl ?_); refine box_event ?hg (N := 2) ?hd (cs := #[.slice A0 l0.length c0, .slice A1 l1.length c1]) (t := 25) ?hr ?_; (case hd => rfl); (case hg => rfl); (case hr => first | (go_simp; done) | (go_simp; rfl)); intro g2 hg w2 hbox hb; have n1_ := Aside0.mk (below_step HB.out hb); have BK := Aside0.mk hbox; clear HB hbox hg; have HB := n1_; clear n1_ hb; have hcz_0 : w2.cell? ⟨g2, 0, none⟩ = some (.slice A0 l0.length c0) := (blk_cell BK.out 0).trans rfl; have hcz_1 : w2.cell? ⟨g2, 1, none⟩ = some (.slice A1 l1.length c1) := (blk_cell BK.out 1).trans rfl) | ((with_reducible refine gate_callee (f := 73) rfl ?_); refine goesL_ (some 5) rfl rfl Try.func73 (g2_) rfl #[.agg #[.slice A0 l0.length c0, .slice A1 l1.length c1]] rfl (g14_) ?_; (with_reducible refine (impl_isBook.calls k _ _ l0 _ _ l1 false _ ?side1 ?side2 ?side3 ?side4 HT.out).mono ?_); (case side1 => repeat (first | exact (Kd.C_below HR0.out HB.out) | (with_reducible refine Kd.C_alloc ?_ _) | (with_reducible refine Kd.C_drewN ?_ _) | (with_reducible refine Kd.C_drew ?_))); (case side2 => exact HC0.out); (case side3 => repeat (first | exact (Kd.C_below HR1.out HB.out) | (with_reducible refine Kd.C_alloc ?_ _) | (with_reducible refine Kd.C_drewN ?_ _) | (with_reducible refine Kd.C_drew ?_))); (case side4 => exact HC1.out); rintro e w3 ⟨rfl, hb⟩; refine ⟨_, rfl, ?_⟩; have n2_ := Aside0.mk (below_step (g5_) hb); clear HB hb; have HB := n2_; clear n2_))
  go_ret
  exact ⟨g1_, g5_⟩
set_option maxHeartbeats 8000000 in
set_option maxRecDepth 100000 in
theorem impl_isDesk.index (k : Nat) (A2 : Option Addr) (c2 : Nat) (l2 : List S25) (gb : Nat) (AN : Option Addr) (nN cN : Nat) (vD vP : Value) (r : Int) (w : World) (hr2 : Kd.C k25 w A2 l2.length l2) (hc2 : l2.length ≤ c2) (hbk : w.heap[gb]? = some (.cells #[.slice AN nN cN, vD, vP] 28 (0, 0))) (h : impl_isDesk.bad k (nN : Int) l2 0 = some r) :
  Calls Try.prog 127 #[.slice A2 l2.length c2, .func (.func 110) #[] #[.pointer (some ⟨gb, 0, none⟩)]] w fun e w' => e = .returned (.int .i64 r) ∧ Below w.heap.size w w' := by
 have hn : l2.length ≤ 9223372036854775807 := hr2.2.1
 have HR2 := Aside0.mk hr2
 have BKD := Aside0.mk hbk
 have HB := Aside0.mk (Below.refl w.heap.size w)
 have H := Aside0.mk h
 clear hr2 hbk h
 generalize hN : l2.length = n at *
 have HN := Aside0.mk hN
 clear hN
 go_enter Try.func127, Try.ntmps127
 go_wp2_with fail
 go_loopg [5, 8] n (fun kq v5 v8 w' => ∃ j : Nat, kq + j = n ∧ v8 = .int .i64 j ∧ Aside0 (impl_isDesk.bad k (nN : Int) (l2.drop j) j = some r) ∧ Aside0 (Below w.heap.size w w'))
 case atStart => exact ⟨0, rfl, rfl, ⟨H.out⟩, ⟨g5_⟩⟩
 case round =>
  clear HB H
  obtain ⟨j, hj, rfl, HA, HB⟩ := hrel
  by_cases hlt : j < n
  ·obtain ⟨k1, rfl⟩ : ∃ k1, gk = k1 + 1 := ⟨gk - 1, by omega⟩
   have hlt2 : j < l2.length := by rw [HN.out]; exact hlt
   have hd : l2.drop j = rd_T25 l2 (j : Int) :: l2.drop (j + 1) := by
    rw [List.drop_eq_getElem_cons hlt2]; simp [rd_T25, List.getD_eq_getElem?_getD, List.getElem?_eq_getElem hlt2]
   have HX := HA.out
   rw [hd] at HX
   simp only [impl_isDesk.bad] at HX
   clear HA
   obtain ⟨ad, B0, d0, B1, d1, e, hx0, hx1, hl0, hi0, hl1, hi1⟩ := at_T25 HR2.out (j : Int) (by omega) (by omega)
   cases e
   have hx0' := (HB.out.cell (World.block_lt_of_cell? w _ hx0)).trans hx0
   have hx1' := (HB.out.cell (World.block_lt_of_cell? w _ hx1)).trans hx1
   rw [Int.toNat_natCast] at hx0' hx1'
   have HI0 := Aside0.mk hi0
   have HI1 := Aside0.mk hi1
   have HL0 := Aside0.mk hl0
   have HL1 := Aside0.mk hl1
   have p5 : (0 ≤ (j : Int)) = True := eq_true (by omega)
   have q5 : ((j : Int) < (n : Int)) = True := eq_true (by omega)
   have c3b0 : decide ((j : Int) < (n : Int)) = true := decide_eq_true (by omega)
   clear hx0 hx1 hi0 hi1 hl0 hl1 hd hlt2
   generalize rd_T25 l2 (j : Int) = y at hx0' hx1' HI0 HI1 HL0 HL1 HX
   obtain ⟨t, hT, HX⟩ := Option.bind_eq_some_iff.mp HX
   have HT := Aside0.mk hT
   clear hT
   by_cases hb2 : (if t = true then ((y.f0.length : Int) != (nN : Int)) else true) = true
   ·have hr : Aside0 ((j : Int) = r) := ⟨by
     by_cases ht : t = true
     ·rw [if_pos ht] at hb2 HX
      rw [if_neg (by simpa using hb2)] at HX
      exact Option.some.inj HX
     ·rw [if_neg ht] at HX; exact Option.some.inj HX⟩
    have HV := Aside0.mk hb2
    clear hb2 HX
    go_wp2_with (go_at_call 110; refine (impl_isDesk.lit k _ _ y.f0 _ _ y.f1 gb AN nN cN vD vP t _ ?s1 ?s2 ?s3 ?s4 ?s5 HT.out).mono ?_; (case s1 => exact Kd.C_below HI0.out (g5_)); (case s2 => exact HL0.out); (case s3 => exact Kd.C_below HI1.out (g5_)); (case s4 => exact HL1.out); (case s5 => exact blk_below BKD.out (g5_)); rintro e w9 ⟨rfl, hb⟩; rw [HV.out]; have n0_ := Aside0.mk (below_step (g5_) hb); clear HB hb; have HB := n0_; clear n0_)
    go_ret
    exact ⟨by rw [← hr.out]; rfl, g5_⟩
   ·have hr : Aside0 (impl_isDesk.bad k (nN : Int) (l2.drop (j + 1)) (j + 1) = some r) := ⟨by
     by_cases ht : t = true
     ·rw [if_pos ht] at hb2 HX
      rw [if_pos (by simpa using hb2)] at HX
      exact HX
     ·rw [if_neg ht] at hb2; exact absurd rfl hb2⟩
    have HV : Aside0 ((if t = true then ((y.f0.length : Int) != (nN : Int)) else true) = false) := ⟨by simpa using hb2⟩
    clear hb2 HX
    go_wp2_with (go_at_call 110; refine (impl_isDesk.lit k _ _ y.f0 _ _ y.f1 gb AN nN cN vD vP t _ ?s1 ?s2 ?s3 ?s4 ?s5 HT.out).mono ?_; (case s1 => exact Kd.C_below HI0.out (g5_)); (case s2 => exact HL0.out); (case s3 => exact Kd.C_below HI1.out (g5_)); (case s4 => exact HL1.out); (case s5 => exact blk_below BKD.out (g5_)); rintro e w9 ⟨rfl, hb⟩; rw [HV.out]; have n0_ := Aside0.mk (below_step (g5_) hb); clear HB hb; have HB := n0_; clear n0_)
    go_roundg k1
    case measure => omega
    case rel => exact ⟨j + 1, by omega, by go_num, hr, ⟨g5_⟩⟩
  ·obtain rfl : j = n := by omega
   have hr : Aside0 ((-1 : Int) = r) := ⟨by have := HA.out; rw [List.drop_of_length_le (by rw [HN.out]; exact Nat.le_refl _)] at this; exact Option.some.inj this⟩
   have c3b0 : decide ((j : Int) < (j : Int)) = false := decide_eq_false (by omega)
   clear HA
   go_wp2_with fail
   go_ret
   exact ⟨by rw [← hr.out]; rfl, g5_⟩
theorem impl_isDesk.contains (k : Nat) (A2 : Option Addr) (c2 : Nat) (l2 : List S25) (gb : Nat) (AN : Option Addr) (nN cN : Nat) (vD vP : Value) (q : Int) (w : World) (hr2 : Kd.C k25 w A2 l2.length l2) (hc2 : l2.length ≤ c2) (hbk : w.heap[gb]? = some (.cells #[.slice AN nN cN, vD, vP] 28 (0, 0))) (h : impl_isDesk.bad k (nN : Int) l2 0 = some q) :
  Calls Try.prog 109 #[.slice A2 l2.length c2, .func (.func 110) #[] #[.pointer (some ⟨gb, 0, none⟩)]] w fun e w' => e = .returned (.bool (decide (q ≥ 0))) ∧ Below w.heap.size w w' := by
 have HR2 := Aside0.mk hr2
 have BKD := Aside0.mk hbk
 have HB := Aside0.mk (Below.refl w.heap.size w)
 have H := Aside0.mk h
 have HC2 := Aside0.mk hc2
 clear hr2 hbk h hc2
 go_enter Try.func109, Try.ntmps109
 go_wp2_with (go_at_call 127; refine (impl_isDesk.index k A2 c2 l2 gb AN nN cN vD vP q _ ?s1 HC2.out ?s2 H.out).mono ?_; (case s1 => exact Kd.C_below HR2.out (g5_)); (case s2 => exact blk_below BKD.out (g5_)); rintro e w9 ⟨rfl, hb⟩; have n0_ := Aside0.mk (below_step (g5_) hb); clear HB hb; have HB := n0_; clear n0_)
 go_ret
 exact ⟨by rfl, g5_⟩
theorem impl_isDesk.calls_q0 {p : Prop} (h : p := by repeat (first | (with_reducible first | exact HB.out | apply below_alloc | apply pw_below_drewN | apply below_drew1) | exact HB.out)) : p := h
set_option maxHeartbeats 8000000 in
set_option maxRecDepth 100000 in
theorem impl_isDesk.calls (k : Nat) (A0 : Option Addr) (c0 : Nat) (l0 : List Int) (A1 : Option Addr) (c1 : Nat) (l1 : List (List Int)) (A2 : Option Addr) (c2 : Nat) (l2 : List S25) (r : Bool) (w : World) (hr0 : Kd.C (Kd.int .i64) w A0 l0.length l0) (hc0 : l0.length ≤ c0) (hr1 : Kd.C (Kd.slice 3 (Kd.int .i64)) w A1 l1.length l1) (hc1 : l1.length ≤ c1) (hr2 : Kd.C k25 w A2 l2.length l2) (hc2 : l2.length ≤ c2) (h : impl_isDesk.f k l0 l1 l2 = some r) :
  Calls Try.prog 72 #[.agg #[.slice A0 l0.length c0, .slice A1 l1.length c1, .slice A2 l2.length c2]] w fun e w' => e = .returned (.bool r) ∧ Below w.heap.size w w' := by
 have hu := Try.underlying25
 have hu2 := Try.underlying28
 have HR0 := Aside0.mk hr0
 have HR1 := Aside0.mk hr1
 have HR2 := Aside0.mk hr2
 have HC0 := Aside0.mk hc0
 have HC1 := Aside0.mk hc1
 have HC2 := Aside0.mk hc2
 have HB := Aside0.mk (Below.refl w.heap.size w)
 obtain ⟨t, h1, h2⟩ := Option.bind_eq_some_iff.mp (show (impl_isBook.f k l0 l1).bind (fun t => if t = true then (if (l2.length : Int) ≤ 8 then (impl_isDesk.bad k (l0.length : Int) l2 0).bind (fun q => some (!decide (q ≥ 0))) else some false) else some false) = some r from h)
 have HT := Aside0.mk h1
 clear hr0 hr1 hr2 hc0 hc1 hc2 h h1
 by_cases ht : t = true
 ·subst ht
  rw [if_pos rfl] at h2
  by_cases h8 : (l2.length : Int) ≤ 8
  ·rw [if_pos h8] at h2
   obtain ⟨q, h3, h4⟩ := Option.bind_eq_some_iff.mp h2
   have HQ := Aside0.mk h3
   have hr : Aside0 ((!decide (q ≥ 0)) = r) := ⟨Option.some.inj h4⟩
   have c8 : decide ((l2.length : Int) ≤ 8) = true := decide_eq_true h8
   clear h2 h3 h4 h8
   go_enter Try.func72, Try.ntmps72
   go_wp2_with (first | ((with_reducible refine gate_dst (N := 1) rfl ?_); refine bx_ (N := 1) #[.slice A0 l0.length c0, .slice A1 l1.length c1, .slice A2 l2.length c2] 28 ?_; intro gb hg w2 hbox hb; have n1_ := Aside0.mk (below_step HB.out hb); have BK := Aside0.mk hbox; clear HB hbox hg; have HB := n1_; clear n1_ hb; have hcz_0 : w2.cell? ⟨gb, 0, none⟩ = some (.slice A0 l0.length c0) := (blk_cell BK.out 0).trans rfl; have hcz_1 : w2.cell? ⟨gb, 1, none⟩ = some (.slice A1 l1.length c1) := (blk_cell BK.out 1).trans rfl) | ((with_reducible refine gate_callee (f := 73) rfl ?_); refine goesL_ (some 5) rfl rfl Try.func73 k_ rfl #[.agg #[.slice A0 l0.length c0, .slice A1 l1.length c1]] rfl (g14_) ?_; (with_reducible refine (impl_isBook.calls k _ _ l0 _ _ l1 true _ ?side1 ?side2 ?side3 ?side4 HT.out).mono ?_); (case side1 => exact uf3_ HR0); (case side2 => exact HC0.out); (case side3 => exact uf3_ HR1); (case side4 => exact HC1.out); rintro e w3 ⟨rfl, hb⟩; refine ⟨_, rfl, ?_⟩; have n1_ := Aside0.mk (blk_below (uf0_ BK) hb); have n2_ := Aside0.mk (below_step (impl_isDesk.calls_q0) hb); clear BK HB hb; have BK := n1_; have HB := n2_; clear n1_ n2_; have hcy_2 : w3.cell? ⟨gb, 2, none⟩ = some (.slice A2 l2.length c2) := (blk_cell BK.out 2).trans rfl) | (go_at_call 109; refine (impl_isDesk.contains k A2 c2 l2 gb A0 l0.length c0 (.slice A1 l1.length c1) (.slice A2 l2.length c2) q _ ?s1 HC2.out ?s2 HQ.out).mono ?_; (case s1 => exact Kd.C_below HR2.out (impl_isDesk.calls_q0)); (case s2 => (with_reducible repeat (first | refine blk_drewN ?_ _ | refine blk_drew ?_ | refine blk_alloc ?_ _)); exact BK.out); rintro e w9 ⟨rfl, hb⟩; replace HB := Aside0.mk (below_step (impl_isDesk.calls_q0) hb); clear hb))
   go_ret
   exact ⟨by rw [← hr.out]; rfl, impl_isDesk.calls_q0⟩
  ·rw [if_neg h8] at h2
   obtain rfl := Option.some.inj h2
   have c8 : decide ((l2.length : Int) ≤ 8) = false := decide_eq_false h8
   clear h2 h8
   go_enter Try.func72, Try.ntmps72
   go_wp2_with (first | ((with_reducible refine gate_dst (N := 1) rfl ?_); refine bx_ (N := 1) #[.slice A0 l0.length c0, .slice A1 l1.length c1, .slice A2 l2.length c2] 28 ?_; intro gb hg w2 hbox hb; have n1_ := Aside0.mk (below_step HB.out hb); have BK := Aside0.mk hbox; clear HB hbox hg; have HB := n1_; clear n1_ hb; have hcz_0 : w2.cell? ⟨gb, 0, none⟩ = some (.slice A0 l0.length c0) := (blk_cell BK.out 0).trans rfl; have hcz_1 : w2.cell? ⟨gb, 1, none⟩ = some (.slice A1 l1.length c1) := (blk_cell BK.out 1).trans rfl) | ((with_reducible refine gate_callee (f := 73) rfl ?_); refine goesL_ (some 5) rfl rfl Try.func73 k_ rfl #[.agg #[.slice A0 l0.length c0, .slice A1 l1.length c1]] rfl (g14_) ?_; (with_reducible refine (impl_isBook.calls k _ _ l0 _ _ l1 true _ ?side1 ?side2 ?side3 ?side4 HT.out).mono ?_); (case side1 => exact uf3_ HR0); (case side2 => exact HC0.out); (case side3 => exact uf3_ HR1); (case side4 => exact HC1.out); rintro e w3 ⟨rfl, hb⟩; refine ⟨_, rfl, ?_⟩; have n1_ := Aside0.mk (blk_below (uf0_ BK) hb); have n2_ := Aside0.mk (below_step (impl_isDesk.calls_q0) hb); clear BK HB hb; have BK := n1_; have HB := n2_; clear n1_ n2_; have hcy_2 : w3.cell? ⟨gb, 2, none⟩ = some (.slice A2 l2.length c2) := (blk_cell BK.out 2).trans rfl))
   go_ret
   exact ⟨rfl, impl_isDesk.calls_q0⟩
 ·obtain rfl : t = false := by simpa using ht
  rw [if_neg (by decide)] at h2
  obtain rfl := Option.some.inj h2
  clear h2 ht
  go_enter Try.func72, Try.ntmps72
  go_wp2_with (first | ((with_reducible refine gate_dst (N := 1) rfl ?_); refine bx_ (N := 1) #[.slice A0 l0.length c0, .slice A1 l1.length c1, .slice A2 l2.length c2] 28 ?_; intro gb hg w2 hbox hb; have n1_ := Aside0.mk (below_step HB.out hb); have BK := Aside0.mk hbox; clear HB hbox hg; have HB := n1_; clear n1_ hb; have hcz_0 : w2.cell? ⟨gb, 0, none⟩ = some (.slice A0 l0.length c0) := (blk_cell BK.out 0).trans rfl; have hcz_1 : w2.cell? ⟨gb, 1, none⟩ = some (.slice A1 l1.length c1) := (blk_cell BK.out 1).trans rfl) | ((with_reducible refine gate_callee (f := 73) rfl ?_); refine goesL_ (some 5) rfl rfl Try.func73 k_ rfl #[.agg #[.slice A0 l0.length c0, .slice A1 l1.length c1]] rfl (g14_) ?_; (with_reducible refine (impl_isBook.calls k _ _ l0 _ _ l1 false _ ?side1 ?side2 ?side3 ?side4 HT.out).mono ?_); (case side1 => exact uf3_ HR0); (case side2 => exact HC0.out); (case side3 => exact uf3_ HR1); (case side4 => exact HC1.out); rintro e w3 ⟨rfl, hb⟩; refine ⟨_, rfl, ?_⟩; have n1_ := Aside0.mk (blk_below (uf0_ BK) hb); have n2_ := Aside0.mk (below_step (impl_isDesk.calls_q0) hb); clear BK HB hb; have BK := n1_; have HB := n2_; clear n1_ n2_; have hcy_2 : w3.cell? ⟨gb, 2, none⟩ = some (.slice A2 l2.length c2) := (blk_cell BK.out 2).trans rfl))
  go_ret
  exact ⟨rfl, impl_isDesk.calls_q0⟩
def impl_DeskOk.f (k : Nat) (l0_0 : List Int) (l0_1 : List (List Int)) (l0_2 : List (S25)) : Option (Bool) := (impl_isDesk.f k l0_0 l0_1 l0_2).bind fun t166 => (some t166)
theorem impl_DeskOk.mq {p : Prop} (h : p := by
 repeat' first
 | (with_reducible exact impl_isDesk.mono _ _ _ _)
 | (with_reducible exact LeO.refl _)
 | (with_reducible exact LeO.none _)
 | (with_reducible refine LeO.ite ?_ ?_)
 | (with_reducible refine LeO.bind ?_ (fun _ => ?_))
 | exact impl_isDesk.mono _ _ _ _
 | exact LeO.none _
 | refine LeO.ite ?_ ?_
 | refine LeO.bind ?_ (fun _ => ?_)) : p := h
theorem impl_DeskOk.mono : ∀ a0 a1 a2 k, LeO (impl_DeskOk.f k a0 a1 a2) (impl_DeskOk.f (k + 1) a0 a1 a2) := by
 intro a0 a1 a2 k
 unfold impl_DeskOk.f
 exact impl_DeskOk.mq
theorem impl_DeskOk.calls_q0 {p : Prop} (h : p := by repeat (first | (with_reducible first | exact HB.out | apply below_alloc | apply pw_below_drewN | apply below_drew1 | refine below_set ?_ GE165.out) | exact HB.out)) : p := h
set_option maxHeartbeats 8000000 in
set_option maxRecDepth 100000 in
theorem impl_DeskOk.calls (k : Nat) (A0_0 : Option Addr) (c0_0 : Nat) (l0_0 : List Int) (A0_1 : Option Addr) (c0_1 : Nat) (l0_1 : List (List Int)) (A0_2 : Option Addr) (c0_2 : Nat) (l0_2 : List (S25)) (r : Bool) (w : World) (hr0_0 : Kd.C (Kd.int .i64) w A0_0 l0_0.length l0_0) (hc0_0 : l0_0.length ≤ c0_0) (hr0_1 : Kd.C (Kd.slice 3 (Kd.int .i64)) w A0_1 l0_1.length l0_1) (hc0_1 : l0_1.length ≤ c0_1) (hr0_2 : Kd.C k25 w A0_2 l0_2.length l0_2) (hc0_2 : l0_2.length ≤ c0_2) (h : impl_DeskOk.f k l0_0 l0_1 l0_2 = some r) :
  Calls Try.prog 24 #[.agg #[.slice A0_0 l0_0.length c0_0, .slice A0_1 l0_1.length c0_1, .slice A0_2 l0_2.length c0_2]] w fun e w' => e = .returned (.bool r) ∧ Below w.heap.size w w' := by
 have hu28 := Try.underlying28
 have HR0_0 := Aside0.mk hr0_0
 have HC0_0 := Aside0.mk hc0_0
 clear hr0_0 hc0_0
 have HR0_1 := Aside0.mk hr0_1
 have HC0_1 := Aside0.mk hc0_1
 clear hr0_1 hc0_1
 have HR0_2 := Aside0.mk hr0_2
 have HC0_2 := Aside0.mk hc0_2
 clear hr0_2 hc0_2
 have HB := Aside0.mk (Below.refl w.heap.size w)
 have H : ((impl_isDesk.f k l0_0 l0_1 l0_2).bind fun t166 => (some t166)) = some r := h
 clear h
 obtain ⟨t166, A2, H⟩ := bind_ H
 obtain rfl := Option.some.inj H
 go_enter Try.func24, Try.ntmps24
 go_wp2_with (first | ((with_reducible refine gate_dst (N := 1) rfl ?_); refine bx_ (N := 1) #[.slice A0_0 l0_0.length c0_0, .slice A0_1 l0_1.length c0_1, .slice A0_2 l0_2.length c0_2] 28 ?_; intro gb165 hg w3 hbox hb; have BK165 := Aside0.mk (hbox); have GW165 := Aside0.mk ((by rw [hg]; exact (below_size (impl_DeskOk.calls_q0)) : w.heap.size ≤ gb165)); have GE165 := Aside0.mk ((by rw [hg]; exact (below_size (impl_DeskOk.calls_q0)) : w.heap.size ≤ gb165)); replace HB := Aside0.mk (below_step (impl_DeskOk.calls_q0) hb); clear hb hbox hg; obtain ⟨hcz4_0, hcz4_1, hcz4_2, hfz4_0, hfz4_1, hfz4_2⟩ := blk3_ BK165) | ((with_reducible refine gate_callee (f := 72) rfl ?_); refine goesL_ (some 4) rfl rfl Try.func72 k_ rfl #[.agg #[.slice A0_0 l0_0.length c0_0, .slice A0_1 l0_1.length c0_1, .slice A0_2 l0_2.length c0_2]] rfl (g4_) ?_; (with_reducible refine (impl_isDesk.calls k _ _ l0_0 _ _ l0_1 _ _ l0_2 t166 _ ?side1 ?side2 ?side3 ?side4 ?side5 ?side6 A2.out).mono ?_); (case side1 => exact uf3_ HR0_0); (case side2 => exact HC0_0.out); (case side3 => exact uf3_ HR0_1); (case side4 => exact HC0_1.out); (case side5 => exact uf3_ HR0_2); (case side6 => exact HC0_2.out); rintro e w5 ⟨rfl, hb⟩; refine ⟨_, rfl, ?_⟩; replace BK165 := bb_ BK165 hb; replace HB := Aside0.mk (below_step (impl_DeskOk.calls_q0) hb); (try clear hb); (try clear hk hi)))
 go_ret
 exact ⟨g3_, impl_DeskOk.calls_q0⟩
mutual
def impl_owes.l0 : Nat → List Int → List (List Int) → Int → Int → Option (List Int)
 | 0, _, _, _, _ => none
 | k + 1, x3, x13, x14, x15 => if x15 < x14 then (if 0 ≤ x15 then (if x15 < (x13.length : Int) then (impl_owes.l1 k x3 x15 x13 x14 x15 (rd_L1 x13 x15) ((rd_L1 x13 x15).length : Int) 0) else (none)) else (none)) else (some x3)
def impl_owes.l1 : Nat → List Int → Int → List (List Int) → Int → Int → List Int → Int → Int → Option (List Int)
 | 0, _, _, _, _, _, _, _, _ => none
 | k + 1, x3, x4, x13, x14, x15, x20, x21, x22 => if x22 < x21 then (if 0 ≤ x22 then (if x22 < (x20.length : Int) then (if 0 ≤ x4 then (if x4 < (x3.length : Int) then (impl_owes.l1 k (x3.set (x4 : Int).toNat (wrap64 ((rd x3 x4) + (rd x20 x22)))) x4 x13 x14 x15 x20 x21 (wrap64 (x22 + 1))) else (none)) else (none)) else (none)) else (none)) else (impl_owes.l0 k x3 x13 x14 (wrap64 (x15 + 1)))
end
def impl_owes.f (k : Nat) (l0_0 : List Int) (l0_1 : List (List Int)) : Option (List Int) := if 0 ≤ (l0_0.length : Int) then (if ((l0_0.length : Int) : Int).toNat ≤ 35184372088832 then (impl_owes.l0 k (List.replicate ((l0_0.length : Int) : Int).toNat 0) l0_1 (l0_1.length : Int) 0) else (none)) else (none)
theorem impl_owes.mq {p : Prop} (h : p := by
 repeat' first
 | (with_reducible exact ih0 _ _ _ _)
 | (with_reducible exact ih1 _ _ _ _ _ _ _ _)
 | (with_reducible exact LeO.refl _)
 | (with_reducible exact LeO.none _)
 | (with_reducible refine LeO.ite ?_ ?_)
 | (with_reducible refine LeO.bind ?_ (fun _ => ?_))
 | exact ih0 _ _ _ _
 | exact ih1 _ _ _ _ _ _ _ _
 | exact LeO.none _
 | refine LeO.ite ?_ ?_
 | refine LeO.bind ?_ (fun _ => ?_)) : p := h
theorem impl_owes.mono_l : ∀ k, (∀ y0 y1 y2 y3, LeO (impl_owes.l0 k y0 y1 y2 y3) (impl_owes.l0 (k + 1) y0 y1 y2 y3)) ∧ (∀ y0 y1 y2 y3 y4 y5 y6 y7, LeO (impl_owes.l1 k y0 y1 y2 y3 y4 y5 y6 y7) (impl_owes.l1 (k + 1) y0 y1 y2 y3 y4 y5 y6 y7))
 | 0 => ⟨fun _ _ _ _ r h => by simp [impl_owes.l0] at h, fun _ _ _ _ _ _ _ _ r h => by simp [impl_owes.l1] at h⟩
 | k + 1 => by
  obtain ⟨ih0, ih1⟩ := impl_owes.mono_l k
  refine ⟨?_, ?_⟩
  ·intro y0 y1 y2 y3
   unfold impl_owes.l0
   exact impl_owes.mq
  ·intro y0 y1 y2 y3 y4 y5 y6 y7
   unfold impl_owes.l1
   exact impl_owes.mq
theorem impl_owes.mono : ∀ a0 a1 k, LeO (impl_owes.f k a0 a1) (impl_owes.f (k + 1) a0 a1) := by
 intro a0 a1 k
 obtain ⟨ih0, ih1⟩ := impl_owes.mono_l k
 unfold impl_owes.f
 exact impl_owes.mq
theorem impl_owes.calls_q0 {p : Prop} (h : p := by repeat (first | (with_reducible first | exact HB.out | apply below_alloc | apply pw_below_drewN | apply below_drew1 | refine below_set ?_ GE167.out) | exact HB.out)) : p := h
set_option maxHeartbeats 8000000 in
set_option maxRecDepth 100000 in
theorem impl_owes.calls (k : Nat) (A0_0 : Option Addr) (c0_0 : Nat) (l0_0 : List Int) (A0_1 : Option Addr) (c0_1 : Nat) (l0_1 : List (List Int)) (r : List Int) (w : World) (hr0_0 : Kd.C (Kd.int .i64) w A0_0 l0_0.length l0_0) (hc0_0 : l0_0.length ≤ c0_0) (hr0_1 : Kd.C (Kd.slice 3 (Kd.int .i64)) w A0_1 l0_1.length l0_1) (hc0_1 : l0_1.length ≤ c0_1) (h : impl_owes.f k l0_0 l0_1 = some r) :
  Calls Try.prog 74 #[.agg #[.slice A0_0 l0_0.length c0_0, .slice A0_1 l0_1.length c0_1]] w fun e w' => ∃ v0_ : Value, e = .returned (v0_) ∧ Kd.R (Kd.int .i64) 3 w' w.heap.size (fun _ => True) v0_ r ∧ Below w.heap.size w w' := by
 have hu25 := Try.underlying25
 have HR0_0 := Aside0.mk hr0_0
 have HC0_0 := Aside0.mk hc0_0
 clear hr0_0 hc0_0
 have HR0_1 := Aside0.mk hr0_1
 have HC0_1 := Aside0.mk hc0_1
 clear hr0_1 hc0_1
 have HB := Aside0.mk (Below.refl w.heap.size w)
 have H : (if 0 ≤ (l0_0.length : Int) then (if ((l0_0.length : Int) : Int).toNat ≤ 35184372088832 then (impl_owes.l0 k (List.replicate ((l0_0.length : Int) : Int).toNat 0) l0_1 (l0_1.length : Int) 0) else (none)) else (none)) = some r := h
 clear h
 obtain ⟨c2, H⟩ := pos_ H
 have c2b0 := eq_true c2
 have c2b1 := decide_eq_true c2
 clear c2
 obtain ⟨c3, H⟩ := pos_ H
 have c3b0 := eq_true c3
 have c3b1 := decide_eq_true c3
 clear c3
 obtain ⟨y168, hy168⟩ : ∃ y_ : List Int, y_ = (List.replicate ((l0_0.length : Int) : Int).toNat 0) := ⟨_, rfl⟩
 replace H : (impl_owes.l0 k y168 l0_1 (l0_1.length : Int) 0) = some r := by first | (rw [hy168]; with_reducible exact H) | (have H2_ := (Option.bind_some _ _).symm.trans H; rw [hy168]; with_reducible exact H2_) | (have H2_ := (Option.bind_some _ _).symm.trans H; with_reducible exact H2_) | with_reducible exact H | (rw [hy168]; exact H) | exact H
 have Ny168 := Aside0.mk hy168
 clear hy168
 have H' := Aside0.mk H
 clear H
 go_enter Try.func74, Try.ntmps74
 go_wp2_with (first | ((with_reducible refine gate_dst (N := 1) rfl ?_); refine bx_ (N := 1) #[.slice A0_0 l0_0.length c0_0, .slice A0_1 l0_1.length c0_1] 25 ?_; intro gb167 hg w4 hbox hb; have BK167 := Aside0.mk (hbox); have GW167 := Aside0.mk ((by rw [hg]; exact (below_size (impl_owes.calls_q0)) : w.heap.size ≤ gb167)); have GE167 := Aside0.mk ((by rw [hg]; exact (below_size (impl_owes.calls_q0)) : w.heap.size ≤ gb167)); replace HB := Aside0.mk (below_step (impl_owes.calls_q0) hb); clear hb hbox hg; obtain ⟨hcz5_0, hcz5_1, hfz5_0, hfz5_1⟩ := blk2_ BK167) | ((with_reducible refine gate_dst (N := 11) rfl ?_); refine Kd.R_make (Kd.int .i64) _ 3 rfl (N := 11) rfl 22 _ _ rfl (l0_0.length : Int) rfl rfl Try.underlying22 (.int .i64 0) 8 info3 rfl (by decide) (by omega) 0 (ok := fun _ => True) (okp := fun _ => True) rfl (fun _ hk => hk) trivial (of_decide_eq_true (g0_)) (Nat.le_trans (Nat.mul_le_mul_right _ (of_decide_eq_true (g0_) : (l0_0.length : Int).toNat ≤ 35184372088832)) (by omega)) (Below.refl _ _) (Nat.le_refl _) ?_; intro v169 w6 ho7 hb hg_ hnew_; clear hg_ hnew_; (first | rw [← Ny168.out] at ho7 | (simp only [Int.reduceToNat] at ho7; rw [← Ny168.out] at ho7)); have HO170 := Aside0.mk (Kd.R_lower ho7 (below_size (impl_owes.calls_q0))); replace BK167 := bb_ BK167 hb; replace HB := Aside0.mk (below_step (impl_owes.calls_q0) hb); clear hb ho7; obtain ⟨hcz8_0, hcz8_1, hfz8_0, hfz8_1⟩ := blk2_ BK167))
 go_loopg [15] k (fun kq v15 w' => ∃ (x3_1 : List Int) (x15_1 : Int), v15 = .int .i64 x15_1 ∧ Aside0 (impl_owes.l0 kq x3_1 l0_1 (l0_1.length : Int) x15_1 = some r) ∧ Aside0 (kq ≤ k) ∧ Aside0 (Kd.R (Kd.int .i64) 3 w' w.heap.size (fun _ => True) v169 x3_1) ∧ Aside0 (w'.heap[gb167]? = some (.cells #[(.slice A0_0 l0_0.length c0_0), (.slice A0_1 l0_1.length c0_1)] 25 (0, 0))) ∧ Aside0 (Below w.heap.size w w'))
 case atStart => exact ⟨(y168), (0), (g1_), H', ⟨Nat.le_refl _⟩, ⟨uf1_ HO170⟩, ⟨uf0_ BK167⟩, ⟨impl_owes.calls_q0⟩⟩
 case round =>
  clear H'
  try clear c2
  try clear c2b0
  try clear c2b1
  try clear p2
  try clear c3
  try clear c3b0
  try clear c3b1
  try clear c7
  try clear hcz5_0
  try clear hcz5_1
  try clear hcz8_0
  try clear hcz8_1
  try clear hfz5_0
  try clear hfz5_1
  try clear hfz8_0
  try clear hfz8_1
  obtain ⟨x3_1, x15_1, rfl, HA, HK1, HO_3, BK167, HB⟩ := hrel
  cases gk with
  | zero => exact absurd HA.out (by simp [impl_owes.l0])
  | succ k1 =>
   have H := HA.out
   clear HA
   simp only [impl_owes.l0] at H
   by_cases c9 : x15_1 < (l0_1.length : Int)
   ·rw [if_pos c9] at H
    have c9b0 := decide_eq_true c9
    clear c9
    obtain ⟨c10, H⟩ := pos_ H
    have c10b0 := decide_eq_true c10
    clear c10
    obtain ⟨c11, H⟩ := pos_ H
    have c11b0 := decide_eq_true c11
    clear c11
    have H' := Aside0.mk H
    clear H
    have p171 : 0 ≤ (x15_1 : Int) := of_decide_eq_true (g0_)
    have q171 : x15_1 < (l0_1.length : Int) := of_decide_eq_true (g0_)
    obtain ⟨ad171, A171_0, c171_0, e171, hx171_0, hl171_0, hi171_0⟩ := at_L1 HR0_1.out x15_1 p171 q171
    cases e171
    replace hx171_0 := cl_ HB hx171_0
    have HR171_0 := Aside0.mk hi171_0
    have HC171_0 := Aside0.mk hl171_0
    clear hi171_0 hl171_0
    replace p171 := eq_true p171
    replace q171 := eq_true q171
    go_wp2
    go_loopg [22] k1 (fun kq v22 w' => ∃ (x3_2 : List Int) (x22_2 : Int), v22 = .int .i64 x22_2 ∧ Aside0 (impl_owes.l1 kq x3_2 x15_1 l0_1 (l0_1.length : Int) x15_1 (rd_L1 l0_1 x15_1) ((rd_L1 l0_1 x15_1).length : Int) x22_2 = some r) ∧ Aside0 (kq ≤ k1) ∧ Aside0 (Kd.R (Kd.int .i64) 3 w' w.heap.size (fun _ => True) v169 x3_2) ∧ Aside0 (w'.heap[gb167]? = some (.cells #[(.slice A0_0 l0_0.length c0_0), (.slice (some ad171) l0_1.length c0_1)] 25 (0, 0))) ∧ Aside0 (Below w.heap.size w w'))
    case atStart => exact ⟨(x3_1), (0), (g1_), H', ⟨Nat.le_refl _⟩, ⟨uf1_ HO_3⟩, ⟨uf0_ BK167⟩, ⟨impl_owes.calls_q0⟩⟩
    case round =>
     clear H'
     try clear c1
     try clear p1
     try clear q1
     try clear hx1
     try clear c2
     try clear c2b0
     try clear c2b1
     try clear p2
     try clear c3
     try clear c3b0
     try clear c3b1
     try clear c7
     try clear c9
     try clear c9b0
     try clear c10
     try clear c10b0
     try clear c11
     try clear c11b0
     try clear hcz5_0
     try clear hcz5_1
     try clear hcz8_0
     try clear hcz8_1
     try clear hfz5_0
     try clear hfz5_1
     try clear hfz8_0
     try clear hfz8_1
     try clear hx171_0
     try clear p171
     try clear p2
     try clear q171
     obtain ⟨x3_2, x22_2, rfl, HA, HK2, HO_3, BK167, HB⟩ := hrel
     cases gk with
     | zero => exact absurd HA.out (by simp [impl_owes.l1])
     | succ k2 =>
      have H := HA.out
      clear HA
      simp only [impl_owes.l1] at H
      by_cases c12 : x22_2 < ((rd_L1 l0_1 x15_1).length : Int)
      ·rw [if_pos c12] at H
       have c12b0 := decide_eq_true c12
       clear c12
       obtain ⟨c13, H⟩ := pos_ H
       have c13b0 := decide_eq_true c13
       clear c13
       obtain ⟨c14, H⟩ := pos_ H
       have c14b0 := decide_eq_true c14
       clear c14
       obtain ⟨c15, H⟩ := pos_ H
       have c15b0 := decide_eq_true c15
       clear c15
       obtain ⟨c16, H⟩ := pos_ H
       have c16b0 := decide_eq_true c16
       clear c16
       obtain ⟨y174, hy174⟩ : ∃ y_ : List Int, y_ = (x3_2.set (x15_1 : Int).toNat (wrap64 ((rd x3_2 x15_1) + (rd (rd_L1 l0_1 x15_1) x22_2)))) := ⟨_, rfl⟩
       replace H : (impl_owes.l1 k2 y174 x15_1 l0_1 (l0_1.length : Int) x15_1 (rd_L1 l0_1 x15_1) ((rd_L1 l0_1 x15_1).length : Int) (wrap64 (x22_2 + 1))) = some r := by first | (rw [hy174]; with_reducible exact H) | (have H2_ := (Option.bind_some _ _).symm.trans H; rw [hy174]; with_reducible exact H2_) | (have H2_ := (Option.bind_some _ _).symm.trans H; with_reducible exact H2_) | with_reducible exact H | (rw [hy174]; exact H) | exact H
       have Ny174 := Aside0.mk hy174
       clear hy174
       have H' := Aside0.mk H
       clear H
       have p172 : 0 ≤ (x22_2 : Int) := of_decide_eq_true (g0_)
       have q172 : x22_2 < ((rd_L1 l0_1 x15_1).length : Int) := of_decide_eq_true (g0_)
       obtain ⟨ad172, e172, hx172_0⟩ := Kd.at_int HR171_0.out x22_2 p172 q172
       cases e172
       replace hx172_0 := cl_ HB hx172_0
       replace p172 := eq_true p172
       replace q172 := eq_true q172
       obtain ⟨Ao18, co18, eo18⟩ := Kd.R_slice HO_3.out
       subst eo18
       have p173 : 0 ≤ (x15_1 : Int) := of_decide_eq_true (g0_)
       have q173 : x15_1 < (x3_2.length : Int) := of_decide_eq_true (g0_)
       obtain ⟨ad173, e173, hx173_0⟩ := Kd.at_int (Kd.R_reads' HO_3.out).2.2 x15_1 p173 q173
       cases e173
       replace p173 := eq_true p173
       replace q173 := eq_true q173
       have p17 : 0 ≤ (x15_1 : Int) := of_decide_eq_true (g0_)
       have q17 : (x15_1 : Int) < ((x3_2.length : Int) : Int) := of_decide_eq_true (g0_)
       obtain ⟨go17, co17, eo17, gb17, gl17, cl17, HG17⟩ := Kd.R_form HO_3.out (by omega)
       (first | cases eo17 | (injection eo17 with ea_ en_ ec_; (first | subst ea_ | (injection ea_ with ea_; subst ea_)); subst ec_; clear en_))
       have GB17 := Aside0.mk gb17
       have GG17 := Aside0.mk HG17
       clear gb17 gl17 HG17
       (first | simp only [add_plain] at hx173_0 | skip)
       obtain ⟨hx17_0, hf17_0⟩ := Kd.R_celln 0 HO_3.out (x15_1 : Int) p17 q17
       replace p17 := eq_true p17
       replace q17 := eq_true q17
       have HP19 := Kd.R_putg HO_3.out (x15_1 : Int) (wrap64 ((rd x3_2 x15_1) + (rd (rd_L1 l0_1 x15_1) x22_2)))
       go_wp2_with (first | ((with_reducible refine gate_store (t := 3) (p := 32) rfl ?_); refine store_event (t := 3) (p := 32) (v := ?vo_w20) (w1 := (wr.setCell ⟨go17, (x15_1 : Int).toNat, none⟩ (.int .i64 (wrap64 ((rd x3_2 x15_1) + (rd (rd_L1 l0_1 x15_1) x22_2)))))) ?hg ?ho ?hn ?hr ?_; (case ho => rfl); (case hg => rfl); (case hn => rfl); (case hr => first | (go_simp; done) | (go_simp; rfl)); intro w20 hw; have hg : wr.grownBy w20 (some go17) := (by rw [hw]; exact HP19.2); have hp_ : Kd.R (Kd.int .i64) 3 w20 w.heap.size (fun _ => True) (.slice (some ⟨go17, 0, none⟩) x3_2.length co18) y174 := (by rw [hw, Ny174.out]; exact HP19.1); clear HP19; replace BK167 := Aside0.mk (blk_grown (g := gb167) (o := .cells #[.slice A0_0 l0_0.length c0_0, .slice (some ad171) l0_1.length c0_1] 25 (0, 0)) (uf0_ BK167) hg (Kd.R_ne HO_3.out BK167.out (by decide))); replace HO_3 := Aside0.mk (hp_); replace HB := Aside0.mk ((by rw [hw]; exact below_set (HB.out) GB17.out : Below w.heap.size w w20)); clear hg hw hp_))
       go_roundg k2
       case measure => have := HK1.out; have := HK2.out; omega
       case rel => exact ⟨(y174), (wrap64 (x22_2 + 1)), (g1_), H', ⟨by have := HK1.out; have := HK2.out; omega⟩, ⟨uf1_ HO_3⟩, ⟨uf0_ BK167⟩, ⟨impl_owes.calls_q0⟩⟩
      ·rw [if_neg c12] at H
       have c12b0 := decide_eq_false c12
       clear c12
       have H' := Aside0.mk H
       clear H
       go_wp2
       go_roundg k2
       case measure => have := HK1.out; have := HK2.out; omega
       case rel => exact ⟨(x3_2), (wrap64 (x15_1 + 1)), (g1_), H', ⟨by have := HK1.out; have := HK2.out; omega⟩, ⟨uf1_ HO_3⟩, ⟨uf0_ BK167⟩, ⟨impl_owes.calls_q0⟩⟩
   ·rw [if_neg c9] at H
    have c9b0 := decide_eq_false c9
    clear c9
    obtain rfl := Option.some.inj H
    go_wp2
    go_ret
    exact ⟨_, g3_, uf1_ HO_3, impl_owes.calls_q0⟩
def impl_AllDebts.l0 : Nat → Int → List Int → Int → Int → Option (Int)
 | 0, _, _, _, _ => none
 | k + 1, x3, x10, x11, x12 => if x12 < x11 then (if 0 ≤ x12 then (if x12 < (x10.length : Int) then (impl_AllDebts.l0 k (wrap64 (x3 + (rd x10 x12))) x10 x11 (wrap64 (x12 + 1))) else (none)) else (none)) else (some x3)
def impl_AllDebts.f (k : Nat) (l0_0 : List Int) (l0_1 : List (List Int)) : Option (Int) := (impl_isBook.f k l0_0 l0_1).bind fun t176 => (if t176 = true then ((impl_owes.f k l0_0 l0_1).bind fun t177 => (impl_AllDebts.l0 k 0 t177 (t177.length : Int) 0)) else (some (-1)))
theorem impl_AllDebts.mq {p : Prop} (h : p := by
 repeat' first
 | (with_reducible exact ih0 _ _ _ _)
 | (with_reducible exact impl_isBook.mono _ _ _)
 | (with_reducible exact impl_owes.mono _ _ _)
 | (with_reducible exact LeO.refl _)
 | (with_reducible exact LeO.none _)
 | (with_reducible refine LeO.ite ?_ ?_)
 | (with_reducible refine LeO.bind ?_ (fun _ => ?_))
 | exact ih0 _ _ _ _
 | exact impl_isBook.mono _ _ _
 | exact impl_owes.mono _ _ _
 | exact LeO.none _
 | refine LeO.ite ?_ ?_
 | refine LeO.bind ?_ (fun _ => ?_)) : p := h
theorem impl_AllDebts.mono_l : ∀ k, (∀ y0 y1 y2 y3, LeO (impl_AllDebts.l0 k y0 y1 y2 y3) (impl_AllDebts.l0 (k + 1) y0 y1 y2 y3))
 | 0 => fun _ _ _ _ r h => by simp [impl_AllDebts.l0] at h
 | k + 1 => by
  have ih0 := impl_AllDebts.mono_l k
  ·intro y0 y1 y2 y3
   unfold impl_AllDebts.l0
   exact impl_AllDebts.mq
theorem impl_AllDebts.mono : ∀ a0 a1 k, LeO (impl_AllDebts.f k a0 a1) (impl_AllDebts.f (k + 1) a0 a1) := by
 intro a0 a1 k
 have ih0 := impl_AllDebts.mono_l k
 unfold impl_AllDebts.f
 exact impl_AllDebts.mq
theorem impl_AllDebts.calls_q0 {p : Prop} (h : p := by repeat (first | (with_reducible first | exact HB.out | apply below_alloc | apply pw_below_drewN | apply below_drew1 | refine below_set ?_ GE175.out) | exact HB.out)) : p := h
set_option maxHeartbeats 8000000 in
set_option maxRecDepth 100000 in
theorem impl_AllDebts.calls (k : Nat) (A0_0 : Option Addr) (c0_0 : Nat) (l0_0 : List Int) (A0_1 : Option Addr) (c0_1 : Nat) (l0_1 : List (List Int)) (r : Int) (w : World) (hr0_0 : Kd.C (Kd.int .i64) w A0_0 l0_0.length l0_0) (hc0_0 : l0_0.length ≤ c0_0) (hr0_1 : Kd.C (Kd.slice 3 (Kd.int .i64)) w A0_1 l0_1.length l0_1) (hc0_1 : l0_1.length ≤ c0_1) (h : impl_AllDebts.f k l0_0 l0_1 = some r) :
  Calls Try.prog 25 #[.agg #[.slice A0_0 l0_0.length c0_0, .slice A0_1 l0_1.length c0_1]] w fun e w' => e = .returned (.int .i64 r) ∧ Below w.heap.size w w' := by
 have hu25 := Try.underlying25
 have HR0_0 := Aside0.mk hr0_0
 have HC0_0 := Aside0.mk hc0_0
 clear hr0_0 hc0_0
 have HR0_1 := Aside0.mk hr0_1
 have HC0_1 := Aside0.mk hc0_1
 clear hr0_1 hc0_1
 have HB := Aside0.mk (Below.refl w.heap.size w)
 have H : ((impl_isBook.f k l0_0 l0_1).bind fun t176 => (if t176 = true then ((impl_owes.f k l0_0 l0_1).bind fun t177 => (impl_AllDebts.l0 k 0 t177 (t177.length : Int) 0)) else (some (-1)))) = some r := h
 clear h
 obtain ⟨t176, A2, H⟩ := bind_ H
 by_cases c3 : t176 = true
 ·subst c3
  replace H := ifp_ H
  obtain ⟨t177, A4, H⟩ := bind_ H
  have H' := Aside0.mk H
  clear H
  go_enter Try.func25, Try.ntmps25
  go_wp2_with (first | ((with_reducible refine gate_dst (N := 1) rfl ?_); refine bx_ (N := 1) #[.slice A0_0 l0_0.length c0_0, .slice A0_1 l0_1.length c0_1] 25 ?_; intro gb175 hg w5 hbox hb; have BK175 := Aside0.mk (hbox); have GW175 := Aside0.mk ((g19_ : w.heap.size ≤ gb175)); have GE175 := Aside0.mk ((g19_ : w.heap.size ≤ gb175)); replace HB := Aside0.mk (below_step (impl_AllDebts.calls_q0) hb); clear hb hbox hg; obtain ⟨hcz6_0, hcz6_1, hfz6_0, hfz6_1⟩ := blk2_ BK175) | ((with_reducible refine gate_callee (f := 73) rfl ?_); refine goesL_ (some 7) rfl rfl Try.func73 k_ rfl #[.agg #[.slice A0_0 l0_0.length c0_0, .slice A0_1 l0_1.length c0_1]] rfl (g4_) ?_; (with_reducible refine (impl_isBook.calls k _ _ l0_0 _ _ l0_1 true _ ?side1 ?side2 ?side3 ?side4 A2.out).mono ?_); (case side1 => exact uf3_ HR0_0); (case side2 => exact HC0_0.out); (case side3 => exact uf3_ HR0_1); (case side4 => exact HC0_1.out); rintro e w7 ⟨rfl, hb⟩; refine ⟨_, rfl, ?_⟩; replace BK175 := bb_ BK175 hb; replace HB := Aside0.mk (below_step (impl_AllDebts.calls_q0) hb); (try clear hb); (try clear hk hi); obtain ⟨hcz8_0, hcz8_1, hfz8_0, hfz8_1⟩ := blk2_ BK175) | ((with_reducible refine gate_callee (f := 74) rfl ?_); refine goesL_ (some 10) rfl rfl Try.func74 k_ rfl #[.agg #[.slice A0_0 l0_0.length c0_0, .slice A0_1 l0_1.length c0_1]] rfl (g4_) ?_; (with_reducible refine (impl_owes.calls k _ _ l0_0 _ _ l0_1 t177 _ ?side1 ?side2 ?side3 ?side4 A4.out).mono ?_); (case side1 => exact uf3_ HR0_0); (case side2 => exact HC0_0.out); (case side3 => exact uf3_ HR0_1); (case side4 => exact HC0_1.out); rintro e w9 ⟨v178, rfl, ho0, hb⟩; refine ⟨_, rfl, ?_⟩; have HO179 := Aside0.mk (Kd.R_lower ho0 (below_size (impl_AllDebts.calls_q0))); replace BK175 := bb_ BK175 hb; replace HB := Aside0.mk (below_step (impl_AllDebts.calls_q0) hb); (try clear hb); (try clear hk hi); (try clear ho0); obtain ⟨Ao10, co10, eo10⟩ := Kd.R_slice HO179.out; subst eo10))
  go_loopg [3, 12] k (fun kq v3 v12 w' => ∃ (x3_1 : Int) (x12_1 : Int), v3 = .int .i64 x3_1 ∧ v12 = .int .i64 x12_1 ∧ Aside0 (impl_AllDebts.l0 kq x3_1 t177 (t177.length : Int) x12_1 = some r) ∧ Aside0 (kq ≤ k) ∧ Aside0 (Kd.R (Kd.int .i64) 3 w' w.heap.size (fun _ => True) (.slice Ao10 t177.length co10) t177) ∧ Aside0 (w'.heap[gb175]? = some (.cells #[(.slice A0_0 l0_0.length c0_0), (.slice A0_1 l0_1.length c0_1)] 25 (0, 0))) ∧ Aside0 (Below w.heap.size w w'))
  case atStart => exact ⟨(0), (0), (g1_), (g1_), H', ⟨Nat.le_refl _⟩, ⟨uf1_ HO179⟩, ⟨uf0_ BK175⟩, ⟨impl_AllDebts.calls_q0⟩⟩
  case round =>
   clear H'
   try clear c2
   try clear p2
   try clear c3
   try clear c7
   try clear hcz6_0
   try clear hcz6_1
   try clear hcz8_0
   try clear hcz8_1
   try clear hfz6_0
   try clear hfz6_1
   try clear hfz8_0
   try clear hfz8_1
   obtain ⟨x3_1, x12_1, rfl, rfl, HA, HK1, HO_10, BK175, HB⟩ := hrel
   cases gk with
   | zero => exact absurd HA.out (by simp [impl_AllDebts.l0])
   | succ k1 =>
    have H := HA.out
    clear HA
    simp only [impl_AllDebts.l0] at H
    by_cases c11 : x12_1 < (t177.length : Int)
    ·rw [if_pos c11] at H
     have c11b0 := decide_eq_true c11
     clear c11
     obtain ⟨c12, H⟩ := pos_ H
     have c12b0 := decide_eq_true c12
     clear c12
     obtain ⟨c13, H⟩ := pos_ H
     have c13b0 := decide_eq_true c13
     clear c13
     have H' := Aside0.mk H
     clear H
     have p180 : 0 ≤ (x12_1 : Int) := of_decide_eq_true (g0_)
     have q180 : x12_1 < (t177.length : Int) := of_decide_eq_true (g0_)
     obtain ⟨ad180, e180, hx180_0⟩ := Kd.at_int (Kd.R_reads' HO_10.out).2.2 x12_1 p180 q180
     cases e180
     replace p180 := eq_true p180
     replace q180 := eq_true q180
     go_wp2
     go_roundg k1
     case measure => have := HK1.out; omega
     case rel => exact ⟨(wrap64 (x3_1 + (rd t177 x12_1))), (wrap64 (x12_1 + 1)), (g1_), (g1_), H', ⟨g11_⟩, ⟨uf1_ HO_10⟩, ⟨uf0_ BK175⟩, ⟨impl_AllDebts.calls_q0⟩⟩
    ·rw [if_neg c11] at H
     have c11b0 := decide_eq_false c11
     clear c11
     obtain rfl := Option.some.inj H
     go_wp2
     go_ret
     exact ⟨g3_, impl_AllDebts.calls_q0⟩
 ·replace c3 := Bool.eq_false_iff.mpr c3
  subst c3
  replace H := ifn_ H
  obtain rfl := Option.some.inj H
  go_enter Try.func25, Try.ntmps25
  go_wp2_with (first | ((with_reducible refine gate_dst (N := 1) rfl ?_); refine bx_ (N := 1) #[.slice A0_0 l0_0.length c0_0, .slice A0_1 l0_1.length c0_1] 25 ?_; intro gb175 hg w14 hbox hb; have BK175 := Aside0.mk (hbox); have GW175 := Aside0.mk ((g19_ : w.heap.size ≤ gb175)); have GE175 := Aside0.mk ((g19_ : w.heap.size ≤ gb175)); replace HB := Aside0.mk (below_step (impl_AllDebts.calls_q0) hb); clear hb hbox hg; obtain ⟨hcz15_0, hcz15_1, hfz15_0, hfz15_1⟩ := blk2_ BK175) | ((with_reducible refine gate_callee (f := 73) rfl ?_); refine goesL_ (some 7) rfl rfl Try.func73 k_ rfl #[.agg #[.slice A0_0 l0_0.length c0_0, .slice A0_1 l0_1.length c0_1]] rfl (g4_) ?_; (with_reducible refine (impl_isBook.calls k _ _ l0_0 _ _ l0_1 false _ ?side1 ?side2 ?side3 ?side4 A2.out).mono ?_); (case side1 => exact uf3_ HR0_0); (case side2 => exact HC0_0.out); (case side3 => exact uf3_ HR0_1); (case side4 => exact HC0_1.out); rintro e w16 ⟨rfl, hb⟩; refine ⟨_, rfl, ?_⟩; replace BK175 := bb_ BK175 hb; replace HB := Aside0.mk (below_step (impl_AllDebts.calls_q0) hb); (try clear hb); (try clear hk hi)))
  go_ret
  exact ⟨g3_, impl_AllDebts.calls_q0⟩
def laws_sumOf.l0 : Nat → List Int → Int → Int → Option (Int)
 | 0, _, _, _ => none
 | k + 1, x0, x3, x4 => if x4 < (x0.length : Int) then (if 0 ≤ x4 then (laws_sumOf.l0 k x0 (wrap64 (x3 + (rd x0 x4))) (wrap64 (x4 + 1))) else (none)) else (some x3)
def laws_sumOf.f (k : Nat) (l0 : List Int) : Option (Int) := laws_sumOf.l0 k l0 0 0
theorem laws_sumOf.mq {p : Prop} (h : p := by
 repeat' first
 | (with_reducible exact ih0 _ _ _)
 | (with_reducible exact LeO.refl _)
 | (with_reducible exact LeO.none _)
 | (with_reducible refine LeO.ite ?_ ?_)
 | (with_reducible refine LeO.bind ?_ (fun _ => ?_))
 | exact ih0 _ _ _
 | exact LeO.none _
 | refine LeO.ite ?_ ?_
 | refine LeO.bind ?_ (fun _ => ?_)) : p := h
theorem laws_sumOf.mono_l : ∀ k, (∀ y0 y1 y2, LeO (laws_sumOf.l0 k y0 y1 y2) (laws_sumOf.l0 (k + 1) y0 y1 y2))
 | 0 => fun _ _ _ r h => by simp [laws_sumOf.l0] at h
 | k + 1 => by
  have ih0 := laws_sumOf.mono_l k
  ·intro y0 y1 y2
   unfold laws_sumOf.l0
   exact laws_sumOf.mq
theorem laws_sumOf.mono : ∀ a0 k, LeO (laws_sumOf.f k a0) (laws_sumOf.f (k + 1) a0) := by
 intro a0 k
 have ih0 := laws_sumOf.mono_l k
 unfold laws_sumOf.f
 exact laws_sumOf.mq
set_option maxHeartbeats 8000000 in
set_option maxRecDepth 100000 in
theorem laws_sumOf.calls (k : Nat) (A0 : Option Addr) (c0 : Nat) (l0 : List Int) (r : Int) (w : World) (hr0 : Kd.C (Kd.int .i64) w A0 l0.length l0) (hc0 : l0.length ≤ c0) (h : laws_sumOf.f k l0 = some r) :
  Calls Try.prog 26 #[.slice A0 l0.length c0] w fun e w' => e = .returned (.int .i64 r) ∧ Drawn0 w w' := by
 have HR0 := Aside0.mk hr0
 have HC0 := Aside0.mk hc0
 clear hr0 hc0
 have H : (laws_sumOf.l0 k l0 0 0) = some r := h
 clear h
 have H' := Aside0.mk H
 clear H
 go_enter Try.func26, Try.ntmps26
 go_wp2
 go_loopg [3, 4] k (fun kq v3 v4 w' => ∃ (x3_1 : Int) (x4_1 : Int), v3 = .int .i64 x3_1 ∧ v4 = .int .i64 x4_1 ∧ Aside0 (laws_sumOf.l0 kq l0 x3_1 x4_1 = some r) ∧ Aside0 (kq ≤ k) ∧ Drawn0 w w')
 case atStart => exact ⟨(0), (0), (g1_), (g1_), H', ⟨Nat.le_refl _⟩, g6_⟩
 case round =>
  clear H'
  obtain ⟨x3_1, x4_1, rfl, rfl, HA, HK1, ⟨m1, rfl⟩⟩ := hrel
  cases gk with
  | zero => exact absurd HA.out (by simp [laws_sumOf.l0])
  | succ k1 =>
   have H := HA.out
   clear HA
   simp only [laws_sumOf.l0] at H
   by_cases c2 : x4_1 < (l0.length : Int)
   ·rw [if_pos c2] at H
    have c2b0 := decide_eq_true c2
    clear c2
    obtain ⟨c3, H⟩ := pos_ H
    have c3b0 := decide_eq_true c3
    clear c3
    have H' := Aside0.mk H
    clear H
    have p181 : 0 ≤ (x4_1 : Int) := of_decide_eq_true (g0_)
    have q181 : x4_1 < (l0.length : Int) := of_decide_eq_true (g0_)
    obtain ⟨ad181, e181, hx181_0⟩ := Kd.at_int HR0.out x4_1 p181 q181
    cases e181
    replace p181 := eq_true p181
    replace q181 := eq_true q181
    go_wp2
    go_roundg k1
    case measure => have := HK1.out; omega
    case rel => exact ⟨(wrap64 (x3_1 + (rd l0 x4_1))), (wrap64 (x4_1 + 1)), (g1_), (g1_), H', ⟨g11_⟩, g6_⟩
   ·rw [if_neg c2] at H
    have c2b0 := decide_eq_false c2
    clear c2
    obtain rfl := Option.some.inj H
    go_wp2
    go_ret
    exact ⟨g1_, g6_⟩
def laws_FnDeskNew.j0 : Nat → Bool → List Int → List (List Int) → List (S25) → Option (Bool)
 | 0, _, _, _, _ => none
 | k + 1, x22, x193000, x193001, x193002 => if x22 = true then ((laws_noDesk.f k x193000 x193001 x193002).bind fun t203 => (if t203 = true then ((laws_alive.f k).bind fun t204 => (some t204)) else (some false))) else ((impl_DeskOk.f k x193000 x193001 x193002).bind fun t205 => (if t205 = true then ((impl_AllDebts.f k x193000 x193001).bind fun t206 => (if t206 = 0 then (if (x193002.length : Int) = 0 then ((laws_sumOf.f k x193000).bind fun t207 => (some (t207 == 0))) else (some false)) else (some false))) else (some false)))
def laws_FnDeskNew.f (k : Nat) (l0 : List Int) : Option (Bool) := if (l0.length : Int) > 1048576 then (some true) else ((spec_DrawDeskNew.f k l0).bind fun t182 => ((impl_DeskNew.f k t182).bind fun bt183 => ((spec_DeskNew.f k t182).bind fun bt193 => ((laws_sameDesk.f k bt183.1 bt183.2.1 bt183.2.2 bt193.1 bt193.2.1 bt193.2.2).bind fun t202 => (if t202 = true then (if t182 < 1 then (laws_FnDeskNew.j0 k true bt183.1 bt183.2.1 bt183.2.2) else (laws_FnDeskNew.j0 k (decide (t182 > 4)) bt183.1 bt183.2.1 bt183.2.2)) else (some false))))))
theorem laws_FnDeskNew.mq {p : Prop} (h : p := by
 repeat' first
 | (with_reducible exact ih0 _ _ _ _)
 | (with_reducible exact impl_AllDebts.mono _ _ _)
 | (with_reducible exact impl_DeskNew.mono _ _)
 | (with_reducible exact impl_DeskOk.mono _ _ _ _)
 | (with_reducible exact laws_alive.mono _)
 | (with_reducible exact laws_noDesk.mono _ _ _ _)
 | (with_reducible exact laws_sameDesk.mono _ _ _ _ _ _ _)
 | (with_reducible exact laws_sumOf.mono _ _)
 | (with_reducible exact spec_DeskNew.mono _ _)
 | (with_reducible exact spec_DrawDeskNew.mono _ _)
 | (with_reducible exact LeO.refl _)
 | (with_reducible exact LeO.none _)
 | (with_reducible refine LeO.ite ?_ ?_)
 | (with_reducible refine LeO.bind ?_ (fun _ => ?_))
 | exact ih0 _ _ _ _
 | exact impl_AllDebts.mono _ _ _
 | exact impl_DeskNew.mono _ _
 | exact impl_DeskOk.mono _ _ _ _
 | exact laws_alive.mono _
 | exact laws_noDesk.mono _ _ _ _
 | exact laws_sameDesk.mono _ _ _ _ _ _ _
 | exact laws_sumOf.mono _ _
 | exact spec_DeskNew.mono _ _
 | exact spec_DrawDeskNew.mono _ _
 | exact LeO.none _
 | refine LeO.ite ?_ ?_
 | refine LeO.bind ?_ (fun _ => ?_)) : p := h
theorem laws_FnDeskNew.mono_l : ∀ k, (∀ y0 y1 y2 y3, LeO (laws_FnDeskNew.j0 k y0 y1 y2 y3) (laws_FnDeskNew.j0 (k + 1) y0 y1 y2 y3))
 | 0 => fun _ _ _ _ r h => by simp [laws_FnDeskNew.j0] at h
 | k + 1 => by
  have ih0 := laws_FnDeskNew.mono_l k
  ·intro y0 y1 y2 y3
   unfold laws_FnDeskNew.j0
   exact laws_FnDeskNew.mq
theorem laws_FnDeskNew.mono : ∀ a0 k, LeO (laws_FnDeskNew.f k a0) (laws_FnDeskNew.f (k + 1) a0) := by
 intro a0 k
 have ih0 := laws_FnDeskNew.mono_l k
 unfold laws_FnDeskNew.f
 exact laws_FnDeskNew.mq
theorem laws_FnDeskNew.calls_q0 {p : Prop} (h : p := by repeat (first | (with_reducible first | exact HB.out | apply below_alloc | apply pw_below_drewN | apply below_drew1 | refine below_set ?_ GE192.out) | exact HB.out)) : p := h
set_option maxHeartbeats 8000000 in
set_option maxRecDepth 100000 in
theorem laws_FnDeskNew.calls (k : Nat) (A0 : Option Addr) (c0 : Nat) (l0 : List Int) (r : Bool) (w : World) (hr0 : Kd.C (Kd.int .u8) w A0 l0.length l0) (hc0 : l0.length ≤ c0) (h : laws_FnDeskNew.f k l0 = some r) :
  Calls Try.prog 4 #[.slice A0 l0.length c0] w fun e w' => e = .returned (.bool r) ∧ Below w.heap.size w w' := by
 have hu28 := Try.underlying28
 have hu25 := Try.underlying25
 have HR0 := Aside0.mk hr0
 have HC0 := Aside0.mk hc0
 clear hr0 hc0
 have HB := Aside0.mk (Below.refl w.heap.size w)
 have H : (if (l0.length : Int) > 1048576 then (some true) else ((spec_DrawDeskNew.f k l0).bind fun t182 => ((impl_DeskNew.f k t182).bind fun bt183 => ((spec_DeskNew.f k t182).bind fun bt193 => ((laws_sameDesk.f k bt183.1 bt183.2.1 bt183.2.2 bt193.1 bt193.2.1 bt193.2.2).bind fun t202 => (if t202 = true then (if t182 < 1 then (laws_FnDeskNew.j0 k true bt183.1 bt183.2.1 bt183.2.2) else (laws_FnDeskNew.j0 k (decide (t182 > 4)) bt183.1 bt183.2.1 bt183.2.2)) else (some false))))))) = some r := h
 clear h
 by_cases c2 : (l0.length : Int) > 1048576
 ·rw [if_pos c2] at H
  have c2b0 := decide_eq_true c2
  have c2b1 : decide (1048576 < l0.length) = true := decide_eq_true (by omega)
  clear c2
  obtain rfl := Option.some.inj H
  go_enter Try.func4, Try.ntmps4
  go_wp2
  go_ret
  exact ⟨g3_, laws_FnDeskNew.calls_q0⟩
 ·rw [if_neg c2] at H
  have c2b0 := decide_eq_false c2
  have c2b1 : decide (1048576 < l0.length) = false := decide_eq_false (by omega)
  clear c2
  obtain ⟨t182, A3, H⟩ := bind_ H
  replace H := Option.bind_eq_some_iff.mp H
  obtain ⟨⟨t183, t186, t189⟩, A40, H⟩ := H
  replace H : ((spec_DeskNew.f k t182).bind fun bt193 => ((laws_sameDesk.f k t183 t186 t189 bt193.1 bt193.2.1 bt193.2.2).bind fun t202 => (if t202 = true then (if t182 < 1 then (laws_FnDeskNew.j0 k true t183 t186 t189) else (laws_FnDeskNew.j0 k (decide (t182 > 4)) t183 t186 t189)) else (some false)))) = some r := H
  have A4 := Aside0.mk A40
  clear A40
  replace H := Option.bind_eq_some_iff.mp H
  obtain ⟨⟨t193, t196, t199⟩, A50, H⟩ := H
  replace H : ((laws_sameDesk.f k t183 t186 t189 t193 t196 t199).bind fun t202 => (if t202 = true then (if t182 < 1 then (laws_FnDeskNew.j0 k true t183 t186 t189) else (laws_FnDeskNew.j0 k (decide (t182 > 4)) t183 t186 t189)) else (some false))) = some r := H
  have A5 := Aside0.mk A50
  clear A50
  obtain ⟨t202, A6, H⟩ := bind_ H
  by_cases c7 : t202 = true
  ·subst c7
   replace H := ifp_ H
   have HC8 := Aside0.mk H
   clear H
   go_enter Try.func4, Try.ntmps4
   try go_wp2_with (first | ((with_reducible refine gate_callee (f := 20) rfl ?_); refine goesL_ (some 9) rfl rfl Try.func20 k_ rfl #[.slice A0 l0.length c0] rfl (g4_) ?_; (with_reducible refine (spec_DrawDeskNew.calls k _ _ l0 t182 _ ?side1 ?side2 A3.out).mono ?_); (case side1 => repeat (first | exact HR0.out | (with_reducible refine Kd.C_alloc ?_ _) | (with_reducible refine Kd.C_drewN ?_ _) | (with_reducible refine Kd.C_drew ?_))); (case side2 => exact HC0.out); rintro e w9 ⟨rfl, hb⟩; refine ⟨_, rfl, ?_⟩; replace HB := Aside0.mk (below_step (laws_FnDeskNew.calls_q0) hb); (try clear hb); (try clear hk hi)) | ((with_reducible refine gate_callee (f := 16) rfl ?_); refine goesL_ (some 11) rfl rfl Try.func16 k_ rfl #[.int .i64 t182] rfl (g4_) ?_; (with_reducible refine (impl_DeskNew.calls k t182 t183 t186 t189 _ A4.out).mono ?_); rintro e w10 ⟨v184, v187, v190, rfl, ho0, ho1, ho2, hb⟩; refine ⟨_, rfl, ?_⟩; have HO185 := Aside0.mk (Kd.R_lower ho0 (below_size (laws_FnDeskNew.calls_q0))); have HO188 := Aside0.mk (Kd.S_lower ho1 (below_size (laws_FnDeskNew.calls_q0))); have HO191 := Aside0.mk (Kd.R_lower ho2 (below_size (laws_FnDeskNew.calls_q0))); replace HB := Aside0.mk (below_step (laws_FnDeskNew.calls_q0) hb); (try clear hb); (try clear hk hi); (try clear ho0); (try clear ho1); (try clear ho2)) | ((with_reducible refine gate_dst (N := 4) rfl ?_); (try (refine gate_guard (by rfl) ?_; dsimp only)); refine bx_ (N := 4) #[.slice none 0 0, .slice none 0 0, .slice none 0 0] 28 ?_; intro gb192 hg w11 hbox hb; replace HO185 := Aside0.mk (Kd.R_below (uf1_ HO185) hb); replace HO188 := Aside0.mk (Kd.S_below (uf2_ HO188) hb); replace HO191 := Aside0.mk (Kd.R_below (uf1_ HO191) hb); have BK192 := Aside0.mk (hbox); have GW192 := Aside0.mk ((g20_ : w.heap.size ≤ gb192)); have GE192 := Aside0.mk ((g20_ : w.heap.size ≤ gb192)); replace HB := Aside0.mk (below_step (laws_FnDeskNew.calls_q0) hb); clear hb hbox hg; obtain ⟨Ao12, co12, eo12⟩ := Kd.R_slice HO185.out; subst eo12; obtain ⟨hcz13_0, hcz13_1, hcz13_2, hfz13_0, hfz13_1, hfz13_2⟩ := blk3_ BK192; obtain ⟨Ao14, co14, eo14⟩ := Kd.S_slice HO188.out; subst eo14; obtain ⟨Ao15, co15, eo15⟩ := Kd.R_slice HO191.out; subst eo15))
   have n0_ : Aside0 (Kd.R (Kd.int .i64) 3 (((w11.setCell ⟨gb192, 0, none⟩ (.slice Ao12 t183.length co12)).setCell ⟨gb192, 1, none⟩ (.slice Ao14 t186.length co14)).setCell ⟨gb192, 2, none⟩ (.slice Ao15 t189.length co15)) w.heap.size (fun _ => True) (.slice Ao12 t183.length co12) t183) := ⟨by (with_reducible repeat (first | apply Kd.R_alloc | apply Kd.R_drewN | apply Kd.R_drew)); exact Kd.R_mono (Kd.R_far (p := ⟨gb192, 2, none⟩) (Kd.R_far (p := ⟨gb192, 1, none⟩) (Kd.R_far (p := ⟨gb192, 0, none⟩) (Kd.R_types HO185.out BK192.out (by decide)) (fun _ hk => hk.2) (.slice Ao12 t183.length co12)) (fun _ hk => hk.2) (.slice Ao14 t186.length co14)) (fun _ hk => hk.2) (.slice Ao15 t189.length co15)) (fun _ hk => trivial)⟩
   have n1_ : Aside0 (Kd.S (Kd.slice 3 (Kd.int .i64)) 22 (((w11.setCell ⟨gb192, 0, none⟩ (.slice Ao12 t183.length co12)).setCell ⟨gb192, 1, none⟩ (.slice Ao14 t186.length co14)).setCell ⟨gb192, 2, none⟩ (.slice Ao15 t189.length co15)) w.heap.size (fun k_ => some k_ ≠ (.slice Ao12 t183.length co12 : Value).ownBlock) (.slice Ao14 t186.length co14) t186) := ⟨by (with_reducible repeat (first | apply Kd.S_alloc | apply Kd.S_drewN | apply Kd.S_drew)); exact Kd.S_mono (Kd.S_far (p := ⟨gb192, 2, none⟩) (Kd.S_far (p := ⟨gb192, 1, none⟩) (Kd.S_far (p := ⟨gb192, 0, none⟩) (Kd.S_types HO188.out BK192.out (by decide)) (fun _ hk => hk.2) (.slice Ao12 t183.length co12)) (fun _ hk => hk.2) (.slice Ao14 t186.length co14)) (fun _ hk => hk.2) (.slice Ao15 t189.length co15)) (fun _ hk => hk.1)⟩
   have n2_ : Aside0 (Kd.R k25 25 (((w11.setCell ⟨gb192, 0, none⟩ (.slice Ao12 t183.length co12)).setCell ⟨gb192, 1, none⟩ (.slice Ao14 t186.length co14)).setCell ⟨gb192, 2, none⟩ (.slice Ao15 t189.length co15)) w.heap.size (fun k_ => some k_ ≠ (.slice Ao12 t183.length co12 : Value).ownBlock ∧ some k_ ≠ (.slice Ao14 t186.length co14 : Value).ownBlock) (.slice Ao15 t189.length co15) t189) := ⟨by (with_reducible repeat (first | apply Kd.R_alloc | apply Kd.R_drewN | apply Kd.R_drew)); exact Kd.R_mono (Kd.R_far (p := ⟨gb192, 2, none⟩) (Kd.R_far (p := ⟨gb192, 1, none⟩) (Kd.R_far (p := ⟨gb192, 0, none⟩) (Kd.R_types HO191.out BK192.out (by decide)) (fun _ hk => hk.2) (.slice Ao12 t183.length co12)) (fun _ hk => hk.2) (.slice Ao14 t186.length co14)) (fun _ hk => hk.2) (.slice Ao15 t189.length co15)) (fun _ hk => ⟨hk.1.1, hk.1.2⟩)⟩
   have n3_ : Aside0 ((((w11.setCell ⟨gb192, 0, none⟩ (.slice Ao12 t183.length co12)).setCell ⟨gb192, 1, none⟩ (.slice Ao14 t186.length co14)).setCell ⟨gb192, 2, none⟩ (.slice Ao15 t189.length co15)).heap[gb192]? = some (.cells #[.slice Ao12 t183.length co12, .slice Ao14 t186.length co14, .slice Ao15 t189.length co15] 28 (0, 0))) := ⟨by (with_reducible repeat (first | refine blk_drewN ?_ _ | refine blk_drew ?_ | refine blk_alloc ?_ _)); refine blk_put (cs := #[.slice Ao12 t183.length co12, .slice Ao14 t186.length co14, .slice none 0 0]) ?_ 2 _ rfl; (with_reducible repeat (first | refine blk_drewN ?_ _ | refine blk_drew ?_ | refine blk_alloc ?_ _)); refine blk_put (cs := #[.slice Ao12 t183.length co12, .slice none 0 0, .slice none 0 0]) ?_ 1 _ rfl; (with_reducible repeat (first | refine blk_drewN ?_ _ | refine blk_drew ?_ | refine blk_alloc ?_ _)); refine blk_put (cs := #[.slice none 0 0, .slice none 0 0, .slice none 0 0]) ?_ 0 _ rfl; (with_reducible repeat (first | refine blk_drewN ?_ _ | refine blk_drew ?_ | refine blk_alloc ?_ _)); exact BK192.out⟩
   have n4_ : Aside0 (Below w.heap.size w (((w11.setCell ⟨gb192, 0, none⟩ (.slice Ao12 t183.length co12)).setCell ⟨gb192, 1, none⟩ (.slice Ao14 t186.length co14)).setCell ⟨gb192, 2, none⟩ (.slice Ao15 t189.length co15))) := ⟨laws_FnDeskNew.calls_q0⟩
   (try clear HO185)
   (try clear HO188)
   (try clear HO191)
   (try clear BK192)
   (try clear HB)
   generalize (((w11.setCell ⟨gb192, 0, none⟩ (.slice Ao12 t183.length co12)).setCell ⟨gb192, 1, none⟩ (.slice Ao14 t186.length co14)).setCell ⟨gb192, 2, none⟩ (.slice Ao15 t189.length co15)) = w16 at n0_ n1_ n2_ n3_ n4_ ⊢
   have HO185 := n0_
   have HO188 := n1_
   have HO191 := n2_
   have BK192 := n3_
   have HB := n4_
   clear n0_ n1_ n2_ n3_ n4_
   replace HO185 := Aside0.mk (Kd.R_drew HO185.out)
   replace HO188 := Aside0.mk (Kd.S_drew HO188.out)
   replace HO191 := Aside0.mk (Kd.R_drew HO191.out)
   replace BK192 := Aside0.mk (blk_drew BK192.out)
   replace HB := Aside0.mk (below_drew1 HB.out)
   refine start_ (n := 5) (S := fun w' => w'.cell? ⟨gb192, 0, none⟩ = some (.slice Ao12 t183.length co12) ∧ w'.cell? ⟨gb192, 1, none⟩ = some (.slice Ao14 t186.length co14) ∧ w'.cell? ⟨gb192, 2, none⟩ = some (.slice Ao15 t189.length co15)) (ds := []) (tl_ 5 0) (g2_) rfl (g2_) ⟨(blk_cell BK192.out 0).trans rfl, (blk_cell BK192.out 1).trans rfl, (blk_cell BK192.out 2).trans rfl⟩ (fun hHeld => ?_)
   generalize w16.drew = w17 at HO185 HO188 HO191 BK192 HB hHeld ⊢
   refine pure_ (i := 1) (N := some 13) (v := ?_) (a' := ?_) (tl_ 5 2) rfl rfl (g2_) (fun _ _ _ h => h) (Or.inl ⟨by rfl, ?_⟩) ?_ ?_
   rotate_left
   ·intro w'
    go_simp
    with_reducible rfl
   rotate_left
   ·simp only [Act.put, List.setIfInBounds_toArray, List.set_cons_zero, List.set_cons_succ, i64_w, i32_w]
    rfl
   refine take_ (i := 0) (N := some 12) (v := ?_) (a' := ?_) (tl_ 5 3) rfl rfl (g2_) (fun _ _ _ h => h) (Or.inl ⟨by rfl, ?_⟩) hHeld ?_ ?_
   rotate_left
   ·rintro w' ⟨s0, s1, s2⟩
    go_simp
    with_reducible rfl
   rotate_left
   ·simp only [Act.put, List.setIfInBounds_toArray, List.set_cons_zero, List.set_cons_succ, i64_w, i32_w]
    rfl
   refine one_ (i := 2) (N := some 14) (tl_ 5 7) rfl rfl (g2_) (by decide) (fun K hK => ?_)
   refine goes_ Try.func15 (g2_) rfl #[.int .i64 t182] (by rfl) rfl rfl (g4_) ?_
   with_reducible refine (spec_DeskNew.calls k t182 t193 t196 t199 _ A5.out).mono ?_
   rintro e w18 ⟨v194, v197, v200, rfl, ho0, ho1, ho2, hb⟩
   refine ⟨_, rfl, ?_⟩
   have HO195 := Aside0.mk (Kd.R_lower (Kd.R_new' ho0 (Kd.R_lt (uf1_ HO185))) (below_size (laws_FnDeskNew.calls_q0)))
   have HO198 := Aside0.mk (Kd.S_lower (Kd.S_new' (Kd.S_new' ho1 (Kd.R_lt (uf1_ HO185))) (Kd.S_lt (uf2_ HO188))) (below_size (laws_FnDeskNew.calls_q0)))
   have HO201 := Aside0.mk (Kd.R_lower (Kd.R_new' (Kd.R_new' (Kd.R_new' ho2 (Kd.R_lt (uf1_ HO185))) (Kd.S_lt (uf2_ HO188))) (Kd.R_lt (uf1_ HO191))) (below_size (laws_FnDeskNew.calls_q0)))
   replace HO185 := Aside0.mk (Kd.R_elder' (uf1_ HO185) (Kd.R_base ho0) hb)
   replace HO188 := Aside0.mk (Kd.S_mono (Kd.S_told (Kd.S_told (Kd.S_old (uf2_ HO188) hb) (Kd.R_base ho0)) (Kd.S_base ho1)) (fun _ h_ => h_.1))
   replace HO191 := Aside0.mk (Kd.R_mono (Kd.R_told (Kd.R_told (Kd.R_told (Kd.R_old (uf1_ HO191) hb) (Kd.R_base ho0)) (Kd.S_base ho1)) (Kd.R_base ho2)) (fun _ h_ => h_.1))
   replace BK192 := bb_ BK192 hb
   replace HB := Aside0.mk (below_step (laws_FnDeskNew.calls_q0) hb)
   (try clear hb)
   (try clear hk hi)
   (try clear ho0)
   (try clear ho1)
   (try clear ho2)
   obtain ⟨Ao19, co19, eo19⟩ := Kd.R_slice HO195.out
   (first | subst eo19 | (injection eo19 with f1_ f2_ f3_; have f4_ := f1_.symm; have f5_ := f3_.symm; clear f1_ f2_ f3_; subst f4_; subst f5_))
   obtain ⟨Ao20, co20, eo20⟩ := Kd.S_slice HO198.out
   (first | subst eo20 | (injection eo20 with f1_ f2_ f3_; have f4_ := f1_.symm; have f5_ := f3_.symm; clear f1_ f2_ f3_; subst f4_; subst f5_))
   obtain ⟨Ao21, co21, eo21⟩ := Kd.R_slice HO201.out
   (first | subst eo21 | (injection eo21 with f1_ f2_ f3_; have f4_ := f1_.symm; have f5_ := f3_.symm; clear f1_ f2_ f3_; subst f4_; subst f5_))
   refine hK.out _ _ ⟨(blk_cell BK192.out 0).trans rfl, (blk_cell BK192.out 1).trans rfl, (blk_cell BK192.out 2).trans rfl⟩ (fun hHeld => ?_)
   clear hK K
   refine nm_ ?_
   refine one_ (i := 3) (N := some 15) (tl_ 5 15) rfl rfl (g2_) (by decide) (fun K hK => ?_)
   refine goes_ Try.func21 (g2_) rfl #[.agg #[.slice Ao12 t183.length co12, .slice Ao14 t186.length co14, .slice Ao15 t189.length co15], .agg #[.slice Ao19 t193.length co19, .slice Ao20 t196.length co20, .slice Ao21 t199.length co21]] (by rfl) rfl rfl (g4_) ?_
   with_reducible refine (laws_sameDesk.calls k _ _ t183 _ _ t186 _ _ t189 _ _ t193 _ _ t196 _ _ t199 true _ ?side1 ?side2 ?side3 ?side4 ?side5 ?side6 ?side7 ?side8 ?side9 ?side10 ?side11 ?side12 A6.out).mono ?_
   (case side1 => repeat (first | exact (Kd.R_reads' HO185.out).2.2 | (with_reducible refine Kd.C_alloc ?_ _) | (with_reducible refine Kd.C_drewN ?_ _) | (with_reducible refine Kd.C_drew ?_)))
   (case side2 => exact (Kd.R_reads' HO185.out).2.1)
   (case side3 => repeat (first | exact (Kd.S_reads' HO188.out).2.2 | (with_reducible refine Kd.C_alloc ?_ _) | (with_reducible refine Kd.C_drewN ?_ _) | (with_reducible refine Kd.C_drew ?_)))
   (case side4 => exact (Kd.S_reads' HO188.out).2.1)
   (case side5 => repeat (first | exact (Kd.R_reads' HO191.out).2.2 | (with_reducible refine Kd.C_alloc ?_ _) | (with_reducible refine Kd.C_drewN ?_ _) | (with_reducible refine Kd.C_drew ?_)))
   (case side6 => exact (Kd.R_reads' HO191.out).2.1)
   (case side7 => repeat (first | exact (Kd.R_reads' HO195.out).2.2 | (with_reducible refine Kd.C_alloc ?_ _) | (with_reducible refine Kd.C_drewN ?_ _) | (with_reducible refine Kd.C_drew ?_)))
   (case side8 => exact (Kd.R_reads' HO195.out).2.1)
   (case side9 => repeat (first | exact (Kd.S_reads' HO198.out).2.2 | (with_reducible refine Kd.C_alloc ?_ _) | (with_reducible refine Kd.C_drewN ?_ _) | (with_reducible refine Kd.C_drew ?_)))
   (case side10 => exact (Kd.S_reads' HO198.out).2.1)
   (case side11 => repeat (first | exact (Kd.R_reads' HO201.out).2.2 | (with_reducible refine Kd.C_alloc ?_ _) | (with_reducible refine Kd.C_drewN ?_ _) | (with_reducible refine Kd.C_drew ?_)))
   (case side12 => exact (Kd.R_reads' HO201.out).2.1)
   rintro e w22 ⟨rfl, hb⟩
   refine ⟨_, rfl, ?_⟩
   replace HO185 := Aside0.mk (Kd.R_below (uf1_ HO185) hb)
   replace HO188 := Aside0.mk (Kd.S_below (uf2_ HO188) hb)
   replace HO191 := Aside0.mk (Kd.R_below (uf1_ HO191) hb)
   replace HO195 := Aside0.mk (Kd.R_below (uf1_ HO195) hb)
   replace HO198 := Aside0.mk (Kd.S_below (uf2_ HO198) hb)
   replace HO201 := Aside0.mk (Kd.R_below (uf1_ HO201) hb)
   replace BK192 := bb_ BK192 hb
   replace HB := Aside0.mk (below_step (laws_FnDeskNew.calls_q0) hb)
   (try clear hb)
   (try clear hk hi)
   refine hK.out _ _ ⟨(blk_cell BK192.out 0).trans rfl, (blk_cell BK192.out 1).trans rfl, (blk_cell BK192.out 2).trans rfl⟩ (fun hHeld => ?_)
   clear hK K
   refine nm_ ?_
   refine pure_ (i := 4) (N := some 16) (v := ?_) (a' := ?_) (tl_ 5 31) rfl rfl (g2_) (fun _ _ _ h => h) (Or.inl ⟨by rfl, ?_⟩) ?_ ?_
   rotate_left
   ·intro w'
    go_simp
    with_reducible rfl
   rotate_left
   ·simp only [Act.put, List.setIfInBounds_toArray, List.set_cons_zero, List.set_cons_succ, i64_w, i32_w]
    rfl
   refine done_ (g2_) ?_
   go_upto_region 7 with (fail)
   go_cut [22] (fun v22 wc => ∃ (kq : Nat) (x22_7 : Bool), v22 = .bool x22_7 ∧ Aside0 (laws_FnDeskNew.j0 kq x22_7 t183 t186 t189 = some r) ∧ Aside0 (kq ≤ k) ∧ Aside0 (Kd.R (Kd.int .i64) 3 wc w.heap.size (fun _ => True) (.slice Ao12 t183.length co12) t183) ∧ Aside0 (Kd.S (Kd.slice 3 (Kd.int .i64)) 22 wc w.heap.size (fun k_ => some k_ ≠ ((.slice Ao12 t183.length co12) : Value).ownBlock) (.slice Ao14 t186.length co14) t186) ∧ Aside0 (Kd.R k25 25 wc w.heap.size (fun k_ => some k_ ≠ ((.slice Ao12 t183.length co12) : Value).ownBlock ∧ some k_ ≠ ((.slice Ao14 t186.length co14) : Value).ownBlock) (.slice Ao15 t189.length co15) t189) ∧ Aside0 (wc.heap[gb192]? = some (.cells #[(.slice Ao12 t183.length co12), (.slice Ao14 t186.length co14), (.slice Ao15 t189.length co15)] 28 (0, 0))) ∧ Aside0 (Below w.heap.size w wc))
   case first =>
    have H := HC8.out
    clear HC8
    by_cases c23 : t182 < 1
    ·rw [if_pos c23] at H
     have c23b0 := decide_eq_true c23
     clear c23
     (first | rw [c23b0] | (simp only [i64_w, i32_w]; rw [c23b0]) | skip)
     have H' := Aside0.mk H
     clear H
     go_wp2
     go_meet
     case rel => exact ⟨_, (true), (g1_), H', ⟨g7_⟩, ⟨by (with_reducible repeat (first | apply Kd.R_alloc | apply Kd.R_drewN | apply Kd.R_drew)); exact Kd.R_mono HO185.out (fun _ hk => trivial)⟩, ⟨by (with_reducible repeat (first | apply Kd.S_alloc | apply Kd.S_drewN | apply Kd.S_drew)); exact Kd.S_mono HO188.out (fun _ hk => hk.1.1)⟩, ⟨by (with_reducible repeat (first | apply Kd.R_alloc | apply Kd.R_drewN | apply Kd.R_drew)); exact Kd.R_mono HO191.out (fun _ hk => ⟨hk.1.1.1.1, hk.1.1.1.2⟩)⟩, ⟨uf0_ BK192⟩, ⟨laws_FnDeskNew.calls_q0⟩⟩
    ·rw [if_neg c23] at H
     have c23b0 := decide_eq_false c23
     clear c23
     (first | rw [c23b0] | (simp only [i64_w, i32_w]; rw [c23b0]) | skip)
     have H' := Aside0.mk H
     clear H
     go_wp2
     go_meet
     case rel => exact ⟨_, (decide (t182 > 4)), (g1_), H', ⟨g7_⟩, ⟨by (with_reducible repeat (first | apply Kd.R_alloc | apply Kd.R_drewN | apply Kd.R_drew)); exact Kd.R_mono HO185.out (fun _ hk => trivial)⟩, ⟨by (with_reducible repeat (first | apply Kd.S_alloc | apply Kd.S_drewN | apply Kd.S_drew)); exact Kd.S_mono HO188.out (fun _ hk => hk.1.1)⟩, ⟨by (with_reducible repeat (first | apply Kd.R_alloc | apply Kd.R_drewN | apply Kd.R_drew)); exact Kd.R_mono HO191.out (fun _ hk => ⟨hk.1.1.1.1, hk.1.1.1.2⟩)⟩, ⟨uf0_ BK192⟩, ⟨laws_FnDeskNew.calls_q0⟩⟩
   case rest =>
    clear HC8
    try clear c1
    try clear c2
    try clear c2b0
    try clear c2b1
    try clear p2
    try clear c4
    try clear c7
    try clear c15
    try clear c16
    try clear c20
    try clear c21
    try clear c23
    try clear c23b0
    try clear hcz13_0
    try clear hcz13_1
    try clear hcz13_2
    try clear hfz13_0
    try clear hfz13_1
    try clear hfz13_2
    obtain ⟨kq, x22_7, rfl, HA, HJ7, HO_193000, HO_193001, HO_193002, BK192, HB⟩ := hcut
    cases kq with
    | zero => exact absurd HA.out (by simp [laws_FnDeskNew.j0])
    | succ kj7 =>
     have H := HA.out
     clear HA
     simp only [laws_FnDeskNew.j0] at H
     by_cases c24 : x22_7 = true
     ·subst c24
      replace H := ifp_ H
      obtain ⟨t203, A25, H⟩ := bind_ H
      by_cases c26 : t203 = true
      ·subst c26
       replace H := ifp_ H
       obtain ⟨t204, A27, H⟩ := bind_ H
       obtain rfl := Option.some.inj H
       obtain ⟨hcz28_0, hcz28_1, hcz28_2, hfz28_0, hfz28_1, hfz28_2⟩ := blk3_ BK192
       go_wp2_with (first | ((with_reducible refine gate_callee (f := 22) rfl ?_); refine goesL_ (some 24) rfl rfl Try.func22 k_ rfl #[.agg #[.slice Ao12 t183.length co12, .slice Ao14 t186.length co14, .slice Ao15 t189.length co15]] rfl (g4_) ?_; (with_reducible refine (laws_noDesk.calls kj7 _ _ t183 _ _ t186 _ _ t189 true _ ?side1 ?side2 ?side3 ?side4 ?side5 ?side6 A25.out).mono ?_); (case side1 => repeat (first | exact (Kd.R_reads' HO_193000.out).2.2 | (with_reducible refine Kd.C_alloc ?_ _) | (with_reducible refine Kd.C_drewN ?_ _) | (with_reducible refine Kd.C_drew ?_))); (case side2 => exact (Kd.R_reads' HO_193000.out).2.1); (case side3 => repeat (first | exact (Kd.S_reads' HO_193001.out).2.2 | (with_reducible refine Kd.C_alloc ?_ _) | (with_reducible refine Kd.C_drewN ?_ _) | (with_reducible refine Kd.C_drew ?_))); (case side4 => exact (Kd.S_reads' HO_193001.out).2.1); (case side5 => repeat (first | exact (Kd.R_reads' HO_193002.out).2.2 | (with_reducible refine Kd.C_alloc ?_ _) | (with_reducible refine Kd.C_drewN ?_ _) | (with_reducible refine Kd.C_drew ?_))); (case side6 => exact (Kd.R_reads' HO_193002.out).2.1); rintro e w29 ⟨rfl, hb⟩; refine ⟨_, rfl, ?_⟩; replace HO_193000 := Aside0.mk (Kd.R_below (uf1_ HO_193000) hb); replace HO_193001 := Aside0.mk (Kd.S_below (uf2_ HO_193001) hb); replace HO_193002 := Aside0.mk (Kd.R_below (uf1_ HO_193002) hb); replace BK192 := bb_ BK192 hb; replace HB := Aside0.mk (below_step (laws_FnDeskNew.calls_q0) hb); (try clear hb); (try clear hk hi)) | (go_at_call 23; (with_reducible refine (laws_alive.calls kj7  t204 _ A27.out).mono ?_); rintro e w30 ⟨rfl, hb⟩; replace HO_193000 := Aside0.mk (Kd.R_below (uf1_ HO_193000) hb); replace HO_193001 := Aside0.mk (Kd.S_below (uf2_ HO_193001) hb); replace HO_193002 := Aside0.mk (Kd.R_below (uf1_ HO_193002) hb); replace BK192 := bb_ BK192 hb; replace HB := Aside0.mk (below_step (laws_FnDeskNew.calls_q0) hb); (try clear hb); (try clear hk hi)))
       go_ret
       exact ⟨g3_, laws_FnDeskNew.calls_q0⟩
      ·replace c26 := Bool.eq_false_iff.mpr c26
       subst c26
       replace H := ifn_ H
       obtain rfl := Option.some.inj H
       obtain ⟨hcz31_0, hcz31_1, hcz31_2, hfz31_0, hfz31_1, hfz31_2⟩ := blk3_ BK192
       go_wp2_with (first | ((with_reducible refine gate_callee (f := 22) rfl ?_); refine goesL_ (some 24) rfl rfl Try.func22 k_ rfl #[.agg #[.slice Ao12 t183.length co12, .slice Ao14 t186.length co14, .slice Ao15 t189.length co15]] rfl (g4_) ?_; (with_reducible refine (laws_noDesk.calls kj7 _ _ t183 _ _ t186 _ _ t189 false _ ?side1 ?side2 ?side3 ?side4 ?side5 ?side6 A25.out).mono ?_); (case side1 => repeat (first | exact (Kd.R_reads' HO_193000.out).2.2 | (with_reducible refine Kd.C_alloc ?_ _) | (with_reducible refine Kd.C_drewN ?_ _) | (with_reducible refine Kd.C_drew ?_))); (case side2 => exact (Kd.R_reads' HO_193000.out).2.1); (case side3 => repeat (first | exact (Kd.S_reads' HO_193001.out).2.2 | (with_reducible refine Kd.C_alloc ?_ _) | (with_reducible refine Kd.C_drewN ?_ _) | (with_reducible refine Kd.C_drew ?_))); (case side4 => exact (Kd.S_reads' HO_193001.out).2.1); (case side5 => repeat (first | exact (Kd.R_reads' HO_193002.out).2.2 | (with_reducible refine Kd.C_alloc ?_ _) | (with_reducible refine Kd.C_drewN ?_ _) | (with_reducible refine Kd.C_drew ?_))); (case side6 => exact (Kd.R_reads' HO_193002.out).2.1); rintro e w32 ⟨rfl, hb⟩; refine ⟨_, rfl, ?_⟩; replace HO_193000 := Aside0.mk (Kd.R_below (uf1_ HO_193000) hb); replace HO_193001 := Aside0.mk (Kd.S_below (uf2_ HO_193001) hb); replace HO_193002 := Aside0.mk (Kd.R_below (uf1_ HO_193002) hb); replace BK192 := bb_ BK192 hb; replace HB := Aside0.mk (below_step (laws_FnDeskNew.calls_q0) hb); (try clear hb); (try clear hk hi)))
       go_ret
       exact ⟨g3_, laws_FnDeskNew.calls_q0⟩
     ·replace c24 := Bool.eq_false_iff.mpr c24
      subst c24
      replace H := ifn_ H
      obtain ⟨t205, A33, H⟩ := bind_ H
      by_cases c34 : t205 = true
      ·subst c34
       replace H := ifp_ H
       obtain ⟨t206, A35, H⟩ := bind_ H
       by_cases c36 : t206 = 0
       ·rw [if_pos c36] at H
        have c36b0 : (t206 == 0) = true := beq_iff_eq.mpr c36
        have c36b1 : (t206 != 0) = false := bne_eq_false_iff_eq.mpr c36
        clear c36
        by_cases c37 : (t189.length : Int) = 0
        ·rw [if_pos c37] at H
         have c37b0 : ((t189.length : Int) == 0) = true := beq_iff_eq.mpr c37
         have c37b1 : ((t189.length : Int) != 0) = false := bne_eq_false_iff_eq.mpr c37
         clear c37
         obtain ⟨t207, A38, H⟩ := bind_ H
         obtain rfl := Option.some.inj H
         obtain ⟨hcz39_0, hcz39_1, hcz39_2, hfz39_0, hfz39_1, hfz39_2⟩ := blk3_ BK192
         go_wp2_with (first | ((with_reducible refine gate_callee (f := 24) rfl ?_); refine goesL_ (some 29) rfl rfl Try.func24 k_ rfl #[.agg #[.slice Ao12 t183.length co12, .slice Ao14 t186.length co14, .slice Ao15 t189.length co15]] rfl (g4_) ?_; (with_reducible refine (impl_DeskOk.calls kj7 _ _ t183 _ _ t186 _ _ t189 true _ ?side1 ?side2 ?side3 ?side4 ?side5 ?side6 A33.out).mono ?_); (case side1 => repeat (first | exact (Kd.R_reads' HO_193000.out).2.2 | (with_reducible refine Kd.C_alloc ?_ _) | (with_reducible refine Kd.C_drewN ?_ _) | (with_reducible refine Kd.C_drew ?_))); (case side2 => exact (Kd.R_reads' HO_193000.out).2.1); (case side3 => repeat (first | exact (Kd.S_reads' HO_193001.out).2.2 | (with_reducible refine Kd.C_alloc ?_ _) | (with_reducible refine Kd.C_drewN ?_ _) | (with_reducible refine Kd.C_drew ?_))); (case side4 => exact (Kd.S_reads' HO_193001.out).2.1); (case side5 => repeat (first | exact (Kd.R_reads' HO_193002.out).2.2 | (with_reducible refine Kd.C_alloc ?_ _) | (with_reducible refine Kd.C_drewN ?_ _) | (with_reducible refine Kd.C_drew ?_))); (case side6 => exact (Kd.R_reads' HO_193002.out).2.1); rintro e w40 ⟨rfl, hb⟩; refine ⟨_, rfl, ?_⟩; replace HO_193000 := Aside0.mk (Kd.R_below (uf1_ HO_193000) hb); replace HO_193001 := Aside0.mk (Kd.S_below (uf2_ HO_193001) hb); replace HO_193002 := Aside0.mk (Kd.R_below (uf1_ HO_193002) hb); replace BK192 := bb_ BK192 hb; replace HB := Aside0.mk (below_step (laws_FnDeskNew.calls_q0) hb); (try clear hb); (try clear hk hi); obtain ⟨hcz41_0, hcz41_1, hcz41_2, hfz41_0, hfz41_1, hfz41_2⟩ := blk3_ BK192) | (go_at_call 25; (with_reducible refine (impl_AllDebts.calls kj7 _ _ t183 _ _ t186 t206 _ ?side1 ?side2 ?side3 ?side4 A35.out).mono ?_); (case side1 => repeat (first | exact (Kd.R_reads' HO_193000.out).2.2 | (with_reducible refine Kd.C_alloc ?_ _) | (with_reducible refine Kd.C_drewN ?_ _) | (with_reducible refine Kd.C_drew ?_))); (case side2 => exact (Kd.R_reads' HO_193000.out).2.1); (case side3 => repeat (first | exact (Kd.S_reads' HO_193001.out).2.2 | (with_reducible refine Kd.C_alloc ?_ _) | (with_reducible refine Kd.C_drewN ?_ _) | (with_reducible refine Kd.C_drew ?_))); (case side4 => exact (Kd.S_reads' HO_193001.out).2.1); rintro e w42 ⟨rfl, hb⟩; replace HO_193000 := Aside0.mk (Kd.R_below (uf1_ HO_193000) hb); replace HO_193001 := Aside0.mk (Kd.S_below (uf2_ HO_193001) hb); replace HO_193002 := Aside0.mk (Kd.R_below (uf1_ HO_193002) hb); replace BK192 := bb_ BK192 hb; replace HB := Aside0.mk (below_step (laws_FnDeskNew.calls_q0) hb); (try clear hb); (try clear hk hi); obtain ⟨hcz43_0, hcz43_1, hcz43_2, hfz43_0, hfz43_1, hfz43_2⟩ := blk3_ BK192) | (go_at_call 26; (with_reducible refine (laws_sumOf.calls kj7 _ _ t183 t207 _ ?side1 ?side2 A38.out).mono ?_); (case side1 => repeat (first | exact (Kd.R_reads' HO_193000.out).2.2 | (with_reducible refine Kd.C_alloc ?_ _) | (with_reducible refine Kd.C_drewN ?_ _) | (with_reducible refine Kd.C_drew ?_))); (case side2 => exact (Kd.R_reads' HO_193000.out).2.1); rintro e w' ⟨rfl, ⟨nd, rfl⟩⟩))
         go_ret
         exact ⟨g3_, laws_FnDeskNew.calls_q0⟩
        ·rw [if_neg c37] at H
         have c37b0 : ((t189.length : Int) == 0) = false := beq_eq_false_iff_ne.mpr c37
         have c37b1 : ((t189.length : Int) != 0) = true := bne_iff_ne.mpr c37
         have c37b2 : ¬ (t189 = []) := fun h_ => c37 (by rw [h_]; rfl)
         obtain rfl := Option.some.inj H
         obtain ⟨hcz44_0, hcz44_1, hcz44_2, hfz44_0, hfz44_1, hfz44_2⟩ := blk3_ BK192
         go_wp2_with (first | ((with_reducible refine gate_callee (f := 24) rfl ?_); refine goesL_ (some 29) rfl rfl Try.func24 k_ rfl #[.agg #[.slice Ao12 t183.length co12, .slice Ao14 t186.length co14, .slice Ao15 t189.length co15]] rfl (g4_) ?_; (with_reducible refine (impl_DeskOk.calls kj7 _ _ t183 _ _ t186 _ _ t189 true _ ?side1 ?side2 ?side3 ?side4 ?side5 ?side6 A33.out).mono ?_); (case side1 => repeat (first | exact (Kd.R_reads' HO_193000.out).2.2 | (with_reducible refine Kd.C_alloc ?_ _) | (with_reducible refine Kd.C_drewN ?_ _) | (with_reducible refine Kd.C_drew ?_))); (case side2 => exact (Kd.R_reads' HO_193000.out).2.1); (case side3 => repeat (first | exact (Kd.S_reads' HO_193001.out).2.2 | (with_reducible refine Kd.C_alloc ?_ _) | (with_reducible refine Kd.C_drewN ?_ _) | (with_reducible refine Kd.C_drew ?_))); (case side4 => exact (Kd.S_reads' HO_193001.out).2.1); (case side5 => repeat (first | exact (Kd.R_reads' HO_193002.out).2.2 | (with_reducible refine Kd.C_alloc ?_ _) | (with_reducible refine Kd.C_drewN ?_ _) | (with_reducible refine Kd.C_drew ?_))); (case side6 => exact (Kd.R_reads' HO_193002.out).2.1); rintro e w45 ⟨rfl, hb⟩; refine ⟨_, rfl, ?_⟩; replace HO_193000 := Aside0.mk (Kd.R_below (uf1_ HO_193000) hb); replace HO_193001 := Aside0.mk (Kd.S_below (uf2_ HO_193001) hb); replace HO_193002 := Aside0.mk (Kd.R_below (uf1_ HO_193002) hb); replace BK192 := bb_ BK192 hb; replace HB := Aside0.mk (below_step (laws_FnDeskNew.calls_q0) hb); (try clear hb); (try clear hk hi); obtain ⟨hcz46_0, hcz46_1, hcz46_2, hfz46_0, hfz46_1, hfz46_2⟩ := blk3_ BK192) | (go_at_call 25; (with_reducible refine (impl_AllDebts.calls kj7 _ _ t183 _ _ t186 t206 _ ?side1 ?side2 ?side3 ?side4 A35.out).mono ?_); (case side1 => repeat (first | exact (Kd.R_reads' HO_193000.out).2.2 | (with_reducible refine Kd.C_alloc ?_ _) | (with_reducible refine Kd.C_drewN ?_ _) | (with_reducible refine Kd.C_drew ?_))); (case side2 => exact (Kd.R_reads' HO_193000.out).2.1); (case side3 => repeat (first | exact (Kd.S_reads' HO_193001.out).2.2 | (with_reducible refine Kd.C_alloc ?_ _) | (with_reducible refine Kd.C_drewN ?_ _) | (with_reducible refine Kd.C_drew ?_))); (case side4 => exact (Kd.S_reads' HO_193001.out).2.1); rintro e w47 ⟨rfl, hb⟩; replace HO_193000 := Aside0.mk (Kd.R_below (uf1_ HO_193000) hb); replace HO_193001 := Aside0.mk (Kd.S_below (uf2_ HO_193001) hb); replace HO_193002 := Aside0.mk (Kd.R_below (uf1_ HO_193002) hb); replace BK192 := bb_ BK192 hb; replace HB := Aside0.mk (below_step (laws_FnDeskNew.calls_q0) hb); (try clear hb); (try clear hk hi); obtain ⟨hcz48_0, hcz48_1, hcz48_2, hfz48_0, hfz48_1, hfz48_2⟩ := blk3_ BK192))
         go_ret
         exact ⟨g3_, laws_FnDeskNew.calls_q0⟩
       ·rw [if_neg c36] at H
        have c36b0 : (t206 == 0) = false := beq_eq_false_iff_ne.mpr c36
        have c36b1 : (t206 != 0) = true := bne_iff_ne.mpr c36
        obtain rfl := Option.some.inj H
        obtain ⟨hcz49_0, hcz49_1, hcz49_2, hfz49_0, hfz49_1, hfz49_2⟩ := blk3_ BK192
        go_wp2_with (first | ((with_reducible refine gate_callee (f := 24) rfl ?_); refine goesL_ (some 29) rfl rfl Try.func24 k_ rfl #[.agg #[.slice Ao12 t183.length co12, .slice Ao14 t186.length co14, .slice Ao15 t189.length co15]] rfl (g4_) ?_; (with_reducible refine (impl_DeskOk.calls kj7 _ _ t183 _ _ t186 _ _ t189 true _ ?side1 ?side2 ?side3 ?side4 ?side5 ?side6 A33.out).mono ?_); (case side1 => repeat (first | exact (Kd.R_reads' HO_193000.out).2.2 | (with_reducible refine Kd.C_alloc ?_ _) | (with_reducible refine Kd.C_drewN ?_ _) | (with_reducible refine Kd.C_drew ?_))); (case side2 => exact (Kd.R_reads' HO_193000.out).2.1); (case side3 => repeat (first | exact (Kd.S_reads' HO_193001.out).2.2 | (with_reducible refine Kd.C_alloc ?_ _) | (with_reducible refine Kd.C_drewN ?_ _) | (with_reducible refine Kd.C_drew ?_))); (case side4 => exact (Kd.S_reads' HO_193001.out).2.1); (case side5 => repeat (first | exact (Kd.R_reads' HO_193002.out).2.2 | (with_reducible refine Kd.C_alloc ?_ _) | (with_reducible refine Kd.C_drewN ?_ _) | (with_reducible refine Kd.C_drew ?_))); (case side6 => exact (Kd.R_reads' HO_193002.out).2.1); rintro e w50 ⟨rfl, hb⟩; refine ⟨_, rfl, ?_⟩; replace HO_193000 := Aside0.mk (Kd.R_below (uf1_ HO_193000) hb); replace HO_193001 := Aside0.mk (Kd.S_below (uf2_ HO_193001) hb); replace HO_193002 := Aside0.mk (Kd.R_below (uf1_ HO_193002) hb); replace BK192 := bb_ BK192 hb; replace HB := Aside0.mk (below_step (laws_FnDeskNew.calls_q0) hb); (try clear hb); (try clear hk hi); obtain ⟨hcz51_0, hcz51_1, hcz51_2, hfz51_0, hfz51_1, hfz51_2⟩ := blk3_ BK192) | (go_at_call 25; (with_reducible refine (impl_AllDebts.calls kj7 _ _ t183 _ _ t186 t206 _ ?side1 ?side2 ?side3 ?side4 A35.out).mono ?_); (case side1 => repeat (first | exact (Kd.R_reads' HO_193000.out).2.2 | (with_reducible refine Kd.C_alloc ?_ _) | (with_reducible refine Kd.C_drewN ?_ _) | (with_reducible refine Kd.C_drew ?_))); (case side2 => exact (Kd.R_reads' HO_193000.out).2.1); (case side3 => repeat (first | exact (Kd.S_reads' HO_193001.out).2.2 | (with_reducible refine Kd.C_alloc ?_ _) | (with_reducible refine Kd.C_drewN ?_ _) | (with_reducible refine Kd.C_drew ?_))); (case side4 => exact (Kd.S_reads' HO_193001.out).2.1); rintro e w52 ⟨rfl, hb⟩; replace HO_193000 := Aside0.mk (Kd.R_below (uf1_ HO_193000) hb); replace HO_193001 := Aside0.mk (Kd.S_below (uf2_ HO_193001) hb); replace HO_193002 := Aside0.mk (Kd.R_below (uf1_ HO_193002) hb); replace BK192 := bb_ BK192 hb; replace HB := Aside0.mk (below_step (laws_FnDeskNew.calls_q0) hb); (try clear hb); (try clear hk hi)))
        go_ret
        exact ⟨g3_, laws_FnDeskNew.calls_q0⟩
      ·replace c34 := Bool.eq_false_iff.mpr c34
       subst c34
       replace H := ifn_ H
       obtain rfl := Option.some.inj H
       obtain ⟨hcz53_0, hcz53_1, hcz53_2, hfz53_0, hfz53_1, hfz53_2⟩ := blk3_ BK192
       go_wp2_with (first | ((with_reducible refine gate_callee (f := 24) rfl ?_); refine goesL_ (some 29) rfl rfl Try.func24 k_ rfl #[.agg #[.slice Ao12 t183.length co12, .slice Ao14 t186.length co14, .slice Ao15 t189.length co15]] rfl (g4_) ?_; (with_reducible refine (impl_DeskOk.calls kj7 _ _ t183 _ _ t186 _ _ t189 false _ ?side1 ?side2 ?side3 ?side4 ?side5 ?side6 A33.out).mono ?_); (case side1 => repeat (first | exact (Kd.R_reads' HO_193000.out).2.2 | (with_reducible refine Kd.C_alloc ?_ _) | (with_reducible refine Kd.C_drewN ?_ _) | (with_reducible refine Kd.C_drew ?_))); (case side2 => exact (Kd.R_reads' HO_193000.out).2.1); (case side3 => repeat (first | exact (Kd.S_reads' HO_193001.out).2.2 | (with_reducible refine Kd.C_alloc ?_ _) | (with_reducible refine Kd.C_drewN ?_ _) | (with_reducible refine Kd.C_drew ?_))); (case side4 => exact (Kd.S_reads' HO_193001.out).2.1); (case side5 => repeat (first | exact (Kd.R_reads' HO_193002.out).2.2 | (with_reducible refine Kd.C_alloc ?_ _) | (with_reducible refine Kd.C_drewN ?_ _) | (with_reducible refine Kd.C_drew ?_))); (case side6 => exact (Kd.R_reads' HO_193002.out).2.1); rintro e w54 ⟨rfl, hb⟩; refine ⟨_, rfl, ?_⟩; replace HO_193000 := Aside0.mk (Kd.R_below (uf1_ HO_193000) hb); replace HO_193001 := Aside0.mk (Kd.S_below (uf2_ HO_193001) hb); replace HO_193002 := Aside0.mk (Kd.R_below (uf1_ HO_193002) hb); replace BK192 := bb_ BK192 hb; replace HB := Aside0.mk (below_step (laws_FnDeskNew.calls_q0) hb); (try clear hb); (try clear hk hi)))
       go_ret
       exact ⟨g3_, laws_FnDeskNew.calls_q0⟩
  ·replace c7 := Bool.eq_false_iff.mpr c7
   subst c7
   replace H := ifn_ H
   obtain rfl := Option.some.inj H
   go_enter Try.func4, Try.ntmps4
   try go_wp2_with (first | ((with_reducible refine gate_callee (f := 20) rfl ?_); refine goesL_ (some 9) rfl rfl Try.func20 k_ rfl #[.slice A0 l0.length c0] rfl (g4_) ?_; (with_reducible refine (spec_DrawDeskNew.calls k _ _ l0 t182 _ ?side1 ?side2 A3.out).mono ?_); (case side1 => repeat (first | exact HR0.out | (with_reducible refine Kd.C_alloc ?_ _) | (with_reducible refine Kd.C_drewN ?_ _) | (with_reducible refine Kd.C_drew ?_))); (case side2 => exact HC0.out); rintro e w55 ⟨rfl, hb⟩; refine ⟨_, rfl, ?_⟩; replace HB := Aside0.mk (below_step (laws_FnDeskNew.calls_q0) hb); (try clear hb); (try clear hk hi)) | ((with_reducible refine gate_callee (f := 16) rfl ?_); refine goesL_ (some 11) rfl rfl Try.func16 k_ rfl #[.int .i64 t182] rfl (g4_) ?_; (with_reducible refine (impl_DeskNew.calls k t182 t183 t186 t189 _ A4.out).mono ?_); rintro e w56 ⟨v184, v187, v190, rfl, ho0, ho1, ho2, hb⟩; refine ⟨_, rfl, ?_⟩; have HO185 := Aside0.mk (Kd.R_lower ho0 (below_size (laws_FnDeskNew.calls_q0))); have HO188 := Aside0.mk (Kd.S_lower ho1 (below_size (laws_FnDeskNew.calls_q0))); have HO191 := Aside0.mk (Kd.R_lower ho2 (below_size (laws_FnDeskNew.calls_q0))); replace HB := Aside0.mk (below_step (laws_FnDeskNew.calls_q0) hb); (try clear hb); (try clear hk hi); (try clear ho0); (try clear ho1); (try clear ho2)) | ((with_reducible refine gate_dst (N := 4) rfl ?_); (try (refine gate_guard (by rfl) ?_; dsimp only)); refine bx_ (N := 4) #[.slice none 0 0, .slice none 0 0, .slice none 0 0] 28 ?_; intro gb192 hg w57 hbox hb; replace HO185 := Aside0.mk (Kd.R_below (uf1_ HO185) hb); replace HO188 := Aside0.mk (Kd.S_below (uf2_ HO188) hb); replace HO191 := Aside0.mk (Kd.R_below (uf1_ HO191) hb); have BK192 := Aside0.mk (hbox); have GW192 := Aside0.mk ((g20_ : w.heap.size ≤ gb192)); have GE192 := Aside0.mk ((g20_ : w.heap.size ≤ gb192)); replace HB := Aside0.mk (below_step (laws_FnDeskNew.calls_q0) hb); clear hb hbox hg; obtain ⟨Ao58, co58, eo58⟩ := Kd.R_slice HO185.out; subst eo58; obtain ⟨hcz59_0, hcz59_1, hcz59_2, hfz59_0, hfz59_1, hfz59_2⟩ := blk3_ BK192; obtain ⟨Ao60, co60, eo60⟩ := Kd.S_slice HO188.out; subst eo60; obtain ⟨Ao61, co61, eo61⟩ := Kd.R_slice HO191.out; subst eo61))
   have n0_ : Aside0 (Kd.R (Kd.int .i64) 3 (((w57.setCell ⟨gb192, 0, none⟩ (.slice Ao58 t183.length co58)).setCell ⟨gb192, 1, none⟩ (.slice Ao60 t186.length co60)).setCell ⟨gb192, 2, none⟩ (.slice Ao61 t189.length co61)) w.heap.size (fun _ => True) (.slice Ao58 t183.length co58) t183) := ⟨by (with_reducible repeat (first | apply Kd.R_alloc | apply Kd.R_drewN | apply Kd.R_drew)); exact Kd.R_mono (Kd.R_far (p := ⟨gb192, 2, none⟩) (Kd.R_far (p := ⟨gb192, 1, none⟩) (Kd.R_far (p := ⟨gb192, 0, none⟩) (Kd.R_types HO185.out BK192.out (by decide)) (fun _ hk => hk.2) (.slice Ao58 t183.length co58)) (fun _ hk => hk.2) (.slice Ao60 t186.length co60)) (fun _ hk => hk.2) (.slice Ao61 t189.length co61)) (fun _ hk => trivial)⟩
   have n1_ : Aside0 (Kd.S (Kd.slice 3 (Kd.int .i64)) 22 (((w57.setCell ⟨gb192, 0, none⟩ (.slice Ao58 t183.length co58)).setCell ⟨gb192, 1, none⟩ (.slice Ao60 t186.length co60)).setCell ⟨gb192, 2, none⟩ (.slice Ao61 t189.length co61)) w.heap.size (fun k_ => some k_ ≠ (.slice Ao58 t183.length co58 : Value).ownBlock) (.slice Ao60 t186.length co60) t186) := ⟨by (with_reducible repeat (first | apply Kd.S_alloc | apply Kd.S_drewN | apply Kd.S_drew)); exact Kd.S_mono (Kd.S_far (p := ⟨gb192, 2, none⟩) (Kd.S_far (p := ⟨gb192, 1, none⟩) (Kd.S_far (p := ⟨gb192, 0, none⟩) (Kd.S_types HO188.out BK192.out (by decide)) (fun _ hk => hk.2) (.slice Ao58 t183.length co58)) (fun _ hk => hk.2) (.slice Ao60 t186.length co60)) (fun _ hk => hk.2) (.slice Ao61 t189.length co61)) (fun _ hk => hk.1)⟩
   have n2_ : Aside0 (Kd.R k25 25 (((w57.setCell ⟨gb192, 0, none⟩ (.slice Ao58 t183.length co58)).setCell ⟨gb192, 1, none⟩ (.slice Ao60 t186.length co60)).setCell ⟨gb192, 2, none⟩ (.slice Ao61 t189.length co61)) w.heap.size (fun k_ => some k_ ≠ (.slice Ao58 t183.length co58 : Value).ownBlock ∧ some k_ ≠ (.slice Ao60 t186.length co60 : Value).ownBlock) (.slice Ao61 t189.length co61) t189) := ⟨by (with_reducible repeat (first | apply Kd.R_alloc | apply Kd.R_drewN | apply Kd.R_drew)); exact Kd.R_mono (Kd.R_far (p := ⟨gb192, 2, none⟩) (Kd.R_far (p := ⟨gb192, 1, none⟩) (Kd.R_far (p := ⟨gb192, 0, none⟩) (Kd.R_types HO191.out BK192.out (by decide)) (fun _ hk => hk.2) (.slice Ao58 t183.length co58)) (fun _ hk => hk.2) (.slice Ao60 t186.length co60)) (fun _ hk => hk.2) (.slice Ao61 t189.length co61)) (fun _ hk => ⟨hk.1.1, hk.1.2⟩)⟩
   have n3_ : Aside0 ((((w57.setCell ⟨gb192, 0, none⟩ (.slice Ao58 t183.length co58)).setCell ⟨gb192, 1, none⟩ (.slice Ao60 t186.length co60)).setCell ⟨gb192, 2, none⟩ (.slice Ao61 t189.length co61)).heap[gb192]? = some (.cells #[.slice Ao58 t183.length co58, .slice Ao60 t186.length co60, .slice Ao61 t189.length co61] 28 (0, 0))) := ⟨by (with_reducible repeat (first | refine blk_drewN ?_ _ | refine blk_drew ?_ | refine blk_alloc ?_ _)); refine blk_put (cs := #[.slice Ao58 t183.length co58, .slice Ao60 t186.length co60, .slice none 0 0]) ?_ 2 _ rfl; (with_reducible repeat (first | refine blk_drewN ?_ _ | refine blk_drew ?_ | refine blk_alloc ?_ _)); refine blk_put (cs := #[.slice Ao58 t183.length co58, .slice none 0 0, .slice none 0 0]) ?_ 1 _ rfl; (with_reducible repeat (first | refine blk_drewN ?_ _ | refine blk_drew ?_ | refine blk_alloc ?_ _)); refine blk_put (cs := #[.slice none 0 0, .slice none 0 0, .slice none 0 0]) ?_ 0 _ rfl; (with_reducible repeat (first | refine blk_drewN ?_ _ | refine blk_drew ?_ | refine blk_alloc ?_ _)); exact BK192.out⟩
   have n4_ : Aside0 (Below w.heap.size w (((w57.setCell ⟨gb192, 0, none⟩ (.slice Ao58 t183.length co58)).setCell ⟨gb192, 1, none⟩ (.slice Ao60 t186.length co60)).setCell ⟨gb192, 2, none⟩ (.slice Ao61 t189.length co61))) := ⟨laws_FnDeskNew.calls_q0⟩
   (try clear HO185)
   (try clear HO188)
   (try clear HO191)
   (try clear BK192)
   (try clear HB)
   generalize (((w57.setCell ⟨gb192, 0, none⟩ (.slice Ao58 t183.length co58)).setCell ⟨gb192, 1, none⟩ (.slice Ao60 t186.length co60)).setCell ⟨gb192, 2, none⟩ (.slice Ao61 t189.length co61)) = w62 at n0_ n1_ n2_ n3_ n4_ ⊢
   have HO185 := n0_
   have HO188 := n1_
   have HO191 := n2_
   have BK192 := n3_
   have HB := n4_
   clear n0_ n1_ n2_ n3_ n4_
   replace HO185 := Aside0.mk (Kd.R_drew HO185.out)
   replace HO188 := Aside0.mk (Kd.S_drew HO188.out)
   replace HO191 := Aside0.mk (Kd.R_drew HO191.out)
   replace BK192 := Aside0.mk (blk_drew BK192.out)
   replace HB := Aside0.mk (below_drew1 HB.out)
   refine start_ (n := 5) (S := fun w' => w'.cell? ⟨gb192, 0, none⟩ = some (.slice Ao58 t183.length co58) ∧ w'.cell? ⟨gb192, 1, none⟩ = some (.slice Ao60 t186.length co60) ∧ w'.cell? ⟨gb192, 2, none⟩ = some (.slice Ao61 t189.length co61)) (ds := []) (tl_ 5 0) (g2_) rfl (g2_) ⟨(blk_cell BK192.out 0).trans rfl, (blk_cell BK192.out 1).trans rfl, (blk_cell BK192.out 2).trans rfl⟩ (fun hHeld => ?_)
   generalize w62.drew = w63 at HO185 HO188 HO191 BK192 HB hHeld ⊢
   refine pure_ (i := 1) (N := some 13) (v := ?_) (a' := ?_) (tl_ 5 2) rfl rfl (g2_) (fun _ _ _ h => h) (Or.inl ⟨by rfl, ?_⟩) ?_ ?_
   rotate_left
   ·intro w'
    go_simp
    with_reducible rfl
   rotate_left
   ·simp only [Act.put, List.setIfInBounds_toArray, List.set_cons_zero, List.set_cons_succ, i64_w, i32_w]
    rfl
   refine take_ (i := 0) (N := some 12) (v := ?_) (a' := ?_) (tl_ 5 3) rfl rfl (g2_) (fun _ _ _ h => h) (Or.inl ⟨by rfl, ?_⟩) hHeld ?_ ?_
   rotate_left
   ·rintro w' ⟨s0, s1, s2⟩
    go_simp
    with_reducible rfl
   rotate_left
   ·simp only [Act.put, List.setIfInBounds_toArray, List.set_cons_zero, List.set_cons_succ, i64_w, i32_w]
    rfl
   refine one_ (i := 2) (N := some 14) (tl_ 5 7) rfl rfl (g2_) (by decide) (fun K hK => ?_)
   refine goes_ Try.func15 (g2_) rfl #[.int .i64 t182] (by rfl) rfl rfl (g4_) ?_
   with_reducible refine (spec_DeskNew.calls k t182 t193 t196 t199 _ A5.out).mono ?_
   rintro e w64 ⟨v194, v197, v200, rfl, ho0, ho1, ho2, hb⟩
   refine ⟨_, rfl, ?_⟩
   have HO195 := Aside0.mk (Kd.R_lower (Kd.R_new' ho0 (Kd.R_lt (uf1_ HO185))) (below_size (laws_FnDeskNew.calls_q0)))
   have HO198 := Aside0.mk (Kd.S_lower (Kd.S_new' (Kd.S_new' ho1 (Kd.R_lt (uf1_ HO185))) (Kd.S_lt (uf2_ HO188))) (below_size (laws_FnDeskNew.calls_q0)))
   have HO201 := Aside0.mk (Kd.R_lower (Kd.R_new' (Kd.R_new' (Kd.R_new' ho2 (Kd.R_lt (uf1_ HO185))) (Kd.S_lt (uf2_ HO188))) (Kd.R_lt (uf1_ HO191))) (below_size (laws_FnDeskNew.calls_q0)))
   replace HO185 := Aside0.mk (Kd.R_elder' (uf1_ HO185) (Kd.R_base ho0) hb)
   replace HO188 := Aside0.mk (Kd.S_mono (Kd.S_told (Kd.S_told (Kd.S_old (uf2_ HO188) hb) (Kd.R_base ho0)) (Kd.S_base ho1)) (fun _ h_ => h_.1))
   replace HO191 := Aside0.mk (Kd.R_mono (Kd.R_told (Kd.R_told (Kd.R_told (Kd.R_old (uf1_ HO191) hb) (Kd.R_base ho0)) (Kd.S_base ho1)) (Kd.R_base ho2)) (fun _ h_ => h_.1))
   replace BK192 := bb_ BK192 hb
   replace HB := Aside0.mk (below_step (laws_FnDeskNew.calls_q0) hb)
   (try clear hb)
   (try clear hk hi)
   (try clear ho0)
   (try clear ho1)
   (try clear ho2)
   obtain ⟨Ao65, co65, eo65⟩ := Kd.R_slice HO195.out
   (first | subst eo65 | (injection eo65 with f1_ f2_ f3_; have f4_ := f1_.symm; have f5_ := f3_.symm; clear f1_ f2_ f3_; subst f4_; subst f5_))
   obtain ⟨Ao66, co66, eo66⟩ := Kd.S_slice HO198.out
   (first | subst eo66 | (injection eo66 with f1_ f2_ f3_; have f4_ := f1_.symm; have f5_ := f3_.symm; clear f1_ f2_ f3_; subst f4_; subst f5_))
   obtain ⟨Ao67, co67, eo67⟩ := Kd.R_slice HO201.out
   (first | subst eo67 | (injection eo67 with f1_ f2_ f3_; have f4_ := f1_.symm; have f5_ := f3_.symm; clear f1_ f2_ f3_; subst f4_; subst f5_))
   refine hK.out _ _ ⟨(blk_cell BK192.out 0).trans rfl, (blk_cell BK192.out 1).trans rfl, (blk_cell BK192.out 2).trans rfl⟩ (fun hHeld => ?_)
   clear hK K
   refine nm_ ?_
   refine one_ (i := 3) (N := some 15) (tl_ 5 15) rfl rfl (g2_) (by decide) (fun K hK => ?_)
   refine goes_ Try.func21 (g2_) rfl #[.agg #[.slice Ao58 t183.length co58, .slice Ao60 t186.length co60, .slice Ao61 t189.length co61], .agg #[.slice Ao65 t193.length co65, .slice Ao66 t196.length co66, .slice Ao67 t199.length co67]] (by rfl) rfl rfl (g4_) ?_
   with_reducible refine (laws_sameDesk.calls k _ _ t183 _ _ t186 _ _ t189 _ _ t193 _ _ t196 _ _ t199 false _ ?side1 ?side2 ?side3 ?side4 ?side5 ?side6 ?side7 ?side8 ?side9 ?side10 ?side11 ?side12 A6.out).mono ?_
   (case side1 => repeat (first | exact (Kd.R_reads' HO185.out).2.2 | (with_reducible refine Kd.C_alloc ?_ _) | (with_reducible refine Kd.C_drewN ?_ _) | (with_reducible refine Kd.C_drew ?_)))
   (case side2 => exact (Kd.R_reads' HO185.out).2.1)
   (case side3 => repeat (first | exact (Kd.S_reads' HO188.out).2.2 | (with_reducible refine Kd.C_alloc ?_ _) | (with_reducible refine Kd.C_drewN ?_ _) | (with_reducible refine Kd.C_drew ?_)))
   (case side4 => exact (Kd.S_reads' HO188.out).2.1)
   (case side5 => repeat (first | exact (Kd.R_reads' HO191.out).2.2 | (with_reducible refine Kd.C_alloc ?_ _) | (with_reducible refine Kd.C_drewN ?_ _) | (with_reducible refine Kd.C_drew ?_)))
   (case side6 => exact (Kd.R_reads' HO191.out).2.1)
   (case side7 => repeat (first | exact (Kd.R_reads' HO195.out).2.2 | (with_reducible refine Kd.C_alloc ?_ _) | (with_reducible refine Kd.C_drewN ?_ _) | (with_reducible refine Kd.C_drew ?_)))
   (case side8 => exact (Kd.R_reads' HO195.out).2.1)
   (case side9 => repeat (first | exact (Kd.S_reads' HO198.out).2.2 | (with_reducible refine Kd.C_alloc ?_ _) | (with_reducible refine Kd.C_drewN ?_ _) | (with_reducible refine Kd.C_drew ?_)))
   (case side10 => exact (Kd.S_reads' HO198.out).2.1)
   (case side11 => repeat (first | exact (Kd.R_reads' HO201.out).2.2 | (with_reducible refine Kd.C_alloc ?_ _) | (with_reducible refine Kd.C_drewN ?_ _) | (with_reducible refine Kd.C_drew ?_)))
   (case side12 => exact (Kd.R_reads' HO201.out).2.1)
   rintro e w68 ⟨rfl, hb⟩
   refine ⟨_, rfl, ?_⟩
   replace HO185 := Aside0.mk (Kd.R_below (uf1_ HO185) hb)
   replace HO188 := Aside0.mk (Kd.S_below (uf2_ HO188) hb)
   replace HO191 := Aside0.mk (Kd.R_below (uf1_ HO191) hb)
   replace HO195 := Aside0.mk (Kd.R_below (uf1_ HO195) hb)
   replace HO198 := Aside0.mk (Kd.S_below (uf2_ HO198) hb)
   replace HO201 := Aside0.mk (Kd.R_below (uf1_ HO201) hb)
   replace BK192 := bb_ BK192 hb
   replace HB := Aside0.mk (below_step (laws_FnDeskNew.calls_q0) hb)
   (try clear hb)
   (try clear hk hi)
   refine hK.out _ _ ⟨(blk_cell BK192.out 0).trans rfl, (blk_cell BK192.out 1).trans rfl, (blk_cell BK192.out 2).trans rfl⟩ (fun hHeld => ?_)
   clear hK K
   refine nm_ ?_
   refine pure_ (i := 4) (N := some 16) (v := ?_) (a' := ?_) (tl_ 5 31) rfl rfl (g2_) (fun _ _ _ h => h) (Or.inl ⟨by rfl, ?_⟩) ?_ ?_
   rotate_left
   ·intro w'
    go_simp
    with_reducible rfl
   rotate_left
   ·simp only [Act.put, List.setIfInBounds_toArray, List.set_cons_zero, List.set_cons_succ, i64_w, i32_w]
    rfl
   refine done_ (g2_) ?_
   try go_wp2
   go_ret
   exact ⟨g3_, laws_FnDeskNew.calls_q0⟩
def laws_FnDeskNew.Pure : Prop := ∀ (l0 : List Int), l0.length ≤ maxLen → l0.length * 1 ≤ 140737488351232 → (∀ x ∈ l0, (Lit.int .u8 x).wf = true) → ∃ k, laws_FnDeskNew.f k l0 = some true
theorem laws_FnDeskNew.walk (P : laws_FnDeskNew.Pure) (a0 : Option Addr) (len0 cap0 : Nat) (z0 : List Int) (w : World) (w0 : (a0 = none ∧ len0 = 0 ∧ cap0 = 0 ∧ z0 = []) ∨ ∃ x, a0 = some x ∧ len0 ≤ cap0 ∧ cap0 ≤ maxLen ∧ z0.length = cap0 ∧ (∀ i, i < z0.length → w.cell? (x.add i) = some (.int .u8 (z0.getD i 0))) ∧ ∀ n ∈ z0, (Lit.int .u8 n).wf = true) (y0 : len0 * 1 ≤ 140737488351232) :
  Calls Try.prog 4 #[.slice a0 len0 cap0] w fun e w' => e = .returned (.bool true) ∧ Below w.heap.size w w' := by
 obtain ⟨l0, rfl, hr0, hm0, hw0, hc0⟩ := ReadsInt.ofRowC w0
 obtain ⟨k, h⟩ := P l0 hm0 y0 hw0
 refine (laws_FnDeskNew.calls k _ _ l0 true w (Kd.C_of_reads (d := (0 : Int)) (h1 := fun _ => rfl) hr0) hc0 h).mono ?_
 rintro e w' ⟨rfl, hd⟩
 exact ⟨rfl, hd⟩
end Go.Proofs.Ytfooakkhkehpiaa.PU
namespace Go.Proofs.Ytfooakkhkehpiaa.Qh
open Go.RowKit Go.Proofs.YtfooakkhkehpiaaW.PrintWords Go.Proofs.YtfooakkhkehpiaaW.PrintMore
set_option linter.unusedVariables false
set_option linter.unusedSimpArgs false
theorem w64 {n : Int} (h1 : -9223372036854775808 ≤ n) (h2 : n ≤ 9223372036854775807) : wrap64 n = n := by unfold wrap64; omega
section
variable {α β : Type} {r : α}
theorem evPos {c : Prop} [Decidable c] {g f : Nat → Option α} (h : c) (k : Ev g r) : Ev (fun n => if c then g n else f n) r := by
  simp only [if_pos h]; exact k
theorem evNeg {c : Prop} [Decidable c] {g f : Nat → Option α} (h : ¬ c) (k : Ev f r) : Ev (fun n => if c then g n else f n) r := by
  simp only [if_neg h]; exact k
theorem evBind0 {g : Option β} {f : Nat → β → Option α} {a : β} (h : g = some a) (k : Ev (fun n => f n a) r) : Ev (fun n => g.bind (f n)) r := by
  subst h; exact k
end
theorem getD_mem {α : Type} (d : α) (xs : List α) (i : Nat) (h : i < xs.length) : xs.getD i d ∈ xs := by
  simp [List.getD_eq_getElem?_getD, List.getElem?_eq_getElem h]
def EvB (g : Nat → Option Bool) (p : Prop) : Prop := ∃ b, (b = true ↔ p) ∧ Ev g b
section
variable {g f : Nat → Option Bool} {p q : Prop}
theorem EvB.congr (h : EvB g p) (e : p ↔ q) : EvB g q := by obtain ⟨b, h1, h2⟩ := h; exact ⟨b, h1.trans e, h2⟩
theorem EvB.step {g f : Nat → Option Bool} (h : ∀ k, g (k + 1) = f k) (k : EvB f p) : EvB g p := by obtain ⟨b, h1, h2⟩ := k; exact ⟨b, h1, Ev.step h h2⟩
theorem EvB.bind {β : Type} {g : Nat → Option β} {f : Nat → β → Option Bool} {a : β} (h : Ev g a) (k : EvB (fun n => f n a) p) : EvB (fun n => (g n).bind (f n)) p := by obtain ⟨b, h1, h2⟩ := k; exact ⟨b, h1, Ev.bind h h2⟩
end
end Go.Proofs.Ytfooakkhkehpiaa.Qh
namespace Go.Proofs.Ytfooakkhkehpiaa.Dr
open Go.RowKit Go.Proofs.Ytfooakkhkehpiaa.PU Go.Proofs.Ytfooakkhkehpiaa.Qh Go.Proofs.YtfooakkhkehpiaaW.PrintWords Go.Proofs.YtfooakkhkehpiaaW.PrintMore
set_option linter.unusedVariables false
set_option linter.unusedSimpArgs false
theorem xor_nonneg (a b : Int) (ha : 0 ≤ a) (ha2 : a < 4611686018427387904) (hb : 0 ≤ b) (hb2 : b < 4611686018427387904) : 0 ≤ Go.bits .xor .i64 a b := by
  obtain ⟨m, rfl⟩ := Int.eq_ofNat_of_zero_le ha
  obtain ⟨n, rfl⟩ := Int.eq_ofNat_of_zero_le hb
  have hm : m < 2 ^ 62 := by omega
  have hn : n < 2 ^ 62 := by omega
  have hx : m ^^^ n < 2 ^ 62 := Nat.xor_lt_two_pow hm hn
  have e1 : m % 2 ^ 64 = m := Nat.mod_eq_of_lt (by omega)
  have e2 : n % 2 ^ 64 = n := Nat.mod_eq_of_lt (by omega)
  have : Go.bits .xor .i64 (m : Int) (n : Int) = ((m ^^^ n : Nat) : Int) := by
    simp only [Go.bits, BitVec.ofInt_natCast, BitVec.toNat_xor, BitVec.toNat_ofNat]
    show IntKind.i64.wrap (((m % 2 ^ 64) ^^^ (n % 2 ^ 64) : Nat) : Int) = _
    rw [e1, e2, IntKind.wrap_i64]
    omega
  rw [this]
  omega
def Bytes (b : List Int) : Prop := b.length ≤ 2000 ∧ ∀ x ∈ b, 0 ≤ x ∧ x ≤ 255
theorem rd_byte {b : List Int} (h : Bytes b) (i : Int) : 0 ≤ rd b i ∧ rd b i ≤ 255 := by
  unfold rd
  by_cases hi : i.toNat < b.length
  · exact h.2 _ (getD_mem 0 b _ hi)
  · simp [List.getD_eq_getElem?_getD, List.getElem?_eq_none (by omega : b.length ≤ i.toNat)]
theorem pick {b : List Int} (hb : Bytes b) (p n : Int) (h0 : 0 ≤ p) (h1 : p ≤ 1000000000) :
    ∃ v, 0 ≤ v ∧ (1 ≤ n → v < n) ∧ (n < 1 → v = 0) ∧ Ev (fun k => spec_l20Rd_pick.f k b p n) (v, p + 1) := by
  have hp : wrap64 (p + 1) = p + 1 := w64 (by omega) (by omega)
  have hp1 : wrap64 (p + 1 - 1) = p := by rw [w64 (by omega) (by omega)]; omega
  unfold spec_l20Rd_pick.f
  rw [hp]
  by_cases hn : n < 1
  · refine ⟨0, by omega, by omega, fun _ => rfl, evPos hn ?_⟩
    refine Ev.step (fun k => by rw [spec_l20Rd_pick.j0]) ?_
    exact evPos rfl (Ev.now _)
  by_cases hz : b.length = 0
  · refine ⟨0, by omega, by omega, fun h => absurd h hn, evNeg hn ?_⟩
    refine Ev.step (fun k => by rw [spec_l20Rd_pick.j0]) ?_
    exact evPos (by simp [hz]) (Ev.now _)
  have hlen : 0 < (b.length : Int) := by omega
  by_cases hlt : p < (b.length : Int)
  · have hr := rd_byte hb p
    refine ⟨Int.tmod (rd b p) n, Int.tmod_nonneg _ hr.1, fun _ => Int.tmod_lt_of_pos _ (by omega), fun h => absurd h hn, evNeg hn ?_⟩
    refine Ev.step (fun k => by rw [spec_l20Rd_pick.j0]) ?_
    rw [hp1]
    refine evNeg (fun h => by have := beq_iff_eq.mp h; omega) (evPos hlt (evPos h0 (evNeg (by omega) ?_)))
    rw [w64 (by omega) (by omega)]
    exact Ev.now _
  · have hp7 : wrap64 (p * 7) = p * 7 := w64 (by omega) (by omega)
    have hp73 : wrap64 (p * 7 + 3) = p * 7 + 3 := w64 (by omega) (by omega)
    have hp29 : wrap64 (p * 29) = p * 29 := w64 (by omega) (by omega)
    have i1 := Int.tmod_nonneg (b.length : Int) h0
    have i2 := Int.tmod_lt_of_pos p hlen
    have j1 := Int.tmod_nonneg (b.length : Int) (show 0 ≤ p * 7 + 3 by omega)
    have j2 := Int.tmod_lt_of_pos (p * 7 + 3) hlen
    have d1 : 0 ≤ Int.tdiv p (b.length : Int) := Int.tdiv_nonneg h0 (by omega)
    have d2 : Int.tdiv p (b.length : Int) ≤ p := Int.tdiv_le_self _ h0
    have r1 := rd_byte hb (Int.tmod p (b.length : Int))
    have r2 := rd_byte hb (Int.tmod (p * 7 + 3) (b.length : Int))
    have key : ∃ x, 0 ≤ x ∧ x < 4611686018427387904 ∧ wrap64 ((wrap64 ((wrap64 ((wrap64 ((wrap64 (rd b (Int.tmod p (b.length : Int)))) * 131)) + (wrap64 ((wrap64 (rd b (Int.tmod (p * 7 + 3) (b.length : Int)))) * 1117)))) + (p * 29))) + (wrap64 ((wrap64 (Int.tdiv p (b.length : Int))) * 53))) = x := by
      generalize rd b (Int.tmod p (b.length : Int)) = u at *
      generalize rd b (Int.tmod (p * 7 + 3) (b.length : Int)) = v at *
      generalize Int.tdiv p (b.length : Int) = d at *
      have e1 : wrap64 u = u := w64 (by omega) (by omega)
      have e2 : wrap64 v = v := w64 (by omega) (by omega)
      have e3 : wrap64 d = d := w64 (by omega) (by omega)
      have e4 : wrap64 (u * 131) = u * 131 := w64 (by omega) (by omega)
      have e5 : wrap64 (v * 1117) = v * 1117 := w64 (by omega) (by omega)
      have e6 : wrap64 (d * 53) = d * 53 := w64 (by omega) (by omega)
      have e7 : wrap64 (u * 131 + v * 1117) = u * 131 + v * 1117 := w64 (by omega) (by omega)
      have e8 : wrap64 (u * 131 + v * 1117 + p * 29) = u * 131 + v * 1117 + p * 29 := w64 (by omega) (by omega)
      refine ⟨u * 131 + v * 1117 + p * 29 + d * 53, by omega, by omega, ?_⟩
      rw [e1, e2, e3, e4, e5, e6, e7, e8]
      exact w64 (by omega) (by omega)
    obtain ⟨x, hx0, hx1, hx⟩ := key
    have t0 : 0 ≤ Int.tdiv x 64 := Int.tdiv_nonneg hx0 (by omega)
    have t1 : Int.tdiv x 64 ≤ x := Int.tdiv_le_self _ hx0
    have ht : wrap64 (Int.tdiv x 64) = Int.tdiv x 64 := w64 (by omega) (by omega)
    have hq := xor_nonneg x (Int.tdiv x 64) hx0 hx1 t0 (by omega)
    refine ⟨Int.tmod (Go.bits .xor .i64 x (Int.tdiv x 64)) n, Int.tmod_nonneg _ hq, fun _ => Int.tmod_lt_of_pos _ (by omega), fun h => absurd h hn, evNeg hn ?_⟩
    refine Ev.step (fun k => by rw [spec_l20Rd_pick.j0]) ?_
    rw [hp1, hp7, hp73, hp29, hx, ht]
    refine evNeg (fun h => by have := beq_iff_eq.mp h; omega) (evNeg hlt (evNeg (by omega) (evPos i1 (evPos i2 (evPos j1 (evPos j2 (evNeg (by omega) (Ev.now _))))))))
theorem open_ (l : List Int) (hu : ∀ x ∈ l, (Lit.int .u8 x).wf = true) : ∃ b, Bytes b ∧ spec_l20Open.f l = some (b, 0) := by
  have hb : ∀ x ∈ l, 0 ≤ x ∧ x ≤ 255 := fun x hx => by
    have := hu x hx
    simp [Lit.wf, IntKind.min, IntKind.max, IntKind.bits, IntKind.signed] at this
    omega
  unfold spec_l20Open.f
  by_cases h : (l.length : Int) > 2000
  · exact ⟨l.take 2000, ⟨by rw [List.length_take]; omega, fun x hx => hb x (List.mem_of_mem_take hx)⟩, by rw [if_pos h, if_pos (by omega)]⟩
  · exact ⟨l, ⟨by omega, hb⟩, by rw [if_neg h]⟩
end Go.Proofs.Ytfooakkhkehpiaa.Dr
namespace Go.Proofs.Ytfooakkhkehpiaa.Fdn
open Go.RowKit Go.Proofs.Ytfooakkhkehpiaa.PU Go.Proofs.Ytfooakkhkehpiaa.Qh Go.Proofs.Ytfooakkhkehpiaa.Dr Go.Proofs.YtfooakkhkehpiaaW.PrintWords Go.Proofs.YtfooakkhkehpiaaW.PrintMore
set_option linter.unusedVariables false
set_option linter.unusedSimpArgs false
abbrev B := S25
theorem fin (b : Int) (v : List Int × List (List Int) × List B) (h1 : impl_DeskNew.f 40 b = some v) (h2 : spec_DeskNew.f 40 b = some v) (h3 : laws_sameDesk.f 40 v.1 v.2.1 v.2.2 v.1 v.2.1 v.2.2 = some true) (x : Bool) (hx : x = if b < 1 then true else decide (b > 4)) (h4 : laws_FnDeskNew.j0 40 x v.1 v.2.1 v.2.2 = some true) :
    Ev (fun k => (impl_DeskNew.f k b).bind fun bt183 => ((spec_DeskNew.f k b).bind fun bt193 => ((laws_sameDesk.f k bt183.1 bt183.2.1 bt183.2.2 bt193.1 bt193.2.1 bt193.2.2).bind fun t202 => (if t202 = true then (if b < 1 then (laws_FnDeskNew.j0 k true bt183.1 bt183.2.1 bt183.2.2) else (laws_FnDeskNew.j0 k (decide (b > 4)) bt183.1 bt183.2.1 bt183.2.2)) else (some false))))) true := by
  refine Ev.bind (Ev.of (fun k => impl_DeskNew.mono _ k) h1) (Ev.bind (Ev.of (fun k => spec_DeskNew.mono _ k) h2) (Ev.bind (Ev.of (fun k => laws_sameDesk.mono _ _ _ _ _ _ k) h3) (evPos rfl ?_)))
  have e4 := Ev.of (g := fun k => laws_FnDeskNew.j0 k x v.1 v.2.1 v.2.2) (fun k => laws_FnDeskNew.mono_l k _ _ _ _) h4
  by_cases h : b < 1
  · rw [if_pos h] at hx; subst hx; exact evPos h e4
  · rw [if_neg h] at hx; subst hx; exact evNeg h e4
theorem all (b : Int) (h0 : -1 ≤ b) (h1 : b ≤ 5) :
    Ev (fun k => (impl_DeskNew.f k b).bind fun bt183 => ((spec_DeskNew.f k b).bind fun bt193 => ((laws_sameDesk.f k bt183.1 bt183.2.1 bt183.2.2 bt193.1 bt193.2.1 bt193.2.2).bind fun t202 => (if t202 = true then (if b < 1 then (laws_FnDeskNew.j0 k true bt183.1 bt183.2.1 bt183.2.2) else (laws_FnDeskNew.j0 k (decide (b > 4)) bt183.1 bt183.2.1 bt183.2.2)) else (some false))))) true := by
  rcases (by omega : b = -1 ∨ b = 0 ∨ b = 1 ∨ b = 2 ∨ b = 3 ∨ b = 4 ∨ b = 5) with h | h | h | h | h | h | h <;> subst h
  · exact fin (-1) ([], [], []) (by kernel_rfl) (by kernel_rfl) (by kernel_rfl) true (by decide) (by kernel_rfl)
  · exact fin 0 ([], [], []) (by kernel_rfl) (by kernel_rfl) (by kernel_rfl) true (by decide) (by kernel_rfl)
  · exact fin 1 ([0], [[0]], []) (by kernel_rfl) (by kernel_rfl) (by kernel_rfl) false (by decide) (by kernel_rfl)
  · exact fin 2 ([0, 0], [[0, 0], [0, 0]], []) (by kernel_rfl) (by kernel_rfl) (by kernel_rfl) false (by decide) (by kernel_rfl)
  · exact fin 3 ([0, 0, 0], [[0, 0, 0], [0, 0, 0], [0, 0, 0]], []) (by kernel_rfl) (by kernel_rfl) (by kernel_rfl) false (by decide) (by kernel_rfl)
  · exact fin 4 ([0, 0, 0, 0], [[0, 0, 0, 0], [0, 0, 0, 0], [0, 0, 0, 0], [0, 0, 0, 0]], []) (by kernel_rfl) (by kernel_rfl) (by kernel_rfl) false (by decide) (by kernel_rfl)
  · exact fin 5 ([], [], []) (by kernel_rfl) (by kernel_rfl) (by kernel_rfl) true (by decide) (by kernel_rfl)
theorem holds : laws_FnDeskNew.Pure := by
  intro l0 _ _ hu
  refine Ev.rounds (g := fun k => laws_FnDeskNew.f k l0) ?_
  unfold laws_FnDeskNew.f
  by_cases a : (l0.length : Int) > 1048576
  · exact evPos a (Ev.now _)
  refine evNeg a ?_
  obtain ⟨b, hb, ho⟩ := Dr.open_ l0 hu
  obtain ⟨v, hv0, hv1, _, hv⟩ := pick hb 0 7 (by omega) (by omega)
  have hv2 := hv1 (by omega)
  have hd : Ev (fun k => spec_DrawDeskNew.f k l0) (v - 1) := by
    unfold spec_DrawDeskNew.f
    refine evBind0 ho (Ev.bind hv ?_)
    show Ev (fun k => some (wrap64 (v - 1))) (v - 1)
    rw [w64 (by omega) (by omega)]
    exact Ev.now _
  exact Ev.bind hd (all (v - 1) (by omega) (by omega))
end Go.Proofs.Ytfooakkhkehpiaa.Fdn
namespace Go.Proofs.Ytfooakkhkehpiaa.Pure
open Go.RowKit Go.Proofs.Ytfooakkhkehpiaa.PU
theorem FnDeskNew : laws_FnDeskNew.Pure := Go.Proofs.Ytfooakkhkehpiaa.Fdn.holds
end Go.Proofs.Ytfooakkhkehpiaa.Pure
namespace Go.Proofs.YtfooakkhkehpiaaW.PrintWords
open Go.ChangeShapes Go.WideShapes
theorem sized_ints {H : Type} {enc : TypeId × Value → H} {P : Program} {W : World} {base : Nat} {spare : Nat → Bool} {held : Bool} {t e : TypeId} {k : IntKind} {a : Option Addr} {len cap : Nat} {d : DataW H} {ps : List MemPlace} {ts : List TypeId} {ds : List (DataW H)} {j : Nat}
    (hsz : (DataW.weightsEach P ts ds).all (· ≤ reachBytes) = true) (ht : ts[j]? = some t) (hd : ds[j]? = some d) (hu : P.underlying t = some (.slice e)) (he : P.underlying e = some (.int k)) (hc : P.cellsOf e = 1) {B : Nat} (hB : P.bytesOf e = B)
    (h : DataW.Trod enc P W base spare held t (.slice a len cap) d ps) : len * B ≤ 140737488351232 := by
  obtain ⟨fuel, hf⟩ := h
  rcases open_ints hu he hc hf with ⟨hcs, _⟩ | ⟨x, l, c, zs, hcs, _, hl, _, hz, hx, _, _⟩
  · simp [Value.cells] at hcs
    obtain ⟨rfl, rfl, rfl⟩ := hcs
    simp
  · simp [Value.cells] at hcs
    obtain ⟨rfl, rfl, rfl⟩ := hcs
    obtain ⟨hx, _⟩ := Prod.mk.inj hx
    subst hx
    have z := sized_slice hsz ht hd hu
    rw [hB] at z
    have hl2 : len ≤ zs.length := by
      rw [hz]
      split
      · exact hl
      · exact Nat.le_refl _
    have h1 : (lits (H := H) k (zs.take len)).length + (lits (H := H) k (zs.drop len)).length = zs.length := by
      simp [lits]
      omega
    rw [h1] at z
    exact Nat.le_trans (Nat.mul_le_mul_right _ hl2) z
end Go.Proofs.YtfooakkhkehpiaaW.PrintWords
namespace Go.Proofs.Ytfooakkhkehpiaa.fnDeskNew
open Go.ChangeShapes Go.WideShapes Go.ChangeAt Go.RowKit
open Go.ChangeMaps (open_string shut_string)
set_option linter.unusedVariables false
theorem own : ownKnob Try.prog.godebug = none := by kernel_rfl
theorem laidOut : laidOutB Try.prog = true := by kernel_rfl
def IsRow (k : IntKind) (w : World) (a : Option Addr) (len cap : Nat) (zs : List Int) : Prop :=
  (a = none ∧ len = 0 ∧ cap = 0 ∧ zs = []) ∨
  ∃ x, a = some x ∧ len ≤ cap ∧ cap ≤ maxLen ∧ zs.length = cap ∧ (∀ i, i < zs.length → w.cell? (x.add i) = some (.int k (zs.getD i 0))) ∧ ∀ n ∈ zs, (Lit.int k n).wf = true
set_option maxRecDepth 100000 in
theorem lifted (os : Os) (started : os.Started) (H : Type) (enc : TypeId × Value → H) :
    ReturnsInHanded {} Try.checked os 4 .any (Rows.fnDeskNewSpec.pre6 enc Try.prog Try.f4 Rows.fnDeskNewRow.domain false) (Rows.fnDeskNewSpec.post enc Try.prog Try.f4 false true false false) := by
  refine returnsInHanded_of_change_sized (C := Try.checked) own started (by kernel_rfl) Try.func4
    (ChangeSpec.witness6 (enc := enc) (C := Try.checked) false ⟨#[], #[.slice none 0 0], []⟩ 8 (by kernel_rfl) (by kernel_rfl) (by kernel_rfl) (by kernel_rfl)) ?_
  intro W base args ds gs before hval0 hW hcnd hsz0 _
  have hsz : (DataW.weightsEach Try.prog (Try.f4.params.toList ++ Rows.fnDeskNewSpec.plain.varTypes Try.prog) (ds ++ gs)).all (· ≤ reachBytes) = true := hsz0
  have hval : ∀ (j : Nat) t v, Try.f4.params[j]? = some t → args[j]? = some v → Value.okWide Try.prog W .any base t v := hval0
  have hW' := hW
  obtain ⟨p, q, hA0, hV, rfl, hfz, hnd⟩ := hW
  have hA : DataW.TrodAll enc Try.prog W 0 (fun _ => true) true Try.f4.params.toList args.toList ds p := hA0
  rw [Try.params4] at hA hval hsz
  obtain ⟨v0, vs0, d0, ds0, p0, q0, hargs, rfl, rfl, h0, r0⟩ := trodAll_cons hA
  obtain ⟨rfl, rfl, rfl⟩ := trodAll_nil r0
  obtain rfl : args = #[v0] := by cases args; simp_all
  obtain ⟨rfl, rfl⟩ := trodVars_none hV
  obtain ⟨a0, len0, cap0, rfl⟩ := okWide_slice Try.underlying33 (hval 0 33 v0 rfl rfl)
  have k0 := h0
  have lt0 : ∀ x ∈ p0, x.block < W.heap.size := by obtain ⟨m, hm⟩ := k0; exact DataW.trod_lt m _ _ _ hm
  obtain ⟨z0, w0⟩ : ∃ zs, IsRow .u8 W a0 len0 cap0 zs := by
    obtain ⟨fuel, hf⟩ := h0
    rcases open_ints Try.underlying33 Try.underlying5 (by kernel_rfl) hf with ⟨hcs, _⟩ | ⟨x, l, c, zs, hcs, _, hl, hm, hz, _, hcell, hwz⟩
    · simp [Value.cells] at hcs
      obtain ⟨rfl, rfl, rfl⟩ := hcs
      exact ⟨[], .inl ⟨rfl, rfl, rfl, rfl⟩⟩
    · simp [Value.cells] at hcs
      obtain ⟨rfl, rfl, rfl⟩ := hcs
      exact ⟨zs, .inr ⟨_, rfl, hl, hm, by simpa using hz, hcell, hwz⟩⟩
  have y0 : len0 * 1 ≤ 140737488351232 := Go.Proofs.YtfooakkhkehpiaaW.PrintWords.sized_ints hsz (j := 0) (t := 33) rfl rfl Try.underlying33 Try.underlying5 (by kernel_rfl) (by kernel_rfl) h0
  clear hA0 hval0 hsz0 hsz
  refine (PU.laws_FnDeskNew.walk Pure.FnDeskNew a0 len0 cap0 z0 W w0 y0).mono fun e W' ⟨he, bel⟩ => ?_
  subst he
  exact ⟨_, rfl, _, _, _, [], _, [], hW', trodAll_mk1 (shut_bool Try.underlying4 _), (trodAll_cons_mk (Below.trod laidOut (by kernel_rfl) (of_decide_eq_true (by kernel_rfl)) k0 bel lt0) trodAll_mk0), rfl, bel.frame _, fun h => by cases h⟩
theorem over : Rows.fnDeskNewRow.holds Try.pinned (OpenSpec.ofChange Rows.fnDeskNewSpec) :=
  OpenClaim.holds_of_wide 4 Try.f4 rfl rfl rfl rfl rfl rfl rfl ⟨rfl, rfl, rfl, rfl, rfl⟩ rfl rfl rfl rfl rfl (by kernel_rfl) Try.func4 (by kernel_rfl)
    (of_decide_eq_true (by kernel_rfl)) (by unfold Func.isWrapper; first | (rw [if_pos (by decide +kernel)]; kernel_rfl) | (rw [if_neg (by decide +kernel)]; exact ⟨rfl, rfl⟩))
    (fun os started H enc _ => lifted os started H enc)
theorem proved : Rows.FnDeskNewSaid := over
end Go.Proofs.Ytfooakkhkehpiaa.fnDeskNew
namespace Go.Proofs.Ytfooakkhkehpiaa
theorem fnDeskNew_holds : Rows.FnDeskNewSaid := fnDeskNew.proved
end Go.Proofs.Ytfooakkhkehpiaa
