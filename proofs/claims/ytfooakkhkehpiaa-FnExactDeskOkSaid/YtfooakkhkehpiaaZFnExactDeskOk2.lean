/- FnExactDeskOk: for every input the law holds, and each argument reads as it read before. No condition. -/
import Derived.Test.YtfooakkhkehpiaaZFnExactDeskOk1
import Derived.Deep.Slices
import Derived.ChangeArms
import Derived.DataReads
import Derived.Test.YtfooakkhkehpiaaRows
import Derived.ProofKit
import Derived.OpenShut
import Derived.ShutString
import Derived.ChangeOld
import Derived.SizedLaws
namespace Go.Proofs.Ytfooakkhkehpiaa.PU
open Go.RowKit Go.Proofs.YtfooakkhkehpiaaW.PrintWords Go.Proofs.YtfooakkhkehpiaaW.PrintLast Go.Proofs.YtfooakkhkehpiaaW.PrintMore Go.Proofs.Ytfooakkhkehpiaa.Qd
attribute [local go_sem] max2_int min2_int max_two min_two max_three min_three max_four min_four
set_option linter.unusedVariables false
set_option linter.unusedSimpArgs false
def laws_szDesk.f (k : Nat) (l0_0 : List Int) (l0_1 : List (List Int)) (l0_2 : List (S40)) (a1 : Int) : Option (Int) := (laws_szBook.f k l0_0 l0_1 a1).bind fun t232 => (if t232 < 0 then (some (-1)) else ((laws_szBookS.f k l0_2 t232).bind fun t233 => (if t233 < 0 then (some (-1)) else (some t233))))
theorem laws_szDesk.mq {p : Prop} (h : p := by
 repeat' first
 | (with_reducible exact laws_szBook.mono _ _ _ _)
 | (with_reducible exact laws_szBookS.mono _ _ _)
 | (with_reducible exact LeO.refl _)
 | (with_reducible exact LeO.none _)
 | (with_reducible refine LeO.ite ?_ ?_)
 | (with_reducible refine LeO.bind ?_ (fun _ => ?_))
 | exact laws_szBook.mono _ _ _ _
 | exact laws_szBookS.mono _ _ _
 | exact LeO.none _
 | refine LeO.ite ?_ ?_
 | refine LeO.bind ?_ (fun _ => ?_)) : p := h
theorem laws_szDesk.mono : ∀ a0 a1 a2 a3 k, LeO (laws_szDesk.f k a0 a1 a2 a3) (laws_szDesk.f (k + 1) a0 a1 a2 a3) := by
 intro a0 a1 a2 a3 k
 unfold laws_szDesk.f
 exact laws_szDesk.mq
theorem qz4_ {p : Prop} (h : p := by repeat (first | (with_reducible first | exact HB.out | apply below_alloc | apply pw_below_drewN | apply below_drew1 | refine below_set ?_ GE231.out) | exact HB.out)) : p := h
set_option maxHeartbeats 8000000 in
set_option maxRecDepth 100000 in
theorem laws_szDesk.calls (k : Nat) (A0_0 : Option Addr) (c0_0 : Nat) (l0_0 : List Int) (A0_1 : Option Addr) (c0_1 : Nat) (l0_1 : List (List Int)) (A0_2 : Option Addr) (c0_2 : Nat) (l0_2 : List (S40)) (a1 : Int) (r : Int) (w : World) (hr0_0 : Kd.C (Kd.int .i64) w A0_0 l0_0.length l0_0) (hc0_0 : l0_0.length ≤ c0_0) (hr0_1 : Kd.C (Kd.slice 3 (Kd.int .i64)) w A0_1 l0_1.length l0_1) (hc0_1 : l0_1.length ≤ c0_1) (hr0_2 : Kd.C k40 w A0_2 l0_2.length l0_2) (hc0_2 : l0_2.length ≤ c0_2) (h : laws_szDesk.f k l0_0 l0_1 l0_2 a1 = some r) :
  Calls Try.prog 27 #[.agg #[.slice A0_0 l0_0.length c0_0, .slice A0_1 l0_1.length c0_1, .slice A0_2 l0_2.length c0_2], .int .i64 a1] w fun e w' => e = .returned (.int .i64 r) ∧ Below w.heap.size w w' := by
 have hu43 := Try.underlying43
 have hu40 := Try.underlying40
 have HR0_0 := Aside0.mk hr0_0
 have HC0_0 := Aside0.mk hc0_0
 clear hr0_0 hc0_0
 have HR0_1 := Aside0.mk hr0_1
 have HC0_1 := Aside0.mk hc0_1
 clear hr0_1 hc0_1
 have HR0_2 := Aside0.mk hr0_2
 have HC0_2 := Aside0.mk hc0_2
 clear hr0_2 hc0_2
 have HB := Aside0.mk (Below.refl w.heap.size w)
 have H : ((laws_szBook.f k l0_0 l0_1 a1).bind fun t232 => (if t232 < 0 then (some (-1)) else ((laws_szBookS.f k l0_2 t232).bind fun t233 => (if t233 < 0 then (some (-1)) else (some t233))))) = some r := h
 clear h
 obtain ⟨t232, A3, H⟩ := bind_ H
 by_cases c4 : t232 < 0
 ·rw [if_pos c4] at H
  have c4b0 := decide_eq_true c4
  clear c4
  obtain rfl := Option.some.inj H
  go_enter Try.func27, Try.ntmps27
  go_wp2_with (first | ((with_reducible refine gate_dst (N := 2) rfl ?_); refine bx_ (N := 2) #[.slice A0_0 l0_0.length c0_0, .slice A0_1 l0_1.length c0_1, .slice A0_2 l0_2.length c0_2] 43 ?_; intro gb231 hg w5 hbox hb; have BK231 := Aside0.mk (hbox); have GW231 := Aside0.mk ((g25_ : w.heap.size ≤ gb231)); have GE231 := Aside0.mk ((g25_ : w.heap.size ≤ gb231)); replace HB := Aside0.mk (below_step (qz4_) hb); clear hb hbox hg; obtain ⟨hcz6_0, hcz6_1, hcz6_2, hfz6_0, hfz6_1, hfz6_2⟩ := blk3_ BK231) | ((with_reducible refine gate_callee (f := 31) rfl ?_); refine goesL_ (some 8) rfl rfl Try.func31 k_ rfl #[.agg #[.slice A0_0 l0_0.length c0_0, .slice A0_1 l0_1.length c0_1], .int .i64 a1] rfl (g2_) ?_; (with_reducible refine (laws_szBook.calls k _ _ l0_0 _ _ l0_1 a1 t232 _ ?side1 ?side2 ?side3 ?side4 A3.out).mono ?_); (case side1 => exact uf3_ HR0_0); (case side2 => exact HC0_0.out); (case side3 => exact uf3_ HR0_1); (case side4 => exact HC0_1.out); rintro e w7 ⟨rfl, hb⟩; refine ⟨_, rfl, ?_⟩; replace BK231 := bb_ BK231 hb; replace HB := Aside0.mk (below_step (qz4_) hb); (try clear hb); (try clear hk hi)))
  go_ret
  exact ⟨g4_, qz4_⟩
 ·rw [if_neg c4] at H
  have c4b0 := decide_eq_false c4
  clear c4
  obtain ⟨t233, A8, H⟩ := bind_ H
  by_cases c9 : t233 < 0
  ·rw [if_pos c9] at H
   have c9b0 := decide_eq_true c9
   clear c9
   obtain rfl := Option.some.inj H
   go_enter Try.func27, Try.ntmps27
   go_wp2_with (first | ((with_reducible refine gate_dst (N := 2) rfl ?_); refine bx_ (N := 2) #[.slice A0_0 l0_0.length c0_0, .slice A0_1 l0_1.length c0_1, .slice A0_2 l0_2.length c0_2] 43 ?_; intro gb231 hg w10 hbox hb; have BK231 := Aside0.mk (hbox); have GW231 := Aside0.mk ((g25_ : w.heap.size ≤ gb231)); have GE231 := Aside0.mk ((g25_ : w.heap.size ≤ gb231)); replace HB := Aside0.mk (below_step (qz4_) hb); clear hb hbox hg; obtain ⟨hcz11_0, hcz11_1, hcz11_2, hfz11_0, hfz11_1, hfz11_2⟩ := blk3_ BK231) | ((with_reducible refine gate_callee (f := 31) rfl ?_); refine goesL_ (some 8) rfl rfl Try.func31 k_ rfl #[.agg #[.slice A0_0 l0_0.length c0_0, .slice A0_1 l0_1.length c0_1], .int .i64 a1] rfl (g2_) ?_; (with_reducible refine (laws_szBook.calls k _ _ l0_0 _ _ l0_1 a1 t232 _ ?side1 ?side2 ?side3 ?side4 A3.out).mono ?_); (case side1 => exact uf3_ HR0_0); (case side2 => exact HC0_0.out); (case side3 => exact uf3_ HR0_1); (case side4 => exact HC0_1.out); rintro e w12 ⟨rfl, hb⟩; refine ⟨_, rfl, ?_⟩; replace BK231 := bb_ BK231 hb; replace HB := Aside0.mk (below_step (qz4_) hb); (try clear hb); (try clear hk hi); obtain ⟨hcz13_0, hcz13_1, hcz13_2, hfz13_0, hfz13_1, hfz13_2⟩ := blk3_ BK231) | ((with_reducible refine gate_callee (f := 75) rfl ?_); refine goesL_ (some 14) rfl rfl Try.func75 k_ rfl #[.slice A0_2 l0_2.length c0_2, .int .i64 t232] rfl (g2_) ?_; (with_reducible refine (laws_szBookS.calls k _ _ l0_2 t232 t233 _ ?side1 ?side2 A8.out).mono ?_); (case side1 => exact uf3_ HR0_2); (case side2 => exact HC0_2.out); rintro e w14 ⟨rfl, hb⟩; refine ⟨_, rfl, ?_⟩; replace BK231 := bb_ BK231 hb; replace HB := Aside0.mk (below_step (qz4_) hb); (try clear hb); (try clear hk hi)))
   go_ret
   exact ⟨g4_, qz4_⟩
  ·rw [if_neg c9] at H
   have c9b0 := decide_eq_false c9
   clear c9
   obtain rfl := Option.some.inj H
   go_enter Try.func27, Try.ntmps27
   go_wp2_with (first | ((with_reducible refine gate_dst (N := 2) rfl ?_); refine bx_ (N := 2) #[.slice A0_0 l0_0.length c0_0, .slice A0_1 l0_1.length c0_1, .slice A0_2 l0_2.length c0_2] 43 ?_; intro gb231 hg w15 hbox hb; have BK231 := Aside0.mk (hbox); have GW231 := Aside0.mk ((g25_ : w.heap.size ≤ gb231)); have GE231 := Aside0.mk ((g25_ : w.heap.size ≤ gb231)); replace HB := Aside0.mk (below_step (qz4_) hb); clear hb hbox hg; obtain ⟨hcz16_0, hcz16_1, hcz16_2, hfz16_0, hfz16_1, hfz16_2⟩ := blk3_ BK231) | ((with_reducible refine gate_callee (f := 31) rfl ?_); refine goesL_ (some 8) rfl rfl Try.func31 k_ rfl #[.agg #[.slice A0_0 l0_0.length c0_0, .slice A0_1 l0_1.length c0_1], .int .i64 a1] rfl (g2_) ?_; (with_reducible refine (laws_szBook.calls k _ _ l0_0 _ _ l0_1 a1 t232 _ ?side1 ?side2 ?side3 ?side4 A3.out).mono ?_); (case side1 => exact uf3_ HR0_0); (case side2 => exact HC0_0.out); (case side3 => exact uf3_ HR0_1); (case side4 => exact HC0_1.out); rintro e w17 ⟨rfl, hb⟩; refine ⟨_, rfl, ?_⟩; replace BK231 := bb_ BK231 hb; replace HB := Aside0.mk (below_step (qz4_) hb); (try clear hb); (try clear hk hi); obtain ⟨hcz18_0, hcz18_1, hcz18_2, hfz18_0, hfz18_1, hfz18_2⟩ := blk3_ BK231) | ((with_reducible refine gate_callee (f := 75) rfl ?_); refine goesL_ (some 14) rfl rfl Try.func75 k_ rfl #[.slice A0_2 l0_2.length c0_2, .int .i64 t232] rfl (g2_) ?_; (with_reducible refine (laws_szBookS.calls k _ _ l0_2 t232 t233 _ ?side1 ?side2 A8.out).mono ?_); (case side1 => exact uf3_ HR0_2); (case side2 => exact HC0_2.out); rintro e w19 ⟨rfl, hb⟩; refine ⟨_, rfl, ?_⟩; replace BK231 := bb_ BK231 hb; replace HB := Aside0.mk (below_step (qz4_) hb); (try clear hb); (try clear hk hi)))
   go_ret
   exact ⟨g4_, qz4_⟩
def spec_l1In.f (a0 : Int) (a1 : Int) (a2 : Int) : Option (Bool) := if a0 ≥ a1 then (some (decide (a0 ≤ a2))) else (some false)
set_option maxHeartbeats 8000000 in
set_option maxRecDepth 100000 in
theorem spec_l1In.calls (a0 : Int) (a1 : Int) (a2 : Int) (r : Bool) (w : World) (h : spec_l1In.f a0 a1 a2 = some r) :
  Calls Try.prog 65 #[.int .i64 a0, .int .i64 a1, .int .i64 a2] w fun e w' => e = .returned (.bool r) ∧ Drawn0 w w' := by
 have H : (if a0 ≥ a1 then (some (decide (a0 ≤ a2))) else (some false)) = some r := h
 clear h
 by_cases c4 : a0 ≥ a1
 ·rw [if_pos c4] at H
  have c4b0 := decide_eq_true c4
  clear c4
  obtain rfl := Option.some.inj H
  go_enter Try.func65, Try.ntmps65
  go_wp2
  go_ret
  exact ⟨g3_, g5_⟩
 ·rw [if_neg c4] at H
  have c4b0 := decide_eq_false c4
  clear c4
  obtain rfl := Option.some.inj H
  go_enter Try.func65, Try.ntmps65
  go_wp2
  go_ret
  exact ⟨g3_, g5_⟩
mutual
def spec_BookOk.j0 : Nat → Bool → List Int → List (List Int) → Option (Bool)
 | 0, _, _, _ => none
 | k + 1, x18, x235000, x235001 => if x18 = true then (some false) else (spec_BookOk.l0 k 0 x235000 x235001)
def spec_BookOk.l0 : Nat → Int → List Int → List (List Int) → Option (Bool)
 | 0, _, _, _ => none
 | k + 1, x3, x235000, x235001 => if x3 < (x235000.length : Int) then (if 0 ≤ x3 then ((spec_l1In.f (rd x235000 x3) 0 20).bind fun t237 => (if t237 = true then (if x3 < (x235001.length : Int) then (if ((rd_L1 x235001 x3).length : Int) = (x235000.length : Int) then (if x3 < ((rd_L1 x235001 x3).length : Int) then (spec_BookOk.j2 k x3 ((rd (rd_L1 x235001 x3) x3) != 0) x235000 x235001) else (none)) else (spec_BookOk.j2 k x3 true x235000 x235001)) else (none)) else (spec_BookOk.j2 k x3 true x235000 x235001))) else (none)) else (some true)
def spec_BookOk.j2 : Nat → Int → Bool → List Int → List (List Int) → Option (Bool)
 | 0, _, _, _, _ => none
 | k + 1, x3, x55, x235000, x235001 => if x55 = true then (some false) else (spec_BookOk.l1 k x3 0 x235000 x235001)
def spec_BookOk.l1 : Nat → Int → Int → List Int → List (List Int) → Option (Bool)
 | 0, _, _, _, _ => none
 | k + 1, x3, x4, x235000, x235001 => if 0 ≤ x3 then (if x3 < (x235001.length : Int) then (if x4 < ((rd_L1 x235001 x3).length : Int) then (if 0 ≤ x4 then ((spec_l1In.f (rd (rd_L1 x235001 x3) x4) 0 9).bind fun t244 => (if t244 = true then (spec_BookOk.l1 k x3 (wrap64 (x4 + 1)) x235000 x235001) else (some false))) else (none)) else (spec_BookOk.l0 k (wrap64 (x3 + 1)) x235000 x235001)) else (none)) else (none)
end
def spec_BookOk.f (k : Nat) (l0_0 : List Int) (l0_1 : List (List Int)) : Option (Bool) := (spec_l1In.f (l0_0.length : Int) 1 4).bind fun t235 => (if t235 = true then (spec_BookOk.j0 k ((l0_1.length : Int) != (l0_0.length : Int)) l0_0 l0_1) else (spec_BookOk.j0 k true l0_0 l0_1))
theorem spec_BookOk.mq {p : Prop} (h : p := by
 repeat' first
 | (with_reducible exact ih0 _ _ _)
 | (with_reducible exact ih1 _ _ _)
 | (with_reducible exact ih2 _ _ _ _)
 | (with_reducible exact ih3 _ _ _ _)
 | (with_reducible exact LeO.refl _)
 | (with_reducible exact LeO.none _)
 | (with_reducible refine LeO.ite ?_ ?_)
 | (with_reducible refine LeO.bind ?_ (fun _ => ?_))
 | exact ih0 _ _ _
 | exact ih1 _ _ _
 | exact ih2 _ _ _ _
 | exact ih3 _ _ _ _
 | exact LeO.none _
 | refine LeO.ite ?_ ?_
 | refine LeO.bind ?_ (fun _ => ?_)) : p := h
theorem spec_BookOk.mono_l : ∀ k, (∀ y0 y1 y2, LeO (spec_BookOk.j0 k y0 y1 y2) (spec_BookOk.j0 (k + 1) y0 y1 y2)) ∧ (∀ y0 y1 y2, LeO (spec_BookOk.l0 k y0 y1 y2) (spec_BookOk.l0 (k + 1) y0 y1 y2)) ∧ (∀ y0 y1 y2 y3, LeO (spec_BookOk.j2 k y0 y1 y2 y3) (spec_BookOk.j2 (k + 1) y0 y1 y2 y3)) ∧ (∀ y0 y1 y2 y3, LeO (spec_BookOk.l1 k y0 y1 y2 y3) (spec_BookOk.l1 (k + 1) y0 y1 y2 y3))
 | 0 => ⟨fun _ _ _ r h => by simp [spec_BookOk.j0] at h, fun _ _ _ r h => by simp [spec_BookOk.l0] at h, fun _ _ _ _ r h => by simp [spec_BookOk.j2] at h, fun _ _ _ _ r h => by simp [spec_BookOk.l1] at h⟩
 | k + 1 => by
  obtain ⟨ih0, ih1, ih2, ih3⟩ := spec_BookOk.mono_l k
  refine ⟨?_, ?_, ?_, ?_⟩
  ·intro y0 y1 y2
   unfold spec_BookOk.j0
   exact spec_BookOk.mq
  ·intro y0 y1 y2
   unfold spec_BookOk.l0
   exact spec_BookOk.mq
  ·intro y0 y1 y2 y3
   unfold spec_BookOk.j2
   exact spec_BookOk.mq
  ·intro y0 y1 y2 y3
   unfold spec_BookOk.l1
   exact spec_BookOk.mq
theorem spec_BookOk.mono : ∀ a0 a1 k, LeO (spec_BookOk.f k a0 a1) (spec_BookOk.f (k + 1) a0 a1) := by
 intro a0 a1 k
 obtain ⟨ih0, ih1, ih2, ih3⟩ := spec_BookOk.mono_l k
 unfold spec_BookOk.f
 exact spec_BookOk.mq
def spec_BookOk.T6 : Bool × List (List Nat × List Nat) := (true, [([], []), ([0], [0]), ([], []), ([1, 2], [1, 2]), ([3], [3]), ([4], [4]), ([5], [5]), ([6, 5], [6]), ([7], [7]), ([8, 7], [7, 8]), ([7], [7]), ([9, 10, 7], [7, 9, 10]), ([11, 7], [7, 11]), ([12, 7], [7, 12]), ([7], [7]), ([14, 7], [7, 14]), ([15, 7], [7, 15]), ([13, 16, 7], [7, 13, 16]), ([7, 17], [7, 17]), ([18, 7], [18]), ([19], [19]), ([20, 19], [19, 20]), ([19], [19]), ([21, 22, 19], [19, 21, 22]), ([23, 19], [19, 23]), ([19], [19]), ([24, 25, 19], [19, 24, 25]), ([26, 19], [19, 26]), ([27, 19], [19, 27]), ([19, 28], [19, 28])])
def spec_BookOk.B6 : List Nat := [0, 1, 0, 7, 15, 31, 63, 127, 255, 511, 255, 2047, 4095, 8191, 255, 16639, 49407, 131071, 262143, 524287, 1048575, 2097151, 1048575, 8388607, 16777215, 1048575, 67108863, 134217727, 268435455, 536870911]
theorem spec_BookOk.tab6 : rtab .any (opsOf Try.f42 6) = spec_BookOk.T6 := by kernel_rfl
theorem spec_BookOk.bits6 : waitsOk spec_BookOk.T6.2 spec_BookOk.B6 = true := by kernel_rfl
theorem qz12_ {p : Prop} (h : p := by repeat (first | (with_reducible first | exact HB.out | apply below_alloc | apply pw_below_drewN | apply below_drew1 | refine below_set ?_ GE234.out) | exact HB.out)) : p := h
set_option maxHeartbeats 8000000 in
set_option maxRecDepth 100000 in
theorem spec_BookOk.calls (k : Nat) (A0_0 : Option Addr) (c0_0 : Nat) (l0_0 : List Int) (A0_1 : Option Addr) (c0_1 : Nat) (l0_1 : List (List Int)) (r : Bool) (w : World) (hr0_0 : Kd.C (Kd.int .i64) w A0_0 l0_0.length l0_0) (hc0_0 : l0_0.length ≤ c0_0) (hr0_1 : Kd.C (Kd.slice 3 (Kd.int .i64)) w A0_1 l0_1.length l0_1) (hc0_1 : l0_1.length ≤ c0_1) (h : spec_BookOk.f k l0_0 l0_1 = some r) :
  Calls Try.prog 42 #[.agg #[.slice A0_0 l0_0.length c0_0, .slice A0_1 l0_1.length c0_1]] w fun e w' => e = .returned (.bool r) ∧ Below w.heap.size w w' := by
 have hu25 := Try.underlying25
 have HR0_0 := Aside0.mk hr0_0
 have HC0_0 := Aside0.mk hc0_0
 clear hr0_0 hc0_0
 have HR0_1 := Aside0.mk hr0_1
 have HC0_1 := Aside0.mk hc0_1
 clear hr0_1 hc0_1
 have HB := Aside0.mk (Below.refl w.heap.size w)
 have H : ((spec_l1In.f (l0_0.length : Int) 1 4).bind fun t235 => (if t235 = true then (spec_BookOk.j0 k ((l0_1.length : Int) != (l0_0.length : Int)) l0_0 l0_1) else (spec_BookOk.j0 k true l0_0 l0_1))) = some r := h
 clear h
 have HC2 := Aside0.mk H
 clear H
 go_enter Try.func42, Try.ntmps42
 go_upto_region 1 with (first | ((with_reducible refine gate_dst (N := 1) rfl ?_); (try (refine gate_guard (by rfl) ?_; dsimp only)); refine bx_ (N := 1) #[.slice A0_0 l0_0.length c0_0, .slice A0_1 l0_1.length c0_1] 25 ?_; intro gb234 hg w3 hbox hb; have BK234 := Aside0.mk (hbox); have GW234 := Aside0.mk ((by rw [hg]; exact (below_size (qz12_)) : w.heap.size ≤ gb234)); have GE234 := Aside0.mk ((by rw [hg]; exact (below_size (qz12_)) : w.heap.size ≤ gb234)); replace HB := Aside0.mk (below_step (qz12_) hb); clear hb hbox hg))
 (try simp only [Act.put, List.setIfInBounds_toArray, List.set_cons_zero, List.set_cons_succ])
 go_cut [18] (fun v18 wc => ∃ (kq : Nat) (x18_1 : Bool), v18 = .bool x18_1 ∧ Aside0 (spec_BookOk.j0 kq x18_1 l0_0 l0_1 = some r) ∧ Aside0 (kq ≤ k) ∧ Aside0 (wc.heap[gb234]? = some (.cells #[(.slice A0_0 l0_0.length c0_0), (.slice A0_1 l0_1.length c0_1)] 25 (0, 0))) ∧ Aside0 (Below w.heap.size w wc))
 case first =>
  have H := HC2.out
  clear HC2
  obtain ⟨t235, A4, H⟩ := bind_ H
  by_cases c5 : t235 = true
  ·subst c5
   replace H := ifp_ H
   have H' := Aside0.mk H
   clear H
   obtain ⟨hcz6_0, hcz6_1, hfz6_0, hfz6_1⟩ := blk2_ BK234
   go_wp2_with (first | ((with_reducible refine gate_callee (f := 65) rfl ?_); refine goesL_ (some 8) rfl rfl Try.func65 k_ rfl #[.int .i64 (l0_0.length : Int), .int .i64 1, .int .i64 4] rfl (g2_) ?_; (with_reducible refine (spec_l1In.calls (l0_0.length : Int) 1 4 true _ A4.out).mono ?_); rintro e w' ⟨rfl, ⟨nd, rfl⟩⟩; refine ⟨_, rfl, ?_⟩))
   go_meet
   case rel => exact ⟨_, (((l0_1.length : Int) != (l0_0.length : Int))), (g3_), H', ⟨g15_⟩, ⟨uf0_ BK234⟩, ⟨qz12_⟩⟩
  ·replace c5 := Bool.eq_false_iff.mpr c5
   subst c5
   replace H := ifn_ H
   have H' := Aside0.mk H
   clear H
   obtain ⟨hcz7_0, hcz7_1, hfz7_0, hfz7_1⟩ := blk2_ BK234
   go_wp2_with (first | ((with_reducible refine gate_callee (f := 65) rfl ?_); refine goesL_ (some 8) rfl rfl Try.func65 k_ rfl #[.int .i64 (l0_0.length : Int), .int .i64 1, .int .i64 4] rfl (g2_) ?_; (with_reducible refine (spec_l1In.calls (l0_0.length : Int) 1 4 false _ A4.out).mono ?_); rintro e w' ⟨rfl, ⟨nd, rfl⟩⟩; refine ⟨_, rfl, ?_⟩))
   go_meet
   case rel => exact ⟨_, (true), (g3_), H', ⟨g15_⟩, ⟨uf0_ BK234⟩, ⟨qz12_⟩⟩
 case rest =>
  clear HC2
  try clear p2
  try clear c4
  try clear c5
  try clear c6
  try clear hcz6_0
  try clear hcz6_1
  try clear hcz7_0
  try clear hcz7_1
  try clear hfz6_0
  try clear hfz6_1
  try clear hfz7_0
  try clear hfz7_1
  obtain ⟨kq, x18_1, rfl, HA, HJ1, BK234, HB⟩ := hcut
  cases kq with
  | zero => exact absurd HA.out (by simp [spec_BookOk.j0])
  | succ kj1 =>
   have H := HA.out
   clear HA
   simp only [spec_BookOk.j0] at H
   by_cases c8 : x18_1 = true
   ·subst c8
    replace H := ifp_ H
    obtain rfl := Option.some.inj H
    go_wp2
    go_ret
    exact ⟨g4_, qz12_⟩
   ·replace c8 := Bool.eq_false_iff.mpr c8
    subst c8
    replace H := ifn_ H
    have H' := Aside0.mk H
    clear H
    go_wp2
    go_loopg [3] kj1 (fun kq v3 w' => ∃ (x3_2 : Int), v3 = .int .i64 x3_2 ∧ Aside0 (spec_BookOk.l0 kq x3_2 l0_0 l0_1 = some r) ∧ Aside0 (kq ≤ kj1) ∧ Aside0 (w'.heap[gb234]? = some (.cells #[(.slice A0_0 l0_0.length c0_0), (.slice A0_1 l0_1.length c0_1)] 25 (0, 0))) ∧ Aside0 (Below w.heap.size w w'))
    case atStart => exact ⟨(0), (g3_), H', ⟨Nat.le_refl _⟩, ⟨uf0_ BK234⟩, ⟨qz12_⟩⟩
    case round =>
     clear H'
     try clear p2
     try clear c4
     try clear c5
     try clear c6
     try clear c8
     try clear hcz6_0
     try clear hcz6_1
     try clear hcz7_0
     try clear hcz7_1
     try clear hfz6_0
     try clear hfz6_1
     try clear hfz7_0
     try clear hfz7_1
     try clear p2
     obtain ⟨x3_2, rfl, HA, HK2, BK234, HB⟩ := hrel
     cases gk with
     | zero => exact absurd HA.out (by simp [spec_BookOk.l0])
     | succ k2 =>
      have H := HA.out
      clear HA
      simp only [spec_BookOk.l0] at H
      by_cases c9 : x3_2 < (l0_0.length : Int)
      ·rw [if_pos c9] at H
       have c9b0 := decide_eq_true c9
       clear c9
       have HC10 := Aside0.mk H
       clear H
       obtain ⟨hcz11_0, hcz11_1, hfz11_0, hfz11_1⟩ := blk2_ BK234
       go_upto_region 6 with (fail)
       go_cut [55] (fun v55 wc => ∃ (kq : Nat) (x55_9 : Bool), v55 = .bool x55_9 ∧ Aside0 (spec_BookOk.j2 kq x3_2 x55_9 l0_0 l0_1 = some r) ∧ Aside0 (kq ≤ k2) ∧ Aside0 (wc.heap[gb234]? = some (.cells #[(.slice A0_0 l0_0.length c0_0), (.slice A0_1 l0_1.length c0_1)] 25 (0, 0))) ∧ Aside0 (Below w.heap.size w wc))
       case first =>
        have H := HC10.out
        clear HC10
        obtain ⟨c12, H⟩ := pos_ H
        have c12b0 := decide_eq_true c12
        clear c12
        (first | rw [c12b0] | (simp only [i64_w, i32_w]; rw [c12b0]) | skip)
        obtain ⟨t237, A13, H⟩ := bind_ H
        by_cases c14 : t237 = true
        ·subst c14
         replace H := ifp_ H
         obtain ⟨c15, H⟩ := pos_ H
         have c15b0 := decide_eq_true c15
         clear c15
         by_cases c16 : ((rd_L1 l0_1 x3_2).length : Int) = (l0_0.length : Int)
         ·rw [if_pos c16] at H
          have c16b0 : (((rd_L1 l0_1 x3_2).length : Int) == (l0_0.length : Int)) = true := beq_iff_eq.mpr c16
          have c16b1 : (((rd_L1 l0_1 x3_2).length : Int) != (l0_0.length : Int)) = false := bne_eq_false_iff_eq.mpr c16
          have c16b2 : ((rd_L1 l0_1 x3_2).length == l0_0.length) = true := by first | simpa using c16 | (simp at c16 ⊢; omega)
          clear c16
          obtain ⟨c17, H⟩ := pos_ H
          have c17b0 := decide_eq_true c17
          clear c17
          have H' := Aside0.mk H
          clear H
          try go_wp2
          replace BK234 := Aside0.mk (blk_drew BK234.out)
          replace HB := Aside0.mk (below_drew1 HB.out)
          have p236 : 0 ≤ (x3_2 : Int) := of_decide_eq_true (g0_)
          have q236 : x3_2 < (l0_0.length : Int) := of_decide_eq_true (g0_)
          obtain ⟨ad236, e236, hx236_0⟩ := Kd.at_int HR0_0.out x3_2 p236 q236
          have hw236_0 := hx236_0
          cases e236
          replace hx236_0 := cl_ HB hx236_0
          replace p236 := eq_true p236
          replace q236 := eq_true q236
          have p238 : 0 ≤ (x3_2 : Int) := of_decide_eq_true (g0_)
          have q238 : x3_2 < (l0_1.length : Int) := of_decide_eq_true (g0_)
          obtain ⟨ad238, A238_0, c238_0, e238, hx238_0, hl238_0, hi238_0⟩ := at_L1 HR0_1.out x3_2 p238 q238
          have hw238_0 := hx238_0
          cases e238
          replace hx238_0 := cl_ HB hx238_0
          have HR238_0 := Aside0.mk hi238_0
          have HC238_0 := Aside0.mk hl238_0
          clear hi238_0 hl238_0
          replace p238 := eq_true p238
          replace q238 := eq_true q238
          have p239 : 0 ≤ (x3_2 : Int) := of_decide_eq_true (g0_)
          have q239 : x3_2 < (l0_1.length : Int) := of_decide_eq_true (g0_)
          obtain ⟨ad239, A239_0, c239_0, e239, hx239_0, hl239_0, hi239_0⟩ := at_L1 HR0_1.out x3_2 p239 q239
          have hw239_0 := hx239_0
          obtain rfl : ad238 = ad239 := (by injection e239)
          replace hx239_0 := cl_ HB hx239_0
          have HR239_0 := Aside0.mk hi239_0
          have HC239_0 := Aside0.mk hl239_0
          clear hi239_0 hl239_0
          replace p239 := eq_true p239
          replace q239 := eq_true q239
          have ea_ := Option.some.inj (hx238_0.symm.trans hx239_0)
          injection ea_ with ea_ en_ ec_
          subst ea_
          subst ec_
          clear en_
          have p240 : 0 ≤ (x3_2 : Int) := of_decide_eq_true (g0_)
          have q240 : x3_2 < ((rd_L1 l0_1 x3_2).length : Int) := of_decide_eq_true (g0_)
          obtain ⟨ad240, e240, hx240_0⟩ := Kd.at_int HR239_0.out x3_2 p240 q240
          have hw240_0 := hx240_0
          cases e240
          replace hx240_0 := cl_ HB hx240_0
          replace p240 := eq_true p240
          replace q240 := eq_true q240
          refine start_ (n := 30) (S := fun w' => w'.cell? ⟨gb234, 0, none⟩ = some (.slice (some ad236) l0_0.length c0_0) ∧ w'.cell? ⟨gb234, 1, none⟩ = some (.slice (some ad238) l0_1.length c0_1) ∧ w'.cell? (ad236.add (x3_2).toNat) = some (.int .i64 (rd l0_0 x3_2)) ∧ w'.cell? (ad238.add (x3_2).toNat) = some (.slice (some ad240) (rd_L1 l0_1 x3_2).length c238_0) ∧ w'.cell? (ad238.add (x3_2).toNat) = some (.slice (some ad240) (rd_L1 l0_1 x3_2).length c238_0) ∧ w'.cell? (ad240.add (x3_2).toNat) = some (.int .i64 (rd (rd_L1 l0_1 x3_2) x3_2))) (ds := []) (tl_ 30 0) (g1_) rfl (g1_) ⟨(blk_cell BK234.out 0).trans rfl, (blk_cell BK234.out 1).trans rfl, ((cl_ HB hw236_0).trans rfl), ((cl_ HB hw238_0).trans rfl), ((cl_ HB hw239_0).trans rfl), ((cl_ HB hw240_0).trans rfl)⟩ (fun hHeld => ?_); refine with_tabW spec_BookOk.tab6 spec_BookOk.bits6 (fun HT_ HW_ => ?_)
          generalize wr.drew = w18 at BK234 HB HR238_0 HR239_0 hx236_0 hx238_0 hx239_0 hx240_0 hHeld ⊢
          refine pw_ 0 26 (tl_ 30 1) rfl rfl ?_
          refine pw_ 2 28 (tl_ 30 5) rfl rfl ?_
          refine tk3_ 1 27 (tl_ 30 7) rfl rfl hHeld ?_
          refine pw_ 3 29 (tl_ 30 15) rfl rfl ?_
          refine tk3_ 4 30 (tl_ 30 31) rfl rfl hHeld ?_
          refine one_ (i := 5) (N := some 31) (tl_ 30 63) rfl rfl (one_of HT_.out (g1_)) (by decide) (fun K hK => ?_)
          refine goes_ Try.func65 (g1_) rfl #[.int .i64 (rd l0_0 x3_2), .int .i64 0, .int .i64 20] (by rfl) rfl rfl (g2_) ?_
          with_reducible refine (spec_l1In.calls (rd l0_0 x3_2) 0 20 true _ A13.out).mono ?_
          rintro e w' ⟨rfl, ⟨nd, rfl⟩⟩
          refine ⟨_, rfl, ?_⟩
          refine hK.out _ _ ⟨(blk_cell BK234.out 0).trans rfl, (blk_cell BK234.out 1).trans rfl, ((cl_ HB hw236_0).trans rfl), ((cl_ HB hw238_0).trans rfl), ((cl_ HB hw239_0).trans rfl), ((cl_ HB hw240_0).trans rfl)⟩ (fun hHeld => ?_)
          clear hK K
          refine nm_ ?_
          refine pw_ 6 32 (tl_ 30 127) rfl rfl ?_
          refine pw_ 7 33 (tl_ 30 255) rfl rfl ?_
          refine pw_ 8 34 (tl_ 30 511) rfl rfl ?_
          refine pw_ 10 36 (tl_ 30 1535) rfl rfl ?_
          refine pw_ 14 40 (tl_ 30 17919) rfl rfl ?_
          refine tk3_ 9 35 (tl_ 30 18431) rfl rfl hHeld ?_
          refine pw_ 11 37 (tl_ 30 20479) rfl rfl ?_
          refine tk3_ 12 38 (tl_ 30 24575) rfl rfl hHeld ?_
          refine pw_ 13 39 (tl_ 30 32767) rfl rfl ?_
          refine tk3_ 15 41 (tl_ 30 65535) rfl rfl hHeld ?_
          refine pw_ 16 42 (tl_ 30 131071) rfl rfl ?_
          refine pw_ 17 43 (tl_ 30 262143) rfl rfl ?_
          refine pw_ 18 44 (tl_ 30 524287) rfl rfl ?_
          refine pw_ 19 45 (tl_ 30 1048575) rfl rfl ?_
          refine pw_ 20 46 (tl_ 30 2097151) rfl rfl ?_
          refine pw_ 22 48 (tl_ 30 6291455) rfl rfl ?_
          refine pw_ 25 51 (tl_ 30 39845887) rfl rfl ?_
          refine tk3_ 21 47 (tl_ 30 41943039) rfl rfl hHeld ?_
          refine pw_ 23 49 (tl_ 30 50331647) rfl rfl ?_
          refine tk3_ 24 50 (tl_ 30 67108863) rfl rfl hHeld ?_
          refine pw_ 26 52 (tl_ 30 134217727) rfl rfl ?_
          refine tk3_ 27 53 (tl_ 30 268435455) rfl rfl hHeld ?_
          refine pw_ 28 54 (tl_ 30 536870911) rfl rfl ?_
          refine pw_ 29 55 (tl_ 30 1073741823) rfl rfl ?_
          refine done_ (done_of HT_.out (g1_)) ?_
          try go_wp2
          go_meet
          case rel => exact ⟨_, (((rd (rd_L1 l0_1 x3_2) x3_2) != 0)), (g3_), H', ⟨g22_⟩, ⟨uf0_ BK234⟩, ⟨qz12_⟩⟩
         ·rw [if_neg c16] at H
          have c16b0 : (((rd_L1 l0_1 x3_2).length : Int) == (l0_0.length : Int)) = false := beq_eq_false_iff_ne.mpr c16
          have c16b1 : (((rd_L1 l0_1 x3_2).length : Int) != (l0_0.length : Int)) = true := bne_iff_ne.mpr c16
          have c16b2 : ((rd_L1 l0_1 x3_2).length == l0_0.length) = false := by first | simpa using c16 | (simp at c16 ⊢; omega)
          have H' := Aside0.mk H
          clear H
          try go_wp2
          replace BK234 := Aside0.mk (blk_drew BK234.out)
          replace HB := Aside0.mk (below_drew1 HB.out)
          have p236 : 0 ≤ (x3_2 : Int) := of_decide_eq_true (g0_)
          have q236 : x3_2 < (l0_0.length : Int) := of_decide_eq_true (g0_)
          obtain ⟨ad236, e236, hx236_0⟩ := Kd.at_int HR0_0.out x3_2 p236 q236
          have hw236_0 := hx236_0
          cases e236
          replace hx236_0 := cl_ HB hx236_0
          replace p236 := eq_true p236
          replace q236 := eq_true q236
          have p238 : 0 ≤ (x3_2 : Int) := of_decide_eq_true (g0_)
          have q238 : x3_2 < (l0_1.length : Int) := of_decide_eq_true (g0_)
          obtain ⟨ad238, A238_0, c238_0, e238, hx238_0, hl238_0, hi238_0⟩ := at_L1 HR0_1.out x3_2 p238 q238
          have hw238_0 := hx238_0
          cases e238
          replace hx238_0 := cl_ HB hx238_0
          have HR238_0 := Aside0.mk hi238_0
          have HC238_0 := Aside0.mk hl238_0
          clear hi238_0 hl238_0
          replace p238 := eq_true p238
          replace q238 := eq_true q238
          refine start_ (n := 30) (S := fun w' => w'.cell? ⟨gb234, 0, none⟩ = some (.slice (some ad236) l0_0.length c0_0) ∧ w'.cell? ⟨gb234, 1, none⟩ = some (.slice (some ad238) l0_1.length c0_1) ∧ w'.cell? (ad236.add (x3_2).toNat) = some (.int .i64 (rd l0_0 x3_2)) ∧ w'.cell? (ad238.add (x3_2).toNat) = some (.slice A238_0 (rd_L1 l0_1 x3_2).length c238_0)) (ds := []) (tl_ 30 0) (g1_) rfl (g1_) ⟨(blk_cell BK234.out 0).trans rfl, (blk_cell BK234.out 1).trans rfl, ((cl_ HB hw236_0).trans rfl), ((cl_ HB hw238_0).trans rfl)⟩ (fun hHeld => ?_); refine with_tabW spec_BookOk.tab6 spec_BookOk.bits6 (fun HT_ HW_ => ?_)
          generalize wr.drew = w19 at BK234 HB HR238_0 hx236_0 hx238_0 hHeld ⊢
          refine pw_ 0 26 (tl_ 30 1) rfl rfl ?_
          refine pw_ 2 28 (tl_ 30 5) rfl rfl ?_
          refine tk2_ 1 27 (tl_ 30 7) rfl rfl hHeld ?_
          refine pw_ 3 29 (tl_ 30 15) rfl rfl ?_
          refine tk2_ 4 30 (tl_ 30 31) rfl rfl hHeld ?_
          refine one_ (i := 5) (N := some 31) (tl_ 30 63) rfl rfl (one_of HT_.out (g1_)) (by decide) (fun K hK => ?_)
          refine goes_ Try.func65 (g1_) rfl #[.int .i64 (rd l0_0 x3_2), .int .i64 0, .int .i64 20] (by rfl) rfl rfl (g2_) ?_
          with_reducible refine (spec_l1In.calls (rd l0_0 x3_2) 0 20 true _ A13.out).mono ?_
          rintro e w' ⟨rfl, ⟨nd, rfl⟩⟩
          refine ⟨_, rfl, ?_⟩
          refine hK.out _ _ ⟨(blk_cell BK234.out 0).trans rfl, (blk_cell BK234.out 1).trans rfl, ((cl_ HB hw236_0).trans rfl), ((cl_ HB hw238_0).trans rfl)⟩ (fun hHeld => ?_)
          clear hK K
          refine nm_ ?_
          refine pw_ 6 32 (tl_ 30 127) rfl rfl ?_
          refine pw_ 7 33 (tl_ 30 255) rfl rfl ?_
          refine pw_ 8 34 (tl_ 30 511) rfl rfl ?_
          refine pw_ 10 36 (tl_ 30 1535) rfl rfl ?_
          refine pw_ 14 40 (tl_ 30 17919) rfl rfl ?_
          refine tk2_ 9 35 (tl_ 30 18431) rfl rfl hHeld ?_
          refine pw_ 11 37 (tl_ 30 20479) rfl rfl ?_
          refine tk2_ 12 38 (tl_ 30 24575) rfl rfl hHeld ?_
          refine pw_ 13 39 (tl_ 30 32767) rfl rfl ?_
          refine tk2_ 15 41 (tl_ 30 65535) rfl rfl hHeld ?_
          refine pw_ 16 42 (tl_ 30 131071) rfl rfl ?_
          refine pw_ 17 43 (tl_ 30 262143) rfl rfl ?_
          refine pw_ 18 44 (tl_ 30 524287) rfl rfl ?_
          refine pw_ 19 45 (tl_ 30 1048575) rfl rfl ?_
          refine pu_ 20 46 (tl_ 30 2097151) rfl rfl ?_
          refine pu_ 21 47 (tl_ 30 4194303) rfl rfl ?_
          refine pu_ 22 48 (tl_ 30 8388607) rfl rfl ?_
          refine pu_ 23 49 (tl_ 30 16777215) rfl rfl ?_
          refine pu_ 24 50 (tl_ 30 33554431) rfl rfl ?_
          refine pu_ 25 51 (tl_ 30 67108863) rfl rfl ?_
          refine pu_ 26 52 (tl_ 30 134217727) rfl rfl ?_
          refine pu_ 27 53 (tl_ 30 268435455) rfl rfl ?_
          refine pu_ 28 54 (tl_ 30 536870911) rfl rfl ?_
          refine pw_ 29 55 (tl_ 30 1073741823) rfl rfl ?_
          refine done_ (done_of HT_.out (g1_)) ?_
          try go_wp2
          go_meet
          case rel => exact ⟨_, (true), (g3_), H', ⟨g22_⟩, ⟨uf0_ BK234⟩, ⟨qz12_⟩⟩
        ·replace c14 := Bool.eq_false_iff.mpr c14
         subst c14
         replace H := ifn_ H
         have H' := Aside0.mk H
         clear H
         try go_wp2
         replace BK234 := Aside0.mk (blk_drew BK234.out)
         replace HB := Aside0.mk (below_drew1 HB.out)
         have p236 : 0 ≤ (x3_2 : Int) := of_decide_eq_true (g0_)
         have q236 : x3_2 < (l0_0.length : Int) := of_decide_eq_true (g0_)
         obtain ⟨ad236, e236, hx236_0⟩ := Kd.at_int HR0_0.out x3_2 p236 q236
         have hw236_0 := hx236_0
         cases e236
         replace hx236_0 := cl_ HB hx236_0
         replace p236 := eq_true p236
         replace q236 := eq_true q236
         refine start_ (n := 30) (S := fun w' => w'.cell? ⟨gb234, 0, none⟩ = some (.slice (some ad236) l0_0.length c0_0) ∧ w'.cell? ⟨gb234, 1, none⟩ = some (.slice A0_1 l0_1.length c0_1) ∧ w'.cell? (ad236.add (x3_2).toNat) = some (.int .i64 (rd l0_0 x3_2))) (ds := []) (tl_ 30 0) (g1_) rfl (g1_) ⟨(blk_cell BK234.out 0).trans rfl, (blk_cell BK234.out 1).trans rfl, ((cl_ HB hw236_0).trans rfl)⟩ (fun hHeld => ?_); refine with_tabW spec_BookOk.tab6 spec_BookOk.bits6 (fun HT_ HW_ => ?_)
         generalize wr.drew = w20 at BK234 HB hx236_0 hHeld ⊢
         refine pw_ 0 26 (tl_ 30 1) rfl rfl ?_
         refine pw_ 2 28 (tl_ 30 5) rfl rfl ?_
         refine tk4_ 1 27 (tl_ 30 7) rfl rfl hHeld ?_
         refine pw_ 3 29 (tl_ 30 15) rfl rfl ?_
         refine tk4_ 4 30 (tl_ 30 31) rfl rfl hHeld ?_
         refine one_ (i := 5) (N := some 31) (tl_ 30 63) rfl rfl (one_of HT_.out (g1_)) (by decide) (fun K hK => ?_)
         refine goes_ Try.func65 (g1_) rfl #[.int .i64 (rd l0_0 x3_2), .int .i64 0, .int .i64 20] (by rfl) rfl rfl (g2_) ?_
         with_reducible refine (spec_l1In.calls (rd l0_0 x3_2) 0 20 false _ A13.out).mono ?_
         rintro e w' ⟨rfl, ⟨nd, rfl⟩⟩
         refine ⟨_, rfl, ?_⟩
         refine hK.out _ _ ⟨(blk_cell BK234.out 0).trans rfl, (blk_cell BK234.out 1).trans rfl, ((cl_ HB hw236_0).trans rfl)⟩ (fun hHeld => ?_)
         clear hK K
         refine nm_ ?_
         refine pw_ 6 32 (tl_ 30 127) rfl rfl ?_
         refine pw_ 7 33 (tl_ 30 255) rfl rfl ?_
         refine pu_ 8 34 (tl_ 30 511) rfl rfl ?_
         refine pu_ 9 35 (tl_ 30 1023) rfl rfl ?_
         refine pu_ 10 36 (tl_ 30 2047) rfl rfl ?_
         refine pu_ 11 37 (tl_ 30 4095) rfl rfl ?_
         refine pu_ 12 38 (tl_ 30 8191) rfl rfl ?_
         refine pu_ 13 39 (tl_ 30 16383) rfl rfl ?_
         refine pu_ 14 40 (tl_ 30 32767) rfl rfl ?_
         refine pu_ 15 41 (tl_ 30 65535) rfl rfl ?_
         refine pu_ 16 42 (tl_ 30 131071) rfl rfl ?_
         refine pu_ 17 43 (tl_ 30 262143) rfl rfl ?_
         refine pw_ 18 44 (tl_ 30 524287) rfl rfl ?_
         refine pw_ 19 45 (tl_ 30 1048575) rfl rfl ?_
         refine pu_ 20 46 (tl_ 30 2097151) rfl rfl ?_
         refine pu_ 21 47 (tl_ 30 4194303) rfl rfl ?_
         refine pu_ 22 48 (tl_ 30 8388607) rfl rfl ?_
         refine pu_ 23 49 (tl_ 30 16777215) rfl rfl ?_
         refine pu_ 24 50 (tl_ 30 33554431) rfl rfl ?_
         refine pu_ 25 51 (tl_ 30 67108863) rfl rfl ?_
         refine pu_ 26 52 (tl_ 30 134217727) rfl rfl ?_
         refine pu_ 27 53 (tl_ 30 268435455) rfl rfl ?_
         refine pu_ 28 54 (tl_ 30 536870911) rfl rfl ?_
         refine pw_ 29 55 (tl_ 30 1073741823) rfl rfl ?_
         refine done_ (done_of HT_.out (g1_)) ?_
         try go_wp2
         go_meet
         case rel => exact ⟨_, (true), (g3_), H', ⟨g22_⟩, ⟨uf0_ BK234⟩, ⟨qz12_⟩⟩
       case rest =>
        clear HC10
        try clear c1
        try clear c2
        try clear p2
        try clear q2
        try clear hx2
        try clear c6
        try clear c12
        try clear c14
        try clear c15
        try clear c16
        try clear c16b0
        try clear c16b1
        try clear c16b2
        try clear c17
        try clear hx236_0
        try clear hx238_0
        try clear p236
        try clear p238
        try clear q236
        try clear q238
        obtain ⟨kq, x55_9, rfl, HA, HJ9, BK234, HB⟩ := hcut
        cases kq with
        | zero => exact absurd HA.out (by simp [spec_BookOk.j2])
        | succ kj9 =>
         have H := HA.out
         clear HA
         simp only [spec_BookOk.j2] at H
         by_cases c21 : x55_9 = true
         ·subst c21
          replace H := ifp_ H
          obtain rfl := Option.some.inj H
          go_wp2
          go_ret
          exact ⟨g4_, qz12_⟩
         ·replace c21 := Bool.eq_false_iff.mpr c21
          subst c21
          replace H := ifn_ H
          have H' := Aside0.mk H
          clear H
          go_wp2
          go_loopg [4] kj9 (fun kq v4 w' => ∃ (x4_4 : Int), v4 = .int .i64 x4_4 ∧ Aside0 (spec_BookOk.l1 kq x3_2 x4_4 l0_0 l0_1 = some r) ∧ Aside0 (kq ≤ kj9) ∧ Aside0 (w'.heap[gb234]? = some (.cells #[(.slice A0_0 l0_0.length c0_0), (.slice A0_1 l0_1.length c0_1)] 25 (0, 0))) ∧ Aside0 (Below w.heap.size w w'))
          case atStart => exact ⟨(0), (g3_), H', ⟨Nat.le_refl _⟩, ⟨uf0_ BK234⟩, ⟨qz12_⟩⟩
          case round =>
           clear H'
           try clear c1
           try clear c2
           try clear p2
           try clear q2
           try clear hx2
           try clear c6
           try clear c12
           try clear c14
           try clear c15
           try clear c16
           try clear c16b0
           try clear c16b1
           try clear c16b2
           try clear c17
           try clear c21
           try clear hx236_0
           try clear hx238_0
           try clear p2
           try clear p236
           try clear p238
           try clear q2
           try clear q236
           try clear q238
           obtain ⟨x4_4, rfl, HA, HK4, BK234, HB⟩ := hrel
           cases gk with
           | zero => exact absurd HA.out (by simp [spec_BookOk.l1])
           | succ k4 =>
            have H := HA.out
            clear HA
            simp only [spec_BookOk.l1] at H
            obtain ⟨c22, H⟩ := pos_ H
            have c22b0 := decide_eq_true c22
            clear c22
            obtain ⟨c23, H⟩ := pos_ H
            have c23b0 := decide_eq_true c23
            clear c23
            by_cases c24 : x4_4 < ((rd_L1 l0_1 x3_2).length : Int)
            ·rw [if_pos c24] at H
             have c24b0 := decide_eq_true c24
             clear c24
             obtain ⟨c25, H⟩ := pos_ H
             have c25b0 := decide_eq_true c25
             clear c25
             obtain ⟨t244, A26, H⟩ := bind_ H
             by_cases c27 : t244 = true
             ·subst c27
              replace H := ifp_ H
              have H' := Aside0.mk H
              clear H
              obtain ⟨hcz28_0, hcz28_1, hfz28_0, hfz28_1⟩ := blk2_ BK234
              have p241 : 0 ≤ (x3_2 : Int) := of_decide_eq_true (g0_)
              have q241 : x3_2 < (l0_1.length : Int) := of_decide_eq_true (g0_)
              obtain ⟨ad241, A241_0, c241_0, e241, hx241_0, hl241_0, hi241_0⟩ := at_L1 HR0_1.out x3_2 p241 q241
              cases e241
              replace hx241_0 := cl_ HB hx241_0
              have HR241_0 := Aside0.mk hi241_0
              have HC241_0 := Aside0.mk hl241_0
              clear hi241_0 hl241_0
              replace p241 := eq_true p241
              replace q241 := eq_true q241
              have p242 : 0 ≤ (x3_2 : Int) := of_decide_eq_true (g0_)
              have q242 : x3_2 < (l0_1.length : Int) := of_decide_eq_true (g0_)
              obtain ⟨ad242, A242_0, c242_0, e242, hx242_0, hl242_0, hi242_0⟩ := at_L1 HR0_1.out x3_2 p242 q242
              obtain rfl : ad241 = ad242 := (by injection e242)
              replace hx242_0 := cl_ HB hx242_0
              have HR242_0 := Aside0.mk hi242_0
              have HC242_0 := Aside0.mk hl242_0
              clear hi242_0 hl242_0
              replace p242 := eq_true p242
              replace q242 := eq_true q242
              have ea_ := Option.some.inj (hx241_0.symm.trans hx242_0)
              injection ea_ with ea_ en_ ec_
              subst ea_
              subst ec_
              clear en_
              have p243 : 0 ≤ (x4_4 : Int) := of_decide_eq_true (g0_)
              have q243 : x4_4 < ((rd_L1 l0_1 x3_2).length : Int) := of_decide_eq_true (g0_)
              obtain ⟨ad243, e243, hx243_0⟩ := Kd.at_int HR242_0.out x4_4 p243 q243
              cases e243
              replace hx243_0 := cl_ HB hx243_0
              replace p243 := eq_true p243
              replace q243 := eq_true q243
              go_wp2_with (first | ((with_reducible refine gate_callee (f := 65) rfl ?_); refine goesL_ (some 74) rfl rfl Try.func65 k_ rfl #[.int .i64 (rd (rd_L1 l0_1 x3_2) x4_4), .int .i64 0, .int .i64 9] rfl (g2_) ?_; (with_reducible refine (spec_l1In.calls (rd (rd_L1 l0_1 x3_2) x4_4) 0 9 true _ A26.out).mono ?_); rintro e w' ⟨rfl, ⟨nd, rfl⟩⟩; refine ⟨_, rfl, ?_⟩))
              go_roundg k4
              case measure => have := HJ1.out; have := HK2.out; have := HJ9.out; have := HK4.out; omega
              case rel => exact ⟨(wrap64 (x4_4 + 1)), (g3_), H', ⟨by have := HJ1.out; have := HK2.out; have := HJ9.out; have := HK4.out; omega⟩, ⟨uf0_ BK234⟩, ⟨qz12_⟩⟩
             ·replace c27 := Bool.eq_false_iff.mpr c27
              subst c27
              replace H := ifn_ H
              obtain rfl := Option.some.inj H
              obtain ⟨hcz29_0, hcz29_1, hfz29_0, hfz29_1⟩ := blk2_ BK234
              have p241 : 0 ≤ (x3_2 : Int) := of_decide_eq_true (g0_)
              have q241 : x3_2 < (l0_1.length : Int) := of_decide_eq_true (g0_)
              obtain ⟨ad241, A241_0, c241_0, e241, hx241_0, hl241_0, hi241_0⟩ := at_L1 HR0_1.out x3_2 p241 q241
              cases e241
              replace hx241_0 := cl_ HB hx241_0
              have HR241_0 := Aside0.mk hi241_0
              have HC241_0 := Aside0.mk hl241_0
              clear hi241_0 hl241_0
              replace p241 := eq_true p241
              replace q241 := eq_true q241
              have p242 : 0 ≤ (x3_2 : Int) := of_decide_eq_true (g0_)
              have q242 : x3_2 < (l0_1.length : Int) := of_decide_eq_true (g0_)
              obtain ⟨ad242, A242_0, c242_0, e242, hx242_0, hl242_0, hi242_0⟩ := at_L1 HR0_1.out x3_2 p242 q242
              obtain rfl : ad241 = ad242 := (by injection e242)
              replace hx242_0 := cl_ HB hx242_0
              have HR242_0 := Aside0.mk hi242_0
              have HC242_0 := Aside0.mk hl242_0
              clear hi242_0 hl242_0
              replace p242 := eq_true p242
              replace q242 := eq_true q242
              have ea_ := Option.some.inj (hx241_0.symm.trans hx242_0)
              injection ea_ with ea_ en_ ec_
              subst ea_
              subst ec_
              clear en_
              have p243 : 0 ≤ (x4_4 : Int) := of_decide_eq_true (g0_)
              have q243 : x4_4 < ((rd_L1 l0_1 x3_2).length : Int) := of_decide_eq_true (g0_)
              obtain ⟨ad243, e243, hx243_0⟩ := Kd.at_int HR242_0.out x4_4 p243 q243
              cases e243
              replace hx243_0 := cl_ HB hx243_0
              replace p243 := eq_true p243
              replace q243 := eq_true q243
              go_wp2_with (first | ((with_reducible refine gate_callee (f := 65) rfl ?_); refine goesL_ (some 74) rfl rfl Try.func65 k_ rfl #[.int .i64 (rd (rd_L1 l0_1 x3_2) x4_4), .int .i64 0, .int .i64 9] rfl (g2_) ?_; (with_reducible refine (spec_l1In.calls (rd (rd_L1 l0_1 x3_2) x4_4) 0 9 false _ A26.out).mono ?_); rintro e w' ⟨rfl, ⟨nd, rfl⟩⟩; refine ⟨_, rfl, ?_⟩))
              go_ret
              exact ⟨g4_, qz12_⟩
            ·rw [if_neg c24] at H
             have c24b0 := decide_eq_false c24
             clear c24
             have H' := Aside0.mk H
             clear H
             obtain ⟨hcz30_0, hcz30_1, hfz30_0, hfz30_1⟩ := blk2_ BK234
             have p241 : 0 ≤ (x3_2 : Int) := of_decide_eq_true (g0_)
             have q241 : x3_2 < (l0_1.length : Int) := of_decide_eq_true (g0_)
             obtain ⟨ad241, A241_0, c241_0, e241, hx241_0, hl241_0, hi241_0⟩ := at_L1 HR0_1.out x3_2 p241 q241
             cases e241
             replace hx241_0 := cl_ HB hx241_0
             have HR241_0 := Aside0.mk hi241_0
             have HC241_0 := Aside0.mk hl241_0
             clear hi241_0 hl241_0
             replace p241 := eq_true p241
             replace q241 := eq_true q241
             go_wp2
             go_roundg k4
             case measure => have := HJ1.out; have := HK2.out; have := HJ9.out; have := HK4.out; omega
             case rel => exact ⟨(wrap64 (x3_2 + 1)), (g3_), H', ⟨by have := HJ1.out; have := HK2.out; have := HJ9.out; have := HK4.out; omega⟩, ⟨uf0_ BK234⟩, ⟨qz12_⟩⟩
      ·rw [if_neg c9] at H
       have c9b0 := decide_eq_false c9
       clear c9
       obtain rfl := Option.some.inj H
       obtain ⟨hcz31_0, hcz31_1, hfz31_0, hfz31_1⟩ := blk2_ BK234
       go_wp2
       go_ret
       exact ⟨g4_, qz12_⟩
def spec_DeskOk.l0 : Nat → Int → List Int → List (List Int) → List (S25) → Option (Bool)
 | 0, _, _, _, _ => none
 | k + 1, x3, x246000, x246001, x246002 => if x3 < (x246002.length : Int) then (if 0 ≤ x3 then ((spec_BookOk.f k ((rd_T25 x246002 x3).f0) ((rd_T25 x246002 x3).f1)).bind fun t247 => (if t247 = true then (if (((rd_T25 x246002 x3).f0).length : Int) = (x246000.length : Int) then (spec_DeskOk.l0 k (wrap64 (x3 + 1)) x246000 x246001 x246002) else (some false)) else (some false))) else (none)) else ((spec_BookOk.f k x246000 x246001).bind fun t249 => (if t249 = true then (some (decide ((x246002.length : Int) ≤ 8))) else (some false)))
def spec_DeskOk.f (k : Nat) (l0_0 : List Int) (l0_1 : List (List Int)) (l0_2 : List (S25)) : Option (Bool) := spec_DeskOk.l0 k 0 l0_0 l0_1 l0_2
theorem spec_DeskOk.mq {p : Prop} (h : p := by
 repeat' first
 | (with_reducible exact ih0 _ _ _ _)
 | (with_reducible exact spec_BookOk.mono _ _ _)
 | (with_reducible exact LeO.refl _)
 | (with_reducible exact LeO.none _)
 | (with_reducible refine LeO.ite ?_ ?_)
 | (with_reducible refine LeO.bind ?_ (fun _ => ?_))
 | exact ih0 _ _ _ _
 | exact spec_BookOk.mono _ _ _
 | exact LeO.none _
 | refine LeO.ite ?_ ?_
 | refine LeO.bind ?_ (fun _ => ?_)) : p := h
theorem spec_DeskOk.mono_l : ∀ k, (∀ y0 y1 y2 y3, LeO (spec_DeskOk.l0 k y0 y1 y2 y3) (spec_DeskOk.l0 (k + 1) y0 y1 y2 y3))
 | 0 => fun _ _ _ _ r h => by simp [spec_DeskOk.l0] at h
 | k + 1 => by
  have ih0 := spec_DeskOk.mono_l k
  ·intro y0 y1 y2 y3
   unfold spec_DeskOk.l0
   exact spec_DeskOk.mq
theorem spec_DeskOk.mono : ∀ a0 a1 a2 k, LeO (spec_DeskOk.f k a0 a1 a2) (spec_DeskOk.f (k + 1) a0 a1 a2) := by
 intro a0 a1 a2 k
 have ih0 := spec_DeskOk.mono_l k
 unfold spec_DeskOk.f
 exact spec_DeskOk.mq
def spec_DeskOk.T4 : Bool × List (List Nat × List Nat) := (true, [([], []), ([0], [0]), ([], []), ([1, 2], [1, 2]), ([3], [3]), ([4], [4]), ([5], [5]), ([6, 5], [6]), ([7], [7]), ([8, 7], [7, 8]), ([7], [7]), ([9, 10, 7], [7, 9, 10]), ([11, 7], [7, 11]), ([12, 7], [7, 12]), ([13, 7], [7, 13]), ([7], [7]), ([15, 7], [7, 15]), ([16, 7], [7, 16]), ([17, 7], [7, 17]), ([14, 18, 7], [7, 14, 18]), ([7, 19], [7, 19])])
def spec_DeskOk.B4 : List Nat := [0, 1, 0, 7, 15, 31, 63, 127, 255, 511, 255, 2047, 4095, 8191, 16383, 255, 33023, 98559, 229631, 524287, 1048575]
theorem spec_DeskOk.tab4 : rtab .any (opsOf Try.f28 4) = spec_DeskOk.T4 := by kernel_rfl
theorem spec_DeskOk.bits4 : waitsOk spec_DeskOk.T4.2 spec_DeskOk.B4 = true := by kernel_rfl
theorem qz13_ {p : Prop} (h : p := by repeat (first | (with_reducible first | exact HB.out | apply below_alloc | apply pw_below_drewN | apply below_drew1 | refine below_set ?_ GE245.out) | exact HB.out)) : p := h
set_option maxHeartbeats 8000000 in
set_option maxRecDepth 100000 in
theorem spec_DeskOk.calls (k : Nat) (A0_0 : Option Addr) (c0_0 : Nat) (l0_0 : List Int) (A0_1 : Option Addr) (c0_1 : Nat) (l0_1 : List (List Int)) (A0_2 : Option Addr) (c0_2 : Nat) (l0_2 : List (S25)) (r : Bool) (w : World) (hr0_0 : Kd.C (Kd.int .i64) w A0_0 l0_0.length l0_0) (hc0_0 : l0_0.length ≤ c0_0) (hr0_1 : Kd.C (Kd.slice 3 (Kd.int .i64)) w A0_1 l0_1.length l0_1) (hc0_1 : l0_1.length ≤ c0_1) (hr0_2 : Kd.C k25 w A0_2 l0_2.length l0_2) (hc0_2 : l0_2.length ≤ c0_2) (h : spec_DeskOk.f k l0_0 l0_1 l0_2 = some r) :
  Calls Try.prog 28 #[.agg #[.slice A0_0 l0_0.length c0_0, .slice A0_1 l0_1.length c0_1, .slice A0_2 l0_2.length c0_2]] w fun e w' => e = .returned (.bool r) ∧ Below w.heap.size w w' := by
 have hu28 := Try.underlying28
 have hu25 := Try.underlying25
 have HR0_0 := Aside0.mk hr0_0
 have HC0_0 := Aside0.mk hc0_0
 clear hr0_0 hc0_0
 have HR0_1 := Aside0.mk hr0_1
 have HC0_1 := Aside0.mk hc0_1
 clear hr0_1 hc0_1
 have HR0_2 := Aside0.mk hr0_2
 have HC0_2 := Aside0.mk hc0_2
 clear hr0_2 hc0_2
 have HB := Aside0.mk (Below.refl w.heap.size w)
 have H : (spec_DeskOk.l0 k 0 l0_0 l0_1 l0_2) = some r := h
 clear h
 have H' := Aside0.mk H
 clear H
 go_enter Try.func28, Try.ntmps28
 go_wp2_with (first | ((with_reducible refine gate_dst (N := 1) rfl ?_); (try (refine gate_guard (by rfl) ?_; dsimp only)); refine bx_ (N := 1) #[.slice A0_0 l0_0.length c0_0, .slice A0_1 l0_1.length c0_1, .slice A0_2 l0_2.length c0_2] 28 ?_; intro gb245 hg w2 hbox hb; have BK245 := Aside0.mk (hbox); have GW245 := Aside0.mk ((by rw [hg]; exact (below_size (qz13_)) : w.heap.size ≤ gb245)); have GE245 := Aside0.mk ((by rw [hg]; exact (below_size (qz13_)) : w.heap.size ≤ gb245)); replace HB := Aside0.mk (below_step (qz13_) hb); clear hb hbox hg))
 go_loopg [3] k (fun kq v3 w' => ∃ (x3_1 : Int), v3 = .int .i64 x3_1 ∧ Aside0 (spec_DeskOk.l0 kq x3_1 l0_0 l0_1 l0_2 = some r) ∧ Aside0 (kq ≤ k) ∧ Aside0 (w'.heap[gb245]? = some (.cells #[(.slice A0_0 l0_0.length c0_0), (.slice A0_1 l0_1.length c0_1), (.slice A0_2 l0_2.length c0_2)] 28 (0, 0))) ∧ Aside0 (Below w.heap.size w w'))
 case atStart => exact ⟨(0), (g3_), H', ⟨Nat.le_refl _⟩, ⟨uf0_ BK245⟩, ⟨qz13_⟩⟩
 case round =>
  clear H'
  try clear c2
  try clear p2
  obtain ⟨x3_1, rfl, HA, HK1, BK245, HB⟩ := hrel
  cases gk with
  | zero => exact absurd HA.out (by simp [spec_DeskOk.l0])
  | succ k1 =>
   have H := HA.out
   clear HA
   simp only [spec_DeskOk.l0] at H
   by_cases c3 : x3_1 < (l0_2.length : Int)
   ·rw [if_pos c3] at H
    have c3b0 := decide_eq_true c3
    clear c3
    obtain ⟨c4, H⟩ := pos_ H
    have c4b0 := decide_eq_true c4
    clear c4
    obtain ⟨t247, A5, H⟩ := bind_ H
    by_cases c6 : t247 = true
    ·subst c6
     replace H := ifp_ H
     by_cases c7 : (((rd_T25 l0_2 x3_1).f0).length : Int) = (l0_0.length : Int)
     ·rw [if_pos c7] at H
      have c7b0 : ((((rd_T25 l0_2 x3_1).f0).length : Int) == (l0_0.length : Int)) = true := beq_iff_eq.mpr c7
      have c7b1 : ((((rd_T25 l0_2 x3_1).f0).length : Int) != (l0_0.length : Int)) = false := bne_eq_false_iff_eq.mpr c7
      have c7b2 : (((rd_T25 l0_2 x3_1).f0).length == l0_0.length) = true := by first | simpa using c7 | (simp at c7 ⊢; omega)
      clear c7
      have H' := Aside0.mk H
      clear H
      obtain ⟨hcz8_0, hcz8_1, hcz8_2, hfz8_0, hfz8_1, hfz8_2⟩ := blk3_ BK245
      try go_wp2
      replace BK245 := Aside0.mk (blk_drew BK245.out)
      replace HB := Aside0.mk (below_drew1 HB.out)
      have p246 : 0 ≤ (x3_1 : Int) := of_decide_eq_true (g0_)
      have q246 : x3_1 < (l0_2.length : Int) := of_decide_eq_true (g0_)
      obtain ⟨ad246, A246_0, c246_0, A246_1, c246_1, e246, hx246_0, hx246_1, hl246_0, hi246_0, hl246_1, hi246_1⟩ := at_T25 HR0_2.out x3_1 p246 q246
      have hw246_1 := hx246_1
      have hw246_0 := hx246_0
      cases e246
      replace hx246_0 := cl_ HB hx246_0
      replace hx246_1 := cl_ HB hx246_1
      have HR246_0 := Aside0.mk hi246_0
      have HC246_0 := Aside0.mk hl246_0
      clear hi246_0 hl246_0
      have HR246_1 := Aside0.mk hi246_1
      have HC246_1 := Aside0.mk hl246_1
      clear hi246_1 hl246_1
      replace p246 := eq_true p246
      replace q246 := eq_true q246
      have p248 : 0 ≤ (x3_1 : Int) := of_decide_eq_true (g0_)
      have q248 : x3_1 < (l0_2.length : Int) := of_decide_eq_true (g0_)
      obtain ⟨ad248, A248_0, c248_0, A248_1, c248_1, e248, hx248_0, hx248_1, hl248_0, hi248_0, hl248_1, hi248_1⟩ := at_T25 HR0_2.out x3_1 p248 q248
      have hw248_1 := hx248_1
      have hw248_0 := hx248_0
      obtain rfl : ad246 = ad248 := (by injection e248)
      replace hx248_0 := cl_ HB hx248_0
      replace hx248_1 := cl_ HB hx248_1
      have HR248_0 := Aside0.mk hi248_0
      have HC248_0 := Aside0.mk hl248_0
      clear hi248_0 hl248_0
      have HR248_1 := Aside0.mk hi248_1
      have HC248_1 := Aside0.mk hl248_1
      clear hi248_1 hl248_1
      replace p248 := eq_true p248
      replace q248 := eq_true q248
      refine start_ (n := 21) (S := fun w' => w'.cell? ⟨gb245, 0, none⟩ = some (.slice A0_0 l0_0.length c0_0) ∧ w'.cell? ⟨gb245, 1, none⟩ = some (.slice A0_1 l0_1.length c0_1) ∧ w'.cell? ⟨gb245, 2, none⟩ = some (.slice (some ad246) l0_2.length c0_2) ∧ w'.cell? (ad246.add ((x3_1).toNat * 2)) = some (.slice A246_0 ((rd_T25 l0_2 x3_1).f0).length c246_0) ∧ w'.cell? ⟨(ad246.add ((x3_1).toNat * 2)).block, (ad246.add ((x3_1).toNat * 2)).off + 1, none⟩ = some (.slice A246_1 ((rd_T25 l0_2 x3_1).f1).length c246_1) ∧ w'.cell? (ad246.add ((x3_1).toNat * 2)) = some (.slice A248_0 ((rd_T25 l0_2 x3_1).f0).length c248_0) ∧ w'.cell? ⟨(ad246.add ((x3_1).toNat * 2)).block, (ad246.add ((x3_1).toNat * 2)).off + 1, none⟩ = some (.slice A248_1 ((rd_T25 l0_2 x3_1).f1).length c248_1)) (ds := []) (tl_ 21 0) (g1_) rfl (g1_) ⟨(blk_cell BK245.out 0).trans rfl, (blk_cell BK245.out 1).trans rfl, (blk_cell BK245.out 2).trans rfl, ((cl_ HB hw246_0).trans rfl), ((cl_ HB hw246_1).trans rfl), ((cl_ HB hw248_0).trans rfl), ((cl_ HB hw248_1).trans rfl)⟩ (fun hHeld => ?_); refine with_tabW spec_DeskOk.tab4 spec_DeskOk.bits4 (fun HT_ HW_ => ?_)
      generalize wr.drew = w9 at BK245 HB HR246_0 HR246_1 HR248_0 HR248_1 hx246_0 hx246_1 hx248_0 hx248_1 hHeld ⊢
      refine pw_ 0 11 (tl_ 21 1) rfl rfl ?_
      refine pw_ 2 13 (tl_ 21 5) rfl rfl ?_
      refine tk5_ 1 12 (tl_ 21 7) rfl rfl hHeld ?_
      refine pw_ 3 14 (tl_ 21 15) rfl rfl ?_
      refine tk5_ 4 15 (tl_ 21 31) rfl rfl hHeld ?_
      refine one_ (i := 5) (N := some 16) (tl_ 21 63) rfl rfl (one_of HT_.out (g1_)) (by decide) (fun K hK => ?_)
      refine goes_ Try.func42 (g1_) rfl #[.agg #[.slice A246_0 ((rd_T25 l0_2 x3_1).f0).length c246_0, .slice A246_1 ((rd_T25 l0_2 x3_1).f1).length c246_1]] (by rfl) rfl rfl (g2_) ?_
      with_reducible refine (spec_BookOk.calls k1 _ _ ((rd_T25 l0_2 x3_1).f0) _ _ ((rd_T25 l0_2 x3_1).f1) true _ ?side1 ?side2 ?side3 ?side4 A5.out).mono ?_
      (case side1 => exact uf3_ HR246_0)
      (case side2 => exact HC246_0.out)
      (case side3 => exact uf3_ HR246_1)
      (case side4 => exact HC246_1.out)
      rintro e w10 ⟨rfl, hb⟩
      refine ⟨_, rfl, ?_⟩
      replace BK245 := bb_ BK245 hb
      replace HB := Aside0.mk (below_step (qz13_) hb)
      (try clear hb)
      (try clear hk hi)
      refine hK.out _ _ ⟨(blk_cell BK245.out 0).trans rfl, (blk_cell BK245.out 1).trans rfl, (blk_cell BK245.out 2).trans rfl, ((cl_ HB hw246_0).trans rfl), ((cl_ HB hw246_1).trans rfl), ((cl_ HB hw248_0).trans rfl), ((cl_ HB hw248_1).trans rfl)⟩ (fun hHeld => ?_)
      clear hK K
      refine nm_ ?_
      refine pw_ 6 17 (tl_ 21 127) rfl rfl ?_
      refine pw_ 7 18 (tl_ 21 255) rfl rfl ?_
      refine pw_ 8 19 (tl_ 21 511) rfl rfl ?_
      refine pw_ 10 21 (tl_ 21 1535) rfl rfl ?_
      refine pw_ 15 26 (tl_ 21 34303) rfl rfl ?_
      refine pw_ 16 27 (tl_ 21 99839) rfl rfl ?_
      refine tk5_ 9 20 (tl_ 21 100351) rfl rfl hHeld ?_
      refine pw_ 11 22 (tl_ 21 102399) rfl rfl ?_
      refine pw_ 12 23 (tl_ 21 106495) rfl rfl ?_
      refine tk5_ 13 24 (tl_ 21 114687) rfl rfl hHeld ?_
      refine pw_ 14 25 (tl_ 21 131071) rfl rfl ?_
      refine tk5_ 17 28 (tl_ 21 262143) rfl rfl hHeld ?_
      refine pw_ 18 29 (tl_ 21 524287) rfl rfl ?_
      refine pw_ 19 30 (tl_ 21 1048575) rfl rfl ?_
      refine pw_ 20 31 (tl_ 21 2097151) rfl rfl ?_
      refine done_ (done_of HT_.out (g1_)) ?_
      try go_wp2
      go_roundg k1
      case measure => have := HK1.out; omega
      case rel => exact ⟨(wrap64 (x3_1 + 1)), (g3_), H', ⟨g8_⟩, ⟨uf0_ BK245⟩, ⟨qz13_⟩⟩
     ·rw [if_neg c7] at H
      have c7b0 : ((((rd_T25 l0_2 x3_1).f0).length : Int) == (l0_0.length : Int)) = false := beq_eq_false_iff_ne.mpr c7
      have c7b1 : ((((rd_T25 l0_2 x3_1).f0).length : Int) != (l0_0.length : Int)) = true := bne_iff_ne.mpr c7
      have c7b2 : (((rd_T25 l0_2 x3_1).f0).length == l0_0.length) = false := by first | simpa using c7 | (simp at c7 ⊢; omega)
      obtain rfl := Option.some.inj H
      obtain ⟨hcz11_0, hcz11_1, hcz11_2, hfz11_0, hfz11_1, hfz11_2⟩ := blk3_ BK245
      try go_wp2
      replace BK245 := Aside0.mk (blk_drew BK245.out)
      replace HB := Aside0.mk (below_drew1 HB.out)
      have p246 : 0 ≤ (x3_1 : Int) := of_decide_eq_true (g0_)
      have q246 : x3_1 < (l0_2.length : Int) := of_decide_eq_true (g0_)
      obtain ⟨ad246, A246_0, c246_0, A246_1, c246_1, e246, hx246_0, hx246_1, hl246_0, hi246_0, hl246_1, hi246_1⟩ := at_T25 HR0_2.out x3_1 p246 q246
      have hw246_1 := hx246_1
      have hw246_0 := hx246_0
      cases e246
      replace hx246_0 := cl_ HB hx246_0
      replace hx246_1 := cl_ HB hx246_1
      have HR246_0 := Aside0.mk hi246_0
      have HC246_0 := Aside0.mk hl246_0
      clear hi246_0 hl246_0
      have HR246_1 := Aside0.mk hi246_1
      have HC246_1 := Aside0.mk hl246_1
      clear hi246_1 hl246_1
      replace p246 := eq_true p246
      replace q246 := eq_true q246
      have p248 : 0 ≤ (x3_1 : Int) := of_decide_eq_true (g0_)
      have q248 : x3_1 < (l0_2.length : Int) := of_decide_eq_true (g0_)
      obtain ⟨ad248, A248_0, c248_0, A248_1, c248_1, e248, hx248_0, hx248_1, hl248_0, hi248_0, hl248_1, hi248_1⟩ := at_T25 HR0_2.out x3_1 p248 q248
      have hw248_1 := hx248_1
      have hw248_0 := hx248_0
      obtain rfl : ad246 = ad248 := (by injection e248)
      replace hx248_0 := cl_ HB hx248_0
      replace hx248_1 := cl_ HB hx248_1
      have HR248_0 := Aside0.mk hi248_0
      have HC248_0 := Aside0.mk hl248_0
      clear hi248_0 hl248_0
      have HR248_1 := Aside0.mk hi248_1
      have HC248_1 := Aside0.mk hl248_1
      clear hi248_1 hl248_1
      replace p248 := eq_true p248
      replace q248 := eq_true q248
      refine start_ (n := 21) (S := fun w' => w'.cell? ⟨gb245, 0, none⟩ = some (.slice A0_0 l0_0.length c0_0) ∧ w'.cell? ⟨gb245, 1, none⟩ = some (.slice A0_1 l0_1.length c0_1) ∧ w'.cell? ⟨gb245, 2, none⟩ = some (.slice (some ad246) l0_2.length c0_2) ∧ w'.cell? (ad246.add ((x3_1).toNat * 2)) = some (.slice A246_0 ((rd_T25 l0_2 x3_1).f0).length c246_0) ∧ w'.cell? ⟨(ad246.add ((x3_1).toNat * 2)).block, (ad246.add ((x3_1).toNat * 2)).off + 1, none⟩ = some (.slice A246_1 ((rd_T25 l0_2 x3_1).f1).length c246_1) ∧ w'.cell? (ad246.add ((x3_1).toNat * 2)) = some (.slice A248_0 ((rd_T25 l0_2 x3_1).f0).length c248_0) ∧ w'.cell? ⟨(ad246.add ((x3_1).toNat * 2)).block, (ad246.add ((x3_1).toNat * 2)).off + 1, none⟩ = some (.slice A248_1 ((rd_T25 l0_2 x3_1).f1).length c248_1)) (ds := []) (tl_ 21 0) (g1_) rfl (g1_) ⟨(blk_cell BK245.out 0).trans rfl, (blk_cell BK245.out 1).trans rfl, (blk_cell BK245.out 2).trans rfl, ((cl_ HB hw246_0).trans rfl), ((cl_ HB hw246_1).trans rfl), ((cl_ HB hw248_0).trans rfl), ((cl_ HB hw248_1).trans rfl)⟩ (fun hHeld => ?_); refine with_tabW spec_DeskOk.tab4 spec_DeskOk.bits4 (fun HT_ HW_ => ?_)
      generalize wr.drew = w12 at BK245 HB HR246_0 HR246_1 HR248_0 HR248_1 hx246_0 hx246_1 hx248_0 hx248_1 hHeld ⊢
      refine pw_ 0 11 (tl_ 21 1) rfl rfl ?_
      refine pw_ 2 13 (tl_ 21 5) rfl rfl ?_
      refine tk5_ 1 12 (tl_ 21 7) rfl rfl hHeld ?_
      refine pw_ 3 14 (tl_ 21 15) rfl rfl ?_
      refine tk5_ 4 15 (tl_ 21 31) rfl rfl hHeld ?_
      refine one_ (i := 5) (N := some 16) (tl_ 21 63) rfl rfl (one_of HT_.out (g1_)) (by decide) (fun K hK => ?_)
      refine goes_ Try.func42 (g1_) rfl #[.agg #[.slice A246_0 ((rd_T25 l0_2 x3_1).f0).length c246_0, .slice A246_1 ((rd_T25 l0_2 x3_1).f1).length c246_1]] (by rfl) rfl rfl (g2_) ?_
      with_reducible refine (spec_BookOk.calls k1 _ _ ((rd_T25 l0_2 x3_1).f0) _ _ ((rd_T25 l0_2 x3_1).f1) true _ ?side1 ?side2 ?side3 ?side4 A5.out).mono ?_
      (case side1 => exact uf3_ HR246_0)
      (case side2 => exact HC246_0.out)
      (case side3 => exact uf3_ HR246_1)
      (case side4 => exact HC246_1.out)
      rintro e w13 ⟨rfl, hb⟩
      refine ⟨_, rfl, ?_⟩
      replace BK245 := bb_ BK245 hb
      replace HB := Aside0.mk (below_step (qz13_) hb)
      (try clear hb)
      (try clear hk hi)
      refine hK.out _ _ ⟨(blk_cell BK245.out 0).trans rfl, (blk_cell BK245.out 1).trans rfl, (blk_cell BK245.out 2).trans rfl, ((cl_ HB hw246_0).trans rfl), ((cl_ HB hw246_1).trans rfl), ((cl_ HB hw248_0).trans rfl), ((cl_ HB hw248_1).trans rfl)⟩ (fun hHeld => ?_)
      clear hK K
      refine nm_ ?_
      refine pw_ 6 17 (tl_ 21 127) rfl rfl ?_
      refine pw_ 7 18 (tl_ 21 255) rfl rfl ?_
      refine pw_ 8 19 (tl_ 21 511) rfl rfl ?_
      refine pw_ 10 21 (tl_ 21 1535) rfl rfl ?_
      refine pw_ 15 26 (tl_ 21 34303) rfl rfl ?_
      refine pw_ 16 27 (tl_ 21 99839) rfl rfl ?_
      refine tk5_ 9 20 (tl_ 21 100351) rfl rfl hHeld ?_
      refine pw_ 11 22 (tl_ 21 102399) rfl rfl ?_
      refine pw_ 12 23 (tl_ 21 106495) rfl rfl ?_
      refine tk5_ 13 24 (tl_ 21 114687) rfl rfl hHeld ?_
      refine pw_ 14 25 (tl_ 21 131071) rfl rfl ?_
      refine tk5_ 17 28 (tl_ 21 262143) rfl rfl hHeld ?_
      refine pw_ 18 29 (tl_ 21 524287) rfl rfl ?_
      refine pw_ 19 30 (tl_ 21 1048575) rfl rfl ?_
      refine pw_ 20 31 (tl_ 21 2097151) rfl rfl ?_
      refine done_ (done_of HT_.out (g1_)) ?_
      try go_wp2
      go_ret
      exact ⟨g4_, qz13_⟩
    ·replace c6 := Bool.eq_false_iff.mpr c6
     subst c6
     replace H := ifn_ H
     obtain rfl := Option.some.inj H
     obtain ⟨hcz14_0, hcz14_1, hcz14_2, hfz14_0, hfz14_1, hfz14_2⟩ := blk3_ BK245
     try go_wp2
     replace BK245 := Aside0.mk (blk_drew BK245.out)
     replace HB := Aside0.mk (below_drew1 HB.out)
     have p246 : 0 ≤ (x3_1 : Int) := of_decide_eq_true (g0_)
     have q246 : x3_1 < (l0_2.length : Int) := of_decide_eq_true (g0_)
     obtain ⟨ad246, A246_0, c246_0, A246_1, c246_1, e246, hx246_0, hx246_1, hl246_0, hi246_0, hl246_1, hi246_1⟩ := at_T25 HR0_2.out x3_1 p246 q246
     have hw246_1 := hx246_1
     have hw246_0 := hx246_0
     cases e246
     replace hx246_0 := cl_ HB hx246_0
     replace hx246_1 := cl_ HB hx246_1
     have HR246_0 := Aside0.mk hi246_0
     have HC246_0 := Aside0.mk hl246_0
     clear hi246_0 hl246_0
     have HR246_1 := Aside0.mk hi246_1
     have HC246_1 := Aside0.mk hl246_1
     clear hi246_1 hl246_1
     replace p246 := eq_true p246
     replace q246 := eq_true q246
     refine start_ (n := 21) (S := fun w' => w'.cell? ⟨gb245, 0, none⟩ = some (.slice A0_0 l0_0.length c0_0) ∧ w'.cell? ⟨gb245, 1, none⟩ = some (.slice A0_1 l0_1.length c0_1) ∧ w'.cell? ⟨gb245, 2, none⟩ = some (.slice (some ad246) l0_2.length c0_2) ∧ w'.cell? (ad246.add ((x3_1).toNat * 2)) = some (.slice A246_0 ((rd_T25 l0_2 x3_1).f0).length c246_0) ∧ w'.cell? ⟨(ad246.add ((x3_1).toNat * 2)).block, (ad246.add ((x3_1).toNat * 2)).off + 1, none⟩ = some (.slice A246_1 ((rd_T25 l0_2 x3_1).f1).length c246_1)) (ds := []) (tl_ 21 0) (g1_) rfl (g1_) ⟨(blk_cell BK245.out 0).trans rfl, (blk_cell BK245.out 1).trans rfl, (blk_cell BK245.out 2).trans rfl, ((cl_ HB hw246_0).trans rfl), ((cl_ HB hw246_1).trans rfl)⟩ (fun hHeld => ?_); refine with_tabW spec_DeskOk.tab4 spec_DeskOk.bits4 (fun HT_ HW_ => ?_)
     generalize wr.drew = w15 at BK245 HB HR246_0 HR246_1 hx246_0 hx246_1 hHeld ⊢
     refine pw_ 0 11 (tl_ 21 1) rfl rfl ?_
     refine pw_ 2 13 (tl_ 21 5) rfl rfl ?_
     refine tk6_ 1 12 (tl_ 21 7) rfl rfl hHeld ?_
     refine pw_ 3 14 (tl_ 21 15) rfl rfl ?_
     refine tk6_ 4 15 (tl_ 21 31) rfl rfl hHeld ?_
     refine one_ (i := 5) (N := some 16) (tl_ 21 63) rfl rfl (one_of HT_.out (g1_)) (by decide) (fun K hK => ?_)
     refine goes_ Try.func42 (g1_) rfl #[.agg #[.slice A246_0 ((rd_T25 l0_2 x3_1).f0).length c246_0, .slice A246_1 ((rd_T25 l0_2 x3_1).f1).length c246_1]] (by rfl) rfl rfl (g2_) ?_
     with_reducible refine (spec_BookOk.calls k1 _ _ ((rd_T25 l0_2 x3_1).f0) _ _ ((rd_T25 l0_2 x3_1).f1) false _ ?side1 ?side2 ?side3 ?side4 A5.out).mono ?_
     (case side1 => exact uf3_ HR246_0)
     (case side2 => exact HC246_0.out)
     (case side3 => exact uf3_ HR246_1)
     (case side4 => exact HC246_1.out)
     rintro e w16 ⟨rfl, hb⟩
     refine ⟨_, rfl, ?_⟩
     replace BK245 := bb_ BK245 hb
     replace HB := Aside0.mk (below_step (qz13_) hb)
     (try clear hb)
     (try clear hk hi)
     refine hK.out _ _ ⟨(blk_cell BK245.out 0).trans rfl, (blk_cell BK245.out 1).trans rfl, (blk_cell BK245.out 2).trans rfl, ((cl_ HB hw246_0).trans rfl), ((cl_ HB hw246_1).trans rfl)⟩ (fun hHeld => ?_)
     clear hK K
     refine nm_ ?_
     refine pw_ 6 17 (tl_ 21 127) rfl rfl ?_
     refine pw_ 7 18 (tl_ 21 255) rfl rfl ?_
     refine pu_ 8 19 (tl_ 21 511) rfl rfl ?_
     refine pu_ 9 20 (tl_ 21 1023) rfl rfl ?_
     refine pu_ 10 21 (tl_ 21 2047) rfl rfl ?_
     refine pu_ 11 22 (tl_ 21 4095) rfl rfl ?_
     refine pu_ 12 23 (tl_ 21 8191) rfl rfl ?_
     refine pu_ 13 24 (tl_ 21 16383) rfl rfl ?_
     refine pu_ 14 25 (tl_ 21 32767) rfl rfl ?_
     refine pu_ 15 26 (tl_ 21 65535) rfl rfl ?_
     refine pu_ 16 27 (tl_ 21 131071) rfl rfl ?_
     refine pu_ 17 28 (tl_ 21 262143) rfl rfl ?_
     refine pu_ 18 29 (tl_ 21 524287) rfl rfl ?_
     refine pu_ 19 30 (tl_ 21 1048575) rfl rfl ?_
     refine pw_ 20 31 (tl_ 21 2097151) rfl rfl ?_
     refine done_ (done_of HT_.out (g1_)) ?_
     try go_wp2
     go_ret
     exact ⟨g4_, qz13_⟩
   ·rw [if_neg c3] at H
    have c3b0 := decide_eq_false c3
    clear c3
    obtain ⟨t249, A17, H⟩ := bind_ H
    by_cases c18 : t249 = true
    ·subst c18
     replace H := ifp_ H
     obtain rfl := Option.some.inj H
     obtain ⟨hcz19_0, hcz19_1, hcz19_2, hfz19_0, hfz19_1, hfz19_2⟩ := blk3_ BK245
     go_wp2_with (first | ((with_reducible refine gate_callee (f := 42) rfl ?_); refine goesL_ (some 34) rfl rfl Try.func42 k_ rfl #[.agg #[.slice A0_0 l0_0.length c0_0, .slice A0_1 l0_1.length c0_1]] rfl (g2_) ?_; (with_reducible refine (spec_BookOk.calls k1 _ _ l0_0 _ _ l0_1 true _ ?side1 ?side2 ?side3 ?side4 A17.out).mono ?_); (case side1 => exact uf3_ HR0_0); (case side2 => exact HC0_0.out); (case side3 => exact uf3_ HR0_1); (case side4 => exact HC0_1.out); rintro e w20 ⟨rfl, hb⟩; refine ⟨_, rfl, ?_⟩; replace BK245 := bb_ BK245 hb; replace HB := Aside0.mk (below_step (qz13_) hb); (try clear hb); (try clear hk hi); obtain ⟨hcz21_0, hcz21_1, hcz21_2, hfz21_0, hfz21_1, hfz21_2⟩ := blk3_ BK245))
     go_ret
     exact ⟨g4_, qz13_⟩
    ·replace c18 := Bool.eq_false_iff.mpr c18
     subst c18
     replace H := ifn_ H
     obtain rfl := Option.some.inj H
     obtain ⟨hcz22_0, hcz22_1, hcz22_2, hfz22_0, hfz22_1, hfz22_2⟩ := blk3_ BK245
     go_wp2_with (first | ((with_reducible refine gate_callee (f := 42) rfl ?_); refine goesL_ (some 34) rfl rfl Try.func42 k_ rfl #[.agg #[.slice A0_0 l0_0.length c0_0, .slice A0_1 l0_1.length c0_1]] rfl (g2_) ?_; (with_reducible refine (spec_BookOk.calls k1 _ _ l0_0 _ _ l0_1 false _ ?side1 ?side2 ?side3 ?side4 A17.out).mono ?_); (case side1 => exact uf3_ HR0_0); (case side2 => exact HC0_0.out); (case side3 => exact uf3_ HR0_1); (case side4 => exact HC0_1.out); rintro e w23 ⟨rfl, hb⟩; refine ⟨_, rfl, ?_⟩; replace BK245 := bb_ BK245 hb; replace HB := Aside0.mk (below_step (qz13_) hb); (try clear hb); (try clear hk hi)))
     go_ret
     exact ⟨g4_, qz13_⟩
def laws_toIntS.l0 : Nat → List Int → List Int → Int → Option (List Int)
 | 0, _, _, _ => none
 | k + 1, x0, x3, x4 => if x4 < (x0.length : Int) then (if 0 ≤ x4 then (if x4 < (x3.length : Int) then (laws_toIntS.l0 k x0 (x3.set (x4 : Int).toNat (rd x0 x4)) (wrap64 (x4 + 1))) else (none)) else (none)) else (some x3)
def laws_toIntS.f (k : Nat) (l0 : List Int) : Option (List Int) := if 0 ≤ (l0.length : Int) then (if ((l0.length : Int) : Int).toNat ≤ 35184372088832 then (laws_toIntS.l0 k l0 (List.replicate ((l0.length : Int) : Int).toNat 0) 0) else (none)) else (none)
theorem laws_toIntS.mq {p : Prop} (h : p := by
 repeat' first
 | (with_reducible exact ih0 _ _ _)
 | (with_reducible exact LeO.refl _)
 | (with_reducible exact LeO.none _)
 | (with_reducible refine LeO.ite ?_ ?_)
 | (with_reducible refine LeO.bind ?_ (fun _ => ?_))
 | exact ih0 _ _ _
 | exact LeO.none _
 | refine LeO.ite ?_ ?_
 | refine LeO.bind ?_ (fun _ => ?_)) : p := h
theorem laws_toIntS.mono_l : ∀ k, (∀ y0 y1 y2, LeO (laws_toIntS.l0 k y0 y1 y2) (laws_toIntS.l0 (k + 1) y0 y1 y2))
 | 0 => fun _ _ _ r h => by simp [laws_toIntS.l0] at h
 | k + 1 => by
  have ih0 := laws_toIntS.mono_l k
  ·intro y0 y1 y2
   unfold laws_toIntS.l0
   exact laws_toIntS.mq
theorem laws_toIntS.mono : ∀ a0 k, LeO (laws_toIntS.f k a0) (laws_toIntS.f (k + 1) a0) := by
 intro a0 k
 have ih0 := laws_toIntS.mono_l k
 unfold laws_toIntS.f
 exact laws_toIntS.mq
theorem qz14_ {p : Prop} (h : p := by repeat (first | (with_reducible first | exact HB.out | apply below_alloc | apply pw_below_drewN | apply below_drew1) | exact HB.out)) : p := h
set_option maxHeartbeats 8000000 in
set_option maxRecDepth 100000 in
theorem laws_toIntS.calls (k : Nat) (A0 : Option Addr) (c0 : Nat) (l0 : List Int) (r : List Int) (w : World) (hr0 : Kd.C (Kd.int .i64) w A0 l0.length l0) (hc0 : l0.length ≤ c0) (h : laws_toIntS.f k l0 = some r) :
  Calls Try.prog 81 #[.slice A0 l0.length c0] w fun e w' => ∃ v0_ : Value, e = .returned (v0_) ∧ Kd.R (Kd.int .i64) 3 w' w.heap.size (fun _ => True) v0_ r ∧ Below w.heap.size w w' := by
 have HR0 := Aside0.mk hr0
 have HC0 := Aside0.mk hc0
 clear hr0 hc0
 have HB := Aside0.mk (Below.refl w.heap.size w)
 have H : (if 0 ≤ (l0.length : Int) then (if ((l0.length : Int) : Int).toNat ≤ 35184372088832 then (laws_toIntS.l0 k l0 (List.replicate ((l0.length : Int) : Int).toNat 0) 0) else (none)) else (none)) = some r := h
 clear h
 obtain ⟨c2, H⟩ := pos_ H
 have c2b0 := eq_true c2
 have c2b1 := decide_eq_true c2
 clear c2
 obtain ⟨c3, H⟩ := pos_ H
 have c3b0 := eq_true c3
 have c3b1 := decide_eq_true c3
 clear c3
 obtain ⟨y250, hy250⟩ : ∃ y_ : List Int, y_ = (List.replicate ((l0.length : Int) : Int).toNat 0) := ⟨_, rfl⟩
 replace H : (laws_toIntS.l0 k l0 y250 0) = some r := by first | (rw [hy250]; with_reducible exact H) | (have H2_ := (Option.bind_some _ _).symm.trans H; rw [hy250]; with_reducible exact H2_) | (have H2_ := (Option.bind_some _ _).symm.trans H; with_reducible exact H2_) | with_reducible exact H | (rw [hy250]; exact H) | exact H
 have Ny250 := Aside0.mk hy250
 clear hy250
 have H' := Aside0.mk H
 clear H
 go_enter Try.func81, Try.ntmps81
 go_wp2_with (first | ((with_reducible refine gate_dst (N := 7) rfl ?_); refine Kd.R_make (Kd.int .i64) _ 3 rfl (N := 7) rfl 22 _ _ rfl (l0.length : Int) rfl rfl Try.underlying22 (.int .i64 0) 8 info3 rfl (by decide) (by omega) 0 (ok := fun _ => True) (okp := fun _ => True) rfl (fun _ hk => hk) trivial (of_decide_eq_true (g0_)) (Nat.le_trans (Nat.mul_le_mul_right _ (of_decide_eq_true (g0_) : (l0.length : Int).toNat ≤ 35184372088832)) (by omega)) (Below.refl _ _) (Nat.le_refl _) ?_; intro v251 w4 ho5 hb hg_ hnew_; clear hg_ hnew_; (first | rw [← Ny250.out] at ho5 | (simp only [Int.reduceToNat] at ho5; rw [← Ny250.out] at ho5)); have HO252 := Aside0.mk (Kd.R_lower ho5 (below_size (qz14_))); replace HB := Aside0.mk (below_step (qz14_) hb); clear hb ho5))
 go_loopg [4] k (fun kq v4 w' => ∃ (x3_1 : List Int) (x4_1 : Int), v4 = .int .i64 x4_1 ∧ Aside0 (laws_toIntS.l0 kq l0 x3_1 x4_1 = some r) ∧ Aside0 (kq ≤ k) ∧ Aside0 (Kd.R (Kd.int .i64) 3 w' w.heap.size (fun _ => True) v251 x3_1) ∧ Aside0 (Below w.heap.size w w'))
 case atStart => exact ⟨(y250), (0), (g3_), H', ⟨Nat.le_refl _⟩, ⟨uf1_ HO252⟩, ⟨qz14_⟩⟩
 case round =>
  clear H'
  try clear c2
  try clear c2b0
  try clear c2b1
  try clear p2
  try clear c3
  try clear c3b0
  try clear c3b1
  obtain ⟨x3_1, x4_1, rfl, HA, HK1, HO_3, HB⟩ := hrel
  cases gk with
  | zero => exact absurd HA.out (by simp [laws_toIntS.l0])
  | succ k1 =>
   have H := HA.out
   clear HA
   simp only [laws_toIntS.l0] at H
   by_cases c6 : x4_1 < (l0.length : Int)
   ·rw [if_pos c6] at H
    have c6b0 := decide_eq_true c6
    clear c6
    obtain ⟨c7, H⟩ := pos_ H
    have c7b0 := decide_eq_true c7
    clear c7
    obtain ⟨c8, H⟩ := pos_ H
    have c8b0 := decide_eq_true c8
    clear c8
    obtain ⟨y254, hy254⟩ : ∃ y_ : List Int, y_ = (x3_1.set (x4_1 : Int).toNat (rd l0 x4_1)) := ⟨_, rfl⟩
    replace H : (laws_toIntS.l0 k1 l0 y254 (wrap64 (x4_1 + 1))) = some r := by first | (rw [hy254]; with_reducible exact H) | (have H2_ := (Option.bind_some _ _).symm.trans H; rw [hy254]; with_reducible exact H2_) | (have H2_ := (Option.bind_some _ _).symm.trans H; with_reducible exact H2_) | with_reducible exact H | (rw [hy254]; exact H) | exact H
    have Ny254 := Aside0.mk hy254
    clear hy254
    have H' := Aside0.mk H
    clear H
    have p253 : 0 ≤ (x4_1 : Int) := of_decide_eq_true (g0_)
    have q253 : x4_1 < (l0.length : Int) := of_decide_eq_true (g0_)
    obtain ⟨ad253, e253, hx253_0⟩ := Kd.at_int HR0.out x4_1 p253 q253
    cases e253
    replace hx253_0 := cl_ HB hx253_0
    replace p253 := eq_true p253
    replace q253 := eq_true q253
    have p9 : 0 ≤ (x4_1 : Int) := of_decide_eq_true (g0_)
    have q9 : (x4_1 : Int) < ((x3_1.length : Int) : Int) := of_decide_eq_true (g0_)
    obtain ⟨go9, co9, eo9, gb9, gl9, cl9, HG9⟩ := Kd.R_form HO_3.out (by omega)
    (first | cases eo9 | (injection eo9 with ea_ en_ ec_; (first | subst ea_ | (injection ea_ with ea_; subst ea_)); subst ec_; clear en_))
    have GB9 := Aside0.mk gb9
    have GG9 := Aside0.mk HG9
    clear gb9 gl9 HG9
    obtain ⟨hx9_0, hf9_0⟩ := Kd.R_celln 0 HO_3.out (x4_1 : Int) p9 q9
    replace p9 := eq_true p9
    replace q9 := eq_true q9
    have HP10 := Kd.R_putg HO_3.out (x4_1 : Int) (rd l0 x4_1)
    go_wp2_with (first | ((with_reducible refine gate_store (t := 3) (p := 20) rfl ?_); refine store_event (t := 3) (p := 20) (v := ?vo_w11) (w1 := (wr.setCell ⟨go9, (x4_1 : Int).toNat, none⟩ (.int .i64 (rd l0 x4_1)))) ?hg ?ho ?hn ?hr ?_; (case ho => rfl); (case hg => rfl); (case hn => rfl); (case hr => first | (go_simp; done) | (go_simp; rfl)); intro w11 hw; have hg : wr.grownBy w11 (some go9) := (by rw [hw]; exact HP10.2); have hp_ : Kd.R (Kd.int .i64) 3 w11 w.heap.size (fun _ => True) (.slice (some ⟨go9, 0, none⟩) x3_1.length co9) y254 := (by rw [hw, Ny254.out]; exact HP10.1); clear HP10; replace HO_3 := Aside0.mk (hp_); replace HB := Aside0.mk ((by rw [hw]; exact below_set (HB.out) GB9.out : Below w.heap.size w w11)); clear hg hw hp_))
    go_roundg k1
    case measure => have := HK1.out; omega
    case rel => exact ⟨(y254), (wrap64 (x4_1 + 1)), (g3_), H', ⟨g8_⟩, ⟨uf1_ HO_3⟩, ⟨qz14_⟩⟩
   ·rw [if_neg c6] at H
    have c6b0 := decide_eq_false c6
    clear c6
    obtain rfl := Option.some.inj H
    go_wp2
    go_ret
    exact ⟨_, g4_, uf1_ HO_3, qz14_⟩
def laws_toIntSS.l0 : Nat → List (List Int) → List (List Int) → Int → Option ((List (List Int)))
 | 0, _, _, _ => none
 | k + 1, x0, x3, x4 => if x4 < (x0.length : Int) then (if 0 ≤ x4 then ((laws_toIntS.f k (rd_L1 x0 x4)).bind fun t259 => (if x4 < (x3.length : Int) then (laws_toIntSS.l0 k x0 (x3.set (x4 : Int).toNat t259) (wrap64 (x4 + 1))) else (none))) else (none)) else (some x3)
def laws_toIntSS.f (k : Nat) (l0 : List (List Int)) : Option ((List (List Int))) := if 0 ≤ (l0.length : Int) then (if ((l0.length : Int) : Int).toNat ≤ 11728124029610 then (laws_toIntSS.l0 k l0 (List.replicate ((l0.length : Int) : Int).toNat []) 0) else (none)) else (none)
theorem laws_toIntSS.mq {p : Prop} (h : p := by
 repeat' first
 | (with_reducible exact ih0 _ _ _)
 | (with_reducible exact laws_toIntS.mono _ _)
 | (with_reducible exact LeO.refl _)
 | (with_reducible exact LeO.none _)
 | (with_reducible refine LeO.ite ?_ ?_)
 | (with_reducible refine LeO.bind ?_ (fun _ => ?_))
 | exact ih0 _ _ _
 | exact laws_toIntS.mono _ _
 | exact LeO.none _
 | refine LeO.ite ?_ ?_
 | refine LeO.bind ?_ (fun _ => ?_)) : p := h
theorem laws_toIntSS.mono_l : ∀ k, (∀ y0 y1 y2, LeO (laws_toIntSS.l0 k y0 y1 y2) (laws_toIntSS.l0 (k + 1) y0 y1 y2))
 | 0 => fun _ _ _ r h => by simp [laws_toIntSS.l0] at h
 | k + 1 => by
  have ih0 := laws_toIntSS.mono_l k
  ·intro y0 y1 y2
   unfold laws_toIntSS.l0
   exact laws_toIntSS.mq
theorem laws_toIntSS.mono : ∀ a0 k, LeO (laws_toIntSS.f k a0) (laws_toIntSS.f (k + 1) a0) := by
 intro a0 k
 have ih0 := laws_toIntSS.mono_l k
 unfold laws_toIntSS.f
 exact laws_toIntSS.mq
theorem qz15_ {p : Prop} (h : p := by repeat (first | (with_reducible first | exact HB.out | apply below_alloc | apply pw_below_drewN | apply below_drew1) | exact HB.out)) : p := h
set_option maxHeartbeats 8000000 in
set_option maxRecDepth 100000 in
theorem laws_toIntSS.calls (k : Nat) (A0 : Option Addr) (c0 : Nat) (l0 : List (List Int)) (r : List (List Int)) (w : World) (hr0 : Kd.C (Kd.slice 3 (Kd.int .i64)) w A0 l0.length l0) (hc0 : l0.length ≤ c0) (h : laws_toIntSS.f k l0 = some r) :
  Calls Try.prog 82 #[.slice A0 l0.length c0] w fun e w' => ∃ v0_ : Value, e = .returned (v0_) ∧ Kd.S (Kd.slice 3 (Kd.int .i64)) 22 w' w.heap.size (fun _ => True) v0_ r ∧ Below w.heap.size w w' := by
 have HR0 := Aside0.mk hr0
 have HC0 := Aside0.mk hc0
 clear hr0 hc0
 have HB := Aside0.mk (Below.refl w.heap.size w)
 have H : (if 0 ≤ (l0.length : Int) then (if ((l0.length : Int) : Int).toNat ≤ 11728124029610 then (laws_toIntSS.l0 k l0 (List.replicate ((l0.length : Int) : Int).toNat []) 0) else (none)) else (none)) = some r := h
 clear h
 obtain ⟨c2, H⟩ := pos_ H
 have c2b0 := eq_true c2
 have c2b1 := decide_eq_true c2
 clear c2
 obtain ⟨c3, H⟩ := pos_ H
 have c3b0 := eq_true c3
 have c3b1 := decide_eq_true c3
 clear c3
 obtain ⟨y255, hy255⟩ : ∃ y_ : List (List Int), y_ = (List.replicate ((l0.length : Int) : Int).toNat []) := ⟨_, rfl⟩
 replace H : (laws_toIntSS.l0 k l0 y255 0) = some r := by first | (rw [hy255]; with_reducible exact H) | (have H2_ := (Option.bind_some _ _).symm.trans H; rw [hy255]; with_reducible exact H2_) | (have H2_ := (Option.bind_some _ _).symm.trans H; with_reducible exact H2_) | with_reducible exact H | (rw [hy255]; exact H) | exact H
 have Ny255 := Aside0.mk hy255
 clear hy255
 have H' := Aside0.mk H
 clear H
 go_enter Try.func82, Try.ntmps82
 go_wp2_with (first | ((with_reducible refine gate_dst (N := 7) rfl ?_); refine Kd.S_make (Kd.slice 3 (Kd.int .i64)) _ 22 rfl (N := 7) rfl 23 _ _ rfl (l0.length : Int) rfl rfl Try.underlying23 (.slice none 0 0) 24 info22 rfl (by decide) (by omega) [] (ok := fun _ => True) (okp := fun _ => True) ⟨_, rfl, Kd.R_nil _ _ _ _ _⟩ (fun _ hk => hk) trivial (of_decide_eq_true (g0_)) (Nat.le_trans (Nat.mul_le_mul_right _ (of_decide_eq_true (g0_) : (l0.length : Int).toNat ≤ 11728124029610)) (by omega)) (Below.refl _ _) (Nat.le_refl _) ?_; intro v256 w4 ho5 hb hg_ hnew_; clear hg_ hnew_; (first | rw [← Ny255.out] at ho5 | (simp only [Int.reduceToNat] at ho5; rw [← Ny255.out] at ho5)); have HO257 := Aside0.mk (Kd.S_lower ho5 (below_size (qz15_))); replace HB := Aside0.mk (below_step (qz15_) hb); clear hb ho5))
 go_loopg [4] k (fun kq v4 w' => ∃ (x3_1 : List (List Int)) (x4_1 : Int), v4 = .int .i64 x4_1 ∧ Aside0 (laws_toIntSS.l0 kq l0 x3_1 x4_1 = some r) ∧ Aside0 (kq ≤ k) ∧ Aside0 (Kd.S (Kd.slice 3 (Kd.int .i64)) 22 w' w.heap.size (fun _ => True) v256 x3_1) ∧ Aside0 (Below w.heap.size w w'))
 case atStart => exact ⟨(y255), (0), (g3_), H', ⟨Nat.le_refl _⟩, ⟨uf2_ HO257⟩, ⟨qz15_⟩⟩
 case round =>
  clear H'
  try clear c2
  try clear c2b0
  try clear c2b1
  try clear p2
  try clear c3
  try clear c3b0
  try clear c3b1
  obtain ⟨x3_1, x4_1, rfl, HA, HK1, HO_3, HB⟩ := hrel
  cases gk with
  | zero => exact absurd HA.out (by simp [laws_toIntSS.l0])
  | succ k1 =>
   have H := HA.out
   clear HA
   simp only [laws_toIntSS.l0] at H
   by_cases c6 : x4_1 < (l0.length : Int)
   ·rw [if_pos c6] at H
    have c6b0 := decide_eq_true c6
    clear c6
    obtain ⟨c7, H⟩ := pos_ H
    have c7b0 := decide_eq_true c7
    clear c7
    obtain ⟨t259, A8, H⟩ := bind_ H
    obtain ⟨c9, H⟩ := pos_ H
    have c9b0 := decide_eq_true c9
    clear c9
    obtain ⟨y262, hy262⟩ : ∃ y_ : List (List Int), y_ = (x3_1.set (x4_1 : Int).toNat t259) := ⟨_, rfl⟩
    replace H : (laws_toIntSS.l0 k1 l0 y262 (wrap64 (x4_1 + 1))) = some r := by first | (rw [hy262]; with_reducible exact H) | (have H2_ := (Option.bind_some _ _).symm.trans H; rw [hy262]; with_reducible exact H2_) | (have H2_ := (Option.bind_some _ _).symm.trans H; with_reducible exact H2_) | with_reducible exact H | (rw [hy262]; exact H) | exact H
    have Ny262 := Aside0.mk hy262
    clear hy262
    have H' := Aside0.mk H
    clear H
    have p258 : 0 ≤ (x4_1 : Int) := of_decide_eq_true (g0_)
    have q258 : x4_1 < (l0.length : Int) := of_decide_eq_true (g0_)
    obtain ⟨ad258, A258_0, c258_0, e258, hx258_0, hl258_0, hi258_0⟩ := at_L1 HR0.out x4_1 p258 q258
    cases e258
    replace hx258_0 := cl_ HB hx258_0
    have HR258_0 := Aside0.mk hi258_0
    have HC258_0 := Aside0.mk hl258_0
    clear hi258_0 hl258_0
    replace p258 := eq_true p258
    replace q258 := eq_true q258
    go_wp2_with (first | ((with_reducible refine gate_callee (f := 81) rfl ?_); refine goesL_ (some 20) rfl rfl Try.func81 k_ rfl #[.slice A258_0 (rd_L1 l0 x4_1).length c258_0] rfl (g2_) ?_; (with_reducible refine (laws_toIntS.calls k1 _ _ (rd_L1 l0 x4_1) t259 _ ?side1 ?side2 A8.out).mono ?_); (case side1 => exact uf3_ HR258_0); (case side2 => exact HC258_0.out); rintro e w11 ⟨v260, rfl, ho0, hb⟩; refine ⟨_, rfl, ?_⟩; replace HO_3 := Aside0.mk (Kd.S_elder' (uf2_ HO_3) (Kd.R_base ho0) hb); have HO261 := Aside0.mk (Kd.R_lower ho0 (below_size (qz15_))); replace HB := Aside0.mk (below_step (qz15_) hb); (try clear hb); (try clear hk hi); (try clear ho0); have p10 : 0 ≤ (x4_1 : Int) := of_decide_eq_true (g0_); have q10 : (x4_1 : Int) < ((x3_1.length : Int) : Int) := of_decide_eq_true (g0_); obtain ⟨go10, co10, eo10, gb10, gl10, cl10, HG10⟩ := Kd.S_form HO_3.out (by omega); (first | cases eo10 | (injection eo10 with ea_ en_ ec_; (first | subst ea_ | (injection ea_ with ea_; subst ea_)); subst ec_; clear en_)); have GB10 := Aside0.mk gb10; have GG10 := Aside0.mk HG10; clear gb10 gl10 HG10; obtain ⟨_, ce10, hcl10, hM10, hcc10, hfr10, _, _⟩ := Kd.S_elem HO_3.out [] (x4_1 : Int) p10 q10; obtain ⟨ve10_0, rfl, ge10_0⟩ := hM10; have hx10_0 := hcc10 0 _ rfl; have hf10_0 := hfr10 0; (try simp only [show ((Kd.slice 3 (Kd.int .i64))).sz = 1 from rfl, Nat.mul_one, Nat.add_zero] at hx10_0); (try simp only [show ((Kd.slice 3 (Kd.int .i64))).sz = 1 from rfl, Nat.mul_one, Nat.add_zero] at hf10_0); (try clear hcl10); (try clear hcc10); (try clear hfr10); (try clear hM10); replace p10 := eq_true p10; replace q10 := eq_true q10; have n_ := Aside0.mk (Kd.S_mono (ok' := (fun k_ => some k_ ≠ (v260 : Value).ownBlock)) HO_3.out (fun k_ hk => hk.2)); clear HO_3; have HO_3 := n_; clear n_; have HX12 := Aside0.mk (show Kd.S (Kd.slice 3 (Kd.int .i64)) 22 w11 w.heap.size (fun k_ => ((fun _ => True)) k_ ∧ ¬ ((fun k_ => some k_ = (v260 : Value).ownBlock)) k_) (.slice (some ⟨go10, 0, none⟩) x3_1.length co10) x3_1 from (by (with_reducible repeat (first | apply Kd.S_alloc | apply Kd.S_drewN | apply Kd.S_drew)); exact Kd.S_mono HO_3.out (fun k_ hk => ⟨trivial, fun e_ => hk e_⟩))); obtain ⟨oki12, ce12, hcl12, hM12, hcc12, hfr12, hoki12, hH12⟩ := Kd.S_elem HX12.out [] (x4_1 : Int) (of_decide_eq_true (g0_)) (by have h_ : (x4_1 : Int) < ((x3_1.length : Int) : Int) := of_decide_eq_true (g0_); first | exact h_ | (have e_ := (Kd.S_reads' HO_3.out).1; omega) | simpa using h_); obtain ⟨ve12_0, rfl, ge12_0⟩ := hM12; have HP12 := Kd.S_seg hH12 (of_decide_eq_true (g0_)) (by have h_ : (x4_1 : Int) < ((x3_1.length : Int) : Int) := of_decide_eq_true (g0_); first | exact h_ | (have e_ := (Kd.S_reads' HO_3.out).1; omega) | simpa using h_) (seg := [v260]) (j := 0) (show 1 ≤ 1 from by decide) (x' := t259) (Kd.M_row (Kd.R_mono (Kd.R_tight rfl (Kd.R_mono (ok' := fun k_ => ((fun _ => True)) k_ ∧ k_ ≠ go10) (Kd.R_apart' (HO261.out) (Kd.S_typed HO_3.out) (by decide)) (fun k_ hk => ⟨trivial, fun e_ => (hk.2) (g7_)⟩))) (fun _ h_ => Or.inr (h_)))) (fun _ hk => hk) (fun k_ hk_ => ((Kd.R_mono (ok' := fun k_ => ((fun _ => True)) k_ ∧ k_ ≠ go10) (Kd.R_apart' (HO261.out) (Kd.S_typed HO_3.out) (by decide)) (fun k_ hk => ⟨trivial, fun e_ => (hk.2) (g7_)⟩))).1 k_ hk_.symm); have hx12_0 := hcc12 0 _ rfl; (try simp only [show ((Kd.slice 3 (Kd.int .i64))).sz = 1 from rfl, Nat.mul_one, Nat.add_zero] at hx12_0); have hf12_0 := hfr12 0; (try simp only [show ((Kd.slice 3 (Kd.int .i64))).sz = 1 from rfl, Nat.mul_one, Nat.add_zero] at hf12_0); (try clear hcl12); (try clear hcc12); (try clear hfr12); (try clear hM12); (try clear hoki12); (try clear hH12); (try simp only [show ((Kd.slice 3 (Kd.int .i64))).sz = 1 from rfl, Nat.mul_one, Nat.add_zero] at HP12)) | ((with_reducible refine gate_store (t := 22) (p := 21) rfl ?_); refine store_event (t := 22) (p := 21) (v := ?vo_w13) (w1 := (w11.setCell ⟨go10, (x4_1 : Int).toNat, none⟩ (v260))) ?hg ?ho ?hn ?hr ?_; (case ho => rfl); (case hg => rfl); (case hn => rfl); (case hr => first | (go_simp; done) | (go_simp; rfl) | (obtain ⟨_, _, e0_⟩ := Kd.R_slice HO261.out; rw [e0_]; first | (go_simp; done) | (go_simp; rfl))); intro w13 hw; have hg : w11.grownBy w13 (some go10) := (by rw [hw]; exact HP12.2); have hp_ : Kd.S (Kd.slice 3 (Kd.int .i64)) 22 w13 w.heap.size (fun _ => True) (.slice (some ⟨go10, 0, none⟩) x3_1.length co10) y262 := (by rw [hw, Ny262.out]; exact HP12.1); clear HP12; replace HO_3 := Aside0.mk (hp_); replace HB := Aside0.mk ((by rw [hw]; exact below_set (HB.out) GB10.out : Below w.heap.size w w13)); clear HO261; clear hg hw hp_))
    go_roundg k1
    case measure => have := HK1.out; omega
    case rel => exact ⟨(y262), (wrap64 (x4_1 + 1)), (g3_), H', ⟨g8_⟩, ⟨uf2_ HO_3⟩, ⟨qz15_⟩⟩
   ·rw [if_neg c6] at H
    have c6b0 := decide_eq_false c6
    clear c6
    obtain rfl := Option.some.inj H
    go_wp2
    go_ret
    exact ⟨_, g4_, uf2_ HO_3, qz15_⟩
def laws_toBook.f (k : Nat) (l0_0 : List Int) (l0_1 : List (List Int)) : Option (List Int × (List (List Int))) := (laws_toIntS.f k l0_0).bind fun t266 => ((laws_toIntSS.f k l0_1).bind fun t269 => (some (t266, t269)))
theorem laws_toBook.mq {p : Prop} (h : p := by
 repeat' first
 | (with_reducible exact laws_toIntS.mono _ _)
 | (with_reducible exact laws_toIntSS.mono _ _)
 | (with_reducible exact LeO.refl _)
 | (with_reducible exact LeO.none _)
 | (with_reducible refine LeO.ite ?_ ?_)
 | (with_reducible refine LeO.bind ?_ (fun _ => ?_))
 | exact laws_toIntS.mono _ _
 | exact laws_toIntSS.mono _ _
 | exact LeO.none _
 | refine LeO.ite ?_ ?_
 | refine LeO.bind ?_ (fun _ => ?_)) : p := h
theorem laws_toBook.mono : ∀ a0 a1 k, LeO (laws_toBook.f k a0 a1) (laws_toBook.f (k + 1) a0 a1) := by
 intro a0 a1 k
 unfold laws_toBook.f
 exact laws_toBook.mq
theorem qz5_ {p : Prop} (h : p := by repeat (first | (with_reducible first | exact HB.out | apply below_alloc | apply pw_below_drewN | apply below_drew1 | refine below_set ?_ GE263.out | refine below_set ?_ GE264.out | refine below_set ?_ GE265.out) | exact HB.out)) : p := h
set_option maxHeartbeats 8000000 in
set_option maxRecDepth 100000 in
theorem laws_toBook.calls (k : Nat) (A0_0 : Option Addr) (c0_0 : Nat) (l0_0 : List Int) (A0_1 : Option Addr) (c0_1 : Nat) (l0_1 : List (List Int)) (r1 : List Int) (r2 : List (List Int)) (w : World) (hr0_0 : Kd.C (Kd.int .i64) w A0_0 l0_0.length l0_0) (hc0_0 : l0_0.length ≤ c0_0) (hr0_1 : Kd.C (Kd.slice 3 (Kd.int .i64)) w A0_1 l0_1.length l0_1) (hc0_1 : l0_1.length ≤ c0_1) (h : laws_toBook.f k l0_0 l0_1 = some (r1, r2)) :
  Calls Try.prog 33 #[.agg #[.slice A0_0 l0_0.length c0_0, .slice A0_1 l0_1.length c0_1]] w fun e w' => ∃ v0_ v1_ : Value, e = .returned (.agg #[v0_, v1_]) ∧ Kd.R (Kd.int .i64) 3 w' w.heap.size (fun _ => True) v0_ r1 ∧ Kd.S (Kd.slice 3 (Kd.int .i64)) 22 w' w.heap.size (fun k_ => some k_ ≠ (v0_ : Value).ownBlock) v1_ r2 ∧ Below w.heap.size w w' := by
 have hu40 := Try.underlying40
 have hu25 := Try.underlying25
 have HR0_0 := Aside0.mk hr0_0
 have HC0_0 := Aside0.mk hc0_0
 clear hr0_0 hc0_0
 have HR0_1 := Aside0.mk hr0_1
 have HC0_1 := Aside0.mk hc0_1
 clear hr0_1 hc0_1
 have HB := Aside0.mk (Below.refl w.heap.size w)
 have H : ((laws_toIntS.f k l0_0).bind fun t266 => ((laws_toIntSS.f k l0_1).bind fun t269 => (some (t266, t269)))) = some (r1, r2) := h
 clear h
 obtain ⟨t266, A2, H⟩ := bind_ H
 obtain ⟨t269, A3, H⟩ := bind_ H
 simp only [Option.some.injEq, Prod.mk.injEq] at H
 obtain ⟨rfl, rfl⟩ := H
 go_enter Try.func33, Try.ntmps33
 go_wp2_with (first | ((with_reducible refine gate_dst (N := 1) rfl ?_); refine bx_ (N := 1) #[.slice A0_0 l0_0.length c0_0, .slice A0_1 l0_1.length c0_1] 40 ?_; intro gb263 hg w4 hbox hb; have BK263 := Aside0.mk (hbox); have GW263 := Aside0.mk ((g26_ : w.heap.size ≤ gb263)); have GE263 := Aside0.mk ((g26_ : w.heap.size ≤ gb263)); replace HB := Aside0.mk (below_step (qz5_) hb); clear hb hbox hg) | ((with_reducible refine gate_dst (N := 2) rfl ?_); refine bx_ (N := 2) #[.slice none 0 0, .slice none 0 0] 25 ?_; intro gb264 hg w5 hbox hb; have BK264 := Aside0.mk (hbox); have GW264 := Aside0.mk ((g26_ : w.heap.size ≤ gb264)); have GE264 := Aside0.mk ((g26_ : w.heap.size ≤ gb264)); replace HB := Aside0.mk (below_step (qz5_) hb); have NB263_264 := Aside0.mk ((by rw [hg]; exact Nat.ne_of_lt (blk_lt (g := gb263) (o := .cells #[.slice A0_0 l0_0.length c0_0, .slice A0_1 l0_1.length c0_1] 40 (0, 0)) (uf0_ BK263)) : gb263 ≠ gb264)); have NB264_263 := Aside0.mk ((by rw [hg]; exact Nat.ne_of_gt (blk_lt (g := gb263) (o := .cells #[.slice A0_0 l0_0.length c0_0, .slice A0_1 l0_1.length c0_1] 40 (0, 0)) (uf0_ BK263)) : gb264 ≠ gb263)); replace BK263 := bb_ BK263 hb; clear hb hbox hg) | ((with_reducible refine gate_dst (N := 3) rfl ?_); refine bx_ (N := 3) #[.slice none 0 0, .slice none 0 0] 25 ?_; intro gb265 hg w6 hbox hb; have BK265 := Aside0.mk (hbox); have GW265 := Aside0.mk ((g26_ : w.heap.size ≤ gb265)); have GE265 := Aside0.mk ((g26_ : w.heap.size ≤ gb265)); replace HB := Aside0.mk (below_step (qz5_) hb); have NB263_265 := Aside0.mk ((by rw [hg]; exact Nat.ne_of_lt (blk_lt (g := gb263) (o := .cells #[.slice A0_0 l0_0.length c0_0, .slice A0_1 l0_1.length c0_1] 40 (0, 0)) (uf0_ BK263)) : gb263 ≠ gb265)); have NB265_263 := Aside0.mk ((by rw [hg]; exact Nat.ne_of_gt (blk_lt (g := gb263) (o := .cells #[.slice A0_0 l0_0.length c0_0, .slice A0_1 l0_1.length c0_1] 40 (0, 0)) (uf0_ BK263)) : gb265 ≠ gb263)); replace BK263 := bb_ BK263 hb; have NB264_265 := Aside0.mk ((by rw [hg]; exact Nat.ne_of_lt (blk_lt (g := gb264) (o := .cells #[.slice none 0 0, .slice none 0 0] 25 (0, 0)) (uf0_ BK264)) : gb264 ≠ gb265)); have NB265_264 := Aside0.mk ((by rw [hg]; exact Nat.ne_of_gt (blk_lt (g := gb264) (o := .cells #[.slice none 0 0, .slice none 0 0] 25 (0, 0)) (uf0_ BK264)) : gb265 ≠ gb264)); replace BK264 := bb_ BK264 hb; clear hb hbox hg; have hnb7 := NB263_264.out; have hnc7 := NB264_263.out; have hnb8 := NB263_265.out; have hnc8 := NB265_263.out; obtain ⟨hcz9_0, hcz9_1, hfz9_0, hfz9_1⟩ := blk2_ BK263) | ((with_reducible refine gate_callee (f := 81) rfl ?_); refine goesL_ (some 6) rfl rfl Try.func81 k_ rfl #[.slice A0_0 l0_0.length c0_0] rfl (g2_) ?_; (with_reducible refine (laws_toIntS.calls k _ _ l0_0 t266 _ ?side1 ?side2 A2.out).mono ?_); (case side1 => exact uf3_ HR0_0); (case side2 => exact HC0_0.out); rintro e w10 ⟨v267, rfl, ho0, hb⟩; refine ⟨_, rfl, ?_⟩; have HO268 := Aside0.mk (Kd.R_lower ho0 (below_size (qz5_))); replace BK263 := bb_ BK263 hb; replace BK264 := bb_ BK264 hb; replace BK265 := bb_ BK265 hb; replace HB := Aside0.mk (below_step (qz5_) hb); (try clear hb); (try clear hk hi); (try clear ho0); obtain ⟨Ao11, co11, eo11⟩ := Kd.R_slice HO268.out; subst eo11; have hnb12 := NB265_264.out; have hnc12 := NB264_265.out; obtain ⟨hcz13_0, hcz13_1, hfz13_0, hfz13_1⟩ := blk2_ BK265; obtain ⟨hcz14_0, hcz14_1, hfz14_0, hfz14_1⟩ := blk2_ BK263) | ((with_reducible refine gate_callee (f := 82) rfl ?_); refine goesL_ (some 10) rfl rfl Try.func82 k_ rfl #[.slice A0_1 l0_1.length c0_1] rfl (g2_) ?_; (with_reducible refine (laws_toIntSS.calls k _ _ l0_1 t269 _ ?side1 ?side2 A3.out).mono ?_); (case side1 => exact Kd.C_below HR0_1.out (qz5_)); (case side2 => exact HC0_1.out); rintro e w15 ⟨v270, rfl, ho0, hb⟩; refine ⟨_, rfl, ?_⟩; have HO271 := Aside0.mk (Kd.S_lower (Kd.S_new' ho0 (Kd.R_lt (by (with_reducible repeat (first | apply Kd.R_alloc | apply Kd.R_drewN | apply Kd.R_drew)); exact (Kd.R_mono (Kd.R_far (p := ⟨gb265, 0, none⟩) (Kd.R_types HO268.out BK265.out (by decide)) (fun _ hk => hk.2) (.slice Ao11 t266.length co11)) (fun _ h_ => h_.1))))) (below_size (qz5_))); replace HO268 := Aside0.mk (Kd.R_below (by (with_reducible repeat (first | apply Kd.R_alloc | apply Kd.R_drewN | apply Kd.R_drew)); exact (Kd.R_mono (Kd.R_far (p := ⟨gb265, 0, none⟩) (Kd.R_types HO268.out BK265.out (by decide)) (fun _ hk => hk.2) (.slice Ao11 t266.length co11)) (fun _ h_ => h_.1))) hb); replace BK263 := Aside0.mk (blk_below (g := gb263) (o := .cells #[.slice A0_0 l0_0.length c0_0, .slice A0_1 l0_1.length c0_1] 40 (0, 0)) (by (with_reducible repeat (first | refine blk_drewN ?_ _ | refine blk_drew ?_ | refine blk_alloc ?_ _)); refine blk_far ?_ NB263_265.out _; (with_reducible repeat (first | refine blk_drewN ?_ _ | refine blk_drew ?_ | refine blk_alloc ?_ _)); exact BK263.out) hb); replace BK264 := Aside0.mk (blk_below (g := gb264) (o := .cells #[.slice none 0 0, .slice none 0 0] 25 (0, 0)) (by (with_reducible repeat (first | refine blk_drewN ?_ _ | refine blk_drew ?_ | refine blk_alloc ?_ _)); refine blk_far ?_ NB264_265.out _; (with_reducible repeat (first | refine blk_drewN ?_ _ | refine blk_drew ?_ | refine blk_alloc ?_ _)); exact BK264.out) hb); replace BK265 := Aside0.mk (blk_below (g := gb265) (o := .cells #[.slice Ao11 t266.length co11, .slice none 0 0] 25 (0, 0)) (by (with_reducible repeat (first | refine blk_drewN ?_ _ | refine blk_drew ?_ | refine blk_alloc ?_ _)); refine blk_put (cs := #[.slice none 0 0, .slice none 0 0]) ?_ 0 _ rfl; (with_reducible repeat (first | refine blk_drewN ?_ _ | refine blk_drew ?_ | refine blk_alloc ?_ _)); exact BK265.out) hb); replace HB := Aside0.mk (below_step (qz5_) hb); (try clear hb); (try clear hk hi); (try clear ho0); obtain ⟨Ao16, co16, eo16⟩ := Kd.S_slice HO271.out; subst eo16; obtain ⟨hcz17_0, hcz17_1, hfz17_0, hfz17_1⟩ := blk2_ BK265; obtain ⟨hcz18_0, hcz18_1, hfz18_0, hfz18_1⟩ := blk2_ BK264))
 refine bodyPost_ret (results_cell_row rfl _ _ gb264 25 #[.slice Ao11 t266.length co11, .slice Ao16 t269.length co16] (0, 0) _ rfl (by (with_reducible repeat (first | refine blk_drewN ?_ _ | refine blk_drew ?_ | refine blk_alloc ?_ _)); refine blk_put (cs := #[.slice Ao11 t266.length co11, .slice none 0 0]) ?_ 1 _ rfl; (with_reducible repeat (first | refine blk_drewN ?_ _ | refine blk_drew ?_ | refine blk_alloc ?_ _)); refine blk_put (cs := #[.slice none 0 0, .slice none 0 0]) ?_ 0 _ rfl; (with_reducible repeat (first | refine blk_drewN ?_ _ | refine blk_drew ?_ | refine blk_alloc ?_ _)); refine blk_far ?_ NB264_265.out _; (with_reducible repeat (first | refine blk_drewN ?_ _ | refine blk_drew ?_ | refine blk_alloc ?_ _)); exact BK264.out) Try.underlying25 rfl (g1_)) rfl ?_
 exact ⟨_, _, g4_, by (with_reducible repeat (first | apply Kd.R_alloc | apply Kd.R_drewN | apply Kd.R_drew)); exact Kd.R_mono (Kd.R_far (p := ⟨gb264, 1, none⟩) (Kd.R_far (p := ⟨gb264, 0, none⟩) (Kd.R_far (p := ⟨gb265, 1, none⟩) (Kd.R_types (Kd.R_types HO268.out BK265.out (by decide)) BK264.out (by decide)) (fun _ hk => hk.1.2) (.slice Ao16 t269.length co16)) (fun _ hk => hk.2) (.slice Ao11 t266.length co11)) (fun _ hk => hk.2) (.slice Ao16 t269.length co16)) (fun _ hk => trivial), by (with_reducible repeat (first | apply Kd.S_alloc | apply Kd.S_drewN | apply Kd.S_drew)); exact Kd.S_mono (Kd.S_far (p := ⟨gb264, 1, none⟩) (Kd.S_far (p := ⟨gb264, 0, none⟩) (Kd.S_far (p := ⟨gb265, 1, none⟩) (Kd.S_types (Kd.S_types HO271.out BK265.out (by decide)) BK264.out (by decide)) (fun _ hk => hk.1.2) (.slice Ao16 t269.length co16)) (fun _ hk => hk.2) (.slice Ao11 t266.length co11)) (fun _ hk => hk.2) (.slice Ao16 t269.length co16)) (fun _ hk => hk.1.1.2), qz5_⟩
def laws_toBookS.l0 : Nat → List (S40) → List (S25) → Int → Option ((List (S25)))
 | 0, _, _, _ => none
 | k + 1, x0, x3, x4 => if x4 < (x0.length : Int) then (if 0 ≤ x4 then ((laws_toBook.f k ((rd_T40 x0 x4).f0) ((rd_T40 x0 x4).f1)).bind fun bt276 => (if x4 < (x3.length : Int) then (laws_toBookS.l0 k x0 (x3.set (x4 : Int).toNat (⟨bt276.1, bt276.2⟩ : S25)) (wrap64 (x4 + 1))) else (none))) else (none)) else (some x3)
def laws_toBookS.f (k : Nat) (l0 : List (S40)) : Option ((List (S25))) := if 0 ≤ (l0.length : Int) then (if ((l0.length : Int) : Int).toNat ≤ 5864062014805 then (laws_toBookS.l0 k l0 (List.replicate ((l0.length : Int) : Int).toNat z25) 0) else (none)) else (none)
theorem laws_toBookS.mq {p : Prop} (h : p := by
 repeat' first
 | (with_reducible exact ih0 _ _ _)
 | (with_reducible exact laws_toBook.mono _ _ _)
 | (with_reducible exact LeO.refl _)
 | (with_reducible exact LeO.none _)
 | (with_reducible refine LeO.ite ?_ ?_)
 | (with_reducible refine LeO.bind ?_ (fun _ => ?_))
 | exact ih0 _ _ _
 | exact laws_toBook.mono _ _ _
 | exact LeO.none _
 | refine LeO.ite ?_ ?_
 | refine LeO.bind ?_ (fun _ => ?_)) : p := h
theorem laws_toBookS.mono_l : ∀ k, (∀ y0 y1 y2, LeO (laws_toBookS.l0 k y0 y1 y2) (laws_toBookS.l0 (k + 1) y0 y1 y2))
 | 0 => fun _ _ _ r h => by simp [laws_toBookS.l0] at h
 | k + 1 => by
  have ih0 := laws_toBookS.mono_l k
  ·intro y0 y1 y2
   unfold laws_toBookS.l0
   exact laws_toBookS.mq
theorem laws_toBookS.mono : ∀ a0 k, LeO (laws_toBookS.f k a0) (laws_toBookS.f (k + 1) a0) := by
 intro a0 k
 have ih0 := laws_toBookS.mono_l k
 unfold laws_toBookS.f
 exact laws_toBookS.mq
theorem qz16_ {p : Prop} (h : p := by repeat (first | (with_reducible first | exact HB.out | apply below_alloc | apply pw_below_drewN | apply below_drew1) | exact HB.out)) : p := h
set_option maxHeartbeats 8000000 in
set_option maxRecDepth 100000 in
theorem laws_toBookS.calls (k : Nat) (A0 : Option Addr) (c0 : Nat) (l0 : List (S40)) (r : List (S25)) (w : World) (hr0 : Kd.C k40 w A0 l0.length l0) (hc0 : l0.length ≤ c0) (h : laws_toBookS.f k l0 = some r) :
  Calls Try.prog 76 #[.slice A0 l0.length c0] w fun e w' => ∃ v0_ : Value, e = .returned (v0_) ∧ Kd.R k25 25 w' w.heap.size (fun _ => True) v0_ r ∧ Below w.heap.size w w' := by
 have hu40 := Try.underlying40
 have hu25 := Try.underlying25
 have HR0 := Aside0.mk hr0
 have HC0 := Aside0.mk hc0
 clear hr0 hc0
 have HB := Aside0.mk (Below.refl w.heap.size w)
 have H : (if 0 ≤ (l0.length : Int) then (if ((l0.length : Int) : Int).toNat ≤ 5864062014805 then (laws_toBookS.l0 k l0 (List.replicate ((l0.length : Int) : Int).toNat z25) 0) else (none)) else (none)) = some r := h
 clear h
 obtain ⟨c2, H⟩ := pos_ H
 have c2b0 := eq_true c2
 have c2b1 := decide_eq_true c2
 clear c2
 obtain ⟨c3, H⟩ := pos_ H
 have c3b0 := eq_true c3
 have c3b1 := decide_eq_true c3
 clear c3
 obtain ⟨y272, hy272⟩ : ∃ y_ : List (S25), y_ = (List.replicate ((l0.length : Int) : Int).toNat z25) := ⟨_, rfl⟩
 replace H : (laws_toBookS.l0 k l0 y272 0) = some r := by first | (rw [hy272]; with_reducible exact H) | (have H2_ := (Option.bind_some _ _).symm.trans H; rw [hy272]; with_reducible exact H2_) | (have H2_ := (Option.bind_some _ _).symm.trans H; with_reducible exact H2_) | with_reducible exact H | (rw [hy272]; exact H) | exact H
 have Ny272 := Aside0.mk hy272
 clear hy272
 have H' := Aside0.mk H
 clear H
 go_enter Try.func76, Try.ntmps76
 go_wp2_with (first | ((with_reducible refine gate_dst (N := 7) rfl ?_); refine Kd.R_make k25 _ 25 rfl (N := 7) rfl 26 _ _ rfl (l0.length : Int) rfl rfl Try.underlying26 (.agg #[(.slice none 0 0), (.slice none 0 0)]) 48 info25 rfl (by decide) (by omega) z25 (ok := fun _ => True) (okp := fun _ => True) (k25_mkM _ _ _ z25 (Kd.R_nil _ _ _ _ _) (Kd.R_nil _ _ _ _ _)) (fun _ hk => hk) trivial (of_decide_eq_true (g0_)) (Nat.le_trans (Nat.mul_le_mul_right _ (of_decide_eq_true (g0_) : (l0.length : Int).toNat ≤ 5864062014805)) (by omega)) (Below.refl _ _) (Nat.le_refl _) ?_; intro v273 w4 ho5 hb hg_ hnew_; clear hg_ hnew_; (first | rw [← Ny272.out] at ho5 | (simp only [Int.reduceToNat] at ho5; rw [← Ny272.out] at ho5)); have HO274 := Aside0.mk (Kd.R_lower ho5 (below_size (qz16_))); replace HB := Aside0.mk (below_step (qz16_) hb); clear hb ho5))
 go_loopg [4] k (fun kq v4 w' => ∃ (x3_1 : List (S25)) (x4_1 : Int), v4 = .int .i64 x4_1 ∧ Aside0 (laws_toBookS.l0 kq l0 x3_1 x4_1 = some r) ∧ Aside0 (kq ≤ k) ∧ Aside0 (Kd.R k25 25 w' w.heap.size (fun _ => True) v273 x3_1) ∧ Aside0 (Below w.heap.size w w'))
 case atStart => exact ⟨(y272), (0), (g3_), H', ⟨Nat.le_refl _⟩, ⟨uf1_ HO274⟩, ⟨qz16_⟩⟩
 case round =>
  clear H'
  try clear c2
  try clear c2b0
  try clear c2b1
  try clear p2
  try clear c3
  try clear c3b0
  try clear c3b1
  obtain ⟨x3_1, x4_1, rfl, HA, HK1, HO_3, HB⟩ := hrel
  cases gk with
  | zero => exact absurd HA.out (by simp [laws_toBookS.l0])
  | succ k1 =>
   have H := HA.out
   clear HA
   simp only [laws_toBookS.l0] at H
   by_cases c6 : x4_1 < (l0.length : Int)
   ·rw [if_pos c6] at H
    have c6b0 := decide_eq_true c6
    clear c6
    obtain ⟨c7, H⟩ := pos_ H
    have c7b0 := decide_eq_true c7
    clear c7
    replace H := Option.bind_eq_some_iff.mp H
    obtain ⟨⟨t276, t279⟩, A80, H⟩ := H
    replace H : (if x4_1 < (x3_1.length : Int) then (laws_toBookS.l0 k1 l0 (x3_1.set (x4_1 : Int).toNat (⟨t276, t279⟩ : S25)) (wrap64 (x4_1 + 1))) else (none)) = some r := H
    have A8 := Aside0.mk A80
    clear A80
    obtain ⟨c9, H⟩ := pos_ H
    have c9b0 := decide_eq_true c9
    clear c9
    obtain ⟨y282, hy282⟩ : ∃ y_ : List (S25), y_ = (x3_1.set (x4_1 : Int).toNat (⟨t276, t279⟩ : S25)) := ⟨_, rfl⟩
    replace H : (laws_toBookS.l0 k1 l0 y282 (wrap64 (x4_1 + 1))) = some r := by first | (rw [hy282]; with_reducible exact H) | (have H2_ := (Option.bind_some _ _).symm.trans H; rw [hy282]; with_reducible exact H2_) | (have H2_ := (Option.bind_some _ _).symm.trans H; with_reducible exact H2_) | with_reducible exact H | (rw [hy282]; exact H) | exact H
    have Ny282 := Aside0.mk hy282
    clear hy282
    have H' := Aside0.mk H
    clear H
    have p275 : 0 ≤ (x4_1 : Int) := of_decide_eq_true (g0_)
    have q275 : x4_1 < (l0.length : Int) := of_decide_eq_true (g0_)
    obtain ⟨ad275, A275_0, c275_0, A275_1, c275_1, e275, hx275_0, hx275_1, hl275_0, hi275_0, hl275_1, hi275_1⟩ := at_T40 HR0.out x4_1 p275 q275
    cases e275
    replace hx275_0 := cl_ HB hx275_0
    replace hx275_1 := cl_ HB hx275_1
    have HR275_0 := Aside0.mk hi275_0
    have HC275_0 := Aside0.mk hl275_0
    clear hi275_0 hl275_0
    have HR275_1 := Aside0.mk hi275_1
    have HC275_1 := Aside0.mk hl275_1
    clear hi275_1 hl275_1
    replace p275 := eq_true p275
    replace q275 := eq_true q275
    go_wp2_with (first | ((with_reducible refine gate_callee (f := 33) rfl ?_); refine goesL_ (some 20) rfl rfl Try.func33 k_ rfl #[.agg #[.slice A275_0 ((rd_T40 l0 x4_1).f0).length c275_0, .slice A275_1 ((rd_T40 l0 x4_1).f1).length c275_1]] rfl (g2_) ?_; (with_reducible refine (laws_toBook.calls k1 _ _ ((rd_T40 l0 x4_1).f0) _ _ ((rd_T40 l0 x4_1).f1) t276 t279 _ ?side1 ?side2 ?side3 ?side4 A8.out).mono ?_); (case side1 => exact uf3_ HR275_0); (case side2 => exact HC275_0.out); (case side3 => exact uf3_ HR275_1); (case side4 => exact HC275_1.out); rintro e w11 ⟨v277, v280, rfl, ho0, ho1, hb⟩; refine ⟨_, rfl, ?_⟩; replace HO_3 := Aside0.mk (Kd.R_mono (Kd.R_told (Kd.R_told (Kd.R_old (uf1_ HO_3) hb) (Kd.R_base ho0)) (Kd.S_base ho1)) (fun _ h_ => h_.1)); have HO278 := Aside0.mk (Kd.R_lower ho0 (below_size (qz16_))); have HO281 := Aside0.mk (Kd.S_lower ho1 (below_size (qz16_))); replace HB := Aside0.mk (below_step (qz16_) hb); (try clear hb); (try clear hk hi); (try clear ho0); (try clear ho1); have p10 : 0 ≤ (x4_1 : Int) := of_decide_eq_true (g0_); have q10 : (x4_1 : Int) < ((x3_1.length : Int) : Int) := of_decide_eq_true (g0_); obtain ⟨go10, co10, eo10, gb10, gl10, cl10, HG10⟩ := Kd.R_form HO_3.out (by omega); (first | cases eo10 | (injection eo10 with ea_ en_ ec_; (first | subst ea_ | (injection ea_ with ea_; subst ea_)); subst ec_; clear en_)); have GB10 := Aside0.mk gb10; have GG10 := Aside0.mk HG10; clear gb10 gl10 HG10; obtain ⟨ce10, hcl10, hM10, hcc10, hfr10⟩ := Kd.R_elem HO_3.out z25 (x4_1 : Int) p10 q10; obtain ⟨ve10_0, ve10_1, rfl, ge10_0, ge10_1⟩ := k25_openM hM10; have hx10_0 : w11.cell? ⟨go10, (x4_1 : Int).toNat * 2, none⟩ = some (ve10_0) := hcc10 0 _ rfl; have hx10_1 : w11.cell? ⟨go10, (x4_1 : Int).toNat * 2 + 1, none⟩ = some (ve10_1) := hcc10 1 _ rfl; have hf10_0 : w11.frozen? ⟨go10, (x4_1 : Int).toNat * 2, none⟩ = false := hfr10 0; have hf10_1 : w11.frozen? ⟨go10, (x4_1 : Int).toNat * 2 + 1, none⟩ = false := hfr10 1; (try clear hcl10); (try clear hcc10); (try clear hfr10); (try clear hM10); replace p10 := eq_true p10; replace q10 := eq_true q10; have n_ := Aside0.mk (Kd.R_mono (ok' := (fun k_ => some k_ ≠ (v277 : Value).ownBlock ∧ some k_ ≠ (v280 : Value).ownBlock)) HO_3.out (fun k_ hk => ⟨hk.1.2, hk.2⟩)); clear HO_3; have HO_3 := n_; clear n_; have HX12 := Aside0.mk (show Kd.R k25 25 w11 w.heap.size (fun _ => True) (.slice (some ⟨go10, 0, none⟩) x3_1.length co10) x3_1 from (by (with_reducible repeat (first | apply Kd.R_alloc | apply Kd.R_drewN | apply Kd.R_drew)); exact Kd.R_mono HO_3.out (fun _ hk => trivial))); obtain ⟨ce12, hcl12, hM12, hcc12, hfr12⟩ := Kd.R_elem HX12.out z25 (x4_1 : Int) (of_decide_eq_true (g0_)) (by have h_ : (x4_1 : Int) < ((x3_1.length : Int) : Int) := of_decide_eq_true (g0_); first | exact h_ | (have e_ := (Kd.R_reads' HO_3.out).1; omega) | simpa using h_); obtain ⟨ve12_0, ve12_1, rfl, ge12_0, ge12_1⟩ := k25_openM hM12; have HP12 := Kd.R_seg HX12.out (x4_1 : Int) (of_decide_eq_true (g0_)) (by have h_ : (x4_1 : Int) < ((x3_1.length : Int) : Int) := of_decide_eq_true (g0_); first | exact h_ | (have e_ := (Kd.R_reads' HO_3.out).1; omega) | simpa using h_) (seg := [v277, v280]) (j := 0) hcl12 hcc12 (show 2 ≤ 2 from by decide) (x' := (⟨t276, t279⟩ : S25)) (k25_mkM _ _ _ (⟨t276, t279⟩ : S25) (Kd.R_mono (Kd.R_apart' (HO278.out) (Kd.R_typed HO_3.out) (by decide)) (fun k_ hk => ⟨trivial, fun e_ => (hk.2) (g7_)⟩)) (Kd.R_mono (Kd.R_apart' ((Kd.S_R HO281.out)) (Kd.R_typed HO_3.out) (by decide)) (fun k_ hk => ⟨trivial, fun e_ => (hk.2) (g7_)⟩))) (fun _ hk => hk); have hx12_0 := hcc12 0 _ rfl; (try simp only [show (k25).sz = 2 from rfl, Nat.mul_one, Nat.add_zero] at hx12_0); have hf12_0 := hfr12 0; (try simp only [show (k25).sz = 2 from rfl, Nat.mul_one, Nat.add_zero] at hf12_0); have hx12_1 := hcc12 1 _ rfl; (try simp only [show (k25).sz = 2 from rfl, Nat.mul_one, Nat.add_zero] at hx12_1); have hf12_1 := hfr12 1; (try simp only [show (k25).sz = 2 from rfl, Nat.mul_one, Nat.add_zero] at hf12_1); (try clear hcl12); (try clear hcc12); (try clear hfr12); (try clear hM12)) | ((with_reducible refine gate_store (t := 25) (p := 21) rfl ?_); refine store_event (t := 25) (p := 21) (v := ?vo_w13) (w1 := ((w11.setCell ⟨go10, (x4_1 : Int).toNat * 2, none⟩ (v277)).setCell ⟨go10, (x4_1 : Int).toNat * 2 + 1, none⟩ (v280))) ?hg ?ho ?hn ?hr ?_; (case ho => rfl); (case hg => rfl); (case hn => rfl); (case hr => first | (go_simp; done) | (go_simp; rfl) | (obtain ⟨_, _, e0_⟩ := Kd.R_slice HO278.out; obtain ⟨_, _, e1_⟩ := Kd.S_slice HO281.out; rw [e0_, e1_]; first | (go_simp; done) | (go_simp; rfl))); intro w13 hw; have hg : w11.grownBy w13 (some go10) := (by rw [hw]; exact HP12.2); have hp_ : Kd.R k25 25 w13 w.heap.size (fun _ => True) (.slice (some ⟨go10, 0, none⟩) x3_1.length co10) y282 := (by rw [hw, Ny282.out]; exact HP12.1); clear HP12; replace HO_3 := Aside0.mk (hp_); replace HB := Aside0.mk ((by rw [hw]; exact below_set (below_set (HB.out) GB10.out) GB10.out : Below w.heap.size w w13)); clear HO278 HO281; clear hg hw hp_))
    go_roundg k1
    case measure => have := HK1.out; omega
    case rel => exact ⟨(y282), (wrap64 (x4_1 + 1)), (g3_), H', ⟨g8_⟩, ⟨uf1_ HO_3⟩, ⟨qz16_⟩⟩
   ·rw [if_neg c6] at H
    have c6b0 := decide_eq_false c6
    clear c6
    obtain rfl := Option.some.inj H
    go_wp2
    go_ret
    exact ⟨_, g4_, uf1_ HO_3, qz16_⟩
def laws_toDesk.f (k : Nat) (l0_0 : List Int) (l0_1 : List (List Int)) (l0_2 : List (S40)) : Option (List Int × (List (List Int)) × (List (S25))) := (laws_toBook.f k l0_0 l0_1).bind fun bt286 => ((laws_toBookS.f k l0_2).bind fun t292 => (some (bt286.1, bt286.2, t292)))
theorem laws_toDesk.mq {p : Prop} (h : p := by
 repeat' first
 | (with_reducible exact laws_toBook.mono _ _ _)
 | (with_reducible exact laws_toBookS.mono _ _)
 | (with_reducible exact LeO.refl _)
 | (with_reducible exact LeO.none _)
 | (with_reducible refine LeO.ite ?_ ?_)
 | (with_reducible refine LeO.bind ?_ (fun _ => ?_))
 | exact laws_toBook.mono _ _ _
 | exact laws_toBookS.mono _ _
 | exact LeO.none _
 | refine LeO.ite ?_ ?_
 | refine LeO.bind ?_ (fun _ => ?_)) : p := h
theorem laws_toDesk.mono : ∀ a0 a1 a2 k, LeO (laws_toDesk.f k a0 a1 a2) (laws_toDesk.f (k + 1) a0 a1 a2) := by
 intro a0 a1 a2 k
 unfold laws_toDesk.f
 exact laws_toDesk.mq
theorem qz6_ {p : Prop} (h : p := by repeat (first | (with_reducible first | exact HB.out | apply below_alloc | apply pw_below_drewN | apply below_drew1 | refine below_set ?_ GE283.out | refine below_set ?_ GE284.out | refine below_set ?_ GE285.out) | exact HB.out)) : p := h
set_option maxHeartbeats 8000000 in
set_option maxRecDepth 100000 in
theorem laws_toDesk.calls (k : Nat) (A0_0 : Option Addr) (c0_0 : Nat) (l0_0 : List Int) (A0_1 : Option Addr) (c0_1 : Nat) (l0_1 : List (List Int)) (A0_2 : Option Addr) (c0_2 : Nat) (l0_2 : List (S40)) (r1 : List Int) (r2 : List (List Int)) (r3 : List (S25)) (w : World) (hr0_0 : Kd.C (Kd.int .i64) w A0_0 l0_0.length l0_0) (hc0_0 : l0_0.length ≤ c0_0) (hr0_1 : Kd.C (Kd.slice 3 (Kd.int .i64)) w A0_1 l0_1.length l0_1) (hc0_1 : l0_1.length ≤ c0_1) (hr0_2 : Kd.C k40 w A0_2 l0_2.length l0_2) (hc0_2 : l0_2.length ≤ c0_2) (h : laws_toDesk.f k l0_0 l0_1 l0_2 = some (r1, r2, r3)) :
  Calls Try.prog 29 #[.agg #[.slice A0_0 l0_0.length c0_0, .slice A0_1 l0_1.length c0_1, .slice A0_2 l0_2.length c0_2]] w fun e w' => ∃ v0_ v1_ v2_ : Value, e = .returned (.agg #[v0_, v1_, v2_]) ∧ Kd.R (Kd.int .i64) 3 w' w.heap.size (fun _ => True) v0_ r1 ∧ Kd.S (Kd.slice 3 (Kd.int .i64)) 22 w' w.heap.size (fun k_ => some k_ ≠ (v0_ : Value).ownBlock) v1_ r2 ∧ Kd.R k25 25 w' w.heap.size (fun k_ => some k_ ≠ (v0_ : Value).ownBlock ∧ some k_ ≠ (v1_ : Value).ownBlock) v2_ r3 ∧ Below w.heap.size w w' := by
 have hu43 := Try.underlying43
 have hu28 := Try.underlying28
 have hu40 := Try.underlying40
 have hu25 := Try.underlying25
 have HR0_0 := Aside0.mk hr0_0
 have HC0_0 := Aside0.mk hc0_0
 clear hr0_0 hc0_0
 have HR0_1 := Aside0.mk hr0_1
 have HC0_1 := Aside0.mk hc0_1
 clear hr0_1 hc0_1
 have HR0_2 := Aside0.mk hr0_2
 have HC0_2 := Aside0.mk hc0_2
 clear hr0_2 hc0_2
 have HB := Aside0.mk (Below.refl w.heap.size w)
 have H : ((laws_toBook.f k l0_0 l0_1).bind fun bt286 => ((laws_toBookS.f k l0_2).bind fun t292 => (some (bt286.1, bt286.2, t292)))) = some (r1, r2, r3) := h
 clear h
 replace H := Option.bind_eq_some_iff.mp H
 obtain ⟨⟨t286, t289⟩, A20, H⟩ := H
 replace H : ((laws_toBookS.f k l0_2).bind fun t292 => (some (t286, t289, t292))) = some (r1, r2, r3) := H
 have A2 := Aside0.mk A20
 clear A20
 obtain ⟨t292, A3, H⟩ := bind_ H
 simp only [Option.some.injEq, Prod.mk.injEq] at H
 obtain ⟨rfl, rfl, rfl⟩ := H
 go_enter Try.func29, Try.ntmps29
 go_wp2_with (first | ((with_reducible refine gate_dst (N := 1) rfl ?_); refine bx_ (N := 1) #[.slice A0_0 l0_0.length c0_0, .slice A0_1 l0_1.length c0_1, .slice A0_2 l0_2.length c0_2] 43 ?_; intro gb283 hg w4 hbox hb; have BK283 := Aside0.mk (hbox); have GW283 := Aside0.mk ((g27_ : w.heap.size ≤ gb283)); have GE283 := Aside0.mk ((g27_ : w.heap.size ≤ gb283)); replace HB := Aside0.mk (below_step (qz6_) hb); clear hb hbox hg) | ((with_reducible refine gate_dst (N := 2) rfl ?_); refine bx_ (N := 2) #[.slice none 0 0, .slice none 0 0, .slice none 0 0] 28 ?_; intro gb284 hg w5 hbox hb; have BK284 := Aside0.mk (hbox); have GW284 := Aside0.mk ((g27_ : w.heap.size ≤ gb284)); have GE284 := Aside0.mk ((g27_ : w.heap.size ≤ gb284)); replace HB := Aside0.mk (below_step (qz6_) hb); have NB283_284 := Aside0.mk ((by rw [hg]; exact Nat.ne_of_lt (blk_lt (g := gb283) (o := .cells #[.slice A0_0 l0_0.length c0_0, .slice A0_1 l0_1.length c0_1, .slice A0_2 l0_2.length c0_2] 43 (0, 0)) (uf0_ BK283)) : gb283 ≠ gb284)); have NB284_283 := Aside0.mk ((by rw [hg]; exact Nat.ne_of_gt (blk_lt (g := gb283) (o := .cells #[.slice A0_0 l0_0.length c0_0, .slice A0_1 l0_1.length c0_1, .slice A0_2 l0_2.length c0_2] 43 (0, 0)) (uf0_ BK283)) : gb284 ≠ gb283)); replace BK283 := bb_ BK283 hb; clear hb hbox hg) | ((with_reducible refine gate_dst (N := 3) rfl ?_); refine bx_ (N := 3) #[.slice none 0 0, .slice none 0 0, .slice none 0 0] 28 ?_; intro gb285 hg w6 hbox hb; have BK285 := Aside0.mk (hbox); have GW285 := Aside0.mk ((g27_ : w.heap.size ≤ gb285)); have GE285 := Aside0.mk ((g27_ : w.heap.size ≤ gb285)); replace HB := Aside0.mk (below_step (qz6_) hb); have NB283_285 := Aside0.mk ((by rw [hg]; exact Nat.ne_of_lt (blk_lt (g := gb283) (o := .cells #[.slice A0_0 l0_0.length c0_0, .slice A0_1 l0_1.length c0_1, .slice A0_2 l0_2.length c0_2] 43 (0, 0)) (uf0_ BK283)) : gb283 ≠ gb285)); have NB285_283 := Aside0.mk ((by rw [hg]; exact Nat.ne_of_gt (blk_lt (g := gb283) (o := .cells #[.slice A0_0 l0_0.length c0_0, .slice A0_1 l0_1.length c0_1, .slice A0_2 l0_2.length c0_2] 43 (0, 0)) (uf0_ BK283)) : gb285 ≠ gb283)); replace BK283 := bb_ BK283 hb; have NB284_285 := Aside0.mk ((by rw [hg]; exact Nat.ne_of_lt (blk_lt (g := gb284) (o := .cells #[.slice none 0 0, .slice none 0 0, .slice none 0 0] 28 (0, 0)) (uf0_ BK284)) : gb284 ≠ gb285)); have NB285_284 := Aside0.mk ((by rw [hg]; exact Nat.ne_of_gt (blk_lt (g := gb284) (o := .cells #[.slice none 0 0, .slice none 0 0, .slice none 0 0] 28 (0, 0)) (uf0_ BK284)) : gb285 ≠ gb284)); replace BK284 := bb_ BK284 hb; clear hb hbox hg; have hnb7 := NB283_284.out; have hnc7 := NB284_283.out; have hnb8 := NB283_285.out; have hnc8 := NB285_283.out; obtain ⟨hcz9_0, hcz9_1, hcz9_2, hfz9_0, hfz9_1, hfz9_2⟩ := blk3_ BK283) | ((with_reducible refine gate_callee (f := 33) rfl ?_); refine goesL_ (some 6) rfl rfl Try.func33 k_ rfl #[.agg #[.slice A0_0 l0_0.length c0_0, .slice A0_1 l0_1.length c0_1]] rfl (g2_) ?_; (with_reducible refine (laws_toBook.calls k _ _ l0_0 _ _ l0_1 t286 t289 _ ?side1 ?side2 ?side3 ?side4 A2.out).mono ?_); (case side1 => exact uf3_ HR0_0); (case side2 => exact HC0_0.out); (case side3 => exact uf3_ HR0_1); (case side4 => exact HC0_1.out); rintro e w10 ⟨v287, v290, rfl, ho0, ho1, hb⟩; refine ⟨_, rfl, ?_⟩; have HO288 := Aside0.mk (Kd.R_lower ho0 (below_size (qz6_))); have HO291 := Aside0.mk (Kd.S_lower ho1 (below_size (qz6_))); replace BK283 := bb_ BK283 hb; replace BK284 := bb_ BK284 hb; replace BK285 := bb_ BK285 hb; replace HB := Aside0.mk (below_step (qz6_) hb); (try clear hb); (try clear hk hi); (try clear ho0); (try clear ho1); obtain ⟨Ao11, co11, eo11⟩ := Kd.R_slice HO288.out; subst eo11; have hnb12 := NB285_284.out; have hnc12 := NB284_285.out; obtain ⟨hcz13_0, hcz13_1, hcz13_2, hfz13_0, hfz13_1, hfz13_2⟩ := blk3_ BK285; obtain ⟨Ao14, co14, eo14⟩ := Kd.S_slice HO291.out; subst eo14; obtain ⟨hcz15_0, hcz15_1, hcz15_2, hfz15_0, hfz15_1, hfz15_2⟩ := blk3_ BK283) | ((with_reducible refine gate_callee (f := 76) rfl ?_); refine goesL_ (some 10) rfl rfl Try.func76 k_ rfl #[.slice A0_2 l0_2.length c0_2] rfl (g2_) ?_; (with_reducible refine (laws_toBookS.calls k _ _ l0_2 t292 _ ?side1 ?side2 A3.out).mono ?_); (case side1 => exact Kd.C_below HR0_2.out (qz6_)); (case side2 => exact HC0_2.out); rintro e w16 ⟨v293, rfl, ho0, hb⟩; refine ⟨_, rfl, ?_⟩; have HO294 := Aside0.mk (Kd.R_lower (Kd.R_new' (Kd.R_new' ho0 (Kd.R_lt (by (with_reducible repeat (first | apply Kd.R_alloc | apply Kd.R_drewN | apply Kd.R_drew)); exact (Kd.R_mono (Kd.R_far (p := ⟨gb285, 1, none⟩) (Kd.R_far (p := ⟨gb285, 0, none⟩) (Kd.R_types HO288.out BK285.out (by decide)) (fun _ hk => hk.2) (.slice Ao11 t286.length co11)) (fun _ hk => hk.2) (.slice Ao14 t289.length co14)) (fun _ h_ => h_.1))))) (Kd.S_lt (by (with_reducible repeat (first | apply Kd.S_alloc | apply Kd.S_drewN | apply Kd.S_drew)); exact (Kd.S_mono (Kd.S_far (p := ⟨gb285, 1, none⟩) (Kd.S_far (p := ⟨gb285, 0, none⟩) (Kd.S_types HO291.out BK285.out (by decide)) (fun _ hk => hk.2) (.slice Ao11 t286.length co11)) (fun _ hk => hk.2) (.slice Ao14 t289.length co14)) (fun _ h_ => h_.1))))) (below_size (qz6_))); replace HO288 := Aside0.mk (Kd.R_below (by (with_reducible repeat (first | apply Kd.R_alloc | apply Kd.R_drewN | apply Kd.R_drew)); exact (Kd.R_mono (Kd.R_far (p := ⟨gb285, 1, none⟩) (Kd.R_far (p := ⟨gb285, 0, none⟩) (Kd.R_types HO288.out BK285.out (by decide)) (fun _ hk => hk.2) (.slice Ao11 t286.length co11)) (fun _ hk => hk.2) (.slice Ao14 t289.length co14)) (fun _ h_ => h_.1))) hb); replace HO291 := Aside0.mk (Kd.S_below (by (with_reducible repeat (first | apply Kd.S_alloc | apply Kd.S_drewN | apply Kd.S_drew)); exact (Kd.S_mono (Kd.S_far (p := ⟨gb285, 1, none⟩) (Kd.S_far (p := ⟨gb285, 0, none⟩) (Kd.S_types HO291.out BK285.out (by decide)) (fun _ hk => hk.2) (.slice Ao11 t286.length co11)) (fun _ hk => hk.2) (.slice Ao14 t289.length co14)) (fun _ h_ => h_.1))) hb); replace BK283 := Aside0.mk (blk_below (g := gb283) (o := .cells #[.slice A0_0 l0_0.length c0_0, .slice A0_1 l0_1.length c0_1, .slice A0_2 l0_2.length c0_2] 43 (0, 0)) (by (with_reducible repeat (first | refine blk_drewN ?_ _ | refine blk_drew ?_ | refine blk_alloc ?_ _)); refine blk_far ?_ NB283_285.out _; (with_reducible repeat (first | refine blk_drewN ?_ _ | refine blk_drew ?_ | refine blk_alloc ?_ _)); refine blk_far ?_ NB283_285.out _; (with_reducible repeat (first | refine blk_drewN ?_ _ | refine blk_drew ?_ | refine blk_alloc ?_ _)); exact BK283.out) hb); replace BK284 := Aside0.mk (blk_below (g := gb284) (o := .cells #[.slice none 0 0, .slice none 0 0, .slice none 0 0] 28 (0, 0)) (by (with_reducible repeat (first | refine blk_drewN ?_ _ | refine blk_drew ?_ | refine blk_alloc ?_ _)); refine blk_far ?_ NB284_285.out _; (with_reducible repeat (first | refine blk_drewN ?_ _ | refine blk_drew ?_ | refine blk_alloc ?_ _)); refine blk_far ?_ NB284_285.out _; (with_reducible repeat (first | refine blk_drewN ?_ _ | refine blk_drew ?_ | refine blk_alloc ?_ _)); exact BK284.out) hb); replace BK285 := Aside0.mk (blk_below (g := gb285) (o := .cells #[.slice Ao11 t286.length co11, .slice Ao14 t289.length co14, .slice none 0 0] 28 (0, 0)) (by (with_reducible repeat (first | refine blk_drewN ?_ _ | refine blk_drew ?_ | refine blk_alloc ?_ _)); refine blk_put (cs := #[.slice Ao11 t286.length co11, .slice none 0 0, .slice none 0 0]) ?_ 1 _ rfl; (with_reducible repeat (first | refine blk_drewN ?_ _ | refine blk_drew ?_ | refine blk_alloc ?_ _)); refine blk_put (cs := #[.slice none 0 0, .slice none 0 0, .slice none 0 0]) ?_ 0 _ rfl; (with_reducible repeat (first | refine blk_drewN ?_ _ | refine blk_drew ?_ | refine blk_alloc ?_ _)); exact BK285.out) hb); replace HB := Aside0.mk (below_step (qz6_) hb); (try clear hb); (try clear hk hi); (try clear ho0); obtain ⟨Ao17, co17, eo17⟩ := Kd.R_slice HO294.out; subst eo17; obtain ⟨hcz18_0, hcz18_1, hcz18_2, hfz18_0, hfz18_1, hfz18_2⟩ := blk3_ BK285; obtain ⟨hcz19_0, hcz19_1, hcz19_2, hfz19_0, hfz19_1, hfz19_2⟩ := blk3_ BK284))
 refine bodyPost_ret (results_cell_row rfl _ _ gb284 28 #[.slice Ao11 t286.length co11, .slice Ao14 t289.length co14, .slice Ao17 t292.length co17] (0, 0) _ rfl (by (with_reducible repeat (first | refine blk_drewN ?_ _ | refine blk_drew ?_ | refine blk_alloc ?_ _)); refine blk_put (cs := #[.slice Ao11 t286.length co11, .slice Ao14 t289.length co14, .slice none 0 0]) ?_ 2 _ rfl; (with_reducible repeat (first | refine blk_drewN ?_ _ | refine blk_drew ?_ | refine blk_alloc ?_ _)); refine blk_put (cs := #[.slice Ao11 t286.length co11, .slice none 0 0, .slice none 0 0]) ?_ 1 _ rfl; (with_reducible repeat (first | refine blk_drewN ?_ _ | refine blk_drew ?_ | refine blk_alloc ?_ _)); refine blk_put (cs := #[.slice none 0 0, .slice none 0 0, .slice none 0 0]) ?_ 0 _ rfl; (with_reducible repeat (first | refine blk_drewN ?_ _ | refine blk_drew ?_ | refine blk_alloc ?_ _)); refine blk_far ?_ NB284_285.out _; (with_reducible repeat (first | refine blk_drewN ?_ _ | refine blk_drew ?_ | refine blk_alloc ?_ _)); exact BK284.out) Try.underlying28 rfl (g1_)) rfl ?_
 exact ⟨_, _, _, g4_, by (with_reducible repeat (first | apply Kd.R_alloc | apply Kd.R_drewN | apply Kd.R_drew)); exact Kd.R_mono (Kd.R_far (p := ⟨gb284, 2, none⟩) (Kd.R_far (p := ⟨gb284, 1, none⟩) (Kd.R_far (p := ⟨gb284, 0, none⟩) (Kd.R_far (p := ⟨gb285, 2, none⟩) (Kd.R_types (Kd.R_types HO288.out BK285.out (by decide)) BK284.out (by decide)) (fun _ hk => hk.1.2) (.slice Ao17 t292.length co17)) (fun _ hk => hk.2) (.slice Ao11 t286.length co11)) (fun _ hk => hk.2) (.slice Ao14 t289.length co14)) (fun _ hk => hk.2) (.slice Ao17 t292.length co17)) (fun _ hk => trivial), by (with_reducible repeat (first | apply Kd.S_alloc | apply Kd.S_drewN | apply Kd.S_drew)); exact Kd.S_mono (Kd.S_far (p := ⟨gb284, 2, none⟩) (Kd.S_far (p := ⟨gb284, 1, none⟩) (Kd.S_far (p := ⟨gb284, 0, none⟩) (Kd.S_far (p := ⟨gb285, 2, none⟩) (Kd.S_types (Kd.S_types HO291.out BK285.out (by decide)) BK284.out (by decide)) (fun _ hk => hk.1.2) (.slice Ao17 t292.length co17)) (fun _ hk => hk.2) (.slice Ao11 t286.length co11)) (fun _ hk => hk.2) (.slice Ao14 t289.length co14)) (fun _ hk => hk.2) (.slice Ao17 t292.length co17)) (fun _ hk => hk.1.1), by (with_reducible repeat (first | apply Kd.R_alloc | apply Kd.R_drewN | apply Kd.R_drew)); exact Kd.R_mono (Kd.R_far (p := ⟨gb284, 2, none⟩) (Kd.R_far (p := ⟨gb284, 1, none⟩) (Kd.R_far (p := ⟨gb284, 0, none⟩) (Kd.R_far (p := ⟨gb285, 2, none⟩) (Kd.R_types (Kd.R_types HO294.out BK285.out (by decide)) BK284.out (by decide)) (fun _ hk => hk.1.2) (.slice Ao17 t292.length co17)) (fun _ hk => hk.2) (.slice Ao11 t286.length co11)) (fun _ hk => hk.2) (.slice Ao14 t289.length co14)) (fun _ hk => hk.2) (.slice Ao17 t292.length co17)) (fun _ hk => ⟨hk.1.1.1.2, hk.1.1.2⟩), qz6_⟩
def laws_FnExactDeskOk.f (k : Nat) (l0_0 : List Int) (l0_1 : List (List Int)) (l0_2 : List (S40)) : Option (Bool) := (laws_szDesk.f k l0_0 l0_1 l0_2 1048576).bind fun t296 => (if t296 < 0 then (some true) else ((laws_toDesk.f k l0_0 l0_1 l0_2).bind fun bt297 => ((spec_DeskOk.f k bt297.1 bt297.2.1 bt297.2.2).bind fun t306 => ((laws_toDesk.f k l0_0 l0_1 l0_2).bind fun bt307 => ((impl_DeskOk.f k bt307.1 bt307.2.1 bt307.2.2).bind fun t317 => (if (t317 != t306) = true then (some false) else ((laws_toDesk.f k l0_0 l0_1 l0_2).bind fun bt318 => ((laws_eqDesk.f k bt307.1 bt307.2.1 bt307.2.2 bt318.1 bt318.2.1 bt318.2.2).bind fun t327 => (if t327 = true then (some true) else (some false))))))))))
theorem laws_FnExactDeskOk.mq {p : Prop} (h : p := by
 repeat' first
 | (with_reducible exact impl_DeskOk.mono _ _ _ _)
 | (with_reducible exact laws_eqDesk.mono _ _ _ _ _ _ _)
 | (with_reducible exact laws_szDesk.mono _ _ _ _ _)
 | (with_reducible exact laws_toDesk.mono _ _ _ _)
 | (with_reducible exact spec_DeskOk.mono _ _ _ _)
 | (with_reducible exact LeO.refl _)
 | (with_reducible exact LeO.none _)
 | (with_reducible refine LeO.ite ?_ ?_)
 | (with_reducible refine LeO.bind ?_ (fun _ => ?_))
 | exact impl_DeskOk.mono _ _ _ _
 | exact laws_eqDesk.mono _ _ _ _ _ _ _
 | exact laws_szDesk.mono _ _ _ _ _
 | exact laws_toDesk.mono _ _ _ _
 | exact spec_DeskOk.mono _ _ _ _
 | exact LeO.none _
 | refine LeO.ite ?_ ?_
 | refine LeO.bind ?_ (fun _ => ?_)) : p := h
theorem laws_FnExactDeskOk.mono : ∀ a0 a1 a2 k, LeO (laws_FnExactDeskOk.f k a0 a1 a2) (laws_FnExactDeskOk.f (k + 1) a0 a1 a2) := by
 intro a0 a1 a2 k
 unfold laws_FnExactDeskOk.f
 exact laws_FnExactDeskOk.mq
theorem qz0_ {p : Prop} (h : p := by repeat (first | (with_reducible first | exact HB.out | apply below_alloc | apply pw_below_drewN | apply below_drew1 | refine below_set ?_ GE295.out | refine below_set ?_ GE316.out) | exact HB.out)) : p := h
set_option maxHeartbeats 8000000 in
set_option maxRecDepth 100000 in
theorem laws_FnExactDeskOk.calls (k : Nat) (A0_0 : Option Addr) (c0_0 : Nat) (l0_0 : List Int) (A0_1 : Option Addr) (c0_1 : Nat) (l0_1 : List (List Int)) (A0_2 : Option Addr) (c0_2 : Nat) (l0_2 : List (S40)) (r : Bool) (w : World) (hr0_0 : Kd.C (Kd.int .i64) w A0_0 l0_0.length l0_0) (hc0_0 : l0_0.length ≤ c0_0) (hr0_1 : Kd.C (Kd.slice 3 (Kd.int .i64)) w A0_1 l0_1.length l0_1) (hc0_1 : l0_1.length ≤ c0_1) (hr0_2 : Kd.C k40 w A0_2 l0_2.length l0_2) (hc0_2 : l0_2.length ≤ c0_2) (h : laws_FnExactDeskOk.f k l0_0 l0_1 l0_2 = some r) :
  Calls Try.prog 5 #[.agg #[.slice A0_0 l0_0.length c0_0, .slice A0_1 l0_1.length c0_1, .slice A0_2 l0_2.length c0_2]] w fun e w' => e = .returned (.bool r) ∧ Below w.heap.size w w' := by
 have hu43 := Try.underlying43
 have hu28 := Try.underlying28
 have HR0_0 := Aside0.mk hr0_0
 have HC0_0 := Aside0.mk hc0_0
 clear hr0_0 hc0_0
 have HR0_1 := Aside0.mk hr0_1
 have HC0_1 := Aside0.mk hc0_1
 clear hr0_1 hc0_1
 have HR0_2 := Aside0.mk hr0_2
 have HC0_2 := Aside0.mk hc0_2
 clear hr0_2 hc0_2
 have HB := Aside0.mk (Below.refl w.heap.size w)
 have H : ((laws_szDesk.f k l0_0 l0_1 l0_2 1048576).bind fun t296 => (if t296 < 0 then (some true) else ((laws_toDesk.f k l0_0 l0_1 l0_2).bind fun bt297 => ((spec_DeskOk.f k bt297.1 bt297.2.1 bt297.2.2).bind fun t306 => ((laws_toDesk.f k l0_0 l0_1 l0_2).bind fun bt307 => ((impl_DeskOk.f k bt307.1 bt307.2.1 bt307.2.2).bind fun t317 => (if (t317 != t306) = true then (some false) else ((laws_toDesk.f k l0_0 l0_1 l0_2).bind fun bt318 => ((laws_eqDesk.f k bt307.1 bt307.2.1 bt307.2.2 bt318.1 bt318.2.1 bt318.2.2).bind fun t327 => (if t327 = true then (some true) else (some false))))))))))) = some r := h
 clear h
 obtain ⟨t296, A2, H⟩ := bind_ H
 by_cases c3 : t296 < 0
 ·rw [if_pos c3] at H
  have c3b0 := decide_eq_true c3
  clear c3
  obtain rfl := Option.some.inj H
  go_enter Try.func5, Try.ntmps5
  go_wp2_with (first | ((with_reducible refine gate_dst (N := 1) rfl ?_); refine bx_ (N := 1) #[.slice A0_0 l0_0.length c0_0, .slice A0_1 l0_1.length c0_1, .slice A0_2 l0_2.length c0_2] 43 ?_; intro gb295 hg w4 hbox hb; have BK295 := Aside0.mk (hbox); have GW295 := Aside0.mk ((g10_ : w.heap.size ≤ gb295)); have GE295 := Aside0.mk ((g10_ : w.heap.size ≤ gb295)); replace HB := Aside0.mk (below_step (qz0_) hb); clear hb hbox hg; obtain ⟨hcz5_0, hcz5_1, hcz5_2, hfz5_0, hfz5_1, hfz5_2⟩ := blk3_ BK295) | ((with_reducible refine gate_callee (f := 27) rfl ?_); refine goesL_ (some 9) rfl rfl Try.func27 k_ rfl #[.agg #[.slice A0_0 l0_0.length c0_0, .slice A0_1 l0_1.length c0_1, .slice A0_2 l0_2.length c0_2], .int .i64 1048576] rfl (g2_) ?_; (with_reducible refine (laws_szDesk.calls k _ _ l0_0 _ _ l0_1 _ _ l0_2 1048576 t296 _ ?side1 ?side2 ?side3 ?side4 ?side5 ?side6 A2.out).mono ?_); (case side1 => exact uf3_ HR0_0); (case side2 => exact HC0_0.out); (case side3 => exact uf3_ HR0_1); (case side4 => exact HC0_1.out); (case side5 => exact uf3_ HR0_2); (case side6 => exact HC0_2.out); rintro e w6 ⟨rfl, hb⟩; refine ⟨_, rfl, ?_⟩; replace BK295 := bb_ BK295 hb; replace HB := Aside0.mk (below_step (qz0_) hb); (try clear hb); (try clear hk hi)))
  go_ret
  exact ⟨g4_, qz0_⟩
 ·rw [if_neg c3] at H
  have c3b0 := decide_eq_false c3
  clear c3
  replace H := Option.bind_eq_some_iff.mp H
  obtain ⟨⟨t297, t300, t303⟩, A70, H⟩ := H
  replace H : ((spec_DeskOk.f k t297 t300 t303).bind fun t306 => ((laws_toDesk.f k l0_0 l0_1 l0_2).bind fun bt307 => ((impl_DeskOk.f k bt307.1 bt307.2.1 bt307.2.2).bind fun t317 => (if (t317 != t306) = true then (some false) else ((laws_toDesk.f k l0_0 l0_1 l0_2).bind fun bt318 => ((laws_eqDesk.f k bt307.1 bt307.2.1 bt307.2.2 bt318.1 bt318.2.1 bt318.2.2).bind fun t327 => (if t327 = true then (some true) else (some false)))))))) = some r := H
  have A7 := Aside0.mk A70
  clear A70
  obtain ⟨t306, A8, H⟩ := bind_ H
  replace H := Option.bind_eq_some_iff.mp H
  obtain ⟨⟨t307, t310, t313⟩, A90, H⟩ := H
  replace H : ((impl_DeskOk.f k t307 t310 t313).bind fun t317 => (if (t317 != t306) = true then (some false) else ((laws_toDesk.f k l0_0 l0_1 l0_2).bind fun bt318 => ((laws_eqDesk.f k t307 t310 t313 bt318.1 bt318.2.1 bt318.2.2).bind fun t327 => (if t327 = true then (some true) else (some false)))))) = some r := H
  have A9 := Aside0.mk A90
  clear A90
  obtain ⟨t317, A10, H⟩ := bind_ H
  by_cases c11 : (t317 != t306) = true
  ·rw [if_pos c11] at H
   have c11b0 : (t317 != t306) = true := c11
   (try (have c11b1 : decide (t317 = t306) = false := by simpa using c11))
   (try (have c11b2 : (t317 == t306) = false := by simpa using c11))
   (try (have c11b3 : ¬ (t317 = t306) := by simpa using c11))
   clear c11
   obtain rfl := Option.some.inj H
   go_enter Try.func5, Try.ntmps5
   go_wp2_with (first | ((with_reducible refine gate_dst (N := 1) rfl ?_); refine bx_ (N := 1) #[.slice A0_0 l0_0.length c0_0, .slice A0_1 l0_1.length c0_1, .slice A0_2 l0_2.length c0_2] 43 ?_; intro gb295 hg w12 hbox hb; have BK295 := Aside0.mk (hbox); have GW295 := Aside0.mk ((g10_ : w.heap.size ≤ gb295)); have GE295 := Aside0.mk ((g10_ : w.heap.size ≤ gb295)); replace HB := Aside0.mk (below_step (qz0_) hb); clear hb hbox hg; obtain ⟨hcz13_0, hcz13_1, hcz13_2, hfz13_0, hfz13_1, hfz13_2⟩ := blk3_ BK295) | ((with_reducible refine gate_callee (f := 27) rfl ?_); refine goesL_ (some 9) rfl rfl Try.func27 k_ rfl #[.agg #[.slice A0_0 l0_0.length c0_0, .slice A0_1 l0_1.length c0_1, .slice A0_2 l0_2.length c0_2], .int .i64 1048576] rfl (g2_) ?_; (with_reducible refine (laws_szDesk.calls k _ _ l0_0 _ _ l0_1 _ _ l0_2 1048576 t296 _ ?side1 ?side2 ?side3 ?side4 ?side5 ?side6 A2.out).mono ?_); (case side1 => exact uf3_ HR0_0); (case side2 => exact HC0_0.out); (case side3 => exact uf3_ HR0_1); (case side4 => exact HC0_1.out); (case side5 => exact uf3_ HR0_2); (case side6 => exact HC0_2.out); rintro e w14 ⟨rfl, hb⟩; refine ⟨_, rfl, ?_⟩; replace BK295 := bb_ BK295 hb; replace HB := Aside0.mk (below_step (qz0_) hb); (try clear hb); (try clear hk hi); obtain ⟨hcz15_0, hcz15_1, hcz15_2, hfz15_0, hfz15_1, hfz15_2⟩ := blk3_ BK295) | ((with_reducible refine gate_callee (f := 29) rfl ?_); refine goesL_ (some 13) rfl rfl Try.func29 k_ rfl #[.agg #[.slice A0_0 l0_0.length c0_0, .slice A0_1 l0_1.length c0_1, .slice A0_2 l0_2.length c0_2]] rfl (g2_) ?_; (with_reducible refine (laws_toDesk.calls k _ _ l0_0 _ _ l0_1 _ _ l0_2 t297 t300 t303 _ ?side1 ?side2 ?side3 ?side4 ?side5 ?side6 A7.out).mono ?_); (case side1 => exact uf3_ HR0_0); (case side2 => exact HC0_0.out); (case side3 => exact uf3_ HR0_1); (case side4 => exact HC0_1.out); (case side5 => exact uf3_ HR0_2); (case side6 => exact HC0_2.out); rintro e w16 ⟨v298, v301, v304, rfl, ho0, ho1, ho2, hb⟩; refine ⟨_, rfl, ?_⟩; have HO299 := Aside0.mk (Kd.R_lower ho0 (below_size (qz0_))); have HO302 := Aside0.mk (Kd.S_lower ho1 (below_size (qz0_))); have HO305 := Aside0.mk (Kd.R_lower ho2 (below_size (qz0_))); replace BK295 := bb_ BK295 hb; replace HB := Aside0.mk (below_step (qz0_) hb); (try clear hb); (try clear hk hi); (try clear ho0); (try clear ho1); (try clear ho2); obtain ⟨Ao17, co17, eo17⟩ := Kd.R_slice HO299.out; subst eo17; obtain ⟨Ao18, co18, eo18⟩ := Kd.S_slice HO302.out; subst eo18; obtain ⟨Ao19, co19, eo19⟩ := Kd.R_slice HO305.out; subst eo19) | ((with_reducible refine gate_callee (f := 28) rfl ?_); refine goesL_ (some 14) rfl rfl Try.func28 k_ rfl #[.agg #[.slice Ao17 t297.length co17, .slice Ao18 t300.length co18, .slice Ao19 t303.length co19]] rfl (g2_) ?_; (with_reducible refine (spec_DeskOk.calls k _ _ t297 _ _ t300 _ _ t303 t306 _ ?side1 ?side2 ?side3 ?side4 ?side5 ?side6 A8.out).mono ?_); (case side1 => repeat (first | exact (Kd.R_reads' HO299.out).2.2 | (with_reducible refine Kd.C_alloc ?_ _) | (with_reducible refine Kd.C_drewN ?_ _) | (with_reducible refine Kd.C_drew ?_))); (case side2 => exact (Kd.R_reads' HO299.out).2.1); (case side3 => repeat (first | exact (Kd.S_reads' HO302.out).2.2 | (with_reducible refine Kd.C_alloc ?_ _) | (with_reducible refine Kd.C_drewN ?_ _) | (with_reducible refine Kd.C_drew ?_))); (case side4 => exact (Kd.S_reads' HO302.out).2.1); (case side5 => repeat (first | exact (Kd.R_reads' HO305.out).2.2 | (with_reducible refine Kd.C_alloc ?_ _) | (with_reducible refine Kd.C_drewN ?_ _) | (with_reducible refine Kd.C_drew ?_))); (case side6 => exact (Kd.R_reads' HO305.out).2.1); rintro e w20 ⟨rfl, hb⟩; refine ⟨_, rfl, ?_⟩; replace HO299 := Aside0.mk (Kd.R_below (uf1_ HO299) hb); replace HO302 := Aside0.mk (Kd.S_below (uf2_ HO302) hb); replace HO305 := Aside0.mk (Kd.R_below (uf1_ HO305) hb); replace BK295 := bb_ BK295 hb; replace HB := Aside0.mk (below_step (qz0_) hb); (try clear hb); (try clear hk hi); obtain ⟨hcz21_0, hcz21_1, hcz21_2, hfz21_0, hfz21_1, hfz21_2⟩ := blk3_ BK295) | ((with_reducible refine gate_callee (f := 29) rfl ?_); refine goesL_ (some 16) rfl rfl Try.func29 k_ rfl #[.agg #[.slice A0_0 l0_0.length c0_0, .slice A0_1 l0_1.length c0_1, .slice A0_2 l0_2.length c0_2]] rfl (g2_) ?_; (with_reducible refine (laws_toDesk.calls k _ _ l0_0 _ _ l0_1 _ _ l0_2 t307 t310 t313 _ ?side1 ?side2 ?side3 ?side4 ?side5 ?side6 A9.out).mono ?_); (case side1 => exact uf3_ HR0_0); (case side2 => exact HC0_0.out); (case side3 => exact uf3_ HR0_1); (case side4 => exact HC0_1.out); (case side5 => exact uf3_ HR0_2); (case side6 => exact HC0_2.out); rintro e w22 ⟨v308, v311, v314, rfl, ho0, ho1, ho2, hb⟩; refine ⟨_, rfl, ?_⟩; have HO309 := Aside0.mk (Kd.R_lower (Kd.R_new' ho0 (Kd.R_lt (uf1_ HO299))) (below_size (qz0_))); have HO312 := Aside0.mk (Kd.S_lower (Kd.S_new' (Kd.S_new' ho1 (Kd.R_lt (uf1_ HO299))) (Kd.S_lt (uf2_ HO302))) (below_size (qz0_))); have HO315 := Aside0.mk (Kd.R_lower (Kd.R_new' (Kd.R_new' (Kd.R_new' ho2 (Kd.R_lt (uf1_ HO299))) (Kd.S_lt (uf2_ HO302))) (Kd.R_lt (uf1_ HO305))) (below_size (qz0_))); replace HO299 := Aside0.mk (Kd.R_elder' (uf1_ HO299) (Kd.R_base ho0) hb); replace HO302 := Aside0.mk (Kd.S_mono (Kd.S_told (Kd.S_told (Kd.S_old (uf2_ HO302) hb) (Kd.R_base ho0)) (Kd.S_base ho1)) (fun _ h_ => h_.1)); replace HO305 := Aside0.mk (Kd.R_mono (Kd.R_told (Kd.R_told (Kd.R_told (Kd.R_old (uf1_ HO305) hb) (Kd.R_base ho0)) (Kd.S_base ho1)) (Kd.R_base ho2)) (fun _ h_ => h_.1)); replace BK295 := bb_ BK295 hb; replace HB := Aside0.mk (below_step (qz0_) hb); (try clear hb); (try clear hk hi); (try clear ho0); (try clear ho1); (try clear ho2)) | ((with_reducible refine gate_dst (N := 5) rfl ?_); refine bx_ (N := 5) #[.slice none 0 0, .slice none 0 0, .slice none 0 0] 28 ?_; intro gb316 hg w23 hbox hb; replace HO299 := Aside0.mk (Kd.R_below (uf1_ HO299) hb); replace HO302 := Aside0.mk (Kd.S_below (uf2_ HO302) hb); replace HO305 := Aside0.mk (Kd.R_below (uf1_ HO305) hb); replace HO309 := Aside0.mk (Kd.R_below (uf1_ HO309) hb); replace HO312 := Aside0.mk (Kd.S_below (uf2_ HO312) hb); replace HO315 := Aside0.mk (Kd.R_below (uf1_ HO315) hb); have BK316 := Aside0.mk (hbox); have GW316 := Aside0.mk ((g10_ : w.heap.size ≤ gb316)); have GE316 := Aside0.mk ((g10_ : w.heap.size ≤ gb316)); replace HB := Aside0.mk (below_step (qz0_) hb); have NB295_316 := Aside0.mk ((g48_ : gb295 ≠ gb316)); have NB316_295 := Aside0.mk ((g49_ : gb316 ≠ gb295)); replace BK295 := bb_ BK295 hb; clear hb hbox hg; obtain ⟨Ao24, co24, eo24⟩ := Kd.R_slice HO309.out; subst eo24; have hnb25 := NB316_295.out; have hnc25 := NB295_316.out; obtain ⟨hcz26_0, hcz26_1, hcz26_2, hfz26_0, hfz26_1, hfz26_2⟩ := blk3_ BK316; obtain ⟨Ao27, co27, eo27⟩ := Kd.S_slice HO312.out; subst eo27; obtain ⟨Ao28, co28, eo28⟩ := Kd.R_slice HO315.out; subst eo28) | ((with_reducible refine gate_callee (f := 24) rfl ?_); refine goesL_ (some 18) rfl rfl Try.func24 k_ rfl #[.agg #[.slice Ao24 t307.length co24, .slice Ao27 t310.length co27, .slice Ao28 t313.length co28]] rfl (g2_) ?_; (with_reducible refine (impl_DeskOk.calls k _ _ t307 _ _ t310 _ _ t313 t317 _ ?side1 ?side2 ?side3 ?side4 ?side5 ?side6 A10.out).mono ?_); (case side1 => refine (Kd.R_reads' (e := 3) (base := w.heap.size) (ok := fun k_ => (True ∧ some k_ ≠ (.slice Ao17 t297.length co17 : Value).ownBlock)) (n := t307.length) (c := co24) ?_).2.2; exact (by (with_reducible repeat (first | apply Kd.R_alloc | apply Kd.R_drewN | apply Kd.R_drew)); exact (Kd.R_mono (Kd.R_far (p := ⟨gb316, 2, none⟩) (Kd.R_far (p := ⟨gb316, 1, none⟩) (Kd.R_far (p := ⟨gb316, 0, none⟩) (Kd.R_types HO309.out BK316.out (by decide)) (fun _ hk => hk.2) (.slice Ao24 t307.length co24)) (fun _ hk => hk.2) (.slice Ao27 t310.length co27)) (fun _ hk => hk.2) (.slice Ao28 t313.length co28)) (fun _ h_ => h_.1)))); (case side2 => exact (Kd.R_reads' HO309.out).2.1); (case side3 => refine (Kd.S_reads' (e := 22) (base := w.heap.size) (ok := fun k_ => ((some k_ ≠ (.slice Ao24 t307.length co24 : Value).ownBlock ∧ some k_ ≠ (.slice Ao17 t297.length co17 : Value).ownBlock) ∧ some k_ ≠ (.slice Ao18 t300.length co18 : Value).ownBlock)) (n := t310.length) (c := co27) ?_).2.2; exact (by (with_reducible repeat (first | apply Kd.S_alloc | apply Kd.S_drewN | apply Kd.S_drew)); exact (Kd.S_mono (Kd.S_far (p := ⟨gb316, 2, none⟩) (Kd.S_far (p := ⟨gb316, 1, none⟩) (Kd.S_far (p := ⟨gb316, 0, none⟩) (Kd.S_types HO312.out BK316.out (by decide)) (fun _ hk => hk.2) (.slice Ao24 t307.length co24)) (fun _ hk => hk.2) (.slice Ao27 t310.length co27)) (fun _ hk => hk.2) (.slice Ao28 t313.length co28)) (fun _ h_ => h_.1)))); (case side4 => exact (Kd.S_reads' HO312.out).2.1); (case side5 => refine (Kd.R_reads' (e := 25) (base := w.heap.size) (ok := fun k_ => ((((some k_ ≠ (.slice Ao24 t307.length co24 : Value).ownBlock ∧ some k_ ≠ (.slice Ao27 t310.length co27 : Value).ownBlock) ∧ some k_ ≠ (.slice Ao17 t297.length co17 : Value).ownBlock) ∧ some k_ ≠ (.slice Ao18 t300.length co18 : Value).ownBlock) ∧ some k_ ≠ (.slice Ao19 t303.length co19 : Value).ownBlock)) (n := t313.length) (c := co28) ?_).2.2; exact (by (with_reducible repeat (first | apply Kd.R_alloc | apply Kd.R_drewN | apply Kd.R_drew)); exact (Kd.R_mono (Kd.R_far (p := ⟨gb316, 2, none⟩) (Kd.R_far (p := ⟨gb316, 1, none⟩) (Kd.R_far (p := ⟨gb316, 0, none⟩) (Kd.R_types HO315.out BK316.out (by decide)) (fun _ hk => hk.2) (.slice Ao24 t307.length co24)) (fun _ hk => hk.2) (.slice Ao27 t310.length co27)) (fun _ hk => hk.2) (.slice Ao28 t313.length co28)) (fun _ h_ => h_.1)))); (case side6 => exact (Kd.R_reads' HO315.out).2.1); rintro e w29 ⟨rfl, hb⟩; refine ⟨_, rfl, ?_⟩; replace HO299 := Aside0.mk (Kd.R_below (by (with_reducible repeat (first | apply Kd.R_alloc | apply Kd.R_drewN | apply Kd.R_drew)); exact (Kd.R_mono (Kd.R_far (p := ⟨gb316, 2, none⟩) (Kd.R_far (p := ⟨gb316, 1, none⟩) (Kd.R_far (p := ⟨gb316, 0, none⟩) (Kd.R_types HO299.out BK316.out (by decide)) (fun _ hk => hk.2) (.slice Ao24 t307.length co24)) (fun _ hk => hk.2) (.slice Ao27 t310.length co27)) (fun _ hk => hk.2) (.slice Ao28 t313.length co28)) (fun _ h_ => h_.1))) hb); replace HO302 := Aside0.mk (Kd.S_below (by (with_reducible repeat (first | apply Kd.S_alloc | apply Kd.S_drewN | apply Kd.S_drew)); exact (Kd.S_mono (Kd.S_far (p := ⟨gb316, 2, none⟩) (Kd.S_far (p := ⟨gb316, 1, none⟩) (Kd.S_far (p := ⟨gb316, 0, none⟩) (Kd.S_types HO302.out BK316.out (by decide)) (fun _ hk => hk.2) (.slice Ao24 t307.length co24)) (fun _ hk => hk.2) (.slice Ao27 t310.length co27)) (fun _ hk => hk.2) (.slice Ao28 t313.length co28)) (fun _ h_ => h_.1))) hb); replace HO305 := Aside0.mk (Kd.R_below (by (with_reducible repeat (first | apply Kd.R_alloc | apply Kd.R_drewN | apply Kd.R_drew)); exact (Kd.R_mono (Kd.R_far (p := ⟨gb316, 2, none⟩) (Kd.R_far (p := ⟨gb316, 1, none⟩) (Kd.R_far (p := ⟨gb316, 0, none⟩) (Kd.R_types HO305.out BK316.out (by decide)) (fun _ hk => hk.2) (.slice Ao24 t307.length co24)) (fun _ hk => hk.2) (.slice Ao27 t310.length co27)) (fun _ hk => hk.2) (.slice Ao28 t313.length co28)) (fun _ h_ => h_.1))) hb); replace HO309 := Aside0.mk (Kd.R_below (by (with_reducible repeat (first | apply Kd.R_alloc | apply Kd.R_drewN | apply Kd.R_drew)); exact (Kd.R_mono (Kd.R_far (p := ⟨gb316, 2, none⟩) (Kd.R_far (p := ⟨gb316, 1, none⟩) (Kd.R_far (p := ⟨gb316, 0, none⟩) (Kd.R_types HO309.out BK316.out (by decide)) (fun _ hk => hk.2) (.slice Ao24 t307.length co24)) (fun _ hk => hk.2) (.slice Ao27 t310.length co27)) (fun _ hk => hk.2) (.slice Ao28 t313.length co28)) (fun _ h_ => h_.1))) hb); replace HO312 := Aside0.mk (Kd.S_below (by (with_reducible repeat (first | apply Kd.S_alloc | apply Kd.S_drewN | apply Kd.S_drew)); exact (Kd.S_mono (Kd.S_far (p := ⟨gb316, 2, none⟩) (Kd.S_far (p := ⟨gb316, 1, none⟩) (Kd.S_far (p := ⟨gb316, 0, none⟩) (Kd.S_types HO312.out BK316.out (by decide)) (fun _ hk => hk.2) (.slice Ao24 t307.length co24)) (fun _ hk => hk.2) (.slice Ao27 t310.length co27)) (fun _ hk => hk.2) (.slice Ao28 t313.length co28)) (fun _ h_ => h_.1))) hb); replace HO315 := Aside0.mk (Kd.R_below (by (with_reducible repeat (first | apply Kd.R_alloc | apply Kd.R_drewN | apply Kd.R_drew)); exact (Kd.R_mono (Kd.R_far (p := ⟨gb316, 2, none⟩) (Kd.R_far (p := ⟨gb316, 1, none⟩) (Kd.R_far (p := ⟨gb316, 0, none⟩) (Kd.R_types HO315.out BK316.out (by decide)) (fun _ hk => hk.2) (.slice Ao24 t307.length co24)) (fun _ hk => hk.2) (.slice Ao27 t310.length co27)) (fun _ hk => hk.2) (.slice Ao28 t313.length co28)) (fun _ h_ => h_.1))) hb); replace BK295 := Aside0.mk (blk_below (g := gb295) (o := .cells #[.slice A0_0 l0_0.length c0_0, .slice A0_1 l0_1.length c0_1, .slice A0_2 l0_2.length c0_2] 43 (0, 0)) (g50_) hb); replace BK316 := Aside0.mk (blk_below (g := gb316) (o := .cells #[.slice Ao24 t307.length co24, .slice Ao27 t310.length co27, .slice Ao28 t313.length co28] 28 (0, 0)) (by (with_reducible repeat (first | refine blk_drewN ?_ _ | refine blk_drew ?_ | refine blk_alloc ?_ _)); refine blk_put (cs := #[.slice Ao24 t307.length co24, .slice Ao27 t310.length co27, .slice none 0 0]) ?_ 2 _ rfl; (with_reducible repeat (first | refine blk_drewN ?_ _ | refine blk_drew ?_ | refine blk_alloc ?_ _)); refine blk_put (cs := #[.slice Ao24 t307.length co24, .slice none 0 0, .slice none 0 0]) ?_ 1 _ rfl; (with_reducible repeat (first | refine blk_drewN ?_ _ | refine blk_drew ?_ | refine blk_alloc ?_ _)); refine blk_put (cs := #[.slice none 0 0, .slice none 0 0, .slice none 0 0]) ?_ 0 _ rfl; (with_reducible repeat (first | refine blk_drewN ?_ _ | refine blk_drew ?_ | refine blk_alloc ?_ _)); exact BK316.out) hb); replace HB := Aside0.mk (below_step (qz0_) hb); (try clear hb); (try clear hk hi)))
   go_ret
   exact ⟨g4_, qz0_⟩
  ·rw [if_neg c11] at H
   have c11b0 : (t317 != t306) = false := by simpa using c11
   (try (have c11b1 : decide (t317 = t306) = true := by simpa using c11))
   (try (have c11b2 : (t317 == t306) = true := by simpa using c11))
   clear c11
   replace H := Option.bind_eq_some_iff.mp H
   obtain ⟨⟨t318, t321, t324⟩, A300, H⟩ := H
   replace H : ((laws_eqDesk.f k t307 t310 t313 t318 t321 t324).bind fun t327 => (if t327 = true then (some true) else (some false))) = some r := H
   have A30 := Aside0.mk A300
   clear A300
   obtain ⟨t327, A31, H⟩ := bind_ H
   by_cases c32 : t327 = true
   ·subst c32
    replace H := ifp_ H
    obtain rfl := Option.some.inj H
    go_enter Try.func5, Try.ntmps5
    try go_wp2_with (first | ((with_reducible refine gate_dst (N := 1) rfl ?_); refine bx_ (N := 1) #[.slice A0_0 l0_0.length c0_0, .slice A0_1 l0_1.length c0_1, .slice A0_2 l0_2.length c0_2] 43 ?_; intro gb295 hg w33 hbox hb; have BK295 := Aside0.mk (hbox); have GW295 := Aside0.mk ((g10_ : w.heap.size ≤ gb295)); have GE295 := Aside0.mk ((g10_ : w.heap.size ≤ gb295)); replace HB := Aside0.mk (below_step (qz0_) hb); clear hb hbox hg; obtain ⟨hcz34_0, hcz34_1, hcz34_2, hfz34_0, hfz34_1, hfz34_2⟩ := blk3_ BK295) | ((with_reducible refine gate_callee (f := 27) rfl ?_); refine goesL_ (some 9) rfl rfl Try.func27 k_ rfl #[.agg #[.slice A0_0 l0_0.length c0_0, .slice A0_1 l0_1.length c0_1, .slice A0_2 l0_2.length c0_2], .int .i64 1048576] rfl (g2_) ?_; (with_reducible refine (laws_szDesk.calls k _ _ l0_0 _ _ l0_1 _ _ l0_2 1048576 t296 _ ?side1 ?side2 ?side3 ?side4 ?side5 ?side6 A2.out).mono ?_); (case side1 => exact uf3_ HR0_0); (case side2 => exact HC0_0.out); (case side3 => exact uf3_ HR0_1); (case side4 => exact HC0_1.out); (case side5 => exact uf3_ HR0_2); (case side6 => exact HC0_2.out); rintro e w35 ⟨rfl, hb⟩; refine ⟨_, rfl, ?_⟩; replace BK295 := bb_ BK295 hb; replace HB := Aside0.mk (below_step (qz0_) hb); (try clear hb); (try clear hk hi); obtain ⟨hcz36_0, hcz36_1, hcz36_2, hfz36_0, hfz36_1, hfz36_2⟩ := blk3_ BK295) | ((with_reducible refine gate_callee (f := 29) rfl ?_); refine goesL_ (some 13) rfl rfl Try.func29 k_ rfl #[.agg #[.slice A0_0 l0_0.length c0_0, .slice A0_1 l0_1.length c0_1, .slice A0_2 l0_2.length c0_2]] rfl (g2_) ?_; (with_reducible refine (laws_toDesk.calls k _ _ l0_0 _ _ l0_1 _ _ l0_2 t297 t300 t303 _ ?side1 ?side2 ?side3 ?side4 ?side5 ?side6 A7.out).mono ?_); (case side1 => exact uf3_ HR0_0); (case side2 => exact HC0_0.out); (case side3 => exact uf3_ HR0_1); (case side4 => exact HC0_1.out); (case side5 => exact uf3_ HR0_2); (case side6 => exact HC0_2.out); rintro e w37 ⟨v298, v301, v304, rfl, ho0, ho1, ho2, hb⟩; refine ⟨_, rfl, ?_⟩; have HO299 := Aside0.mk (Kd.R_lower ho0 (below_size (qz0_))); have HO302 := Aside0.mk (Kd.S_lower ho1 (below_size (qz0_))); have HO305 := Aside0.mk (Kd.R_lower ho2 (below_size (qz0_))); replace BK295 := bb_ BK295 hb; replace HB := Aside0.mk (below_step (qz0_) hb); (try clear hb); (try clear hk hi); (try clear ho0); (try clear ho1); (try clear ho2); obtain ⟨Ao38, co38, eo38⟩ := Kd.R_slice HO299.out; subst eo38; obtain ⟨Ao39, co39, eo39⟩ := Kd.S_slice HO302.out; subst eo39; obtain ⟨Ao40, co40, eo40⟩ := Kd.R_slice HO305.out; subst eo40) | ((with_reducible refine gate_callee (f := 28) rfl ?_); refine goesL_ (some 14) rfl rfl Try.func28 k_ rfl #[.agg #[.slice Ao38 t297.length co38, .slice Ao39 t300.length co39, .slice Ao40 t303.length co40]] rfl (g2_) ?_; (with_reducible refine (spec_DeskOk.calls k _ _ t297 _ _ t300 _ _ t303 t306 _ ?side1 ?side2 ?side3 ?side4 ?side5 ?side6 A8.out).mono ?_); (case side1 => repeat (first | exact (Kd.R_reads' HO299.out).2.2 | (with_reducible refine Kd.C_alloc ?_ _) | (with_reducible refine Kd.C_drewN ?_ _) | (with_reducible refine Kd.C_drew ?_))); (case side2 => exact (Kd.R_reads' HO299.out).2.1); (case side3 => repeat (first | exact (Kd.S_reads' HO302.out).2.2 | (with_reducible refine Kd.C_alloc ?_ _) | (with_reducible refine Kd.C_drewN ?_ _) | (with_reducible refine Kd.C_drew ?_))); (case side4 => exact (Kd.S_reads' HO302.out).2.1); (case side5 => repeat (first | exact (Kd.R_reads' HO305.out).2.2 | (with_reducible refine Kd.C_alloc ?_ _) | (with_reducible refine Kd.C_drewN ?_ _) | (with_reducible refine Kd.C_drew ?_))); (case side6 => exact (Kd.R_reads' HO305.out).2.1); rintro e w41 ⟨rfl, hb⟩; refine ⟨_, rfl, ?_⟩; replace HO299 := Aside0.mk (Kd.R_below (uf1_ HO299) hb); replace HO302 := Aside0.mk (Kd.S_below (uf2_ HO302) hb); replace HO305 := Aside0.mk (Kd.R_below (uf1_ HO305) hb); replace BK295 := bb_ BK295 hb; replace HB := Aside0.mk (below_step (qz0_) hb); (try clear hb); (try clear hk hi); obtain ⟨hcz42_0, hcz42_1, hcz42_2, hfz42_0, hfz42_1, hfz42_2⟩ := blk3_ BK295) | ((with_reducible refine gate_callee (f := 29) rfl ?_); refine goesL_ (some 16) rfl rfl Try.func29 k_ rfl #[.agg #[.slice A0_0 l0_0.length c0_0, .slice A0_1 l0_1.length c0_1, .slice A0_2 l0_2.length c0_2]] rfl (g2_) ?_; (with_reducible refine (laws_toDesk.calls k _ _ l0_0 _ _ l0_1 _ _ l0_2 t307 t310 t313 _ ?side1 ?side2 ?side3 ?side4 ?side5 ?side6 A9.out).mono ?_); (case side1 => exact uf3_ HR0_0); (case side2 => exact HC0_0.out); (case side3 => exact uf3_ HR0_1); (case side4 => exact HC0_1.out); (case side5 => exact uf3_ HR0_2); (case side6 => exact HC0_2.out); rintro e w43 ⟨v308, v311, v314, rfl, ho0, ho1, ho2, hb⟩; refine ⟨_, rfl, ?_⟩; have HO309 := Aside0.mk (Kd.R_lower (Kd.R_new' ho0 (Kd.R_lt (uf1_ HO299))) (below_size (qz0_))); have HO312 := Aside0.mk (Kd.S_lower (Kd.S_new' (Kd.S_new' ho1 (Kd.R_lt (uf1_ HO299))) (Kd.S_lt (uf2_ HO302))) (below_size (qz0_))); have HO315 := Aside0.mk (Kd.R_lower (Kd.R_new' (Kd.R_new' (Kd.R_new' ho2 (Kd.R_lt (uf1_ HO299))) (Kd.S_lt (uf2_ HO302))) (Kd.R_lt (uf1_ HO305))) (below_size (qz0_))); replace HO299 := Aside0.mk (Kd.R_elder' (uf1_ HO299) (Kd.R_base ho0) hb); replace HO302 := Aside0.mk (Kd.S_mono (Kd.S_told (Kd.S_told (Kd.S_old (uf2_ HO302) hb) (Kd.R_base ho0)) (Kd.S_base ho1)) (fun _ h_ => h_.1)); replace HO305 := Aside0.mk (Kd.R_mono (Kd.R_told (Kd.R_told (Kd.R_told (Kd.R_old (uf1_ HO305) hb) (Kd.R_base ho0)) (Kd.S_base ho1)) (Kd.R_base ho2)) (fun _ h_ => h_.1)); replace BK295 := bb_ BK295 hb; replace HB := Aside0.mk (below_step (qz0_) hb); (try clear hb); (try clear hk hi); (try clear ho0); (try clear ho1); (try clear ho2)) | ((with_reducible refine gate_dst (N := 5) rfl ?_); refine bx_ (N := 5) #[.slice none 0 0, .slice none 0 0, .slice none 0 0] 28 ?_; intro gb316 hg w44 hbox hb; replace HO299 := Aside0.mk (Kd.R_below (uf1_ HO299) hb); replace HO302 := Aside0.mk (Kd.S_below (uf2_ HO302) hb); replace HO305 := Aside0.mk (Kd.R_below (uf1_ HO305) hb); replace HO309 := Aside0.mk (Kd.R_below (uf1_ HO309) hb); replace HO312 := Aside0.mk (Kd.S_below (uf2_ HO312) hb); replace HO315 := Aside0.mk (Kd.R_below (uf1_ HO315) hb); have BK316 := Aside0.mk (hbox); have GW316 := Aside0.mk ((g10_ : w.heap.size ≤ gb316)); have GE316 := Aside0.mk ((g10_ : w.heap.size ≤ gb316)); replace HB := Aside0.mk (below_step (qz0_) hb); have NB295_316 := Aside0.mk ((g48_ : gb295 ≠ gb316)); have NB316_295 := Aside0.mk ((g49_ : gb316 ≠ gb295)); replace BK295 := bb_ BK295 hb; clear hb hbox hg; obtain ⟨Ao45, co45, eo45⟩ := Kd.R_slice HO309.out; subst eo45; have hnb46 := NB316_295.out; have hnc46 := NB295_316.out; obtain ⟨hcz47_0, hcz47_1, hcz47_2, hfz47_0, hfz47_1, hfz47_2⟩ := blk3_ BK316; obtain ⟨Ao48, co48, eo48⟩ := Kd.S_slice HO312.out; subst eo48; obtain ⟨Ao49, co49, eo49⟩ := Kd.R_slice HO315.out; subst eo49) | ((with_reducible refine gate_callee (f := 24) rfl ?_); refine goesL_ (some 18) rfl rfl Try.func24 k_ rfl #[.agg #[.slice Ao45 t307.length co45, .slice Ao48 t310.length co48, .slice Ao49 t313.length co49]] rfl (g2_) ?_; (with_reducible refine (impl_DeskOk.calls k _ _ t307 _ _ t310 _ _ t313 t317 _ ?side1 ?side2 ?side3 ?side4 ?side5 ?side6 A10.out).mono ?_); (case side1 => refine (Kd.R_reads' (e := 3) (base := w.heap.size) (ok := fun k_ => (True ∧ some k_ ≠ (.slice Ao38 t297.length co38 : Value).ownBlock)) (n := t307.length) (c := co45) ?_).2.2; exact (by (with_reducible repeat (first | apply Kd.R_alloc | apply Kd.R_drewN | apply Kd.R_drew)); exact (Kd.R_mono (Kd.R_far (p := ⟨gb316, 2, none⟩) (Kd.R_far (p := ⟨gb316, 1, none⟩) (Kd.R_far (p := ⟨gb316, 0, none⟩) (Kd.R_types HO309.out BK316.out (by decide)) (fun _ hk => hk.2) (.slice Ao45 t307.length co45)) (fun _ hk => hk.2) (.slice Ao48 t310.length co48)) (fun _ hk => hk.2) (.slice Ao49 t313.length co49)) (fun _ h_ => h_.1)))); (case side2 => exact (Kd.R_reads' HO309.out).2.1); (case side3 => refine (Kd.S_reads' (e := 22) (base := w.heap.size) (ok := fun k_ => ((some k_ ≠ (.slice Ao45 t307.length co45 : Value).ownBlock ∧ some k_ ≠ (.slice Ao38 t297.length co38 : Value).ownBlock) ∧ some k_ ≠ (.slice Ao39 t300.length co39 : Value).ownBlock)) (n := t310.length) (c := co48) ?_).2.2; exact (by (with_reducible repeat (first | apply Kd.S_alloc | apply Kd.S_drewN | apply Kd.S_drew)); exact (Kd.S_mono (Kd.S_far (p := ⟨gb316, 2, none⟩) (Kd.S_far (p := ⟨gb316, 1, none⟩) (Kd.S_far (p := ⟨gb316, 0, none⟩) (Kd.S_types HO312.out BK316.out (by decide)) (fun _ hk => hk.2) (.slice Ao45 t307.length co45)) (fun _ hk => hk.2) (.slice Ao48 t310.length co48)) (fun _ hk => hk.2) (.slice Ao49 t313.length co49)) (fun _ h_ => h_.1)))); (case side4 => exact (Kd.S_reads' HO312.out).2.1); (case side5 => refine (Kd.R_reads' (e := 25) (base := w.heap.size) (ok := fun k_ => ((((some k_ ≠ (.slice Ao45 t307.length co45 : Value).ownBlock ∧ some k_ ≠ (.slice Ao48 t310.length co48 : Value).ownBlock) ∧ some k_ ≠ (.slice Ao38 t297.length co38 : Value).ownBlock) ∧ some k_ ≠ (.slice Ao39 t300.length co39 : Value).ownBlock) ∧ some k_ ≠ (.slice Ao40 t303.length co40 : Value).ownBlock)) (n := t313.length) (c := co49) ?_).2.2; exact (by (with_reducible repeat (first | apply Kd.R_alloc | apply Kd.R_drewN | apply Kd.R_drew)); exact (Kd.R_mono (Kd.R_far (p := ⟨gb316, 2, none⟩) (Kd.R_far (p := ⟨gb316, 1, none⟩) (Kd.R_far (p := ⟨gb316, 0, none⟩) (Kd.R_types HO315.out BK316.out (by decide)) (fun _ hk => hk.2) (.slice Ao45 t307.length co45)) (fun _ hk => hk.2) (.slice Ao48 t310.length co48)) (fun _ hk => hk.2) (.slice Ao49 t313.length co49)) (fun _ h_ => h_.1)))); (case side6 => exact (Kd.R_reads' HO315.out).2.1); rintro e w50 ⟨rfl, hb⟩; refine ⟨_, rfl, ?_⟩; replace HO299 := Aside0.mk (Kd.R_below (by (with_reducible repeat (first | apply Kd.R_alloc | apply Kd.R_drewN | apply Kd.R_drew)); exact (Kd.R_mono (Kd.R_far (p := ⟨gb316, 2, none⟩) (Kd.R_far (p := ⟨gb316, 1, none⟩) (Kd.R_far (p := ⟨gb316, 0, none⟩) (Kd.R_types HO299.out BK316.out (by decide)) (fun _ hk => hk.2) (.slice Ao45 t307.length co45)) (fun _ hk => hk.2) (.slice Ao48 t310.length co48)) (fun _ hk => hk.2) (.slice Ao49 t313.length co49)) (fun _ h_ => h_.1))) hb); replace HO302 := Aside0.mk (Kd.S_below (by (with_reducible repeat (first | apply Kd.S_alloc | apply Kd.S_drewN | apply Kd.S_drew)); exact (Kd.S_mono (Kd.S_far (p := ⟨gb316, 2, none⟩) (Kd.S_far (p := ⟨gb316, 1, none⟩) (Kd.S_far (p := ⟨gb316, 0, none⟩) (Kd.S_types HO302.out BK316.out (by decide)) (fun _ hk => hk.2) (.slice Ao45 t307.length co45)) (fun _ hk => hk.2) (.slice Ao48 t310.length co48)) (fun _ hk => hk.2) (.slice Ao49 t313.length co49)) (fun _ h_ => h_.1))) hb); replace HO305 := Aside0.mk (Kd.R_below (by (with_reducible repeat (first | apply Kd.R_alloc | apply Kd.R_drewN | apply Kd.R_drew)); exact (Kd.R_mono (Kd.R_far (p := ⟨gb316, 2, none⟩) (Kd.R_far (p := ⟨gb316, 1, none⟩) (Kd.R_far (p := ⟨gb316, 0, none⟩) (Kd.R_types HO305.out BK316.out (by decide)) (fun _ hk => hk.2) (.slice Ao45 t307.length co45)) (fun _ hk => hk.2) (.slice Ao48 t310.length co48)) (fun _ hk => hk.2) (.slice Ao49 t313.length co49)) (fun _ h_ => h_.1))) hb); replace HO309 := Aside0.mk (Kd.R_below (by (with_reducible repeat (first | apply Kd.R_alloc | apply Kd.R_drewN | apply Kd.R_drew)); exact (Kd.R_mono (Kd.R_far (p := ⟨gb316, 2, none⟩) (Kd.R_far (p := ⟨gb316, 1, none⟩) (Kd.R_far (p := ⟨gb316, 0, none⟩) (Kd.R_types HO309.out BK316.out (by decide)) (fun _ hk => hk.2) (.slice Ao45 t307.length co45)) (fun _ hk => hk.2) (.slice Ao48 t310.length co48)) (fun _ hk => hk.2) (.slice Ao49 t313.length co49)) (fun _ h_ => h_.1))) hb); replace HO312 := Aside0.mk (Kd.S_below (by (with_reducible repeat (first | apply Kd.S_alloc | apply Kd.S_drewN | apply Kd.S_drew)); exact (Kd.S_mono (Kd.S_far (p := ⟨gb316, 2, none⟩) (Kd.S_far (p := ⟨gb316, 1, none⟩) (Kd.S_far (p := ⟨gb316, 0, none⟩) (Kd.S_types HO312.out BK316.out (by decide)) (fun _ hk => hk.2) (.slice Ao45 t307.length co45)) (fun _ hk => hk.2) (.slice Ao48 t310.length co48)) (fun _ hk => hk.2) (.slice Ao49 t313.length co49)) (fun _ h_ => h_.1))) hb); replace HO315 := Aside0.mk (Kd.R_below (by (with_reducible repeat (first | apply Kd.R_alloc | apply Kd.R_drewN | apply Kd.R_drew)); exact (Kd.R_mono (Kd.R_far (p := ⟨gb316, 2, none⟩) (Kd.R_far (p := ⟨gb316, 1, none⟩) (Kd.R_far (p := ⟨gb316, 0, none⟩) (Kd.R_types HO315.out BK316.out (by decide)) (fun _ hk => hk.2) (.slice Ao45 t307.length co45)) (fun _ hk => hk.2) (.slice Ao48 t310.length co48)) (fun _ hk => hk.2) (.slice Ao49 t313.length co49)) (fun _ h_ => h_.1))) hb); replace BK295 := Aside0.mk (blk_below (g := gb295) (o := .cells #[.slice A0_0 l0_0.length c0_0, .slice A0_1 l0_1.length c0_1, .slice A0_2 l0_2.length c0_2] 43 (0, 0)) (g50_) hb); replace BK316 := Aside0.mk (blk_below (g := gb316) (o := .cells #[.slice Ao45 t307.length co45, .slice Ao48 t310.length co48, .slice Ao49 t313.length co49] 28 (0, 0)) (by (with_reducible repeat (first | refine blk_drewN ?_ _ | refine blk_drew ?_ | refine blk_alloc ?_ _)); refine blk_put (cs := #[.slice Ao45 t307.length co45, .slice Ao48 t310.length co48, .slice none 0 0]) ?_ 2 _ rfl; (with_reducible repeat (first | refine blk_drewN ?_ _ | refine blk_drew ?_ | refine blk_alloc ?_ _)); refine blk_put (cs := #[.slice Ao45 t307.length co45, .slice none 0 0, .slice none 0 0]) ?_ 1 _ rfl; (with_reducible repeat (first | refine blk_drewN ?_ _ | refine blk_drew ?_ | refine blk_alloc ?_ _)); refine blk_put (cs := #[.slice none 0 0, .slice none 0 0, .slice none 0 0]) ?_ 0 _ rfl; (with_reducible repeat (first | refine blk_drewN ?_ _ | refine blk_drew ?_ | refine blk_alloc ?_ _)); exact BK316.out) hb); replace HB := Aside0.mk (below_step (qz0_) hb); (try clear hb); (try clear hk hi)))
    replace HO299 := Aside0.mk (Kd.R_drew HO299.out)
    replace HO302 := Aside0.mk (Kd.S_drew HO302.out)
    replace HO305 := Aside0.mk (Kd.R_drew HO305.out)
    replace HO309 := Aside0.mk (Kd.R_drew HO309.out)
    replace HO312 := Aside0.mk (Kd.S_drew HO312.out)
    replace HO315 := Aside0.mk (Kd.R_drew HO315.out)
    replace BK295 := Aside0.mk (blk_drew BK295.out)
    replace BK316 := Aside0.mk (blk_drew BK316.out)
    replace HB := Aside0.mk (below_drew1 HB.out)
    refine start_ (n := 5) (S := fun w' => w'.cell? ⟨gb316, 0, none⟩ = some (.slice Ao45 t307.length co45) ∧ w'.cell? ⟨gb316, 1, none⟩ = some (.slice Ao48 t310.length co48) ∧ w'.cell? ⟨gb316, 2, none⟩ = some (.slice Ao49 t313.length co49) ∧ w'.cell? ⟨gb295, 0, none⟩ = some (.slice A0_0 l0_0.length c0_0) ∧ w'.cell? ⟨gb295, 1, none⟩ = some (.slice A0_1 l0_1.length c0_1) ∧ w'.cell? ⟨gb295, 2, none⟩ = some (.slice A0_2 l0_2.length c0_2)) (ds := []) (tl_ 5 0) (g1_) rfl (g1_) ⟨(blk_cell BK316.out 0).trans rfl, (blk_cell BK316.out 1).trans rfl, (blk_cell BK316.out 2).trans rfl, (blk_cell BK295.out 0).trans rfl, (blk_cell BK295.out 1).trans rfl, (blk_cell BK295.out 2).trans rfl⟩ (fun hHeld => ?_)
    generalize w50.drew = w51 at HO299 HO302 HO305 HO309 HO312 HO315 BK295 BK316 HB hHeld ⊢
    refine take_ (i := 0) (N := some 22) (v := ?_) (a' := ?_) (tl_ 5 1) rfl rfl (g1_) (fun _ _ _ h => h) (Or.inl ⟨by rfl, ?_⟩) hHeld ?_ ?_
    rotate_left
    ·rintro w' ⟨s0, s1, s2, s3, s4, s5⟩
     go_simp
     with_reducible rfl
    rotate_left
    ·simp only [Act.put, List.setIfInBounds_toArray, List.set_cons_zero, List.set_cons_succ, i64_w, i32_w]
     rfl
    refine take_ (i := 1) (N := some 23) (v := ?_) (a' := ?_) (tl_ 5 3) rfl rfl (g1_) (fun _ _ _ h => h) (Or.inl ⟨by rfl, ?_⟩) hHeld ?_ ?_
    rotate_left
    ·rintro w' ⟨s0, s1, s2, s3, s4, s5⟩
     go_simp
     with_reducible rfl
    rotate_left
    ·simp only [Act.put, List.setIfInBounds_toArray, List.set_cons_zero, List.set_cons_succ, i64_w, i32_w]
     rfl
    refine one_ (i := 2) (N := some 24) (tl_ 5 7) rfl rfl (g1_) (by decide) (fun K hK => ?_)
    refine goes_ Try.func29 (g1_) rfl #[.agg #[.slice A0_0 l0_0.length c0_0, .slice A0_1 l0_1.length c0_1, .slice A0_2 l0_2.length c0_2]] (by rfl) rfl rfl (g2_) ?_
    with_reducible refine (laws_toDesk.calls k _ _ l0_0 _ _ l0_1 _ _ l0_2 t318 t321 t324 _ ?side1 ?side2 ?side3 ?side4 ?side5 ?side6 A30.out).mono ?_
    (case side1 => exact uf3_ HR0_0)
    (case side2 => exact HC0_0.out)
    (case side3 => exact uf3_ HR0_1)
    (case side4 => exact HC0_1.out)
    (case side5 => exact uf3_ HR0_2)
    (case side6 => exact HC0_2.out)
    rintro e w52 ⟨v319, v322, v325, rfl, ho0, ho1, ho2, hb⟩
    refine ⟨_, rfl, ?_⟩
    have HO320 := Aside0.mk (Kd.R_lower (Kd.R_new' (Kd.R_new' ho0 (Kd.R_lt (uf1_ HO299))) (Kd.R_lt (uf1_ HO309))) (below_size (qz0_)))
    have HO323 := Aside0.mk (Kd.S_lower (Kd.S_new' (Kd.S_new' (Kd.S_new' (Kd.S_new' ho1 (Kd.R_lt (uf1_ HO299))) (Kd.S_lt (uf2_ HO302))) (Kd.R_lt (uf1_ HO309))) (Kd.S_lt (uf2_ HO312))) (below_size (qz0_)))
    have HO326 := Aside0.mk (Kd.R_lower (Kd.R_new' (Kd.R_new' (Kd.R_new' (Kd.R_new' (Kd.R_new' (Kd.R_new' ho2 (Kd.R_lt (uf1_ HO299))) (Kd.S_lt (uf2_ HO302))) (Kd.R_lt (uf1_ HO305))) (Kd.R_lt (uf1_ HO309))) (Kd.S_lt (uf2_ HO312))) (Kd.R_lt (uf1_ HO315))) (below_size (qz0_)))
    replace HO299 := Aside0.mk (Kd.R_elder' (uf1_ HO299) (Kd.R_base ho0) hb)
    replace HO302 := Aside0.mk (Kd.S_mono (Kd.S_told (Kd.S_told (Kd.S_old (uf2_ HO302) hb) (Kd.R_base ho0)) (Kd.S_base ho1)) (fun _ h_ => h_.1))
    replace HO305 := Aside0.mk (Kd.R_mono (Kd.R_told (Kd.R_told (Kd.R_told (Kd.R_old (uf1_ HO305) hb) (Kd.R_base ho0)) (Kd.S_base ho1)) (Kd.R_base ho2)) (fun _ h_ => h_.1))
    replace HO309 := Aside0.mk (Kd.R_elder' (uf1_ HO309) (Kd.R_base ho0) hb)
    replace HO312 := Aside0.mk (Kd.S_mono (Kd.S_told (Kd.S_told (Kd.S_old (uf2_ HO312) hb) (Kd.R_base ho0)) (Kd.S_base ho1)) (fun _ h_ => h_.1))
    replace HO315 := Aside0.mk (Kd.R_mono (Kd.R_told (Kd.R_told (Kd.R_told (Kd.R_old (uf1_ HO315) hb) (Kd.R_base ho0)) (Kd.S_base ho1)) (Kd.R_base ho2)) (fun _ h_ => h_.1))
    replace BK295 := bb_ BK295 hb
    replace BK316 := bb_ BK316 hb
    replace HB := Aside0.mk (below_step (qz0_) hb)
    (try clear hb)
    (try clear hk hi)
    (try clear ho0)
    (try clear ho1)
    (try clear ho2)
    obtain ⟨Ao53, co53, eo53⟩ := Kd.R_slice HO320.out
    (first | subst eo53 | (injection eo53 with f1_ f2_ f3_; have f4_ := f1_.symm; have f5_ := f3_.symm; clear f1_ f2_ f3_; subst f4_; subst f5_))
    obtain ⟨Ao54, co54, eo54⟩ := Kd.S_slice HO323.out
    (first | subst eo54 | (injection eo54 with f1_ f2_ f3_; have f4_ := f1_.symm; have f5_ := f3_.symm; clear f1_ f2_ f3_; subst f4_; subst f5_))
    obtain ⟨Ao55, co55, eo55⟩ := Kd.R_slice HO326.out
    (first | subst eo55 | (injection eo55 with f1_ f2_ f3_; have f4_ := f1_.symm; have f5_ := f3_.symm; clear f1_ f2_ f3_; subst f4_; subst f5_))
    refine hK.out _ _ ⟨(blk_cell BK316.out 0).trans rfl, (blk_cell BK316.out 1).trans rfl, (blk_cell BK316.out 2).trans rfl, (blk_cell BK295.out 0).trans rfl, (blk_cell BK295.out 1).trans rfl, (blk_cell BK295.out 2).trans rfl⟩ (fun hHeld => ?_)
    clear hK K
    refine nm_ ?_
    refine one_ (i := 3) (N := some 25) (tl_ 5 15) rfl rfl (g1_) (by decide) (fun K hK => ?_)
    refine goes_ Try.func17 (g1_) rfl #[.agg #[.slice Ao45 t307.length co45, .slice Ao48 t310.length co48, .slice Ao49 t313.length co49], .agg #[.slice Ao53 t318.length co53, .slice Ao54 t321.length co54, .slice Ao55 t324.length co55]] (by rfl) rfl rfl (g2_) ?_
    with_reducible refine (laws_eqDesk.calls k _ _ t307 _ _ t310 _ _ t313 _ _ t318 _ _ t321 _ _ t324 true _ ?side1 ?side2 ?side3 ?side4 ?side5 ?side6 ?side7 ?side8 ?side9 ?side10 ?side11 ?side12 A31.out).mono ?_
    (case side1 => repeat (first | exact (Kd.R_reads' HO309.out).2.2 | (with_reducible refine Kd.C_alloc ?_ _) | (with_reducible refine Kd.C_drewN ?_ _) | (with_reducible refine Kd.C_drew ?_)))
    (case side2 => exact (Kd.R_reads' HO309.out).2.1)
    (case side3 => repeat (first | exact (Kd.S_reads' HO312.out).2.2 | (with_reducible refine Kd.C_alloc ?_ _) | (with_reducible refine Kd.C_drewN ?_ _) | (with_reducible refine Kd.C_drew ?_)))
    (case side4 => exact (Kd.S_reads' HO312.out).2.1)
    (case side5 => repeat (first | exact (Kd.R_reads' HO315.out).2.2 | (with_reducible refine Kd.C_alloc ?_ _) | (with_reducible refine Kd.C_drewN ?_ _) | (with_reducible refine Kd.C_drew ?_)))
    (case side6 => exact (Kd.R_reads' HO315.out).2.1)
    (case side7 => repeat (first | exact (Kd.R_reads' HO320.out).2.2 | (with_reducible refine Kd.C_alloc ?_ _) | (with_reducible refine Kd.C_drewN ?_ _) | (with_reducible refine Kd.C_drew ?_)))
    (case side8 => exact (Kd.R_reads' HO320.out).2.1)
    (case side9 => repeat (first | exact (Kd.S_reads' HO323.out).2.2 | (with_reducible refine Kd.C_alloc ?_ _) | (with_reducible refine Kd.C_drewN ?_ _) | (with_reducible refine Kd.C_drew ?_)))
    (case side10 => exact (Kd.S_reads' HO323.out).2.1)
    (case side11 => repeat (first | exact (Kd.R_reads' HO326.out).2.2 | (with_reducible refine Kd.C_alloc ?_ _) | (with_reducible refine Kd.C_drewN ?_ _) | (with_reducible refine Kd.C_drew ?_)))
    (case side12 => exact (Kd.R_reads' HO326.out).2.1)
    rintro e w56 ⟨rfl, hb⟩
    refine ⟨_, rfl, ?_⟩
    replace HO299 := Aside0.mk (Kd.R_below (uf1_ HO299) hb)
    replace HO302 := Aside0.mk (Kd.S_below (uf2_ HO302) hb)
    replace HO305 := Aside0.mk (Kd.R_below (uf1_ HO305) hb)
    replace HO309 := Aside0.mk (Kd.R_below (uf1_ HO309) hb)
    replace HO312 := Aside0.mk (Kd.S_below (uf2_ HO312) hb)
    replace HO315 := Aside0.mk (Kd.R_below (uf1_ HO315) hb)
    replace HO320 := Aside0.mk (Kd.R_below (uf1_ HO320) hb)
    replace HO323 := Aside0.mk (Kd.S_below (uf2_ HO323) hb)
    replace HO326 := Aside0.mk (Kd.R_below (uf1_ HO326) hb)
    replace BK295 := bb_ BK295 hb
    replace BK316 := bb_ BK316 hb
    replace HB := Aside0.mk (below_step (qz0_) hb)
    (try clear hb)
    (try clear hk hi)
    refine hK.out _ _ ⟨(blk_cell BK316.out 0).trans rfl, (blk_cell BK316.out 1).trans rfl, (blk_cell BK316.out 2).trans rfl, (blk_cell BK295.out 0).trans rfl, (blk_cell BK295.out 1).trans rfl, (blk_cell BK295.out 2).trans rfl⟩ (fun hHeld => ?_)
    clear hK K
    refine nm_ ?_
    refine pure_ (i := 4) (N := some 26) (v := ?_) (a' := ?_) (tl_ 5 31) rfl rfl (g1_) (fun _ _ _ h => h) (Or.inl ⟨by rfl, ?_⟩) ?_ ?_
    rotate_left
    ·intro w'
     go_simp
     with_reducible rfl
    rotate_left
    ·simp only [Act.put, List.setIfInBounds_toArray, List.set_cons_zero, List.set_cons_succ, i64_w, i32_w]
     rfl
    refine done_ (g1_) ?_
    try go_wp2
    go_ret
    exact ⟨g4_, qz0_⟩
   ·replace c32 := Bool.eq_false_iff.mpr c32
    subst c32
    replace H := ifn_ H
    obtain rfl := Option.some.inj H
    go_enter Try.func5, Try.ntmps5
    try go_wp2_with (first | ((with_reducible refine gate_dst (N := 1) rfl ?_); refine bx_ (N := 1) #[.slice A0_0 l0_0.length c0_0, .slice A0_1 l0_1.length c0_1, .slice A0_2 l0_2.length c0_2] 43 ?_; intro gb295 hg w57 hbox hb; have BK295 := Aside0.mk (hbox); have GW295 := Aside0.mk ((g10_ : w.heap.size ≤ gb295)); have GE295 := Aside0.mk ((g10_ : w.heap.size ≤ gb295)); replace HB := Aside0.mk (below_step (qz0_) hb); clear hb hbox hg; obtain ⟨hcz58_0, hcz58_1, hcz58_2, hfz58_0, hfz58_1, hfz58_2⟩ := blk3_ BK295) | ((with_reducible refine gate_callee (f := 27) rfl ?_); refine goesL_ (some 9) rfl rfl Try.func27 k_ rfl #[.agg #[.slice A0_0 l0_0.length c0_0, .slice A0_1 l0_1.length c0_1, .slice A0_2 l0_2.length c0_2], .int .i64 1048576] rfl (g2_) ?_; (with_reducible refine (laws_szDesk.calls k _ _ l0_0 _ _ l0_1 _ _ l0_2 1048576 t296 _ ?side1 ?side2 ?side3 ?side4 ?side5 ?side6 A2.out).mono ?_); (case side1 => exact uf3_ HR0_0); (case side2 => exact HC0_0.out); (case side3 => exact uf3_ HR0_1); (case side4 => exact HC0_1.out); (case side5 => exact uf3_ HR0_2); (case side6 => exact HC0_2.out); rintro e w59 ⟨rfl, hb⟩; refine ⟨_, rfl, ?_⟩; replace BK295 := bb_ BK295 hb; replace HB := Aside0.mk (below_step (qz0_) hb); (try clear hb); (try clear hk hi); obtain ⟨hcz60_0, hcz60_1, hcz60_2, hfz60_0, hfz60_1, hfz60_2⟩ := blk3_ BK295) | ((with_reducible refine gate_callee (f := 29) rfl ?_); refine goesL_ (some 13) rfl rfl Try.func29 k_ rfl #[.agg #[.slice A0_0 l0_0.length c0_0, .slice A0_1 l0_1.length c0_1, .slice A0_2 l0_2.length c0_2]] rfl (g2_) ?_; (with_reducible refine (laws_toDesk.calls k _ _ l0_0 _ _ l0_1 _ _ l0_2 t297 t300 t303 _ ?side1 ?side2 ?side3 ?side4 ?side5 ?side6 A7.out).mono ?_); (case side1 => exact uf3_ HR0_0); (case side2 => exact HC0_0.out); (case side3 => exact uf3_ HR0_1); (case side4 => exact HC0_1.out); (case side5 => exact uf3_ HR0_2); (case side6 => exact HC0_2.out); rintro e w61 ⟨v298, v301, v304, rfl, ho0, ho1, ho2, hb⟩; refine ⟨_, rfl, ?_⟩; have HO299 := Aside0.mk (Kd.R_lower ho0 (below_size (qz0_))); have HO302 := Aside0.mk (Kd.S_lower ho1 (below_size (qz0_))); have HO305 := Aside0.mk (Kd.R_lower ho2 (below_size (qz0_))); replace BK295 := bb_ BK295 hb; replace HB := Aside0.mk (below_step (qz0_) hb); (try clear hb); (try clear hk hi); (try clear ho0); (try clear ho1); (try clear ho2); obtain ⟨Ao62, co62, eo62⟩ := Kd.R_slice HO299.out; subst eo62; obtain ⟨Ao63, co63, eo63⟩ := Kd.S_slice HO302.out; subst eo63; obtain ⟨Ao64, co64, eo64⟩ := Kd.R_slice HO305.out; subst eo64) | ((with_reducible refine gate_callee (f := 28) rfl ?_); refine goesL_ (some 14) rfl rfl Try.func28 k_ rfl #[.agg #[.slice Ao62 t297.length co62, .slice Ao63 t300.length co63, .slice Ao64 t303.length co64]] rfl (g2_) ?_; (with_reducible refine (spec_DeskOk.calls k _ _ t297 _ _ t300 _ _ t303 t306 _ ?side1 ?side2 ?side3 ?side4 ?side5 ?side6 A8.out).mono ?_); (case side1 => repeat (first | exact (Kd.R_reads' HO299.out).2.2 | (with_reducible refine Kd.C_alloc ?_ _) | (with_reducible refine Kd.C_drewN ?_ _) | (with_reducible refine Kd.C_drew ?_))); (case side2 => exact (Kd.R_reads' HO299.out).2.1); (case side3 => repeat (first | exact (Kd.S_reads' HO302.out).2.2 | (with_reducible refine Kd.C_alloc ?_ _) | (with_reducible refine Kd.C_drewN ?_ _) | (with_reducible refine Kd.C_drew ?_))); (case side4 => exact (Kd.S_reads' HO302.out).2.1); (case side5 => repeat (first | exact (Kd.R_reads' HO305.out).2.2 | (with_reducible refine Kd.C_alloc ?_ _) | (with_reducible refine Kd.C_drewN ?_ _) | (with_reducible refine Kd.C_drew ?_))); (case side6 => exact (Kd.R_reads' HO305.out).2.1); rintro e w65 ⟨rfl, hb⟩; refine ⟨_, rfl, ?_⟩; replace HO299 := Aside0.mk (Kd.R_below (uf1_ HO299) hb); replace HO302 := Aside0.mk (Kd.S_below (uf2_ HO302) hb); replace HO305 := Aside0.mk (Kd.R_below (uf1_ HO305) hb); replace BK295 := bb_ BK295 hb; replace HB := Aside0.mk (below_step (qz0_) hb); (try clear hb); (try clear hk hi); obtain ⟨hcz66_0, hcz66_1, hcz66_2, hfz66_0, hfz66_1, hfz66_2⟩ := blk3_ BK295) | ((with_reducible refine gate_callee (f := 29) rfl ?_); refine goesL_ (some 16) rfl rfl Try.func29 k_ rfl #[.agg #[.slice A0_0 l0_0.length c0_0, .slice A0_1 l0_1.length c0_1, .slice A0_2 l0_2.length c0_2]] rfl (g2_) ?_; (with_reducible refine (laws_toDesk.calls k _ _ l0_0 _ _ l0_1 _ _ l0_2 t307 t310 t313 _ ?side1 ?side2 ?side3 ?side4 ?side5 ?side6 A9.out).mono ?_); (case side1 => exact uf3_ HR0_0); (case side2 => exact HC0_0.out); (case side3 => exact uf3_ HR0_1); (case side4 => exact HC0_1.out); (case side5 => exact uf3_ HR0_2); (case side6 => exact HC0_2.out); rintro e w67 ⟨v308, v311, v314, rfl, ho0, ho1, ho2, hb⟩; refine ⟨_, rfl, ?_⟩; have HO309 := Aside0.mk (Kd.R_lower (Kd.R_new' ho0 (Kd.R_lt (uf1_ HO299))) (below_size (qz0_))); have HO312 := Aside0.mk (Kd.S_lower (Kd.S_new' (Kd.S_new' ho1 (Kd.R_lt (uf1_ HO299))) (Kd.S_lt (uf2_ HO302))) (below_size (qz0_))); have HO315 := Aside0.mk (Kd.R_lower (Kd.R_new' (Kd.R_new' (Kd.R_new' ho2 (Kd.R_lt (uf1_ HO299))) (Kd.S_lt (uf2_ HO302))) (Kd.R_lt (uf1_ HO305))) (below_size (qz0_))); replace HO299 := Aside0.mk (Kd.R_elder' (uf1_ HO299) (Kd.R_base ho0) hb); replace HO302 := Aside0.mk (Kd.S_mono (Kd.S_told (Kd.S_told (Kd.S_old (uf2_ HO302) hb) (Kd.R_base ho0)) (Kd.S_base ho1)) (fun _ h_ => h_.1)); replace HO305 := Aside0.mk (Kd.R_mono (Kd.R_told (Kd.R_told (Kd.R_told (Kd.R_old (uf1_ HO305) hb) (Kd.R_base ho0)) (Kd.S_base ho1)) (Kd.R_base ho2)) (fun _ h_ => h_.1)); replace BK295 := bb_ BK295 hb; replace HB := Aside0.mk (below_step (qz0_) hb); (try clear hb); (try clear hk hi); (try clear ho0); (try clear ho1); (try clear ho2)) | ((with_reducible refine gate_dst (N := 5) rfl ?_); refine bx_ (N := 5) #[.slice none 0 0, .slice none 0 0, .slice none 0 0] 28 ?_; intro gb316 hg w68 hbox hb; replace HO299 := Aside0.mk (Kd.R_below (uf1_ HO299) hb); replace HO302 := Aside0.mk (Kd.S_below (uf2_ HO302) hb); replace HO305 := Aside0.mk (Kd.R_below (uf1_ HO305) hb); replace HO309 := Aside0.mk (Kd.R_below (uf1_ HO309) hb); replace HO312 := Aside0.mk (Kd.S_below (uf2_ HO312) hb); replace HO315 := Aside0.mk (Kd.R_below (uf1_ HO315) hb); have BK316 := Aside0.mk (hbox); have GW316 := Aside0.mk ((g10_ : w.heap.size ≤ gb316)); have GE316 := Aside0.mk ((g10_ : w.heap.size ≤ gb316)); replace HB := Aside0.mk (below_step (qz0_) hb); have NB295_316 := Aside0.mk ((g48_ : gb295 ≠ gb316)); have NB316_295 := Aside0.mk ((g49_ : gb316 ≠ gb295)); replace BK295 := bb_ BK295 hb; clear hb hbox hg; obtain ⟨Ao69, co69, eo69⟩ := Kd.R_slice HO309.out; subst eo69; have hnb70 := NB316_295.out; have hnc70 := NB295_316.out; obtain ⟨hcz71_0, hcz71_1, hcz71_2, hfz71_0, hfz71_1, hfz71_2⟩ := blk3_ BK316; obtain ⟨Ao72, co72, eo72⟩ := Kd.S_slice HO312.out; subst eo72; obtain ⟨Ao73, co73, eo73⟩ := Kd.R_slice HO315.out; subst eo73) | ((with_reducible refine gate_callee (f := 24) rfl ?_); refine goesL_ (some 18) rfl rfl Try.func24 k_ rfl #[.agg #[.slice Ao69 t307.length co69, .slice Ao72 t310.length co72, .slice Ao73 t313.length co73]] rfl (g2_) ?_; (with_reducible refine (impl_DeskOk.calls k _ _ t307 _ _ t310 _ _ t313 t317 _ ?side1 ?side2 ?side3 ?side4 ?side5 ?side6 A10.out).mono ?_); (case side1 => refine (Kd.R_reads' (e := 3) (base := w.heap.size) (ok := fun k_ => (True ∧ some k_ ≠ (.slice Ao62 t297.length co62 : Value).ownBlock)) (n := t307.length) (c := co69) ?_).2.2; exact (by (with_reducible repeat (first | apply Kd.R_alloc | apply Kd.R_drewN | apply Kd.R_drew)); exact (Kd.R_mono (Kd.R_far (p := ⟨gb316, 2, none⟩) (Kd.R_far (p := ⟨gb316, 1, none⟩) (Kd.R_far (p := ⟨gb316, 0, none⟩) (Kd.R_types HO309.out BK316.out (by decide)) (fun _ hk => hk.2) (.slice Ao69 t307.length co69)) (fun _ hk => hk.2) (.slice Ao72 t310.length co72)) (fun _ hk => hk.2) (.slice Ao73 t313.length co73)) (fun _ h_ => h_.1)))); (case side2 => exact (Kd.R_reads' HO309.out).2.1); (case side3 => refine (Kd.S_reads' (e := 22) (base := w.heap.size) (ok := fun k_ => ((some k_ ≠ (.slice Ao69 t307.length co69 : Value).ownBlock ∧ some k_ ≠ (.slice Ao62 t297.length co62 : Value).ownBlock) ∧ some k_ ≠ (.slice Ao63 t300.length co63 : Value).ownBlock)) (n := t310.length) (c := co72) ?_).2.2; exact (by (with_reducible repeat (first | apply Kd.S_alloc | apply Kd.S_drewN | apply Kd.S_drew)); exact (Kd.S_mono (Kd.S_far (p := ⟨gb316, 2, none⟩) (Kd.S_far (p := ⟨gb316, 1, none⟩) (Kd.S_far (p := ⟨gb316, 0, none⟩) (Kd.S_types HO312.out BK316.out (by decide)) (fun _ hk => hk.2) (.slice Ao69 t307.length co69)) (fun _ hk => hk.2) (.slice Ao72 t310.length co72)) (fun _ hk => hk.2) (.slice Ao73 t313.length co73)) (fun _ h_ => h_.1)))); (case side4 => exact (Kd.S_reads' HO312.out).2.1); (case side5 => refine (Kd.R_reads' (e := 25) (base := w.heap.size) (ok := fun k_ => ((((some k_ ≠ (.slice Ao69 t307.length co69 : Value).ownBlock ∧ some k_ ≠ (.slice Ao72 t310.length co72 : Value).ownBlock) ∧ some k_ ≠ (.slice Ao62 t297.length co62 : Value).ownBlock) ∧ some k_ ≠ (.slice Ao63 t300.length co63 : Value).ownBlock) ∧ some k_ ≠ (.slice Ao64 t303.length co64 : Value).ownBlock)) (n := t313.length) (c := co73) ?_).2.2; exact (by (with_reducible repeat (first | apply Kd.R_alloc | apply Kd.R_drewN | apply Kd.R_drew)); exact (Kd.R_mono (Kd.R_far (p := ⟨gb316, 2, none⟩) (Kd.R_far (p := ⟨gb316, 1, none⟩) (Kd.R_far (p := ⟨gb316, 0, none⟩) (Kd.R_types HO315.out BK316.out (by decide)) (fun _ hk => hk.2) (.slice Ao69 t307.length co69)) (fun _ hk => hk.2) (.slice Ao72 t310.length co72)) (fun _ hk => hk.2) (.slice Ao73 t313.length co73)) (fun _ h_ => h_.1)))); (case side6 => exact (Kd.R_reads' HO315.out).2.1); rintro e w74 ⟨rfl, hb⟩; refine ⟨_, rfl, ?_⟩; replace HO299 := Aside0.mk (Kd.R_below (by (with_reducible repeat (first | apply Kd.R_alloc | apply Kd.R_drewN | apply Kd.R_drew)); exact (Kd.R_mono (Kd.R_far (p := ⟨gb316, 2, none⟩) (Kd.R_far (p := ⟨gb316, 1, none⟩) (Kd.R_far (p := ⟨gb316, 0, none⟩) (Kd.R_types HO299.out BK316.out (by decide)) (fun _ hk => hk.2) (.slice Ao69 t307.length co69)) (fun _ hk => hk.2) (.slice Ao72 t310.length co72)) (fun _ hk => hk.2) (.slice Ao73 t313.length co73)) (fun _ h_ => h_.1))) hb); replace HO302 := Aside0.mk (Kd.S_below (by (with_reducible repeat (first | apply Kd.S_alloc | apply Kd.S_drewN | apply Kd.S_drew)); exact (Kd.S_mono (Kd.S_far (p := ⟨gb316, 2, none⟩) (Kd.S_far (p := ⟨gb316, 1, none⟩) (Kd.S_far (p := ⟨gb316, 0, none⟩) (Kd.S_types HO302.out BK316.out (by decide)) (fun _ hk => hk.2) (.slice Ao69 t307.length co69)) (fun _ hk => hk.2) (.slice Ao72 t310.length co72)) (fun _ hk => hk.2) (.slice Ao73 t313.length co73)) (fun _ h_ => h_.1))) hb); replace HO305 := Aside0.mk (Kd.R_below (by (with_reducible repeat (first | apply Kd.R_alloc | apply Kd.R_drewN | apply Kd.R_drew)); exact (Kd.R_mono (Kd.R_far (p := ⟨gb316, 2, none⟩) (Kd.R_far (p := ⟨gb316, 1, none⟩) (Kd.R_far (p := ⟨gb316, 0, none⟩) (Kd.R_types HO305.out BK316.out (by decide)) (fun _ hk => hk.2) (.slice Ao69 t307.length co69)) (fun _ hk => hk.2) (.slice Ao72 t310.length co72)) (fun _ hk => hk.2) (.slice Ao73 t313.length co73)) (fun _ h_ => h_.1))) hb); replace HO309 := Aside0.mk (Kd.R_below (by (with_reducible repeat (first | apply Kd.R_alloc | apply Kd.R_drewN | apply Kd.R_drew)); exact (Kd.R_mono (Kd.R_far (p := ⟨gb316, 2, none⟩) (Kd.R_far (p := ⟨gb316, 1, none⟩) (Kd.R_far (p := ⟨gb316, 0, none⟩) (Kd.R_types HO309.out BK316.out (by decide)) (fun _ hk => hk.2) (.slice Ao69 t307.length co69)) (fun _ hk => hk.2) (.slice Ao72 t310.length co72)) (fun _ hk => hk.2) (.slice Ao73 t313.length co73)) (fun _ h_ => h_.1))) hb); replace HO312 := Aside0.mk (Kd.S_below (by (with_reducible repeat (first | apply Kd.S_alloc | apply Kd.S_drewN | apply Kd.S_drew)); exact (Kd.S_mono (Kd.S_far (p := ⟨gb316, 2, none⟩) (Kd.S_far (p := ⟨gb316, 1, none⟩) (Kd.S_far (p := ⟨gb316, 0, none⟩) (Kd.S_types HO312.out BK316.out (by decide)) (fun _ hk => hk.2) (.slice Ao69 t307.length co69)) (fun _ hk => hk.2) (.slice Ao72 t310.length co72)) (fun _ hk => hk.2) (.slice Ao73 t313.length co73)) (fun _ h_ => h_.1))) hb); replace HO315 := Aside0.mk (Kd.R_below (by (with_reducible repeat (first | apply Kd.R_alloc | apply Kd.R_drewN | apply Kd.R_drew)); exact (Kd.R_mono (Kd.R_far (p := ⟨gb316, 2, none⟩) (Kd.R_far (p := ⟨gb316, 1, none⟩) (Kd.R_far (p := ⟨gb316, 0, none⟩) (Kd.R_types HO315.out BK316.out (by decide)) (fun _ hk => hk.2) (.slice Ao69 t307.length co69)) (fun _ hk => hk.2) (.slice Ao72 t310.length co72)) (fun _ hk => hk.2) (.slice Ao73 t313.length co73)) (fun _ h_ => h_.1))) hb); replace BK295 := Aside0.mk (blk_below (g := gb295) (o := .cells #[.slice A0_0 l0_0.length c0_0, .slice A0_1 l0_1.length c0_1, .slice A0_2 l0_2.length c0_2] 43 (0, 0)) (g50_) hb); replace BK316 := Aside0.mk (blk_below (g := gb316) (o := .cells #[.slice Ao69 t307.length co69, .slice Ao72 t310.length co72, .slice Ao73 t313.length co73] 28 (0, 0)) (by (with_reducible repeat (first | refine blk_drewN ?_ _ | refine blk_drew ?_ | refine blk_alloc ?_ _)); refine blk_put (cs := #[.slice Ao69 t307.length co69, .slice Ao72 t310.length co72, .slice none 0 0]) ?_ 2 _ rfl; (with_reducible repeat (first | refine blk_drewN ?_ _ | refine blk_drew ?_ | refine blk_alloc ?_ _)); refine blk_put (cs := #[.slice Ao69 t307.length co69, .slice none 0 0, .slice none 0 0]) ?_ 1 _ rfl; (with_reducible repeat (first | refine blk_drewN ?_ _ | refine blk_drew ?_ | refine blk_alloc ?_ _)); refine blk_put (cs := #[.slice none 0 0, .slice none 0 0, .slice none 0 0]) ?_ 0 _ rfl; (with_reducible repeat (first | refine blk_drewN ?_ _ | refine blk_drew ?_ | refine blk_alloc ?_ _)); exact BK316.out) hb); replace HB := Aside0.mk (below_step (qz0_) hb); (try clear hb); (try clear hk hi)))
    replace HO299 := Aside0.mk (Kd.R_drew HO299.out)
    replace HO302 := Aside0.mk (Kd.S_drew HO302.out)
    replace HO305 := Aside0.mk (Kd.R_drew HO305.out)
    replace HO309 := Aside0.mk (Kd.R_drew HO309.out)
    replace HO312 := Aside0.mk (Kd.S_drew HO312.out)
    replace HO315 := Aside0.mk (Kd.R_drew HO315.out)
    replace BK295 := Aside0.mk (blk_drew BK295.out)
    replace BK316 := Aside0.mk (blk_drew BK316.out)
    replace HB := Aside0.mk (below_drew1 HB.out)
    refine start_ (n := 5) (S := fun w' => w'.cell? ⟨gb316, 0, none⟩ = some (.slice Ao69 t307.length co69) ∧ w'.cell? ⟨gb316, 1, none⟩ = some (.slice Ao72 t310.length co72) ∧ w'.cell? ⟨gb316, 2, none⟩ = some (.slice Ao73 t313.length co73) ∧ w'.cell? ⟨gb295, 0, none⟩ = some (.slice A0_0 l0_0.length c0_0) ∧ w'.cell? ⟨gb295, 1, none⟩ = some (.slice A0_1 l0_1.length c0_1) ∧ w'.cell? ⟨gb295, 2, none⟩ = some (.slice A0_2 l0_2.length c0_2)) (ds := []) (tl_ 5 0) (g1_) rfl (g1_) ⟨(blk_cell BK316.out 0).trans rfl, (blk_cell BK316.out 1).trans rfl, (blk_cell BK316.out 2).trans rfl, (blk_cell BK295.out 0).trans rfl, (blk_cell BK295.out 1).trans rfl, (blk_cell BK295.out 2).trans rfl⟩ (fun hHeld => ?_)
    generalize w74.drew = w75 at HO299 HO302 HO305 HO309 HO312 HO315 BK295 BK316 HB hHeld ⊢
    refine take_ (i := 0) (N := some 22) (v := ?_) (a' := ?_) (tl_ 5 1) rfl rfl (g1_) (fun _ _ _ h => h) (Or.inl ⟨by rfl, ?_⟩) hHeld ?_ ?_
    rotate_left
    ·rintro w' ⟨s0, s1, s2, s3, s4, s5⟩
     go_simp
     with_reducible rfl
    rotate_left
    ·simp only [Act.put, List.setIfInBounds_toArray, List.set_cons_zero, List.set_cons_succ, i64_w, i32_w]
     rfl
    refine take_ (i := 1) (N := some 23) (v := ?_) (a' := ?_) (tl_ 5 3) rfl rfl (g1_) (fun _ _ _ h => h) (Or.inl ⟨by rfl, ?_⟩) hHeld ?_ ?_
    rotate_left
    ·rintro w' ⟨s0, s1, s2, s3, s4, s5⟩
     go_simp
     with_reducible rfl
    rotate_left
    ·simp only [Act.put, List.setIfInBounds_toArray, List.set_cons_zero, List.set_cons_succ, i64_w, i32_w]
     rfl
    refine one_ (i := 2) (N := some 24) (tl_ 5 7) rfl rfl (g1_) (by decide) (fun K hK => ?_)
    refine goes_ Try.func29 (g1_) rfl #[.agg #[.slice A0_0 l0_0.length c0_0, .slice A0_1 l0_1.length c0_1, .slice A0_2 l0_2.length c0_2]] (by rfl) rfl rfl (g2_) ?_
    with_reducible refine (laws_toDesk.calls k _ _ l0_0 _ _ l0_1 _ _ l0_2 t318 t321 t324 _ ?side1 ?side2 ?side3 ?side4 ?side5 ?side6 A30.out).mono ?_
    (case side1 => exact uf3_ HR0_0)
    (case side2 => exact HC0_0.out)
    (case side3 => exact uf3_ HR0_1)
    (case side4 => exact HC0_1.out)
    (case side5 => exact uf3_ HR0_2)
    (case side6 => exact HC0_2.out)
    rintro e w76 ⟨v319, v322, v325, rfl, ho0, ho1, ho2, hb⟩
    refine ⟨_, rfl, ?_⟩
    have HO320 := Aside0.mk (Kd.R_lower (Kd.R_new' (Kd.R_new' ho0 (Kd.R_lt (uf1_ HO299))) (Kd.R_lt (uf1_ HO309))) (below_size (qz0_)))
    have HO323 := Aside0.mk (Kd.S_lower (Kd.S_new' (Kd.S_new' (Kd.S_new' (Kd.S_new' ho1 (Kd.R_lt (uf1_ HO299))) (Kd.S_lt (uf2_ HO302))) (Kd.R_lt (uf1_ HO309))) (Kd.S_lt (uf2_ HO312))) (below_size (qz0_)))
    have HO326 := Aside0.mk (Kd.R_lower (Kd.R_new' (Kd.R_new' (Kd.R_new' (Kd.R_new' (Kd.R_new' (Kd.R_new' ho2 (Kd.R_lt (uf1_ HO299))) (Kd.S_lt (uf2_ HO302))) (Kd.R_lt (uf1_ HO305))) (Kd.R_lt (uf1_ HO309))) (Kd.S_lt (uf2_ HO312))) (Kd.R_lt (uf1_ HO315))) (below_size (qz0_)))
    replace HO299 := Aside0.mk (Kd.R_elder' (uf1_ HO299) (Kd.R_base ho0) hb)
    replace HO302 := Aside0.mk (Kd.S_mono (Kd.S_told (Kd.S_told (Kd.S_old (uf2_ HO302) hb) (Kd.R_base ho0)) (Kd.S_base ho1)) (fun _ h_ => h_.1))
    replace HO305 := Aside0.mk (Kd.R_mono (Kd.R_told (Kd.R_told (Kd.R_told (Kd.R_old (uf1_ HO305) hb) (Kd.R_base ho0)) (Kd.S_base ho1)) (Kd.R_base ho2)) (fun _ h_ => h_.1))
    replace HO309 := Aside0.mk (Kd.R_elder' (uf1_ HO309) (Kd.R_base ho0) hb)
    replace HO312 := Aside0.mk (Kd.S_mono (Kd.S_told (Kd.S_told (Kd.S_old (uf2_ HO312) hb) (Kd.R_base ho0)) (Kd.S_base ho1)) (fun _ h_ => h_.1))
    replace HO315 := Aside0.mk (Kd.R_mono (Kd.R_told (Kd.R_told (Kd.R_told (Kd.R_old (uf1_ HO315) hb) (Kd.R_base ho0)) (Kd.S_base ho1)) (Kd.R_base ho2)) (fun _ h_ => h_.1))
    replace BK295 := bb_ BK295 hb
    replace BK316 := bb_ BK316 hb
    replace HB := Aside0.mk (below_step (qz0_) hb)
    (try clear hb)
    (try clear hk hi)
    (try clear ho0)
    (try clear ho1)
    (try clear ho2)
    obtain ⟨Ao77, co77, eo77⟩ := Kd.R_slice HO320.out
    (first | subst eo77 | (injection eo77 with f1_ f2_ f3_; have f4_ := f1_.symm; have f5_ := f3_.symm; clear f1_ f2_ f3_; subst f4_; subst f5_))
    obtain ⟨Ao78, co78, eo78⟩ := Kd.S_slice HO323.out
    (first | subst eo78 | (injection eo78 with f1_ f2_ f3_; have f4_ := f1_.symm; have f5_ := f3_.symm; clear f1_ f2_ f3_; subst f4_; subst f5_))
    obtain ⟨Ao79, co79, eo79⟩ := Kd.R_slice HO326.out
    (first | subst eo79 | (injection eo79 with f1_ f2_ f3_; have f4_ := f1_.symm; have f5_ := f3_.symm; clear f1_ f2_ f3_; subst f4_; subst f5_))
    refine hK.out _ _ ⟨(blk_cell BK316.out 0).trans rfl, (blk_cell BK316.out 1).trans rfl, (blk_cell BK316.out 2).trans rfl, (blk_cell BK295.out 0).trans rfl, (blk_cell BK295.out 1).trans rfl, (blk_cell BK295.out 2).trans rfl⟩ (fun hHeld => ?_)
    clear hK K
    refine nm_ ?_
    refine one_ (i := 3) (N := some 25) (tl_ 5 15) rfl rfl (g1_) (by decide) (fun K hK => ?_)
    refine goes_ Try.func17 (g1_) rfl #[.agg #[.slice Ao69 t307.length co69, .slice Ao72 t310.length co72, .slice Ao73 t313.length co73], .agg #[.slice Ao77 t318.length co77, .slice Ao78 t321.length co78, .slice Ao79 t324.length co79]] (by rfl) rfl rfl (g2_) ?_
    with_reducible refine (laws_eqDesk.calls k _ _ t307 _ _ t310 _ _ t313 _ _ t318 _ _ t321 _ _ t324 false _ ?side1 ?side2 ?side3 ?side4 ?side5 ?side6 ?side7 ?side8 ?side9 ?side10 ?side11 ?side12 A31.out).mono ?_
    (case side1 => repeat (first | exact (Kd.R_reads' HO309.out).2.2 | (with_reducible refine Kd.C_alloc ?_ _) | (with_reducible refine Kd.C_drewN ?_ _) | (with_reducible refine Kd.C_drew ?_)))
    (case side2 => exact (Kd.R_reads' HO309.out).2.1)
    (case side3 => repeat (first | exact (Kd.S_reads' HO312.out).2.2 | (with_reducible refine Kd.C_alloc ?_ _) | (with_reducible refine Kd.C_drewN ?_ _) | (with_reducible refine Kd.C_drew ?_)))
    (case side4 => exact (Kd.S_reads' HO312.out).2.1)
    (case side5 => repeat (first | exact (Kd.R_reads' HO315.out).2.2 | (with_reducible refine Kd.C_alloc ?_ _) | (with_reducible refine Kd.C_drewN ?_ _) | (with_reducible refine Kd.C_drew ?_)))
    (case side6 => exact (Kd.R_reads' HO315.out).2.1)
    (case side7 => repeat (first | exact (Kd.R_reads' HO320.out).2.2 | (with_reducible refine Kd.C_alloc ?_ _) | (with_reducible refine Kd.C_drewN ?_ _) | (with_reducible refine Kd.C_drew ?_)))
    (case side8 => exact (Kd.R_reads' HO320.out).2.1)
    (case side9 => repeat (first | exact (Kd.S_reads' HO323.out).2.2 | (with_reducible refine Kd.C_alloc ?_ _) | (with_reducible refine Kd.C_drewN ?_ _) | (with_reducible refine Kd.C_drew ?_)))
    (case side10 => exact (Kd.S_reads' HO323.out).2.1)
    (case side11 => repeat (first | exact (Kd.R_reads' HO326.out).2.2 | (with_reducible refine Kd.C_alloc ?_ _) | (with_reducible refine Kd.C_drewN ?_ _) | (with_reducible refine Kd.C_drew ?_)))
    (case side12 => exact (Kd.R_reads' HO326.out).2.1)
    rintro e w80 ⟨rfl, hb⟩
    refine ⟨_, rfl, ?_⟩
    replace HO299 := Aside0.mk (Kd.R_below (uf1_ HO299) hb)
    replace HO302 := Aside0.mk (Kd.S_below (uf2_ HO302) hb)
    replace HO305 := Aside0.mk (Kd.R_below (uf1_ HO305) hb)
    replace HO309 := Aside0.mk (Kd.R_below (uf1_ HO309) hb)
    replace HO312 := Aside0.mk (Kd.S_below (uf2_ HO312) hb)
    replace HO315 := Aside0.mk (Kd.R_below (uf1_ HO315) hb)
    replace HO320 := Aside0.mk (Kd.R_below (uf1_ HO320) hb)
    replace HO323 := Aside0.mk (Kd.S_below (uf2_ HO323) hb)
    replace HO326 := Aside0.mk (Kd.R_below (uf1_ HO326) hb)
    replace BK295 := bb_ BK295 hb
    replace BK316 := bb_ BK316 hb
    replace HB := Aside0.mk (below_step (qz0_) hb)
    (try clear hb)
    (try clear hk hi)
    refine hK.out _ _ ⟨(blk_cell BK316.out 0).trans rfl, (blk_cell BK316.out 1).trans rfl, (blk_cell BK316.out 2).trans rfl, (blk_cell BK295.out 0).trans rfl, (blk_cell BK295.out 1).trans rfl, (blk_cell BK295.out 2).trans rfl⟩ (fun hHeld => ?_)
    clear hK K
    refine nm_ ?_
    refine pure_ (i := 4) (N := some 26) (v := ?_) (a' := ?_) (tl_ 5 31) rfl rfl (g1_) (fun _ _ _ h => h) (Or.inl ⟨by rfl, ?_⟩) ?_ ?_
    rotate_left
    ·intro w'
     go_simp
     with_reducible rfl
    rotate_left
    ·simp only [Act.put, List.setIfInBounds_toArray, List.set_cons_zero, List.set_cons_succ, i64_w, i32_w]
     rfl
    refine done_ (g1_) ?_
    try go_wp2
    go_ret
    exact ⟨g4_, qz0_⟩
end Go.Proofs.Ytfooakkhkehpiaa.PU
namespace Go.Proofs.Ytfooakkhkehpiaa.Op
open Go.RowKit Go.Deep Go.Proofs.YtfooakkhkehpiaaW.PrintWords
set_option linter.unusedVariables false
set_option linter.unusedSimpArgs false
variable {α β : Type} {P : Program} {t e : TypeId}
def Opens (P : Program) (t : TypeId) (d : Kd α) (G : α → Prop) : Prop :=
  P.cellsOf t = d.sz ∧ ∀ (H : Type) (enc : TypeId × Value → H) (W : World) (fuel : Nat) (cs : List Value) (x : DataW H × List MemPlace),
    DataW.trod enc P W 0 (fun _ => true) true fuel t cs = some x → ∃ a, d.K W a cs ∧ G a
theorem opens_int {k : IntKind} (ht : P.underlying t = some (.int k)) (hc : P.cellsOf t = 1) : Opens P t (Kd.int k) (fun _ => True) :=
  ⟨hc, fun H enc W fuel cs x h => by
    obtain ⟨n, rfl, _, _⟩ := DataW.trod_int ht h
    exact ⟨n, rfl, trivial⟩⟩
theorem opens_slice {d : Kd α} {G : α → Prop} (ht : P.underlying t = some (.slice e)) (hc : P.cellsOf t = 1) (ho : Opens P e d G) :
    Opens P t (Kd.slice e d) (fun xs => xs.length ≤ maxLen ∧ ∀ x ∈ xs, G x) := by
  refine ⟨hc, fun H enc W fuel cs x h => ?_⟩
  rcases open_slice ht h with ⟨rfl, _⟩ | ⟨a, len, cap, m, n, D, Pl, rfl, _, hl, hm, hmm, _, hx⟩
  · exact ⟨[], ⟨none, 0, rfl, Nat.le_refl _, Kd.C_nil d W⟩, by simp, fun x hx => by cases hx⟩
  · have hmc : m = cap := by simpa using hmm
    subst hmc
    have hall : ∀ i, i < len → ∃ y c, c.length = d.sz ∧ d.K W y c ∧ G y ∧ ∀ j u, c[j]? = some u → W.cell? (a.add (i * d.sz + j)) = some u := by
      intro i hi
      obtain ⟨cs', h1, h2⟩ := hx i (by omega)
      obtain ⟨y, hK, hG⟩ := ho.2 H enc W n cs' _ h2
      rw [ho.1] at h1
      obtain ⟨_, hlen, hcell⟩ := World.cells?_some h1
      refine ⟨y, cs', hlen, hK, hG, fun j u hu => ?_⟩
      have hj : j < d.sz := by have := (List.getElem?_eq_some_iff.1 hu).1; omega
      have := hcell j hj
      rw [Deep.add_add, hu] at this
      exact this
    refine ⟨List.ofFn (fun i : Fin len => Classical.choose (hall i.1 i.2)), ⟨some a, m, by rw [List.length_ofFn], by rw [List.length_ofFn]; exact hl, ?_⟩, by rw [List.length_ofFn]; omega, ?_⟩
    · rw [List.length_ofFn]
      refine ⟨List.length_ofFn, by unfold maxLen at hm; omega, fun _ => ⟨a, rfl, fun j p hp => ?_⟩⟩
      have hj : j < len := by have := (List.getElem?_eq_some_iff.1 hp).1; rwa [List.length_ofFn] at this
      have hp' : p = Classical.choose (hall j hj) := by
        rw [List.getElem?_ofFn, dif_pos hj] at hp
        exact (Option.some.inj hp).symm
      subst hp'
      obtain ⟨c, h1, h2, _, h4⟩ := Classical.choose_spec (hall j hj)
      exact ⟨c, h1, h2, h4⟩
    · intro x hx
      obtain ⟨i, hi, rfl⟩ := List.getElem_of_mem hx
      rw [List.getElem_ofFn]
      obtain ⟨c, _, _, h3, _⟩ := Classical.choose_spec (hall i (by rwa [List.length_ofFn] at hi))
      exact h3
def OpensF (P : Program) (fs : List Field) (off : Nat) (d : Kd α) (G : α → Prop) : Prop :=
  ∀ (H : Type) (enc : TypeId × Value → H) (W : World) (n : Nat) (cs : List Value), cs.length = off + d.sz →
    (∀ (i : Nat) (f : Field), fs[i]? = some f → ∃ y, DataW.trod enc P W 0 (fun _ => true) true n f.type ((cs.drop f.offset).take (P.cellsOf f.type)) = some y) →
    ∃ a, d.K W a (cs.drop off) ∧ G a
theorem opensF_one {d : Kd α} {G : α → Prop} {f : Field} {off : Nat} (ho : f.offset = off) (h : Opens P f.type d G) : OpensF P [f] off d G := by
  intro H enc W n cs hl hf
  obtain ⟨y, hy⟩ := hf 0 f rfl
  rw [ho, h.1, List.take_of_length_le (by rw [List.length_drop]; omega)] at hy
  exact h.2 H enc W n _ y hy
theorem opensF_cons {da : Kd α} {db : Kd β} {Ga : α → Prop} {Gb : β → Prop} {f : Field} {fs : List Field} {off : Nat} (ho : f.offset = off) (h : Opens P f.type da Ga) (hr : OpensF P fs (off + da.sz) db Gb) :
    OpensF P (f :: fs) off (Kd.pair da db) (fun x => Ga x.1 ∧ Gb x.2) := by
  intro H enc W n cs hl hf
  have hl' : cs.length = off + da.sz + db.sz := by have : (Kd.pair da db).sz = da.sz + db.sz := rfl; omega
  obtain ⟨y, hy⟩ := hf 0 f rfl
  rw [ho, h.1] at hy
  obtain ⟨a, hK, hG⟩ := h.2 H enc W n _ y hy
  obtain ⟨b, hK2, hG2⟩ := hr H enc W n cs hl' (fun i g hg => hf (i + 1) g (by simpa using hg))
  refine ⟨(a, b), ⟨_, _, ?_, hK, hK2⟩, hG, hG2⟩
  rw [← List.drop_drop]
  exact (List.take_append_drop _ _).symm
theorem opens_struct {d : Kd α} {G : α → Prop} {fs : Array Field} (ht : P.underlying t = some (.struct fs)) (hc : P.cellsOf t = d.sz) (hF : OpensF P fs.toList 0 d G) : Opens P t d G := by
  refine ⟨hc, fun H enc W fuel cs x h => ?_⟩
  obtain ⟨xs, n, _, _, hl, hlen, hf⟩ := DataW.trod_struct ht h
  have := hF H enc W n cs (by rw [hl, hc, Nat.zero_add]) (fun i f hi => by
    have hi' : fs[i]? = some f := by simpa using hi
    have hlt : i < xs.length := by
      have := (Array.getElem?_eq_some_iff.1 hi').1
      omega
    exact ⟨xs[i], by rw [hf i f hi', List.getElem?_eq_getElem hlt]⟩)
  simpa using this
theorem opens_iso {d : Kd α} {G : α → Prop} (h : Opens P t d G) (f : β → α) (g : α → β) (hfg : ∀ a, f (g a) = a) : Opens P t (Kd.iso d f) (fun b => G (f b)) := by
  refine ⟨h.1, fun H enc W fuel cs x hx => ?_⟩
  obtain ⟨a, hK, hG⟩ := h.2 H enc W fuel cs x hx
  exact ⟨g a, by show d.K W (f (g a)) cs; rw [hfg]; exact hK, by show G (f (g a)); rw [hfg]; exact hG⟩
theorem open_agg {H : Type} {enc : TypeId × Value → H} {W : World} {d : Kd α} {G : α → Prop} {v : Value} {dd : DataW H} {ps : List MemPlace} (ho : Opens P t d G) (hv : ∃ cs, v = .agg cs ∧ cs.size = P.cellsOf t)
    (h : DataW.Trod enc P W 0 (fun _ => true) true t v dd ps) : ∃ cs x, v = .agg cs ∧ d.K W x cs.toList ∧ G x := by
  obtain ⟨cs, rfl, _⟩ := hv
  obtain ⟨fuel, hf⟩ := h
  obtain ⟨x, hK, hG⟩ := ho.2 H enc W fuel _ _ hf
  exact ⟨cs, x, rfl, hK, hG⟩
end Go.Proofs.Ytfooakkhkehpiaa.Op
namespace Go.Proofs.Ytfooakkhkehpiaa.Qh
open Go.RowKit Go.Proofs.YtfooakkhkehpiaaW.PrintWords Go.Proofs.YtfooakkhkehpiaaW.PrintMore
set_option linter.unusedVariables false
set_option linter.unusedSimpArgs false
theorem w64 {n : Int} (h1 : -9223372036854775808 ≤ n) (h2 : n ≤ 9223372036854775807) : wrap64 n = n := by unfold wrap64; omega
theorem wsucc {i n : Nat} (h : i < n) (hn : n ≤ 4611686018427387904) : wrap64 ((i : Int) + 1) = ((i + 1 : Nat) : Int) := by unfold wrap64; omega
section
variable {α β : Type} {r : α}
theorem evPos {c : Prop} [Decidable c] {g f : Nat → Option α} (h : c) (k : Ev g r) : Ev (fun n => if c then g n else f n) r := by
  simp only [if_pos h]; exact k
theorem evNeg {c : Prop} [Decidable c] {g f : Nat → Option α} (h : ¬ c) (k : Ev f r) : Ev (fun n => if c then g n else f n) r := by
  simp only [if_neg h]; exact k
theorem evF {g f : Nat → Option α} {b : Bool} (h : b = false) (k : Ev f r) : Ev (fun n => if b = true then g n else f n) r := evNeg (by rw [h]; decide) k
theorem evBind0 {g : Option β} {f : Nat → β → Option α} {a : β} (h : g = some a) (k : Ev (fun n => f n a) r) : Ev (fun n => g.bind (f n)) r := by
  subst h; exact k
theorem evNow {g : Option α} (h : g = some r) : Ev (fun _ => g) r := by subst h; exact Ev.now r
theorem evEq {g : Nat → Option α} {q : α} (h : Ev g q) (e : q = r) : Ev g r := e ▸ h
end
theorem rd_get (xs : List Int) (i : Nat) (h : i < xs.length) : rd xs (i : Int) = xs[i] := by
  simp [rd, List.getD_eq_getElem?_getD, List.getElem?_eq_getElem h]
theorem getD_set {α : Type} (xs : List α) (d v : α) (i j : Nat) (h : i < xs.length) : (xs.set i v).getD j d = if i = j then v else xs.getD j d := by
  simp only [List.getD_eq_getElem?_getD, List.getElem?_set]
  by_cases e : i = j
  · subst e; simp [h]
  · simp [e]
theorem rd_set (xs : List Int) (v : Int) (i j : Int) (h0 : 0 ≤ i) (h : i < xs.length) (hj : 0 ≤ j) : rd (xs.set i.toNat v) j = if i = j then v else rd xs j := by
  unfold rd
  rw [getD_set xs 0 v i.toNat j.toNat (by omega)]
  by_cases e : i = j
  · subst e; simp
  · rw [if_neg e, if_neg (by omega)]
theorem ext_rd (xs ys : List Int) (hl : xs.length = ys.length) (h : ∀ i : Nat, i < xs.length → rd xs (i : Int) = rd ys (i : Int)) : xs = ys := by
  apply List.ext_getElem hl
  intro i h1 h2
  have := h i h1
  rwa [rd_get xs i h1, rd_get ys i h2] at this
theorem ext_getD {α : Type} (d : α) (xs ys : List α) (hl : xs.length = ys.length) (h : ∀ i : Nat, i < xs.length → xs.getD i d = ys.getD i d) : xs = ys := by
  apply List.ext_getElem hl
  intro i h1 h2
  have := h i h1
  simpa [List.getD_eq_getElem?_getD, List.getElem?_eq_getElem h1, List.getElem?_eq_getElem h2] using this
theorem getD_map {α β : Type} (f : α → β) (d : α) (e : β) (xs : List α) (i : Nat) (h : i < xs.length) : (xs.map f).getD i e = f (xs.getD i d) := by
  simp [List.getD_eq_getElem?_getD, List.getElem?_eq_getElem h]
theorem getD_mem {α : Type} (d : α) (xs : List α) (i : Nat) (h : i < xs.length) : xs.getD i d ∈ xs := by
  simp [List.getD_eq_getElem?_getD, List.getElem?_eq_getElem h]
def EvB (g : Nat → Option Bool) (p : Prop) : Prop := ∃ b, (b = true ↔ p) ∧ Ev g b
section
variable {g f : Nat → Option Bool} {p q : Prop}
theorem EvB.congr (h : EvB g p) (e : p ↔ q) : EvB g q := by obtain ⟨b, h1, h2⟩ := h; exact ⟨b, h1.trans e, h2⟩
theorem EvB.tt (h : p) : EvB (fun _ => some true) p := ⟨true, by simp [h], Ev.now _⟩
theorem EvB.ff (h : ¬ p) : EvB (fun _ => some false) p := ⟨false, by simp [h], Ev.now _⟩
theorem EvB.pos {c : Prop} [Decidable c] (h : c) (k : EvB g p) : EvB (fun n => if c then g n else f n) p := by obtain ⟨b, h1, h2⟩ := k; exact ⟨b, h1, evPos h h2⟩
theorem EvB.neg {c : Prop} [Decidable c] (h : ¬ c) (k : EvB f p) : EvB (fun n => if c then g n else f n) p := by obtain ⟨b, h1, h2⟩ := k; exact ⟨b, h1, evNeg h h2⟩
theorem EvB.step {g f : Nat → Option Bool} (h : ∀ k, g (k + 1) = f k) (k : EvB f p) : EvB g p := by obtain ⟨b, h1, h2⟩ := k; exact ⟨b, h1, Ev.step h h2⟩
theorem EvB.bind {β : Type} {g : Nat → Option β} {f : Nat → β → Option Bool} {a : β} (h : Ev g a) (k : EvB (fun n => f n a) p) : EvB (fun n => (g n).bind (f n)) p := by obtain ⟨b, h1, h2⟩ := k; exact ⟨b, h1, Ev.bind h h2⟩
theorem EvB.bind0 {β : Type} {g : Option β} {f : Nat → β → Option Bool} {a : β} (h : g = some a) (k : EvB (fun n => f n a) p) : EvB (fun n => g.bind (f n)) p := by obtain ⟨b, h1, h2⟩ := k; exact ⟨b, h1, evBind0 h h2⟩
end
end Go.Proofs.Ytfooakkhkehpiaa.Qh
namespace Go.Proofs.Ytfooakkhkehpiaa.Bk
open Go.RowKit Go.Proofs.Ytfooakkhkehpiaa.PU Go.Proofs.Ytfooakkhkehpiaa.Qh Go.Proofs.YtfooakkhkehpiaaW.PrintWords Go.Proofs.YtfooakkhkehpiaaW.PrintMore
set_option linter.unusedVariables false
set_option linter.unusedSimpArgs false
def RowP (c : List Int) (d : List (List Int)) (i : Nat) : Prop :=
  0 ≤ rd c (i : Int) ∧ rd c (i : Int) ≤ 20 ∧ (rd_L1 d (i : Int)).length = c.length ∧ rd (rd_L1 d (i : Int)) (i : Int) = 0 ∧ ∀ j : Nat, j < c.length → 0 ≤ rd (rd_L1 d (i : Int)) (j : Int) ∧ rd (rd_L1 d (i : Int)) (j : Int) ≤ 9
def BookP (c : List Int) (d : List (List Int)) : Prop := 1 ≤ c.length ∧ c.length ≤ 4 ∧ d.length = c.length ∧ ∀ i : Nat, i < c.length → RowP c d i
theorem ib_l1 (c : List Int) (d : List (List Int)) (row : List Int) (x3 : Int) (i : Nat) (hrow : row.length ≤ 4) (hi : i < d.length) (hd : d.length ≤ 4) {R : Prop}
    (hR : EvB (fun k => impl_isBook.l0 k x3 d (d.length : Int) ((i + 1 : Nat) : Int) c d) R) : ∀ (e j : Nat), row.length - j = e → j ≤ row.length →
    EvB (fun k => impl_isBook.l1 k x3 d (d.length : Int) (i : Int) row (row.length : Int) (j : Int) c d) ((∀ j' : Nat, j ≤ j' → j' < row.length → 0 ≤ rd row (j' : Int) ∧ rd row (j' : Int) ≤ 9) ∧ R) := by
  have hs : wrap64 ((i : Int) + 1) = ((i + 1 : Nat) : Int) := wsucc hi (by omega)
  intro e
  induction e with
  | zero =>
    intro j he hj
    refine EvB.step (fun k => by rw [impl_isBook.l1]) ?_
    rw [hs]
    exact EvB.neg (by omega) (hR.congr ⟨fun h => ⟨fun j' h1 h2 => by omega, h⟩, fun h => h.2⟩)
  | succ e ih =>
    intro j he hj
    have hlt : j < row.length := by omega
    have hj1 : wrap64 ((j : Int) + 1) = ((j + 1 : Nat) : Int) := wsucc hlt (by omega)
    refine EvB.step (fun k => by rw [impl_isBook.l1]) ?_
    refine EvB.pos (by omega) (EvB.pos (by omega) (EvB.pos (by omega) ?_))
    by_cases h1 : rd row (j : Int) < 0
    · exact EvB.pos h1 (EvB.ff (fun h => by have := h.1 j (Nat.le_refl _) hlt; omega))
    · refine EvB.neg h1 ?_
      by_cases h2 : rd row (j : Int) > 9
      · exact EvB.pos h2 (EvB.ff (fun h => by have := h.1 j (Nat.le_refl _) hlt; omega))
      · refine EvB.neg h2 ?_
        rw [hj1]
        refine (ih (j + 1) (by omega) (by omega)).congr ⟨fun h => ⟨fun j' h3 h4 => ?_, h.2⟩, fun h => ⟨fun j' h3 h4 => h.1 j' (by omega) h4, h.2⟩⟩
        by_cases e' : j' = j
        · subst e'; exact ⟨by omega, by omega⟩
        · exact h.1 j' (by omega) h4
theorem ib_l0 (c : List Int) (d : List (List Int)) (h4 : c.length ≤ 4) (hl : d.length = c.length) : ∀ (e i : Nat), c.length - i = e → i ≤ c.length →
    EvB (fun k => impl_isBook.l0 k (c.length : Int) d (d.length : Int) (i : Int) c d) (∀ i' : Nat, i ≤ i' → i' < c.length → RowP c d i') := by
  intro e
  induction e with
  | zero =>
    intro i he hi
    refine EvB.step (fun k => by rw [impl_isBook.l0]) ?_
    exact EvB.neg (by omega) (EvB.tt (fun i' h1 h2 => by omega))
  | succ e ih =>
    intro i he hi
    have hlt : i < c.length := by omega
    refine EvB.step (fun k => by rw [impl_isBook.l0]) ?_
    refine EvB.pos (by omega) (EvB.pos (by omega) (EvB.pos (by omega) (EvB.pos (by omega) ?_)))
    have bad : ∀ (P : Prop), (P → ¬ RowP c d i) → P → EvB (fun k => impl_isBook.j2 k (c.length : Int) (rd_L1 d (i : Int)) d (d.length : Int) (i : Int) true c d) (∀ i' : Nat, i ≤ i' → i' < c.length → RowP c d i') := by
      intro P hP p
      refine EvB.step (fun k => by rw [impl_isBook.j2]) ?_
      exact EvB.pos rfl (EvB.ff (fun h => hP p (h i (Nat.le_refl _) hlt)))
    by_cases h1 : rd c (i : Int) < 0
    · exact EvB.pos h1 (bad _ (fun p h => by have := h.1; omega) h1)
    refine EvB.neg h1 ?_
    by_cases h2 : rd c (i : Int) > 20
    · exact EvB.pos h2 (bad _ (fun p h => by have := h.2.1; omega) h2)
    refine EvB.neg h2 ?_
    by_cases h3 : ((rd_L1 d (i : Int)).length : Int) = (c.length : Int)
    · refine EvB.pos h3 (EvB.pos (by omega) ?_)
      by_cases h5 : rd (rd_L1 d (i : Int)) (i : Int) = 0
      · refine EvB.step (fun k => by rw [impl_isBook.j2]) ?_
        refine EvB.neg (by rw [h5]; decide) ?_
        refine (ib_l1 c d (rd_L1 d (i : Int)) (c.length : Int) i (by omega) (by omega) (by omega) (ih (i + 1) (by omega) (by omega)) _ 0 rfl (by omega)).congr ?_
        constructor
        · intro h i' h6 h7
          by_cases e' : i' = i
          · subst e'; exact ⟨by omega, by omega, by omega, h5, fun j hj => h.1 j (by omega) (by omega)⟩
          · exact h.2 i' (by omega) h7
        · intro h
          have hr := h i (Nat.le_refl _) hlt
          exact ⟨fun j' _ h7 => hr.2.2.2.2 j' (by omega), fun i' h6 h7 => h i' (by omega) h7⟩
      · have hb : (rd (rd_L1 d (i : Int)) (i : Int) != 0) = true := bne_iff_ne.mpr h5
        rw [hb]
        exact bad _ (fun p h => p h.2.2.2.1) h5
    · exact EvB.neg h3 (bad _ (fun p h => p (by rw [h.2.2.1])) h3)
theorem isBook (c : List Int) (d : List (List Int)) : EvB (fun k => impl_isBook.f k c d) (BookP c d) := by
  unfold impl_isBook.f
  by_cases h1 : (c.length : Int) < 1
  · refine EvB.pos h1 (EvB.step (fun k => by rw [impl_isBook.j0]) ?_)
    exact EvB.pos rfl (EvB.ff (fun h => by have := h.1; omega))
  refine EvB.neg h1 ?_
  by_cases h2 : (c.length : Int) > 4
  · refine EvB.pos h2 (EvB.step (fun k => by rw [impl_isBook.j0]) ?_)
    exact EvB.pos rfl (EvB.ff (fun h => by have := h.2.1; omega))
  refine EvB.neg h2 (EvB.step (fun k => by rw [impl_isBook.j0]) ?_)
  by_cases h3 : d.length = c.length
  · refine EvB.neg (by rw [h3]; simp) ?_
    refine (ib_l0 c d (by omega) h3 _ 0 rfl (by omega)).congr ⟨fun h => ⟨by omega, by omega, h3, fun i hi => h i (by omega) hi⟩, fun h i _ hi => h.2.2.2 i hi⟩
  · exact EvB.pos (bne_iff_ne.mpr (by omega)) (EvB.ff (fun h => h3 h.2.2.1))
theorem sIn (a lo hi : Int) : spec_l1In.f a lo hi = some (decide (lo ≤ a ∧ a ≤ hi)) := by
  unfold spec_l1In.f
  by_cases h : a ≥ lo
  · rw [if_pos h]; simp [h]
  · rw [if_neg h]; congr 1; symm; exact decide_eq_false (fun h' => h h'.1)
theorem sb_l1 (c : List Int) (d : List (List Int)) (i : Nat) (hrow : (rd_L1 d (i : Int)).length ≤ 4) (hi : i < d.length) (hd : d.length ≤ 4) {R : Prop}
    (hR : EvB (fun k => spec_BookOk.l0 k ((i + 1 : Nat) : Int) c d) R) : ∀ (e j : Nat), (rd_L1 d (i : Int)).length - j = e → j ≤ (rd_L1 d (i : Int)).length →
    EvB (fun k => spec_BookOk.l1 k (i : Int) (j : Int) c d) ((∀ j' : Nat, j ≤ j' → j' < (rd_L1 d (i : Int)).length → 0 ≤ rd (rd_L1 d (i : Int)) (j' : Int) ∧ rd (rd_L1 d (i : Int)) (j' : Int) ≤ 9) ∧ R) := by
  have hs : wrap64 ((i : Int) + 1) = ((i + 1 : Nat) : Int) := wsucc hi (by omega)
  intro e
  induction e with
  | zero =>
    intro j he hj
    refine EvB.step (fun k => by rw [spec_BookOk.l1]) ?_
    rw [hs]
    exact EvB.pos (by omega) (EvB.pos (by omega) (EvB.neg (by omega) (hR.congr ⟨fun h => ⟨fun j' h1 h2 => by omega, h⟩, fun h => h.2⟩)))
  | succ e ih =>
    intro j he hj
    have hlt : j < (rd_L1 d (i : Int)).length := by omega
    have hj1 : wrap64 ((j : Int) + 1) = ((j + 1 : Nat) : Int) := wsucc hlt (by omega)
    refine EvB.step (fun k => by rw [spec_BookOk.l1]) ?_
    refine EvB.pos (by omega) (EvB.pos (by omega) (EvB.pos (by omega) (EvB.pos (by omega) (EvB.bind0 (sIn _ _ _) ?_))))
    by_cases h1 : 0 ≤ rd (rd_L1 d (i : Int)) (j : Int) ∧ rd (rd_L1 d (i : Int)) (j : Int) ≤ 9
    · refine EvB.pos (decide_eq_true h1) ?_
      rw [hj1]
      refine (ih (j + 1) (by omega) (by omega)).congr ⟨fun h => ⟨fun j' h3 h4 => ?_, h.2⟩, fun h => ⟨fun j' h3 h4 => h.1 j' (by omega) h4, h.2⟩⟩
      by_cases e' : j' = j
      · subst e'; exact h1
      · exact h.1 j' (by omega) h4
    · exact EvB.neg (by simpa using h1) (EvB.ff (fun h => h1 (h.1 j (Nat.le_refl _) hlt)))
theorem sb_l0 (c : List Int) (d : List (List Int)) (h4 : c.length ≤ 4) (hl : d.length = c.length) : ∀ (e i : Nat), c.length - i = e → i ≤ c.length →
    EvB (fun k => spec_BookOk.l0 k (i : Int) c d) (∀ i' : Nat, i ≤ i' → i' < c.length → RowP c d i') := by
  intro e
  induction e with
  | zero =>
    intro i he hi
    refine EvB.step (fun k => by rw [spec_BookOk.l0]) ?_
    exact EvB.neg (by omega) (EvB.tt (fun i' h1 h2 => by omega))
  | succ e ih =>
    intro i he hi
    have hlt : i < c.length := by omega
    refine EvB.step (fun k => by rw [spec_BookOk.l0]) ?_
    refine EvB.pos (by omega) (EvB.pos (by omega) (EvB.bind0 (sIn _ _ _) ?_))
    have bad : ∀ (P : Prop), (P → ¬ RowP c d i) → P → EvB (fun k => spec_BookOk.j2 k (i : Int) true c d) (∀ i' : Nat, i ≤ i' → i' < c.length → RowP c d i') := by
      intro P hP p
      refine EvB.step (fun k => by rw [spec_BookOk.j2]) ?_
      exact EvB.pos rfl (EvB.ff (fun h => hP p (h i (Nat.le_refl _) hlt)))
    by_cases h1 : 0 ≤ rd c (i : Int) ∧ rd c (i : Int) ≤ 20
    · refine EvB.pos (decide_eq_true h1) (EvB.pos (by omega) ?_)
      by_cases h3 : ((rd_L1 d (i : Int)).length : Int) = (c.length : Int)
      · refine EvB.pos h3 (EvB.pos (by omega) ?_)
        by_cases h5 : rd (rd_L1 d (i : Int)) (i : Int) = 0
        · refine EvB.step (fun k => by rw [spec_BookOk.j2]) ?_
          refine EvB.neg (by rw [h5]; decide) ?_
          refine (sb_l1 c d i (by omega) (by omega) (by omega) (ih (i + 1) (by omega) (by omega)) _ 0 rfl (by omega)).congr ?_
          constructor
          · intro h i' h6 h7
            by_cases e' : i' = i
            · subst e'; exact ⟨h1.1, h1.2, by omega, h5, fun j hj => h.1 j (by omega) (by omega)⟩
            · exact h.2 i' (by omega) h7
          · intro h
            have hr := h i (Nat.le_refl _) hlt
            exact ⟨fun j' _ h7 => hr.2.2.2.2 j' (by omega), fun i' h6 h7 => h i' (by omega) h7⟩
        · have hb : (rd (rd_L1 d (i : Int)) (i : Int) != 0) = true := bne_iff_ne.mpr h5
          rw [hb]
          exact bad _ (fun p h => p h.2.2.2.1) h5
      · exact EvB.neg h3 (bad _ (fun p h => p (by rw [h.2.2.1])) h3)
    · exact EvB.neg (by simpa using h1) (bad _ (fun p h => p ⟨h.1, h.2.1⟩) h1)
theorem bookOk (c : List Int) (d : List (List Int)) : EvB (fun k => spec_BookOk.f k c d) (BookP c d) := by
  unfold spec_BookOk.f
  refine EvB.bind0 (sIn _ _ _) ?_
  by_cases h1 : 1 ≤ (c.length : Int) ∧ (c.length : Int) ≤ 4
  · refine EvB.pos (decide_eq_true h1) (EvB.step (fun k => by rw [spec_BookOk.j0]) ?_)
    by_cases h3 : d.length = c.length
    · refine EvB.neg (by rw [h3]; simp) ?_
      refine (sb_l0 c d (by omega) h3 _ 0 rfl (by omega)).congr ⟨fun h => ⟨by omega, by omega, h3, fun i hi => h i (by omega) hi⟩, fun h i _ hi => h.2.2.2 i hi⟩
    · exact EvB.pos (bne_iff_ne.mpr (by omega)) (EvB.ff (fun h => h3 h.2.2.1))
  · refine EvB.neg (by simpa using h1) (EvB.step (fun k => by rw [spec_BookOk.j0]) ?_)
    exact EvB.pos rfl (EvB.ff (fun h => h1 ⟨by have := h.1; omega, by have := h.2.1; omega⟩))
end Go.Proofs.Ytfooakkhkehpiaa.Bk
namespace Go.Proofs.Ytfooakkhkehpiaa.Dk
open Go.RowKit Go.Proofs.Ytfooakkhkehpiaa.PU Go.Proofs.Ytfooakkhkehpiaa.Qh Go.Proofs.Ytfooakkhkehpiaa.Bk Go.Proofs.YtfooakkhkehpiaaW.PrintWords Go.Proofs.YtfooakkhkehpiaaW.PrintMore
set_option linter.unusedVariables false
set_option linter.unusedSimpArgs false
abbrev B := S25
def OkB (n : Nat) (x : B) : Prop := BookP x.f0 x.f1 ∧ x.f0.length = n
def DeskP (c : List Int) (d : List (List Int)) (ps : List B) : Prop := BookP c d ∧ ps.length ≤ 8 ∧ ∀ x ∈ ps, OkB c.length x
theorem bad (n : Nat) : ∀ (l : List B) (i : Nat), ∃ q : Int, (q ≥ 0 ↔ ¬ ∀ x ∈ l, OkB n x) ∧ Ev (fun k => impl_isDesk.bad k (n : Int) l i) q
  | [], i => ⟨-1, by simp, Ev.now _⟩
  | x :: r, i => by
    obtain ⟨b, hb, e⟩ := isBook x.f0 x.f1
    by_cases h1 : BookP x.f0 x.f1
    · by_cases h2 : x.f0.length = n
      · obtain ⟨q, hq, eq⟩ := bad n r (i + 1)
        refine ⟨q, hq.trans ⟨fun z w => z (fun y hy => w y (List.mem_cons_of_mem _ hy)), fun z w => z (fun y hy => ?_)⟩, ?_⟩
        · rcases List.mem_cons.mp hy with rfl | h
          · exact ⟨h1, h2⟩
          · exact w y h
        · show Ev (fun k => (impl_isBook.f k x.f0 x.f1).bind fun t => if t = true then (if (x.f0.length : Int) = (n : Int) then impl_isDesk.bad k (n : Int) r (i + 1) else some (i : Int)) else some (i : Int)) q
          exact Ev.bind e (evPos (hb.2 h1) (evPos (by omega) eq))
      · refine ⟨(i : Int), ⟨fun _ w => h2 (w x (List.mem_cons_self)).2, fun _ => by omega⟩, ?_⟩
        show Ev (fun k => (impl_isBook.f k x.f0 x.f1).bind fun t => if t = true then (if (x.f0.length : Int) = (n : Int) then impl_isDesk.bad k (n : Int) r (i + 1) else some (i : Int)) else some (i : Int)) (i : Int)
        exact Ev.bind e (evPos (hb.2 h1) (evNeg (by omega) (Ev.now _)))
    · refine ⟨(i : Int), ⟨fun _ w => h1 (w x (List.mem_cons_self)).1, fun _ => by omega⟩, ?_⟩
      show Ev (fun k => (impl_isBook.f k x.f0 x.f1).bind fun t => if t = true then (if (x.f0.length : Int) = (n : Int) then impl_isDesk.bad k (n : Int) r (i + 1) else some (i : Int)) else some (i : Int)) (i : Int)
      exact Ev.bind e (evNeg (fun z => h1 (hb.1 z)) (Ev.now _))
theorem isDesk (c : List Int) (d : List (List Int)) (ps : List B) : EvB (fun k => impl_isDesk.f k c d ps) (DeskP c d ps) := by
  unfold impl_isDesk.f
  obtain ⟨b, hb, e⟩ := isBook c d
  refine EvB.bind e ?_
  by_cases h : BookP c d
  · refine EvB.pos (hb.2 h) ?_
    by_cases h8 : (ps.length : Int) ≤ 8
    · refine EvB.pos h8 ?_
      obtain ⟨q, hq, eq⟩ := bad c.length ps 0
      refine EvB.bind eq ⟨_, ?_, Ev.now _⟩
      constructor
      · intro z
        have z2 : ¬ q ≥ 0 := by simpa using z
        exact ⟨h, by omega, Classical.byContradiction (fun w => z2 (hq.2 w))⟩
      · intro z
        have : ¬ q ≥ 0 := fun w => hq.1 w z.2.2
        simpa using this
    · exact EvB.neg h8 (EvB.ff (fun z => h8 (by have := z.2.1; omega)))
  · exact EvB.neg (fun z => h (hb.1 z)) (EvB.ff (fun z => h z.1))
theorem rT (xs : List B) (i : Nat) : rd_T25 xs (i : Int) = xs.getD i z25 := rfl
theorem sd_l0 (c : List Int) (d : List (List Int)) (ps : List B) (hp : ps.length ≤ 4611686018427387904) : ∀ (e i : Nat), ps.length - i = e → i ≤ ps.length →
    EvB (fun k => spec_DeskOk.l0 k (i : Int) c d ps) ((∀ j : Nat, i ≤ j → j < ps.length → OkB c.length (rd_T25 ps (j : Int))) ∧ BookP c d ∧ ps.length ≤ 8) := by
  intro e
  induction e with
  | zero =>
    intro i he hi
    refine EvB.step (fun k => by rw [spec_DeskOk.l0]) ?_
    refine EvB.neg (by omega) ?_
    obtain ⟨b, hb, eb⟩ := bookOk c d
    refine EvB.bind eb ?_
    by_cases h : BookP c d
    · refine EvB.pos (hb.2 h) ⟨_, ?_, Ev.now _⟩
      constructor
      · intro z
        have := of_decide_eq_true z
        exact ⟨fun j h1 h2 => by omega, h, by omega⟩
      · intro z
        exact decide_eq_true (by have := z.2.2; omega)
    · exact EvB.neg (fun z => h (hb.1 z)) (EvB.ff (fun z => h z.2.1))
  | succ e ih =>
    intro i he hi
    have hlt : i < ps.length := by omega
    have hs : wrap64 ((i : Int) + 1) = ((i + 1 : Nat) : Int) := wsucc hlt hp
    refine EvB.step (fun k => by rw [spec_DeskOk.l0]) ?_
    refine EvB.pos (by omega) (EvB.pos (by omega) ?_)
    obtain ⟨b, hb, eb⟩ := bookOk (rd_T25 ps (i : Int)).f0 (rd_T25 ps (i : Int)).f1
    refine EvB.bind eb ?_
    by_cases h : BookP (rd_T25 ps (i : Int)).f0 (rd_T25 ps (i : Int)).f1
    · refine EvB.pos (hb.2 h) ?_
      by_cases h2 : (rd_T25 ps (i : Int)).f0.length = c.length
      · refine EvB.pos (by omega) ?_
        rw [hs]
        refine (ih (i + 1) (by omega) (by omega)).congr ⟨fun z => ⟨fun j h5 h6 => ?_, z.2⟩, fun z => ⟨fun j h5 h6 => z.1 j (by omega) h6, z.2⟩⟩
        by_cases e' : j = i
        · subst e'; exact ⟨h, h2⟩
        · exact z.1 j (by omega) h6
      · exact EvB.neg (by omega) (EvB.ff (fun z => h2 (z.1 i (Nat.le_refl _) hlt).2))
    · exact EvB.neg (fun z => h (hb.1 z)) (EvB.ff (fun z => h (z.1 i (Nat.le_refl _) hlt).1))
theorem deskOk (c : List Int) (d : List (List Int)) (ps : List B) (hp : ps.length ≤ 4611686018427387904) : EvB (fun k => spec_DeskOk.f k c d ps) (DeskP c d ps) := by
  unfold spec_DeskOk.f
  refine (sd_l0 c d ps hp ps.length 0 rfl (by omega)).congr ⟨fun z => ⟨z.2.1, z.2.2, fun x hx => ?_⟩, fun z => ⟨fun j _ h2 => z.2.2 _ ?_, z.1, z.2.1⟩⟩
  · obtain ⟨i, hi, rfl⟩ := List.mem_iff_getElem.mp hx
    have := z.1 i (by omega) hi
    rwa [rT, List.getD_eq_getElem?_getD, List.getElem?_eq_getElem hi] at this
  · rw [rT]; exact getD_mem _ ps j h2
end Go.Proofs.Ytfooakkhkehpiaa.Dk
namespace Go.Proofs.Ytfooakkhkehpiaa.Ti
open Go.RowKit Go.Proofs.Ytfooakkhkehpiaa.PU Go.Proofs.Ytfooakkhkehpiaa.Qh Go.Proofs.YtfooakkhkehpiaaW.PrintWords Go.Proofs.YtfooakkhkehpiaaW.PrintMore
set_option linter.unusedVariables false
set_option linter.unusedSimpArgs false
theorem toI_l (l : List Int) (hl : l.length ≤ 1048576) : ∀ (d i : Nat) (o : List Int), l.length - i = d → i ≤ l.length → o.length = l.length → (∀ j : Nat, j < i → rd o (j : Int) = rd l (j : Int)) →
    Ev (fun k => laws_toIntS.l0 k l o (i : Int)) l := by
  intro d
  induction d with
  | zero =>
    intro i o hd hi ho hj
    obtain rfl : i = l.length := by omega
    refine Ev.step (fun k => by rw [laws_toIntS.l0]) ?_
    refine evNeg (by omega) ?_
    exact evNow (by rw [ext_rd o l ho (fun j h => hj j (by omega))])
  | succ d ih =>
    intro i o hd hi ho hj
    have hlt : i < l.length := by omega
    have hs : wrap64 ((i : Int) + 1) = ((i + 1 : Nat) : Int) := wsucc hlt (by omega)
    refine Ev.step (fun k => by rw [laws_toIntS.l0]) ?_
    refine evPos (by omega) (evPos (by omega) (evPos (by omega) ?_))
    rw [hs]
    refine ih (i + 1) _ (by omega) (by omega) (by simp [ho]) (fun j h => ?_)
    rw [rd_set _ _ _ _ (by omega) (by omega) (by omega)]
    by_cases e : (i : Int) = j
    · rw [if_pos e, e]
    · rw [if_neg e]; exact hj j (by omega)
theorem toI (l : List Int) (hl : l.length ≤ 1048576) : Ev (fun k => laws_toIntS.f k l) l := by
  unfold laws_toIntS.f
  refine evPos (by omega) (evPos (by omega) ?_)
  exact toI_l l hl l.length 0 _ (by omega) (by omega) (by simp) (fun j h => by omega)
theorem eqI_l (l : List Int) (hl : l.length ≤ 4611686018427387904) : ∀ (d i : Nat), l.length - i = d → i ≤ l.length → Ev (fun k => laws_eqIntS.l0 k l l (i : Int)) true := by
  intro d
  induction d with
  | zero =>
    intro i hd hi
    refine Ev.step (fun k => by rw [laws_eqIntS.l0]) ?_
    exact evNeg (by omega) (Ev.now _)
  | succ d ih =>
    intro i hd hi
    have hlt : i < l.length := by omega
    have hs : wrap64 ((i : Int) + 1) = ((i + 1 : Nat) : Int) := wsucc hlt (by omega)
    refine Ev.step (fun k => by rw [laws_eqIntS.l0]) ?_
    refine evPos (by omega) (evPos (by omega) (evPos (by omega) (evPos rfl ?_)))
    rw [hs]
    exact ih (i + 1) (by omega) (by omega)
theorem eqI (l : List Int) (hl : l.length ≤ 4611686018427387904) : Ev (fun k => laws_eqIntS.f k l l) true := by
  unfold laws_eqIntS.f
  exact evPos rfl (eqI_l l hl l.length 0 (by omega) (by omega))
end Go.Proofs.Ytfooakkhkehpiaa.Ti
namespace Go.Proofs.Ytfooakkhkehpiaa.Tb
open Go.RowKit Go.Proofs.Ytfooakkhkehpiaa.PU Go.Proofs.Ytfooakkhkehpiaa.Qh Go.Proofs.YtfooakkhkehpiaaW.PrintWords Go.Proofs.YtfooakkhkehpiaaW.PrintMore
set_option linter.unusedVariables false
set_option linter.unusedSimpArgs false
def Small (c : List Int) (d : List (List Int)) : Prop := c.length ≤ 1048576 ∧ d.length ≤ 1048576 ∧ ∀ i : Nat, i < d.length → (rd_L1 d (i : Int)).length ≤ 1048576
theorem rL2 (xs : List (List Int)) (i : Nat) : rd_L1 xs (i : Int) = xs.getD i [] := rfl
theorem szI (l : List Int) (hm : l.length ≤ 9223372036854775807) (a : Int) (h0 : 0 ≤ a) (h1 : a ≤ 1048576) : laws_szIntS.f l a = some (if (l.length : Int) ≤ a then a - (l.length : Int) else -1) := by
  unfold laws_szIntS.f
  rw [w64 (by omega) (by omega)]
  by_cases h : (l.length : Int) ≤ a
  · rw [if_neg (by omega), if_pos h]
  · rw [if_pos (by omega), if_neg h]
theorem szSS_l (d : List (List Int)) (hd : d.length ≤ 1048576) (hr : ∀ y ∈ d, y.length ≤ 9223372036854775807) : ∀ (e i : Nat) (a : Int), d.length - i = e → i ≤ d.length → 0 ≤ a → a ≤ 1048576 →
    (∃ t : Int, 0 ≤ t ∧ t ≤ 1048576 ∧ (∀ i' : Nat, i ≤ i' → i' < d.length → (rd_L1 d (i' : Int)).length ≤ 1048576) ∧ Ev (fun k => laws_szIntSS.l0 k d a (i : Int)) t) ∨ Ev (fun k => laws_szIntSS.l0 k d a (i : Int)) (-1) := by
  intro e
  induction e with
  | zero =>
    intro i a he hi h0 h1
    refine .inl ⟨a, h0, h1, fun i' h2 h3 => by omega, Ev.step (fun k => by rw [laws_szIntSS.l0]) (evNeg (by omega) (Ev.now _))⟩
  | succ e ih =>
    intro i a he hi h0 h1
    have hlt : i < d.length := by omega
    have hs : wrap64 ((i : Int) + 1) = ((i + 1 : Nat) : Int) := wsucc hlt (by omega)
    have hm : (rd_L1 d (i : Int)).length ≤ 9223372036854775807 := hr _ (by rw [rL2]; exact getD_mem [] d i hlt)
    by_cases h : ((rd_L1 d (i : Int)).length : Int) ≤ a
    · have hz := szI _ hm a h0 h1
      rw [if_pos h] at hz
      rcases ih (i + 1) (a - ((rd_L1 d (i : Int)).length : Int)) (by omega) (by omega) (by omega) (by omega) with ⟨t, t0, t1, t2, t3⟩ | h3
      · refine .inl ⟨t, t0, t1, fun i' h5 h6 => ?_, ?_⟩
        · by_cases e' : i' = i
          · subst e'; omega
          · exact t2 i' (by omega) h6
        · refine Ev.step (fun k => by rw [laws_szIntSS.l0]) ?_
          refine evPos (by omega) (evPos (by omega) (evBind0 hz (evNeg (by omega) ?_)))
          rw [hs]; exact t3
      · refine .inr ?_
        refine Ev.step (fun k => by rw [laws_szIntSS.l0]) ?_
        refine evPos (by omega) (evPos (by omega) (evBind0 hz (evNeg (by omega) ?_)))
        rw [hs]; exact h3
    · have hz := szI _ hm a h0 h1
      rw [if_neg h] at hz
      refine .inr ?_
      refine Ev.step (fun k => by rw [laws_szIntSS.l0]) ?_
      refine evPos (by omega) (evPos (by omega) (evBind0 hz ?_))
      exact evPos (by omega) (Ev.now _)
theorem szB (c : List Int) (d : List (List Int)) (hc : c.length ≤ 9223372036854775807) (hd : d.length ≤ 9223372036854775807) (hr : ∀ y ∈ d, y.length ≤ 9223372036854775807) (a : Int) (h0 : 0 ≤ a) (h1 : a ≤ 1048576) :
    (∃ t : Int, 0 ≤ t ∧ t ≤ 1048576 ∧ Small c d ∧ Ev (fun k => laws_szBook.f k c d a) t) ∨ Ev (fun k => laws_szBook.f k c d a) (-1) := by
  unfold laws_szBook.f
  have hz := szI c hc a h0 h1
  by_cases h : (c.length : Int) ≤ a
  · rw [if_pos h] at hz
    have hz2 := szI
    by_cases h2 : (d.length : Int) ≤ a - c.length
    · have hw : wrap64 (a - (c.length : Int) - (d.length : Int)) = a - (c.length : Int) - (d.length : Int) := w64 (by omega) (by omega)
      rcases szSS_l d (by omega) hr _ 0 (a - (c.length : Int) - (d.length : Int)) rfl (by omega) (by omega) (by omega) with ⟨t, t0, t1, t2, t3⟩ | h3
      · refine .inl ⟨t, t0, t1, ⟨by omega, by omega, fun i hi => t2 i (by omega) hi⟩, evBind0 hz (evNeg (by omega) (Ev.bind (a := t) ?_ (evNeg (by omega) (Ev.now _))))⟩
        unfold laws_szIntSS.f
        rw [hw]
        exact evNeg (by omega) t3
      · refine .inr (evBind0 hz (evNeg (by omega) (Ev.bind (a := -1) ?_ (evPos (by omega) (Ev.now _)))))
        unfold laws_szIntSS.f
        rw [hw]
        exact evNeg (by omega) h3
    · have hw : wrap64 (a - (c.length : Int) - (d.length : Int)) = a - (c.length : Int) - (d.length : Int) := w64 (by omega) (by omega)
      refine .inr (evBind0 hz (evNeg (by omega) (Ev.bind (a := -1) ?_ (evPos (by omega) (Ev.now _)))))
      unfold laws_szIntSS.f
      rw [hw]
      exact evPos (by omega) (Ev.now _)
  · rw [if_neg h] at hz
    exact .inr (evBind0 hz (evPos (by omega) (Ev.now _)))
theorem toSS_l (l : List (List Int)) (hl : l.length ≤ 1048576) (hr : ∀ i : Nat, i < l.length → (rd_L1 l (i : Int)).length ≤ 1048576) : ∀ (d i : Nat) (o : List (List Int)), l.length - i = d → i ≤ l.length → o.length = l.length → (∀ j : Nat, j < i → o.getD j [] = l.getD j []) →
    Ev (fun k => laws_toIntSS.l0 k l o (i : Int)) l := by
  intro d
  induction d with
  | zero =>
    intro i o hd hi ho hj
    refine Ev.step (fun k => by rw [laws_toIntSS.l0]) ?_
    refine evNeg (by omega) (evEq (Ev.now _) ?_)
    exact ext_getD [] _ _ ho (fun j h => hj j (by omega))
  | succ d ih =>
    intro i o hd hi ho hj
    have hlt : i < l.length := by omega
    have hs : wrap64 ((i : Int) + 1) = ((i + 1 : Nat) : Int) := wsucc hlt (by omega)
    refine Ev.step (fun k => by rw [laws_toIntSS.l0]) ?_
    refine evPos (by omega) (evPos (by omega) (Ev.bind (Ti.toI _ (hr i hlt)) ?_))
    refine evPos (by omega) ?_
    rw [hs, Int.toNat_natCast]
    refine ih (i + 1) _ (by omega) (by omega) (by rw [List.length_set]; exact ho) (fun j h => ?_)
    rw [getD_set _ _ _ _ _ (by omega)]
    by_cases e : i = j
    · subst e; rw [if_pos rfl]; rfl
    · rw [if_neg e]; exact hj j (by omega)
theorem toSS (l : List (List Int)) (hl : l.length ≤ 1048576) (hr : ∀ i : Nat, i < l.length → (rd_L1 l (i : Int)).length ≤ 1048576) : Ev (fun k => laws_toIntSS.f k l) l := by
  unfold laws_toIntSS.f
  refine evPos (by omega) (evPos (by omega) ?_)
  exact toSS_l l hl hr l.length 0 _ (by omega) (by omega) (by simp) (fun j h => by omega)
theorem toB (c : List Int) (d : List (List Int)) (h : Small c d) : Ev (fun k => laws_toBook.f k c d) (c, d) := by
  unfold laws_toBook.f
  exact Ev.bind (Ti.toI c h.1) (Ev.bind (toSS d h.2.1 h.2.2) (Ev.now _))
theorem eqSS_l (l : List (List Int)) (hl : l.length ≤ 1048576) (hr : ∀ i : Nat, i < l.length → (rd_L1 l (i : Int)).length ≤ 1048576) : ∀ (d i : Nat), l.length - i = d → i ≤ l.length → Ev (fun k => laws_eqIntSS.l0 k l l (i : Int)) true := by
  intro d
  induction d with
  | zero =>
    intro i hd hi
    exact Ev.step (fun k => by rw [laws_eqIntSS.l0]) (evNeg (by omega) (Ev.now _))
  | succ d ih =>
    intro i hd hi
    have hlt : i < l.length := by omega
    have hs : wrap64 ((i : Int) + 1) = ((i + 1 : Nat) : Int) := wsucc hlt (by omega)
    refine Ev.step (fun k => by rw [laws_eqIntSS.l0]) ?_
    refine evPos (by omega) (evPos (by omega) (evPos (by omega) (Ev.bind (Ti.eqI _ (by have := hr i hlt; omega)) ?_)))
    refine evPos rfl ?_
    rw [hs]
    exact ih (i + 1) (by omega) (by omega)
theorem eqB (c : List Int) (d : List (List Int)) (h : Small c d) : Ev (fun k => laws_eqBook.f k c d c d) true := by
  unfold laws_eqBook.f
  refine Ev.bind (Ti.eqI c (by have := h.1; omega)) (evPos rfl (Ev.bind (a := true) ?_ (evPos rfl (Ev.now _))))
  unfold laws_eqIntSS.f
  exact evPos rfl (eqSS_l d h.2.1 h.2.2 d.length 0 (by omega) (by omega))
end Go.Proofs.Ytfooakkhkehpiaa.Tb
namespace Go.Proofs.Ytfooakkhkehpiaa.Dt
open Go.RowKit Go.Proofs.Ytfooakkhkehpiaa.PU Go.Proofs.Ytfooakkhkehpiaa.Qh Go.Proofs.Ytfooakkhkehpiaa.Tb Go.Proofs.YtfooakkhkehpiaaW.PrintWords Go.Proofs.YtfooakkhkehpiaaW.PrintMore
set_option linter.unusedVariables false
set_option linter.unusedSimpArgs false
abbrev B := S25
abbrev L := S40
def cv (x : L) : B := ⟨x.f0, x.f1⟩
theorem rB (xs : List B) (i : Nat) : rd_T25 xs (i : Int) = xs.getD i z25 := rfl
def SmallS (l : List L) : Prop := l.length ≤ 1048576 ∧ ∀ i : Nat, i < l.length → Small (rd_T40 l (i : Int)).f0 (rd_T40 l (i : Int)).f1
def Fit (x : L) : Prop := x.f0.length ≤ 9223372036854775807 ∧ x.f1.length ≤ 9223372036854775807 ∧ ∀ y ∈ x.f1, y.length ≤ 9223372036854775807
theorem sz_l (l : List L) (hl : l.length ≤ 1048576) (hf : ∀ x ∈ l, Fit x) : ∀ (e i : Nat) (a : Int), l.length - i = e → i ≤ l.length → 0 ≤ a → a ≤ 1048576 →
    (∃ t : Int, 0 ≤ t ∧ t ≤ 1048576 ∧ (∀ j : Nat, i ≤ j → j < l.length → Small (rd_T40 l (j : Int)).f0 (rd_T40 l (j : Int)).f1) ∧ Ev (fun k => laws_szBookS.l0 k l a (i : Int)) t) ∨ Ev (fun k => laws_szBookS.l0 k l a (i : Int)) (-1) := by
  intro e
  induction e with
  | zero =>
    intro i a he hi h0 h1
    left
    refine ⟨a, h0, h1, fun j h2 h3 => by omega, Ev.step (fun k => by rw [laws_szBookS.l0]) ?_⟩
    exact evNeg (by omega) (Ev.now _)
  | succ e ih =>
    intro i a he hi h0 h1
    have hlt : i < l.length := by omega
    have hs : Aside0 (wrap64 ((i : Int) + 1) = ((i + 1 : Nat) : Int)) := ⟨wsucc hlt (by omega)⟩
    have hx := hf _ (getD_mem z40 l i hlt)
    rcases szB (rd_T40 l (i : Int)).f0 (rd_T40 l (i : Int)).f1 hx.1 hx.2.1 hx.2.2 a h0 h1 with ⟨t, t0, t1, sm, ht⟩ | ht
    · rcases ih (i + 1) t (by omega) (by omega) t0 t1 with ⟨q, q0, q1, q2, q3⟩ | q3
      · left
        refine ⟨q, q0, q1, fun j h2 h3 => ?_, Ev.step (fun k => by rw [laws_szBookS.l0]) ?_⟩
        · by_cases e' : j = i
          · subst e'; exact sm
          · exact q2 j (by omega) h3
        · rw [hs.out]; exact evPos (by omega) (evPos (by omega) (Ev.bind ht (evNeg (by omega) q3)))
      · right
        refine Ev.step (fun k => by rw [laws_szBookS.l0]) ?_
        rw [hs.out]; exact evPos (by omega) (evPos (by omega) (Ev.bind ht (evNeg (by omega) q3)))
    · right
      refine Ev.step (fun k => by rw [laws_szBookS.l0]) ?_
      exact evPos (by omega) (evPos (by omega) (Ev.bind ht (evPos (by omega) (Ev.now _))))
theorem sz (l : List L) (hl : l.length ≤ 9223372036854775807) (hf : ∀ x ∈ l, Fit x) (a : Int) (h0 : 0 ≤ a) (h1 : a ≤ 1048576) :
    (∃ t : Int, 0 ≤ t ∧ t ≤ 1048576 ∧ SmallS l ∧ Ev (fun k => laws_szBookS.f k l a) t) ∨ Ev (fun k => laws_szBookS.f k l a) (-1) := by
  have hw : wrap64 (a - (l.length : Int)) = a - (l.length : Int) := w64 (by omega) (by omega)
  unfold laws_szBookS.f
  rw [hw]
  by_cases h : a - (l.length : Int) < 0
  · exact .inr (evPos h (Ev.now _))
  · rcases sz_l l (by omega) hf l.length 0 (a - (l.length : Int)) rfl (by omega) (by omega) (by omega) with ⟨t, t0, t1, t2, t3⟩ | t3
    · exact .inl ⟨t, t0, t1, ⟨by omega, fun i hi => t2 i (by omega) hi⟩, evNeg h t3⟩
    · exact .inr (evNeg h t3)
theorem to_l (l : List L) (hs : SmallS l) : ∀ (e i : Nat) (o : List B), l.length - i = e → i ≤ l.length → o.length = l.length → (∀ j : Nat, j < i → o.getD j z25 = cv (l.getD j z40)) →
    Ev (fun k => laws_toBookS.l0 k l o (i : Int)) (l.map cv) := by
  have hl := hs.1
  intro d
  induction d with
  | zero =>
    intro i o hd hi ho hj
    obtain rfl : i = l.length := by omega
    refine Ev.step (fun k => by rw [laws_toBookS.l0]) ?_
    refine evNeg (by omega) ?_
    refine evNow ?_
    rw [ext_getD z25 o (l.map cv) (by simp [ho]) (fun j h => by rw [hj j (by omega), getD_map cv z40 _ l j (by omega)])]
  | succ d ih =>
    intro i o hd hi ho hj
    have hlt : i < l.length := by omega
    have hw : wrap64 ((i : Int) + 1) = ((i + 1 : Nat) : Int) := wsucc hlt (by omega)
    refine Ev.step (fun k => by rw [laws_toBookS.l0]) ?_
    refine evPos (by omega) (evPos (by omega) (Ev.bind (toB _ _ (hs.2 i hlt)) (evPos (by omega) ?_)))
    rw [hw, Int.toNat_natCast]
    refine ih (i + 1) _ (by omega) (by omega) (by simp [ho]) (fun j h => ?_)
    rw [getD_set _ _ _ _ _ (by omega)]
    by_cases e : i = j
    · subst e; rw [if_pos rfl]; rfl
    · rw [if_neg e]; exact hj j (by omega)
theorem to_ (l : List L) (hs : SmallS l) : Ev (fun k => laws_toBookS.f k l) (l.map cv) := by
  have hl := hs.1
  unfold laws_toBookS.f
  refine evPos (by omega) (evPos (by omega) ?_)
  exact to_l l hs l.length 0 _ (by omega) (by omega) (by simp) (fun j h => by omega)
theorem eq_l (l : List B) (hl : l.length ≤ 1048576) (hs : ∀ i : Nat, i < l.length → Small (rd_T25 l (i : Int)).f0 (rd_T25 l (i : Int)).f1) : ∀ (e i : Nat), l.length - i = e → i ≤ l.length → Ev (fun k => laws_eqBookS.l0 k l l (i : Int)) true := by
  intro e
  induction e with
  | zero =>
    intro i he hi
    refine Ev.step (fun k => by rw [laws_eqBookS.l0]) ?_
    exact evNeg (by omega) (Ev.now _)
  | succ e ih =>
    intro i he hi
    have hlt : i < l.length := by omega
    have hw : wrap64 ((i : Int) + 1) = ((i + 1 : Nat) : Int) := wsucc hlt (by omega)
    refine Ev.step (fun k => by rw [laws_eqBookS.l0]) ?_
    refine evPos (by omega) (evPos (by omega) (evPos (by omega) (Ev.bind (eqB _ _ (hs i hlt)) (evPos rfl ?_))))
    rw [hw]
    exact ih (i + 1) (by omega) (by omega)
theorem eq_ (l : List L) (hs : SmallS l) : Ev (fun k => laws_eqBookS.f k (l.map cv) (l.map cv)) true := by
  have hm : (l.map cv).length = l.length := List.length_map _
  unfold laws_eqBookS.f
  refine evPos rfl (eq_l _ (by rw [hm]; exact hs.1) (fun i hi => ?_) _ 0 rfl (by omega))
  rw [hm] at hi
  have := hs.2 i hi
  rw [rB, getD_map cv z40 _ l i hi]
  exact this
end Go.Proofs.Ytfooakkhkehpiaa.Dt
namespace Go.Proofs.Ytfooakkhkehpiaa.Edo
open Go.RowKit Go.Proofs.Ytfooakkhkehpiaa.PU Go.Proofs.Ytfooakkhkehpiaa.Qh Go.Proofs.YtfooakkhkehpiaaW.PrintWords Go.Proofs.YtfooakkhkehpiaaW.PrintMore
set_option linter.unusedVariables false
set_option linter.unusedSimpArgs false
theorem holds (c : List Int) (d : List (List Int)) (ps : List Dt.L) (hc : c.length ≤ maxLen) (hd : d.length ≤ maxLen) (hr : ∀ y ∈ d, y.length ≤ maxLen) (hp : ps.length ≤ maxLen) (hf : ∀ x ∈ ps, x.f0.length ≤ maxLen ∧ x.f1.length ≤ maxLen ∧ ∀ y ∈ x.f1, y.length ≤ maxLen) : ∃ k, laws_FnExactDeskOk.f k c d ps = some true := by
  refine Ev.rounds (g := fun k => laws_FnExactDeskOk.f k c d ps) ?_
  unfold laws_FnExactDeskOk.f laws_szDesk.f
  unfold maxLen at hc hd hr hp hf
  have fin : ∀ t : Int, t < 0 → ∀ g : Nat → Option Bool, Ev (fun k => if t < 0 then (some true) else g k) true := fun t ht g => evPos ht (Ev.now _)
  rcases Tb.szB c d (by omega) (by omega) (fun y hy => by have := hr y hy; omega) 1048576 (by omega) (by omega) with ⟨t, t0, t1, hs, ht⟩ | ht
  case inr => exact Ev.bind (a := -1) (Ev.bind ht (evPos (by omega) (Ev.now _))) (evPos (by omega) (Ev.now _))
  rcases Dt.sz ps (by omega) (fun x hx => by have := hf x hx; exact ⟨by omega, by omega, fun y hy => by have := this.2.2 y hy; omega⟩) t t0 t1 with ⟨q, q0, q1, hss, hq⟩ | hq
  case inr => exact Ev.bind (a := -1) (Ev.bind ht (evNeg (by omega) (Ev.bind hq (evPos (by omega) (Ev.now _))))) (evPos (by omega) (Ev.now _))
  refine Ev.bind (a := q) (Ev.bind ht (evNeg (by omega) (Ev.bind hq (evNeg (by omega) (Ev.now _))))) (evNeg (by omega) ?_)
  have hto : Ev (fun k => laws_toDesk.f k c d ps) (c, d, ps.map Dt.cv) := by
    unfold laws_toDesk.f
    exact Ev.bind (Tb.toB c d hs) (Ev.bind (Dt.to_ ps hss) (Ev.now _))
  have hm : (ps.map Dt.cv).length = ps.length := List.length_map _
  have hl := hss.1
  obtain ⟨b1, hb1, e1⟩ := Dk.deskOk c d (ps.map Dt.cv) (by omega)
  obtain ⟨b2, hb2, e2⟩ := Dk.isDesk c d (ps.map Dt.cv)
  have hbb : b2 = b1 := Bool.eq_iff_iff.mpr (hb2.trans hb1.symm)
  subst hbb
  have e3 : Ev (fun k => impl_DeskOk.f k c d (ps.map Dt.cv)) b2 := by
    unfold impl_DeskOk.f
    exact Ev.bind e2 (Ev.now _)
  refine Ev.bind hto (Ev.bind e1 (Ev.bind hto (Ev.bind e3 ?_)))
  refine evF (bne_self_eq_false _) (Ev.bind hto ?_)
  have he : Ev (fun k => laws_eqDesk.f k c d (ps.map Dt.cv) c d (ps.map Dt.cv)) true := by
    unfold laws_eqDesk.f
    exact Ev.bind (Tb.eqB c d hs) (evPos rfl (Ev.bind (Dt.eq_ ps hss) (evPos rfl (Ev.now _))))
  exact Ev.bind he (evPos rfl (Ev.now _))
end Go.Proofs.Ytfooakkhkehpiaa.Edo
namespace Go.Proofs.Ytfooakkhkehpiaa.fnExactDeskOk
open Go.ChangeShapes Go.WideShapes Go.ChangeAt Go.RowKit Go.Proofs.Ytfooakkhkehpiaa.PU Go.Proofs.YtfooakkhkehpiaaW.PrintWords
open Go.ChangeMaps (open_string shut_string)
set_option linter.unusedVariables false
set_option linter.unusedSimpArgs false
theorem own : ownKnob Try.prog.godebug = none := by kernel_rfl
theorem laidOut : laidOutB Try.prog = true := by kernel_rfl
abbrev G3 (_ : Int) : Prop := True
theorem o3 : Op.Opens Try.prog 3 (Kd.int .i64) G3 := Op.opens_int Try.underlying3 (by kernel_rfl)
abbrev G22 (x : List Int) : Prop := x.length ≤ maxLen ∧ ∀ y ∈ x, G3 y
theorem o22 : Op.Opens Try.prog 22 (Kd.slice 3 (Kd.int .i64)) G22 := Op.opens_slice Try.underlying22 (by kernel_rfl) o3
abbrev G23 (x : List (List Int)) : Prop := x.length ≤ maxLen ∧ ∀ y ∈ x, G22 y
theorem o23 : Op.Opens Try.prog 23 (Kd.slice 22 (Kd.slice 3 (Kd.int .i64))) G23 := Op.opens_slice Try.underlying23 (by kernel_rfl) o22
abbrev G40 (x : S40) : Prop := G22 x.f0 ∧ G23 x.f1
theorem o40 : Op.Opens Try.prog 40 k40 G40 := Op.opens_iso (Op.opens_struct Try.underlying40 (by kernel_rfl) (Op.opensF_cons rfl o22 (Op.opensF_one rfl o23))) (fun x : S40 => (x.f0, x.f1)) (fun z => (⟨z.1, z.2⟩ : S40)) (fun _ => rfl)
abbrev G41 (x : List S40) : Prop := x.length ≤ maxLen ∧ ∀ y ∈ x, G40 y
theorem o41 : Op.Opens Try.prog 41 (Kd.slice 40 k40) G41 := Op.opens_slice Try.underlying41 (by kernel_rfl) o40
abbrev G43 (x : S40 × (List S40)) : Prop := G40 x.1 ∧ G41 x.2
theorem o43 : Op.Opens Try.prog 43 (Kd.pair k40 (Kd.slice 40 k40)) G43 := Op.opens_struct Try.underlying43 (by kernel_rfl) (Op.opensF_cons rfl o40 (Op.opensF_one rfl o41))
set_option maxRecDepth 100000 in
theorem lifted (os : Os) (started : os.Started) (H : Type) (enc : TypeId × Value → H) :
    ReturnsInHanded {} Try.checked os 5 .any (Rows.fnExactDeskOkSpec.pre6 enc Try.prog Try.f5 Rows.fnExactDeskOkRow.domain false) (Rows.fnExactDeskOkSpec.post enc Try.prog Try.f5 false true false false) := by
  refine returnsInHanded_of_change_sized (C := Try.checked) own started (by kernel_rfl) Try.func5
    (ChangeSpec.witness6 (enc := enc) (C := Try.checked) false ⟨#[], #[.agg #[.slice none 0 0, .slice none 0 0, .slice none 0 0]], []⟩ 8 (by kernel_rfl) (by kernel_rfl) (by kernel_rfl) (by kernel_rfl)) ?_
  intro W base args ds gs before hval0 hW _ _ _
  have hval : ∀ (j : Nat) t v, Try.f5.params[j]? = some t → args[j]? = some v → Value.okWide Try.prog W .any base t v := hval0
  have hW' := hW
  obtain ⟨p, q, hA0, hV, rfl, _, _⟩ := hW
  have hA : DataW.TrodAll enc Try.prog W 0 (fun _ => true) true Try.f5.params.toList args.toList ds p := hA0
  rw [Try.params5] at hA hval
  obtain ⟨v0, vs0, d0, ds0, p0, q0, hargs, rfl, rfl, h0, r0⟩ := trodAll_cons hA
  obtain ⟨rfl, rfl, rfl⟩ := trodAll_nil r0
  obtain rfl : args = #[v0] := by cases args; simp_all
  obtain ⟨rfl, rfl⟩ := trodVars_none hV
  have k0 := h0
  have lt0 : ∀ x ∈ p0, x.block < W.heap.size := by obtain ⟨m, hm⟩ := k0; exact DataW.trod_lt m _ _ _ hm
  obtain ⟨cs0, x0, rfl, hK0, g0⟩ := Op.open_agg o43 (okWide_struct Try.underlying43 (hval 0 43 v0 rfl rfl)) h0
  obtain ⟨ca0_0, cb0_0, e0_0, hK0_0, hR0_0⟩ := hK0
  obtain ⟨ca0_0_0, cb0_0_0, e0_0_0, hK0_0_0, hR0_0_0⟩ := hK0_0
  obtain ⟨A0_0_0, c0_0_0, e20_0_0, hc0_0_0, hr0_0_0⟩ := hK0_0_0
  obtain ⟨A0_0_1, c0_0_1, e20_0_1, hc0_0_1, hr0_0_1⟩ := hR0_0_0
  obtain ⟨A0_1, c0_1, e20_1, hc0_1, hr0_1⟩ := hR0_0
  obtain rfl : cs0 = #[.slice A0_0_0 x0.1.f0.length c0_0_0, .slice A0_0_1 x0.1.f1.length c0_0_1, .slice A0_1 x0.2.length c0_1] := by apply Array.toList_inj.1; simp only [List.singleton_append, List.cons_append, List.nil_append] at *; first | assumption | (simp_all; done)
  obtain ⟨k, hk⟩ := Edo.holds x0.1.f0 x0.1.f1 x0.2 g0.1.1.1 g0.1.2.1 (fun y hy => (g0.1.2.2 y hy).1) g0.2.1 (fun x hx => ⟨(g0.2.2 x hx).1.1, (g0.2.2 x hx).2.1, fun y hy => ((g0.2.2 x hx).2.2 y hy).1⟩)
  refine (laws_FnExactDeskOk.calls k A0_0_0 c0_0_0 x0.1.f0 A0_0_1 c0_0_1 x0.1.f1 A0_1 c0_1 x0.2 true W hr0_0_0 hc0_0_0 hr0_0_1 hc0_0_1 hr0_1 hc0_1 hk).mono fun e W' ⟨he, bel⟩ => ?_
  subst he
  exact ⟨_, rfl, _, _, _, [], _, [], hW', trodAll_mk1 (shut_bool Try.underlying4 _), (trodAll_cons_mk (Below.trod laidOut (by kernel_rfl) (of_decide_eq_true (by kernel_rfl)) k0 bel lt0) trodAll_mk0), rfl, bel.frame _, fun h => by cases h⟩
theorem over : Rows.fnExactDeskOkRow.holds Try.pinned (OpenSpec.ofChange Rows.fnExactDeskOkSpec) :=
  OpenClaim.holds_of_wide 5 Try.f5 rfl rfl rfl rfl rfl rfl rfl ⟨rfl, rfl, rfl, rfl, rfl⟩ rfl rfl rfl rfl rfl (by kernel_rfl) Try.func5 (by kernel_rfl)
    (of_decide_eq_true (by kernel_rfl)) (by unfold Func.isWrapper; first | (rw [if_pos (by decide +kernel)]; kernel_rfl) | (rw [if_neg (by decide +kernel)]; exact ⟨rfl, rfl⟩))
    (fun os started H enc _ => lifted os started H enc)
theorem proved : Rows.FnExactDeskOkSaid := over
end Go.Proofs.Ytfooakkhkehpiaa.fnExactDeskOk
namespace Go.Proofs.Ytfooakkhkehpiaa
theorem fnExactDeskOk_holds : Rows.FnExactDeskOkSaid := fnExactDeskOk.proved
end Go.Proofs.Ytfooakkhkehpiaa
