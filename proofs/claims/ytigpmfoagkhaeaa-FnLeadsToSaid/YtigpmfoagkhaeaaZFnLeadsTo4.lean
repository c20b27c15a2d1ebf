/- FnLeadsTo: for every input the law holds. No condition. -/
import Derived.Test.YtigpmfoagkhaeaaZFnLeadsTo1
import Derived.Test.YtigpmfoagkhaeaaZFnLeadsTo2
import Derived.Test.YtigpmfoagkhaeaaZFnLeadsTo3
namespace Go.Proofs.Ytigpmfoagkhaeaa.PU
open Go.RowKit Go.Proofs.YtigpmfoagkhaeaaW.PrintWords Go.Proofs.YtigpmfoagkhaeaaW.PrintLast Go.Proofs.YtigpmfoagkhaeaaW.PrintMore Go.Proofs.Ytigpmfoagkhaeaa.Qd
attribute [local go_sem] max2_int min2_int max_two min_two max_three min_three max_four min_four
set_option linter.unusedVariables false
set_option linter.unusedSimpArgs false
mutual
def impl_gets.l0 : Nat → List (S36) → List Int → List (S36) → List Int → Int → Int → List Int → List (List Int) → Option ((List (S36)) × Bool)
 | 0, _, _, _, _, _, _, _, _ => none
 | k + 1, x1, x6, x7, x23, x24, x25, x266000, x266001 => if x25 < x24 then (if 0 ≤ x25 then (if x25 < (x23.length : Int) then ((impl_whole.f (rd x23 x25)).bind fun bt273 => (impl_gets.l1 k x1 x6 x7 x25 x23 x24 x25 x266001 (x266001.length : Int) 0 x266000 x266001 bt273.1 bt273.2)) else (none)) else (none)) else (some (x7, true))
def impl_gets.l1 : Nat → List (S36) → List Int → List (S36) → Int → List Int → Int → Int → List (List Int) → Int → Int → List Int → List (List Int) → Int → Int → Option ((List (S36)) × Bool)
 | 0, _, _, _, _, _, _, _, _, _, _, _, _, _, _ => none
 | k + 1, x1, x6, x7, x8, x23, x24, x25, x33, x34, x35, x266000, x266001, x276000, x276001 => if x35 < x34 then (if 0 ≤ x35 then (if x35 < (x33.length : Int) then (if x35 = x8 then (impl_gets.j2 k x1 x6 x7 x8 x35 (rd_L2 x33 x35) x23 x24 x25 x33 x34 x35 true x266000 x266001 x276000 x276001) else (if x35 < (x6.length : Int) then (impl_gets.j2 k x1 x6 x7 x8 x35 (rd_L2 x33 x35) x23 x24 x25 x33 x34 x35 ((rd x6 x35) == 0) x266000 x266001 x276000 x276001) else (none))) else (none)) else (none)) else (if x7.length < 8796093022208 then (impl_gets.l0 k x1 x6 (x7 ++ [(⟨x276000, x276001⟩ : S36)]) x23 x24 (wrap64 (x25 + 1)) x266000 x266001) else (none))
def impl_gets.j2 : Nat → List (S36) → List Int → List (S36) → Int → Int → List Int → List Int → Int → Int → List (List Int) → Int → Int → Bool → List Int → List (List Int) → Int → Int → Option ((List (S36)) × Bool)
 | 0, _, _, _, _, _, _, _, _, _, _, _, _, _, _, _, _, _ => none
 | k + 1, x1, x6, x7, x8, x11, x12, x23, x24, x25, x33, x34, x35, x49, x266000, x266001, x276000, x276001 => if x49 = true then (impl_gets.l1 k x1 x6 x7 x8 x23 x24 x25 x33 x34 (wrap64 (x35 + 1)) x266000 x266001 x276000 x276001) else (if 0 ≤ x8 then (if x8 < (x12.length : Int) then (if 0 ≤ x11 then (if x11 < (x6.length : Int) then ((impl_lowest.f k (rd x12 x8) (rd x6 x11)).bind fun bt283 => (if x11 < (x1.length : Int) then ((impl_times.f k ((rd_T36 x1 x11).f0) ((rd_T36 x1 x11).f1) bt283.1 bt283.2.1).bind fun bt288 => ((impl_plus.f k x276000 x276001 bt288.1 bt288.2.1).bind fun bt292 => (if bt288.2.2 = true then (if bt292.2.2 = true then (impl_gets.l1 k x1 x6 x7 x8 x23 x24 x25 x33 x34 (wrap64 (x35 + 1)) x266000 x266001 bt292.1 bt292.2.1) else (some (([] : List (S36)), false))) else (some (([] : List (S36)), false))))) else (none))) else (none)) else (none)) else (none)) else (none))
end
def impl_gets.f (k : Nat) (l0_0 : List Int) (l0_1 : List (List Int)) (l1 : List (S36)) : Option ((List (S36)) × Bool) := (impl_owes.f k l0_0 l0_1).bind fun t266 => (impl_gets.l0 k l1 t266 (([] : List (S36))) l0_0 (l0_0.length : Int) 0 l0_0 l0_1)
theorem impl_gets.mq {p : Prop} (h : p := by
 repeat' first
 | (with_reducible exact ih0 _ _ _ _ _ _ _ _)
 | (with_reducible exact ih1 _ _ _ _ _ _ _ _ _ _ _ _ _ _)
 | (with_reducible exact ih2 _ _ _ _ _ _ _ _ _ _ _ _ _ _ _ _ _)
 | (with_reducible exact impl_lowest.mono _ _ _)
 | (with_reducible exact impl_owes.mono _ _ _)
 | (with_reducible exact impl_plus.mono _ _ _ _ _)
 | (with_reducible exact impl_times.mono _ _ _ _ _)
 | (with_reducible exact LeO.refl _)
 | (with_reducible exact LeO.none _)
 | (with_reducible refine LeO.ite ?_ ?_)
 | (with_reducible refine LeO.bind ?_ (fun _ => ?_))
 | exact ih0 _ _ _ _ _ _ _ _
 | exact ih1 _ _ _ _ _ _ _ _ _ _ _ _ _ _
 | exact ih2 _ _ _ _ _ _ _ _ _ _ _ _ _ _ _ _ _
 | exact impl_lowest.mono _ _ _
 | exact impl_owes.mono _ _ _
 | exact impl_plus.mono _ _ _ _ _
 | exact impl_times.mono _ _ _ _ _
 | exact LeO.none _
 | refine LeO.ite ?_ ?_
 | refine LeO.bind ?_ (fun _ => ?_)) : p := h
theorem impl_gets.mono_l : ∀ k, (∀ y0 y1 y2 y3 y4 y5 y6 y7, LeO (impl_gets.l0 k y0 y1 y2 y3 y4 y5 y6 y7) (impl_gets.l0 (k + 1) y0 y1 y2 y3 y4 y5 y6 y7)) ∧ (∀ y0 y1 y2 y3 y4 y5 y6 y7 y8 y9 y10 y11 y12 y13, LeO (impl_gets.l1 k y0 y1 y2 y3 y4 y5 y6 y7 y8 y9 y10 y11 y12 y13) (impl_gets.l1 (k + 1) y0 y1 y2 y3 y4 y5 y6 y7 y8 y9 y10 y11 y12 y13)) ∧ (∀ y0 y1 y2 y3 y4 y5 y6 y7 y8 y9 y10 y11 y12 y13 y14 y15 y16, LeO (impl_gets.j2 k y0 y1 y2 y3 y4 y5 y6 y7 y8 y9 y10 y11 y12 y13 y14 y15 y16) (impl_gets.j2 (k + 1) y0 y1 y2 y3 y4 y5 y6 y7 y8 y9 y10 y11 y12 y13 y14 y15 y16))
 | 0 => ⟨fun _ _ _ _ _ _ _ _ r h => by simp [impl_gets.l0] at h, fun _ _ _ _ _ _ _ _ _ _ _ _ _ _ r h => by simp [impl_gets.l1] at h, fun _ _ _ _ _ _ _ _ _ _ _ _ _ _ _ _ _ r h => by simp [impl_gets.j2] at h⟩
 | k + 1 => by
  obtain ⟨ih0, ih1, ih2⟩ := impl_gets.mono_l k
  refine ⟨?_, ?_, ?_⟩
  ·intro y0 y1 y2 y3 y4 y5 y6 y7
   unfold impl_gets.l0
   exact impl_gets.mq
  ·intro y0 y1 y2 y3 y4 y5 y6 y7 y8 y9 y10 y11 y12 y13
   unfold impl_gets.l1
   exact impl_gets.mq
  ·intro y0 y1 y2 y3 y4 y5 y6 y7 y8 y9 y10 y11 y12 y13 y14 y15 y16
   unfold impl_gets.j2
   exact impl_gets.mq
theorem impl_gets.mono : ∀ a0 a1 a2 k, LeO (impl_gets.f k a0 a1 a2) (impl_gets.f (k + 1) a0 a1 a2) := by
 intro a0 a1 a2 k
 obtain ⟨ih0, ih1, ih2⟩ := impl_gets.mono_l k
 unfold impl_gets.f
 exact impl_gets.mq
def impl_gets.T11 : Bool × List (List Nat × List Nat) := (true, [([], []), ([], []), ([0, 1], [0, 1]), ([2], [2]), ([], []), ([], []), ([4, 5], [4, 5]), ([6], [6]), ([3, 7], [3, 7]), ([8], [8]), ([9], [9]), ([9], [9]), ([], []), ([12, 10, 8, 0, 1, 2, 3, 4, 5, 6, 7, 8, 9, 10, 12], [10, 12]), ([11, 13, 0, 1, 2, 3, 4, 5, 6, 7, 8, 9, 10, 11, 12, 13], [11])])
def impl_gets.B11 : List Nat := [0, 0, 3, 7, 0, 0, 48, 112, 255, 511, 1023, 1023, 0, 6143, 16383]
theorem impl_gets.tab11 : rtab .any (opsOf Try.f59 11) = impl_gets.T11 := by kernel_rfl
theorem impl_gets.bits11 : waitsOk impl_gets.T11.2 impl_gets.B11 = true := by kernel_rfl
def impl_gets.T12 : Bool × List (List Nat × List Nat) := (true, [([], []), ([], []), ([0, 1], [0, 1]), ([2], [2]), ([], []), ([3, 4], [3, 4]), ([5], [5]), ([6], [6]), ([6], [6]), ([], []), ([9, 7, 5, 0, 1, 2, 3, 4, 5, 6, 7, 9], [7, 9]), ([8, 10, 0, 1, 2, 3, 4, 5, 6, 7, 8, 9, 10], [8])])
def impl_gets.B12 : List Nat := [0, 0, 3, 7, 0, 31, 63, 127, 127, 0, 767, 2047]
theorem impl_gets.tab12 : rtab .any (opsOf Try.f59 12) = impl_gets.T12 := by kernel_rfl
theorem impl_gets.bits12 : waitsOk impl_gets.T12.2 impl_gets.B12 = true := by kernel_rfl
theorem qz1_ {p : Prop} (h : p := by repeat (first | (with_reducible first | exact HB.out | apply below_alloc | apply pw_below_drewN | apply below_drew1 | refine below_set ?_ GE265.out | refine below_set ?_ GE275.out | refine below_set ?_ GE286.out | refine below_set ?_ GE291.out | refine below_set ?_ GE295.out) | exact HB.out)) : p := h
set_option maxHeartbeats 8000000 in
set_option maxRecDepth 100000 in
theorem impl_gets.calls (k : Nat) (A0_0 : Option Addr) (c0_0 : Nat) (l0_0 : List Int) (A0_1 : Option Addr) (c0_1 : Nat) (l0_1 : List (List Int)) (A1 : Option Addr) (c1 : Nat) (l1 : List (S36)) (r1 : List (S36)) (r2 : Bool) (w : World) (hr0_0 : Kd.C (Kd.int .i64) w A0_0 l0_0.length l0_0) (hc0_0 : l0_0.length ≤ c0_0) (hr0_1 : Kd.C (Kd.slice 3 (Kd.int .i64)) w A0_1 l0_1.length l0_1) (hc0_1 : l0_1.length ≤ c0_1) (hr1 : Kd.C k36 w A1 l1.length l1) (hc1 : l1.length ≤ c1) (h : impl_gets.f k l0_0 l0_1 l1 = some (r1, r2)) :
  Calls Try.prog 59 #[.agg #[.slice A0_0 l0_0.length c0_0, .slice A0_1 l0_1.length c0_1], .slice A1 l1.length c1] w fun e w' => ∃ v0_ : Value, e = .returned (.tuple #[v0_, .bool r2]) ∧ Kd.R k36 36 w' w.heap.size (fun _ => True) v0_ r1 ∧ Below w.heap.size w w' := by
 have hu26 := Try.underlying26
 have hu36 := Try.underlying36
 have HR0_0 := Aside0.mk hr0_0
 have HC0_0 := Aside0.mk hc0_0
 clear hr0_0 hc0_0
 have HR0_1 := Aside0.mk hr0_1
 have HC0_1 := Aside0.mk hc0_1
 clear hr0_1 hc0_1
 have HR1 := Aside0.mk hr1
 have HC1 := Aside0.mk hc1
 clear hr1 hc1
 have HB := Aside0.mk (Below.refl w.heap.size w)
 have H : ((impl_owes.f k l0_0 l0_1).bind fun t266 => (impl_gets.l0 k l1 t266 (([] : List (S36))) l0_0 (l0_0.length : Int) 0 l0_0 l0_1)) = some (r1, r2) := h
 clear h
 obtain ⟨t266, A3, H⟩ := bind_ H
 obtain ⟨y269, hy269⟩ : ∃ y_ : List (S36), y_ = (([] : List (S36))) := ⟨_, rfl⟩
 replace H : (impl_gets.l0 k l1 t266 y269 l0_0 (l0_0.length : Int) 0 l0_0 l0_1) = some (r1, r2) := by first | (rw [hy269]; with_reducible exact H) | (have H2_ := (Option.bind_some _ _).symm.trans H; rw [hy269]; with_reducible exact H2_) | (have H2_ := (Option.bind_some _ _).symm.trans H; with_reducible exact H2_) | with_reducible exact H | (rw [hy269]; exact H) | exact H
 have Ny269 := Aside0.mk hy269
 clear hy269
 have H' := Aside0.mk H
 clear H
 go_enter Try.func59, Try.ntmps59
 go_wp2_with (first | ((with_reducible refine gate_dst (N := 2) rfl ?_); refine bx_ (N := 2) #[.slice A0_0 l0_0.length c0_0, .slice A0_1 l0_1.length c0_1] 26 ?_; intro gb265 hg w4 hbox hb; have BK265 := Aside0.mk (hbox); have GW265 := Aside0.mk ((g7_ : w.heap.size ≤ gb265)); have GE265 := Aside0.mk ((g7_ : w.heap.size ≤ gb265)); replace HB := Aside0.mk (below_step (qz1_) hb); clear hb hbox hg; obtain ⟨hcz5_0, hcz5_1, hfz5_0, hfz5_1⟩ := blk2_ BK265) | ((with_reducible refine gate_callee (f := 91) rfl ?_); refine goesL_ (some 20) rfl rfl Try.func91 k_ rfl #[.agg #[.slice A0_0 l0_0.length c0_0, .slice A0_1 l0_1.length c0_1]] rfl (g2_) ?_; (with_reducible refine (impl_owes.calls k _ _ l0_0 _ _ l0_1 t266 _ ?side1 ?side2 ?side3 ?side4 A3.out).mono ?_); (case side1 => exact uf4_ HR0_0); (case side2 => exact HC0_0.out); (case side3 => exact uf4_ HR0_1); (case side4 => exact HC0_1.out); rintro e w6 ⟨v267, rfl, ho0, hb⟩; refine ⟨_, rfl, ?_⟩; have HO268 := Aside0.mk (Kd.R_lower ho0 (below_size (qz1_))); replace BK265 := bb_ BK265 hb; replace HB := Aside0.mk (below_step (qz1_) hb); (try clear hb); (try clear hk hi); (try clear ho0)) | ((with_reducible refine gate_dst (N := 21) rfl ?_); refine Kd.R_lit k36 _ 36 ?hg (N := 21) ?hd (xs := ([] : List (S36))) (inner := []) (ok := fun _ => True) (okp := fun _ => True) ?hr ?hp (fun _ hk => hk) trivial (Below.refl _ _) (Nat.le_refl _) (by simp) ?_; (case hd => rfl); (case hg => rfl); (case hr => first | (go_simp; done) | (go_simp; rfl)); (case hp => exact (Reps.none _ _)); intro v270 w7 ho8 hb hg_ hnew_; clear hg_ hnew_; (first | rw [← Ny269.out] at ho8 | (simp only [Int.reduceToNat] at ho8; rw [← Ny269.out] at ho8)); replace HO268 := Aside0.mk (Kd.R_below (uf1_ HO268) hb); have HO271 := Aside0.mk (Kd.R_lower ho8 (below_size (qz1_))); replace BK265 := bb_ BK265 hb; replace HB := Aside0.mk (below_step (qz1_) hb); clear hb ho8; obtain ⟨hcz9_0, hcz9_1, hfz9_0, hfz9_1⟩ := blk2_ BK265))
 go_loopg [7, 25] k (fun kq v7 v25 w' => ∃ (x7_1 : List (S36)) (x25_1 : Int), v25 = .int .i64 x25_1 ∧ Aside0 (impl_gets.l0 kq l1 t266 x7_1 l0_0 (l0_0.length : Int) x25_1 l0_0 l0_1 = some (r1, r2)) ∧ Aside0 (kq ≤ k) ∧ Aside0 (Kd.R (Kd.int .i64) 3 w' w.heap.size (fun _ => True) v267 t266) ∧ Aside0 (Kd.R k36 36 w' w.heap.size (fun _ => True) v7 x7_1) ∧ Aside0 (w'.heap[gb265]? = some (.cells #[(.slice A0_0 l0_0.length c0_0), (.slice A0_1 l0_1.length c0_1)] 26 (0, 0))) ∧ Aside0 (Below w.heap.size w w'))
 case atStart => exact ⟨(y269), (0), (g3_), H', ⟨Nat.le_refl _⟩, ⟨uf1_ HO268⟩, ⟨uf1_ HO271⟩, ⟨uf0_ BK265⟩, ⟨qz1_⟩⟩
 case round =>
  clear H'
  try clear c1
  try clear p2
  try clear c5
  try clear c9
  try clear hcz5_0
  try clear hcz5_1
  try clear hcz9_0
  try clear hcz9_1
  try clear hfz5_0
  try clear hfz5_1
  try clear hfz9_0
  try clear hfz9_1
  obtain ⟨x7_1, x25_1, rfl, HA, HK1, HO_6, HO_7, BK265, HB⟩ := hrel
  cases gk with
  | zero => exact absurd HA.out (by simp [impl_gets.l0])
  | succ k1 =>
   have H := HA.out
   clear HA
   simp only [impl_gets.l0] at H
   by_cases c10 : x25_1 < (l0_0.length : Int)
   ·rw [if_pos c10] at H
    have c10b0 := decide_eq_true c10
    clear c10
    obtain ⟨c11, H⟩ := pos_ H
    have c11b0 := decide_eq_true c11
    clear c11
    obtain ⟨c12, H⟩ := pos_ H
    have c12b0 := decide_eq_true c12
    clear c12
    replace H := Option.bind_eq_some_iff.mp H
    obtain ⟨⟨t273, t274⟩, A130, H⟩ := H
    replace H : (impl_gets.l1 k1 l1 t266 x7_1 x25_1 l0_0 (l0_0.length : Int) x25_1 l0_1 (l0_1.length : Int) 0 l0_0 l0_1 t273 t274) = some (r1, r2) := H
    have A13 := Aside0.mk A130
    clear A130
    have H' := Aside0.mk H
    clear H
    have p272 : 0 ≤ (x25_1 : Int) := of_decide_eq_true (g1_)
    have q272 : x25_1 < (l0_0.length : Int) := of_decide_eq_true (g1_)
    obtain ⟨ad272, e272, hx272_0⟩ := Kd.at_int HR0_0.out x25_1 p272 q272
    cases e272
    replace hx272_0 := cl_ HB hx272_0
    replace p272 := eq_true p272
    replace q272 := eq_true q272
    go_wp2_with (first | ((with_reducible refine gate_callee (f := 89) rfl ?_); refine goesL_ (some 31) rfl rfl Try.func89 k_ rfl #[.int .i64 (rd l0_0 x25_1)] rfl (g2_) ?_; (with_reducible refine (impl_whole.calls (rd l0_0 x25_1) t273 t274 _ A13.out).mono ?_); rintro e w14 ⟨rfl, hb⟩; refine ⟨_, rfl, ?_⟩; replace HO_6 := Aside0.mk (Kd.R_below (uf1_ HO_6) hb); replace HO_7 := Aside0.mk (Kd.R_below (uf1_ HO_7) hb); replace BK265 := bb_ BK265 hb; replace HB := Aside0.mk (below_step (qz1_) hb); (try clear hb); (try clear hk hi)) | ((with_reducible refine gate_dst (N := 10) rfl ?_); refine bx_ (N := 10) #[.int .i64 0, .int .i64 0] 36 ?_; intro gb275 hg w15 hbox hb; replace HO_6 := Aside0.mk (Kd.R_below (uf1_ HO_6) hb); replace HO_7 := Aside0.mk (Kd.R_below (Kd.R_elderB (uf1_ HO_7) gb275 (Nat.le_of_eq hg.symm)) hb); have BK275 := Aside0.mk (hbox); have GW275 := Aside0.mk ((g7_ : w.heap.size ≤ gb275)); have GE275 := Aside0.mk ((g7_ : w.heap.size ≤ gb275)); replace HB := Aside0.mk (below_step (qz1_) hb); have NB265_275 := Aside0.mk ((by rw [hg]; exact Nat.ne_of_lt (blk_lt (g := gb265) (o := .cells #[.slice (some ad272) l0_0.length c0_0, .slice A0_1 l0_1.length c0_1] 26 (0, 0)) (uf0_ BK265)) : gb265 ≠ gb275)); have NB275_265 := Aside0.mk ((by rw [hg]; exact Nat.ne_of_gt (blk_lt (g := gb265) (o := .cells #[.slice (some ad272) l0_0.length c0_0, .slice A0_1 l0_1.length c0_1] 26 (0, 0)) (uf0_ BK265)) : gb275 ≠ gb265)); replace BK265 := bb_ BK265 hb; clear hb hbox hg; have hnb16 := NB275_265.out; have hnc16 := NB265_275.out; obtain ⟨hcz17_0, hcz17_1, hfz17_0, hfz17_1⟩ := blk2_ BK275; obtain ⟨hcz18_0, hcz18_1, hfz18_0, hfz18_1⟩ := blk2_ BK265))
    go_loopg [35] k1 (fun kq v35 w' => ∃ (x35_2 : Int) (x276000_2 : Int) (x276001_2 : Int), v35 = .int .i64 x35_2 ∧ Aside0 (impl_gets.l1 kq l1 t266 x7_1 x25_1 l0_0 (l0_0.length : Int) x25_1 l0_1 (l0_1.length : Int) x35_2 l0_0 l0_1 x276000_2 x276001_2 = some (r1, r2)) ∧ Aside0 (kq ≤ k1) ∧ Aside0 (Kd.R (Kd.int .i64) 3 w' w.heap.size (fun _ => True) v267 t266) ∧ Aside0 (Kd.R k36 36 w' w.heap.size (fun k_ => k_ ≠ gb275) u7 x7_1) ∧ Aside0 (w'.heap[gb265]? = some (.cells #[(.slice (some ad272) l0_0.length c0_0), (.slice A0_1 l0_1.length c0_1)] 26 (0, 0))) ∧ Aside0 (w'.heap[gb275]? = some (.cells #[.int .i64 x276000_2, .int .i64 x276001_2] 36 (0, 0))) ∧ Aside0 (Below w.heap.size w w'))
    case atStart => exact ⟨(0), (t273), (t274), (g3_), H', ⟨Nat.le_refl _⟩, ⟨by (with_reducible repeat (first | apply Kd.R_alloc | apply Kd.R_drewN | apply Kd.R_drew)); exact Kd.R_mono (Kd.R_far (p := ⟨gb275, 1, none⟩) (Kd.R_far (p := ⟨gb275, 0, none⟩) (Kd.R_types HO_6.out BK275.out (by decide)) (fun _ hk => hk.2) (.int .i64 t273)) (fun _ hk => hk.2) (.int .i64 t274)) (fun _ hk => trivial)⟩, ⟨by (with_reducible repeat (first | apply Kd.R_alloc | apply Kd.R_drewN | apply Kd.R_drew)); exact Kd.R_mono (Kd.R_far (p := ⟨gb275, 1, none⟩) (Kd.R_far (p := ⟨gb275, 0, none⟩) (Kd.R_mono HO_7.out (fun k_ hk => (⟨hk, hk.2⟩ : _ ∧ k_ ≠ gb275))) (fun _ hk => hk.2) (.int .i64 t273)) (fun _ hk => hk.2) (.int .i64 t274)) (fun _ hk => hk.1.2)⟩, ⟨by (with_reducible repeat (first | refine blk_drewN ?_ _ | refine blk_drew ?_ | refine blk_alloc ?_ _)); refine blk_far ?_ NB265_275.out _; (with_reducible repeat (first | refine blk_drewN ?_ _ | refine blk_drew ?_ | refine blk_alloc ?_ _)); refine blk_far ?_ NB265_275.out _; (with_reducible repeat (first | refine blk_drewN ?_ _ | refine blk_drew ?_ | refine blk_alloc ?_ _)); exact BK265.out⟩, ⟨by (with_reducible repeat (first | refine blk_drewN ?_ _ | refine blk_drew ?_ | refine blk_alloc ?_ _)); refine blk_put (cs := #[.int .i64 t273, .int .i64 0]) ?_ 1 _ rfl; (with_reducible repeat (first | refine blk_drewN ?_ _ | refine blk_drew ?_ | refine blk_alloc ?_ _)); refine blk_put (cs := #[.int .i64 0, .int .i64 0]) ?_ 0 _ rfl; (with_reducible repeat (first | refine blk_drewN ?_ _ | refine blk_drew ?_ | refine blk_alloc ?_ _)); exact BK275.out⟩, ⟨qz1_⟩⟩
    case round =>
     clear H'
     try clear c1
     try clear p2
     try clear q2
     try clear hx2
     try clear c5
     try clear c8
     try clear c9
     try clear c10
     try clear c10b0
     try clear c11
     try clear c11b0
     try clear c12
     try clear c12b0
     try clear c16
     try clear hcz17_0
     try clear hcz17_1
     try clear hcz18_0
     try clear hcz18_1
     try clear hcz5_0
     try clear hcz5_1
     try clear hcz9_0
     try clear hcz9_1
     try clear hfz17_0
     try clear hfz17_1
     try clear hfz18_0
     try clear hfz18_1
     try clear hfz5_0
     try clear hfz5_1
     try clear hfz9_0
     try clear hfz9_1
     try clear hx272_0
     try clear p2
     try clear p272
     try clear q272
     obtain ⟨x35_2, x276000_2, x276001_2, rfl, HA, HK2, HO_6, HO_7, BK265, BK275, HB⟩ := hrel
     cases gk with
     | zero => exact absurd HA.out (by simp [impl_gets.l1])
     | succ k2 =>
      have H := HA.out
      clear HA
      simp only [impl_gets.l1] at H
      by_cases c19 : x35_2 < (l0_1.length : Int)
      ·rw [if_pos c19] at H
       have c19b0 := decide_eq_true c19
       clear c19
       obtain ⟨c20, H⟩ := pos_ H
       have c20b0 := decide_eq_true c20
       clear c20
       obtain ⟨c21, H⟩ := pos_ H
       have c21b0 := decide_eq_true c21
       clear c21
       have HC22 := Aside0.mk H
       clear H
       have p279 : 0 ≤ (x35_2 : Int) := of_decide_eq_true (g1_)
       have q279 : x35_2 < (l0_1.length : Int) := of_decide_eq_true (g1_)
       obtain ⟨ad279, A279_0, c279_0, e279, hx279_0, hl279_0, hi279_0⟩ := at_L2 HR0_1.out x35_2 p279 q279
       cases e279
       replace hx279_0 := cl_ HB hx279_0
       have HR279_0 := Aside0.mk hi279_0
       have HC279_0 := Aside0.mk hl279_0
       clear hi279_0 hl279_0
       replace p279 := eq_true p279
       replace q279 := eq_true q279
       go_upto_region 10 with (fail)
       go_cut [49] (fun v49 wc => ∃ (kq : Nat) (x49_21 : Bool), v49 = .bool x49_21 ∧ Aside0 (impl_gets.j2 kq l1 t266 x7_1 x25_1 x35_2 (rd_L2 l0_1 x35_2) l0_0 (l0_0.length : Int) x25_1 l0_1 (l0_1.length : Int) x35_2 x49_21 l0_0 l0_1 x276000_2 x276001_2 = some (r1, r2)) ∧ Aside0 (kq ≤ k2) ∧ Aside0 (Kd.R (Kd.int .i64) 3 wc w.heap.size (fun _ => True) v267 t266) ∧ Aside0 (Kd.R k36 36 wc w.heap.size (fun k_ => k_ ≠ gb275) u7 x7_1) ∧ Aside0 (wc.heap[gb265]? = some (.cells #[(.slice (some ad272) l0_0.length c0_0), (.slice (some ad279) l0_1.length c0_1)] 26 (0, 0))) ∧ Aside0 (wc.heap[gb275]? = some (.cells #[.int .i64 x276000_2, .int .i64 x276001_2] 36 (0, 0))) ∧ Aside0 (Below w.heap.size w wc))
       case first =>
        have H := HC22.out
        clear HC22
        by_cases c23 : x35_2 = x25_1
        ·rw [if_pos c23] at H
         have c23b0 : (x35_2 == x25_1) = true := beq_iff_eq.mpr c23
         have c23b1 : (x35_2 != x25_1) = false := bne_eq_false_iff_eq.mpr c23
         clear c23
         (first | rw [c23b0] | (simp only [i64_w, i32_w]; rw [c23b0]) | skip)
         have H' := Aside0.mk H
         clear H
         go_wp2
         go_meet
         case rel => exact ⟨_, (true), (g3_), H', ⟨by have := HK1.out; have := HK2.out; first | omega | exact Nat.le_refl _⟩, ⟨uf1_ HO_6⟩, ⟨uf1_ HO_7⟩, ⟨uf0_ BK265⟩, ⟨uf0_ BK275⟩, ⟨qz1_⟩⟩
        ·rw [if_neg c23] at H
         have c23b0 : (x35_2 == x25_1) = false := beq_eq_false_iff_ne.mpr c23
         have c23b1 : (x35_2 != x25_1) = true := bne_iff_ne.mpr c23
         (first | rw [c23b0] | (simp only [i64_w, i32_w]; rw [c23b0]) | skip)
         obtain ⟨c24, H⟩ := pos_ H
         have c24b0 := decide_eq_true c24
         clear c24
         have H' := Aside0.mk H
         clear H
         obtain ⟨Ao25, co25, eo25⟩ := Kd.R_slice HO_6.out
         subst eo25
         have p280 : 0 ≤ (x35_2 : Int) := of_decide_eq_true (g1_)
         have q280 : x35_2 < (t266.length : Int) := of_decide_eq_true (g1_)
         obtain ⟨ad280, e280, hx280_0⟩ := Kd.at_int (Kd.R_reads' HO_6.out).2.2 x35_2 p280 q280
         cases e280
         replace p280 := eq_true p280
         replace q280 := eq_true q280
         go_wp2
         go_meet
         case rel => exact ⟨_, (((rd t266 x35_2) == 0)), (g3_), H', ⟨by have := HK1.out; have := HK2.out; first | omega | exact Nat.le_refl _⟩, ⟨uf1_ HO_6⟩, ⟨uf1_ HO_7⟩, ⟨uf0_ BK265⟩, ⟨uf0_ BK275⟩, ⟨qz1_⟩⟩
       case rest =>
        clear HC22
        try clear c1
        try clear c2
        try clear p2
        try clear q2
        try clear hx2
        try clear c5
        try clear c8
        try clear c9
        try clear c10
        try clear c10b0
        try clear c11
        try clear c11b0
        try clear c12
        try clear c12b0
        try clear c16
        try clear c19
        try clear c19b0
        try clear c20
        try clear c20b0
        try clear c21
        try clear c21b0
        try clear c23
        try clear c23b0
        try clear c23b1
        try clear c24
        try clear c24b0
        try clear hcz17_0
        try clear hcz17_1
        try clear hcz18_0
        try clear hcz18_1
        try clear hcz5_0
        try clear hcz5_1
        try clear hcz9_0
        try clear hcz9_1
        try clear hfz17_0
        try clear hfz17_1
        try clear hfz18_0
        try clear hfz18_1
        try clear hfz5_0
        try clear hfz5_1
        try clear hfz9_0
        try clear hfz9_1
        try clear hx272_0
        try clear hx279_0
        try clear hx280_0
        try clear p2
        try clear p272
        try clear p279
        try clear p280
        try clear q2
        try clear q272
        try clear q279
        try clear q280
        obtain ⟨kq, x49_21, rfl, HA, HJ21, HO_6, HO_7, BK265, BK275, HB⟩ := hcut
        cases kq with
        | zero => exact absurd HA.out (by simp [impl_gets.j2])
        | succ kj21 =>
         have H := HA.out
         clear HA
         simp only [impl_gets.j2] at H
         by_cases c26 : x49_21 = true
         ·subst c26
          replace H := ifp_ H
          have H' := Aside0.mk H
          clear H
          go_wp2
          go_roundg kj21
          case measure => have := HK1.out; have := HK2.out; have := HJ21.out; omega
          case rel => exact ⟨(wrap64 (x35_2 + 1)), (x276000_2), (x276001_2), (g3_), H', ⟨by have := HK1.out; have := HK2.out; have := HJ21.out; omega⟩, ⟨uf1_ HO_6⟩, ⟨uf1_ HO_7⟩, ⟨uf0_ BK265⟩, ⟨uf0_ BK275⟩, ⟨qz1_⟩⟩
         ·replace c26 := Bool.eq_false_iff.mpr c26
          subst c26
          replace H := ifn_ H
          obtain ⟨c27, H⟩ := pos_ H
          have c27b0 := decide_eq_true c27
          clear c27
          obtain ⟨c28, H⟩ := pos_ H
          have c28b0 := decide_eq_true c28
          clear c28
          obtain ⟨c29, H⟩ := pos_ H
          have c29b0 := decide_eq_true c29
          clear c29
          obtain ⟨c30, H⟩ := pos_ H
          have c30b0 := decide_eq_true c30
          clear c30
          replace H := Option.bind_eq_some_iff.mp H
          obtain ⟨⟨t283, t284, t285⟩, A310, H⟩ := H
          replace H : (if x35_2 < (l1.length : Int) then ((impl_times.f kj21 ((rd_T36 l1 x35_2).f0) ((rd_T36 l1 x35_2).f1) t283 t284).bind fun bt288 => ((impl_plus.f kj21 x276000_2 x276001_2 bt288.1 bt288.2.1).bind fun bt292 => (if bt288.2.2 = true then (if bt292.2.2 = true then (impl_gets.l1 kj21 l1 t266 x7_1 x25_1 l0_0 (l0_0.length : Int) x25_1 l0_1 (l0_1.length : Int) (wrap64 (x35_2 + 1)) l0_0 l0_1 bt292.1 bt292.2.1) else (some (([] : List (S36)), false))) else (some (([] : List (S36)), false))))) else (none)) = some (r1, r2) := H
          have A31 := Aside0.mk A310
          clear A310
          obtain ⟨c32, H⟩ := pos_ H
          have c32b0 := decide_eq_true c32
          clear c32
          replace H := Option.bind_eq_some_iff.mp H
          obtain ⟨⟨t288, t289, t290⟩, A330, H⟩ := H
          replace H : ((impl_plus.f kj21 x276000_2 x276001_2 t288 t289).bind fun bt292 => (if t290 = true then (if bt292.2.2 = true then (impl_gets.l1 kj21 l1 t266 x7_1 x25_1 l0_0 (l0_0.length : Int) x25_1 l0_1 (l0_1.length : Int) (wrap64 (x35_2 + 1)) l0_0 l0_1 bt292.1 bt292.2.1) else (some (([] : List (S36)), false))) else (some (([] : List (S36)), false)))) = some (r1, r2) := H
          have A33 := Aside0.mk A330
          clear A330
          replace H := Option.bind_eq_some_iff.mp H
          obtain ⟨⟨t292, t293, t294⟩, A340, H⟩ := H
          replace H : (if t290 = true then (if t294 = true then (impl_gets.l1 kj21 l1 t266 x7_1 x25_1 l0_0 (l0_0.length : Int) x25_1 l0_1 (l0_1.length : Int) (wrap64 (x35_2 + 1)) l0_0 l0_1 t292 t293) else (some (([] : List (S36)), false))) else (some (([] : List (S36)), false))) = some (r1, r2) := H
          have A34 := Aside0.mk A340
          clear A340
          by_cases c35 : t290 = true
          ·subst c35
           replace H := ifp_ H
           by_cases c36 : t294 = true
           ·subst c36
            replace H := ifp_ H
            have H' := Aside0.mk H
            clear H
            try go_wp2
            replace HO_6 := Aside0.mk (Kd.R_drew HO_6.out)
            replace HO_7 := Aside0.mk (Kd.R_drew HO_7.out)
            replace BK265 := Aside0.mk (blk_drew BK265.out)
            replace BK275 := Aside0.mk (blk_drew BK275.out)
            replace HB := Aside0.mk (below_drew1 HB.out)
            have p281 : 0 ≤ (x25_1 : Int) := of_decide_eq_true (g1_)
            have q281 : x25_1 < ((rd_L2 l0_1 x35_2).length : Int) := of_decide_eq_true (g1_)
            obtain ⟨ad281, e281, hx281_0⟩ := Kd.at_int HR279_0.out x25_1 p281 q281
            have hw281_0 := hx281_0
            cases e281
            replace hx281_0 := cl_ HB hx281_0
            replace p281 := eq_true p281
            replace q281 := eq_true q281
            obtain ⟨Ao38, co38, eo38⟩ := Kd.R_slice HO_6.out
            (first | subst eo38 | (injection eo38 with f1_ f2_ f3_; have f4_ := f1_.symm; have f5_ := f3_.symm; clear f1_ f2_ f3_; subst f4_; subst f5_))
            have p282 : 0 ≤ (x35_2 : Int) := of_decide_eq_true (g1_)
            have q282 : x35_2 < (t266.length : Int) := of_decide_eq_true (g1_)
            obtain ⟨ad282, e282, hx282_0⟩ := Kd.at_int (Kd.R_reads' HO_6.out).2.2 x35_2 p282 q282
            cases e282
            replace p282 := eq_true p282
            replace q282 := eq_true q282
            refine start_ (n := 15) (S := fun w' => w'.cell? (ad281.add (x25_1).toNat) = some (.int .i64 (rd (rd_L2 l0_1 x35_2) x25_1)) ∧ w'.cell? (ad282.add (x35_2).toNat) = some (.int .i64 (rd t266 x35_2))) (ds := []) (tl_ 15 0) (g0_) rfl (g0_) ⟨((cl_ HB hw281_0).trans rfl), hx282_0⟩ (fun hHeld => ?_); refine with_tabW impl_gets.tab11 impl_gets.bits11 (fun HT_ HW_ => ?_)
            generalize wc.drew = w37 at HO_6 HO_7 BK265 BK275 HB hx281_0 hx282_0 hHeld ⊢
            refine pw_ 0 51 (tl_ 15 1) rfl rfl ?_
            refine pw_ 1 52 (tl_ 15 3) rfl rfl ?_
            refine pw_ 2 53 (tl_ 15 7) rfl rfl ?_
            refine pw_ 4 55 (tl_ 15 23) rfl rfl ?_
            refine pw_ 5 56 (tl_ 15 55) rfl rfl ?_
            refine pw_ 6 57 (tl_ 15 119) rfl rfl ?_
            refine tk0_ 3 54 (tl_ 15 127) rfl rfl hHeld ?_
            refine tk0_ 7 58 (tl_ 15 255) rfl rfl hHeld ?_
            refine join_ (σ := Nat) 2 (tl_ 15 8191) (fun s_ => [(59, .tuple #[.agg #[.int .i64 t283, .int .i64 t284], .bool t285]), (13, .pointer (some ⟨s_, 0, none⟩)), (50, .tuple #[.agg #[.int .i64 t283, .int .i64 t284], .bool t285]), (60, .agg #[.int .i64 t283, .int .i64 t284]), (61, .bool t285)]) (fun s_ w' => (w'.cell? (ad281.add (x25_1).toNat) = some (.int .i64 (rd (rd_L2 l0_1 x35_2) x25_1)) ∧ w'.cell? (ad282.add (x35_2).toNat) = some (.int .i64 (rd t266 x35_2))) ∧ (Kd.R (Kd.int .i64) 3 w' w.heap.size (fun _ => True) (.slice (some ad282) t266.length co38) t266) ∧ (Kd.R k36 36 w' w.heap.size (fun k_ => k_ ≠ gb275 ∧ k_ ≠ s_) u7 x7_1) ∧ (w'.heap[gb265]? = some (.cells #[.slice (some ad272) l0_0.length c0_0, .slice (some ad279) l0_1.length c0_1] 26 (0, 0))) ∧ (w'.heap[gb275]? = some (.cells #[.int .i64 x276000_2, .int .i64 x276001_2] 36 (0, 0))) ∧ (w'.heap[s_]? = some (.cells #[.int .i64 0, .int .i64 0] 36 (0, 0))) ∧ (w.heap.size ≤ s_) ∧ (w.heap.size ≤ s_) ∧ (gb265 ≠ s_) ∧ (s_ ≠ gb265) ∧ (gb275 ≠ s_) ∧ (s_ ≠ gb275) ∧ (Below w.heap.size w w')) ?_ ?_
            rotate_left
            ·intro hCont
             refine two_ (i := 8) (j := 12) (Ni := some 59) (Nj := some 13) (tl_ 15 511) (tl_ 15 4351) rfl rfl rfl rfl (two_of HT_.out (g0_)) (by decide) (by decide) (fun K hK => ?_) (fun K hK => ?_)
             ·skip
              refine goes_ Try.func92 (g0_) rfl #[.int .i64 (rd (rd_L2 l0_1 x35_2) x25_1), .int .i64 (rd t266 x35_2)] (by rfl) rfl rfl (g2_) ?_
              with_reducible refine (impl_lowest.calls kj21 (rd (rd_L2 l0_1 x35_2) x25_1) (rd t266 x35_2) t283 t284 t285 _ A31.out).mono ?_
              rintro e w39 ⟨rfl, hb⟩
              have HS1_ := (hb.cell (World.block_lt_of_cell? _ _ (hHeld.2))).trans (hHeld.2)
              refine ⟨_, rfl, ?_⟩
              replace HO_6 := Aside0.mk (Kd.R_below (uf1_ HO_6) hb)
              replace HO_7 := Aside0.mk (Kd.R_below (uf1_ HO_7) hb)
              replace BK265 := bb_ BK265 hb
              replace BK275 := bb_ BK275 hb
              replace HB := Aside0.mk (below_step (qz1_) hb)
              (try clear hb)
              (try clear hk hi)
              refine hK.out _ _ ⟨((cl_ HB hw281_0).trans rfl), HS1_⟩ (fun hHeld => ?_)
              clear hK K
              refine nm_ ?_
              refine pw_ 9 50 (tl_ 15 1023) rfl rfl ?_
              refine pw_ 10 60 (tl_ 15 2047) rfl rfl ?_
              refine pw_ 11 61 (tl_ 15 4095) rfl rfl ?_
              refine one_ (i := 12) (N := some 13) (tl_ 15 8191) rfl rfl (one_of HT_.out (g0_)) (by decide) (fun K hK => ?_)
              refine bs_ (N := 13) #[.int .i64 0, .int .i64 0] 36 ?_
              intro gb286 hg w40 hbox hb
              have HS1_ := (hb.cell (World.block_lt_of_cell? _ _ (hHeld.2))).trans (hHeld.2)
              replace HO_6 := Aside0.mk (Kd.R_below (uf1_ HO_6) hb)
              replace HO_7 := Aside0.mk (Kd.R_below (Kd.R_elderB (uf1_ HO_7) gb286 (Nat.le_of_eq hg.symm)) hb)
              have BK286 := Aside0.mk (hbox)
              have GW286 := Aside0.mk ((g7_ : w.heap.size ≤ gb286))
              have GE286 := Aside0.mk ((g7_ : w.heap.size ≤ gb286))
              replace HB := Aside0.mk (below_step (qz1_) hb)
              have NB265_286 := Aside0.mk ((g20_ : gb265 ≠ gb286))
              have NB286_265 := Aside0.mk ((g21_ : gb286 ≠ gb265))
              replace BK265 := bb_ BK265 hb
              have NB275_286 := Aside0.mk ((g22_ : gb275 ≠ gb286))
              have NB286_275 := Aside0.mk ((g23_ : gb286 ≠ gb275))
              replace BK275 := bb_ BK275 hb
              clear hb hbox hg
              refine hK.out _ _ ⟨((cl_ HB hw281_0).trans rfl), HS1_⟩ (fun hHeld => ?_)
              clear hK K
              refine nm_ ?_
              exact norm_ (g8_) (hCont (gb286) _ ⟨hHeld, (uf1_ HO_6), (uf1_ HO_7), (uf0_ BK265), (uf0_ BK275), (uf0_ BK286), GW286.out, GE286.out, NB265_286.out, NB286_265.out, NB275_286.out, NB286_275.out, (qz1_)⟩)
             ·skip
              refine bs_ (N := 13) #[.int .i64 0, .int .i64 0] 36 ?_
              intro gb286 hg w39 hbox hb
              have HS1_ := (hb.cell (World.block_lt_of_cell? _ _ (hHeld.2))).trans (hHeld.2)
              replace HO_6 := Aside0.mk (Kd.R_below (uf1_ HO_6) hb)
              replace HO_7 := Aside0.mk (Kd.R_below (Kd.R_elderB (uf1_ HO_7) gb286 (Nat.le_of_eq hg.symm)) hb)
              have BK286 := Aside0.mk (hbox)
              have GW286 := Aside0.mk ((g7_ : w.heap.size ≤ gb286))
              have GE286 := Aside0.mk ((g7_ : w.heap.size ≤ gb286))
              replace HB := Aside0.mk (below_step (qz1_) hb)
              have NB265_286 := Aside0.mk ((g20_ : gb265 ≠ gb286))
              have NB286_265 := Aside0.mk ((g21_ : gb286 ≠ gb265))
              replace BK265 := bb_ BK265 hb
              have NB275_286 := Aside0.mk ((g22_ : gb275 ≠ gb286))
              have NB286_275 := Aside0.mk ((g23_ : gb286 ≠ gb275))
              replace BK275 := bb_ BK275 hb
              clear hb hbox hg
              refine hK.out _ _ ⟨((cl_ HB hw281_0).trans rfl), HS1_⟩ (fun hHeld => ?_)
              clear hK K
              refine nm_ ?_
              refine one_ (i := 8) (N := some 59) (tl_ 15 4607) rfl rfl (one_of HT_.out (g0_)) (by decide) (fun K hK => ?_)
              refine goes_ Try.func92 (g0_) rfl #[.int .i64 (rd (rd_L2 l0_1 x35_2) x25_1), .int .i64 (rd t266 x35_2)] (by rfl) rfl rfl (g2_) ?_
              with_reducible refine (impl_lowest.calls kj21 (rd (rd_L2 l0_1 x35_2) x25_1) (rd t266 x35_2) t283 t284 t285 _ A31.out).mono ?_
              rintro e w40 ⟨rfl, hb⟩
              have HS1_ := (hb.cell (World.block_lt_of_cell? _ _ (hHeld.2))).trans (hHeld.2)
              refine ⟨_, rfl, ?_⟩
              replace HO_6 := Aside0.mk (Kd.R_below (uf1_ HO_6) hb)
              replace HO_7 := Aside0.mk (Kd.R_below (uf1_ HO_7) hb)
              replace BK265 := bb_ BK265 hb
              replace BK275 := bb_ BK275 hb
              replace BK286 := bb_ BK286 hb
              replace HB := Aside0.mk (below_step (qz1_) hb)
              (try clear hb)
              (try clear hk hi)
              refine hK.out _ _ ⟨((cl_ HB hw281_0).trans rfl), HS1_⟩ (fun hHeld => ?_)
              clear hK K
              refine nm_ ?_
              refine pw_ 9 50 (tl_ 15 5119) rfl rfl ?_
              refine pw_ 10 60 (tl_ 15 6143) rfl rfl ?_
              refine pw_ 11 61 (tl_ 15 8191) rfl rfl ?_
              exact norm_ (g8_) (hCont (gb286) _ ⟨hHeld, (uf1_ HO_6), (uf1_ HO_7), (uf0_ BK265), (uf0_ BK275), (uf0_ BK286), GW286.out, GE286.out, NB265_286.out, NB286_265.out, NB275_286.out, NB286_275.out, (qz1_)⟩)
            rintro gb286 w41 ⟨hS_, h0_, h1_, h2_, h3_, h4_, h5_, h6_, h7_, h8_, h9_, h10_, h11_⟩
            replace HO_6 : Aside0 (Kd.R (Kd.int .i64) 3 w41 w.heap.size (fun _ => True) (.slice (some ad282) t266.length co38) t266) := ⟨h0_⟩
            replace HO_7 : Aside0 (Kd.R k36 36 w41 w.heap.size (fun k_ => k_ ≠ gb275 ∧ k_ ≠ gb286) u7 x7_1) := ⟨h1_⟩
            replace BK265 : Aside0 (w41.heap[gb265]? = some (.cells #[.slice (some ad272) l0_0.length c0_0, .slice (some ad279) l0_1.length c0_1] 26 (0, 0))) := ⟨h2_⟩
            replace BK275 : Aside0 (w41.heap[gb275]? = some (.cells #[.int .i64 x276000_2, .int .i64 x276001_2] 36 (0, 0))) := ⟨h3_⟩
            have BK286 : Aside0 (w41.heap[gb286]? = some (.cells #[.int .i64 0, .int .i64 0] 36 (0, 0))) := ⟨h4_⟩
            have GW286 : Aside0 (w.heap.size ≤ gb286) := ⟨h5_⟩
            have GE286 : Aside0 (w.heap.size ≤ gb286) := ⟨h6_⟩
            have NB265_286 : Aside0 (gb265 ≠ gb286) := ⟨h7_⟩
            have NB286_265 : Aside0 (gb286 ≠ gb265) := ⟨h8_⟩
            have NB275_286 : Aside0 (gb275 ≠ gb286) := ⟨h9_⟩
            have NB286_275 : Aside0 (gb286 ≠ gb275) := ⟨h10_⟩
            replace HB : Aside0 (Below w.heap.size w w41) := ⟨h11_⟩
            clear h0_ h1_ h2_ h3_ h4_ h5_ h6_ h7_ h8_ h9_ h10_ h11_
            have hHeld : w41.cell? (ad281.add (x25_1).toNat) = some (.int .i64 (rd (rd_L2 l0_1 x35_2) x25_1)) ∧ w41.cell? (ad282.add (x35_2).toNat) = some (.int .i64 (rd t266 x35_2)) := hS_
            refine norm_ (a' := ?_) ?_ ?_
            rotate_left
            ·simp only [putAll, Act.put, List.setIfInBounds_toArray, List.set_cons_zero, List.set_cons_succ]
             rfl
            refine one_ (i := 13) (N := none) (tl_ 15 16383) rfl rfl (one_of HT_.out (g0_)) (by decide) (fun K hK => ?_)
            have hs42 : w41.cell? ⟨gb286, 0, none⟩ = some (.int .i64 0) := (blk_cell BK286.out 0).trans rfl
            have hfs42 := blk_frozen BK286.out 0
            have hns42_0 := NB265_286.out
            have hns42_1 := NB275_286.out
            have hms42_0 := NB286_265.out
            have hms42_1 := NB286_275.out
            have hs43 : w41.cell? ⟨gb286, 1, none⟩ = some (.int .i64 0) := (blk_cell BK286.out 1).trans rfl
            have hfs43 := blk_frozen BK286.out 1
            have hns43_0 := NB265_286.out
            have hns43_1 := NB275_286.out
            have hms43_0 := NB286_265.out
            have hms43_1 := NB286_275.out
            refine skip_ (w1 := ?_) (by rfl) rfl ?_ ?_
            rotate_left
            ·go_simp
             rfl
            refine hK.out _ _ ⟨((cell_far (p := ⟨gb286, _, none⟩) (by first | exact Nat.ne_of_lt (Nat.lt_of_lt_of_le (by have := World.block_lt_of_cell? _ _ hw281_0; first | rwa [add_block] at this | exact this) GW286.out) | (rw [add_block]; exact Nat.ne_of_lt (Nat.lt_of_lt_of_le (by have := World.block_lt_of_cell? _ _ hw281_0; first | rwa [add_block] at this | exact this) GW286.out)) | (show (Addr.add _ _).block ≠ _; rw [add_block]; exact Nat.ne_of_lt (Nat.lt_of_lt_of_le (by have := World.block_lt_of_cell? _ _ hw281_0; first | rwa [add_block] at this | exact this) GW286.out)) | (dsimp only; exact Nat.ne_of_lt (Nat.lt_of_lt_of_le (by have := World.block_lt_of_cell? _ _ hw281_0; first | rwa [add_block] at this | exact this) GW286.out))) _).trans (((cell_far (p := ⟨gb286, _, none⟩) (by first | exact Nat.ne_of_lt (Nat.lt_of_lt_of_le (by have := World.block_lt_of_cell? _ _ hw281_0; first | rwa [add_block] at this | exact this) GW286.out) | (rw [add_block]; exact Nat.ne_of_lt (Nat.lt_of_lt_of_le (by have := World.block_lt_of_cell? _ _ hw281_0; first | rwa [add_block] at this | exact this) GW286.out)) | (show (Addr.add _ _).block ≠ _; rw [add_block]; exact Nat.ne_of_lt (Nat.lt_of_lt_of_le (by have := World.block_lt_of_cell? _ _ hw281_0; first | rwa [add_block] at this | exact this) GW286.out)) | (dsimp only; exact Nat.ne_of_lt (Nat.lt_of_lt_of_le (by have := World.block_lt_of_cell? _ _ hw281_0; first | rwa [add_block] at this | exact this) GW286.out))) _).trans (hHeld.1)))), ((cell_far (p := ⟨gb286, _, none⟩) (g52_) _).trans (((cell_far (p := ⟨gb286, _, none⟩) (g52_) _).trans (hHeld.2))))⟩ (fun hHeld => ?_)
            clear hK K
            refine pw_ 14 14 (tl_ 15 32767) rfl rfl ?_
            refine done_ (done_of HT_.out (g0_)) ?_
            try go_wp2
            have n0_ : Aside0 (Kd.R (Kd.int .i64) 3 ((w41.setCell ⟨gb286, 0, none⟩ (.int .i64 t283)).setCell ⟨gb286, 1, none⟩ (.int .i64 t284)) w.heap.size (fun _ => True) (.slice (some ad282) t266.length co38) t266) := ⟨g128_⟩
            have n1_ : Aside0 (Kd.R k36 36 ((w41.setCell ⟨gb286, 0, none⟩ (.int .i64 t283)).setCell ⟨gb286, 1, none⟩ (.int .i64 t284)) w.heap.size (fun k_ => k_ ≠ gb275 ∧ k_ ≠ gb286) u7 x7_1) := ⟨g129_⟩
            have n2_ : Aside0 (((w41.setCell ⟨gb286, 0, none⟩ (.int .i64 t283)).setCell ⟨gb286, 1, none⟩ (.int .i64 t284)).heap[gb265]? = some (.cells #[.slice (some ad272) l0_0.length c0_0, .slice (some ad279) l0_1.length c0_1] 26 (0, 0))) := ⟨g130_⟩
            have n3_ : Aside0 (((w41.setCell ⟨gb286, 0, none⟩ (.int .i64 t283)).setCell ⟨gb286, 1, none⟩ (.int .i64 t284)).heap[gb275]? = some (.cells #[.int .i64 x276000_2, .int .i64 x276001_2] 36 (0, 0))) := ⟨g131_⟩
            have n4_ : Aside0 (((w41.setCell ⟨gb286, 0, none⟩ (.int .i64 t283)).setCell ⟨gb286, 1, none⟩ (.int .i64 t284)).heap[gb286]? = some (.cells #[.int .i64 t283, .int .i64 t284] 36 (0, 0))) := ⟨g132_⟩
            have n5_ : Aside0 (Below w.heap.size w ((w41.setCell ⟨gb286, 0, none⟩ (.int .i64 t283)).setCell ⟨gb286, 1, none⟩ (.int .i64 t284))) := ⟨qz1_⟩
            (try clear HO_6)
            (try clear HO_7)
            (try clear BK265)
            (try clear BK275)
            (try clear BK286)
            (try clear HB)
            generalize ((w41.setCell ⟨gb286, 0, none⟩ (.int .i64 t283)).setCell ⟨gb286, 1, none⟩ (.int .i64 t284)) = w44 at n0_ n1_ n2_ n3_ n4_ n5_ ⊢
            have HO_6 := n0_
            have HO_7 := n1_
            have BK265 := n2_
            have BK275 := n3_
            have BK286 := n4_
            have HB := n5_
            clear n0_ n1_ n2_ n3_ n4_ n5_
            replace HO_6 := Aside0.mk (Kd.R_drew HO_6.out)
            replace HO_7 := Aside0.mk (Kd.R_drew HO_7.out)
            replace BK265 := Aside0.mk (blk_drew BK265.out)
            replace BK275 := Aside0.mk (blk_drew BK275.out)
            replace BK286 := Aside0.mk (blk_drew BK286.out)
            replace HB := Aside0.mk (below_drew1 HB.out)
            have p287 : 0 ≤ (x35_2 : Int) := of_decide_eq_true (g1_)
            have q287 : x35_2 < (l1.length : Int) := of_decide_eq_true (g1_)
            obtain ⟨ad287, e287, hx287_0, hx287_1⟩ := at_T36 HR1.out x35_2 p287 q287
            have hw287_1 := hx287_1
            have hw287_0 := hx287_0
            cases e287
            replace hx287_0 := cl_ HB hx287_0
            replace hx287_1 := cl_ HB hx287_1
            replace p287 := eq_true p287
            replace q287 := eq_true q287
            refine start_ (n := 12) (S := fun w' => w'.cell? ⟨gb286, 0, none⟩ = some (.int .i64 t283) ∧ w'.cell? ⟨gb286, 1, none⟩ = some (.int .i64 t284) ∧ w'.cell? (ad287.add ((x35_2).toNat * 2)) = some (.int .i64 ((rd_T36 l1 x35_2).f0)) ∧ w'.cell? ⟨(ad287.add ((x35_2).toNat * 2)).block, (ad287.add ((x35_2).toNat * 2)).off + 1, none⟩ = some (.int .i64 ((rd_T36 l1 x35_2).f1))) (ds := []) (tl_ 12 0) (g0_) rfl (g0_) ⟨(blk_cell BK286.out 0).trans rfl, (blk_cell BK286.out 1).trans rfl, ((cl_ HB hw287_0).trans rfl), ((cl_ HB hw287_1).trans rfl)⟩ (fun hHeld => ?_); refine with_tabW impl_gets.tab12 impl_gets.bits12 (fun HT_ HW_ => ?_)
            generalize w44.drew = w45 at HO_6 HO_7 BK265 BK275 BK286 HB hx287_0 hx287_1 hHeld ⊢
            refine pw_ 0 63 (tl_ 12 1) rfl rfl ?_
            refine pw_ 1 64 (tl_ 12 3) rfl rfl ?_
            refine pw_ 2 65 (tl_ 12 7) rfl rfl ?_
            refine tk3_ 3 66 (tl_ 12 15) rfl rfl hHeld ?_
            refine tk3_ 4 67 (tl_ 12 31) rfl rfl hHeld ?_
            refine join_ (σ := Nat) 2 (tl_ 12 1023) (fun s_ => [(68, .tuple #[.agg #[.int .i64 t288, .int .i64 t289], .bool true]), (15, .pointer (some ⟨s_, 0, none⟩)), (62, .tuple #[.agg #[.int .i64 t288, .int .i64 t289], .bool true]), (69, .agg #[.int .i64 t288, .int .i64 t289]), (70, .bool true)]) (fun s_ w' => (w'.cell? ⟨gb286, 0, none⟩ = some (.int .i64 t283) ∧ w'.cell? ⟨gb286, 1, none⟩ = some (.int .i64 t284) ∧ w'.cell? (ad287.add ((x35_2).toNat * 2)) = some (.int .i64 ((rd_T36 l1 x35_2).f0)) ∧ w'.cell? ⟨(ad287.add ((x35_2).toNat * 2)).block, (ad287.add ((x35_2).toNat * 2)).off + 1, none⟩ = some (.int .i64 ((rd_T36 l1 x35_2).f1))) ∧ (Kd.R (Kd.int .i64) 3 w' w.heap.size (fun _ => True) (.slice (some ad282) t266.length co38) t266) ∧ (Kd.R k36 36 w' w.heap.size (fun k_ => k_ ≠ gb275 ∧ k_ ≠ gb286 ∧ k_ ≠ s_) u7 x7_1) ∧ (w'.heap[gb265]? = some (.cells #[.slice (some ad272) l0_0.length c0_0, .slice (some ad279) l0_1.length c0_1] 26 (0, 0))) ∧ (w'.heap[gb275]? = some (.cells #[.int .i64 x276000_2, .int .i64 x276001_2] 36 (0, 0))) ∧ (w'.heap[gb286]? = some (.cells #[.int .i64 t283, .int .i64 t284] 36 (0, 0))) ∧ (w'.heap[s_]? = some (.cells #[.int .i64 0, .int .i64 0] 36 (0, 0))) ∧ (w.heap.size ≤ s_) ∧ (w.heap.size ≤ s_) ∧ (gb265 ≠ s_) ∧ (s_ ≠ gb265) ∧ (gb275 ≠ s_) ∧ (s_ ≠ gb275) ∧ (gb286 ≠ s_) ∧ (s_ ≠ gb286) ∧ (Below w.heap.size w w')) ?_ ?_
            rotate_left
            ·intro hCont
             refine two_ (i := 5) (j := 9) (Ni := some 68) (Nj := some 15) (tl_ 12 63) (tl_ 12 543) rfl rfl rfl rfl (two_of HT_.out (g0_)) (by decide) (by decide) (fun K hK => ?_) (fun K hK => ?_)
             ·skip
              refine goes_ Try.func93 (g0_) rfl #[.agg #[.int .i64 ((rd_T36 l1 x35_2).f0), .int .i64 ((rd_T36 l1 x35_2).f1)], .agg #[.int .i64 t283, .int .i64 t284]] (by rfl) rfl rfl (g2_) ?_
              with_reducible refine (impl_times.calls kj21 ((rd_T36 l1 x35_2).f0) ((rd_T36 l1 x35_2).f1) t283 t284 t288 t289 true _ A33.out).mono ?_
              rintro e w46 ⟨rfl, hb⟩
              refine ⟨_, rfl, ?_⟩
              replace HO_6 := Aside0.mk (Kd.R_below (uf1_ HO_6) hb)
              replace HO_7 := Aside0.mk (Kd.R_below (uf1_ HO_7) hb)
              replace BK265 := bb_ BK265 hb
              replace BK275 := bb_ BK275 hb
              replace BK286 := bb_ BK286 hb
              replace HB := Aside0.mk (below_step (qz1_) hb)
              (try clear hb)
              (try clear hk hi)
              refine hK.out _ _ ⟨(blk_cell BK286.out 0).trans rfl, (blk_cell BK286.out 1).trans rfl, ((cl_ HB hw287_0).trans rfl), ((cl_ HB hw287_1).trans rfl)⟩ (fun hHeld => ?_)
              clear hK K
              refine nm_ ?_
              refine pw_ 6 62 (tl_ 12 127) rfl rfl ?_
              refine pw_ 7 69 (tl_ 12 255) rfl rfl ?_
              refine pw_ 8 70 (tl_ 12 511) rfl rfl ?_
              refine one_ (i := 9) (N := some 15) (tl_ 12 1023) rfl rfl (one_of HT_.out (g0_)) (by decide) (fun K hK => ?_)
              refine bs_ (N := 15) #[.int .i64 0, .int .i64 0] 36 ?_
              intro gb291 hg w47 hbox hb
              replace HO_6 := Aside0.mk (Kd.R_below (uf1_ HO_6) hb)
              replace HO_7 := Aside0.mk (Kd.R_below (Kd.R_elderB (uf1_ HO_7) gb291 (Nat.le_of_eq hg.symm)) hb)
              have BK291 := Aside0.mk (hbox)
              have GW291 := Aside0.mk ((g7_ : w.heap.size ≤ gb291))
              have GE291 := Aside0.mk ((g7_ : w.heap.size ≤ gb291))
              replace HB := Aside0.mk (below_step (qz1_) hb)
              have NB265_291 := Aside0.mk ((g20_ : gb265 ≠ gb291))
              have NB291_265 := Aside0.mk ((g21_ : gb291 ≠ gb265))
              replace BK265 := bb_ BK265 hb
              have NB275_291 := Aside0.mk ((g22_ : gb275 ≠ gb291))
              have NB291_275 := Aside0.mk ((g23_ : gb291 ≠ gb275))
              replace BK275 := bb_ BK275 hb
              have NB286_291 := Aside0.mk ((g37_ : gb286 ≠ gb291))
              have NB291_286 := Aside0.mk ((g38_ : gb291 ≠ gb286))
              replace BK286 := bb_ BK286 hb
              clear hb hbox hg
              refine hK.out _ _ ⟨(blk_cell BK286.out 0).trans rfl, (blk_cell BK286.out 1).trans rfl, ((cl_ HB hw287_0).trans rfl), ((cl_ HB hw287_1).trans rfl)⟩ (fun hHeld => ?_)
              clear hK K
              refine nm_ ?_
              exact norm_ (g8_) (hCont (gb291) _ ⟨hHeld, (uf1_ HO_6), (g53_), (uf0_ BK265), (uf0_ BK275), (uf0_ BK286), (uf0_ BK291), GW291.out, GE291.out, NB265_291.out, NB291_265.out, NB275_291.out, NB291_275.out, NB286_291.out, NB291_286.out, (qz1_)⟩)
             ·skip
              refine bs_ (N := 15) #[.int .i64 0, .int .i64 0] 36 ?_
              intro gb291 hg w46 hbox hb
              replace HO_6 := Aside0.mk (Kd.R_below (uf1_ HO_6) hb)
              replace HO_7 := Aside0.mk (Kd.R_below (Kd.R_elderB (uf1_ HO_7) gb291 (Nat.le_of_eq hg.symm)) hb)
              have BK291 := Aside0.mk (hbox)
              have GW291 := Aside0.mk ((g7_ : w.heap.size ≤ gb291))
              have GE291 := Aside0.mk ((g7_ : w.heap.size ≤ gb291))
              replace HB := Aside0.mk (below_step (qz1_) hb)
              have NB265_291 := Aside0.mk ((g20_ : gb265 ≠ gb291))
              have NB291_265 := Aside0.mk ((g21_ : gb291 ≠ gb265))
              replace BK265 := bb_ BK265 hb
              have NB275_291 := Aside0.mk ((g22_ : gb275 ≠ gb291))
              have NB291_275 := Aside0.mk ((g23_ : gb291 ≠ gb275))
              replace BK275 := bb_ BK275 hb
              have NB286_291 := Aside0.mk ((g37_ : gb286 ≠ gb291))
              have NB291_286 := Aside0.mk ((g38_ : gb291 ≠ gb286))
              replace BK286 := bb_ BK286 hb
              clear hb hbox hg
              refine hK.out _ _ ⟨(blk_cell BK286.out 0).trans rfl, (blk_cell BK286.out 1).trans rfl, ((cl_ HB hw287_0).trans rfl), ((cl_ HB hw287_1).trans rfl)⟩ (fun hHeld => ?_)
              clear hK K
              refine nm_ ?_
              refine one_ (i := 5) (N := some 68) (tl_ 12 575) rfl rfl (one_of HT_.out (g0_)) (by decide) (fun K hK => ?_)
              refine goes_ Try.func93 (g0_) rfl #[.agg #[.int .i64 ((rd_T36 l1 x35_2).f0), .int .i64 ((rd_T36 l1 x35_2).f1)], .agg #[.int .i64 t283, .int .i64 t284]] (by rfl) rfl rfl (g2_) ?_
              with_reducible refine (impl_times.calls kj21 ((rd_T36 l1 x35_2).f0) ((rd_T36 l1 x35_2).f1) t283 t284 t288 t289 true _ A33.out).mono ?_
              rintro e w47 ⟨rfl, hb⟩
              refine ⟨_, rfl, ?_⟩
              replace HO_6 := Aside0.mk (Kd.R_below (uf1_ HO_6) hb)
              replace HO_7 := Aside0.mk (Kd.R_below (uf1_ HO_7) hb)
              replace BK265 := bb_ BK265 hb
              replace BK275 := bb_ BK275 hb
              replace BK286 := bb_ BK286 hb
              replace BK291 := bb_ BK291 hb
              replace HB := Aside0.mk (below_step (qz1_) hb)
              (try clear hb)
              (try clear hk hi)
              refine hK.out _ _ ⟨(blk_cell BK286.out 0).trans rfl, (blk_cell BK286.out 1).trans rfl, ((cl_ HB hw287_0).trans rfl), ((cl_ HB hw287_1).trans rfl)⟩ (fun hHeld => ?_)
              clear hK K
              refine nm_ ?_
              refine pw_ 6 62 (tl_ 12 639) rfl rfl ?_
              refine pw_ 7 69 (tl_ 12 767) rfl rfl ?_
              refine pw_ 8 70 (tl_ 12 1023) rfl rfl ?_
              exact norm_ (g8_) (hCont (gb291) _ ⟨hHeld, (uf1_ HO_6), (g53_), (uf0_ BK265), (uf0_ BK275), (uf0_ BK286), (uf0_ BK291), GW291.out, GE291.out, NB265_291.out, NB291_265.out, NB275_291.out, NB291_275.out, NB286_291.out, NB291_286.out, (qz1_)⟩)
            rintro gb291 w48 ⟨hS_, h0_, h1_, h2_, h3_, h4_, h5_, h6_, h7_, h8_, h9_, h10_, h11_, h12_, h13_, h14_⟩
            replace HO_6 : Aside0 (Kd.R (Kd.int .i64) 3 w48 w.heap.size (fun _ => True) (.slice (some ad282) t266.length co38) t266) := ⟨h0_⟩
            replace HO_7 : Aside0 (Kd.R k36 36 w48 w.heap.size (fun k_ => k_ ≠ gb275 ∧ k_ ≠ gb286 ∧ k_ ≠ gb291) u7 x7_1) := ⟨h1_⟩
            replace BK265 : Aside0 (w48.heap[gb265]? = some (.cells #[.slice (some ad272) l0_0.length c0_0, .slice (some ad279) l0_1.length c0_1] 26 (0, 0))) := ⟨h2_⟩
            replace BK275 : Aside0 (w48.heap[gb275]? = some (.cells #[.int .i64 x276000_2, .int .i64 x276001_2] 36 (0, 0))) := ⟨h3_⟩
            replace BK286 : Aside0 (w48.heap[gb286]? = some (.cells #[.int .i64 t283, .int .i64 t284] 36 (0, 0))) := ⟨h4_⟩
            have BK291 : Aside0 (w48.heap[gb291]? = some (.cells #[.int .i64 0, .int .i64 0] 36 (0, 0))) := ⟨h5_⟩
            have GW291 : Aside0 (w.heap.size ≤ gb291) := ⟨h6_⟩
            have GE291 : Aside0 (w.heap.size ≤ gb291) := ⟨h7_⟩
            have NB265_291 : Aside0 (gb265 ≠ gb291) := ⟨h8_⟩
            have NB291_265 : Aside0 (gb291 ≠ gb265) := ⟨h9_⟩
            have NB275_291 : Aside0 (gb275 ≠ gb291) := ⟨h10_⟩
            have NB291_275 : Aside0 (gb291 ≠ gb275) := ⟨h11_⟩
            have NB286_291 : Aside0 (gb286 ≠ gb291) := ⟨h12_⟩
            have NB291_286 : Aside0 (gb291 ≠ gb286) := ⟨h13_⟩
            replace HB : Aside0 (Below w.heap.size w w48) := ⟨h14_⟩
            clear h0_ h1_ h2_ h3_ h4_ h5_ h6_ h7_ h8_ h9_ h10_ h11_ h12_ h13_ h14_
            have hHeld : w48.cell? ⟨gb286, 0, none⟩ = some (.int .i64 t283) ∧ w48.cell? ⟨gb286, 1, none⟩ = some (.int .i64 t284) ∧ w48.cell? (ad287.add ((x35_2).toNat * 2)) = some (.int .i64 ((rd_T36 l1 x35_2).f0)) ∧ w48.cell? ⟨(ad287.add ((x35_2).toNat * 2)).block, (ad287.add ((x35_2).toNat * 2)).off + 1, none⟩ = some (.int .i64 ((rd_T36 l1 x35_2).f1)) := hS_
            refine norm_ (a' := ?_) ?_ ?_
            rotate_left
            ·simp only [putAll, Act.put, List.setIfInBounds_toArray, List.set_cons_zero, List.set_cons_succ]
             rfl
            refine one_ (i := 10) (N := none) (tl_ 12 2047) rfl rfl (one_of HT_.out (g0_)) (by decide) (fun K hK => ?_)
            have hs49 : w48.cell? ⟨gb291, 0, none⟩ = some (.int .i64 0) := (blk_cell BK291.out 0).trans rfl
            have hfs49 := blk_frozen BK291.out 0
            have hns49_0 := NB265_291.out
            have hns49_1 := NB275_291.out
            have hns49_2 := NB286_291.out
            have hms49_0 := NB291_265.out
            have hms49_1 := NB291_275.out
            have hms49_2 := NB291_286.out
            have hs50 : w48.cell? ⟨gb291, 1, none⟩ = some (.int .i64 0) := (blk_cell BK291.out 1).trans rfl
            have hfs50 := blk_frozen BK291.out 1
            have hns50_0 := NB265_291.out
            have hns50_1 := NB275_291.out
            have hns50_2 := NB286_291.out
            have hms50_0 := NB291_265.out
            have hms50_1 := NB291_275.out
            have hms50_2 := NB291_286.out
            refine skip_ (w1 := ?_) (by rfl) rfl ?_ ?_
            rotate_left
            ·go_simp
             rfl
            refine hK.out _ _ ⟨(cf_ NB286_291 ((cf_ NB286_291 (hHeld.1)))), (cf_ NB286_291 ((cf_ NB286_291 (hHeld.2.1)))), ((cell_far (p := ⟨gb291, _, none⟩) (by first | exact Nat.ne_of_lt (Nat.lt_of_lt_of_le (by have := World.block_lt_of_cell? _ _ hw287_0; first | rwa [add_block] at this | exact this) GW291.out) | (rw [add_block]; exact Nat.ne_of_lt (Nat.lt_of_lt_of_le (by have := World.block_lt_of_cell? _ _ hw287_0; first | rwa [add_block] at this | exact this) GW291.out)) | (show (Addr.add _ _).block ≠ _; rw [add_block]; exact Nat.ne_of_lt (Nat.lt_of_lt_of_le (by have := World.block_lt_of_cell? _ _ hw287_0; first | rwa [add_block] at this | exact this) GW291.out)) | (dsimp only; exact Nat.ne_of_lt (Nat.lt_of_lt_of_le (by have := World.block_lt_of_cell? _ _ hw287_0; first | rwa [add_block] at this | exact this) GW291.out))) _).trans (((cell_far (p := ⟨gb291, _, none⟩) (by first | exact Nat.ne_of_lt (Nat.lt_of_lt_of_le (by have := World.block_lt_of_cell? _ _ hw287_0; first | rwa [add_block] at this | exact this) GW291.out) | (rw [add_block]; exact Nat.ne_of_lt (Nat.lt_of_lt_of_le (by have := World.block_lt_of_cell? _ _ hw287_0; first | rwa [add_block] at this | exact this) GW291.out)) | (show (Addr.add _ _).block ≠ _; rw [add_block]; exact Nat.ne_of_lt (Nat.lt_of_lt_of_le (by have := World.block_lt_of_cell? _ _ hw287_0; first | rwa [add_block] at this | exact this) GW291.out)) | (dsimp only; exact Nat.ne_of_lt (Nat.lt_of_lt_of_le (by have := World.block_lt_of_cell? _ _ hw287_0; first | rwa [add_block] at this | exact this) GW291.out))) _).trans (hHeld.2.2.1)))), ((cell_far (p := ⟨gb291, _, none⟩) (by first | exact Nat.ne_of_lt (Nat.lt_of_lt_of_le (by have := World.block_lt_of_cell? _ _ hw287_1; first | rwa [add_block] at this | exact this) GW291.out) | (rw [add_block]; exact Nat.ne_of_lt (Nat.lt_of_lt_of_le (by have := World.block_lt_of_cell? _ _ hw287_1; first | rwa [add_block] at this | exact this) GW291.out)) | (show (Addr.add _ _).block ≠ _; rw [add_block]; exact Nat.ne_of_lt (Nat.lt_of_lt_of_le (by have := World.block_lt_of_cell? _ _ hw287_1; first | rwa [add_block] at this | exact this) GW291.out)) | (dsimp only; exact Nat.ne_of_lt (Nat.lt_of_lt_of_le (by have := World.block_lt_of_cell? _ _ hw287_1; first | rwa [add_block] at this | exact this) GW291.out))) _).trans (((cell_far (p := ⟨gb291, _, none⟩) (by first | exact Nat.ne_of_lt (Nat.lt_of_lt_of_le (by have := World.block_lt_of_cell? _ _ hw287_1; first | rwa [add_block] at this | exact this) GW291.out) | (rw [add_block]; exact Nat.ne_of_lt (Nat.lt_of_lt_of_le (by have := World.block_lt_of_cell? _ _ hw287_1; first | rwa [add_block] at this | exact this) GW291.out)) | (show (Addr.add _ _).block ≠ _; rw [add_block]; exact Nat.ne_of_lt (Nat.lt_of_lt_of_le (by have := World.block_lt_of_cell? _ _ hw287_1; first | rwa [add_block] at this | exact this) GW291.out)) | (dsimp only; exact Nat.ne_of_lt (Nat.lt_of_lt_of_le (by have := World.block_lt_of_cell? _ _ hw287_1; first | rwa [add_block] at this | exact this) GW291.out))) _).trans (hHeld.2.2.2))))⟩ (fun hHeld => ?_)
            clear hK K
            refine pw_ 11 16 (tl_ 12 4095) rfl rfl ?_
            refine done_ (done_of HT_.out (g0_)) ?_
            have hnb51 := NB275_265.out
            have hnc51 := NB265_275.out
            have hnb52 := NB275_286.out
            have hnc52 := NB286_275.out
            have hnb53 := NB275_291.out
            have hnc53 := NB291_275.out
            obtain ⟨hcz54_0, hcz54_1, hfz54_0, hfz54_1⟩ := blk2_ BK275
            have hnb55 := NB291_265.out
            have hnc55 := NB265_291.out
            have hnb56 := NB291_286.out
            have hnc56 := NB286_291.out
            obtain ⟨hcz57_0, hcz57_1, hfz57_0, hfz57_1⟩ := blk2_ BK291
            try go_wp2_with (first | ((with_reducible refine gate_callee (f := 81) rfl ?_); refine goesL_ (some 74) rfl rfl Try.func81 k_ rfl #[.agg #[.int .i64 x276000_2, .int .i64 x276001_2], .agg #[.int .i64 t288, .int .i64 t289]] rfl (g2_) ?_; (with_reducible refine (impl_plus.calls kj21 x276000_2 x276001_2 t288 t289 t292 t293 true _ A34.out).mono ?_); rintro e w58 ⟨rfl, hb⟩; refine ⟨_, rfl, ?_⟩; replace HO_6 := Aside0.mk (Kd.R_below (g133_) hb); replace HO_7 := Aside0.mk (Kd.R_below (g134_) hb); replace BK265 := Aside0.mk (blk_below (g := gb265) (o := .cells #[.slice (some ad272) l0_0.length c0_0, .slice (some ad279) l0_1.length c0_1] 26 (0, 0)) (g135_) hb); replace BK275 := Aside0.mk (blk_below (g := gb275) (o := .cells #[.int .i64 x276000_2, .int .i64 x276001_2] 36 (0, 0)) (g136_) hb); replace BK286 := Aside0.mk (blk_below (g := gb286) (o := .cells #[.int .i64 t283, .int .i64 t284] 36 (0, 0)) (g137_) hb); replace BK291 := Aside0.mk (blk_below (g := gb291) (o := .cells #[.int .i64 t288, .int .i64 t289] 36 (0, 0)) (g138_) hb); replace HB := Aside0.mk (below_step (qz1_) hb); (try clear hb); (try clear hk hi)) | ((with_reducible refine gate_dst (N := 17) rfl ?_); refine bx_ (N := 17) #[.int .i64 0, .int .i64 0] 36 ?_; intro gb295 hg w59 hbox hb; replace HO_6 := Aside0.mk (Kd.R_below (uf1_ HO_6) hb); replace HO_7 := Aside0.mk (Kd.R_below (Kd.R_elderB (uf1_ HO_7) gb295 (Nat.le_of_eq hg.symm)) hb); have BK295 := Aside0.mk (hbox); have GW295 := Aside0.mk ((g7_ : w.heap.size ≤ gb295)); have GE295 := Aside0.mk ((g7_ : w.heap.size ≤ gb295)); replace HB := Aside0.mk (below_step (qz1_) hb); have NB265_295 := Aside0.mk ((g20_ : gb265 ≠ gb295)); have NB295_265 := Aside0.mk ((g21_ : gb295 ≠ gb265)); replace BK265 := bb_ BK265 hb; have NB275_295 := Aside0.mk ((g22_ : gb275 ≠ gb295)); have NB295_275 := Aside0.mk ((g23_ : gb295 ≠ gb275)); replace BK275 := bb_ BK275 hb; have NB286_295 := Aside0.mk ((g37_ : gb286 ≠ gb295)); have NB295_286 := Aside0.mk ((g38_ : gb295 ≠ gb286)); replace BK286 := bb_ BK286 hb; have NB291_295 := Aside0.mk ((g139_ : gb291 ≠ gb295)); have NB295_291 := Aside0.mk ((g140_ : gb295 ≠ gb291)); replace BK291 := bb_ BK291 hb; clear hb hbox hg; have hnb60 := NB295_265.out; have hnc60 := NB265_295.out; have hnb61 := NB295_275.out; have hnc61 := NB275_295.out; have hnb62 := NB295_286.out; have hnc62 := NB286_295.out; have hnb63 := NB295_291.out; have hnc63 := NB291_295.out; obtain ⟨hcz64_0, hcz64_1, hfz64_0, hfz64_1⟩ := blk2_ BK295; obtain ⟨hcz65_0, hcz65_1, hfz65_0, hfz65_1⟩ := blk2_ BK275))
            go_roundg kj21
            case measure => have := HK1.out; have := HK2.out; have := HJ21.out; omega
            case rel => exact ⟨(wrap64 (x35_2 + 1)), (t292), (t293), (g3_), H', ⟨by have := HK1.out; have := HK2.out; have := HJ21.out; omega⟩, ⟨by (with_reducible repeat (first | apply Kd.R_alloc | apply Kd.R_drewN | apply Kd.R_drew)); exact Kd.R_mono (Kd.R_far (p := ⟨gb275, 1, none⟩) (Kd.R_far (p := ⟨gb275, 0, none⟩) (Kd.R_far (p := ⟨gb295, 1, none⟩) (Kd.R_far (p := ⟨gb295, 0, none⟩) (Kd.R_types (Kd.R_types HO_6.out BK295.out (by decide)) BK275.out (by decide)) (fun _ hk => hk.1.2) (.int .i64 t292)) (fun _ hk => hk.1.2) (.int .i64 t293)) (fun _ hk => hk.2) (.int .i64 t292)) (fun _ hk => hk.2) (.int .i64 t293)) (fun _ hk => trivial)⟩, ⟨by (with_reducible repeat (first | apply Kd.R_alloc | apply Kd.R_drewN | apply Kd.R_drew)); exact Kd.R_mono (Kd.R_far (p := ⟨gb275, 1, none⟩) (Kd.R_far (p := ⟨gb275, 0, none⟩) (Kd.R_far (p := ⟨gb295, 1, none⟩) (Kd.R_far (p := ⟨gb295, 0, none⟩) (Kd.R_mono (Kd.R_mono HO_7.out (fun k_ hk => (⟨hk, hk.2⟩ : _ ∧ k_ ≠ gb295))) (fun k_ hk => (⟨hk, hk.1.1.1⟩ : _ ∧ k_ ≠ gb275))) (fun _ hk => hk.1.2) (.int .i64 t292)) (fun _ hk => hk.1.2) (.int .i64 t293)) (fun _ hk => hk.2) (.int .i64 t292)) (fun _ hk => hk.2) (.int .i64 t293)) (fun _ hk => hk.1.1.1.1)⟩, ⟨by (with_reducible repeat (first | refine blk_drewN ?_ _ | refine blk_drew ?_ | refine blk_alloc ?_ _)); refine blk_far ?_ NB265_275.out _; (with_reducible repeat (first | refine blk_drewN ?_ _ | refine blk_drew ?_ | refine blk_alloc ?_ _)); refine blk_far ?_ NB265_275.out _; (with_reducible repeat (first | refine blk_drewN ?_ _ | refine blk_drew ?_ | refine blk_alloc ?_ _)); refine blk_far ?_ NB265_295.out _; (with_reducible repeat (first | refine blk_drewN ?_ _ | refine blk_drew ?_ | refine blk_alloc ?_ _)); refine blk_far ?_ NB265_295.out _; (with_reducible repeat (first | refine blk_drewN ?_ _ | refine blk_drew ?_ | refine blk_alloc ?_ _)); exact BK265.out⟩, ⟨by (with_reducible repeat (first | refine blk_drewN ?_ _ | refine blk_drew ?_ | refine blk_alloc ?_ _)); refine blk_put (cs := #[.int .i64 t292, .int .i64 x276001_2]) ?_ 1 _ rfl; (with_reducible repeat (first | refine blk_drewN ?_ _ | refine blk_drew ?_ | refine blk_alloc ?_ _)); refine blk_put (cs := #[.int .i64 x276000_2, .int .i64 x276001_2]) ?_ 0 _ rfl; (with_reducible repeat (first | refine blk_drewN ?_ _ | refine blk_drew ?_ | refine blk_alloc ?_ _)); refine blk_far ?_ NB275_295.out _; (with_reducible repeat (first | refine blk_drewN ?_ _ | refine blk_drew ?_ | refine blk_alloc ?_ _)); refine blk_far ?_ NB275_295.out _; (with_reducible repeat (first | refine blk_drewN ?_ _ | refine blk_drew ?_ | refine blk_alloc ?_ _)); exact BK275.out⟩, ⟨qz1_⟩⟩
           ·replace c36 := Bool.eq_false_iff.mpr c36
            subst c36
            replace H := ifn_ H
            simp only [Option.some.injEq, Prod.mk.injEq] at H
            obtain ⟨rfl, rfl⟩ := H
            try go_wp2
            replace HO_6 := Aside0.mk (Kd.R_drew HO_6.out)
            replace HO_7 := Aside0.mk (Kd.R_drew HO_7.out)
            replace BK265 := Aside0.mk (blk_drew BK265.out)
            replace BK275 := Aside0.mk (blk_drew BK275.out)
            replace HB := Aside0.mk (below_drew1 HB.out)
            have p281 : 0 ≤ (x25_1 : Int) := of_decide_eq_true (g1_)
            have q281 : x25_1 < ((rd_L2 l0_1 x35_2).length : Int) := of_decide_eq_true (g1_)
            obtain ⟨ad281, e281, hx281_0⟩ := Kd.at_int HR279_0.out x25_1 p281 q281
            have hw281_0 := hx281_0
            cases e281
            replace hx281_0 := cl_ HB hx281_0
            replace p281 := eq_true p281
            replace q281 := eq_true q281
            obtain ⟨Ao67, co67, eo67⟩ := Kd.R_slice HO_6.out
            (first | subst eo67 | (injection eo67 with f1_ f2_ f3_; have f4_ := f1_.symm; have f5_ := f3_.symm; clear f1_ f2_ f3_; subst f4_; subst f5_))
            have p282 : 0 ≤ (x35_2 : Int) := of_decide_eq_true (g1_)
            have q282 : x35_2 < (t266.length : Int) := of_decide_eq_true (g1_)
            obtain ⟨ad282, e282, hx282_0⟩ := Kd.at_int (Kd.R_reads' HO_6.out).2.2 x35_2 p282 q282
            cases e282
            replace p282 := eq_true p282
            replace q282 := eq_true q282
            refine start_ (n := 15) (S := fun w' => w'.cell? (ad281.add (x25_1).toNat) = some (.int .i64 (rd (rd_L2 l0_1 x35_2) x25_1)) ∧ w'.cell? (ad282.add (x35_2).toNat) = some (.int .i64 (rd t266 x35_2))) (ds := []) (tl_ 15 0) (g0_) rfl (g0_) ⟨((cl_ HB hw281_0).trans rfl), hx282_0⟩ (fun hHeld => ?_); refine with_tabW impl_gets.tab11 impl_gets.bits11 (fun HT_ HW_ => ?_)
            generalize wc.drew = w66 at HO_6 HO_7 BK265 BK275 HB hx281_0 hx282_0 hHeld ⊢
            refine pw_ 0 51 (tl_ 15 1) rfl rfl ?_
            refine pw_ 1 52 (tl_ 15 3) rfl rfl ?_
            refine pw_ 2 53 (tl_ 15 7) rfl rfl ?_
            refine pw_ 4 55 (tl_ 15 23) rfl rfl ?_
            refine pw_ 5 56 (tl_ 15 55) rfl rfl ?_
            refine pw_ 6 57 (tl_ 15 119) rfl rfl ?_
            refine tk0_ 3 54 (tl_ 15 127) rfl rfl hHeld ?_
            refine tk0_ 7 58 (tl_ 15 255) rfl rfl hHeld ?_
            refine join_ (σ := Nat) 2 (tl_ 15 8191) (fun s_ => [(59, .tuple #[.agg #[.int .i64 t283, .int .i64 t284], .bool t285]), (13, .pointer (some ⟨s_, 0, none⟩)), (50, .tuple #[.agg #[.int .i64 t283, .int .i64 t284], .bool t285]), (60, .agg #[.int .i64 t283, .int .i64 t284]), (61, .bool t285)]) (fun s_ w' => (w'.cell? (ad281.add (x25_1).toNat) = some (.int .i64 (rd (rd_L2 l0_1 x35_2) x25_1)) ∧ w'.cell? (ad282.add (x35_2).toNat) = some (.int .i64 (rd t266 x35_2))) ∧ (Kd.R (Kd.int .i64) 3 w' w.heap.size (fun _ => True) (.slice (some ad282) t266.length co67) t266) ∧ (Kd.R k36 36 w' w.heap.size (fun k_ => k_ ≠ gb275 ∧ k_ ≠ s_) u7 x7_1) ∧ (w'.heap[gb265]? = some (.cells #[.slice (some ad272) l0_0.length c0_0, .slice (some ad279) l0_1.length c0_1] 26 (0, 0))) ∧ (w'.heap[gb275]? = some (.cells #[.int .i64 x276000_2, .int .i64 x276001_2] 36 (0, 0))) ∧ (w'.heap[s_]? = some (.cells #[.int .i64 0, .int .i64 0] 36 (0, 0))) ∧ (w.heap.size ≤ s_) ∧ (w.heap.size ≤ s_) ∧ (gb265 ≠ s_) ∧ (s_ ≠ gb265) ∧ (gb275 ≠ s_) ∧ (s_ ≠ gb275) ∧ (Below w.heap.size w w')) ?_ ?_
            rotate_left
            ·intro hCont
             refine two_ (i := 8) (j := 12) (Ni := some 59) (Nj := some 13) (tl_ 15 511) (tl_ 15 4351) rfl rfl rfl rfl (two_of HT_.out (g0_)) (by decide) (by decide) (fun K hK => ?_) (fun K hK => ?_)
             ·skip
              refine goes_ Try.func92 (g0_) rfl #[.int .i64 (rd (rd_L2 l0_1 x35_2) x25_1), .int .i64 (rd t266 x35_2)] (by rfl) rfl rfl (g2_) ?_
              with_reducible refine (impl_lowest.calls kj21 (rd (rd_L2 l0_1 x35_2) x25_1) (rd t266 x35_2) t283 t284 t285 _ A31.out).mono ?_
              rintro e w68 ⟨rfl, hb⟩
              have HS1_ := (hb.cell (World.block_lt_of_cell? _ _ (hHeld.2))).trans (hHeld.2)
              refine ⟨_, rfl, ?_⟩
              replace HO_6 := Aside0.mk (Kd.R_below (uf1_ HO_6) hb)
              replace HO_7 := Aside0.mk (Kd.R_below (uf1_ HO_7) hb)
              replace BK265 := bb_ BK265 hb
              replace BK275 := bb_ BK275 hb
              replace HB := Aside0.mk (below_step (qz1_) hb)
              (try clear hb)
              (try clear hk hi)
              refine hK.out _ _ ⟨((cl_ HB hw281_0).trans rfl), HS1_⟩ (fun hHeld => ?_)
              clear hK K
              refine nm_ ?_
              refine pw_ 9 50 (tl_ 15 1023) rfl rfl ?_
              refine pw_ 10 60 (tl_ 15 2047) rfl rfl ?_
              refine pw_ 11 61 (tl_ 15 4095) rfl rfl ?_
              refine one_ (i := 12) (N := some 13) (tl_ 15 8191) rfl rfl (one_of HT_.out (g0_)) (by decide) (fun K hK => ?_)
              refine bs_ (N := 13) #[.int .i64 0, .int .i64 0] 36 ?_
              intro gb286 hg w69 hbox hb
              have HS1_ := (hb.cell (World.block_lt_of_cell? _ _ (hHeld.2))).trans (hHeld.2)
              replace HO_6 := Aside0.mk (Kd.R_below (uf1_ HO_6) hb)
              replace HO_7 := Aside0.mk (Kd.R_below (Kd.R_elderB (uf1_ HO_7) gb286 (Nat.le_of_eq hg.symm)) hb)
              have BK286 := Aside0.mk (hbox)
              have GW286 := Aside0.mk ((g7_ : w.heap.size ≤ gb286))
              have GE286 := Aside0.mk ((g7_ : w.heap.size ≤ gb286))
              replace HB := Aside0.mk (below_step (qz1_) hb)
              have NB265_286 := Aside0.mk ((g20_ : gb265 ≠ gb286))
              have NB286_265 := Aside0.mk ((g21_ : gb286 ≠ gb265))
              replace BK265 := bb_ BK265 hb
              have NB275_286 := Aside0.mk ((g22_ : gb275 ≠ gb286))
              have NB286_275 := Aside0.mk ((g23_ : gb286 ≠ gb275))
              replace BK275 := bb_ BK275 hb
              clear hb hbox hg
              refine hK.out _ _ ⟨((cl_ HB hw281_0).trans rfl), HS1_⟩ (fun hHeld => ?_)
              clear hK K
              refine nm_ ?_
              exact norm_ (g8_) (hCont (gb286) _ ⟨hHeld, (uf1_ HO_6), (uf1_ HO_7), (uf0_ BK265), (uf0_ BK275), (uf0_ BK286), GW286.out, GE286.out, NB265_286.out, NB286_265.out, NB275_286.out, NB286_275.out, (qz1_)⟩)
             ·skip
              refine bs_ (N := 13) #[.int .i64 0, .int .i64 0] 36 ?_
              intro gb286 hg w68 hbox hb
              have HS1_ := (hb.cell (World.block_lt_of_cell? _ _ (hHeld.2))).trans (hHeld.2)
              replace HO_6 := Aside0.mk (Kd.R_below (uf1_ HO_6) hb)
              replace HO_7 := Aside0.mk (Kd.R_below (Kd.R_elderB (uf1_ HO_7) gb286 (Nat.le_of_eq hg.symm)) hb)
              have BK286 := Aside0.mk (hbox)
              have GW286 := Aside0.mk ((g7_ : w.heap.size ≤ gb286))
              have GE286 := Aside0.mk ((g7_ : w.heap.size ≤ gb286))
              replace HB := Aside0.mk (below_step (qz1_) hb)
              have NB265_286 := Aside0.mk ((g20_ : gb265 ≠ gb286))
              have NB286_265 := Aside0.mk ((g21_ : gb286 ≠ gb265))
              replace BK265 := bb_ BK265 hb
              have NB275_286 := Aside0.mk ((g22_ : gb275 ≠ gb286))
              have NB286_275 := Aside0.mk ((g23_ : gb286 ≠ gb275))
              replace BK275 := bb_ BK275 hb
              clear hb hbox hg
              refine hK.out _ _ ⟨((cl_ HB hw281_0).trans rfl), HS1_⟩ (fun hHeld => ?_)
              clear hK K
              refine nm_ ?_
              refine one_ (i := 8) (N := some 59) (tl_ 15 4607) rfl rfl (one_of HT_.out (g0_)) (by decide) (fun K hK => ?_)
              refine goes_ Try.func92 (g0_) rfl #[.int .i64 (rd (rd_L2 l0_1 x35_2) x25_1), .int .i64 (rd t266 x35_2)] (by rfl) rfl rfl (g2_) ?_
              with_reducible refine (impl_lowest.calls kj21 (rd (rd_L2 l0_1 x35_2) x25_1) (rd t266 x35_2) t283 t284 t285 _ A31.out).mono ?_
              rintro e w69 ⟨rfl, hb⟩
              have HS1_ := (hb.cell (World.block_lt_of_cell? _ _ (hHeld.2))).trans (hHeld.2)
              refine ⟨_, rfl, ?_⟩
              replace HO_6 := Aside0.mk (Kd.R_below (uf1_ HO_6) hb)
              replace HO_7 := Aside0.mk (Kd.R_below (uf1_ HO_7) hb)
              replace BK265 := bb_ BK265 hb
              replace BK275 := bb_ BK275 hb
              replace BK286 := bb_ BK286 hb
              replace HB := Aside0.mk (below_step (qz1_) hb)
              (try clear hb)
              (try clear hk hi)
              refine hK.out _ _ ⟨((cl_ HB hw281_0).trans rfl), HS1_⟩ (fun hHeld => ?_)
              clear hK K
              refine nm_ ?_
              refine pw_ 9 50 (tl_ 15 5119) rfl rfl ?_
              refine pw_ 10 60 (tl_ 15 6143) rfl rfl ?_
              refine pw_ 11 61 (tl_ 15 8191) rfl rfl ?_
              exact norm_ (g8_) (hCont (gb286) _ ⟨hHeld, (uf1_ HO_6), (uf1_ HO_7), (uf0_ BK265), (uf0_ BK275), (uf0_ BK286), GW286.out, GE286.out, NB265_286.out, NB286_265.out, NB275_286.out, NB286_275.out, (qz1_)⟩)
            rintro gb286 w70 ⟨hS_, h0_, h1_, h2_, h3_, h4_, h5_, h6_, h7_, h8_, h9_, h10_, h11_⟩
            replace HO_6 : Aside0 (Kd.R (Kd.int .i64) 3 w70 w.heap.size (fun _ => True) (.slice (some ad282) t266.length co67) t266) := ⟨h0_⟩
            replace HO_7 : Aside0 (Kd.R k36 36 w70 w.heap.size (fun k_ => k_ ≠ gb275 ∧ k_ ≠ gb286) u7 x7_1) := ⟨h1_⟩
            replace BK265 : Aside0 (w70.heap[gb265]? = some (.cells #[.slice (some ad272) l0_0.length c0_0, .slice (some ad279) l0_1.length c0_1] 26 (0, 0))) := ⟨h2_⟩
            replace BK275 : Aside0 (w70.heap[gb275]? = some (.cells #[.int .i64 x276000_2, .int .i64 x276001_2] 36 (0, 0))) := ⟨h3_⟩
            have BK286 : Aside0 (w70.heap[gb286]? = some (.cells #[.int .i64 0, .int .i64 0] 36 (0, 0))) := ⟨h4_⟩
            have GW286 : Aside0 (w.heap.size ≤ gb286) := ⟨h5_⟩
            have GE286 : Aside0 (w.heap.size ≤ gb286) := ⟨h6_⟩
            have NB265_286 : Aside0 (gb265 ≠ gb286) := ⟨h7_⟩
            have NB286_265 : Aside0 (gb286 ≠ gb265) := ⟨h8_⟩
            have NB275_286 : Aside0 (gb275 ≠ gb286) := ⟨h9_⟩
            have NB286_275 : Aside0 (gb286 ≠ gb275) := ⟨h10_⟩
            replace HB : Aside0 (Below w.heap.size w w70) := ⟨h11_⟩
            clear h0_ h1_ h2_ h3_ h4_ h5_ h6_ h7_ h8_ h9_ h10_ h11_
            have hHeld : w70.cell? (ad281.add (x25_1).toNat) = some (.int .i64 (rd (rd_L2 l0_1 x35_2) x25_1)) ∧ w70.cell? (ad282.add (x35_2).toNat) = some (.int .i64 (rd t266 x35_2)) := hS_
            refine norm_ (a' := ?_) ?_ ?_
            rotate_left
            ·simp only [putAll, Act.put, List.setIfInBounds_toArray, List.set_cons_zero, List.set_cons_succ]
             rfl
            refine one_ (i := 13) (N := none) (tl_ 15 16383) rfl rfl (one_of HT_.out (g0_)) (by decide) (fun K hK => ?_)
            have hs71 : w70.cell? ⟨gb286, 0, none⟩ = some (.int .i64 0) := (blk_cell BK286.out 0).trans rfl
            have hfs71 := blk_frozen BK286.out 0
            have hns71_0 := NB265_286.out
            have hns71_1 := NB275_286.out
            have hms71_0 := NB286_265.out
            have hms71_1 := NB286_275.out
            have hs72 : w70.cell? ⟨gb286, 1, none⟩ = some (.int .i64 0) := (blk_cell BK286.out 1).trans rfl
            have hfs72 := blk_frozen BK286.out 1
            have hns72_0 := NB265_286.out
            have hns72_1 := NB275_286.out
            have hms72_0 := NB286_265.out
            have hms72_1 := NB286_275.out
            refine skip_ (w1 := ?_) (by rfl) rfl ?_ ?_
            rotate_left
            ·go_simp
             rfl
            refine hK.out _ _ ⟨((cell_far (p := ⟨gb286, _, none⟩) (by first | exact Nat.ne_of_lt (Nat.lt_of_lt_of_le (by have := World.block_lt_of_cell? _ _ hw281_0; first | rwa [add_block] at this | exact this) GW286.out) | (rw [add_block]; exact Nat.ne_of_lt (Nat.lt_of_lt_of_le (by have := World.block_lt_of_cell? _ _ hw281_0; first | rwa [add_block] at this | exact this) GW286.out)) | (show (Addr.add _ _).block ≠ _; rw [add_block]; exact Nat.ne_of_lt (Nat.lt_of_lt_of_le (by have := World.block_lt_of_cell? _ _ hw281_0; first | rwa [add_block] at this | exact this) GW286.out)) | (dsimp only; exact Nat.ne_of_lt (Nat.lt_of_lt_of_le (by have := World.block_lt_of_cell? _ _ hw281_0; first | rwa [add_block] at this | exact this) GW286.out))) _).trans (((cell_far (p := ⟨gb286, _, none⟩) (by first | exact Nat.ne_of_lt (Nat.lt_of_lt_of_le (by have := World.block_lt_of_cell? _ _ hw281_0; first | rwa [add_block] at this | exact this) GW286.out) | (rw [add_block]; exact Nat.ne_of_lt (Nat.lt_of_lt_of_le (by have := World.block_lt_of_cell? _ _ hw281_0; first | rwa [add_block] at this | exact this) GW286.out)) | (show (Addr.add _ _).block ≠ _; rw [add_block]; exact Nat.ne_of_lt (Nat.lt_of_lt_of_le (by have := World.block_lt_of_cell? _ _ hw281_0; first | rwa [add_block] at this | exact this) GW286.out)) | (dsimp only; exact Nat.ne_of_lt (Nat.lt_of_lt_of_le (by have := World.block_lt_of_cell? _ _ hw281_0; first | rwa [add_block] at this | exact this) GW286.out))) _).trans (hHeld.1)))), ((cell_far (p := ⟨gb286, _, none⟩) (g52_) _).trans (((cell_far (p := ⟨gb286, _, none⟩) (g52_) _).trans (hHeld.2))))⟩ (fun hHeld => ?_)
            clear hK K
            refine pw_ 14 14 (tl_ 15 32767) rfl rfl ?_
            refine done_ (done_of HT_.out (g0_)) ?_
            try go_wp2
            have n0_ : Aside0 (Kd.R (Kd.int .i64) 3 ((w70.setCell ⟨gb286, 0, none⟩ (.int .i64 t283)).setCell ⟨gb286, 1, none⟩ (.int .i64 t284)) w.heap.size (fun _ => True) (.slice (some ad282) t266.length co67) t266) := ⟨g128_⟩
            have n1_ : Aside0 (Kd.R k36 36 ((w70.setCell ⟨gb286, 0, none⟩ (.int .i64 t283)).setCell ⟨gb286, 1, none⟩ (.int .i64 t284)) w.heap.size (fun k_ => k_ ≠ gb275 ∧ k_ ≠ gb286) u7 x7_1) := ⟨g129_⟩
            have n2_ : Aside0 (((w70.setCell ⟨gb286, 0, none⟩ (.int .i64 t283)).setCell ⟨gb286, 1, none⟩ (.int .i64 t284)).heap[gb265]? = some (.cells #[.slice (some ad272) l0_0.length c0_0, .slice (some ad279) l0_1.length c0_1] 26 (0, 0))) := ⟨g130_⟩
            have n3_ : Aside0 (((w70.setCell ⟨gb286, 0, none⟩ (.int .i64 t283)).setCell ⟨gb286, 1, none⟩ (.int .i64 t284)).heap[gb275]? = some (.cells #[.int .i64 x276000_2, .int .i64 x276001_2] 36 (0, 0))) := ⟨g131_⟩
            have n4_ : Aside0 (((w70.setCell ⟨gb286, 0, none⟩ (.int .i64 t283)).setCell ⟨gb286, 1, none⟩ (.int .i64 t284)).heap[gb286]? = some (.cells #[.int .i64 t283, .int .i64 t284] 36 (0, 0))) := ⟨g132_⟩
            have n5_ : Aside0 (Below w.heap.size w ((w70.setCell ⟨gb286, 0, none⟩ (.int .i64 t283)).setCell ⟨gb286, 1, none⟩ (.int .i64 t284))) := ⟨qz1_⟩
            (try clear HO_6)
            (try clear HO_7)
            (try clear BK265)
            (try clear BK275)
            (try clear BK286)
            (try clear HB)
            generalize ((w70.setCell ⟨gb286, 0, none⟩ (.int .i64 t283)).setCell ⟨gb286, 1, none⟩ (.int .i64 t284)) = w73 at n0_ n1_ n2_ n3_ n4_ n5_ ⊢
            have HO_6 := n0_
            have HO_7 := n1_
            have BK265 := n2_
            have BK275 := n3_
            have BK286 := n4_
            have HB := n5_
            clear n0_ n1_ n2_ n3_ n4_ n5_
            replace HO_6 := Aside0.mk (Kd.R_drew HO_6.out)
            replace HO_7 := Aside0.mk (Kd.R_drew HO_7.out)
            replace BK265 := Aside0.mk (blk_drew BK265.out)
            replace BK275 := Aside0.mk (blk_drew BK275.out)
            replace BK286 := Aside0.mk (blk_drew BK286.out)
            replace HB := Aside0.mk (below_drew1 HB.out)
            have p287 : 0 ≤ (x35_2 : Int) := of_decide_eq_true (g1_)
            have q287 : x35_2 < (l1.length : Int) := of_decide_eq_true (g1_)
            obtain ⟨ad287, e287, hx287_0, hx287_1⟩ := at_T36 HR1.out x35_2 p287 q287
            have hw287_1 := hx287_1
            have hw287_0 := hx287_0
            cases e287
            replace hx287_0 := cl_ HB hx287_0
            replace hx287_1 := cl_ HB hx287_1
            replace p287 := eq_true p287
            replace q287 := eq_true q287
            refine start_ (n := 12) (S := fun w' => w'.cell? ⟨gb286, 0, none⟩ = some (.int .i64 t283) ∧ w'.cell? ⟨gb286, 1, none⟩ = some (.int .i64 t284) ∧ w'.cell? (ad287.add ((x35_2).toNat * 2)) = some (.int .i64 ((rd_T36 l1 x35_2).f0)) ∧ w'.cell? ⟨(ad287.add ((x35_2).toNat * 2)).block, (ad287.add ((x35_2).toNat * 2)).off + 1, none⟩ = some (.int .i64 ((rd_T36 l1 x35_2).f1))) (ds := []) (tl_ 12 0) (g0_) rfl (g0_) ⟨(blk_cell BK286.out 0).trans rfl, (blk_cell BK286.out 1).trans rfl, ((cl_ HB hw287_0).trans rfl), ((cl_ HB hw287_1).trans rfl)⟩ (fun hHeld => ?_); refine with_tabW impl_gets.tab12 impl_gets.bits12 (fun HT_ HW_ => ?_)
            generalize w73.drew = w74 at HO_6 HO_7 BK265 BK275 BK286 HB hx287_0 hx287_1 hHeld ⊢
            refine pw_ 0 63 (tl_ 12 1) rfl rfl ?_
            refine pw_ 1 64 (tl_ 12 3) rfl rfl ?_
            refine pw_ 2 65 (tl_ 12 7) rfl rfl ?_
            refine tk3_ 3 66 (tl_ 12 15) rfl rfl hHeld ?_
            refine tk3_ 4 67 (tl_ 12 31) rfl rfl hHeld ?_
            refine join_ (σ := Nat) 2 (tl_ 12 1023) (fun s_ => [(68, .tuple #[.agg #[.int .i64 t288, .int .i64 t289], .bool true]), (15, .pointer (some ⟨s_, 0, none⟩)), (62, .tuple #[.agg #[.int .i64 t288, .int .i64 t289], .bool true]), (69, .agg #[.int .i64 t288, .int .i64 t289]), (70, .bool true)]) (fun s_ w' => (w'.cell? ⟨gb286, 0, none⟩ = some (.int .i64 t283) ∧ w'.cell? ⟨gb286, 1, none⟩ = some (.int .i64 t284) ∧ w'.cell? (ad287.add ((x35_2).toNat * 2)) = some (.int .i64 ((rd_T36 l1 x35_2).f0)) ∧ w'.cell? ⟨(ad287.add ((x35_2).toNat * 2)).block, (ad287.add ((x35_2).toNat * 2)).off + 1, none⟩ = some (.int .i64 ((rd_T36 l1 x35_2).f1))) ∧ (Kd.R (Kd.int .i64) 3 w' w.heap.size (fun _ => True) (.slice (some ad282) t266.length co67) t266) ∧ (Kd.R k36 36 w' w.heap.size (fun k_ => k_ ≠ gb275 ∧ k_ ≠ gb286 ∧ k_ ≠ s_) u7 x7_1) ∧ (w'.heap[gb265]? = some (.cells #[.slice (some ad272) l0_0.length c0_0, .slice (some ad279) l0_1.length c0_1] 26 (0, 0))) ∧ (w'.heap[gb275]? = some (.cells #[.int .i64 x276000_2, .int .i64 x276001_2] 36 (0, 0))) ∧ (w'.heap[gb286]? = some (.cells #[.int .i64 t283, .int .i64 t284] 36 (0, 0))) ∧ (w'.heap[s_]? = some (.cells #[.int .i64 0, .int .i64 0] 36 (0, 0))) ∧ (w.heap.size ≤ s_) ∧ (w.heap.size ≤ s_) ∧ (gb265 ≠ s_) ∧ (s_ ≠ gb265) ∧ (gb275 ≠ s_) ∧ (s_ ≠ gb275) ∧ (gb286 ≠ s_) ∧ (s_ ≠ gb286) ∧ (Below w.heap.size w w')) ?_ ?_
            rotate_left
            ·intro hCont
             refine two_ (i := 5) (j := 9) (Ni := some 68) (Nj := some 15) (tl_ 12 63) (tl_ 12 543) rfl rfl rfl rfl (two_of HT_.out (g0_)) (by decide) (by decide) (fun K hK => ?_) (fun K hK => ?_)
             ·skip
              refine goes_ Try.func93 (g0_) rfl #[.agg #[.int .i64 ((rd_T36 l1 x35_2).f0), .int .i64 ((rd_T36 l1 x35_2).f1)], .agg #[.int .i64 t283, .int .i64 t284]] (by rfl) rfl rfl (g2_) ?_
              with_reducible refine (impl_times.calls kj21 ((rd_T36 l1 x35_2).f0) ((rd_T36 l1 x35_2).f1) t283 t284 t288 t289 true _ A33.out).mono ?_
              rintro e w75 ⟨rfl, hb⟩
              refine ⟨_, rfl, ?_⟩
              replace HO_6 := Aside0.mk (Kd.R_below (uf1_ HO_6) hb)
              replace HO_7 := Aside0.mk (Kd.R_below (uf1_ HO_7) hb)
              replace BK265 := bb_ BK265 hb
              replace BK275 := bb_ BK275 hb
              replace BK286 := bb_ BK286 hb
              replace HB := Aside0.mk (below_step (qz1_) hb)
              (try clear hb)
              (try clear hk hi)
              refine hK.out _ _ ⟨(blk_cell BK286.out 0).trans rfl, (blk_cell BK286.out 1).trans rfl, ((cl_ HB hw287_0).trans rfl), ((cl_ HB hw287_1).trans rfl)⟩ (fun hHeld => ?_)
              clear hK K
              refine nm_ ?_
              refine pw_ 6 62 (tl_ 12 127) rfl rfl ?_
              refine pw_ 7 69 (tl_ 12 255) rfl rfl ?_
              refine pw_ 8 70 (tl_ 12 511) rfl rfl ?_
              refine one_ (i := 9) (N := some 15) (tl_ 12 1023) rfl rfl (one_of HT_.out (g0_)) (by decide) (fun K hK => ?_)
              refine bs_ (N := 15) #[.int .i64 0, .int .i64 0] 36 ?_
              intro gb291 hg w76 hbox hb
              replace HO_6 := Aside0.mk (Kd.R_below (uf1_ HO_6) hb)
              replace HO_7 := Aside0.mk (Kd.R_below (Kd.R_elderB (uf1_ HO_7) gb291 (Nat.le_of_eq hg.symm)) hb)
              have BK291 := Aside0.mk (hbox)
              have GW291 := Aside0.mk ((g7_ : w.heap.size ≤ gb291))
              have GE291 := Aside0.mk ((g7_ : w.heap.size ≤ gb291))
              replace HB := Aside0.mk (below_step (qz1_) hb)
              have NB265_291 := Aside0.mk ((g20_ : gb265 ≠ gb291))
              have NB291_265 := Aside0.mk ((g21_ : gb291 ≠ gb265))
              replace BK265 := bb_ BK265 hb
              have NB275_291 := Aside0.mk ((g22_ : gb275 ≠ gb291))
              have NB291_275 := Aside0.mk ((g23_ : gb291 ≠ gb275))
              replace BK275 := bb_ BK275 hb
              have NB286_291 := Aside0.mk ((g37_ : gb286 ≠ gb291))
              have NB291_286 := Aside0.mk ((g38_ : gb291 ≠ gb286))
              replace BK286 := bb_ BK286 hb
              clear hb hbox hg
              refine hK.out _ _ ⟨(blk_cell BK286.out 0).trans rfl, (blk_cell BK286.out 1).trans rfl, ((cl_ HB hw287_0).trans rfl), ((cl_ HB hw287_1).trans rfl)⟩ (fun hHeld => ?_)
              clear hK K
              refine nm_ ?_
              exact norm_ (g8_) (hCont (gb291) _ ⟨hHeld, (uf1_ HO_6), (g53_), (uf0_ BK265), (uf0_ BK275), (uf0_ BK286), (uf0_ BK291), GW291.out, GE291.out, NB265_291.out, NB291_265.out, NB275_291.out, NB291_275.out, NB286_291.out, NB291_286.out, (qz1_)⟩)
             ·skip
              refine bs_ (N := 15) #[.int .i64 0, .int .i64 0] 36 ?_
              intro gb291 hg w75 hbox hb
              replace HO_6 := Aside0.mk (Kd.R_below (uf1_ HO_6) hb)
              replace HO_7 := Aside0.mk (Kd.R_below (Kd.R_elderB (uf1_ HO_7) gb291 (Nat.le_of_eq hg.symm)) hb)
              have BK291 := Aside0.mk (hbox)
              have GW291 := Aside0.mk ((g7_ : w.heap.size ≤ gb291))
              have GE291 := Aside0.mk ((g7_ : w.heap.size ≤ gb291))
              replace HB := Aside0.mk (below_step (qz1_) hb)
              have NB265_291 := Aside0.mk ((g20_ : gb265 ≠ gb291))
              have NB291_265 := Aside0.mk ((g21_ : gb291 ≠ gb265))
              replace BK265 := bb_ BK265 hb
              have NB275_291 := Aside0.mk ((g22_ : gb275 ≠ gb291))
              have NB291_275 := Aside0.mk ((g23_ : gb291 ≠ gb275))
              replace BK275 := bb_ BK275 hb
              have NB286_291 := Aside0.mk ((g37_ : gb286 ≠ gb291))
              have NB291_286 := Aside0.mk ((g38_ : gb291 ≠ gb286))
              replace BK286 := bb_ BK286 hb
              clear hb hbox hg
              refine hK.out _ _ ⟨(blk_cell BK286.out 0).trans rfl, (blk_cell BK286.out 1).trans rfl, ((cl_ HB hw287_0).trans rfl), ((cl_ HB hw287_1).trans rfl)⟩ (fun hHeld => ?_)
              clear hK K
              refine nm_ ?_
              refine one_ (i := 5) (N := some 68) (tl_ 12 575) rfl rfl (one_of HT_.out (g0_)) (by decide) (fun K hK => ?_)
              refine goes_ Try.func93 (g0_) rfl #[.agg #[.int .i64 ((rd_T36 l1 x35_2).f0), .int .i64 ((rd_T36 l1 x35_2).f1)], .agg #[.int .i64 t283, .int .i64 t284]] (by rfl) rfl rfl (g2_) ?_
              with_reducible refine (impl_times.calls kj21 ((rd_T36 l1 x35_2).f0) ((rd_T36 l1 x35_2).f1) t283 t284 t288 t289 true _ A33.out).mono ?_
              rintro e w76 ⟨rfl, hb⟩
              refine ⟨_, rfl, ?_⟩
              replace HO_6 := Aside0.mk (Kd.R_below (uf1_ HO_6) hb)
              replace HO_7 := Aside0.mk (Kd.R_below (uf1_ HO_7) hb)
              replace BK265 := bb_ BK265 hb
              replace BK275 := bb_ BK275 hb
              replace BK286 := bb_ BK286 hb
              replace BK291 := bb_ BK291 hb
              replace HB := Aside0.mk (below_step (qz1_) hb)
              (try clear hb)
              (try clear hk hi)
              refine hK.out _ _ ⟨(blk_cell BK286.out 0).trans rfl, (blk_cell BK286.out 1).trans rfl, ((cl_ HB hw287_0).trans rfl), ((cl_ HB hw287_1).trans rfl)⟩ (fun hHeld => ?_)
              clear hK K
              refine nm_ ?_
              refine pw_ 6 62 (tl_ 12 639) rfl rfl ?_
              refine pw_ 7 69 (tl_ 12 767) rfl rfl ?_
              refine pw_ 8 70 (tl_ 12 1023) rfl rfl ?_
              exact norm_ (g8_) (hCont (gb291) _ ⟨hHeld, (uf1_ HO_6), (g53_), (uf0_ BK265), (uf0_ BK275), (uf0_ BK286), (uf0_ BK291), GW291.out, GE291.out, NB265_291.out, NB291_265.out, NB275_291.out, NB291_275.out, NB286_291.out, NB291_286.out, (qz1_)⟩)
            rintro gb291 w77 ⟨hS_, h0_, h1_, h2_, h3_, h4_, h5_, h6_, h7_, h8_, h9_, h10_, h11_, h12_, h13_, h14_⟩
            replace HO_6 : Aside0 (Kd.R (Kd.int .i64) 3 w77 w.heap.size (fun _ => True) (.slice (some ad282) t266.length co67) t266) := ⟨h0_⟩
            replace HO_7 : Aside0 (Kd.R k36 36 w77 w.heap.size (fun k_ => k_ ≠ gb275 ∧ k_ ≠ gb286 ∧ k_ ≠ gb291) u7 x7_1) := ⟨h1_⟩
            replace BK265 : Aside0 (w77.heap[gb265]? = some (.cells #[.slice (some ad272) l0_0.length c0_0, .slice (some ad279) l0_1.length c0_1] 26 (0, 0))) := ⟨h2_⟩
            replace BK275 : Aside0 (w77.heap[gb275]? = some (.cells #[.int .i64 x276000_2, .int .i64 x276001_2] 36 (0, 0))) := ⟨h3_⟩
            replace BK286 : Aside0 (w77.heap[gb286]? = some (.cells #[.int .i64 t283, .int .i64 t284] 36 (0, 0))) := ⟨h4_⟩
            have BK291 : Aside0 (w77.heap[gb291]? = some (.cells #[.int .i64 0, .int .i64 0] 36 (0, 0))) := ⟨h5_⟩
            have GW291 : Aside0 (w.heap.size ≤ gb291) := ⟨h6_⟩
            have GE291 : Aside0 (w.heap.size ≤ gb291) := ⟨h7_⟩
            have NB265_291 : Aside0 (gb265 ≠ gb291) := ⟨h8_⟩
            have NB291_265 : Aside0 (gb291 ≠ gb265) := ⟨h9_⟩
            have NB275_291 : Aside0 (gb275 ≠ gb291) := ⟨h10_⟩
            have NB291_275 : Aside0 (gb291 ≠ gb275) := ⟨h11_⟩
            have NB286_291 : Aside0 (gb286 ≠ gb291) := ⟨h12_⟩
            have NB291_286 : Aside0 (gb291 ≠ gb286) := ⟨h13_⟩
            replace HB : Aside0 (Below w.heap.size w w77) := ⟨h14_⟩
            clear h0_ h1_ h2_ h3_ h4_ h5_ h6_ h7_ h8_ h9_ h10_ h11_ h12_ h13_ h14_
            have hHeld : w77.cell? ⟨gb286, 0, none⟩ = some (.int .i64 t283) ∧ w77.cell? ⟨gb286, 1, none⟩ = some (.int .i64 t284) ∧ w77.cell? (ad287.add ((x35_2).toNat * 2)) = some (.int .i64 ((rd_T36 l1 x35_2).f0)) ∧ w77.cell? ⟨(ad287.add ((x35_2).toNat * 2)).block, (ad287.add ((x35_2).toNat * 2)).off + 1, none⟩ = some (.int .i64 ((rd_T36 l1 x35_2).f1)) := hS_
            refine norm_ (a' := ?_) ?_ ?_
            rotate_left
            ·simp only [putAll, Act.put, List.setIfInBounds_toArray, List.set_cons_zero, List.set_cons_succ]
             rfl
            refine one_ (i := 10) (N := none) (tl_ 12 2047) rfl rfl (one_of HT_.out (g0_)) (by decide) (fun K hK => ?_)
            have hs78 : w77.cell? ⟨gb291, 0, none⟩ = some (.int .i64 0) := (blk_cell BK291.out 0).trans rfl
            have hfs78 := blk_frozen BK291.out 0
            have hns78_0 := NB265_291.out
            have hns78_1 := NB275_291.out
            have hns78_2 := NB286_291.out
            have hms78_0 := NB291_265.out
            have hms78_1 := NB291_275.out
            have hms78_2 := NB291_286.out
            have hs79 : w77.cell? ⟨gb291, 1, none⟩ = some (.int .i64 0) := (blk_cell BK291.out 1).trans rfl
            have hfs79 := blk_frozen BK291.out 1
            have hns79_0 := NB265_291.out
            have hns79_1 := NB275_291.out
            have hns79_2 := NB286_291.out
            have hms79_0 := NB291_265.out
            have hms79_1 := NB291_275.out
            have hms79_2 := NB291_286.out
            refine skip_ (w1 := ?_) (by rfl) rfl ?_ ?_
            rotate_left
            ·go_simp
             rfl
            refine hK.out _ _ ⟨(cf_ NB286_291 ((cf_ NB286_291 (hHeld.1)))), (cf_ NB286_291 ((cf_ NB286_291 (hHeld.2.1)))), ((cell_far (p := ⟨gb291, _, none⟩) (by first | exact Nat.ne_of_lt (Nat.lt_of_lt_of_le (by have := World.block_lt_of_cell? _ _ hw287_0; first | rwa [add_block] at this | exact this) GW291.out) | (rw [add_block]; exact Nat.ne_of_lt (Nat.lt_of_lt_of_le (by have := World.block_lt_of_cell? _ _ hw287_0; first | rwa [add_block] at this | exact this) GW291.out)) | (show (Addr.add _ _).block ≠ _; rw [add_block]; exact Nat.ne_of_lt (Nat.lt_of_lt_of_le (by have := World.block_lt_of_cell? _ _ hw287_0; first | rwa [add_block] at this | exact this) GW291.out)) | (dsimp only; exact Nat.ne_of_lt (Nat.lt_of_lt_of_le (by have := World.block_lt_of_cell? _ _ hw287_0; first | rwa [add_block] at this | exact this) GW291.out))) _).trans (((cell_far (p := ⟨gb291, _, none⟩) (by first | exact Nat.ne_of_lt (Nat.lt_of_lt_of_le (by have := World.block_lt_of_cell? _ _ hw287_0; first | rwa [add_block] at this | exact this) GW291.out) | (rw [add_block]; exact Nat.ne_of_lt (Nat.lt_of_lt_of_le (by have := World.block_lt_of_cell? _ _ hw287_0; first | rwa [add_block] at this | exact this) GW291.out)) | (show (Addr.add _ _).block ≠ _; rw [add_block]; exact Nat.ne_of_lt (Nat.lt_of_lt_of_le (by have := World.block_lt_of_cell? _ _ hw287_0; first | rwa [add_block] at this | exact this) GW291.out)) | (dsimp only; exact Nat.ne_of_lt (Nat.lt_of_lt_of_le (by have := World.block_lt_of_cell? _ _ hw287_0; first | rwa [add_block] at this | exact this) GW291.out))) _).trans (hHeld.2.2.1)))), ((cell_far (p := ⟨gb291, _, none⟩) (by first | exact Nat.ne_of_lt (Nat.lt_of_lt_of_le (by have := World.block_lt_of_cell? _ _ hw287_1; first | rwa [add_block] at this | exact this) GW291.out) | (rw [add_block]; exact Nat.ne_of_lt (Nat.lt_of_lt_of_le (by have := World.block_lt_of_cell? _ _ hw287_1; first | rwa [add_block] at this | exact this) GW291.out)) | (show (Addr.add _ _).block ≠ _; rw [add_block]; exact Nat.ne_of_lt (Nat.lt_of_lt_of_le (by have := World.block_lt_of_cell? _ _ hw287_1; first | rwa [add_block] at this | exact this) GW291.out)) | (dsimp only; exact Nat.ne_of_lt (Nat.lt_of_lt_of_le (by have := World.block_lt_of_cell? _ _ hw287_1; first | rwa [add_block] at this | exact this) GW291.out))) _).trans (((cell_far (p := ⟨gb291, _, none⟩) (by first | exact Nat.ne_of_lt (Nat.lt_of_lt_of_le (by have := World.block_lt_of_cell? _ _ hw287_1; first | rwa [add_block] at this | exact this) GW291.out) | (rw [add_block]; exact Nat.ne_of_lt (Nat.lt_of_lt_of_le (by have := World.block_lt_of_cell? _ _ hw287_1; first | rwa [add_block] at this | exact this) GW291.out)) | (show (Addr.add _ _).block ≠ _; rw [add_block]; exact Nat.ne_of_lt (Nat.lt_of_lt_of_le (by have := World.block_lt_of_cell? _ _ hw287_1; first | rwa [add_block] at this | exact this) GW291.out)) | (dsimp only; exact Nat.ne_of_lt (Nat.lt_of_lt_of_le (by have := World.block_lt_of_cell? _ _ hw287_1; first | rwa [add_block] at this | exact this) GW291.out))) _).trans (hHeld.2.2.2))))⟩ (fun hHeld => ?_)
            clear hK K
            refine pw_ 11 16 (tl_ 12 4095) rfl rfl ?_
            refine done_ (done_of HT_.out (g0_)) ?_
            have hnb80 := NB275_265.out
            have hnc80 := NB265_275.out
            have hnb81 := NB275_286.out
            have hnc81 := NB286_275.out
            have hnb82 := NB275_291.out
            have hnc82 := NB291_275.out
            obtain ⟨hcz83_0, hcz83_1, hfz83_0, hfz83_1⟩ := blk2_ BK275
            have hnb84 := NB291_265.out
            have hnc84 := NB265_291.out
            have hnb85 := NB291_286.out
            have hnc85 := NB286_291.out
            obtain ⟨hcz86_0, hcz86_1, hfz86_0, hfz86_1⟩ := blk2_ BK291
            try go_wp2_with (first | ((with_reducible refine gate_callee (f := 81) rfl ?_); refine goesL_ (some 74) rfl rfl Try.func81 k_ rfl #[.agg #[.int .i64 x276000_2, .int .i64 x276001_2], .agg #[.int .i64 t288, .int .i64 t289]] rfl (g2_) ?_; (with_reducible refine (impl_plus.calls kj21 x276000_2 x276001_2 t288 t289 t292 t293 false _ A34.out).mono ?_); rintro e w87 ⟨rfl, hb⟩; refine ⟨_, rfl, ?_⟩; replace HO_6 := Aside0.mk (Kd.R_below (g133_) hb); replace HO_7 := Aside0.mk (Kd.R_below (g134_) hb); replace BK265 := Aside0.mk (blk_below (g := gb265) (o := .cells #[.slice (some ad272) l0_0.length c0_0, .slice (some ad279) l0_1.length c0_1] 26 (0, 0)) (g135_) hb); replace BK275 := Aside0.mk (blk_below (g := gb275) (o := .cells #[.int .i64 x276000_2, .int .i64 x276001_2] 36 (0, 0)) (g136_) hb); replace BK286 := Aside0.mk (blk_below (g := gb286) (o := .cells #[.int .i64 t283, .int .i64 t284] 36 (0, 0)) (g137_) hb); replace BK291 := Aside0.mk (blk_below (g := gb291) (o := .cells #[.int .i64 t288, .int .i64 t289] 36 (0, 0)) (g138_) hb); replace HB := Aside0.mk (below_step (qz1_) hb); (try clear hb); (try clear hk hi)) | ((with_reducible refine gate_dst (N := 17) rfl ?_); refine bx_ (N := 17) #[.int .i64 0, .int .i64 0] 36 ?_; intro gb295 hg w88 hbox hb; replace HO_6 := Aside0.mk (Kd.R_below (uf1_ HO_6) hb); replace HO_7 := Aside0.mk (Kd.R_below (Kd.R_elderB (uf1_ HO_7) gb295 (Nat.le_of_eq hg.symm)) hb); have BK295 := Aside0.mk (hbox); have GW295 := Aside0.mk ((g7_ : w.heap.size ≤ gb295)); have GE295 := Aside0.mk ((g7_ : w.heap.size ≤ gb295)); replace HB := Aside0.mk (below_step (qz1_) hb); have NB265_295 := Aside0.mk ((g20_ : gb265 ≠ gb295)); have NB295_265 := Aside0.mk ((g21_ : gb295 ≠ gb265)); replace BK265 := bb_ BK265 hb; have NB275_295 := Aside0.mk ((g22_ : gb275 ≠ gb295)); have NB295_275 := Aside0.mk ((g23_ : gb295 ≠ gb275)); replace BK275 := bb_ BK275 hb; have NB286_295 := Aside0.mk ((g37_ : gb286 ≠ gb295)); have NB295_286 := Aside0.mk ((g38_ : gb295 ≠ gb286)); replace BK286 := bb_ BK286 hb; have NB291_295 := Aside0.mk ((g139_ : gb291 ≠ gb295)); have NB295_291 := Aside0.mk ((g140_ : gb295 ≠ gb291)); replace BK291 := bb_ BK291 hb; clear hb hbox hg; have hnb89 := NB295_265.out; have hnc89 := NB265_295.out; have hnb90 := NB295_275.out; have hnc90 := NB275_295.out; have hnb91 := NB295_286.out; have hnc91 := NB286_295.out; have hnb92 := NB295_291.out; have hnc92 := NB291_295.out; obtain ⟨hcz93_0, hcz93_1, hfz93_0, hfz93_1⟩ := blk2_ BK295))
            go_ret2
            exact ⟨_, g4_, g29_, qz1_⟩
          ·replace c35 := Bool.eq_false_iff.mpr c35
           subst c35
           replace H := ifn_ H
           simp only [Option.some.injEq, Prod.mk.injEq] at H
           obtain ⟨rfl, rfl⟩ := H
           try go_wp2
           replace HO_6 := Aside0.mk (Kd.R_drew HO_6.out)
           replace HO_7 := Aside0.mk (Kd.R_drew HO_7.out)
           replace BK265 := Aside0.mk (blk_drew BK265.out)
           replace BK275 := Aside0.mk (blk_drew BK275.out)
           replace HB := Aside0.mk (below_drew1 HB.out)
           have p281 : 0 ≤ (x25_1 : Int) := of_decide_eq_true (g1_)
           have q281 : x25_1 < ((rd_L2 l0_1 x35_2).length : Int) := of_decide_eq_true (g1_)
           obtain ⟨ad281, e281, hx281_0⟩ := Kd.at_int HR279_0.out x25_1 p281 q281
           have hw281_0 := hx281_0
           cases e281
           replace hx281_0 := cl_ HB hx281_0
           replace p281 := eq_true p281
           replace q281 := eq_true q281
           obtain ⟨Ao95, co95, eo95⟩ := Kd.R_slice HO_6.out
           (first | subst eo95 | (injection eo95 with f1_ f2_ f3_; have f4_ := f1_.symm; have f5_ := f3_.symm; clear f1_ f2_ f3_; subst f4_; subst f5_))
           have p282 : 0 ≤ (x35_2 : Int) := of_decide_eq_true (g1_)
           have q282 : x35_2 < (t266.length : Int) := of_decide_eq_true (g1_)
           obtain ⟨ad282, e282, hx282_0⟩ := Kd.at_int (Kd.R_reads' HO_6.out).2.2 x35_2 p282 q282
           cases e282
           replace p282 := eq_true p282
           replace q282 := eq_true q282
           refine start_ (n := 15) (S := fun w' => w'.cell? (ad281.add (x25_1).toNat) = some (.int .i64 (rd (rd_L2 l0_1 x35_2) x25_1)) ∧ w'.cell? (ad282.add (x35_2).toNat) = some (.int .i64 (rd t266 x35_2))) (ds := []) (tl_ 15 0) (g0_) rfl (g0_) ⟨((cl_ HB hw281_0).trans rfl), hx282_0⟩ (fun hHeld => ?_); refine with_tabW impl_gets.tab11 impl_gets.bits11 (fun HT_ HW_ => ?_)
           generalize wc.drew = w94 at HO_6 HO_7 BK265 BK275 HB hx281_0 hx282_0 hHeld ⊢
           refine pw_ 0 51 (tl_ 15 1) rfl rfl ?_
           refine pw_ 1 52 (tl_ 15 3) rfl rfl ?_
           refine pw_ 2 53 (tl_ 15 7) rfl rfl ?_
           refine pw_ 4 55 (tl_ 15 23) rfl rfl ?_
           refine pw_ 5 56 (tl_ 15 55) rfl rfl ?_
           refine pw_ 6 57 (tl_ 15 119) rfl rfl ?_
           refine tk0_ 3 54 (tl_ 15 127) rfl rfl hHeld ?_
           refine tk0_ 7 58 (tl_ 15 255) rfl rfl hHeld ?_
           refine join_ (σ := Nat) 2 (tl_ 15 8191) (fun s_ => [(59, .tuple #[.agg #[.int .i64 t283, .int .i64 t284], .bool t285]), (13, .pointer (some ⟨s_, 0, none⟩)), (50, .tuple #[.agg #[.int .i64 t283, .int .i64 t284], .bool t285]), (60, .agg #[.int .i64 t283, .int .i64 t284]), (61, .bool t285)]) (fun s_ w' => (w'.cell? (ad281.add (x25_1).toNat) = some (.int .i64 (rd (rd_L2 l0_1 x35_2) x25_1)) ∧ w'.cell? (ad282.add (x35_2).toNat) = some (.int .i64 (rd t266 x35_2))) ∧ (Kd.R (Kd.int .i64) 3 w' w.heap.size (fun _ => True) (.slice (some ad282) t266.length co95) t266) ∧ (Kd.R k36 36 w' w.heap.size (fun k_ => k_ ≠ gb275 ∧ k_ ≠ s_) u7 x7_1) ∧ (w'.heap[gb265]? = some (.cells #[.slice (some ad272) l0_0.length c0_0, .slice (some ad279) l0_1.length c0_1] 26 (0, 0))) ∧ (w'.heap[gb275]? = some (.cells #[.int .i64 x276000_2, .int .i64 x276001_2] 36 (0, 0))) ∧ (w'.heap[s_]? = some (.cells #[.int .i64 0, .int .i64 0] 36 (0, 0))) ∧ (w.heap.size ≤ s_) ∧ (w.heap.size ≤ s_) ∧ (gb265 ≠ s_) ∧ (s_ ≠ gb265) ∧ (gb275 ≠ s_) ∧ (s_ ≠ gb275) ∧ (Below w.heap.size w w')) ?_ ?_
           rotate_left
           ·intro hCont
            refine two_ (i := 8) (j := 12) (Ni := some 59) (Nj := some 13) (tl_ 15 511) (tl_ 15 4351) rfl rfl rfl rfl (two_of HT_.out (g0_)) (by decide) (by decide) (fun K hK => ?_) (fun K hK => ?_)
            ·skip
             refine goes_ Try.func92 (g0_) rfl #[.int .i64 (rd (rd_L2 l0_1 x35_2) x25_1), .int .i64 (rd t266 x35_2)] (by rfl) rfl rfl (g2_) ?_
             with_reducible refine (impl_lowest.calls kj21 (rd (rd_L2 l0_1 x35_2) x25_1) (rd t266 x35_2) t283 t284 t285 _ A31.out).mono ?_
             rintro e w96 ⟨rfl, hb⟩
             have HS1_ := (hb.cell (World.block_lt_of_cell? _ _ (hHeld.2))).trans (hHeld.2)
             refine ⟨_, rfl, ?_⟩
             replace HO_6 := Aside0.mk (Kd.R_below (uf1_ HO_6) hb)
             replace HO_7 := Aside0.mk (Kd.R_below (uf1_ HO_7) hb)
             replace BK265 := bb_ BK265 hb
             replace BK275 := bb_ BK275 hb
             replace HB := Aside0.mk (below_step (qz1_) hb)
             (try clear hb)
             (try clear hk hi)
             refine hK.out _ _ ⟨((cl_ HB hw281_0).trans rfl), HS1_⟩ (fun hHeld => ?_)
             clear hK K
             refine nm_ ?_
             refine pw_ 9 50 (tl_ 15 1023) rfl rfl ?_
             refine pw_ 10 60 (tl_ 15 2047) rfl rfl ?_
             refine pw_ 11 61 (tl_ 15 4095) rfl rfl ?_
             refine one_ (i := 12) (N := some 13) (tl_ 15 8191) rfl rfl (one_of HT_.out (g0_)) (by decide) (fun K hK => ?_)
             refine bs_ (N := 13) #[.int .i64 0, .int .i64 0] 36 ?_
             intro gb286 hg w97 hbox hb
             have HS1_ := (hb.cell (World.block_lt_of_cell? _ _ (hHeld.2))).trans (hHeld.2)
             replace HO_6 := Aside0.mk (Kd.R_below (uf1_ HO_6) hb)
             replace HO_7 := Aside0.mk (Kd.R_below (Kd.R_elderB (uf1_ HO_7) gb286 (Nat.le_of_eq hg.symm)) hb)
             have BK286 := Aside0.mk (hbox)
             have GW286 := Aside0.mk ((g7_ : w.heap.size ≤ gb286))
             have GE286 := Aside0.mk ((g7_ : w.heap.size ≤ gb286))
             replace HB := Aside0.mk (below_step (qz1_) hb)
             have NB265_286 := Aside0.mk ((g20_ : gb265 ≠ gb286))
             have NB286_265 := Aside0.mk ((g21_ : gb286 ≠ gb265))
             replace BK265 := bb_ BK265 hb
             have NB275_286 := Aside0.mk ((g22_ : gb275 ≠ gb286))
             have NB286_275 := Aside0.mk ((g23_ : gb286 ≠ gb275))
             replace BK275 := bb_ BK275 hb
             clear hb hbox hg
             refine hK.out _ _ ⟨((cl_ HB hw281_0).trans rfl), HS1_⟩ (fun hHeld => ?_)
             clear hK K
             refine nm_ ?_
             exact norm_ (g8_) (hCont (gb286) _ ⟨hHeld, (uf1_ HO_6), (uf1_ HO_7), (uf0_ BK265), (uf0_ BK275), (uf0_ BK286), GW286.out, GE286.out, NB265_286.out, NB286_265.out, NB275_286.out, NB286_275.out, (qz1_)⟩)
            ·skip
             refine bs_ (N := 13) #[.int .i64 0, .int .i64 0] 36 ?_
             intro gb286 hg w96 hbox hb
             have HS1_ := (hb.cell (World.block_lt_of_cell? _ _ (hHeld.2))).trans (hHeld.2)
             replace HO_6 := Aside0.mk (Kd.R_below (uf1_ HO_6) hb)
             replace HO_7 := Aside0.mk (Kd.R_below (Kd.R_elderB (uf1_ HO_7) gb286 (Nat.le_of_eq hg.symm)) hb)
             have BK286 := Aside0.mk (hbox)
             have GW286 := Aside0.mk ((g7_ : w.heap.size ≤ gb286))
             have GE286 := Aside0.mk ((g7_ : w.heap.size ≤ gb286))
             replace HB := Aside0.mk (below_step (qz1_) hb)
             have NB265_286 := Aside0.mk ((g20_ : gb265 ≠ gb286))
             have NB286_265 := Aside0.mk ((g21_ : gb286 ≠ gb265))
             replace BK265 := bb_ BK265 hb
             have NB275_286 := Aside0.mk ((g22_ : gb275 ≠ gb286))
             have NB286_275 := Aside0.mk ((g23_ : gb286 ≠ gb275))
             replace BK275 := bb_ BK275 hb
             clear hb hbox hg
             refine hK.out _ _ ⟨((cl_ HB hw281_0).trans rfl), HS1_⟩ (fun hHeld => ?_)
             clear hK K
             refine nm_ ?_
             refine one_ (i := 8) (N := some 59) (tl_ 15 4607) rfl rfl (one_of HT_.out (g0_)) (by decide) (fun K hK => ?_)
             refine goes_ Try.func92 (g0_) rfl #[.int .i64 (rd (rd_L2 l0_1 x35_2) x25_1), .int .i64 (rd t266 x35_2)] (by rfl) rfl rfl (g2_) ?_
             with_reducible refine (impl_lowest.calls kj21 (rd (rd_L2 l0_1 x35_2) x25_1) (rd t266 x35_2) t283 t284 t285 _ A31.out).mono ?_
             rintro e w97 ⟨rfl, hb⟩
             have HS1_ := (hb.cell (World.block_lt_of_cell? _ _ (hHeld.2))).trans (hHeld.2)
             refine ⟨_, rfl, ?_⟩
             replace HO_6 := Aside0.mk (Kd.R_below (uf1_ HO_6) hb)
             replace HO_7 := Aside0.mk (Kd.R_below (uf1_ HO_7) hb)
             replace BK265 := bb_ BK265 hb
             replace BK275 := bb_ BK275 hb
             replace BK286 := bb_ BK286 hb
             replace HB := Aside0.mk (below_step (qz1_) hb)
             (try clear hb)
             (try clear hk hi)
             refine hK.out _ _ ⟨((cl_ HB hw281_0).trans rfl), HS1_⟩ (fun hHeld => ?_)
             clear hK K
             refine nm_ ?_
             refine pw_ 9 50 (tl_ 15 5119) rfl rfl ?_
             refine pw_ 10 60 (tl_ 15 6143) rfl rfl ?_
             refine pw_ 11 61 (tl_ 15 8191) rfl rfl ?_
             exact norm_ (g8_) (hCont (gb286) _ ⟨hHeld, (uf1_ HO_6), (uf1_ HO_7), (uf0_ BK265), (uf0_ BK275), (uf0_ BK286), GW286.out, GE286.out, NB265_286.out, NB286_265.out, NB275_286.out, NB286_275.out, (qz1_)⟩)
           rintro gb286 w98 ⟨hS_, h0_, h1_, h2_, h3_, h4_, h5_, h6_, h7_, h8_, h9_, h10_, h11_⟩
           replace HO_6 : Aside0 (Kd.R (Kd.int .i64) 3 w98 w.heap.size (fun _ => True) (.slice (some ad282) t266.length co95) t266) := ⟨h0_⟩
           replace HO_7 : Aside0 (Kd.R k36 36 w98 w.heap.size (fun k_ => k_ ≠ gb275 ∧ k_ ≠ gb286) u7 x7_1) := ⟨h1_⟩
           replace BK265 : Aside0 (w98.heap[gb265]? = some (.cells #[.slice (some ad272) l0_0.length c0_0, .slice (some ad279) l0_1.length c0_1] 26 (0, 0))) := ⟨h2_⟩
           replace BK275 : Aside0 (w98.heap[gb275]? = some (.cells #[.int .i64 x276000_2, .int .i64 x276001_2] 36 (0, 0))) := ⟨h3_⟩
           have BK286 : Aside0 (w98.heap[gb286]? = some (.cells #[.int .i64 0, .int .i64 0] 36 (0, 0))) := ⟨h4_⟩
           have GW286 : Aside0 (w.heap.size ≤ gb286) := ⟨h5_⟩
           have GE286 : Aside0 (w.heap.size ≤ gb286) := ⟨h6_⟩
           have NB265_286 : Aside0 (gb265 ≠ gb286) := ⟨h7_⟩
           have NB286_265 : Aside0 (gb286 ≠ gb265) := ⟨h8_⟩
           have NB275_286 : Aside0 (gb275 ≠ gb286) := ⟨h9_⟩
           have NB286_275 : Aside0 (gb286 ≠ gb275) := ⟨h10_⟩
           replace HB : Aside0 (Below w.heap.size w w98) := ⟨h11_⟩
           clear h0_ h1_ h2_ h3_ h4_ h5_ h6_ h7_ h8_ h9_ h10_ h11_
           have hHeld : w98.cell? (ad281.add (x25_1).toNat) = some (.int .i64 (rd (rd_L2 l0_1 x35_2) x25_1)) ∧ w98.cell? (ad282.add (x35_2).toNat) = some (.int .i64 (rd t266 x35_2)) := hS_
           refine norm_ (a' := ?_) ?_ ?_
           rotate_left
           ·simp only [putAll, Act.put, List.setIfInBounds_toArray, List.set_cons_zero, List.set_cons_succ]
            rfl
           refine one_ (i := 13) (N := none) (tl_ 15 16383) rfl rfl (one_of HT_.out (g0_)) (by decide) (fun K hK => ?_)
           have hs99 : w98.cell? ⟨gb286, 0, none⟩ = some (.int .i64 0) := (blk_cell BK286.out 0).trans rfl
           have hfs99 := blk_frozen BK286.out 0
           have hns99_0 := NB265_286.out
           have hns99_1 := NB275_286.out
           have hms99_0 := NB286_265.out
           have hms99_1 := NB286_275.out
           have hs100 : w98.cell? ⟨gb286, 1, none⟩ = some (.int .i64 0) := (blk_cell BK286.out 1).trans rfl
           have hfs100 := blk_frozen BK286.out 1
           have hns100_0 := NB265_286.out
           have hns100_1 := NB275_286.out
           have hms100_0 := NB286_265.out
           have hms100_1 := NB286_275.out
           refine skip_ (w1 := ?_) (by rfl) rfl ?_ ?_
           rotate_left
           ·go_simp
            rfl
           refine hK.out _ _ ⟨((cell_far (p := ⟨gb286, _, none⟩) (by first | exact Nat.ne_of_lt (Nat.lt_of_lt_of_le (by have := World.block_lt_of_cell? _ _ hw281_0; first | rwa [add_block] at this | exact this) GW286.out) | (rw [add_block]; exact Nat.ne_of_lt (Nat.lt_of_lt_of_le (by have := World.block_lt_of_cell? _ _ hw281_0; first | rwa [add_block] at this | exact this) GW286.out)) | (show (Addr.add _ _).block ≠ _; rw [add_block]; exact Nat.ne_of_lt (Nat.lt_of_lt_of_le (by have := World.block_lt_of_cell? _ _ hw281_0; first | rwa [add_block] at this | exact this) GW286.out)) | (dsimp only; exact Nat.ne_of_lt (Nat.lt_of_lt_of_le (by have := World.block_lt_of_cell? _ _ hw281_0; first | rwa [add_block] at this | exact this) GW286.out))) _).trans (((cell_far (p := ⟨gb286, _, none⟩) (by first | exact Nat.ne_of_lt (Nat.lt_of_lt_of_le (by have := World.block_lt_of_cell? _ _ hw281_0; first | rwa [add_block] at this | exact this) GW286.out) | (rw [add_block]; exact Nat.ne_of_lt (Nat.lt_of_lt_of_le (by have := World.block_lt_of_cell? _ _ hw281_0; first | rwa [add_block] at this | exact this) GW286.out)) | (show (Addr.add _ _).block ≠ _; rw [add_block]; exact Nat.ne_of_lt (Nat.lt_of_lt_of_le (by have := World.block_lt_of_cell? _ _ hw281_0; first | rwa [add_block] at this | exact this) GW286.out)) | (dsimp only; exact Nat.ne_of_lt (Nat.lt_of_lt_of_le (by have := World.block_lt_of_cell? _ _ hw281_0; first | rwa [add_block] at this | exact this) GW286.out))) _).trans (hHeld.1)))), ((cell_far (p := ⟨gb286, _, none⟩) (g52_) _).trans (((cell_far (p := ⟨gb286, _, none⟩) (g52_) _).trans (hHeld.2))))⟩ (fun hHeld => ?_)
           clear hK K
           refine pw_ 14 14 (tl_ 15 32767) rfl rfl ?_
           refine done_ (done_of HT_.out (g0_)) ?_
           try go_wp2
           have n0_ : Aside0 (Kd.R (Kd.int .i64) 3 ((w98.setCell ⟨gb286, 0, none⟩ (.int .i64 t283)).setCell ⟨gb286, 1, none⟩ (.int .i64 t284)) w.heap.size (fun _ => True) (.slice (some ad282) t266.length co95) t266) := ⟨g128_⟩
           have n1_ : Aside0 (Kd.R k36 36 ((w98.setCell ⟨gb286, 0, none⟩ (.int .i64 t283)).setCell ⟨gb286, 1, none⟩ (.int .i64 t284)) w.heap.size (fun k_ => k_ ≠ gb275 ∧ k_ ≠ gb286) u7 x7_1) := ⟨g129_⟩
           have n2_ : Aside0 (((w98.setCell ⟨gb286, 0, none⟩ (.int .i64 t283)).setCell ⟨gb286, 1, none⟩ (.int .i64 t284)).heap[gb265]? = some (.cells #[.slice (some ad272) l0_0.length c0_0, .slice (some ad279) l0_1.length c0_1] 26 (0, 0))) := ⟨g130_⟩
           have n3_ : Aside0 (((w98.setCell ⟨gb286, 0, none⟩ (.int .i64 t283)).setCell ⟨gb286, 1, none⟩ (.int .i64 t284)).heap[gb275]? = some (.cells #[.int .i64 x276000_2, .int .i64 x276001_2] 36 (0, 0))) := ⟨g131_⟩
           have n4_ : Aside0 (((w98.setCell ⟨gb286, 0, none⟩ (.int .i64 t283)).setCell ⟨gb286, 1, none⟩ (.int .i64 t284)).heap[gb286]? = some (.cells #[.int .i64 t283, .int .i64 t284] 36 (0, 0))) := ⟨g132_⟩
           have n5_ : Aside0 (Below w.heap.size w ((w98.setCell ⟨gb286, 0, none⟩ (.int .i64 t283)).setCell ⟨gb286, 1, none⟩ (.int .i64 t284))) := ⟨qz1_⟩
           (try clear HO_6)
           (try clear HO_7)
           (try clear BK265)
           (try clear BK275)
           (try clear BK286)
           (try clear HB)
           generalize ((w98.setCell ⟨gb286, 0, none⟩ (.int .i64 t283)).setCell ⟨gb286, 1, none⟩ (.int .i64 t284)) = w101 at n0_ n1_ n2_ n3_ n4_ n5_ ⊢
           have HO_6 := n0_
           have HO_7 := n1_
           have BK265 := n2_
           have BK275 := n3_
           have BK286 := n4_
           have HB := n5_
           clear n0_ n1_ n2_ n3_ n4_ n5_
           replace HO_6 := Aside0.mk (Kd.R_drew HO_6.out)
           replace HO_7 := Aside0.mk (Kd.R_drew HO_7.out)
           replace BK265 := Aside0.mk (blk_drew BK265.out)
           replace BK275 := Aside0.mk (blk_drew BK275.out)
           replace BK286 := Aside0.mk (blk_drew BK286.out)
           replace HB := Aside0.mk (below_drew1 HB.out)
           have p287 : 0 ≤ (x35_2 : Int) := of_decide_eq_true (g1_)
           have q287 : x35_2 < (l1.length : Int) := of_decide_eq_true (g1_)
           obtain ⟨ad287, e287, hx287_0, hx287_1⟩ := at_T36 HR1.out x35_2 p287 q287
           have hw287_1 := hx287_1
           have hw287_0 := hx287_0
           cases e287
           replace hx287_0 := cl_ HB hx287_0
           replace hx287_1 := cl_ HB hx287_1
           replace p287 := eq_true p287
           replace q287 := eq_true q287
           refine start_ (n := 12) (S := fun w' => w'.cell? ⟨gb286, 0, none⟩ = some (.int .i64 t283) ∧ w'.cell? ⟨gb286, 1, none⟩ = some (.int .i64 t284) ∧ w'.cell? (ad287.add ((x35_2).toNat * 2)) = some (.int .i64 ((rd_T36 l1 x35_2).f0)) ∧ w'.cell? ⟨(ad287.add ((x35_2).toNat * 2)).block, (ad287.add ((x35_2).toNat * 2)).off + 1, none⟩ = some (.int .i64 ((rd_T36 l1 x35_2).f1))) (ds := []) (tl_ 12 0) (g0_) rfl (g0_) ⟨(blk_cell BK286.out 0).trans rfl, (blk_cell BK286.out 1).trans rfl, ((cl_ HB hw287_0).trans rfl), ((cl_ HB hw287_1).trans rfl)⟩ (fun hHeld => ?_); refine with_tabW impl_gets.tab12 impl_gets.bits12 (fun HT_ HW_ => ?_)
           generalize w101.drew = w102 at HO_6 HO_7 BK265 BK275 BK286 HB hx287_0 hx287_1 hHeld ⊢
           refine pw_ 0 63 (tl_ 12 1) rfl rfl ?_
           refine pw_ 1 64 (tl_ 12 3) rfl rfl ?_
           refine pw_ 2 65 (tl_ 12 7) rfl rfl ?_
           refine tk3_ 3 66 (tl_ 12 15) rfl rfl hHeld ?_
           refine tk3_ 4 67 (tl_ 12 31) rfl rfl hHeld ?_
           refine join_ (σ := Nat) 2 (tl_ 12 1023) (fun s_ => [(68, .tuple #[.agg #[.int .i64 t288, .int .i64 t289], .bool false]), (15, .pointer (some ⟨s_, 0, none⟩)), (62, .tuple #[.agg #[.int .i64 t288, .int .i64 t289], .bool false]), (69, .agg #[.int .i64 t288, .int .i64 t289]), (70, .bool false)]) (fun s_ w' => (w'.cell? ⟨gb286, 0, none⟩ = some (.int .i64 t283) ∧ w'.cell? ⟨gb286, 1, none⟩ = some (.int .i64 t284) ∧ w'.cell? (ad287.add ((x35_2).toNat * 2)) = some (.int .i64 ((rd_T36 l1 x35_2).f0)) ∧ w'.cell? ⟨(ad287.add ((x35_2).toNat * 2)).block, (ad287.add ((x35_2).toNat * 2)).off + 1, none⟩ = some (.int .i64 ((rd_T36 l1 x35_2).f1))) ∧ (Kd.R (Kd.int .i64) 3 w' w.heap.size (fun _ => True) (.slice (some ad282) t266.length co95) t266) ∧ (Kd.R k36 36 w' w.heap.size (fun k_ => k_ ≠ gb275 ∧ k_ ≠ gb286 ∧ k_ ≠ s_) u7 x7_1) ∧ (w'.heap[gb265]? = some (.cells #[.slice (some ad272) l0_0.length c0_0, .slice (some ad279) l0_1.length c0_1] 26 (0, 0))) ∧ (w'.heap[gb275]? = some (.cells #[.int .i64 x276000_2, .int .i64 x276001_2] 36 (0, 0))) ∧ (w'.heap[gb286]? = some (.cells #[.int .i64 t283, .int .i64 t284] 36 (0, 0))) ∧ (w'.heap[s_]? = some (.cells #[.int .i64 0, .int .i64 0] 36 (0, 0))) ∧ (w.heap.size ≤ s_) ∧ (w.heap.size ≤ s_) ∧ (gb265 ≠ s_) ∧ (s_ ≠ gb265) ∧ (gb275 ≠ s_) ∧ (s_ ≠ gb275) ∧ (gb286 ≠ s_) ∧ (s_ ≠ gb286) ∧ (Below w.heap.size w w')) ?_ ?_
           rotate_left
           ·intro hCont
            refine two_ (i := 5) (j := 9) (Ni := some 68) (Nj := some 15) (tl_ 12 63) (tl_ 12 543) rfl rfl rfl rfl (two_of HT_.out (g0_)) (by decide) (by decide) (fun K hK => ?_) (fun K hK => ?_)
            ·skip
             refine goes_ Try.func93 (g0_) rfl #[.agg #[.int .i64 ((rd_T36 l1 x35_2).f0), .int .i64 ((rd_T36 l1 x35_2).f1)], .agg #[.int .i64 t283, .int .i64 t284]] (by rfl) rfl rfl (g2_) ?_
             with_reducible refine (impl_times.calls kj21 ((rd_T36 l1 x35_2).f0) ((rd_T36 l1 x35_2).f1) t283 t284 t288 t289 false _ A33.out).mono ?_
             rintro e w103 ⟨rfl, hb⟩
             refine ⟨_, rfl, ?_⟩
             replace HO_6 := Aside0.mk (Kd.R_below (uf1_ HO_6) hb)
             replace HO_7 := Aside0.mk (Kd.R_below (uf1_ HO_7) hb)
             replace BK265 := bb_ BK265 hb
             replace BK275 := bb_ BK275 hb
             replace BK286 := bb_ BK286 hb
             replace HB := Aside0.mk (below_step (qz1_) hb)
             (try clear hb)
             (try clear hk hi)
             refine hK.out _ _ ⟨(blk_cell BK286.out 0).trans rfl, (blk_cell BK286.out 1).trans rfl, ((cl_ HB hw287_0).trans rfl), ((cl_ HB hw287_1).trans rfl)⟩ (fun hHeld => ?_)
             clear hK K
             refine nm_ ?_
             refine pw_ 6 62 (tl_ 12 127) rfl rfl ?_
             refine pw_ 7 69 (tl_ 12 255) rfl rfl ?_
             refine pw_ 8 70 (tl_ 12 511) rfl rfl ?_
             refine one_ (i := 9) (N := some 15) (tl_ 12 1023) rfl rfl (one_of HT_.out (g0_)) (by decide) (fun K hK => ?_)
             refine bs_ (N := 15) #[.int .i64 0, .int .i64 0] 36 ?_
             intro gb291 hg w104 hbox hb
             replace HO_6 := Aside0.mk (Kd.R_below (uf1_ HO_6) hb)
             replace HO_7 := Aside0.mk (Kd.R_below (Kd.R_elderB (uf1_ HO_7) gb291 (Nat.le_of_eq hg.symm)) hb)
             have BK291 := Aside0.mk (hbox)
             have GW291 := Aside0.mk ((g7_ : w.heap.size ≤ gb291))
             have GE291 := Aside0.mk ((g7_ : w.heap.size ≤ gb291))
             replace HB := Aside0.mk (below_step (qz1_) hb)
             have NB265_291 := Aside0.mk ((g20_ : gb265 ≠ gb291))
             have NB291_265 := Aside0.mk ((g21_ : gb291 ≠ gb265))
             replace BK265 := bb_ BK265 hb
             have NB275_291 := Aside0.mk ((g22_ : gb275 ≠ gb291))
             have NB291_275 := Aside0.mk ((g23_ : gb291 ≠ gb275))
             replace BK275 := bb_ BK275 hb
             have NB286_291 := Aside0.mk ((g37_ : gb286 ≠ gb291))
             have NB291_286 := Aside0.mk ((g38_ : gb291 ≠ gb286))
             replace BK286 := bb_ BK286 hb
             clear hb hbox hg
             refine hK.out _ _ ⟨(blk_cell BK286.out 0).trans rfl, (blk_cell BK286.out 1).trans rfl, ((cl_ HB hw287_0).trans rfl), ((cl_ HB hw287_1).trans rfl)⟩ (fun hHeld => ?_)
             clear hK K
             refine nm_ ?_
             exact norm_ (g8_) (hCont (gb291) _ ⟨hHeld, (uf1_ HO_6), (g53_), (uf0_ BK265), (uf0_ BK275), (uf0_ BK286), (uf0_ BK291), GW291.out, GE291.out, NB265_291.out, NB291_265.out, NB275_291.out, NB291_275.out, NB286_291.out, NB291_286.out, (qz1_)⟩)
            ·skip
             refine bs_ (N := 15) #[.int .i64 0, .int .i64 0] 36 ?_
             intro gb291 hg w103 hbox hb
             replace HO_6 := Aside0.mk (Kd.R_below (uf1_ HO_6) hb)
             replace HO_7 := Aside0.mk (Kd.R_below (Kd.R_elderB (uf1_ HO_7) gb291 (Nat.le_of_eq hg.symm)) hb)
             have BK291 := Aside0.mk (hbox)
             have GW291 := Aside0.mk ((g7_ : w.heap.size ≤ gb291))
             have GE291 := Aside0.mk ((g7_ : w.heap.size ≤ gb291))
             replace HB := Aside0.mk (below_step (qz1_) hb)
             have NB265_291 := Aside0.mk ((g20_ : gb265 ≠ gb291))
             have NB291_265 := Aside0.mk ((g21_ : gb291 ≠ gb265))
             replace BK265 := bb_ BK265 hb
             have NB275_291 := Aside0.mk ((g22_ : gb275 ≠ gb291))
             have NB291_275 := Aside0.mk ((g23_ : gb291 ≠ gb275))
             replace BK275 := bb_ BK275 hb
             have NB286_291 := Aside0.mk ((g37_ : gb286 ≠ gb291))
             have NB291_286 := Aside0.mk ((g38_ : gb291 ≠ gb286))
             replace BK286 := bb_ BK286 hb
             clear hb hbox hg
             refine hK.out _ _ ⟨(blk_cell BK286.out 0).trans rfl, (blk_cell BK286.out 1).trans rfl, ((cl_ HB hw287_0).trans rfl), ((cl_ HB hw287_1).trans rfl)⟩ (fun hHeld => ?_)
             clear hK K
             refine nm_ ?_
             refine one_ (i := 5) (N := some 68) (tl_ 12 575) rfl rfl (one_of HT_.out (g0_)) (by decide) (fun K hK => ?_)
             refine goes_ Try.func93 (g0_) rfl #[.agg #[.int .i64 ((rd_T36 l1 x35_2).f0), .int .i64 ((rd_T36 l1 x35_2).f1)], .agg #[.int .i64 t283, .int .i64 t284]] (by rfl) rfl rfl (g2_) ?_
             with_reducible refine (impl_times.calls kj21 ((rd_T36 l1 x35_2).f0) ((rd_T36 l1 x35_2).f1) t283 t284 t288 t289 false _ A33.out).mono ?_
             rintro e w104 ⟨rfl, hb⟩
             refine ⟨_, rfl, ?_⟩
             replace HO_6 := Aside0.mk (Kd.R_below (uf1_ HO_6) hb)
             replace HO_7 := Aside0.mk (Kd.R_below (uf1_ HO_7) hb)
             replace BK265 := bb_ BK265 hb
             replace BK275 := bb_ BK275 hb
             replace BK286 := bb_ BK286 hb
             replace BK291 := bb_ BK291 hb
             replace HB := Aside0.mk (below_step (qz1_) hb)
             (try clear hb)
             (try clear hk hi)
             refine hK.out _ _ ⟨(blk_cell BK286.out 0).trans rfl, (blk_cell BK286.out 1).trans rfl, ((cl_ HB hw287_0).trans rfl), ((cl_ HB hw287_1).trans rfl)⟩ (fun hHeld => ?_)
             clear hK K
             refine nm_ ?_
             refine pw_ 6 62 (tl_ 12 639) rfl rfl ?_
             refine pw_ 7 69 (tl_ 12 767) rfl rfl ?_
             refine pw_ 8 70 (tl_ 12 1023) rfl rfl ?_
             exact norm_ (g8_) (hCont (gb291) _ ⟨hHeld, (uf1_ HO_6), (g53_), (uf0_ BK265), (uf0_ BK275), (uf0_ BK286), (uf0_ BK291), GW291.out, GE291.out, NB265_291.out, NB291_265.out, NB275_291.out, NB291_275.out, NB286_291.out, NB291_286.out, (qz1_)⟩)
           rintro gb291 w105 ⟨hS_, h0_, h1_, h2_, h3_, h4_, h5_, h6_, h7_, h8_, h9_, h10_, h11_, h12_, h13_, h14_⟩
           replace HO_6 : Aside0 (Kd.R (Kd.int .i64) 3 w105 w.heap.size (fun _ => True) (.slice (some ad282) t266.length co95) t266) := ⟨h0_⟩
           replace HO_7 : Aside0 (Kd.R k36 36 w105 w.heap.size (fun k_ => k_ ≠ gb275 ∧ k_ ≠ gb286 ∧ k_ ≠ gb291) u7 x7_1) := ⟨h1_⟩
           replace BK265 : Aside0 (w105.heap[gb265]? = some (.cells #[.slice (some ad272) l0_0.length c0_0, .slice (some ad279) l0_1.length c0_1] 26 (0, 0))) := ⟨h2_⟩
           replace BK275 : Aside0 (w105.heap[gb275]? = some (.cells #[.int .i64 x276000_2, .int .i64 x276001_2] 36 (0, 0))) := ⟨h3_⟩
           replace BK286 : Aside0 (w105.heap[gb286]? = some (.cells #[.int .i64 t283, .int .i64 t284] 36 (0, 0))) := ⟨h4_⟩
           have BK291 : Aside0 (w105.heap[gb291]? = some (.cells #[.int .i64 0, .int .i64 0] 36 (0, 0))) := ⟨h5_⟩
           have GW291 : Aside0 (w.heap.size ≤ gb291) := ⟨h6_⟩
           have GE291 : Aside0 (w.heap.size ≤ gb291) := ⟨h7_⟩
           have NB265_291 : Aside0 (gb265 ≠ gb291) := ⟨h8_⟩
           have NB291_265 : Aside0 (gb291 ≠ gb265) := ⟨h9_⟩
           have NB275_291 : Aside0 (gb275 ≠ gb291) := ⟨h10_⟩
           have NB291_275 : Aside0 (gb291 ≠ gb275) := ⟨h11_⟩
           have NB286_291 : Aside0 (gb286 ≠ gb291) := ⟨h12_⟩
           have NB291_286 : Aside0 (gb291 ≠ gb286) := ⟨h13_⟩
           replace HB : Aside0 (Below w.heap.size w w105) := ⟨h14_⟩
           clear h0_ h1_ h2_ h3_ h4_ h5_ h6_ h7_ h8_ h9_ h10_ h11_ h12_ h13_ h14_
           have hHeld : w105.cell? ⟨gb286, 0, none⟩ = some (.int .i64 t283) ∧ w105.cell? ⟨gb286, 1, none⟩ = some (.int .i64 t284) ∧ w105.cell? (ad287.add ((x35_2).toNat * 2)) = some (.int .i64 ((rd_T36 l1 x35_2).f0)) ∧ w105.cell? ⟨(ad287.add ((x35_2).toNat * 2)).block, (ad287.add ((x35_2).toNat * 2)).off + 1, none⟩ = some (.int .i64 ((rd_T36 l1 x35_2).f1)) := hS_
           refine norm_ (a' := ?_) ?_ ?_
           rotate_left
           ·simp only [putAll, Act.put, List.setIfInBounds_toArray, List.set_cons_zero, List.set_cons_succ]
            rfl
           refine one_ (i := 10) (N := none) (tl_ 12 2047) rfl rfl (one_of HT_.out (g0_)) (by decide) (fun K hK => ?_)
           have hs106 : w105.cell? ⟨gb291, 0, none⟩ = some (.int .i64 0) := (blk_cell BK291.out 0).trans rfl
           have hfs106 := blk_frozen BK291.out 0
           have hns106_0 := NB265_291.out
           have hns106_1 := NB275_291.out
           have hns106_2 := NB286_291.out
           have hms106_0 := NB291_265.out
           have hms106_1 := NB291_275.out
           have hms106_2 := NB291_286.out
           have hs107 : w105.cell? ⟨gb291, 1, none⟩ = some (.int .i64 0) := (blk_cell BK291.out 1).trans rfl
           have hfs107 := blk_frozen BK291.out 1
           have hns107_0 := NB265_291.out
           have hns107_1 := NB275_291.out
           have hns107_2 := NB286_291.out
           have hms107_0 := NB291_265.out
           have hms107_1 := NB291_275.out
           have hms107_2 := NB291_286.out
           refine skip_ (w1 := ?_) (by rfl) rfl ?_ ?_
           rotate_left
           ·go_simp
            rfl
           refine hK.out _ _ ⟨(cf_ NB286_291 ((cf_ NB286_291 (hHeld.1)))), (cf_ NB286_291 ((cf_ NB286_291 (hHeld.2.1)))), ((cell_far (p := ⟨gb291, _, none⟩) (by first | exact Nat.ne_of_lt (Nat.lt_of_lt_of_le (by have := World.block_lt_of_cell? _ _ hw287_0; first | rwa [add_block] at this | exact this) GW291.out) | (rw [add_block]; exact Nat.ne_of_lt (Nat.lt_of_lt_of_le (by have := World.block_lt_of_cell? _ _ hw287_0; first | rwa [add_block] at this | exact this) GW291.out)) | (show (Addr.add _ _).block ≠ _; rw [add_block]; exact Nat.ne_of_lt (Nat.lt_of_lt_of_le (by have := World.block_lt_of_cell? _ _ hw287_0; first | rwa [add_block] at this | exact this) GW291.out)) | (dsimp only; exact Nat.ne_of_lt (Nat.lt_of_lt_of_le (by have := World.block_lt_of_cell? _ _ hw287_0; first | rwa [add_block] at this | exact this) GW291.out))) _).trans (((cell_far (p := ⟨gb291, _, none⟩) (by first | exact Nat.ne_of_lt (Nat.lt_of_lt_of_le (by have := World.block_lt_of_cell? _ _ hw287_0; first | rwa [add_block] at this | exact this) GW291.out) | (rw [add_block]; exact Nat.ne_of_lt (Nat.lt_of_lt_of_le (by have := World.block_lt_of_cell? _ _ hw287_0; first | rwa [add_block] at this | exact this) GW291.out)) | (show (Addr.add _ _).block ≠ _; rw [add_block]; exact Nat.ne_of_lt (Nat.lt_of_lt_of_le (by have := World.block_lt_of_cell? _ _ hw287_0; first | rwa [add_block] at this | exact this) GW291.out)) | (dsimp only; exact Nat.ne_of_lt (Nat.lt_of_lt_of_le (by have := World.block_lt_of_cell? _ _ hw287_0; first | rwa [add_block] at this | exact this) GW291.out))) _).trans (hHeld.2.2.1)))), ((cell_far (p := ⟨gb291, _, none⟩) (by first | exact Nat.ne_of_lt (Nat.lt_of_lt_of_le (by have := World.block_lt_of_cell? _ _ hw287_1; first | rwa [add_block] at this | exact this) GW291.out) | (rw [add_block]; exact Nat.ne_of_lt (Nat.lt_of_lt_of_le (by have := World.block_lt_of_cell? _ _ hw287_1; first | rwa [add_block] at this | exact this) GW291.out)) | (show (Addr.add _ _).block ≠ _; rw [add_block]; exact Nat.ne_of_lt (Nat.lt_of_lt_of_le (by have := World.block_lt_of_cell? _ _ hw287_1; first | rwa [add_block] at this | exact this) GW291.out)) | (dsimp only; exact Nat.ne_of_lt (Nat.lt_of_lt_of_le (by have := World.block_lt_of_cell? _ _ hw287_1; first | rwa [add_block] at this | exact this) GW291.out))) _).trans (((cell_far (p := ⟨gb291, _, none⟩) (by first | exact Nat.ne_of_lt (Nat.lt_of_lt_of_le (by have := World.block_lt_of_cell? _ _ hw287_1; first | rwa [add_block] at this | exact this) GW291.out) | (rw [add_block]; exact Nat.ne_of_lt (Nat.lt_of_lt_of_le (by have := World.block_lt_of_cell? _ _ hw287_1; first | rwa [add_block] at this | exact this) GW291.out)) | (show (Addr.add _ _).block ≠ _; rw [add_block]; exact Nat.ne_of_lt (Nat.lt_of_lt_of_le (by have := World.block_lt_of_cell? _ _ hw287_1; first | rwa [add_block] at this | exact this) GW291.out)) | (dsimp only; exact Nat.ne_of_lt (Nat.lt_of_lt_of_le (by have := World.block_lt_of_cell? _ _ hw287_1; first | rwa [add_block] at this | exact this) GW291.out))) _).trans (hHeld.2.2.2))))⟩ (fun hHeld => ?_)
           clear hK K
           refine pw_ 11 16 (tl_ 12 4095) rfl rfl ?_
           refine done_ (done_of HT_.out (g0_)) ?_
           have hnb108 := NB275_265.out
           have hnc108 := NB265_275.out
           have hnb109 := NB275_286.out
           have hnc109 := NB286_275.out
           have hnb110 := NB275_291.out
           have hnc110 := NB291_275.out
           obtain ⟨hcz111_0, hcz111_1, hfz111_0, hfz111_1⟩ := blk2_ BK275
           have hnb112 := NB291_265.out
           have hnc112 := NB265_291.out
           have hnb113 := NB291_286.out
           have hnc113 := NB286_291.out
           obtain ⟨hcz114_0, hcz114_1, hfz114_0, hfz114_1⟩ := blk2_ BK291
           try go_wp2_with (first | ((with_reducible refine gate_callee (f := 81) rfl ?_); refine goesL_ (some 74) rfl rfl Try.func81 k_ rfl #[.agg #[.int .i64 x276000_2, .int .i64 x276001_2], .agg #[.int .i64 t288, .int .i64 t289]] rfl (g2_) ?_; (with_reducible refine (impl_plus.calls kj21 x276000_2 x276001_2 t288 t289 t292 t293 t294 _ A34.out).mono ?_); rintro e w115 ⟨rfl, hb⟩; refine ⟨_, rfl, ?_⟩; replace HO_6 := Aside0.mk (Kd.R_below (g133_) hb); replace HO_7 := Aside0.mk (Kd.R_below (g134_) hb); replace BK265 := Aside0.mk (blk_below (g := gb265) (o := .cells #[.slice (some ad272) l0_0.length c0_0, .slice (some ad279) l0_1.length c0_1] 26 (0, 0)) (g135_) hb); replace BK275 := Aside0.mk (blk_below (g := gb275) (o := .cells #[.int .i64 x276000_2, .int .i64 x276001_2] 36 (0, 0)) (g136_) hb); replace BK286 := Aside0.mk (blk_below (g := gb286) (o := .cells #[.int .i64 t283, .int .i64 t284] 36 (0, 0)) (g137_) hb); replace BK291 := Aside0.mk (blk_below (g := gb291) (o := .cells #[.int .i64 t288, .int .i64 t289] 36 (0, 0)) (g138_) hb); replace HB := Aside0.mk (below_step (qz1_) hb); (try clear hb); (try clear hk hi)) | ((with_reducible refine gate_dst (N := 17) rfl ?_); refine bx_ (N := 17) #[.int .i64 0, .int .i64 0] 36 ?_; intro gb295 hg w116 hbox hb; replace HO_6 := Aside0.mk (Kd.R_below (uf1_ HO_6) hb); replace HO_7 := Aside0.mk (Kd.R_below (Kd.R_elderB (uf1_ HO_7) gb295 (Nat.le_of_eq hg.symm)) hb); have BK295 := Aside0.mk (hbox); have GW295 := Aside0.mk ((g7_ : w.heap.size ≤ gb295)); have GE295 := Aside0.mk ((g7_ : w.heap.size ≤ gb295)); replace HB := Aside0.mk (below_step (qz1_) hb); have NB265_295 := Aside0.mk ((g20_ : gb265 ≠ gb295)); have NB295_265 := Aside0.mk ((g21_ : gb295 ≠ gb265)); replace BK265 := bb_ BK265 hb; have NB275_295 := Aside0.mk ((g22_ : gb275 ≠ gb295)); have NB295_275 := Aside0.mk ((g23_ : gb295 ≠ gb275)); replace BK275 := bb_ BK275 hb; have NB286_295 := Aside0.mk ((g37_ : gb286 ≠ gb295)); have NB295_286 := Aside0.mk ((g38_ : gb295 ≠ gb286)); replace BK286 := bb_ BK286 hb; have NB291_295 := Aside0.mk ((g139_ : gb291 ≠ gb295)); have NB295_291 := Aside0.mk ((g140_ : gb295 ≠ gb291)); replace BK291 := bb_ BK291 hb; clear hb hbox hg; have hnb117 := NB295_265.out; have hnc117 := NB265_295.out; have hnb118 := NB295_275.out; have hnc118 := NB275_295.out; have hnb119 := NB295_286.out; have hnc119 := NB286_295.out; have hnb120 := NB295_291.out; have hnc120 := NB291_295.out; obtain ⟨hcz121_0, hcz121_1, hfz121_0, hfz121_1⟩ := blk2_ BK295))
           go_ret2
           exact ⟨_, g4_, g29_, qz1_⟩
      ·rw [if_neg c19] at H
       have c19b0 := decide_eq_false c19
       clear c19
       obtain ⟨c122, H⟩ := pos_ H
       have LMc122 := Aside0.mk c122
       clear c122
       obtain ⟨y276, hy276⟩ : ∃ y_ : List (S36), y_ = (x7_1 ++ [(⟨x276000_2, x276001_2⟩ : S36)]) := ⟨_, rfl⟩
       replace H : (impl_gets.l0 k2 l1 t266 y276 l0_0 (l0_0.length : Int) (wrap64 (x25_1 + 1)) l0_0 l0_1) = some (r1, r2) := by first | (rw [hy276]; with_reducible exact H) | (have H2_ := (Option.bind_some _ _).symm.trans H; rw [hy276]; with_reducible exact H2_) | (have H2_ := (Option.bind_some _ _).symm.trans H; with_reducible exact H2_) | with_reducible exact H | (rw [hy276]; exact H) | exact H
       have Ny276 := Aside0.mk hy276
       clear hy276
       have H' := Aside0.mk H
       clear H
       have hnb123 := NB275_265.out
       have hnc123 := NB265_275.out
       obtain ⟨hcz124_0, hcz124_1, hfz124_0, hfz124_1⟩ := blk2_ BK275
       go_wp2_with (first | ((with_reducible refine gate_builtin (b := .append) (xs := #[.tmp 85, .tmp 87]) rfl ?_); at_builtin; refine Kd.R_append k36 (w0 := w) w.heap.size rfl (.tmp 85) (.tmp 87) 28 36 (.agg #[(.int .i64 0), (.int .i64 0)]) 16 rfl Try.underlying28 info36 rfl (by decide) (by omega) u7 x7_1 (⟨x276000_2, x276001_2⟩ : S36) [.int .i64 x276000_2, .int .i64 x276001_2] (fun k_ => k_ ≠ gb275) (fun _ => False) rfl rfl ?aP (fun _ hk => hk.elim) ?aF ?aO ?aB ?aS ?aL ?_; (case aP => exact k36_mkM _ _ _ (⟨x276000_2, x276001_2⟩ : S36)); (case aB => exact (qz1_)); (case aF => exact (fun k_ hk => Kd.freshB (g := gb275) (o := .cells #[.int .i64 x276000_2, .int .i64 x276001_2] 36 (0, 0)) (uf0_ BK275) k_ hk)); (case aO => exact (uf1_ HO_7)); (case aS => exact (below_size (qz1_))); (case aL => have := LMc122.out; omega); intro v277 w125 ho hb hg hat; rw [← Ny276.out] at ho; replace HO_6 := Aside0.mk (Kd.R_over' (uf1_ HO_6) (Kd.R_typed (uf1_ HO_7)) (by decide) hg); replace BK265 := Aside0.mk (blk_grown (g := gb265) (o := .cells #[.slice (some ad272) l0_0.length c0_0, .slice A0_1 l0_1.length c0_1] 26 (0, 0)) (uf0_ BK265) hg (Kd.R_ne HO_7.out BK265.out (by decide))); replace BK275 := Aside0.mk (blk_grown (g := gb275) (o := .cells #[.int .i64 x276000_2, .int .i64 x276001_2] 36 (0, 0)) (uf0_ BK275) hg (Kd.R_away HO_7.out (fun _ hk => hk))); replace HB := Aside0.mk (hb); have HO278 := Aside0.mk (ho); clear HO_7; clear ho hb hg hat))
       go_roundg k2
       case measure => have := HK1.out; have := HK2.out; omega
       case rel => exact ⟨(y276), (wrap64 (x25_1 + 1)), (g3_), H', ⟨g34_⟩, ⟨uf1_ HO_6⟩, ⟨by (with_reducible repeat (first | apply Kd.R_alloc | apply Kd.R_drewN | apply Kd.R_drew)); exact Kd.R_mono HO278.out (fun _ hk => trivial)⟩, ⟨uf0_ BK265⟩, ⟨qz1_⟩⟩
   ·rw [if_neg c10] at H
    have c10b0 := decide_eq_false c10
    clear c10
    simp only [Option.some.injEq, Prod.mk.injEq] at H
    obtain ⟨rfl, rfl⟩ := H
    go_wp2
    go_ret2
    exact ⟨_, g4_, uf1_ HO_7, qz1_⟩
def impl_leadsTo.l0 : Nat → List (S36) → List Int → Int → Int → Option ((List (S36)) × Bool)
 | 0, _, _, _, _ => none
 | k + 1, x6, x19, x20, x21 => if x21 < x20 then (if 0 ≤ x21 then (if x21 < (x19.length : Int) then (if x21 < (x6.length : Int) then ((impl_whole.f (rd x19 x21)).bind fun bt957 => ((impl_compare.f ((rd_T36 x6 x21).f0) ((rd_T36 x6 x21).f1) bt957.1 bt957.2).bind fun t959 => (if t959 > 0 then ((impl_whole.f (rd x19 x21)).bind fun bt960 => (impl_leadsTo.l0 k (x6.set (x21 : Int).toNat (⟨bt960.1, bt960.2⟩ : S36)) x19 x20 (wrap64 (x21 + 1)))) else (impl_leadsTo.l0 k x6 x19 x20 (wrap64 (x21 + 1)))))) else (none)) else (none)) else (none)) else (some (x6, true))
def impl_leadsTo.f (k : Nat) (l0_0 : List Int) (l0_1 : List (List Int)) (l1 : List (S36)) : Option ((List (S36)) × Bool) := (impl_gets.f k l0_0 l0_1 l1).bind fun bt948 => (if bt948.2 = true then ((impl_owes.f k l0_0 l0_1).bind fun t952 => (impl_leadsTo.l0 k bt948.1 t952 (t952.length : Int) 0)) else (some (([] : List (S36)), false)))
theorem impl_leadsTo.mq {p : Prop} (h : p := by
 repeat' first
 | (with_reducible exact ih0 _ _ _ _)
 | (with_reducible exact impl_gets.mono _ _ _ _)
 | (with_reducible exact impl_owes.mono _ _ _)
 | (with_reducible exact LeO.refl _)
 | (with_reducible exact LeO.none _)
 | (with_reducible refine LeO.ite ?_ ?_)
 | (with_reducible refine LeO.bind ?_ (fun _ => ?_))
 | exact ih0 _ _ _ _
 | exact impl_gets.mono _ _ _ _
 | exact impl_owes.mono _ _ _
 | exact LeO.none _
 | refine LeO.ite ?_ ?_
 | refine LeO.bind ?_ (fun _ => ?_)) : p := h
theorem impl_leadsTo.mono_l : ∀ k, (∀ y0 y1 y2 y3, LeO (impl_leadsTo.l0 k y0 y1 y2 y3) (impl_leadsTo.l0 (k + 1) y0 y1 y2 y3))
 | 0 => fun _ _ _ _ r h => by simp [impl_leadsTo.l0] at h
 | k + 1 => by
  have ih0 := impl_leadsTo.mono_l k
  ·intro y0 y1 y2 y3
   unfold impl_leadsTo.l0
   exact impl_leadsTo.mq
theorem impl_leadsTo.mono : ∀ a0 a1 a2 k, LeO (impl_leadsTo.f k a0 a1 a2) (impl_leadsTo.f (k + 1) a0 a1 a2) := by
 intro a0 a1 a2 k
 have ih0 := impl_leadsTo.mono_l k
 unfold impl_leadsTo.f
 exact impl_leadsTo.mq
def impl_leadsTo.T7 : Bool × List (List Nat × List Nat) := (true, [([], []), ([], []), ([0, 1], [0, 1]), ([2], [2]), ([], []), ([4], [4]), ([3, 5, 5], [3, 5]), ([6], [6])])
def impl_leadsTo.B7 : List Nat := [0, 0, 3, 7, 0, 16, 63, 127]
theorem impl_leadsTo.tab7 : rtab .any (opsOf Try.f85 7) = impl_leadsTo.T7 := by kernel_rfl
theorem impl_leadsTo.bits7 : waitsOk impl_leadsTo.T7.2 impl_leadsTo.B7 = true := by kernel_rfl
theorem qz21_ {p : Prop} (h : p := by repeat (first | (with_reducible first | exact HB.out | apply below_alloc | apply pw_below_drewN | apply below_drew1 | refine below_set ?_ GE947.out) | exact HB.out)) : p := h
set_option maxHeartbeats 8000000 in
set_option maxRecDepth 100000 in
theorem impl_leadsTo.calls (k : Nat) (A0_0 : Option Addr) (c0_0 : Nat) (l0_0 : List Int) (A0_1 : Option Addr) (c0_1 : Nat) (l0_1 : List (List Int)) (A1 : Option Addr) (c1 : Nat) (l1 : List (S36)) (r1 : List (S36)) (r2 : Bool) (w : World) (hr0_0 : Kd.C (Kd.int .i64) w A0_0 l0_0.length l0_0) (hc0_0 : l0_0.length ≤ c0_0) (hr0_1 : Kd.C (Kd.slice 3 (Kd.int .i64)) w A0_1 l0_1.length l0_1) (hc0_1 : l0_1.length ≤ c0_1) (hr1 : Kd.C k36 w A1 l1.length l1) (hc1 : l1.length ≤ c1) (h : impl_leadsTo.f k l0_0 l0_1 l1 = some (r1, r2)) :
  Calls Try.prog 85 #[.agg #[.slice A0_0 l0_0.length c0_0, .slice A0_1 l0_1.length c0_1], .slice A1 l1.length c1] w fun e w' => ∃ v0_ : Value, e = .returned (.tuple #[v0_, .bool r2]) ∧ Kd.R k36 36 w' w.heap.size (fun _ => True) v0_ r1 ∧ Below w.heap.size w w' := by
 have hu26 := Try.underlying26
 have hu36 := Try.underlying36
 have HR0_0 := Aside0.mk hr0_0
 have HC0_0 := Aside0.mk hc0_0
 clear hr0_0 hc0_0
 have HR0_1 := Aside0.mk hr0_1
 have HC0_1 := Aside0.mk hc0_1
 clear hr0_1 hc0_1
 have HR1 := Aside0.mk hr1
 have HC1 := Aside0.mk hc1
 clear hr1 hc1
 have HB := Aside0.mk (Below.refl w.heap.size w)
 have H : ((impl_gets.f k l0_0 l0_1 l1).bind fun bt948 => (if bt948.2 = true then ((impl_owes.f k l0_0 l0_1).bind fun t952 => (impl_leadsTo.l0 k bt948.1 t952 (t952.length : Int) 0)) else (some (([] : List (S36)), false)))) = some (r1, r2) := h
 clear h
 replace H := Option.bind_eq_some_iff.mp H
 obtain ⟨⟨t948, t951⟩, A30, H⟩ := H
 replace H : (if t951 = true then ((impl_owes.f k l0_0 l0_1).bind fun t952 => (impl_leadsTo.l0 k t948 t952 (t952.length : Int) 0)) else (some (([] : List (S36)), false))) = some (r1, r2) := H
 have A3 := Aside0.mk A30
 clear A30
 by_cases c4 : t951 = true
 ·subst c4
  replace H := ifp_ H
  obtain ⟨t952, A5, H⟩ := bind_ H
  have H' := Aside0.mk H
  clear H
  go_enter Try.func85, Try.ntmps85
  go_wp2_with (first | ((with_reducible refine gate_dst (N := 2) rfl ?_); refine bx_ (N := 2) #[.slice A0_0 l0_0.length c0_0, .slice A0_1 l0_1.length c0_1] 26 ?_; intro gb947 hg w6 hbox hb; have BK947 := Aside0.mk (hbox); have GW947 := Aside0.mk ((g115_ : w.heap.size ≤ gb947)); have GE947 := Aside0.mk ((g115_ : w.heap.size ≤ gb947)); replace HB := Aside0.mk (below_step (qz21_) hb); clear hb hbox hg; obtain ⟨hcz7_0, hcz7_1, hfz7_0, hfz7_1⟩ := blk2_ BK947) | ((with_reducible refine gate_callee (f := 59) rfl ?_); refine goesL_ (some 13) rfl rfl Try.func59 k_ rfl #[.agg #[.slice A0_0 l0_0.length c0_0, .slice A0_1 l0_1.length c0_1], .slice A1 l1.length c1] rfl (g2_) ?_; (with_reducible refine (impl_gets.calls k _ _ l0_0 _ _ l0_1 _ _ l1 t948 true _ ?side1 ?side2 ?side3 ?side4 ?side5 ?side6 A3.out).mono ?_); (case side1 => exact uf4_ HR0_0); (case side2 => exact HC0_0.out); (case side3 => exact uf4_ HR0_1); (case side4 => exact HC0_1.out); (case side5 => exact uf4_ HR1); (case side6 => exact HC1.out); rintro e w8 ⟨v949, rfl, ho0, hb⟩; refine ⟨_, rfl, ?_⟩; have HO950 := Aside0.mk (Kd.R_lower ho0 (below_size (qz21_))); replace BK947 := bb_ BK947 hb; replace HB := Aside0.mk (below_step (qz21_) hb); (try clear hb); (try clear hk hi); (try clear ho0); obtain ⟨hcz9_0, hcz9_1, hfz9_0, hfz9_1⟩ := blk2_ BK947) | ((with_reducible refine gate_callee (f := 91) rfl ?_); refine goesL_ (some 19) rfl rfl Try.func91 k_ rfl #[.agg #[.slice A0_0 l0_0.length c0_0, .slice A0_1 l0_1.length c0_1]] rfl (g2_) ?_; (with_reducible refine (impl_owes.calls k _ _ l0_0 _ _ l0_1 t952 _ ?side1 ?side2 ?side3 ?side4 A5.out).mono ?_); (case side1 => exact uf4_ HR0_0); (case side2 => exact HC0_0.out); (case side3 => exact uf4_ HR0_1); (case side4 => exact HC0_1.out); rintro e w10 ⟨v953, rfl, ho0, hb⟩; refine ⟨_, rfl, ?_⟩; replace HO950 := Aside0.mk (Kd.R_below (uf1_ HO950) hb); have HO954 := Aside0.mk (Kd.R_lower ho0 (below_size (qz21_))); replace BK947 := bb_ BK947 hb; replace HB := Aside0.mk (below_step (qz21_) hb); (try clear hb); (try clear hk hi); (try clear ho0); obtain ⟨Ao11, co11, eo11⟩ := Kd.R_slice HO954.out; subst eo11))
  go_loopg [21] k (fun kq v21 w' => ∃ (x6_1 : List (S36)) (x21_1 : Int), v21 = .int .i64 x21_1 ∧ Aside0 (impl_leadsTo.l0 kq x6_1 t952 (t952.length : Int) x21_1 = some (r1, r2)) ∧ Aside0 (kq ≤ k) ∧ Aside0 (Kd.R k36 36 w' w.heap.size (fun _ => True) v949 x6_1) ∧ Aside0 (Kd.R (Kd.int .i64) 3 w' w.heap.size (fun _ => True) (.slice Ao11 t952.length co11) t952) ∧ Aside0 (w'.heap[gb947]? = some (.cells #[(.slice A0_0 l0_0.length c0_0), (.slice A0_1 l0_1.length c0_1)] 26 (0, 0))) ∧ Aside0 (Below w.heap.size w w'))
  case atStart => exact ⟨(t948), (0), (g3_), H', ⟨Nat.le_refl _⟩, ⟨uf1_ HO950⟩, ⟨uf1_ HO954⟩, ⟨uf0_ BK947⟩, ⟨qz21_⟩⟩
  case round =>
   clear H'
   try clear c1
   try clear p2
   try clear c4
   try clear c5
   try clear c8
   try clear c9
   try clear hcz7_0
   try clear hcz7_1
   try clear hcz9_0
   try clear hcz9_1
   try clear hfz7_0
   try clear hfz7_1
   try clear hfz9_0
   try clear hfz9_1
   obtain ⟨x6_1, x21_1, rfl, HA, HK1, HO_6, HO_19, BK947, HB⟩ := hrel
   cases gk with
   | zero => exact absurd HA.out (by simp [impl_leadsTo.l0])
   | succ k1 =>
    have H := HA.out
    clear HA
    simp only [impl_leadsTo.l0] at H
    by_cases c12 : x21_1 < (t952.length : Int)
    ·rw [if_pos c12] at H
     have c12b0 := decide_eq_true c12
     clear c12
     obtain ⟨c13, H⟩ := pos_ H
     have c13b0 := decide_eq_true c13
     clear c13
     obtain ⟨c14, H⟩ := pos_ H
     have c14b0 := decide_eq_true c14
     clear c14
     obtain ⟨c15, H⟩ := pos_ H
     have c15b0 := decide_eq_true c15
     clear c15
     replace H := Option.bind_eq_some_iff.mp H
     obtain ⟨⟨t957, t958⟩, A160, H⟩ := H
     replace H : ((impl_compare.f ((rd_T36 x6_1 x21_1).f0) ((rd_T36 x6_1 x21_1).f1) t957 t958).bind fun t959 => (if t959 > 0 then ((impl_whole.f (rd t952 x21_1)).bind fun bt960 => (impl_leadsTo.l0 k1 (x6_1.set (x21_1 : Int).toNat (⟨bt960.1, bt960.2⟩ : S36)) t952 (t952.length : Int) (wrap64 (x21_1 + 1)))) else (impl_leadsTo.l0 k1 x6_1 t952 (t952.length : Int) (wrap64 (x21_1 + 1))))) = some (r1, r2) := H
     have A16 := Aside0.mk A160
     clear A160
     obtain ⟨t959, A17, H⟩ := bind_ H
     by_cases c18 : t959 > 0
     ·rw [if_pos c18] at H
      have c18b0 := decide_eq_true c18
      clear c18
      replace H := Option.bind_eq_some_iff.mp H
      obtain ⟨⟨t960, t961⟩, A190, H⟩ := H
      replace H : (impl_leadsTo.l0 k1 (x6_1.set (x21_1 : Int).toNat (⟨t960, t961⟩ : S36)) t952 (t952.length : Int) (wrap64 (x21_1 + 1))) = some (r1, r2) := H
      have A19 := Aside0.mk A190
      clear A190
      obtain ⟨y962, hy962⟩ : ∃ y_ : List (S36), y_ = (x6_1.set (x21_1 : Int).toNat (⟨t960, t961⟩ : S36)) := ⟨_, rfl⟩
      replace H : (impl_leadsTo.l0 k1 y962 t952 (t952.length : Int) (wrap64 (x21_1 + 1))) = some (r1, r2) := by first | (rw [hy962]; with_reducible exact H) | (have H2_ := (Option.bind_some _ _).symm.trans H; rw [hy962]; with_reducible exact H2_) | (have H2_ := (Option.bind_some _ _).symm.trans H; with_reducible exact H2_) | with_reducible exact H | (rw [hy962]; exact H) | exact H
      have Ny962 := Aside0.mk hy962
      clear hy962
      have H' := Aside0.mk H
      clear H
      have p955 : 0 ≤ (x21_1 : Int) := of_decide_eq_true (g1_)
      have q955 : x21_1 < (t952.length : Int) := of_decide_eq_true (g1_)
      obtain ⟨ad955, e955, hx955_0⟩ := Kd.at_int (Kd.R_reads' HO_19.out).2.2 x21_1 p955 q955
      cases e955
      replace p955 := eq_true p955
      replace q955 := eq_true q955
      try go_wp2
      replace HO_6 := Aside0.mk (Kd.R_drew HO_6.out)
      replace HO_19 := Aside0.mk (Kd.R_drew HO_19.out)
      replace BK947 := Aside0.mk (blk_drew BK947.out)
      replace HB := Aside0.mk (below_drew1 HB.out)
      obtain ⟨Ao22, co22, eo22⟩ := Kd.R_slice HO_6.out
      (first | subst eo22 | (injection eo22 with f1_ f2_ f3_; have f4_ := f1_.symm; have f5_ := f3_.symm; clear f1_ f2_ f3_; subst f4_; subst f5_))
      have p956 : 0 ≤ (x21_1 : Int) := of_decide_eq_true (g1_)
      have q956 : x21_1 < (x6_1.length : Int) := of_decide_eq_true (g1_)
      obtain ⟨ad956, e956, hx956_0, hx956_1⟩ := at_T36 (Kd.R_reads' HO_6.out).2.2 x21_1 p956 q956
      cases e956
      replace p956 := eq_true p956
      replace q956 := eq_true q956
      refine start_ (n := 8) (S := fun w' => w'.cell? (ad956.add ((x21_1).toNat * 2)) = some (.int .i64 ((rd_T36 x6_1 x21_1).f0)) ∧ w'.cell? ⟨(ad956.add ((x21_1).toNat * 2)).block, (ad956.add ((x21_1).toNat * 2)).off + 1, none⟩ = some (.int .i64 ((rd_T36 x6_1 x21_1).f1))) (ds := []) (tl_ 8 0) (g0_) rfl (g0_) ⟨hx956_0, hx956_1⟩ (fun hHeld => ?_); refine with_tabW impl_leadsTo.tab7 impl_leadsTo.bits7 (fun HT_ HW_ => ?_)
      generalize wr.drew = w21 at HO_6 HO_19 BK947 HB hx956_0 hx956_1 hHeld ⊢
      refine pw_ 0 26 (tl_ 8 1) rfl rfl ?_
      refine pw_ 1 27 (tl_ 8 3) rfl rfl ?_
      refine pw_ 2 28 (tl_ 8 7) rfl rfl ?_
      refine pw_ 4 30 (tl_ 8 23) rfl rfl ?_
      refine tk0_ 3 29 (tl_ 8 31) rfl rfl hHeld ?_
      refine one_ (i := 5) (N := some 31) (tl_ 8 63) rfl rfl (one_of HT_.out (g0_)) (by decide) (fun K hK => ?_)
      refine goes_ Try.func89 (g0_) rfl #[.int .i64 (rd t952 x21_1)] (by rfl) rfl rfl (g2_) ?_
      with_reducible refine (impl_whole.calls (rd t952 x21_1) t957 t958 _ A16.out).mono ?_
      rintro e w23 ⟨rfl, hb⟩
      have HS0_ := (hb.cell (World.block_lt_of_cell? _ _ (hHeld.1))).trans (hHeld.1)
      have HS1_ := (hb.cell (World.block_lt_of_cell? _ _ (hHeld.2))).trans (hHeld.2)
      refine ⟨_, rfl, ?_⟩
      replace HO_6 := Aside0.mk (Kd.R_below (uf1_ HO_6) hb)
      replace HO_19 := Aside0.mk (Kd.R_below (uf1_ HO_19) hb)
      replace BK947 := bb_ BK947 hb
      replace HB := Aside0.mk (below_step (qz21_) hb)
      (try clear hb)
      (try clear hk hi)
      refine hK.out _ _ ⟨HS0_, HS1_⟩ (fun hHeld => ?_)
      clear hK K
      refine nm_ ?_
      refine one_ (i := 6) (N := some 32) (tl_ 8 127) rfl rfl (one_of HT_.out (g0_)) (by decide) (fun K hK => ?_)
      refine goes_ Try.func78 (g0_) rfl #[.agg #[.int .i64 ((rd_T36 x6_1 x21_1).f0), .int .i64 ((rd_T36 x6_1 x21_1).f1)], .agg #[.int .i64 t957, .int .i64 t958]] (by rfl) rfl rfl (g2_) ?_
      with_reducible refine (impl_compare.calls ((rd_T36 x6_1 x21_1).f0) ((rd_T36 x6_1 x21_1).f1) t957 t958 t959 _ A17.out).mono ?_
      rintro e w24 ⟨rfl, hb⟩
      have HS0_ := (hb.cell (World.block_lt_of_cell? _ _ (hHeld.1))).trans (hHeld.1)
      have HS1_ := (hb.cell (World.block_lt_of_cell? _ _ (hHeld.2))).trans (hHeld.2)
      refine ⟨_, rfl, ?_⟩
      replace HO_6 := Aside0.mk (Kd.R_below (uf1_ HO_6) hb)
      replace HO_19 := Aside0.mk (Kd.R_below (uf1_ HO_19) hb)
      replace BK947 := bb_ BK947 hb
      replace HB := Aside0.mk (below_step (qz21_) hb)
      (try clear hb)
      (try clear hk hi)
      refine hK.out _ _ ⟨HS0_, HS1_⟩ (fun hHeld => ?_)
      clear hK K
      refine nm_ ?_
      refine pw_ 7 33 (tl_ 8 255) rfl rfl ?_
      refine done_ (done_of HT_.out (g0_)) ?_
      try go_wp2_with (first | ((with_reducible refine gate_callee (f := 89) rfl ?_); refine goesL_ (some 37) rfl rfl Try.func89 k_ rfl #[.int .i64 (rd t952 x21_1)] rfl (g2_) ?_; (with_reducible refine (impl_whole.calls (rd t952 x21_1) t960 t961 _ A19.out).mono ?_); rintro e w25 ⟨rfl, hb⟩; refine ⟨_, rfl, ?_⟩; replace HO_6 := Aside0.mk (Kd.R_below (uf1_ HO_6) hb); replace HO_19 := Aside0.mk (Kd.R_below (uf1_ HO_19) hb); replace BK947 := bb_ BK947 hb; replace HB := Aside0.mk (below_step (qz21_) hb); (try clear hb); (try clear hk hi); have p20 : 0 ≤ (x21_1 : Int) := of_decide_eq_true (g1_); have q20 : (x21_1 : Int) < ((x6_1.length : Int) : Int) := of_decide_eq_true (g1_); obtain ⟨go20, co20, eo20, gb20, gl20, cl20, HG20⟩ := Kd.R_form HO_6.out (by omega); (first | cases eo20 | (injection eo20 with ea_ en_ ec_; (first | subst ea_ | (injection ea_ with ea_; subst ea_)); subst ec_; clear en_)); have GB20 := Aside0.mk gb20; have GG20 := Aside0.mk HG20; clear gb20 gl20 HG20; (first | simp only [add_plain] at hx956_0 | skip); (first | simp only [add_plain] at hx956_1 | skip); obtain ⟨ce20, hcl20, hM20, hcc20, hfr20⟩ := Kd.R_elem HO_6.out z36 (x21_1 : Int) p20 q20; obtain rfl := k36_openM hM20; have hx20_0 : w25.cell? ⟨go20, (x21_1 : Int).toNat * 2, none⟩ = some (.int .i64 ((rd_T36 x6_1 x21_1).f0)) := hcc20 0 _ rfl; have hx20_1 : w25.cell? ⟨go20, (x21_1 : Int).toNat * 2 + 1, none⟩ = some (.int .i64 ((rd_T36 x6_1 x21_1).f1)) := hcc20 1 _ rfl; have hf20_0 : w25.frozen? ⟨go20, (x21_1 : Int).toNat * 2, none⟩ = false := hfr20 0; have hf20_1 : w25.frozen? ⟨go20, (x21_1 : Int).toNat * 2 + 1, none⟩ = false := hfr20 1; clear hcl20 hcc20 hfr20 hM20; replace p20 := eq_true p20; replace q20 := eq_true q20; have HX26 := Aside0.mk (show Kd.R k36 36 w25 w.heap.size (fun _ => True) (.slice (some ⟨go20, 0, none⟩) x6_1.length co22) x6_1 from (uf1_ HO_6)); obtain ⟨ce26, hcl26, hM26, hcc26, hfr26⟩ := Kd.R_elem HX26.out z36 (x21_1 : Int) (of_decide_eq_true (g1_)) (by have h_ : (x21_1 : Int) < ((x6_1.length : Int) : Int) := of_decide_eq_true (g1_); first | exact h_ | (have e_ := (Kd.R_reads' HO_6.out).1; omega) | simpa using h_); obtain rfl := k36_openM hM26; have HP26 := Kd.R_seg HX26.out (x21_1 : Int) (of_decide_eq_true (g1_)) (by have h_ : (x21_1 : Int) < ((x6_1.length : Int) : Int) := of_decide_eq_true (g1_); first | exact h_ | (have e_ := (Kd.R_reads' HO_6.out).1; omega) | simpa using h_) (seg := [.int .i64 t960, .int .i64 t961]) (j := 0) hcl26 hcc26 (show 2 ≤ 2 from by decide) (x' := (⟨t960, t961⟩ : S36)) (k36_mkM _ _ _ (⟨t960, t961⟩ : S36) ) (fun _ hk => hk); have hx26_0 := hcc26 0 _ rfl; (try simp only [show (k36).sz = 2 from rfl, Nat.mul_one, Nat.add_zero] at hx26_0); have hf26_0 := hfr26 0; (try simp only [show (k36).sz = 2 from rfl, Nat.mul_one, Nat.add_zero] at hf26_0); have hx26_1 := hcc26 1 _ rfl; (try simp only [show (k36).sz = 2 from rfl, Nat.mul_one, Nat.add_zero] at hx26_1); have hf26_1 := hfr26 1; (try simp only [show (k36).sz = 2 from rfl, Nat.mul_one, Nat.add_zero] at hf26_1); clear hcl26 hcc26 hfr26 hM26) | ((with_reducible refine gate_store (t := 36) (p := 38) rfl ?_); refine store_event (t := 36) (p := 38) (v := ?vo_w27) (w1 := ((w25.setCell ⟨go20, (x21_1 : Int).toNat * 2, none⟩ (.int .i64 t960)).setCell ⟨go20, (x21_1 : Int).toNat * 2 + 1, none⟩ (.int .i64 t961))) ?hg ?ho ?hn ?hr ?_; (case ho => rfl); (case hg => rfl); (case hn => rfl); (case hr => first | (go_simp; done) | (go_simp; rfl)); intro w27 hw; have hg : w25.grownBy w27 (some go20) := (by rw [hw]; exact HP26.2); have hp_ : Kd.R k36 36 w27 w.heap.size (fun _ => True) (.slice (some ⟨go20, 0, none⟩) x6_1.length co22) y962 := (by rw [hw, Ny962.out]; exact HP26.1); clear HP26; replace HO_19 := Aside0.mk (Kd.R_over' (v := (.slice (some ⟨go20, 0, none⟩) x6_1.length co22)) (uf1_ HO_19) (Kd.R_typed HO_6.out) (by decide) hg); replace BK947 := Aside0.mk (blk_grown (g := gb947) (o := .cells #[.slice A0_0 l0_0.length c0_0, .slice A0_1 l0_1.length c0_1] 26 (0, 0)) (uf0_ BK947) hg (Kd.R_ne HO_6.out BK947.out (by decide))); replace HO_6 := Aside0.mk (hp_); replace HB := Aside0.mk ((by rw [hw]; exact below_set (below_set (HB.out) GB20.out) GB20.out : Below w.heap.size w w27)); clear hg hw hp_))
      go_roundg k1
      case measure => have := HK1.out; omega
      case rel => exact ⟨(y962), (wrap64 (x21_1 + 1)), (g3_), H', ⟨g9_⟩, ⟨uf1_ HO_6⟩, ⟨uf1_ HO_19⟩, ⟨uf0_ BK947⟩, ⟨qz21_⟩⟩
     ·rw [if_neg c18] at H
      have c18b0 := decide_eq_false c18
      clear c18
      have H' := Aside0.mk H
      clear H
      have p955 : 0 ≤ (x21_1 : Int) := of_decide_eq_true (g1_)
      have q955 : x21_1 < (t952.length : Int) := of_decide_eq_true (g1_)
      obtain ⟨ad955, e955, hx955_0⟩ := Kd.at_int (Kd.R_reads' HO_19.out).2.2 x21_1 p955 q955
      cases e955
      replace p955 := eq_true p955
      replace q955 := eq_true q955
      try go_wp2
      replace HO_6 := Aside0.mk (Kd.R_drew HO_6.out)
      replace HO_19 := Aside0.mk (Kd.R_drew HO_19.out)
      replace BK947 := Aside0.mk (blk_drew BK947.out)
      replace HB := Aside0.mk (below_drew1 HB.out)
      obtain ⟨Ao29, co29, eo29⟩ := Kd.R_slice HO_6.out
      (first | subst eo29 | (injection eo29 with f1_ f2_ f3_; have f4_ := f1_.symm; have f5_ := f3_.symm; clear f1_ f2_ f3_; subst f4_; subst f5_))
      have p956 : 0 ≤ (x21_1 : Int) := of_decide_eq_true (g1_)
      have q956 : x21_1 < (x6_1.length : Int) := of_decide_eq_true (g1_)
      obtain ⟨ad956, e956, hx956_0, hx956_1⟩ := at_T36 (Kd.R_reads' HO_6.out).2.2 x21_1 p956 q956
      cases e956
      replace p956 := eq_true p956
      replace q956 := eq_true q956
      refine start_ (n := 8) (S := fun w' => w'.cell? (ad956.add ((x21_1).toNat * 2)) = some (.int .i64 ((rd_T36 x6_1 x21_1).f0)) ∧ w'.cell? ⟨(ad956.add ((x21_1).toNat * 2)).block, (ad956.add ((x21_1).toNat * 2)).off + 1, none⟩ = some (.int .i64 ((rd_T36 x6_1 x21_1).f1))) (ds := []) (tl_ 8 0) (g0_) rfl (g0_) ⟨hx956_0, hx956_1⟩ (fun hHeld => ?_); refine with_tabW impl_leadsTo.tab7 impl_leadsTo.bits7 (fun HT_ HW_ => ?_)
      generalize wr.drew = w28 at HO_6 HO_19 BK947 HB hx956_0 hx956_1 hHeld ⊢
      refine pw_ 0 26 (tl_ 8 1) rfl rfl ?_
      refine pw_ 1 27 (tl_ 8 3) rfl rfl ?_
      refine pw_ 2 28 (tl_ 8 7) rfl rfl ?_
      refine pw_ 4 30 (tl_ 8 23) rfl rfl ?_
      refine tk0_ 3 29 (tl_ 8 31) rfl rfl hHeld ?_
      refine one_ (i := 5) (N := some 31) (tl_ 8 63) rfl rfl (one_of HT_.out (g0_)) (by decide) (fun K hK => ?_)
      refine goes_ Try.func89 (g0_) rfl #[.int .i64 (rd t952 x21_1)] (by rfl) rfl rfl (g2_) ?_
      with_reducible refine (impl_whole.calls (rd t952 x21_1) t957 t958 _ A16.out).mono ?_
      rintro e w30 ⟨rfl, hb⟩
      have HS0_ := (hb.cell (World.block_lt_of_cell? _ _ (hHeld.1))).trans (hHeld.1)
      have HS1_ := (hb.cell (World.block_lt_of_cell? _ _ (hHeld.2))).trans (hHeld.2)
      refine ⟨_, rfl, ?_⟩
      replace HO_6 := Aside0.mk (Kd.R_below (uf1_ HO_6) hb)
      replace HO_19 := Aside0.mk (Kd.R_below (uf1_ HO_19) hb)
      replace BK947 := bb_ BK947 hb
      replace HB := Aside0.mk (below_step (qz21_) hb)
      (try clear hb)
      (try clear hk hi)
      refine hK.out _ _ ⟨HS0_, HS1_⟩ (fun hHeld => ?_)
      clear hK K
      refine nm_ ?_
      refine one_ (i := 6) (N := some 32) (tl_ 8 127) rfl rfl (one_of HT_.out (g0_)) (by decide) (fun K hK => ?_)
      refine goes_ Try.func78 (g0_) rfl #[.agg #[.int .i64 ((rd_T36 x6_1 x21_1).f0), .int .i64 ((rd_T36 x6_1 x21_1).f1)], .agg #[.int .i64 t957, .int .i64 t958]] (by rfl) rfl rfl (g2_) ?_
      with_reducible refine (impl_compare.calls ((rd_T36 x6_1 x21_1).f0) ((rd_T36 x6_1 x21_1).f1) t957 t958 t959 _ A17.out).mono ?_
      rintro e w31 ⟨rfl, hb⟩
      have HS0_ := (hb.cell (World.block_lt_of_cell? _ _ (hHeld.1))).trans (hHeld.1)
      have HS1_ := (hb.cell (World.block_lt_of_cell? _ _ (hHeld.2))).trans (hHeld.2)
      refine ⟨_, rfl, ?_⟩
      replace HO_6 := Aside0.mk (Kd.R_below (uf1_ HO_6) hb)
      replace HO_19 := Aside0.mk (Kd.R_below (uf1_ HO_19) hb)
      replace BK947 := bb_ BK947 hb
      replace HB := Aside0.mk (below_step (qz21_) hb)
      (try clear hb)
      (try clear hk hi)
      refine hK.out _ _ ⟨HS0_, HS1_⟩ (fun hHeld => ?_)
      clear hK K
      refine nm_ ?_
      refine pw_ 7 33 (tl_ 8 255) rfl rfl ?_
      refine done_ (done_of HT_.out (g0_)) ?_
      try go_wp2
      go_roundg k1
      case measure => have := HK1.out; omega
      case rel => exact ⟨(x6_1), (wrap64 (x21_1 + 1)), (g3_), H', ⟨g9_⟩, ⟨uf1_ HO_6⟩, ⟨uf1_ HO_19⟩, ⟨uf0_ BK947⟩, ⟨qz21_⟩⟩
    ·rw [if_neg c12] at H
     have c12b0 := decide_eq_false c12
     clear c12
     simp only [Option.some.injEq, Prod.mk.injEq] at H
     obtain ⟨rfl, rfl⟩ := H
     go_wp2
     go_ret2
     exact ⟨_, g4_, uf1_ HO_6, qz21_⟩
 ·replace c4 := Bool.eq_false_iff.mpr c4
  subst c4
  replace H := ifn_ H
  simp only [Option.some.injEq, Prod.mk.injEq] at H
  obtain ⟨rfl, rfl⟩ := H
  go_enter Try.func85, Try.ntmps85
  go_wp2_with (first | ((with_reducible refine gate_dst (N := 2) rfl ?_); refine bx_ (N := 2) #[.slice A0_0 l0_0.length c0_0, .slice A0_1 l0_1.length c0_1] 26 ?_; intro gb947 hg w32 hbox hb; have BK947 := Aside0.mk (hbox); have GW947 := Aside0.mk ((g115_ : w.heap.size ≤ gb947)); have GE947 := Aside0.mk ((g115_ : w.heap.size ≤ gb947)); replace HB := Aside0.mk (below_step (qz21_) hb); clear hb hbox hg; obtain ⟨hcz33_0, hcz33_1, hfz33_0, hfz33_1⟩ := blk2_ BK947) | ((with_reducible refine gate_callee (f := 59) rfl ?_); refine goesL_ (some 13) rfl rfl Try.func59 k_ rfl #[.agg #[.slice A0_0 l0_0.length c0_0, .slice A0_1 l0_1.length c0_1], .slice A1 l1.length c1] rfl (g2_) ?_; (with_reducible refine (impl_gets.calls k _ _ l0_0 _ _ l0_1 _ _ l1 t948 false _ ?side1 ?side2 ?side3 ?side4 ?side5 ?side6 A3.out).mono ?_); (case side1 => exact uf4_ HR0_0); (case side2 => exact HC0_0.out); (case side3 => exact uf4_ HR0_1); (case side4 => exact HC0_1.out); (case side5 => exact uf4_ HR1); (case side6 => exact HC1.out); rintro e w34 ⟨v949, rfl, ho0, hb⟩; refine ⟨_, rfl, ?_⟩; have HO950 := Aside0.mk (Kd.R_lower ho0 (below_size (qz21_))); replace BK947 := bb_ BK947 hb; replace HB := Aside0.mk (below_step (qz21_) hb); (try clear hb); (try clear hk hi); (try clear ho0)))
  go_ret2
  exact ⟨_, g4_, g29_, qz21_⟩
def impl_LeadsTo.f (k : Nat) (l0_0 : List Int) (l0_1 : List (List Int)) (l1 : List (S36)) : Option ((List (S36)) × Bool) := (impl_arePays.f k l0_0 l0_1 l1).bind fun t964 => (if t964 = true then ((impl_leadsTo.f k l0_0 l0_1 l1).bind fun bt965 => (some (bt965.1, bt965.2))) else (some (([] : List (S36)), false)))
theorem impl_LeadsTo.mq {p : Prop} (h : p := by
 repeat' first
 | (with_reducible exact impl_arePays.mono _ _ _ _)
 | (with_reducible exact impl_leadsTo.mono _ _ _ _)
 | (with_reducible exact LeO.refl _)
 | (with_reducible exact LeO.none _)
 | (with_reducible refine LeO.ite ?_ ?_)
 | (with_reducible refine LeO.bind ?_ (fun _ => ?_))
 | exact impl_arePays.mono _ _ _ _
 | exact impl_leadsTo.mono _ _ _ _
 | exact LeO.none _
 | refine LeO.ite ?_ ?_
 | refine LeO.bind ?_ (fun _ => ?_)) : p := h
theorem impl_LeadsTo.mono : ∀ a0 a1 a2 k, LeO (impl_LeadsTo.f k a0 a1 a2) (impl_LeadsTo.f (k + 1) a0 a1 a2) := by
 intro a0 a1 a2 k
 unfold impl_LeadsTo.f
 exact impl_LeadsTo.mq
theorem qz22_ {p : Prop} (h : p := by repeat (first | (with_reducible first | exact HB.out | apply below_alloc | apply pw_below_drewN | apply below_drew1 | refine below_set ?_ GE963.out) | exact HB.out)) : p := h
set_option maxHeartbeats 8000000 in
set_option maxRecDepth 100000 in
theorem impl_LeadsTo.calls (k : Nat) (A0_0 : Option Addr) (c0_0 : Nat) (l0_0 : List Int) (A0_1 : Option Addr) (c0_1 : Nat) (l0_1 : List (List Int)) (A1 : Option Addr) (c1 : Nat) (l1 : List (S36)) (r1 : List (S36)) (r2 : Bool) (w : World) (hr0_0 : Kd.C (Kd.int .i64) w A0_0 l0_0.length l0_0) (hc0_0 : l0_0.length ≤ c0_0) (hr0_1 : Kd.C (Kd.slice 3 (Kd.int .i64)) w A0_1 l0_1.length l0_1) (hc0_1 : l0_1.length ≤ c0_1) (hr1 : Kd.C k36 w A1 l1.length l1) (hc1 : l1.length ≤ c1) (h : impl_LeadsTo.f k l0_0 l0_1 l1 = some (r1, r2)) :
  Calls Try.prog 46 #[.agg #[.slice A0_0 l0_0.length c0_0, .slice A0_1 l0_1.length c0_1], .slice A1 l1.length c1] w fun e w' => ∃ v0_ : Value, e = .returned (.tuple #[v0_, .bool r2]) ∧ Kd.R k36 36 w' w.heap.size (fun _ => True) v0_ r1 ∧ Below w.heap.size w w' := by
 have hu26 := Try.underlying26
 have HR0_0 := Aside0.mk hr0_0
 have HC0_0 := Aside0.mk hc0_0
 clear hr0_0 hc0_0
 have HR0_1 := Aside0.mk hr0_1
 have HC0_1 := Aside0.mk hc0_1
 clear hr0_1 hc0_1
 have HR1 := Aside0.mk hr1
 have HC1 := Aside0.mk hc1
 clear hr1 hc1
 have HB := Aside0.mk (Below.refl w.heap.size w)
 have H : ((impl_arePays.f k l0_0 l0_1 l1).bind fun t964 => (if t964 = true then ((impl_leadsTo.f k l0_0 l0_1 l1).bind fun bt965 => (some (bt965.1, bt965.2))) else (some (([] : List (S36)), false)))) = some (r1, r2) := h
 clear h
 obtain ⟨t964, A3, H⟩ := bind_ H
 by_cases c4 : t964 = true
 ·subst c4
  replace H := ifp_ H
  replace H := Option.bind_eq_some_iff.mp H
  obtain ⟨⟨t965, t968⟩, A50, H⟩ := H
  replace H : (some (t965, t968)) = some (r1, r2) := H
  have A5 := Aside0.mk A50
  clear A50
  simp only [Option.some.injEq, Prod.mk.injEq] at H
  obtain ⟨rfl, rfl⟩ := H
  go_enter Try.func46, Try.ntmps46
  go_wp2_with (first | ((with_reducible refine gate_dst (N := 2) rfl ?_); refine bx_ (N := 2) #[.slice A0_0 l0_0.length c0_0, .slice A0_1 l0_1.length c0_1] 26 ?_; intro gb963 hg w6 hbox hb; have BK963 := Aside0.mk (hbox); have GW963 := Aside0.mk ((g116_ : w.heap.size ≤ gb963)); have GE963 := Aside0.mk ((g116_ : w.heap.size ≤ gb963)); replace HB := Aside0.mk (below_step (qz22_) hb); clear hb hbox hg; obtain ⟨hcz7_0, hcz7_1, hfz7_0, hfz7_1⟩ := blk2_ BK963) | ((with_reducible refine gate_callee (f := 58) rfl ?_); refine goesL_ (some 8) rfl rfl Try.func58 k_ rfl #[.agg #[.slice A0_0 l0_0.length c0_0, .slice A0_1 l0_1.length c0_1], .slice A1 l1.length c1] rfl (g2_) ?_; (with_reducible refine (impl_arePays.calls k _ _ l0_0 _ _ l0_1 _ _ l1 true _ ?side1 ?side2 ?side3 ?side4 ?side5 ?side6 A3.out).mono ?_); (case side1 => exact uf4_ HR0_0); (case side2 => exact HC0_0.out); (case side3 => exact uf4_ HR0_1); (case side4 => exact HC0_1.out); (case side5 => exact uf4_ HR1); (case side6 => exact HC1.out); rintro e w8 ⟨rfl, hb⟩; refine ⟨_, rfl, ?_⟩; replace BK963 := bb_ BK963 hb; replace HB := Aside0.mk (below_step (qz22_) hb); (try clear hb); (try clear hk hi); obtain ⟨hcz9_0, hcz9_1, hfz9_0, hfz9_1⟩ := blk2_ BK963) | ((with_reducible refine gate_callee (f := 85) rfl ?_); refine goesL_ (some 12) rfl rfl Try.func85 k_ rfl #[.agg #[.slice A0_0 l0_0.length c0_0, .slice A0_1 l0_1.length c0_1], .slice A1 l1.length c1] rfl (g2_) ?_; (with_reducible refine (impl_leadsTo.calls k _ _ l0_0 _ _ l0_1 _ _ l1 t965 t968 _ ?side1 ?side2 ?side3 ?side4 ?side5 ?side6 A5.out).mono ?_); (case side1 => exact uf4_ HR0_0); (case side2 => exact HC0_0.out); (case side3 => exact uf4_ HR0_1); (case side4 => exact HC0_1.out); (case side5 => exact uf4_ HR1); (case side6 => exact HC1.out); rintro e w10 ⟨v966, rfl, ho0, hb⟩; refine ⟨_, rfl, ?_⟩; have HO967 := Aside0.mk (Kd.R_lower ho0 (below_size (qz22_))); replace BK963 := bb_ BK963 hb; replace HB := Aside0.mk (below_step (qz22_) hb); (try clear hb); (try clear hk hi); (try clear ho0)))
  go_ret2
  exact ⟨_, g4_, uf1_ HO967, qz22_⟩
 ·replace c4 := Bool.eq_false_iff.mpr c4
  subst c4
  replace H := ifn_ H
  simp only [Option.some.injEq, Prod.mk.injEq] at H
  obtain ⟨rfl, rfl⟩ := H
  go_enter Try.func46, Try.ntmps46
  go_wp2_with (first | ((with_reducible refine gate_dst (N := 2) rfl ?_); refine bx_ (N := 2) #[.slice A0_0 l0_0.length c0_0, .slice A0_1 l0_1.length c0_1] 26 ?_; intro gb963 hg w11 hbox hb; have BK963 := Aside0.mk (hbox); have GW963 := Aside0.mk ((g116_ : w.heap.size ≤ gb963)); have GE963 := Aside0.mk ((g116_ : w.heap.size ≤ gb963)); replace HB := Aside0.mk (below_step (qz22_) hb); clear hb hbox hg; obtain ⟨hcz12_0, hcz12_1, hfz12_0, hfz12_1⟩ := blk2_ BK963) | ((with_reducible refine gate_callee (f := 58) rfl ?_); refine goesL_ (some 8) rfl rfl Try.func58 k_ rfl #[.agg #[.slice A0_0 l0_0.length c0_0, .slice A0_1 l0_1.length c0_1], .slice A1 l1.length c1] rfl (g2_) ?_; (with_reducible refine (impl_arePays.calls k _ _ l0_0 _ _ l0_1 _ _ l1 false _ ?side1 ?side2 ?side3 ?side4 ?side5 ?side6 A3.out).mono ?_); (case side1 => exact uf4_ HR0_0); (case side2 => exact HC0_0.out); (case side3 => exact uf4_ HR0_1); (case side4 => exact HC0_1.out); (case side5 => exact uf4_ HR1); (case side6 => exact HC1.out); rintro e w13 ⟨rfl, hb⟩; refine ⟨_, rfl, ?_⟩; replace BK963 := bb_ BK963 hb; replace HB := Aside0.mk (below_step (qz22_) hb); (try clear hb); (try clear hk hi)))
  go_ret2
  exact ⟨_, g4_, g29_, qz22_⟩
def spec_BeforeOf.j0 : Nat → Bool → Int → Int → Int → Int → Option (Int)
 | 0, _, _, _, _, _ => none
 | k + 1, x14, x347000, x347001, x348000, x348001 => if x14 = true then (some (-2)) else (if (wrap64 (x347000 * x348001)) < (wrap64 (x348000 * x347001)) then (some (-1)) else (if (wrap64 (x347000 * x348001)) > (wrap64 (x348000 * x347001)) then (some 1) else (some 0)))
def spec_BeforeOf.f (k : Nat) (a0_0 : Int) (a0_1 : Int) (a1_0 : Int) (a1_1 : Int) : Option (Int) := (spec_FracOk.f k a0_0 a0_1).bind fun t348 => (if t348 = true then ((spec_FracOk.f k a1_0 a1_1).bind fun t349 => (spec_BeforeOf.j0 k (!t349) a0_0 a0_1 a1_0 a1_1)) else (spec_BeforeOf.j0 k true a0_0 a0_1 a1_0 a1_1))
theorem spec_BeforeOf.mq {p : Prop} (h : p := by
 repeat' first
 | (with_reducible exact ih0 _ _ _ _ _)
 | (with_reducible exact spec_FracOk.mono _ _ _)
 | (with_reducible exact LeO.refl _)
 | (with_reducible exact LeO.none _)
 | (with_reducible refine LeO.ite ?_ ?_)
 | (with_reducible refine LeO.bind ?_ (fun _ => ?_))
 | exact ih0 _ _ _ _ _
 | exact spec_FracOk.mono _ _ _
 | exact LeO.none _
 | refine LeO.ite ?_ ?_
 | refine LeO.bind ?_ (fun _ => ?_)) : p := h
theorem spec_BeforeOf.mono_l : ∀ k, (∀ y0 y1 y2 y3 y4, LeO (spec_BeforeOf.j0 k y0 y1 y2 y3 y4) (spec_BeforeOf.j0 (k + 1) y0 y1 y2 y3 y4))
 | 0 => fun _ _ _ _ _ r h => by simp [spec_BeforeOf.j0] at h
 | k + 1 => by
  have ih0 := spec_BeforeOf.mono_l k
  ·intro y0 y1 y2 y3 y4
   unfold spec_BeforeOf.j0
   exact spec_BeforeOf.mq
theorem spec_BeforeOf.mono : ∀ a0 a1 a2 a3 k, LeO (spec_BeforeOf.f k a0 a1 a2 a3) (spec_BeforeOf.f (k + 1) a0 a1 a2 a3) := by
 intro a0 a1 a2 a3 k
 have ih0 := spec_BeforeOf.mono_l k
 unfold spec_BeforeOf.f
 exact spec_BeforeOf.mq
theorem qz18_ {p : Prop} (h : p := by repeat (first | (with_reducible first | exact HB.out | apply below_alloc | apply pw_below_drewN | apply below_drew1 | refine below_set ?_ GE346.out | refine below_set ?_ GE347.out) | exact HB.out)) : p := h
set_option maxHeartbeats 8000000 in
set_option maxRecDepth 100000 in
theorem spec_BeforeOf.calls (k : Nat) (a0_0 : Int) (a0_1 : Int) (a1_0 : Int) (a1_1 : Int) (r : Int) (w : World) (h : spec_BeforeOf.f k a0_0 a0_1 a1_0 a1_1 = some r) :
  Calls Try.prog 64 #[.agg #[.int .i64 a0_0, .int .i64 a0_1], .agg #[.int .i64 a1_0, .int .i64 a1_1]] w fun e w' => e = .returned (.int .i64 r) ∧ Below w.heap.size w w' := by
 have hu36 := Try.underlying36
 have HB := Aside0.mk (Below.refl w.heap.size w)
 have H : ((spec_FracOk.f k a0_0 a0_1).bind fun t348 => (if t348 = true then ((spec_FracOk.f k a1_0 a1_1).bind fun t349 => (spec_BeforeOf.j0 k (!t349) a0_0 a0_1 a1_0 a1_1)) else (spec_BeforeOf.j0 k true a0_0 a0_1 a1_0 a1_1))) = some r := h
 clear h
 have HC3 := Aside0.mk H
 clear H
 go_enter Try.func64, Try.ntmps64
 go_upto_region 1 with (first | ((with_reducible refine gate_dst (N := 2) rfl ?_); refine bx_ (N := 2) #[.int .i64 a0_0, .int .i64 a0_1] 36 ?_; intro gb346 hg w4 hbox hb; have BK346 := Aside0.mk (hbox); have GW346 := Aside0.mk ((g92_ : w.heap.size ≤ gb346)); have GE346 := Aside0.mk ((g92_ : w.heap.size ≤ gb346)); replace HB := Aside0.mk (below_step (qz18_) hb); clear hb hbox hg) | ((with_reducible refine gate_dst (N := 3) rfl ?_); refine bx_ (N := 3) #[.int .i64 a1_0, .int .i64 a1_1] 36 ?_; intro gb347 hg w5 hbox hb; have BK347 := Aside0.mk (hbox); have GW347 := Aside0.mk ((g92_ : w.heap.size ≤ gb347)); have GE347 := Aside0.mk ((g92_ : w.heap.size ≤ gb347)); replace HB := Aside0.mk (below_step (qz18_) hb); have NB346_347 := Aside0.mk ((by rw [hg]; exact Nat.ne_of_lt (blk_lt (g := gb346) (o := .cells #[.int .i64 a0_0, .int .i64 a0_1] 36 (0, 0)) (uf0_ BK346)) : gb346 ≠ gb347)); have NB347_346 := Aside0.mk ((by rw [hg]; exact Nat.ne_of_gt (blk_lt (g := gb346) (o := .cells #[.int .i64 a0_0, .int .i64 a0_1] 36 (0, 0)) (uf0_ BK346)) : gb347 ≠ gb346)); replace BK346 := bb_ BK346 hb; clear hb hbox hg))
 (try simp only [Act.put, List.setIfInBounds_toArray, List.set_cons_zero, List.set_cons_succ])
 go_cut [14] (fun v14 wc => ∃ (kq : Nat) (x14_2 : Bool), v14 = .bool x14_2 ∧ Aside0 (spec_BeforeOf.j0 kq x14_2 a0_0 a0_1 a1_0 a1_1 = some r) ∧ Aside0 (kq ≤ k) ∧ Aside0 (wc.heap[gb346]? = some (.cells #[.int .i64 a0_0, .int .i64 a0_1] 36 (0, 0))) ∧ Aside0 (wc.heap[gb347]? = some (.cells #[.int .i64 a1_0, .int .i64 a1_1] 36 (0, 0))) ∧ Aside0 (Below w.heap.size w wc))
 case first =>
  have H := HC3.out
  clear HC3
  obtain ⟨t348, A6, H⟩ := bind_ H
  by_cases c7 : t348 = true
  ·subst c7
   replace H := ifp_ H
   obtain ⟨t349, A8, H⟩ := bind_ H
   have H' := Aside0.mk H
   clear H
   have hnb9 := NB346_347.out
   have hnc9 := NB347_346.out
   obtain ⟨hcz10_0, hcz10_1, hfz10_0, hfz10_1⟩ := blk2_ BK346
   go_wp2_with (first | ((with_reducible refine gate_callee (f := 63) rfl ?_); refine goesL_ (some 8) rfl rfl Try.func63 k_ rfl #[.agg #[.int .i64 a0_0, .int .i64 a0_1]] rfl (g2_) ?_; (with_reducible refine (spec_FracOk.calls k a0_0 a0_1 true _ A6.out).mono ?_); rintro e w11 ⟨rfl, hb⟩; refine ⟨_, rfl, ?_⟩; replace BK346 := bb_ BK346 hb; replace BK347 := bb_ BK347 hb; replace HB := Aside0.mk (below_step (qz18_) hb); (try clear hb); (try clear hk hi); obtain ⟨hcz12_0, hcz12_1, hfz12_0, hfz12_1⟩ := blk2_ BK347) | (go_at_call 63; (with_reducible refine (spec_FracOk.calls k a1_0 a1_1 t349 _ A8.out).mono ?_); rintro e w13 ⟨rfl, hb⟩; replace BK346 := bb_ BK346 hb; replace BK347 := bb_ BK347 hb; replace HB := Aside0.mk (below_step (qz18_) hb); (try clear hb); (try clear hk hi)))
   go_meet
   case rel => exact ⟨_, (!t349), (g3_), H', ⟨g13_⟩, ⟨uf0_ BK346⟩, ⟨uf0_ BK347⟩, ⟨qz18_⟩⟩
  ·replace c7 := Bool.eq_false_iff.mpr c7
   subst c7
   replace H := ifn_ H
   have H' := Aside0.mk H
   clear H
   have hnb14 := NB346_347.out
   have hnc14 := NB347_346.out
   obtain ⟨hcz15_0, hcz15_1, hfz15_0, hfz15_1⟩ := blk2_ BK346
   go_wp2_with (first | ((with_reducible refine gate_callee (f := 63) rfl ?_); refine goesL_ (some 8) rfl rfl Try.func63 k_ rfl #[.agg #[.int .i64 a0_0, .int .i64 a0_1]] rfl (g2_) ?_; (with_reducible refine (spec_FracOk.calls k a0_0 a0_1 false _ A6.out).mono ?_); rintro e w16 ⟨rfl, hb⟩; refine ⟨_, rfl, ?_⟩; replace BK346 := bb_ BK346 hb; replace BK347 := bb_ BK347 hb; replace HB := Aside0.mk (below_step (qz18_) hb); (try clear hb); (try clear hk hi)))
   go_meet
   case rel => exact ⟨_, (true), (g3_), H', ⟨g13_⟩, ⟨uf0_ BK346⟩, ⟨uf0_ BK347⟩, ⟨qz18_⟩⟩
 case rest =>
  clear HC3
  try clear c1
  try clear p2
  try clear c6
  try clear c7
  try clear c9
  try clear c14
  try clear hcz10_0
  try clear hcz10_1
  try clear hcz12_0
  try clear hcz12_1
  try clear hcz15_0
  try clear hcz15_1
  try clear hfz10_0
  try clear hfz10_1
  try clear hfz12_0
  try clear hfz12_1
  try clear hfz15_0
  try clear hfz15_1
  obtain ⟨kq, x14_2, rfl, HA, HJ2, BK346, BK347, HB⟩ := hcut
  cases kq with
  | zero => exact absurd HA.out (by simp [spec_BeforeOf.j0])
  | succ kj2 =>
   have H := HA.out
   clear HA
   simp only [spec_BeforeOf.j0] at H
   by_cases c17 : x14_2 = true
   ·subst c17
    replace H := ifp_ H
    obtain rfl := Option.some.inj H
    go_wp2
    go_ret
    exact ⟨g4_, qz18_⟩
   ·replace c17 := Bool.eq_false_iff.mpr c17
    subst c17
    replace H := ifn_ H
    by_cases c18 : (wrap64 (a0_0 * a1_1)) < (wrap64 (a1_0 * a0_1))
    ·rw [if_pos c18] at H
     have c18b0 := decide_eq_true c18
     clear c18
     obtain rfl := Option.some.inj H
     have hnb19 := NB346_347.out
     have hnc19 := NB347_346.out
     obtain ⟨hcz20_0, hcz20_1, hfz20_0, hfz20_1⟩ := blk2_ BK346
     obtain ⟨hcz21_0, hcz21_1, hfz21_0, hfz21_1⟩ := blk2_ BK347
     go_wp2
     go_ret
     exact ⟨g4_, qz18_⟩
    ·rw [if_neg c18] at H
     have c18b0 := decide_eq_false c18
     clear c18
     by_cases c22 : (wrap64 (a0_0 * a1_1)) > (wrap64 (a1_0 * a0_1))
     ·rw [if_pos c22] at H
      have c22b0 := decide_eq_true c22
      clear c22
      obtain rfl := Option.some.inj H
      have hnb23 := NB346_347.out
      have hnc23 := NB347_346.out
      obtain ⟨hcz24_0, hcz24_1, hfz24_0, hfz24_1⟩ := blk2_ BK346
      obtain ⟨hcz25_0, hcz25_1, hfz25_0, hfz25_1⟩ := blk2_ BK347
      go_wp2
      go_ret
      exact ⟨g4_, qz18_⟩
     ·rw [if_neg c22] at H
      have c22b0 := decide_eq_false c22
      clear c22
      obtain rfl := Option.some.inj H
      have hnb26 := NB346_347.out
      have hnc26 := NB347_346.out
      obtain ⟨hcz27_0, hcz27_1, hfz27_0, hfz27_1⟩ := blk2_ BK346
      obtain ⟨hcz28_0, hcz28_1, hfz28_0, hfz28_1⟩ := blk2_ BK347
      go_wp2
      go_ret
      exact ⟨g4_, qz18_⟩
mutual
def spec_PaysOk.l0 : Nat → List (S36) → List Int → Int → List Int → List (List Int) → Option (Bool)
 | 0, _, _, _, _, _ => none
 | k + 1, x1, x5, x6, x351000, x351001 => if x6 < (x1.length : Int) then (spec_PaysOk.j1 k x1 x5 x6 ((x1.length : Int) == (x5.length : Int)) x351000 x351001) else (spec_PaysOk.j1 k x1 x5 x6 false x351000 x351001)
def spec_PaysOk.j1 : Nat → List (S36) → List Int → Int → Bool → List Int → List (List Int) → Option (Bool)
 | 0, _, _, _, _, _, _ => none
 | k + 1, x1, x5, x6, x19, x351000, x351001 => if x19 = true then (if 0 ≤ x6 then (if x6 < (x1.length : Int) then ((spec_FracOk.f k ((rd_T36 x1 x6).f0) ((rd_T36 x1 x6).f1)).bind fun t356 => (if t356 = true then (if ((rd_T36 x1 x6).f0) < 0 then (some false) else (if x6 < (x5.length : Int) then ((spec_BeforeOf.f k ((rd_T36 x1 x6).f0) ((rd_T36 x1 x6).f1) (rd x5 x6) 1).bind fun t360 => (if t360 > 0 then (some false) else (spec_PaysOk.l0 k x1 x5 (wrap64 (x6 + 1)) x351000 x351001))) else (none))) else (some false))) else (none)) else (none)) else ((spec_BookOk.f k x351000 x351001).bind fun t354 => (if t354 = true then (some ((x1.length : Int) == (x5.length : Int))) else (some false)))
end
def spec_PaysOk.f (k : Nat) (l0_0 : List Int) (l0_1 : List (List Int)) (l1 : List (S36)) : Option (Bool) := (spec_OwesOf.f k l0_0 l0_1).bind fun t351 => (spec_PaysOk.l0 k l1 t351 0 l0_0 l0_1)
theorem spec_PaysOk.mq {p : Prop} (h : p := by
 repeat' first
 | (with_reducible exact ih0 _ _ _ _ _)
 | (with_reducible exact ih1 _ _ _ _ _ _)
 | (with_reducible exact spec_BeforeOf.mono _ _ _ _ _)
 | (with_reducible exact spec_BookOk.mono _ _ _)
 | (with_reducible exact spec_FracOk.mono _ _ _)
 | (with_reducible exact spec_OwesOf.mono _ _ _)
 | (with_reducible exact LeO.refl _)
 | (with_reducible exact LeO.none _)
 | (with_reducible refine LeO.ite ?_ ?_)
 | (with_reducible refine LeO.bind ?_ (fun _ => ?_))
 | exact ih0 _ _ _ _ _
 | exact ih1 _ _ _ _ _ _
 | exact spec_BeforeOf.mono _ _ _ _ _
 | exact spec_BookOk.mono _ _ _
 | exact spec_FracOk.mono _ _ _
 | exact spec_OwesOf.mono _ _ _
 | exact LeO.none _
 | refine LeO.ite ?_ ?_
 | refine LeO.bind ?_ (fun _ => ?_)) : p := h
theorem spec_PaysOk.mono_l : ∀ k, (∀ y0 y1 y2 y3 y4, LeO (spec_PaysOk.l0 k y0 y1 y2 y3 y4) (spec_PaysOk.l0 (k + 1) y0 y1 y2 y3 y4)) ∧ (∀ y0 y1 y2 y3 y4 y5, LeO (spec_PaysOk.j1 k y0 y1 y2 y3 y4 y5) (spec_PaysOk.j1 (k + 1) y0 y1 y2 y3 y4 y5))
 | 0 => ⟨fun _ _ _ _ _ r h => by simp [spec_PaysOk.l0] at h, fun _ _ _ _ _ _ r h => by simp [spec_PaysOk.j1] at h⟩
 | k + 1 => by
  obtain ⟨ih0, ih1⟩ := spec_PaysOk.mono_l k
  refine ⟨?_, ?_⟩
  ·intro y0 y1 y2 y3 y4
   unfold spec_PaysOk.l0
   exact spec_PaysOk.mq
  ·intro y0 y1 y2 y3 y4 y5
   unfold spec_PaysOk.j1
   exact spec_PaysOk.mq
theorem spec_PaysOk.mono : ∀ a0 a1 a2 k, LeO (spec_PaysOk.f k a0 a1 a2) (spec_PaysOk.f (k + 1) a0 a1 a2) := by
 intro a0 a1 a2 k
 obtain ⟨ih0, ih1⟩ := spec_PaysOk.mono_l k
 unfold spec_PaysOk.f
 exact spec_PaysOk.mq
def spec_PaysOk.T5 : Bool × List (List Nat × List Nat) := (true, [([], []), ([], []), ([0, 1], [0, 1]), ([2], [2]), ([3], [3]), ([4], [4]), ([5, 4], [5]), ([6], [6]), ([6], [6]), ([7, 8, 6], [6, 7, 8]), ([9, 6], [6, 9]), ([10, 6], [6, 10]), ([11, 6], [6, 11]), ([6, 12], [6, 12]), ([13, 6], [13]), ([14], [14]), ([14], [14]), ([15, 16, 14], [14, 15, 16]), ([17, 14], [14, 17]), ([14], [14]), ([14], [14]), ([19, 20, 14], [14, 19, 20]), ([21, 14], [14, 21]), ([22, 14], [14, 22]), ([18, 23, 14, 14], [14, 18, 23]), ([24, 14], [14, 24]), ([14, 25], [14, 25])])
def spec_PaysOk.B5 : List Nat := [0, 0, 3, 7, 15, 31, 63, 127, 127, 511, 1023, 2047, 4095, 8191, 16383, 32767, 32767, 131071, 262143, 32767, 32767, 1605631, 3702783, 7897087, 16777215, 33554431, 67108863]
theorem spec_PaysOk.tab5 : rtab .any (opsOf Try.f21 5) = spec_PaysOk.T5 := by kernel_rfl
theorem spec_PaysOk.bits5 : waitsOk spec_PaysOk.T5.2 spec_PaysOk.B5 = true := by kernel_rfl
theorem qz51_ {p : Prop} (h : p := by repeat (first | (with_reducible first | exact HB.out | apply below_alloc | apply pw_below_drewN | apply below_drew1 | refine below_set ?_ GE350.out) | exact HB.out)) : p := h
set_option maxHeartbeats 8000000 in
set_option maxRecDepth 100000 in
theorem spec_PaysOk.calls (k : Nat) (A0_0 : Option Addr) (c0_0 : Nat) (l0_0 : List Int) (A0_1 : Option Addr) (c0_1 : Nat) (l0_1 : List (List Int)) (A1 : Option Addr) (c1 : Nat) (l1 : List (S36)) (r : Bool) (w : World) (hr0_0 : Kd.C (Kd.int .i64) w A0_0 l0_0.length l0_0) (hc0_0 : l0_0.length ≤ c0_0) (hr0_1 : Kd.C (Kd.slice 3 (Kd.int .i64)) w A0_1 l0_1.length l0_1) (hc0_1 : l0_1.length ≤ c0_1) (hr1 : Kd.C k36 w A1 l1.length l1) (hc1 : l1.length ≤ c1) (h : spec_PaysOk.f k l0_0 l0_1 l1 = some r) :
  Calls Try.prog 21 #[.agg #[.slice A0_0 l0_0.length c0_0, .slice A0_1 l0_1.length c0_1], .slice A1 l1.length c1] w fun e w' => e = .returned (.bool r) ∧ Below w.heap.size w w' := by
 have hu26 := Try.underlying26
 have hu36 := Try.underlying36
 have HR0_0 := Aside0.mk hr0_0
 have HC0_0 := Aside0.mk hc0_0
 clear hr0_0 hc0_0
 have HR0_1 := Aside0.mk hr0_1
 have HC0_1 := Aside0.mk hc0_1
 clear hr0_1 hc0_1
 have HR1 := Aside0.mk hr1
 have HC1 := Aside0.mk hc1
 clear hr1 hc1
 have HB := Aside0.mk (Below.refl w.heap.size w)
 have H : ((spec_OwesOf.f k l0_0 l0_1).bind fun t351 => (spec_PaysOk.l0 k l1 t351 0 l0_0 l0_1)) = some r := h
 clear h
 obtain ⟨t351, A3, H⟩ := bind_ H
 have H' := Aside0.mk H
 clear H
 go_enter Try.func21, Try.ntmps21
 go_wp2_with (first | ((with_reducible refine gate_dst (N := 2) rfl ?_); (try (refine gate_guard (by rfl) ?_; dsimp only)); refine bx_ (N := 2) #[.slice A0_0 l0_0.length c0_0, .slice A0_1 l0_1.length c0_1] 26 ?_; intro gb350 hg w4 hbox hb; have BK350 := Aside0.mk (hbox); have GW350 := Aside0.mk ((by rw [hg]; exact (below_size (qz51_)) : w.heap.size ≤ gb350)); have GE350 := Aside0.mk ((by rw [hg]; exact (below_size (qz51_)) : w.heap.size ≤ gb350)); replace HB := Aside0.mk (below_step (qz51_) hb); clear hb hbox hg; obtain ⟨hcz5_0, hcz5_1, hfz5_0, hfz5_1⟩ := blk2_ BK350) | ((with_reducible refine gate_callee (f := 62) rfl ?_); refine goesL_ (some 8) rfl rfl Try.func62 k_ rfl #[.agg #[.slice A0_0 l0_0.length c0_0, .slice A0_1 l0_1.length c0_1]] rfl (g2_) ?_; (with_reducible refine (spec_OwesOf.calls k _ _ l0_0 _ _ l0_1 t351 _ ?side1 ?side2 ?side3 ?side4 A3.out).mono ?_); (case side1 => exact uf4_ HR0_0); (case side2 => exact HC0_0.out); (case side3 => exact uf4_ HR0_1); (case side4 => exact HC0_1.out); rintro e w6 ⟨v352, rfl, ho0, hb⟩; refine ⟨_, rfl, ?_⟩; have HO353 := Aside0.mk (Kd.R_lower ho0 (below_size (qz51_))); replace BK350 := bb_ BK350 hb; replace HB := Aside0.mk (below_step (qz51_) hb); (try clear hb); (try clear hk hi); (try clear ho0)))
 go_loopg [6] k (fun kq v6 w' => ∃ (x6_1 : Int), v6 = .int .i64 x6_1 ∧ Aside0 (spec_PaysOk.l0 kq l1 t351 x6_1 l0_0 l0_1 = some r) ∧ Aside0 (kq ≤ k) ∧ Aside0 (Kd.R (Kd.int .i64) 3 w' w.heap.size (fun _ => True) v352 t351) ∧ Aside0 (w'.heap[gb350]? = some (.cells #[(.slice A0_0 l0_0.length c0_0), (.slice A0_1 l0_1.length c0_1)] 26 (0, 0))) ∧ Aside0 (Below w.heap.size w w'))
 case atStart => exact ⟨(0), (g3_), H', ⟨Nat.le_refl _⟩, ⟨uf1_ HO353⟩, ⟨uf0_ BK350⟩, ⟨qz51_⟩⟩
 case round =>
  clear H'
  try clear c1
  try clear c2
  try clear p2
  try clear c6
  try clear hcz5_0
  try clear hcz5_1
  try clear hfz5_0
  try clear hfz5_1
  obtain ⟨x6_1, rfl, HA, HK1, HO_5, BK350, HB⟩ := hrel
  cases gk with
  | zero => exact absurd HA.out (by simp [spec_PaysOk.l0])
  | succ k1 =>
   have H := HA.out
   clear HA
   simp only [spec_PaysOk.l0] at H
   have HC7 := Aside0.mk H
   clear H
   go_upto_region 3 with (fail)
   go_cut [19] (fun v19 wc => ∃ (kq : Nat) (x19_6 : Bool), v19 = .bool x19_6 ∧ Aside0 (spec_PaysOk.j1 kq l1 t351 x6_1 x19_6 l0_0 l0_1 = some r) ∧ Aside0 (kq ≤ k1) ∧ Aside0 (Kd.R (Kd.int .i64) 3 wc w.heap.size (fun _ => True) v352 t351) ∧ Aside0 (wc.heap[gb350]? = some (.cells #[(.slice A0_0 l0_0.length c0_0), (.slice A0_1 l0_1.length c0_1)] 26 (0, 0))) ∧ Aside0 (Below w.heap.size w wc))
   case first =>
    have H := HC7.out
    clear HC7
    by_cases c8 : x6_1 < (l1.length : Int)
    ·rw [if_pos c8] at H
     have c8b0 := decide_eq_true c8
     clear c8
     (first | rw [c8b0] | (simp only [i64_w, i32_w]; rw [c8b0]) | skip)
     have H' := Aside0.mk H
     clear H
     obtain ⟨Ao9, co9, eo9⟩ := Kd.R_slice HO_5.out
     subst eo9
     go_wp2
     go_meet
     case rel => exact ⟨_, (((l1.length : Int) == (t351.length : Int))), (g3_), H', ⟨g30_⟩, ⟨uf1_ HO_5⟩, ⟨uf0_ BK350⟩, ⟨qz51_⟩⟩
    ·rw [if_neg c8] at H
     have c8b0 := decide_eq_false c8
     clear c8
     (first | rw [c8b0] | (simp only [i64_w, i32_w]; rw [c8b0]) | skip)
     have H' := Aside0.mk H
     clear H
     go_wp2
     go_meet
     case rel => exact ⟨_, (false), (g3_), H', ⟨g30_⟩, ⟨uf1_ HO_5⟩, ⟨uf0_ BK350⟩, ⟨qz51_⟩⟩
   case rest =>
    clear HC7
    try clear c1
    try clear c2
    try clear p2
    try clear c6
    try clear c8
    try clear c8b0
    try clear hcz5_0
    try clear hcz5_1
    try clear hfz5_0
    try clear hfz5_1
    try clear p2
    obtain ⟨kq, x19_6, rfl, HA, HJ6, HO_5, BK350, HB⟩ := hcut
    cases kq with
    | zero => exact absurd HA.out (by simp [spec_PaysOk.j1])
    | succ kj6 =>
     have H := HA.out
     clear HA
     simp only [spec_PaysOk.j1] at H
     by_cases c10 : x19_6 = true
     ·subst c10
      replace H := ifp_ H
      obtain ⟨c11, H⟩ := pos_ H
      have c11b0 := decide_eq_true c11
      clear c11
      obtain ⟨c12, H⟩ := pos_ H
      have c12b0 := decide_eq_true c12
      clear c12
      obtain ⟨t356, A13, H⟩ := bind_ H
      by_cases c14 : t356 = true
      ·subst c14
       replace H := ifp_ H
       by_cases c15 : ((rd_T36 l1 x6_1).f0) < 0
       ·rw [if_pos c15] at H
        have c15b0 := decide_eq_true c15
        clear c15
        obtain rfl := Option.some.inj H
        try go_wp2
        replace HO_5 := Aside0.mk (Kd.R_drew HO_5.out)
        replace BK350 := Aside0.mk (blk_drew BK350.out)
        replace HB := Aside0.mk (below_drew1 HB.out)
        have p355 : 0 ≤ (x6_1 : Int) := of_decide_eq_true (g1_)
        have q355 : x6_1 < (l1.length : Int) := of_decide_eq_true (g1_)
        obtain ⟨ad355, e355, hx355_0, hx355_1⟩ := at_T36 HR1.out x6_1 p355 q355
        have hw355_1 := hx355_1
        have hw355_0 := hx355_0
        cases e355
        replace hx355_0 := cl_ HB hx355_0
        replace hx355_1 := cl_ HB hx355_1
        replace p355 := eq_true p355
        replace q355 := eq_true q355
        have p357 : 0 ≤ (x6_1 : Int) := of_decide_eq_true (g1_)
        have q357 : x6_1 < (l1.length : Int) := of_decide_eq_true (g1_)
        obtain ⟨ad357, e357, hx357_0, hx357_1⟩ := at_T36 HR1.out x6_1 p357 q357
        have hw357_1 := hx357_1
        have hw357_0 := hx357_0
        obtain rfl : ad355 = ad357 := (by injection e357)
        replace hx357_0 := cl_ HB hx357_0
        replace hx357_1 := cl_ HB hx357_1
        replace p357 := eq_true p357
        replace q357 := eq_true q357
        refine start_ (n := 27) (S := fun w' => w'.cell? (ad355.add ((x6_1).toNat * 2)) = some (.int .i64 ((rd_T36 l1 x6_1).f0)) ∧ w'.cell? ⟨(ad355.add ((x6_1).toNat * 2)).block, (ad355.add ((x6_1).toNat * 2)).off + 1, none⟩ = some (.int .i64 ((rd_T36 l1 x6_1).f1)) ∧ w'.cell? (ad355.add ((x6_1).toNat * 2)) = some (.int .i64 ((rd_T36 l1 x6_1).f0)) ∧ w'.cell? ⟨(ad355.add ((x6_1).toNat * 2)).block, (ad355.add ((x6_1).toNat * 2)).off + 1, none⟩ = some (.int .i64 ((rd_T36 l1 x6_1).f1))) (ds := []) (tl_ 27 0) (g0_) rfl (g0_) ⟨((cl_ HB hw355_0).trans rfl), ((cl_ HB hw355_1).trans rfl), ((cl_ HB hw357_0).trans rfl), ((cl_ HB hw357_1).trans rfl)⟩ (fun hHeld => ?_); refine with_tabW spec_PaysOk.tab5 spec_PaysOk.bits5 (fun HT_ HW_ => ?_)
        generalize wc.drew = w16 at HO_5 BK350 HB hx355_0 hx355_1 hx357_0 hx357_1 hHeld ⊢
        refine pw_ 0 22 (tl_ 27 1) rfl rfl ?_
        refine pw_ 1 23 (tl_ 27 3) rfl rfl ?_
        refine pw_ 2 24 (tl_ 27 7) rfl rfl ?_
        refine tk3_ 3 25 (tl_ 27 15) rfl rfl hHeld ?_
        refine one_ (i := 4) (N := some 26) (tl_ 27 31) rfl rfl (one_of HT_.out (g0_)) (by decide) (fun K hK => ?_)
        refine goes_ Try.func63 (g0_) rfl #[.agg #[.int .i64 ((rd_T36 l1 x6_1).f0), .int .i64 ((rd_T36 l1 x6_1).f1)]] (by rfl) rfl rfl (g2_) ?_
        with_reducible refine (spec_FracOk.calls kj6 ((rd_T36 l1 x6_1).f0) ((rd_T36 l1 x6_1).f1) true _ A13.out).mono ?_
        rintro e w17 ⟨rfl, hb⟩
        refine ⟨_, rfl, ?_⟩
        replace HO_5 := Aside0.mk (Kd.R_below (uf1_ HO_5) hb)
        replace BK350 := bb_ BK350 hb
        replace HB := Aside0.mk (below_step (qz51_) hb)
        (try clear hb)
        (try clear hk hi)
        refine hK.out _ _ ⟨((cl_ HB hw355_0).trans rfl), ((cl_ HB hw355_1).trans rfl), ((cl_ HB hw357_0).trans rfl), ((cl_ HB hw357_1).trans rfl)⟩ (fun hHeld => ?_)
        clear hK K
        refine nm_ ?_
        refine pw_ 5 27 (tl_ 27 63) rfl rfl ?_
        refine pw_ 6 28 (tl_ 27 127) rfl rfl ?_
        refine pw_ 7 29 (tl_ 27 255) rfl rfl ?_
        refine pw_ 8 30 (tl_ 27 511) rfl rfl ?_
        refine pw_ 9 31 (tl_ 27 1023) rfl rfl ?_
        refine pw_ 10 32 (tl_ 27 2047) rfl rfl ?_
        refine tk3_ 11 33 (tl_ 27 4095) rfl rfl hHeld ?_
        refine pw_ 12 34 (tl_ 27 8191) rfl rfl ?_
        refine pw_ 13 35 (tl_ 27 16383) rfl rfl ?_
        refine pw_ 14 36 (tl_ 27 32767) rfl rfl ?_
        refine pu_ 15 37 (tl_ 27 65535) rfl rfl ?_
        refine pu_ 16 38 (tl_ 27 131071) rfl rfl ?_
        refine pu_ 17 39 (tl_ 27 262143) rfl rfl ?_
        refine pu_ 18 40 (tl_ 27 524287) rfl rfl ?_
        refine pu_ 19 41 (tl_ 27 1048575) rfl rfl ?_
        refine pu_ 20 42 (tl_ 27 2097151) rfl rfl ?_
        refine pu_ 21 43 (tl_ 27 4194303) rfl rfl ?_
        refine pu_ 22 44 (tl_ 27 8388607) rfl rfl ?_
        refine pu_ 23 45 (tl_ 27 16777215) rfl rfl ?_
        refine pu_ 24 46 (tl_ 27 33554431) rfl rfl ?_
        refine pu_ 25 47 (tl_ 27 67108863) rfl rfl ?_
        refine pw_ 26 48 (tl_ 27 134217727) rfl rfl ?_
        refine done_ (done_of HT_.out (g0_)) ?_
        try go_wp2
        go_ret
        exact ⟨g4_, qz51_⟩
       ·rw [if_neg c15] at H
        have c15b0 := decide_eq_false c15
        clear c15
        obtain ⟨c18, H⟩ := pos_ H
        have c18b0 := decide_eq_true c18
        clear c18
        obtain ⟨t360, A19, H⟩ := bind_ H
        by_cases c20 : t360 > 0
        ·rw [if_pos c20] at H
         have c20b0 := decide_eq_true c20
         clear c20
         obtain rfl := Option.some.inj H
         try go_wp2
         replace HO_5 := Aside0.mk (Kd.R_drew HO_5.out)
         replace BK350 := Aside0.mk (blk_drew BK350.out)
         replace HB := Aside0.mk (below_drew1 HB.out)
         have p355 : 0 ≤ (x6_1 : Int) := of_decide_eq_true (g1_)
         have q355 : x6_1 < (l1.length : Int) := of_decide_eq_true (g1_)
         obtain ⟨ad355, e355, hx355_0, hx355_1⟩ := at_T36 HR1.out x6_1 p355 q355
         have hw355_1 := hx355_1
         have hw355_0 := hx355_0
         cases e355
         replace hx355_0 := cl_ HB hx355_0
         replace hx355_1 := cl_ HB hx355_1
         replace p355 := eq_true p355
         replace q355 := eq_true q355
         have p357 : 0 ≤ (x6_1 : Int) := of_decide_eq_true (g1_)
         have q357 : x6_1 < (l1.length : Int) := of_decide_eq_true (g1_)
         obtain ⟨ad357, e357, hx357_0, hx357_1⟩ := at_T36 HR1.out x6_1 p357 q357
         have hw357_1 := hx357_1
         have hw357_0 := hx357_0
         obtain rfl : ad355 = ad357 := (by injection e357)
         replace hx357_0 := cl_ HB hx357_0
         replace hx357_1 := cl_ HB hx357_1
         replace p357 := eq_true p357
         replace q357 := eq_true q357
         have p358 : 0 ≤ (x6_1 : Int) := of_decide_eq_true (g1_)
         have q358 : x6_1 < (l1.length : Int) := of_decide_eq_true (g1_)
         obtain ⟨ad358, e358, hx358_0, hx358_1⟩ := at_T36 HR1.out x6_1 p358 q358
         have hw358_1 := hx358_1
         have hw358_0 := hx358_0
         obtain rfl : ad355 = ad358 := (by injection e358)
         replace hx358_0 := cl_ HB hx358_0
         replace hx358_1 := cl_ HB hx358_1
         replace p358 := eq_true p358
         replace q358 := eq_true q358
         have p359 : 0 ≤ (x6_1 : Int) := of_decide_eq_true (g1_)
         have q359 : x6_1 < (t351.length : Int) := of_decide_eq_true (g1_)
         try (obtain ⟨Aoz, coz, eoz⟩ := Kd.R_slice HO_5.out; subst eoz)
         obtain ⟨ad359, e359, hx359_0⟩ := Kd.at_int (Kd.R_reads' HO_5.out).2.2 x6_1 p359 q359
         cases e359
         replace p359 := eq_true p359
         replace q359 := eq_true q359
         refine start_ (n := 27) (S := fun w' => w'.cell? (ad355.add ((x6_1).toNat * 2)) = some (.int .i64 ((rd_T36 l1 x6_1).f0)) ∧ w'.cell? ⟨(ad355.add ((x6_1).toNat * 2)).block, (ad355.add ((x6_1).toNat * 2)).off + 1, none⟩ = some (.int .i64 ((rd_T36 l1 x6_1).f1)) ∧ w'.cell? (ad355.add ((x6_1).toNat * 2)) = some (.int .i64 ((rd_T36 l1 x6_1).f0)) ∧ w'.cell? ⟨(ad355.add ((x6_1).toNat * 2)).block, (ad355.add ((x6_1).toNat * 2)).off + 1, none⟩ = some (.int .i64 ((rd_T36 l1 x6_1).f1)) ∧ w'.cell? (ad355.add ((x6_1).toNat * 2)) = some (.int .i64 ((rd_T36 l1 x6_1).f0)) ∧ w'.cell? ⟨(ad355.add ((x6_1).toNat * 2)).block, (ad355.add ((x6_1).toNat * 2)).off + 1, none⟩ = some (.int .i64 ((rd_T36 l1 x6_1).f1)) ∧ w'.cell? (ad359.add (x6_1).toNat) = some (.int .i64 (rd t351 x6_1))) (ds := []) (tl_ 27 0) (g0_) rfl (g0_) ⟨((cl_ HB hw355_0).trans rfl), ((cl_ HB hw355_1).trans rfl), ((cl_ HB hw357_0).trans rfl), ((cl_ HB hw357_1).trans rfl), ((cl_ HB hw358_0).trans rfl), ((cl_ HB hw358_1).trans rfl), hx359_0⟩ (fun hHeld => ?_); refine with_tabW spec_PaysOk.tab5 spec_PaysOk.bits5 (fun HT_ HW_ => ?_)
         generalize wc.drew = w21 at HO_5 BK350 HB hx355_0 hx355_1 hx357_0 hx357_1 hx358_0 hx358_1 hx359_0 hHeld ⊢
         refine pw_ 0 22 (tl_ 27 1) rfl rfl ?_
         refine pw_ 1 23 (tl_ 27 3) rfl rfl ?_
         refine pw_ 2 24 (tl_ 27 7) rfl rfl ?_
         refine tk4_ 3 25 (tl_ 27 15) rfl rfl hHeld ?_
         refine one_ (i := 4) (N := some 26) (tl_ 27 31) rfl rfl (one_of HT_.out (g0_)) (by decide) (fun K hK => ?_)
         refine goes_ Try.func63 (g0_) rfl #[.agg #[.int .i64 ((rd_T36 l1 x6_1).f0), .int .i64 ((rd_T36 l1 x6_1).f1)]] (by rfl) rfl rfl (g2_) ?_
         with_reducible refine (spec_FracOk.calls kj6 ((rd_T36 l1 x6_1).f0) ((rd_T36 l1 x6_1).f1) true _ A13.out).mono ?_
         rintro e w22 ⟨rfl, hb⟩
         have HS6_ := (hb.cell (World.block_lt_of_cell? _ _ (hHeld.2.2.2.2.2.2))).trans (hHeld.2.2.2.2.2.2)
         refine ⟨_, rfl, ?_⟩
         replace HO_5 := Aside0.mk (Kd.R_below (uf1_ HO_5) hb)
         replace BK350 := bb_ BK350 hb
         replace HB := Aside0.mk (below_step (qz51_) hb)
         (try clear hb)
         (try clear hk hi)
         obtain ⟨Ao23, co23, eo23⟩ := Kd.R_slice HO_5.out
         (first | subst eo23 | (injection eo23 with f1_ f2_ f3_; have f4_ := f1_.symm; have f5_ := f3_.symm; clear f1_ f2_ f3_; subst f4_; subst f5_))
         refine hK.out _ _ ⟨((cl_ HB hw355_0).trans rfl), ((cl_ HB hw355_1).trans rfl), ((cl_ HB hw357_0).trans rfl), ((cl_ HB hw357_1).trans rfl), ((cl_ HB hw358_0).trans rfl), ((cl_ HB hw358_1).trans rfl), HS6_⟩ (fun hHeld => ?_)
         clear hK K
         refine nm_ ?_
         refine pw_ 5 27 (tl_ 27 63) rfl rfl ?_
         refine pw_ 6 28 (tl_ 27 127) rfl rfl ?_
         refine pw_ 7 29 (tl_ 27 255) rfl rfl ?_
         refine pw_ 8 30 (tl_ 27 511) rfl rfl ?_
         refine pw_ 9 31 (tl_ 27 1023) rfl rfl ?_
         refine pw_ 10 32 (tl_ 27 2047) rfl rfl ?_
         refine tk4_ 11 33 (tl_ 27 4095) rfl rfl hHeld ?_
         refine pw_ 12 34 (tl_ 27 8191) rfl rfl ?_
         refine pw_ 13 35 (tl_ 27 16383) rfl rfl ?_
         refine pw_ 14 36 (tl_ 27 32767) rfl rfl ?_
         refine pw_ 15 37 (tl_ 27 65535) rfl rfl ?_
         refine pw_ 16 38 (tl_ 27 131071) rfl rfl ?_
         refine pw_ 17 39 (tl_ 27 262143) rfl rfl ?_
         refine pw_ 19 41 (tl_ 27 786431) rfl rfl ?_
         refine pw_ 20 42 (tl_ 27 1835007) rfl rfl ?_
         refine pw_ 21 43 (tl_ 27 3932159) rfl rfl ?_
         refine tk4_ 18 40 (tl_ 27 4194303) rfl rfl hHeld ?_
         refine tk4_ 22 44 (tl_ 27 8388607) rfl rfl hHeld ?_
         refine pw_ 23 45 (tl_ 27 16777215) rfl rfl ?_
         refine one_ (i := 24) (N := some 46) (tl_ 27 33554431) rfl rfl (one_of HT_.out (g0_)) (by decide) (fun K hK => ?_)
         refine goes_ Try.func64 (g0_) rfl #[.agg #[.int .i64 ((rd_T36 l1 x6_1).f0), .int .i64 ((rd_T36 l1 x6_1).f1)], .agg #[.int .i64 (rd t351 x6_1), .int .i64 1]] (by rfl) rfl rfl (g2_) ?_
         with_reducible refine (spec_BeforeOf.calls kj6 ((rd_T36 l1 x6_1).f0) ((rd_T36 l1 x6_1).f1) (rd t351 x6_1) 1 t360 _ A19.out).mono ?_
         rintro e w24 ⟨rfl, hb⟩
         have HS6_ := (hb.cell (World.block_lt_of_cell? _ _ (hHeld.2.2.2.2.2.2))).trans (hHeld.2.2.2.2.2.2)
         refine ⟨_, rfl, ?_⟩
         replace HO_5 := Aside0.mk (Kd.R_below (uf1_ HO_5) hb)
         replace BK350 := bb_ BK350 hb
         replace HB := Aside0.mk (below_step (qz51_) hb)
         (try clear hb)
         (try clear hk hi)
         refine hK.out _ _ ⟨((cl_ HB hw355_0).trans rfl), ((cl_ HB hw355_1).trans rfl), ((cl_ HB hw357_0).trans rfl), ((cl_ HB hw357_1).trans rfl), ((cl_ HB hw358_0).trans rfl), ((cl_ HB hw358_1).trans rfl), HS6_⟩ (fun hHeld => ?_)
         clear hK K
         refine nm_ ?_
         refine pw_ 25 47 (tl_ 27 67108863) rfl rfl ?_
         refine pw_ 26 48 (tl_ 27 134217727) rfl rfl ?_
         refine done_ (done_of HT_.out (g0_)) ?_
         try go_wp2
         go_ret
         exact ⟨g4_, qz51_⟩
        ·rw [if_neg c20] at H
         have c20b0 := decide_eq_false c20
         clear c20
         have H' := Aside0.mk H
         clear H
         try go_wp2
         replace HO_5 := Aside0.mk (Kd.R_drew HO_5.out)
         replace BK350 := Aside0.mk (blk_drew BK350.out)
         replace HB := Aside0.mk (below_drew1 HB.out)
         have p355 : 0 ≤ (x6_1 : Int) := of_decide_eq_true (g1_)
         have q355 : x6_1 < (l1.length : Int) := of_decide_eq_true (g1_)
         obtain ⟨ad355, e355, hx355_0, hx355_1⟩ := at_T36 HR1.out x6_1 p355 q355
         have hw355_1 := hx355_1
         have hw355_0 := hx355_0
         cases e355
         replace hx355_0 := cl_ HB hx355_0
         replace hx355_1 := cl_ HB hx355_1
         replace p355 := eq_true p355
         replace q355 := eq_true q355
         have p357 : 0 ≤ (x6_1 : Int) := of_decide_eq_true (g1_)
         have q357 : x6_1 < (l1.length : Int) := of_decide_eq_true (g1_)
         obtain ⟨ad357, e357, hx357_0, hx357_1⟩ := at_T36 HR1.out x6_1 p357 q357
         have hw357_1 := hx357_1
         have hw357_0 := hx357_0
         obtain rfl : ad355 = ad357 := (by injection e357)
         replace hx357_0 := cl_ HB hx357_0
         replace hx357_1 := cl_ HB hx357_1
         replace p357 := eq_true p357
         replace q357 := eq_true q357
         have p358 : 0 ≤ (x6_1 : Int) := of_decide_eq_true (g1_)
         have q358 : x6_1 < (l1.length : Int) := of_decide_eq_true (g1_)
         obtain ⟨ad358, e358, hx358_0, hx358_1⟩ := at_T36 HR1.out x6_1 p358 q358
         have hw358_1 := hx358_1
         have hw358_0 := hx358_0
         obtain rfl : ad355 = ad358 := (by injection e358)
         replace hx358_0 := cl_ HB hx358_0
         replace hx358_1 := cl_ HB hx358_1
         replace p358 := eq_true p358
         replace q358 := eq_true q358
         have p359 : 0 ≤ (x6_1 : Int) := of_decide_eq_true (g1_)
         have q359 : x6_1 < (t351.length : Int) := of_decide_eq_true (g1_)
         try (obtain ⟨Aoz, coz, eoz⟩ := Kd.R_slice HO_5.out; subst eoz)
         obtain ⟨ad359, e359, hx359_0⟩ := Kd.at_int (Kd.R_reads' HO_5.out).2.2 x6_1 p359 q359
         cases e359
         replace p359 := eq_true p359
         replace q359 := eq_true q359
         refine start_ (n := 27) (S := fun w' => w'.cell? (ad355.add ((x6_1).toNat * 2)) = some (.int .i64 ((rd_T36 l1 x6_1).f0)) ∧ w'.cell? ⟨(ad355.add ((x6_1).toNat * 2)).block, (ad355.add ((x6_1).toNat * 2)).off + 1, none⟩ = some (.int .i64 ((rd_T36 l1 x6_1).f1)) ∧ w'.cell? (ad355.add ((x6_1).toNat * 2)) = some (.int .i64 ((rd_T36 l1 x6_1).f0)) ∧ w'.cell? ⟨(ad355.add ((x6_1).toNat * 2)).block, (ad355.add ((x6_1).toNat * 2)).off + 1, none⟩ = some (.int .i64 ((rd_T36 l1 x6_1).f1)) ∧ w'.cell? (ad355.add ((x6_1).toNat * 2)) = some (.int .i64 ((rd_T36 l1 x6_1).f0)) ∧ w'.cell? ⟨(ad355.add ((x6_1).toNat * 2)).block, (ad355.add ((x6_1).toNat * 2)).off + 1, none⟩ = some (.int .i64 ((rd_T36 l1 x6_1).f1)) ∧ w'.cell? (ad359.add (x6_1).toNat) = some (.int .i64 (rd t351 x6_1))) (ds := []) (tl_ 27 0) (g0_) rfl (g0_) ⟨((cl_ HB hw355_0).trans rfl), ((cl_ HB hw355_1).trans rfl), ((cl_ HB hw357_0).trans rfl), ((cl_ HB hw357_1).trans rfl), ((cl_ HB hw358_0).trans rfl), ((cl_ HB hw358_1).trans rfl), hx359_0⟩ (fun hHeld => ?_); refine with_tabW spec_PaysOk.tab5 spec_PaysOk.bits5 (fun HT_ HW_ => ?_)
         generalize wc.drew = w25 at HO_5 BK350 HB hx355_0 hx355_1 hx357_0 hx357_1 hx358_0 hx358_1 hx359_0 hHeld ⊢
         refine pw_ 0 22 (tl_ 27 1) rfl rfl ?_
         refine pw_ 1 23 (tl_ 27 3) rfl rfl ?_
         refine pw_ 2 24 (tl_ 27 7) rfl rfl ?_
         refine tk4_ 3 25 (tl_ 27 15) rfl rfl hHeld ?_
         refine one_ (i := 4) (N := some 26) (tl_ 27 31) rfl rfl (one_of HT_.out (g0_)) (by decide) (fun K hK => ?_)
         refine goes_ Try.func63 (g0_) rfl #[.agg #[.int .i64 ((rd_T36 l1 x6_1).f0), .int .i64 ((rd_T36 l1 x6_1).f1)]] (by rfl) rfl rfl (g2_) ?_
         with_reducible refine (spec_FracOk.calls kj6 ((rd_T36 l1 x6_1).f0) ((rd_T36 l1 x6_1).f1) true _ A13.out).mono ?_
         rintro e w26 ⟨rfl, hb⟩
         have HS6_ := (hb.cell (World.block_lt_of_cell? _ _ (hHeld.2.2.2.2.2.2))).trans (hHeld.2.2.2.2.2.2)
         refine ⟨_, rfl, ?_⟩
         replace HO_5 := Aside0.mk (Kd.R_below (uf1_ HO_5) hb)
         replace BK350 := bb_ BK350 hb
         replace HB := Aside0.mk (below_step (qz51_) hb)
         (try clear hb)
         (try clear hk hi)
         obtain ⟨Ao27, co27, eo27⟩ := Kd.R_slice HO_5.out
         (first | subst eo27 | (injection eo27 with f1_ f2_ f3_; have f4_ := f1_.symm; have f5_ := f3_.symm; clear f1_ f2_ f3_; subst f4_; subst f5_))
         refine hK.out _ _ ⟨((cl_ HB hw355_0).trans rfl), ((cl_ HB hw355_1).trans rfl), ((cl_ HB hw357_0).trans rfl), ((cl_ HB hw357_1).trans rfl), ((cl_ HB hw358_0).trans rfl), ((cl_ HB hw358_1).trans rfl), HS6_⟩ (fun hHeld => ?_)
         clear hK K
         refine nm_ ?_
         refine pw_ 5 27 (tl_ 27 63) rfl rfl ?_
         refine pw_ 6 28 (tl_ 27 127) rfl rfl ?_
         refine pw_ 7 29 (tl_ 27 255) rfl rfl ?_
         refine pw_ 8 30 (tl_ 27 511) rfl rfl ?_
         refine pw_ 9 31 (tl_ 27 1023) rfl rfl ?_
         refine pw_ 10 32 (tl_ 27 2047) rfl rfl ?_
         refine tk4_ 11 33 (tl_ 27 4095) rfl rfl hHeld ?_
         refine pw_ 12 34 (tl_ 27 8191) rfl rfl ?_
         refine pw_ 13 35 (tl_ 27 16383) rfl rfl ?_
         refine pw_ 14 36 (tl_ 27 32767) rfl rfl ?_
         refine pw_ 15 37 (tl_ 27 65535) rfl rfl ?_
         refine pw_ 16 38 (tl_ 27 131071) rfl rfl ?_
         refine pw_ 17 39 (tl_ 27 262143) rfl rfl ?_
         refine pw_ 19 41 (tl_ 27 786431) rfl rfl ?_
         refine pw_ 20 42 (tl_ 27 1835007) rfl rfl ?_
         refine pw_ 21 43 (tl_ 27 3932159) rfl rfl ?_
         refine tk4_ 18 40 (tl_ 27 4194303) rfl rfl hHeld ?_
         refine tk4_ 22 44 (tl_ 27 8388607) rfl rfl hHeld ?_
         refine pw_ 23 45 (tl_ 27 16777215) rfl rfl ?_
         refine one_ (i := 24) (N := some 46) (tl_ 27 33554431) rfl rfl (one_of HT_.out (g0_)) (by decide) (fun K hK => ?_)
         refine goes_ Try.func64 (g0_) rfl #[.agg #[.int .i64 ((rd_T36 l1 x6_1).f0), .int .i64 ((rd_T36 l1 x6_1).f1)], .agg #[.int .i64 (rd t351 x6_1), .int .i64 1]] (by rfl) rfl rfl (g2_) ?_
         with_reducible refine (spec_BeforeOf.calls kj6 ((rd_T36 l1 x6_1).f0) ((rd_T36 l1 x6_1).f1) (rd t351 x6_1) 1 t360 _ A19.out).mono ?_
         rintro e w28 ⟨rfl, hb⟩
         have HS6_ := (hb.cell (World.block_lt_of_cell? _ _ (hHeld.2.2.2.2.2.2))).trans (hHeld.2.2.2.2.2.2)
         refine ⟨_, rfl, ?_⟩
         replace HO_5 := Aside0.mk (Kd.R_below (uf1_ HO_5) hb)
         replace BK350 := bb_ BK350 hb
         replace HB := Aside0.mk (below_step (qz51_) hb)
         (try clear hb)
         (try clear hk hi)
         refine hK.out _ _ ⟨((cl_ HB hw355_0).trans rfl), ((cl_ HB hw355_1).trans rfl), ((cl_ HB hw357_0).trans rfl), ((cl_ HB hw357_1).trans rfl), ((cl_ HB hw358_0).trans rfl), ((cl_ HB hw358_1).trans rfl), HS6_⟩ (fun hHeld => ?_)
         clear hK K
         refine nm_ ?_
         refine pw_ 25 47 (tl_ 27 67108863) rfl rfl ?_
         refine pw_ 26 48 (tl_ 27 134217727) rfl rfl ?_
         refine done_ (done_of HT_.out (g0_)) ?_
         try go_wp2
         go_roundg kj6
         case measure => have := HK1.out; have := HJ6.out; omega
         case rel => exact ⟨(wrap64 (x6_1 + 1)), (g3_), H', ⟨by have := HK1.out; have := HJ6.out; omega⟩, ⟨uf1_ HO_5⟩, ⟨uf0_ BK350⟩, ⟨qz51_⟩⟩
      ·replace c14 := Bool.eq_false_iff.mpr c14
       subst c14
       replace H := ifn_ H
       obtain rfl := Option.some.inj H
       try go_wp2
       replace HO_5 := Aside0.mk (Kd.R_drew HO_5.out)
       replace BK350 := Aside0.mk (blk_drew BK350.out)
       replace HB := Aside0.mk (below_drew1 HB.out)
       have p355 : 0 ≤ (x6_1 : Int) := of_decide_eq_true (g1_)
       have q355 : x6_1 < (l1.length : Int) := of_decide_eq_true (g1_)
       obtain ⟨ad355, e355, hx355_0, hx355_1⟩ := at_T36 HR1.out x6_1 p355 q355
       have hw355_1 := hx355_1
       have hw355_0 := hx355_0
       cases e355
       replace hx355_0 := cl_ HB hx355_0
       replace hx355_1 := cl_ HB hx355_1
       replace p355 := eq_true p355
       replace q355 := eq_true q355
       refine start_ (n := 27) (S := fun w' => w'.cell? (ad355.add ((x6_1).toNat * 2)) = some (.int .i64 ((rd_T36 l1 x6_1).f0)) ∧ w'.cell? ⟨(ad355.add ((x6_1).toNat * 2)).block, (ad355.add ((x6_1).toNat * 2)).off + 1, none⟩ = some (.int .i64 ((rd_T36 l1 x6_1).f1))) (ds := []) (tl_ 27 0) (g0_) rfl (g0_) ⟨((cl_ HB hw355_0).trans rfl), ((cl_ HB hw355_1).trans rfl)⟩ (fun hHeld => ?_); refine with_tabW spec_PaysOk.tab5 spec_PaysOk.bits5 (fun HT_ HW_ => ?_)
       generalize wc.drew = w29 at HO_5 BK350 HB hx355_0 hx355_1 hHeld ⊢
       refine pw_ 0 22 (tl_ 27 1) rfl rfl ?_
       refine pw_ 1 23 (tl_ 27 3) rfl rfl ?_
       refine pw_ 2 24 (tl_ 27 7) rfl rfl ?_
       refine tk0_ 3 25 (tl_ 27 15) rfl rfl hHeld ?_
       refine one_ (i := 4) (N := some 26) (tl_ 27 31) rfl rfl (one_of HT_.out (g0_)) (by decide) (fun K hK => ?_)
       refine goes_ Try.func63 (g0_) rfl #[.agg #[.int .i64 ((rd_T36 l1 x6_1).f0), .int .i64 ((rd_T36 l1 x6_1).f1)]] (by rfl) rfl rfl (g2_) ?_
       with_reducible refine (spec_FracOk.calls kj6 ((rd_T36 l1 x6_1).f0) ((rd_T36 l1 x6_1).f1) false _ A13.out).mono ?_
       rintro e w30 ⟨rfl, hb⟩
       refine ⟨_, rfl, ?_⟩
       replace HO_5 := Aside0.mk (Kd.R_below (uf1_ HO_5) hb)
       replace BK350 := bb_ BK350 hb
       replace HB := Aside0.mk (below_step (qz51_) hb)
       (try clear hb)
       (try clear hk hi)
       refine hK.out _ _ ⟨((cl_ HB hw355_0).trans rfl), ((cl_ HB hw355_1).trans rfl)⟩ (fun hHeld => ?_)
       clear hK K
       refine nm_ ?_
       refine pw_ 5 27 (tl_ 27 63) rfl rfl ?_
       refine pw_ 6 28 (tl_ 27 127) rfl rfl ?_
       refine pu_ 7 29 (tl_ 27 255) rfl rfl ?_
       refine pu_ 8 30 (tl_ 27 511) rfl rfl ?_
       refine pu_ 9 31 (tl_ 27 1023) rfl rfl ?_
       refine pu_ 10 32 (tl_ 27 2047) rfl rfl ?_
       refine pu_ 11 33 (tl_ 27 4095) rfl rfl ?_
       refine pu_ 12 34 (tl_ 27 8191) rfl rfl ?_
       refine pw_ 13 35 (tl_ 27 16383) rfl rfl ?_
       refine pw_ 14 36 (tl_ 27 32767) rfl rfl ?_
       refine pu_ 15 37 (tl_ 27 65535) rfl rfl ?_
       refine pu_ 16 38 (tl_ 27 131071) rfl rfl ?_
       refine pu_ 17 39 (tl_ 27 262143) rfl rfl ?_
       refine pu_ 18 40 (tl_ 27 524287) rfl rfl ?_
       refine pu_ 19 41 (tl_ 27 1048575) rfl rfl ?_
       refine pu_ 20 42 (tl_ 27 2097151) rfl rfl ?_
       refine pu_ 21 43 (tl_ 27 4194303) rfl rfl ?_
       refine pu_ 22 44 (tl_ 27 8388607) rfl rfl ?_
       refine pu_ 23 45 (tl_ 27 16777215) rfl rfl ?_
       refine pu_ 24 46 (tl_ 27 33554431) rfl rfl ?_
       refine pu_ 25 47 (tl_ 27 67108863) rfl rfl ?_
       refine pw_ 26 48 (tl_ 27 134217727) rfl rfl ?_
       refine done_ (done_of HT_.out (g0_)) ?_
       try go_wp2
       go_ret
       exact ⟨g4_, qz51_⟩
     ·replace c10 := Bool.eq_false_iff.mpr c10
      subst c10
      replace H := ifn_ H
      obtain ⟨t354, A31, H⟩ := bind_ H
      by_cases c32 : t354 = true
      ·subst c32
       replace H := ifp_ H
       obtain rfl := Option.some.inj H
       obtain ⟨hcz33_0, hcz33_1, hfz33_0, hfz33_1⟩ := blk2_ BK350
       go_wp2_with (first | ((with_reducible refine gate_callee (f := 56) rfl ?_); refine goesL_ (some 50) rfl rfl Try.func56 k_ rfl #[.agg #[.slice A0_0 l0_0.length c0_0, .slice A0_1 l0_1.length c0_1]] rfl (g2_) ?_; (with_reducible refine (spec_BookOk.calls kj6 _ _ l0_0 _ _ l0_1 true _ ?side1 ?side2 ?side3 ?side4 A31.out).mono ?_); (case side1 => exact uf4_ HR0_0); (case side2 => exact HC0_0.out); (case side3 => exact uf4_ HR0_1); (case side4 => exact HC0_1.out); rintro e w34 ⟨rfl, hb⟩; refine ⟨_, rfl, ?_⟩; replace HO_5 := Aside0.mk (Kd.R_below (uf1_ HO_5) hb); replace BK350 := bb_ BK350 hb; replace HB := Aside0.mk (below_step (qz51_) hb); (try clear hb); (try clear hk hi); obtain ⟨Ao35, co35, eo35⟩ := Kd.R_slice HO_5.out; subst eo35))
       go_ret
       exact ⟨g4_, qz51_⟩
      ·replace c32 := Bool.eq_false_iff.mpr c32
       subst c32
       replace H := ifn_ H
       obtain rfl := Option.some.inj H
       obtain ⟨hcz36_0, hcz36_1, hfz36_0, hfz36_1⟩ := blk2_ BK350
       go_wp2_with (first | ((with_reducible refine gate_callee (f := 56) rfl ?_); refine goesL_ (some 50) rfl rfl Try.func56 k_ rfl #[.agg #[.slice A0_0 l0_0.length c0_0, .slice A0_1 l0_1.length c0_1]] rfl (g2_) ?_; (with_reducible refine (spec_BookOk.calls kj6 _ _ l0_0 _ _ l0_1 false _ ?side1 ?side2 ?side3 ?side4 A31.out).mono ?_); (case side1 => exact uf4_ HR0_0); (case side2 => exact HC0_0.out); (case side3 => exact uf4_ HR0_1); (case side4 => exact HC0_1.out); rintro e w37 ⟨rfl, hb⟩; refine ⟨_, rfl, ?_⟩; replace HO_5 := Aside0.mk (Kd.R_below (uf1_ HO_5) hb); replace BK350 := bb_ BK350 hb; replace HB := Aside0.mk (below_step (qz51_) hb); (try clear hb); (try clear hk hi)))
       go_ret
       exact ⟨g4_, qz51_⟩
def spec_FracOf.f (k : Nat) (a0 : Int) (a1 : Int) : Option (Int × Int × Bool) := (spec_l1In.f a0 (-1000000000) 1000000000).bind fun t578 => (if t578 = true then ((spec_l1In.f a1 (-1000000000) 1000000000).bind fun t579 => (if t579 = true then (if a1 = 0 then (some (0, 0, false)) else ((spec_l1Low.f k a0 a1).bind fun bt580 => (some (bt580.1, bt580.2.1, bt580.2.2)))) else (some (0, 0, false)))) else (some (0, 0, false)))
theorem spec_FracOf.mq {p : Prop} (h : p := by
 repeat' first
 | (with_reducible exact spec_l1Low.mono _ _ _)
 | (with_reducible exact LeO.refl _)
 | (with_reducible exact LeO.none _)
 | (with_reducible refine LeO.ite ?_ ?_)
 | (with_reducible refine LeO.bind ?_ (fun _ => ?_))
 | exact spec_l1Low.mono _ _ _
 | exact LeO.none _
 | refine LeO.ite ?_ ?_
 | refine LeO.bind ?_ (fun _ => ?_)) : p := h
theorem spec_FracOf.mono : ∀ a0 a1 k, LeO (spec_FracOf.f k a0 a1) (spec_FracOf.f (k + 1) a0 a1) := by
 intro a0 a1 k
 unfold spec_FracOf.f
 exact spec_FracOf.mq
theorem qz8_ {p : Prop} (h : p := by repeat (first | (with_reducible first | exact HB.out | apply below_alloc | apply pw_below_drewN | apply below_drew1 | refine below_set ?_ GE577.out) | exact HB.out)) : p := h
set_option maxHeartbeats 8000000 in
set_option maxRecDepth 100000 in
theorem spec_FracOf.calls (k : Nat) (a0 : Int) (a1 : Int) (r1 : Int) (r2 : Int) (r3 : Bool) (w : World) (h : spec_FracOf.f k a0 a1 = some (r1, r2, r3)) :
  Calls Try.prog 74 #[.int .i64 a0, .int .i64 a1] w fun e w' => e = .returned (.tuple #[.agg #[.int .i64 r1, .int .i64 r2], .bool r3]) ∧ Below w.heap.size w w' := by
 have hu36 := Try.underlying36
 have HB := Aside0.mk (Below.refl w.heap.size w)
 have H : ((spec_l1In.f a0 (-1000000000) 1000000000).bind fun t578 => (if t578 = true then ((spec_l1In.f a1 (-1000000000) 1000000000).bind fun t579 => (if t579 = true then (if a1 = 0 then (some (0, 0, false)) else ((spec_l1Low.f k a0 a1).bind fun bt580 => (some (bt580.1, bt580.2.1, bt580.2.2)))) else (some (0, 0, false)))) else (some (0, 0, false)))) = some (r1, r2, r3) := h
 clear h
 obtain ⟨t578, A3, H⟩ := bind_ H
 by_cases c4 : t578 = true
 ·subst c4
  replace H := ifp_ H
  obtain ⟨t579, A5, H⟩ := bind_ H
  by_cases c6 : t579 = true
  ·subst c6
   replace H := ifp_ H
   by_cases c7 : a1 = 0
   ·rw [if_pos c7] at H
    have c7b0 : (a1 == 0) = true := beq_iff_eq.mpr c7
    have c7b1 : (a1 != 0) = false := bne_eq_false_iff_eq.mpr c7
    clear c7
    simp only [Option.some.injEq, Prod.mk.injEq] at H
    obtain ⟨rfl, rfl, rfl⟩ := H
    go_enter Try.func74, Try.ntmps74
    go_wp2_with (first | ((with_reducible refine gate_dst (N := 4) rfl ?_); refine bx_ (N := 4) #[.int .i64 0, .int .i64 0] 36 ?_; intro gb577 hg w8 hbox hb; have BK577 := Aside0.mk (hbox); have GW577 := Aside0.mk ((g44_ : w.heap.size ≤ gb577)); have GE577 := Aside0.mk ((g44_ : w.heap.size ≤ gb577)); replace HB := Aside0.mk (below_step (qz8_) hb); clear hb hbox hg) | ((with_reducible refine gate_callee (f := 90) rfl ?_); refine goesL_ (some 7) rfl rfl Try.func90 k_ rfl #[.int .i64 a0, .int .i64 (-1000000000), .int .i64 1000000000] rfl (g2_) ?_; (with_reducible refine (spec_l1In.calls a0 (-1000000000) 1000000000 true _ A3.out).mono ?_); rintro e w' ⟨rfl, ⟨nd, rfl⟩⟩; refine ⟨_, rfl, ?_⟩; (try (rw [drewN_self w8]; generalize hq_ : World.drewN w8 _ = w8; replace BK577 : Aside0 (w8.heap[gb577]? = some (.cells #[.int .i64 0, .int .i64 0] 36 (0, 0))) := ⟨g48_⟩; replace HB : Aside0 (Below w.heap.size w w8) := ⟨g49_⟩; clear hq_))) | (go_at_call 90; (with_reducible refine (spec_l1In.calls a1 (-1000000000) 1000000000 true _ A5.out).mono ?_); rintro e w' ⟨rfl, ⟨nd, rfl⟩⟩; (try (rw [drewN_self w8]; generalize hq_ : World.drewN w8 _ = w8; replace BK577 : Aside0 (w8.heap[gb577]? = some (.cells #[.int .i64 0, .int .i64 0] 36 (0, 0))) := ⟨g48_⟩; replace HB : Aside0 (Below w.heap.size w w8) := ⟨g49_⟩; clear hq_)); obtain ⟨hcz9_0, hcz9_1, hfz9_0, hfz9_1⟩ := blk2_ BK577))
    refine bodyPost_ret (results_ct rfl _ _ gb577 36 #[.int .i64 0, .int .i64 0] (0, 0) _ rfl (g154_) Try.underlying36 rfl (g0_)) rfl ?_
    exact ⟨g4_, qz8_⟩
   ·rw [if_neg c7] at H
    have c7b0 : (a1 == 0) = false := beq_eq_false_iff_ne.mpr c7
    have c7b1 : (a1 != 0) = true := bne_iff_ne.mpr c7
    replace H := Option.bind_eq_some_iff.mp H
    obtain ⟨⟨t580, t581, t582⟩, A100, H⟩ := H
    replace H : (some (t580, t581, t582)) = some (r1, r2, r3) := H
    have A10 := Aside0.mk A100
    clear A100
    simp only [Option.some.injEq, Prod.mk.injEq] at H
    obtain ⟨rfl, rfl, rfl⟩ := H
    go_enter Try.func74, Try.ntmps74
    go_wp2_with (first | ((with_reducible refine gate_dst (N := 4) rfl ?_); refine bx_ (N := 4) #[.int .i64 0, .int .i64 0] 36 ?_; intro gb577 hg w11 hbox hb; have BK577 := Aside0.mk (hbox); have GW577 := Aside0.mk ((g44_ : w.heap.size ≤ gb577)); have GE577 := Aside0.mk ((g44_ : w.heap.size ≤ gb577)); replace HB := Aside0.mk (below_step (qz8_) hb); clear hb hbox hg) | ((with_reducible refine gate_callee (f := 90) rfl ?_); refine goesL_ (some 7) rfl rfl Try.func90 k_ rfl #[.int .i64 a0, .int .i64 (-1000000000), .int .i64 1000000000] rfl (g2_) ?_; (with_reducible refine (spec_l1In.calls a0 (-1000000000) 1000000000 true _ A3.out).mono ?_); rintro e w' ⟨rfl, ⟨nd, rfl⟩⟩; refine ⟨_, rfl, ?_⟩; (try (rw [drewN_self w11]; generalize hq_ : World.drewN w11 _ = w11; replace BK577 : Aside0 (w11.heap[gb577]? = some (.cells #[.int .i64 0, .int .i64 0] 36 (0, 0))) := ⟨g48_⟩; replace HB : Aside0 (Below w.heap.size w w11) := ⟨g49_⟩; clear hq_))) | (go_at_call 90; (with_reducible refine (spec_l1In.calls a1 (-1000000000) 1000000000 true _ A5.out).mono ?_); rintro e w' ⟨rfl, ⟨nd, rfl⟩⟩; (try (rw [drewN_self w11]; generalize hq_ : World.drewN w11 _ = w11; replace BK577 : Aside0 (w11.heap[gb577]? = some (.cells #[.int .i64 0, .int .i64 0] 36 (0, 0))) := ⟨g48_⟩; replace HB : Aside0 (Below w.heap.size w w11) := ⟨g49_⟩; clear hq_))) | ((with_reducible refine gate_callee (f := 95) rfl ?_); refine goesL_ (some 21) rfl rfl Try.func95 k_ rfl #[.int .i64 a0, .int .i64 a1] rfl (g2_) ?_; (with_reducible refine (spec_l1Low.calls k a0 a1 t580 t581 t582 _ A10.out).mono ?_); rintro e w12 ⟨rfl, hb⟩; refine ⟨_, rfl, ?_⟩; replace BK577 := bb_ BK577 hb; replace HB := Aside0.mk (below_step (qz8_) hb); (try clear hb); (try clear hk hi); obtain ⟨hcz13_0, hcz13_1, hfz13_0, hfz13_1⟩ := blk2_ BK577))
    refine bodyPost_ret (results_ct rfl _ _ gb577 36 #[.int .i64 t580, .int .i64 t581] (0, 0) _ rfl (by (with_reducible repeat (first | refine blk_drewN ?_ _ | refine blk_drew ?_ | refine blk_alloc ?_ _)); refine blk_put (cs := #[.int .i64 t580, .int .i64 0]) ?_ 1 _ rfl; (with_reducible repeat (first | refine blk_drewN ?_ _ | refine blk_drew ?_ | refine blk_alloc ?_ _)); refine blk_put (cs := #[.int .i64 0, .int .i64 0]) ?_ 0 _ rfl; (with_reducible repeat (first | refine blk_drewN ?_ _ | refine blk_drew ?_ | refine blk_alloc ?_ _)); exact BK577.out) Try.underlying36 rfl (g0_)) rfl ?_
    exact ⟨g4_, qz8_⟩
  ·replace c6 := Bool.eq_false_iff.mpr c6
   subst c6
   replace H := ifn_ H
   simp only [Option.some.injEq, Prod.mk.injEq] at H
   obtain ⟨rfl, rfl, rfl⟩ := H
   go_enter Try.func74, Try.ntmps74
   go_wp2_with (first | ((with_reducible refine gate_dst (N := 4) rfl ?_); refine bx_ (N := 4) #[.int .i64 0, .int .i64 0] 36 ?_; intro gb577 hg w14 hbox hb; have BK577 := Aside0.mk (hbox); have GW577 := Aside0.mk ((g44_ : w.heap.size ≤ gb577)); have GE577 := Aside0.mk ((g44_ : w.heap.size ≤ gb577)); replace HB := Aside0.mk (below_step (qz8_) hb); clear hb hbox hg) | ((with_reducible refine gate_callee (f := 90) rfl ?_); refine goesL_ (some 7) rfl rfl Try.func90 k_ rfl #[.int .i64 a0, .int .i64 (-1000000000), .int .i64 1000000000] rfl (g2_) ?_; (with_reducible refine (spec_l1In.calls a0 (-1000000000) 1000000000 true _ A3.out).mono ?_); rintro e w' ⟨rfl, ⟨nd, rfl⟩⟩; refine ⟨_, rfl, ?_⟩; (try (rw [drewN_self w14]; generalize hq_ : World.drewN w14 _ = w14; replace BK577 : Aside0 (w14.heap[gb577]? = some (.cells #[.int .i64 0, .int .i64 0] 36 (0, 0))) := ⟨g48_⟩; replace HB : Aside0 (Below w.heap.size w w14) := ⟨g49_⟩; clear hq_))) | (go_at_call 90; (with_reducible refine (spec_l1In.calls a1 (-1000000000) 1000000000 false _ A5.out).mono ?_); rintro e w' ⟨rfl, ⟨nd, rfl⟩⟩; (try (rw [drewN_self w14]; generalize hq_ : World.drewN w14 _ = w14; replace BK577 : Aside0 (w14.heap[gb577]? = some (.cells #[.int .i64 0, .int .i64 0] 36 (0, 0))) := ⟨g48_⟩; replace HB : Aside0 (Below w.heap.size w w14) := ⟨g49_⟩; clear hq_)); obtain ⟨hcz15_0, hcz15_1, hfz15_0, hfz15_1⟩ := blk2_ BK577))
   refine bodyPost_ret (results_ct rfl _ _ gb577 36 #[.int .i64 0, .int .i64 0] (0, 0) _ rfl (g154_) Try.underlying36 rfl (g0_)) rfl ?_
   exact ⟨g4_, qz8_⟩
 ·replace c4 := Bool.eq_false_iff.mpr c4
  subst c4
  replace H := ifn_ H
  simp only [Option.some.injEq, Prod.mk.injEq] at H
  obtain ⟨rfl, rfl, rfl⟩ := H
  go_enter Try.func74, Try.ntmps74
  go_wp2_with (first | ((with_reducible refine gate_dst (N := 4) rfl ?_); refine bx_ (N := 4) #[.int .i64 0, .int .i64 0] 36 ?_; intro gb577 hg w16 hbox hb; have BK577 := Aside0.mk (hbox); have GW577 := Aside0.mk ((g44_ : w.heap.size ≤ gb577)); have GE577 := Aside0.mk ((g44_ : w.heap.size ≤ gb577)); replace HB := Aside0.mk (below_step (qz8_) hb); clear hb hbox hg) | ((with_reducible refine gate_callee (f := 90) rfl ?_); refine goesL_ (some 7) rfl rfl Try.func90 k_ rfl #[.int .i64 a0, .int .i64 (-1000000000), .int .i64 1000000000] rfl (g2_) ?_; (with_reducible refine (spec_l1In.calls a0 (-1000000000) 1000000000 false _ A3.out).mono ?_); rintro e w' ⟨rfl, ⟨nd, rfl⟩⟩; refine ⟨_, rfl, ?_⟩; (try (rw [drewN_self w16]; generalize hq_ : World.drewN w16 _ = w16; replace BK577 : Aside0 (w16.heap[gb577]? = some (.cells #[.int .i64 0, .int .i64 0] 36 (0, 0))) := ⟨g48_⟩; replace HB : Aside0 (Below w.heap.size w w16) := ⟨g49_⟩; clear hq_)); obtain ⟨hcz17_0, hcz17_1, hfz17_0, hfz17_1⟩ := blk2_ BK577))
  refine bodyPost_ret (results_ct rfl _ _ gb577 36 #[.int .i64 0, .int .i64 0] (0, 0) _ rfl (g154_) Try.underlying36 rfl (g0_)) rfl ?_
  exact ⟨g4_, qz8_⟩
def spec_TimesOf.f (k : Nat) (a0_0 : Int) (a0_1 : Int) (a1_0 : Int) (a1_1 : Int) : Option (Int × Int × Bool) := (spec_FracOk.f k a0_0 a0_1).bind fun t586 => (if t586 = true then ((spec_FracOk.f k a1_0 a1_1).bind fun t587 => (if t587 = true then ((spec_l1Low.f k (wrap64 (a0_0 * a1_0)) (wrap64 (a0_1 * a1_1))).bind fun bt588 => (some (bt588.1, bt588.2.1, bt588.2.2))) else (some (0, 0, false)))) else (some (0, 0, false)))
theorem spec_TimesOf.mq {p : Prop} (h : p := by
 repeat' first
 | (with_reducible exact spec_FracOk.mono _ _ _)
 | (with_reducible exact spec_l1Low.mono _ _ _)
 | (with_reducible exact LeO.refl _)
 | (with_reducible exact LeO.none _)
 | (with_reducible refine LeO.ite ?_ ?_)
 | (with_reducible refine LeO.bind ?_ (fun _ => ?_))
 | exact spec_FracOk.mono _ _ _
 | exact spec_l1Low.mono _ _ _
 | exact LeO.none _
 | refine LeO.ite ?_ ?_
 | refine LeO.bind ?_ (fun _ => ?_)) : p := h
theorem spec_TimesOf.mono : ∀ a0 a1 a2 a3 k, LeO (spec_TimesOf.f k a0 a1 a2 a3) (spec_TimesOf.f (k + 1) a0 a1 a2 a3) := by
 intro a0 a1 a2 a3 k
 unfold spec_TimesOf.f
 exact spec_TimesOf.mq
theorem qz2_ {p : Prop} (h : p := by repeat (first | (with_reducible first | exact HB.out | apply below_alloc | apply pw_below_drewN | apply below_drew1 | refine below_set ?_ GE583.out | refine below_set ?_ GE584.out | refine below_set ?_ GE585.out) | exact HB.out)) : p := h
set_option maxHeartbeats 8000000 in
set_option maxRecDepth 100000 in
theorem spec_TimesOf.calls (k : Nat) (a0_0 : Int) (a0_1 : Int) (a1_0 : Int) (a1_1 : Int) (r1 : Int) (r2 : Int) (r3 : Bool) (w : World) (h : spec_TimesOf.f k a0_0 a0_1 a1_0 a1_1 = some (r1, r2, r3)) :
  Calls Try.prog 75 #[.agg #[.int .i64 a0_0, .int .i64 a0_1], .agg #[.int .i64 a1_0, .int .i64 a1_1]] w fun e w' => e = .returned (.tuple #[.agg #[.int .i64 r1, .int .i64 r2], .bool r3]) ∧ Below w.heap.size w w' := by
 have hu36 := Try.underlying36
 have HB := Aside0.mk (Below.refl w.heap.size w)
 have H : ((spec_FracOk.f k a0_0 a0_1).bind fun t586 => (if t586 = true then ((spec_FracOk.f k a1_0 a1_1).bind fun t587 => (if t587 = true then ((spec_l1Low.f k (wrap64 (a0_0 * a1_0)) (wrap64 (a0_1 * a1_1))).bind fun bt588 => (some (bt588.1, bt588.2.1, bt588.2.2))) else (some (0, 0, false)))) else (some (0, 0, false)))) = some (r1, r2, r3) := h
 clear h
 obtain ⟨t586, A3, H⟩ := bind_ H
 by_cases c4 : t586 = true
 ·subst c4
  replace H := ifp_ H
  obtain ⟨t587, A5, H⟩ := bind_ H
  by_cases c6 : t587 = true
  ·subst c6
   replace H := ifp_ H
   replace H := Option.bind_eq_some_iff.mp H
   obtain ⟨⟨t588, t589, t590⟩, A70, H⟩ := H
   replace H : (some (t588, t589, t590)) = some (r1, r2, r3) := H
   have A7 := Aside0.mk A70
   clear A70
   simp only [Option.some.injEq, Prod.mk.injEq] at H
   obtain ⟨rfl, rfl, rfl⟩ := H
   go_enter Try.func75, Try.ntmps75
   go_wp2_with (first | ((with_reducible refine gate_dst (N := 2) rfl ?_); refine bx_ (N := 2) #[.int .i64 a0_0, .int .i64 a0_1] 36 ?_; intro gb583 hg w8 hbox hb; have BK583 := Aside0.mk (hbox); have GW583 := Aside0.mk ((g14_ : w.heap.size ≤ gb583)); have GE583 := Aside0.mk ((g14_ : w.heap.size ≤ gb583)); replace HB := Aside0.mk (below_step (qz2_) hb); clear hb hbox hg) | ((with_reducible refine gate_dst (N := 3) rfl ?_); refine bx_ (N := 3) #[.int .i64 a1_0, .int .i64 a1_1] 36 ?_; intro gb584 hg w9 hbox hb; have BK584 := Aside0.mk (hbox); have GW584 := Aside0.mk ((g14_ : w.heap.size ≤ gb584)); have GE584 := Aside0.mk ((g14_ : w.heap.size ≤ gb584)); replace HB := Aside0.mk (below_step (qz2_) hb); have NB583_584 := Aside0.mk ((g68_ : gb583 ≠ gb584)); have NB584_583 := Aside0.mk ((g69_ : gb584 ≠ gb583)); replace BK583 := bb_ BK583 hb; clear hb hbox hg) | ((with_reducible refine gate_dst (N := 4) rfl ?_); refine bx_ (N := 4) #[.int .i64 0, .int .i64 0] 36 ?_; intro gb585 hg w10 hbox hb; have BK585 := Aside0.mk (hbox); have GW585 := Aside0.mk ((g14_ : w.heap.size ≤ gb585)); have GE585 := Aside0.mk ((g14_ : w.heap.size ≤ gb585)); replace HB := Aside0.mk (below_step (qz2_) hb); have NB583_585 := Aside0.mk ((g68_ : gb583 ≠ gb585)); have NB585_583 := Aside0.mk ((g69_ : gb585 ≠ gb583)); replace BK583 := bb_ BK583 hb; have NB584_585 := Aside0.mk ((g155_ : gb584 ≠ gb585)); have NB585_584 := Aside0.mk ((g156_ : gb585 ≠ gb584)); replace BK584 := bb_ BK584 hb; clear hb hbox hg; have hnb11 := NB583_584.out; have hnc11 := NB584_583.out; have hnb12 := NB583_585.out; have hnc12 := NB585_583.out; obtain ⟨hcz13_0, hcz13_1, hfz13_0, hfz13_1⟩ := blk2_ BK583) | ((with_reducible refine gate_callee (f := 63) rfl ?_); refine goesL_ (some 7) rfl rfl Try.func63 k_ rfl #[.agg #[.int .i64 a0_0, .int .i64 a0_1]] rfl (g2_) ?_; (with_reducible refine (spec_FracOk.calls k a0_0 a0_1 true _ A3.out).mono ?_); rintro e w14 ⟨rfl, hb⟩; refine ⟨_, rfl, ?_⟩; replace BK583 := bb_ BK583 hb; replace BK584 := bb_ BK584 hb; replace BK585 := bb_ BK585 hb; replace HB := Aside0.mk (below_step (qz2_) hb); (try clear hb); (try clear hk hi); have hnb15 := NB584_585.out; have hnc15 := NB585_584.out; obtain ⟨hcz16_0, hcz16_1, hfz16_0, hfz16_1⟩ := blk2_ BK584) | (go_at_call 63; (with_reducible refine (spec_FracOk.calls k a1_0 a1_1 true _ A5.out).mono ?_); rintro e w17 ⟨rfl, hb⟩; replace BK583 := bb_ BK583 hb; replace BK584 := bb_ BK584 hb; replace BK585 := bb_ BK585 hb; replace HB := Aside0.mk (below_step (qz2_) hb); (try clear hb); (try clear hk hi); obtain ⟨hcz18_0, hcz18_1, hfz18_0, hfz18_1⟩ := blk2_ BK583; obtain ⟨hcz19_0, hcz19_1, hfz19_0, hfz19_1⟩ := blk2_ BK584) | ((with_reducible refine gate_callee (f := 95) rfl ?_); refine goesL_ (some 25) rfl rfl Try.func95 k_ rfl #[.int .i64 (wrap64 (a0_0 * a1_0)), .int .i64 (wrap64 (a0_1 * a1_1))] rfl (g2_) ?_; (with_reducible refine (spec_l1Low.calls k (wrap64 (a0_0 * a1_0)) (wrap64 (a0_1 * a1_1)) t588 t589 t590 _ A7.out).mono ?_); rintro e w20 ⟨rfl, hb⟩; refine ⟨_, rfl, ?_⟩; replace BK583 := bb_ BK583 hb; replace BK584 := bb_ BK584 hb; replace BK585 := bb_ BK585 hb; replace HB := Aside0.mk (below_step (qz2_) hb); (try clear hb); (try clear hk hi); obtain ⟨hcz21_0, hcz21_1, hfz21_0, hfz21_1⟩ := blk2_ BK585))
   refine bodyPost_ret (results_ct rfl _ _ gb585 36 #[.int .i64 t588, .int .i64 t589] (0, 0) _ rfl (by (with_reducible repeat (first | refine blk_drewN ?_ _ | refine blk_drew ?_ | refine blk_alloc ?_ _)); refine blk_put (cs := #[.int .i64 t588, .int .i64 0]) ?_ 1 _ rfl; (with_reducible repeat (first | refine blk_drewN ?_ _ | refine blk_drew ?_ | refine blk_alloc ?_ _)); refine blk_put (cs := #[.int .i64 0, .int .i64 0]) ?_ 0 _ rfl; (with_reducible repeat (first | refine blk_drewN ?_ _ | refine blk_drew ?_ | refine blk_alloc ?_ _)); exact BK585.out) Try.underlying36 rfl (g0_)) rfl ?_
   exact ⟨g4_, qz2_⟩
  ·replace c6 := Bool.eq_false_iff.mpr c6
   subst c6
   replace H := ifn_ H
   simp only [Option.some.injEq, Prod.mk.injEq] at H
   obtain ⟨rfl, rfl, rfl⟩ := H
   go_enter Try.func75, Try.ntmps75
   go_wp2_with (first | ((with_reducible refine gate_dst (N := 2) rfl ?_); refine bx_ (N := 2) #[.int .i64 a0_0, .int .i64 a0_1] 36 ?_; intro gb583 hg w22 hbox hb; have BK583 := Aside0.mk (hbox); have GW583 := Aside0.mk ((g14_ : w.heap.size ≤ gb583)); have GE583 := Aside0.mk ((g14_ : w.heap.size ≤ gb583)); replace HB := Aside0.mk (below_step (qz2_) hb); clear hb hbox hg) | ((with_reducible refine gate_dst (N := 3) rfl ?_); refine bx_ (N := 3) #[.int .i64 a1_0, .int .i64 a1_1] 36 ?_; intro gb584 hg w23 hbox hb; have BK584 := Aside0.mk (hbox); have GW584 := Aside0.mk ((g14_ : w.heap.size ≤ gb584)); have GE584 := Aside0.mk ((g14_ : w.heap.size ≤ gb584)); replace HB := Aside0.mk (below_step (qz2_) hb); have NB583_584 := Aside0.mk ((g68_ : gb583 ≠ gb584)); have NB584_583 := Aside0.mk ((g69_ : gb584 ≠ gb583)); replace BK583 := bb_ BK583 hb; clear hb hbox hg) | ((with_reducible refine gate_dst (N := 4) rfl ?_); refine bx_ (N := 4) #[.int .i64 0, .int .i64 0] 36 ?_; intro gb585 hg w24 hbox hb; have BK585 := Aside0.mk (hbox); have GW585 := Aside0.mk ((g14_ : w.heap.size ≤ gb585)); have GE585 := Aside0.mk ((g14_ : w.heap.size ≤ gb585)); replace HB := Aside0.mk (below_step (qz2_) hb); have NB583_585 := Aside0.mk ((g68_ : gb583 ≠ gb585)); have NB585_583 := Aside0.mk ((g69_ : gb585 ≠ gb583)); replace BK583 := bb_ BK583 hb; have NB584_585 := Aside0.mk ((g155_ : gb584 ≠ gb585)); have NB585_584 := Aside0.mk ((g156_ : gb585 ≠ gb584)); replace BK584 := bb_ BK584 hb; clear hb hbox hg; have hnb25 := NB583_584.out; have hnc25 := NB584_583.out; have hnb26 := NB583_585.out; have hnc26 := NB585_583.out; obtain ⟨hcz27_0, hcz27_1, hfz27_0, hfz27_1⟩ := blk2_ BK583) | ((with_reducible refine gate_callee (f := 63) rfl ?_); refine goesL_ (some 7) rfl rfl Try.func63 k_ rfl #[.agg #[.int .i64 a0_0, .int .i64 a0_1]] rfl (g2_) ?_; (with_reducible refine (spec_FracOk.calls k a0_0 a0_1 true _ A3.out).mono ?_); rintro e w28 ⟨rfl, hb⟩; refine ⟨_, rfl, ?_⟩; replace BK583 := bb_ BK583 hb; replace BK584 := bb_ BK584 hb; replace BK585 := bb_ BK585 hb; replace HB := Aside0.mk (below_step (qz2_) hb); (try clear hb); (try clear hk hi); have hnb29 := NB584_585.out; have hnc29 := NB585_584.out; obtain ⟨hcz30_0, hcz30_1, hfz30_0, hfz30_1⟩ := blk2_ BK584) | (go_at_call 63; (with_reducible refine (spec_FracOk.calls k a1_0 a1_1 false _ A5.out).mono ?_); rintro e w31 ⟨rfl, hb⟩; replace BK583 := bb_ BK583 hb; replace BK584 := bb_ BK584 hb; replace BK585 := bb_ BK585 hb; replace HB := Aside0.mk (below_step (qz2_) hb); (try clear hb); (try clear hk hi); obtain ⟨hcz32_0, hcz32_1, hfz32_0, hfz32_1⟩ := blk2_ BK585))
   refine bodyPost_ret (results_ct rfl _ _ gb585 36 #[.int .i64 0, .int .i64 0] (0, 0) _ rfl (by (with_reducible repeat (first | refine blk_drewN ?_ _ | refine blk_drew ?_ | refine blk_alloc ?_ _)); refine blk_put (cs := #[.int .i64 0, .int .i64 0]) ?_ 1 _ rfl; (with_reducible repeat (first | refine blk_drewN ?_ _ | refine blk_drew ?_ | refine blk_alloc ?_ _)); refine blk_put (cs := #[.int .i64 0, .int .i64 0]) ?_ 0 _ rfl; (with_reducible repeat (first | refine blk_drewN ?_ _ | refine blk_drew ?_ | refine blk_alloc ?_ _)); exact BK585.out) Try.underlying36 rfl (g0_)) rfl ?_
   exact ⟨g4_, qz2_⟩
 ·replace c4 := Bool.eq_false_iff.mpr c4
  subst c4
  replace H := ifn_ H
  simp only [Option.some.injEq, Prod.mk.injEq] at H
  obtain ⟨rfl, rfl, rfl⟩ := H
  go_enter Try.func75, Try.ntmps75
  go_wp2_with (first | ((with_reducible refine gate_dst (N := 2) rfl ?_); refine bx_ (N := 2) #[.int .i64 a0_0, .int .i64 a0_1] 36 ?_; intro gb583 hg w33 hbox hb; have BK583 := Aside0.mk (hbox); have GW583 := Aside0.mk ((g14_ : w.heap.size ≤ gb583)); have GE583 := Aside0.mk ((g14_ : w.heap.size ≤ gb583)); replace HB := Aside0.mk (below_step (qz2_) hb); clear hb hbox hg) | ((with_reducible refine gate_dst (N := 3) rfl ?_); refine bx_ (N := 3) #[.int .i64 a1_0, .int .i64 a1_1] 36 ?_; intro gb584 hg w34 hbox hb; have BK584 := Aside0.mk (hbox); have GW584 := Aside0.mk ((g14_ : w.heap.size ≤ gb584)); have GE584 := Aside0.mk ((g14_ : w.heap.size ≤ gb584)); replace HB := Aside0.mk (below_step (qz2_) hb); have NB583_584 := Aside0.mk ((g68_ : gb583 ≠ gb584)); have NB584_583 := Aside0.mk ((g69_ : gb584 ≠ gb583)); replace BK583 := bb_ BK583 hb; clear hb hbox hg) | ((with_reducible refine gate_dst (N := 4) rfl ?_); refine bx_ (N := 4) #[.int .i64 0, .int .i64 0] 36 ?_; intro gb585 hg w35 hbox hb; have BK585 := Aside0.mk (hbox); have GW585 := Aside0.mk ((g14_ : w.heap.size ≤ gb585)); have GE585 := Aside0.mk ((g14_ : w.heap.size ≤ gb585)); replace HB := Aside0.mk (below_step (qz2_) hb); have NB583_585 := Aside0.mk ((g68_ : gb583 ≠ gb585)); have NB585_583 := Aside0.mk ((g69_ : gb585 ≠ gb583)); replace BK583 := bb_ BK583 hb; have NB584_585 := Aside0.mk ((g155_ : gb584 ≠ gb585)); have NB585_584 := Aside0.mk ((g156_ : gb585 ≠ gb584)); replace BK584 := bb_ BK584 hb; clear hb hbox hg; have hnb36 := NB583_584.out; have hnc36 := NB584_583.out; have hnb37 := NB583_585.out; have hnc37 := NB585_583.out; obtain ⟨hcz38_0, hcz38_1, hfz38_0, hfz38_1⟩ := blk2_ BK583) | ((with_reducible refine gate_callee (f := 63) rfl ?_); refine goesL_ (some 7) rfl rfl Try.func63 k_ rfl #[.agg #[.int .i64 a0_0, .int .i64 a0_1]] rfl (g2_) ?_; (with_reducible refine (spec_FracOk.calls k a0_0 a0_1 false _ A3.out).mono ?_); rintro e w39 ⟨rfl, hb⟩; refine ⟨_, rfl, ?_⟩; replace BK583 := bb_ BK583 hb; replace BK584 := bb_ BK584 hb; replace BK585 := bb_ BK585 hb; replace HB := Aside0.mk (below_step (qz2_) hb); (try clear hb); (try clear hk hi); have hnb40 := NB585_584.out; have hnc40 := NB584_585.out; obtain ⟨hcz41_0, hcz41_1, hfz41_0, hfz41_1⟩ := blk2_ BK585))
  refine bodyPost_ret (results_ct rfl _ _ gb585 36 #[.int .i64 0, .int .i64 0] (0, 0) _ rfl (by (with_reducible repeat (first | refine blk_drewN ?_ _ | refine blk_drew ?_ | refine blk_alloc ?_ _)); refine blk_put (cs := #[.int .i64 0, .int .i64 0]) ?_ 1 _ rfl; (with_reducible repeat (first | refine blk_drewN ?_ _ | refine blk_drew ?_ | refine blk_alloc ?_ _)); refine blk_put (cs := #[.int .i64 0, .int .i64 0]) ?_ 0 _ rfl; (with_reducible repeat (first | refine blk_drewN ?_ _ | refine blk_drew ?_ | refine blk_alloc ?_ _)); exact BK585.out) Try.underlying36 rfl (g0_)) rfl ?_
  exact ⟨g4_, qz2_⟩
def spec_PlusOf.f (k : Nat) (a0_0 : Int) (a0_1 : Int) (a1_0 : Int) (a1_1 : Int) : Option (Int × Int × Bool) := (spec_FracOk.f k a0_0 a0_1).bind fun t594 => (if t594 = true then ((spec_FracOk.f k a1_0 a1_1).bind fun t595 => (if t595 = true then ((spec_l1Low.f k (wrap64 ((wrap64 (a0_0 * a1_1)) + (wrap64 (a1_0 * a0_1)))) (wrap64 (a0_1 * a1_1))).bind fun bt596 => (some (bt596.1, bt596.2.1, bt596.2.2))) else (some (0, 0, false)))) else (some (0, 0, false)))
theorem spec_PlusOf.mq {p : Prop} (h : p := by
 repeat' first
 | (with_reducible exact spec_FracOk.mono _ _ _)
 | (with_reducible exact spec_l1Low.mono _ _ _)
 | (with_reducible exact LeO.refl _)
 | (with_reducible exact LeO.none _)
 | (with_reducible refine LeO.ite ?_ ?_)
 | (with_reducible refine LeO.bind ?_ (fun _ => ?_))
 | exact spec_FracOk.mono _ _ _
 | exact spec_l1Low.mono _ _ _
 | exact LeO.none _
 | refine LeO.ite ?_ ?_
 | refine LeO.bind ?_ (fun _ => ?_)) : p := h
theorem spec_PlusOf.mono : ∀ a0 a1 a2 a3 k, LeO (spec_PlusOf.f k a0 a1 a2 a3) (spec_PlusOf.f (k + 1) a0 a1 a2 a3) := by
 intro a0 a1 a2 a3 k
 unfold spec_PlusOf.f
 exact spec_PlusOf.mq
theorem qz3_ {p : Prop} (h : p := by repeat (first | (with_reducible first | exact HB.out | apply below_alloc | apply pw_below_drewN | apply below_drew1 | refine below_set ?_ GE591.out | refine below_set ?_ GE592.out | refine below_set ?_ GE593.out) | exact HB.out)) : p := h
set_option maxHeartbeats 8000000 in
set_option maxRecDepth 100000 in
theorem spec_PlusOf.calls (k : Nat) (a0_0 : Int) (a0_1 : Int) (a1_0 : Int) (a1_1 : Int) (r1 : Int) (r2 : Int) (r3 : Bool) (w : World) (h : spec_PlusOf.f k a0_0 a0_1 a1_0 a1_1 = some (r1, r2, r3)) :
  Calls Try.prog 76 #[.agg #[.int .i64 a0_0, .int .i64 a0_1], .agg #[.int .i64 a1_0, .int .i64 a1_1]] w fun e w' => e = .returned (.tuple #[.agg #[.int .i64 r1, .int .i64 r2], .bool r3]) ∧ Below w.heap.size w w' := by
 have hu36 := Try.underlying36
 have HB := Aside0.mk (Below.refl w.heap.size w)
 have H : ((spec_FracOk.f k a0_0 a0_1).bind fun t594 => (if t594 = true then ((spec_FracOk.f k a1_0 a1_1).bind fun t595 => (if t595 = true then ((spec_l1Low.f k (wrap64 ((wrap64 (a0_0 * a1_1)) + (wrap64 (a1_0 * a0_1)))) (wrap64 (a0_1 * a1_1))).bind fun bt596 => (some (bt596.1, bt596.2.1, bt596.2.2))) else (some (0, 0, false)))) else (some (0, 0, false)))) = some (r1, r2, r3) := h
 clear h
 obtain ⟨t594, A3, H⟩ := bind_ H
 by_cases c4 : t594 = true
 ·subst c4
  replace H := ifp_ H
  obtain ⟨t595, A5, H⟩ := bind_ H
  by_cases c6 : t595 = true
  ·subst c6
   replace H := ifp_ H
   replace H := Option.bind_eq_some_iff.mp H
   obtain ⟨⟨t596, t597, t598⟩, A70, H⟩ := H
   replace H : (some (t596, t597, t598)) = some (r1, r2, r3) := H
   have A7 := Aside0.mk A70
   clear A70
   simp only [Option.some.injEq, Prod.mk.injEq] at H
   obtain ⟨rfl, rfl, rfl⟩ := H
   go_enter Try.func76, Try.ntmps76
   go_wp2_with (first | ((with_reducible refine gate_dst (N := 2) rfl ?_); refine bx_ (N := 2) #[.int .i64 a0_0, .int .i64 a0_1] 36 ?_; intro gb591 hg w8 hbox hb; have BK591 := Aside0.mk (hbox); have GW591 := Aside0.mk ((g15_ : w.heap.size ≤ gb591)); have GE591 := Aside0.mk ((g15_ : w.heap.size ≤ gb591)); replace HB := Aside0.mk (below_step (qz3_) hb); clear hb hbox hg) | ((with_reducible refine gate_dst (N := 3) rfl ?_); refine bx_ (N := 3) #[.int .i64 a1_0, .int .i64 a1_1] 36 ?_; intro gb592 hg w9 hbox hb; have BK592 := Aside0.mk (hbox); have GW592 := Aside0.mk ((g15_ : w.heap.size ≤ gb592)); have GE592 := Aside0.mk ((g15_ : w.heap.size ≤ gb592)); replace HB := Aside0.mk (below_step (qz3_) hb); have NB591_592 := Aside0.mk ((g70_ : gb591 ≠ gb592)); have NB592_591 := Aside0.mk ((g71_ : gb592 ≠ gb591)); replace BK591 := bb_ BK591 hb; clear hb hbox hg) | ((with_reducible refine gate_dst (N := 4) rfl ?_); refine bx_ (N := 4) #[.int .i64 0, .int .i64 0] 36 ?_; intro gb593 hg w10 hbox hb; have BK593 := Aside0.mk (hbox); have GW593 := Aside0.mk ((g15_ : w.heap.size ≤ gb593)); have GE593 := Aside0.mk ((g15_ : w.heap.size ≤ gb593)); replace HB := Aside0.mk (below_step (qz3_) hb); have NB591_593 := Aside0.mk ((g70_ : gb591 ≠ gb593)); have NB593_591 := Aside0.mk ((g71_ : gb593 ≠ gb591)); replace BK591 := bb_ BK591 hb; have NB592_593 := Aside0.mk ((g157_ : gb592 ≠ gb593)); have NB593_592 := Aside0.mk ((g158_ : gb593 ≠ gb592)); replace BK592 := bb_ BK592 hb; clear hb hbox hg; have hnb11 := NB591_592.out; have hnc11 := NB592_591.out; have hnb12 := NB591_593.out; have hnc12 := NB593_591.out; obtain ⟨hcz13_0, hcz13_1, hfz13_0, hfz13_1⟩ := blk2_ BK591) | ((with_reducible refine gate_callee (f := 63) rfl ?_); refine goesL_ (some 7) rfl rfl Try.func63 k_ rfl #[.agg #[.int .i64 a0_0, .int .i64 a0_1]] rfl (g2_) ?_; (with_reducible refine (spec_FracOk.calls k a0_0 a0_1 true _ A3.out).mono ?_); rintro e w14 ⟨rfl, hb⟩; refine ⟨_, rfl, ?_⟩; replace BK591 := bb_ BK591 hb; replace BK592 := bb_ BK592 hb; replace BK593 := bb_ BK593 hb; replace HB := Aside0.mk (below_step (qz3_) hb); (try clear hb); (try clear hk hi); have hnb15 := NB592_593.out; have hnc15 := NB593_592.out; obtain ⟨hcz16_0, hcz16_1, hfz16_0, hfz16_1⟩ := blk2_ BK592) | (go_at_call 63; (with_reducible refine (spec_FracOk.calls k a1_0 a1_1 true _ A5.out).mono ?_); rintro e w17 ⟨rfl, hb⟩; replace BK591 := bb_ BK591 hb; replace BK592 := bb_ BK592 hb; replace BK593 := bb_ BK593 hb; replace HB := Aside0.mk (below_step (qz3_) hb); (try clear hb); (try clear hk hi); obtain ⟨hcz18_0, hcz18_1, hfz18_0, hfz18_1⟩ := blk2_ BK591; obtain ⟨hcz19_0, hcz19_1, hfz19_0, hfz19_1⟩ := blk2_ BK592) | ((with_reducible refine gate_callee (f := 95) rfl ?_); refine goesL_ (some 31) rfl rfl Try.func95 k_ rfl #[.int .i64 (wrap64 ((wrap64 (a0_0 * a1_1)) + (wrap64 (a1_0 * a0_1)))), .int .i64 (wrap64 (a0_1 * a1_1))] rfl (g2_) ?_; (with_reducible refine (spec_l1Low.calls k (wrap64 ((wrap64 (a0_0 * a1_1)) + (wrap64 (a1_0 * a0_1)))) (wrap64 (a0_1 * a1_1)) t596 t597 t598 _ A7.out).mono ?_); rintro e w20 ⟨rfl, hb⟩; refine ⟨_, rfl, ?_⟩; replace BK591 := bb_ BK591 hb; replace BK592 := bb_ BK592 hb; replace BK593 := bb_ BK593 hb; replace HB := Aside0.mk (below_step (qz3_) hb); (try clear hb); (try clear hk hi); obtain ⟨hcz21_0, hcz21_1, hfz21_0, hfz21_1⟩ := blk2_ BK593))
   refine bodyPost_ret (results_ct rfl _ _ gb593 36 #[.int .i64 t596, .int .i64 t597] (0, 0) _ rfl (by (with_reducible repeat (first | refine blk_drewN ?_ _ | refine blk_drew ?_ | refine blk_alloc ?_ _)); refine blk_put (cs := #[.int .i64 t596, .int .i64 0]) ?_ 1 _ rfl; (with_reducible repeat (first | refine blk_drewN ?_ _ | refine blk_drew ?_ | refine blk_alloc ?_ _)); refine blk_put (cs := #[.int .i64 0, .int .i64 0]) ?_ 0 _ rfl; (with_reducible repeat (first | refine blk_drewN ?_ _ | refine blk_drew ?_ | refine blk_alloc ?_ _)); exact BK593.out) Try.underlying36 rfl (g0_)) rfl ?_
   exact ⟨g4_, qz3_⟩
  ·replace c6 := Bool.eq_false_iff.mpr c6
   subst c6
   replace H := ifn_ H
   simp only [Option.some.injEq, Prod.mk.injEq] at H
   obtain ⟨rfl, rfl, rfl⟩ := H
   go_enter Try.func76, Try.ntmps76
   go_wp2_with (first | ((with_reducible refine gate_dst (N := 2) rfl ?_); refine bx_ (N := 2) #[.int .i64 a0_0, .int .i64 a0_1] 36 ?_; intro gb591 hg w22 hbox hb; have BK591 := Aside0.mk (hbox); have GW591 := Aside0.mk ((g15_ : w.heap.size ≤ gb591)); have GE591 := Aside0.mk ((g15_ : w.heap.size ≤ gb591)); replace HB := Aside0.mk (below_step (qz3_) hb); clear hb hbox hg) | ((with_reducible refine gate_dst (N := 3) rfl ?_); refine bx_ (N := 3) #[.int .i64 a1_0, .int .i64 a1_1] 36 ?_; intro gb592 hg w23 hbox hb; have BK592 := Aside0.mk (hbox); have GW592 := Aside0.mk ((g15_ : w.heap.size ≤ gb592)); have GE592 := Aside0.mk ((g15_ : w.heap.size ≤ gb592)); replace HB := Aside0.mk (below_step (qz3_) hb); have NB591_592 := Aside0.mk ((g70_ : gb591 ≠ gb592)); have NB592_591 := Aside0.mk ((g71_ : gb592 ≠ gb591)); replace BK591 := bb_ BK591 hb; clear hb hbox hg) | ((with_reducible refine gate_dst (N := 4) rfl ?_); refine bx_ (N := 4) #[.int .i64 0, .int .i64 0] 36 ?_; intro gb593 hg w24 hbox hb; have BK593 := Aside0.mk (hbox); have GW593 := Aside0.mk ((g15_ : w.heap.size ≤ gb593)); have GE593 := Aside0.mk ((g15_ : w.heap.size ≤ gb593)); replace HB := Aside0.mk (below_step (qz3_) hb); have NB591_593 := Aside0.mk ((g70_ : gb591 ≠ gb593)); have NB593_591 := Aside0.mk ((g71_ : gb593 ≠ gb591)); replace BK591 := bb_ BK591 hb; have NB592_593 := Aside0.mk ((g157_ : gb592 ≠ gb593)); have NB593_592 := Aside0.mk ((g158_ : gb593 ≠ gb592)); replace BK592 := bb_ BK592 hb; clear hb hbox hg; have hnb25 := NB591_592.out; have hnc25 := NB592_591.out; have hnb26 := NB591_593.out; have hnc26 := NB593_591.out; obtain ⟨hcz27_0, hcz27_1, hfz27_0, hfz27_1⟩ := blk2_ BK591) | ((with_reducible refine gate_callee (f := 63) rfl ?_); refine goesL_ (some 7) rfl rfl Try.func63 k_ rfl #[.agg #[.int .i64 a0_0, .int .i64 a0_1]] rfl (g2_) ?_; (with_reducible refine (spec_FracOk.calls k a0_0 a0_1 true _ A3.out).mono ?_); rintro e w28 ⟨rfl, hb⟩; refine ⟨_, rfl, ?_⟩; replace BK591 := bb_ BK591 hb; replace BK592 := bb_ BK592 hb; replace BK593 := bb_ BK593 hb; replace HB := Aside0.mk (below_step (qz3_) hb); (try clear hb); (try clear hk hi); have hnb29 := NB592_593.out; have hnc29 := NB593_592.out; obtain ⟨hcz30_0, hcz30_1, hfz30_0, hfz30_1⟩ := blk2_ BK592) | (go_at_call 63; (with_reducible refine (spec_FracOk.calls k a1_0 a1_1 false _ A5.out).mono ?_); rintro e w31 ⟨rfl, hb⟩; replace BK591 := bb_ BK591 hb; replace BK592 := bb_ BK592 hb; replace BK593 := bb_ BK593 hb; replace HB := Aside0.mk (below_step (qz3_) hb); (try clear hb); (try clear hk hi); obtain ⟨hcz32_0, hcz32_1, hfz32_0, hfz32_1⟩ := blk2_ BK593))
   refine bodyPost_ret (results_ct rfl _ _ gb593 36 #[.int .i64 0, .int .i64 0] (0, 0) _ rfl (by (with_reducible repeat (first | refine blk_drewN ?_ _ | refine blk_drew ?_ | refine blk_alloc ?_ _)); refine blk_put (cs := #[.int .i64 0, .int .i64 0]) ?_ 1 _ rfl; (with_reducible repeat (first | refine blk_drewN ?_ _ | refine blk_drew ?_ | refine blk_alloc ?_ _)); refine blk_put (cs := #[.int .i64 0, .int .i64 0]) ?_ 0 _ rfl; (with_reducible repeat (first | refine blk_drewN ?_ _ | refine blk_drew ?_ | refine blk_alloc ?_ _)); exact BK593.out) Try.underlying36 rfl (g0_)) rfl ?_
   exact ⟨g4_, qz3_⟩
 ·replace c4 := Bool.eq_false_iff.mpr c4
  subst c4
  replace H := ifn_ H
  simp only [Option.some.injEq, Prod.mk.injEq] at H
  obtain ⟨rfl, rfl, rfl⟩ := H
  go_enter Try.func76, Try.ntmps76
  go_wp2_with (first | ((with_reducible refine gate_dst (N := 2) rfl ?_); refine bx_ (N := 2) #[.int .i64 a0_0, .int .i64 a0_1] 36 ?_; intro gb591 hg w33 hbox hb; have BK591 := Aside0.mk (hbox); have GW591 := Aside0.mk ((g15_ : w.heap.size ≤ gb591)); have GE591 := Aside0.mk ((g15_ : w.heap.size ≤ gb591)); replace HB := Aside0.mk (below_step (qz3_) hb); clear hb hbox hg) | ((with_reducible refine gate_dst (N := 3) rfl ?_); refine bx_ (N := 3) #[.int .i64 a1_0, .int .i64 a1_1] 36 ?_; intro gb592 hg w34 hbox hb; have BK592 := Aside0.mk (hbox); have GW592 := Aside0.mk ((g15_ : w.heap.size ≤ gb592)); have GE592 := Aside0.mk ((g15_ : w.heap.size ≤ gb592)); replace HB := Aside0.mk (below_step (qz3_) hb); have NB591_592 := Aside0.mk ((g70_ : gb591 ≠ gb592)); have NB592_591 := Aside0.mk ((g71_ : gb592 ≠ gb591)); replace BK591 := bb_ BK591 hb; clear hb hbox hg) | ((with_reducible refine gate_dst (N := 4) rfl ?_); refine bx_ (N := 4) #[.int .i64 0, .int .i64 0] 36 ?_; intro gb593 hg w35 hbox hb; have BK593 := Aside0.mk (hbox); have GW593 := Aside0.mk ((g15_ : w.heap.size ≤ gb593)); have GE593 := Aside0.mk ((g15_ : w.heap.size ≤ gb593)); replace HB := Aside0.mk (below_step (qz3_) hb); have NB591_593 := Aside0.mk ((g70_ : gb591 ≠ gb593)); have NB593_591 := Aside0.mk ((g71_ : gb593 ≠ gb591)); replace BK591 := bb_ BK591 hb; have NB592_593 := Aside0.mk ((g157_ : gb592 ≠ gb593)); have NB593_592 := Aside0.mk ((g158_ : gb593 ≠ gb592)); replace BK592 := bb_ BK592 hb; clear hb hbox hg; have hnb36 := NB591_592.out; have hnc36 := NB592_591.out; have hnb37 := NB591_593.out; have hnc37 := NB593_591.out; obtain ⟨hcz38_0, hcz38_1, hfz38_0, hfz38_1⟩ := blk2_ BK591) | ((with_reducible refine gate_callee (f := 63) rfl ?_); refine goesL_ (some 7) rfl rfl Try.func63 k_ rfl #[.agg #[.int .i64 a0_0, .int .i64 a0_1]] rfl (g2_) ?_; (with_reducible refine (spec_FracOk.calls k a0_0 a0_1 false _ A3.out).mono ?_); rintro e w39 ⟨rfl, hb⟩; refine ⟨_, rfl, ?_⟩; replace BK591 := bb_ BK591 hb; replace BK592 := bb_ BK592 hb; replace BK593 := bb_ BK593 hb; replace HB := Aside0.mk (below_step (qz3_) hb); (try clear hb); (try clear hk hi); have hnb40 := NB593_592.out; have hnc40 := NB592_593.out; obtain ⟨hcz41_0, hcz41_1, hfz41_0, hfz41_1⟩ := blk2_ BK593))
  refine bodyPost_ret (results_ct rfl _ _ gb593 36 #[.int .i64 0, .int .i64 0] (0, 0) _ rfl (by (with_reducible repeat (first | refine blk_drewN ?_ _ | refine blk_drew ?_ | refine blk_alloc ?_ _)); refine blk_put (cs := #[.int .i64 0, .int .i64 0]) ?_ 1 _ rfl; (with_reducible repeat (first | refine blk_drewN ?_ _ | refine blk_drew ?_ | refine blk_alloc ?_ _)); refine blk_put (cs := #[.int .i64 0, .int .i64 0]) ?_ 0 _ rfl; (with_reducible repeat (first | refine blk_drewN ?_ _ | refine blk_drew ?_ | refine blk_alloc ?_ _)); exact BK593.out) Try.underlying36 rfl (g0_)) rfl ?_
  exact ⟨g4_, qz3_⟩
end Go.Proofs.Ytigpmfoagkhaeaa.PU
