/- FnNetted: for every input the law holds. No condition. -/
import Derived.Test.YtfooakkhkehpiaaZFnNetted1
namespace Go.Proofs.Ytfooakkhkehpiaa.PU
open Go.RowKit Go.Proofs.YtfooakkhkehpiaaW.PrintWords Go.Proofs.YtfooakkhkehpiaaW.PrintLast Go.Proofs.YtfooakkhkehpiaaW.PrintMore Go.Proofs.Ytfooakkhkehpiaa.Qd
attribute [local go_sem] max2_int min2_int max_two min_two max_three min_three max_four min_four
set_option linter.unusedVariables false
set_option linter.unusedSimpArgs false
mutual
def impl_owes.l0 : Nat → List Int → List (List Int) → Int → Int → Option (List Int)
 | 0, _, _, _, _ => none
 | k + 1, x3, x13, x14, x15 => if x15 < x14 then (if 0 ≤ x15 then (if x15 < (x13.length : Int) then (impl_owes.l1 k x3 x15 x13 x14 x15 (rd_L1 x13 x15) ((rd_L1 x13 x15).length : Int) 0) else (none)) else (none)) else (some x3)
def impl_owes.l1 : Nat → List Int → Int → List (List Int) → Int → Int → List Int → Int → Int → Option (List Int)
 | 0, _, _, _, _, _, _, _, _ => none
 | k + 1, x3, x4, x13, x14, x15, x20, x21, x22 => if x22 < x21 then (if 0 ≤ x22 then (if x22 < (x20.length : Int) then (if 0 ≤ x4 then (if x4 < (x3.length : Int) then (impl_owes.l1 k (x3.set (x4 : Int).toNat (wrap64 ((rd x3 x4) + (rd x20 x22)))) x4 x13 x14 x15 x20 x21 (wrap64 (x22 + 1))) else (none)) else (none)) else (none)) else (none)) else (impl_owes.l0 k x3 x13 x14 (wrap64 (x15 + 1)))
end
def impl_owes.f (k : Nat) (l0_0 : List Int) (l0_1 : List (List Int)) : Option (List Int) := if 0 ≤ (l0_0.length : Int) then (if ((l0_0.length : Int) : Int).toNat ≤ 35184372088832 then (impl_owes.l0 k (List.replicate ((l0_0.length : Int) : Int).toNat 0) l0_1 (l0_1.length : Int) 0) else (none)) else (none)
theorem impl_owes.mq {p : Prop} (h : p := by
 repeat' first
 | (with_reducible exact ih0 _ _ _ _)
 | (with_reducible exact ih1 _ _ _ _ _ _ _ _)
 | (with_reducible exact LeO.refl _)
 | (with_reducible exact LeO.none _)
 | (with_reducible refine LeO.ite ?_ ?_)
 | (with_reducible refine LeO.bind ?_ (fun _ => ?_))
 | exact ih0 _ _ _ _
 | exact ih1 _ _ _ _ _ _ _ _
 | exact LeO.none _
 | refine LeO.ite ?_ ?_
 | refine LeO.bind ?_ (fun _ => ?_)) : p := h
theorem impl_owes.mono_l : ∀ k, (∀ y0 y1 y2 y3, LeO (impl_owes.l0 k y0 y1 y2 y3) (impl_owes.l0 (k + 1) y0 y1 y2 y3)) ∧ (∀ y0 y1 y2 y3 y4 y5 y6 y7, LeO (impl_owes.l1 k y0 y1 y2 y3 y4 y5 y6 y7) (impl_owes.l1 (k + 1) y0 y1 y2 y3 y4 y5 y6 y7))
 | 0 => ⟨fun _ _ _ _ r h => by simp [impl_owes.l0] at h, fun _ _ _ _ _ _ _ _ r h => by simp [impl_owes.l1] at h⟩
 | k + 1 => by
  obtain ⟨ih0, ih1⟩ := impl_owes.mono_l k
  refine ⟨?_, ?_⟩
  ·intro y0 y1 y2 y3
   unfold impl_owes.l0
   exact impl_owes.mq
  ·intro y0 y1 y2 y3 y4 y5 y6 y7
   unfold impl_owes.l1
   exact impl_owes.mq
theorem impl_owes.mono : ∀ a0 a1 k, LeO (impl_owes.f k a0 a1) (impl_owes.f (k + 1) a0 a1) := by
 intro a0 a1 k
 obtain ⟨ih0, ih1⟩ := impl_owes.mono_l k
 unfold impl_owes.f
 exact impl_owes.mq
theorem qz16_ {p : Prop} (h : p := by repeat (first | (with_reducible first | exact HB.out | apply below_alloc | apply pw_below_drewN | apply below_drew1 | refine below_set ?_ GE167.out) | exact HB.out)) : p := h
set_option maxHeartbeats 8000000 in
set_option maxRecDepth 100000 in
theorem impl_owes.calls (k : Nat) (A0_0 : Option Addr) (c0_0 : Nat) (l0_0 : List Int) (A0_1 : Option Addr) (c0_1 : Nat) (l0_1 : List (List Int)) (r : List Int) (w : World) (hr0_0 : Kd.C (Kd.int .i64) w A0_0 l0_0.length l0_0) (hc0_0 : l0_0.length ≤ c0_0) (hr0_1 : Kd.C (Kd.slice 3 (Kd.int .i64)) w A0_1 l0_1.length l0_1) (hc0_1 : l0_1.length ≤ c0_1) (h : impl_owes.f k l0_0 l0_1 = some r) :
  Calls Try.prog 74 #[.agg #[.slice A0_0 l0_0.length c0_0, .slice A0_1 l0_1.length c0_1]] w fun e w' => ∃ v0_ : Value, e = .returned (v0_) ∧ Kd.R (Kd.int .i64) 3 w' w.heap.size (fun _ => True) v0_ r ∧ Below w.heap.size w w' := by
 have hu25 := Try.underlying25
 have HR0_0 := Aside0.mk hr0_0
 have HC0_0 := Aside0.mk hc0_0
 clear hr0_0 hc0_0
 have HR0_1 := Aside0.mk hr0_1
 have HC0_1 := Aside0.mk hc0_1
 clear hr0_1 hc0_1
 have HB := Aside0.mk (Below.refl w.heap.size w)
 have H : (if 0 ≤ (l0_0.length : Int) then (if ((l0_0.length : Int) : Int).toNat ≤ 35184372088832 then (impl_owes.l0 k (List.replicate ((l0_0.length : Int) : Int).toNat 0) l0_1 (l0_1.length : Int) 0) else (none)) else (none)) = some r := h
 clear h
 obtain ⟨c2, H⟩ := pos_ H
 have c2b0 := eq_true c2
 have c2b1 := decide_eq_true c2
 clear c2
 obtain ⟨c3, H⟩ := pos_ H
 have c3b0 := eq_true c3
 have c3b1 := decide_eq_true c3
 clear c3
 obtain ⟨y168, hy168⟩ : ∃ y_ : List Int, y_ = (List.replicate ((l0_0.length : Int) : Int).toNat 0) := ⟨_, rfl⟩
 replace H : (impl_owes.l0 k y168 l0_1 (l0_1.length : Int) 0) = some r := by first | (rw [hy168]; with_reducible exact H) | (have H2_ := (Option.bind_some _ _).symm.trans H; rw [hy168]; with_reducible exact H2_) | (have H2_ := (Option.bind_some _ _).symm.trans H; with_reducible exact H2_) | with_reducible exact H | (rw [hy168]; exact H) | exact H
 have Ny168 := Aside0.mk hy168
 clear hy168
 have H' := Aside0.mk H
 clear H
 go_enter Try.func74, Try.ntmps74
 go_wp2_with (first | ((with_reducible refine gate_dst (N := 1) rfl ?_); refine bx_ (N := 1) #[.slice A0_0 l0_0.length c0_0, .slice A0_1 l0_1.length c0_1] 25 ?_; intro gb167 hg w4 hbox hb; have BK167 := Aside0.mk (hbox); have GW167 := Aside0.mk ((by rw [hg]; exact (below_size (qz16_)) : w.heap.size ≤ gb167)); have GE167 := Aside0.mk ((by rw [hg]; exact (below_size (qz16_)) : w.heap.size ≤ gb167)); replace HB := Aside0.mk (below_step (qz16_) hb); clear hb hbox hg; obtain ⟨hcz5_0, hcz5_1, hfz5_0, hfz5_1⟩ := blk2_ BK167) | ((with_reducible refine gate_dst (N := 11) rfl ?_); refine Kd.R_make (Kd.int .i64) _ 3 rfl (N := 11) rfl 22 _ _ rfl (l0_0.length : Int) rfl rfl Try.underlying22 (.int .i64 0) 8 info3 rfl (by decide) (by omega) 0 (ok := fun _ => True) (okp := fun _ => True) rfl (fun _ hk => hk) trivial (of_decide_eq_true (g0_)) (Nat.le_trans (Nat.mul_le_mul_right _ (of_decide_eq_true (g0_) : (l0_0.length : Int).toNat ≤ 35184372088832)) (by omega)) (Below.refl _ _) (Nat.le_refl _) ?_; intro v169 w6 ho7 hb hg_ hnew_; clear hg_ hnew_; (first | rw [← Ny168.out] at ho7 | (simp only [Int.reduceToNat] at ho7; rw [← Ny168.out] at ho7)); have HO170 := Aside0.mk (Kd.R_lower ho7 (below_size (qz16_))); replace BK167 := bb_ BK167 hb; replace HB := Aside0.mk (below_step (qz16_) hb); clear hb ho7; obtain ⟨hcz8_0, hcz8_1, hfz8_0, hfz8_1⟩ := blk2_ BK167))
 go_loopg [15] k (fun kq v15 w' => ∃ (x3_1 : List Int) (x15_1 : Int), v15 = .int .i64 x15_1 ∧ Aside0 (impl_owes.l0 kq x3_1 l0_1 (l0_1.length : Int) x15_1 = some r) ∧ Aside0 (kq ≤ k) ∧ Aside0 (Kd.R (Kd.int .i64) 3 w' w.heap.size (fun _ => True) v169 x3_1) ∧ Aside0 (w'.heap[gb167]? = some (.cells #[(.slice A0_0 l0_0.length c0_0), (.slice A0_1 l0_1.length c0_1)] 25 (0, 0))) ∧ Aside0 (Below w.heap.size w w'))
 case atStart => exact ⟨(y168), (0), (g3_), H', ⟨Nat.le_refl _⟩, ⟨uf1_ HO170⟩, ⟨uf0_ BK167⟩, ⟨qz16_⟩⟩
 case round =>
  clear H'
  try clear c2
  try clear c2b0
  try clear c2b1
  try clear p2
  try clear c3
  try clear c3b0
  try clear c3b1
  try clear c7
  try clear hcz5_0
  try clear hcz5_1
  try clear hcz8_0
  try clear hcz8_1
  try clear hfz5_0
  try clear hfz5_1
  try clear hfz8_0
  try clear hfz8_1
  obtain ⟨x3_1, x15_1, rfl, HA, HK1, HO_3, BK167, HB⟩ := hrel
  cases gk with
  | zero => exact absurd HA.out (by simp [impl_owes.l0])
  | succ k1 =>
   have H := HA.out
   clear HA
   simp only [impl_owes.l0] at H
   by_cases c9 : x15_1 < (l0_1.length : Int)
   ·rw [if_pos c9] at H
    have c9b0 := decide_eq_true c9
    clear c9
    obtain ⟨c10, H⟩ := pos_ H
    have c10b0 := decide_eq_true c10
    clear c10
    obtain ⟨c11, H⟩ := pos_ H
    have c11b0 := decide_eq_true c11
    clear c11
    have H' := Aside0.mk H
    clear H
    have p171 : 0 ≤ (x15_1 : Int) := of_decide_eq_true (g0_)
    have q171 : x15_1 < (l0_1.length : Int) := of_decide_eq_true (g0_)
    obtain ⟨ad171, A171_0, c171_0, e171, hx171_0, hl171_0, hi171_0⟩ := at_L1 HR0_1.out x15_1 p171 q171
    cases e171
    replace hx171_0 := cl_ HB hx171_0
    have HR171_0 := Aside0.mk hi171_0
    have HC171_0 := Aside0.mk hl171_0
    clear hi171_0 hl171_0
    replace p171 := eq_true p171
    replace q171 := eq_true q171
    go_wp2
    go_loopg [22] k1 (fun kq v22 w' => ∃ (x3_2 : List Int) (x22_2 : Int), v22 = .int .i64 x22_2 ∧ Aside0 (impl_owes.l1 kq x3_2 x15_1 l0_1 (l0_1.length : Int) x15_1 (rd_L1 l0_1 x15_1) ((rd_L1 l0_1 x15_1).length : Int) x22_2 = some r) ∧ Aside0 (kq ≤ k1) ∧ Aside0 (Kd.R (Kd.int .i64) 3 w' w.heap.size (fun _ => True) v169 x3_2) ∧ Aside0 (w'.heap[gb167]? = some (.cells #[(.slice A0_0 l0_0.length c0_0), (.slice (some ad171) l0_1.length c0_1)] 25 (0, 0))) ∧ Aside0 (Below w.heap.size w w'))
    case atStart => exact ⟨(x3_1), (0), (g3_), H', ⟨Nat.le_refl _⟩, ⟨uf1_ HO_3⟩, ⟨uf0_ BK167⟩, ⟨qz16_⟩⟩
    case round =>
     clear H'
     try clear c1
     try clear p1
     try clear q1
     try clear hx1
     try clear c2
     try clear c2b0
     try clear c2b1
     try clear p2
     try clear c3
     try clear c3b0
     try clear c3b1
     try clear c7
     try clear c9
     try clear c9b0
     try clear c10
     try clear c10b0
     try clear c11
     try clear c11b0
     try clear hcz5_0
     try clear hcz5_1
     try clear hcz8_0
     try clear hcz8_1
     try clear hfz5_0
     try clear hfz5_1
     try clear hfz8_0
     try clear hfz8_1
     try clear hx171_0
     try clear p171
     try clear p2
     try clear q171
     obtain ⟨x3_2, x22_2, rfl, HA, HK2, HO_3, BK167, HB⟩ := hrel
     cases gk with
     | zero => exact absurd HA.out (by simp [impl_owes.l1])
     | succ k2 =>
      have H := HA.out
      clear HA
      simp only [impl_owes.l1] at H
      by_cases c12 : x22_2 < ((rd_L1 l0_1 x15_1).length : Int)
      ·rw [if_pos c12] at H
       have c12b0 := decide_eq_true c12
       clear c12
       obtain ⟨c13, H⟩ := pos_ H
       have c13b0 := decide_eq_true c13
       clear c13
       obtain ⟨c14, H⟩ := pos_ H
       have c14b0 := decide_eq_true c14
       clear c14
       obtain ⟨c15, H⟩ := pos_ H
       have c15b0 := decide_eq_true c15
       clear c15
       obtain ⟨c16, H⟩ := pos_ H
       have c16b0 := decide_eq_true c16
       clear c16
       obtain ⟨y174, hy174⟩ : ∃ y_ : List Int, y_ = (x3_2.set (x15_1 : Int).toNat (wrap64 ((rd x3_2 x15_1) + (rd (rd_L1 l0_1 x15_1) x22_2)))) := ⟨_, rfl⟩
       replace H : (impl_owes.l1 k2 y174 x15_1 l0_1 (l0_1.length : Int) x15_1 (rd_L1 l0_1 x15_1) ((rd_L1 l0_1 x15_1).length : Int) (wrap64 (x22_2 + 1))) = some r := by first | (rw [hy174]; with_reducible exact H) | (have H2_ := (Option.bind_some _ _).symm.trans H; rw [hy174]; with_reducible exact H2_) | (have H2_ := (Option.bind_some _ _).symm.trans H; with_reducible exact H2_) | with_reducible exact H | (rw [hy174]; exact H) | exact H
       have Ny174 := Aside0.mk hy174
       clear hy174
       have H' := Aside0.mk H
       clear H
       have p172 : 0 ≤ (x22_2 : Int) := of_decide_eq_true (g0_)
       have q172 : x22_2 < ((rd_L1 l0_1 x15_1).length : Int) := of_decide_eq_true (g0_)
       obtain ⟨ad172, e172, hx172_0⟩ := Kd.at_int HR171_0.out x22_2 p172 q172
       cases e172
       replace hx172_0 := cl_ HB hx172_0
       replace p172 := eq_true p172
       replace q172 := eq_true q172
       obtain ⟨Ao18, co18, eo18⟩ := Kd.R_slice HO_3.out
       subst eo18
       have p173 : 0 ≤ (x15_1 : Int) := of_decide_eq_true (g0_)
       have q173 : x15_1 < (x3_2.length : Int) := of_decide_eq_true (g0_)
       obtain ⟨ad173, e173, hx173_0⟩ := Kd.at_int (Kd.R_reads' HO_3.out).2.2 x15_1 p173 q173
       cases e173
       replace p173 := eq_true p173
       replace q173 := eq_true q173
       have p17 : 0 ≤ (x15_1 : Int) := of_decide_eq_true (g0_)
       have q17 : (x15_1 : Int) < ((x3_2.length : Int) : Int) := of_decide_eq_true (g0_)
       obtain ⟨go17, co17, eo17, gb17, gl17, cl17, HG17⟩ := Kd.R_form HO_3.out (by omega)
       (first | cases eo17 | (injection eo17 with ea_ en_ ec_; (first | subst ea_ | (injection ea_ with ea_; subst ea_)); subst ec_; clear en_))
       have GB17 := Aside0.mk gb17
       have GG17 := Aside0.mk HG17
       clear gb17 gl17 HG17
       (first | simp only [add_plain] at hx173_0 | skip)
       obtain ⟨hx17_0, hf17_0⟩ := Kd.R_celln 0 HO_3.out (x15_1 : Int) p17 q17
       replace p17 := eq_true p17
       replace q17 := eq_true q17
       have HP19 := Kd.R_putg HO_3.out (x15_1 : Int) (wrap64 ((rd x3_2 x15_1) + (rd (rd_L1 l0_1 x15_1) x22_2)))
       go_wp2_with (first | ((with_reducible refine gate_store (t := 3) (p := 32) rfl ?_); refine store_event (t := 3) (p := 32) (v := ?vo_w20) (w1 := (wr.setCell ⟨go17, (x15_1 : Int).toNat, none⟩ (.int .i64 (wrap64 ((rd x3_2 x15_1) + (rd (rd_L1 l0_1 x15_1) x22_2)))))) ?hg ?ho ?hn ?hr ?_; (case ho => rfl); (case hg => rfl); (case hn => rfl); (case hr => first | (go_simp; done) | (go_simp; rfl)); intro w20 hw; have hg : wr.grownBy w20 (some go17) := (by rw [hw]; exact HP19.2); have hp_ : Kd.R (Kd.int .i64) 3 w20 w.heap.size (fun _ => True) (.slice (some ⟨go17, 0, none⟩) x3_2.length co18) y174 := (by rw [hw, Ny174.out]; exact HP19.1); clear HP19; replace BK167 := Aside0.mk (blk_grown (g := gb167) (o := .cells #[.slice A0_0 l0_0.length c0_0, .slice (some ad171) l0_1.length c0_1] 25 (0, 0)) (uf0_ BK167) hg (Kd.R_ne HO_3.out BK167.out (by decide))); replace HO_3 := Aside0.mk (hp_); replace HB := Aside0.mk ((by rw [hw]; exact below_set (HB.out) GB17.out : Below w.heap.size w w20)); clear hg hw hp_))
       go_roundg k2
       case measure => have := HK1.out; have := HK2.out; omega
       case rel => exact ⟨(y174), (wrap64 (x22_2 + 1)), (g3_), H', ⟨g11_⟩, ⟨uf1_ HO_3⟩, ⟨uf0_ BK167⟩, ⟨qz16_⟩⟩
      ·rw [if_neg c12] at H
       have c12b0 := decide_eq_false c12
       clear c12
       have H' := Aside0.mk H
       clear H
       go_wp2
       go_roundg k2
       case measure => have := HK1.out; have := HK2.out; omega
       case rel => exact ⟨(x3_2), (wrap64 (x15_1 + 1)), (g3_), H', ⟨g11_⟩, ⟨uf1_ HO_3⟩, ⟨uf0_ BK167⟩, ⟨qz16_⟩⟩
   ·rw [if_neg c9] at H
    have c9b0 := decide_eq_false c9
    clear c9
    obtain rfl := Option.some.inj H
    go_wp2
    go_ret
    exact ⟨_, g4_, uf1_ HO_3, qz16_⟩
def impl_AllDebts.l0 : Nat → Int → List Int → Int → Int → Option (Int)
 | 0, _, _, _, _ => none
 | k + 1, x3, x10, x11, x12 => if x12 < x11 then (if 0 ≤ x12 then (if x12 < (x10.length : Int) then (impl_AllDebts.l0 k (wrap64 (x3 + (rd x10 x12))) x10 x11 (wrap64 (x12 + 1))) else (none)) else (none)) else (some x3)
def impl_AllDebts.f (k : Nat) (l0_0 : List Int) (l0_1 : List (List Int)) : Option (Int) := (impl_isBook.f k l0_0 l0_1).bind fun t176 => (if t176 = true then ((impl_owes.f k l0_0 l0_1).bind fun t177 => (impl_AllDebts.l0 k 0 t177 (t177.length : Int) 0)) else (some (-1)))
theorem impl_AllDebts.mq {p : Prop} (h : p := by
 repeat' first
 | (with_reducible exact ih0 _ _ _ _)
 | (with_reducible exact impl_isBook.mono _ _ _)
 | (with_reducible exact impl_owes.mono _ _ _)
 | (with_reducible exact LeO.refl _)
 | (with_reducible exact LeO.none _)
 | (with_reducible refine LeO.ite ?_ ?_)
 | (with_reducible refine LeO.bind ?_ (fun _ => ?_))
 | exact ih0 _ _ _ _
 | exact impl_isBook.mono _ _ _
 | exact impl_owes.mono _ _ _
 | exact LeO.none _
 | refine LeO.ite ?_ ?_
 | refine LeO.bind ?_ (fun _ => ?_)) : p := h
theorem impl_AllDebts.mono_l : ∀ k, (∀ y0 y1 y2 y3, LeO (impl_AllDebts.l0 k y0 y1 y2 y3) (impl_AllDebts.l0 (k + 1) y0 y1 y2 y3))
 | 0 => fun _ _ _ _ r h => by simp [impl_AllDebts.l0] at h
 | k + 1 => by
  have ih0 := impl_AllDebts.mono_l k
  ·intro y0 y1 y2 y3
   unfold impl_AllDebts.l0
   exact impl_AllDebts.mq
theorem impl_AllDebts.mono : ∀ a0 a1 k, LeO (impl_AllDebts.f k a0 a1) (impl_AllDebts.f (k + 1) a0 a1) := by
 intro a0 a1 k
 have ih0 := impl_AllDebts.mono_l k
 unfold impl_AllDebts.f
 exact impl_AllDebts.mq
theorem qz9_ {p : Prop} (h : p := by repeat (first | (with_reducible first | exact HB.out | apply below_alloc | apply pw_below_drewN | apply below_drew1 | refine below_set ?_ GE175.out) | exact HB.out)) : p := h
set_option maxHeartbeats 8000000 in
set_option maxRecDepth 100000 in
theorem impl_AllDebts.calls (k : Nat) (A0_0 : Option Addr) (c0_0 : Nat) (l0_0 : List Int) (A0_1 : Option Addr) (c0_1 : Nat) (l0_1 : List (List Int)) (r : Int) (w : World) (hr0_0 : Kd.C (Kd.int .i64) w A0_0 l0_0.length l0_0) (hc0_0 : l0_0.length ≤ c0_0) (hr0_1 : Kd.C (Kd.slice 3 (Kd.int .i64)) w A0_1 l0_1.length l0_1) (hc0_1 : l0_1.length ≤ c0_1) (h : impl_AllDebts.f k l0_0 l0_1 = some r) :
  Calls Try.prog 25 #[.agg #[.slice A0_0 l0_0.length c0_0, .slice A0_1 l0_1.length c0_1]] w fun e w' => e = .returned (.int .i64 r) ∧ Below w.heap.size w w' := by
 have hu25 := Try.underlying25
 have HR0_0 := Aside0.mk hr0_0
 have HC0_0 := Aside0.mk hc0_0
 clear hr0_0 hc0_0
 have HR0_1 := Aside0.mk hr0_1
 have HC0_1 := Aside0.mk hc0_1
 clear hr0_1 hc0_1
 have HB := Aside0.mk (Below.refl w.heap.size w)
 have H : ((impl_isBook.f k l0_0 l0_1).bind fun t176 => (if t176 = true then ((impl_owes.f k l0_0 l0_1).bind fun t177 => (impl_AllDebts.l0 k 0 t177 (t177.length : Int) 0)) else (some (-1)))) = some r := h
 clear h
 obtain ⟨t176, A2, H⟩ := bind_ H
 by_cases c3 : t176 = true
 ·subst c3
  replace H := ifp_ H
  obtain ⟨t177, A4, H⟩ := bind_ H
  have H' := Aside0.mk H
  clear H
  go_enter Try.func25, Try.ntmps25
  go_wp2_with (first | ((with_reducible refine gate_dst (N := 1) rfl ?_); refine bx_ (N := 1) #[.slice A0_0 l0_0.length c0_0, .slice A0_1 l0_1.length c0_1] 25 ?_; intro gb175 hg w5 hbox hb; have BK175 := Aside0.mk (hbox); have GW175 := Aside0.mk ((g34_ : w.heap.size ≤ gb175)); have GE175 := Aside0.mk ((g34_ : w.heap.size ≤ gb175)); replace HB := Aside0.mk (below_step (qz9_) hb); clear hb hbox hg; obtain ⟨hcz6_0, hcz6_1, hfz6_0, hfz6_1⟩ := blk2_ BK175) | ((with_reducible refine gate_callee (f := 73) rfl ?_); refine goesL_ (some 7) rfl rfl Try.func73 k_ rfl #[.agg #[.slice A0_0 l0_0.length c0_0, .slice A0_1 l0_1.length c0_1]] rfl (g2_) ?_; (with_reducible refine (impl_isBook.calls k _ _ l0_0 _ _ l0_1 true _ ?side1 ?side2 ?side3 ?side4 A2.out).mono ?_); (case side1 => exact uf3_ HR0_0); (case side2 => exact HC0_0.out); (case side3 => exact uf3_ HR0_1); (case side4 => exact HC0_1.out); rintro e w7 ⟨rfl, hb⟩; refine ⟨_, rfl, ?_⟩; replace BK175 := bb_ BK175 hb; replace HB := Aside0.mk (below_step (qz9_) hb); (try clear hb); (try clear hk hi); obtain ⟨hcz8_0, hcz8_1, hfz8_0, hfz8_1⟩ := blk2_ BK175) | ((with_reducible refine gate_callee (f := 74) rfl ?_); refine goesL_ (some 10) rfl rfl Try.func74 k_ rfl #[.agg #[.slice A0_0 l0_0.length c0_0, .slice A0_1 l0_1.length c0_1]] rfl (g2_) ?_; (with_reducible refine (impl_owes.calls k _ _ l0_0 _ _ l0_1 t177 _ ?side1 ?side2 ?side3 ?side4 A4.out).mono ?_); (case side1 => exact uf3_ HR0_0); (case side2 => exact HC0_0.out); (case side3 => exact uf3_ HR0_1); (case side4 => exact HC0_1.out); rintro e w9 ⟨v178, rfl, ho0, hb⟩; refine ⟨_, rfl, ?_⟩; have HO179 := Aside0.mk (Kd.R_lower ho0 (below_size (qz9_))); replace BK175 := bb_ BK175 hb; replace HB := Aside0.mk (below_step (qz9_) hb); (try clear hb); (try clear hk hi); (try clear ho0); obtain ⟨Ao10, co10, eo10⟩ := Kd.R_slice HO179.out; subst eo10))
  go_loopg [3, 12] k (fun kq v3 v12 w' => ∃ (x3_1 : Int) (x12_1 : Int), v3 = .int .i64 x3_1 ∧ v12 = .int .i64 x12_1 ∧ Aside0 (impl_AllDebts.l0 kq x3_1 t177 (t177.length : Int) x12_1 = some r) ∧ Aside0 (kq ≤ k) ∧ Aside0 (Kd.R (Kd.int .i64) 3 w' w.heap.size (fun _ => True) (.slice Ao10 t177.length co10) t177) ∧ Aside0 (w'.heap[gb175]? = some (.cells #[(.slice A0_0 l0_0.length c0_0), (.slice A0_1 l0_1.length c0_1)] 25 (0, 0))) ∧ Aside0 (Below w.heap.size w w'))
  case atStart => exact ⟨(0), (0), (g3_), (g3_), H', ⟨Nat.le_refl _⟩, ⟨uf1_ HO179⟩, ⟨uf0_ BK175⟩, ⟨qz9_⟩⟩
  case round =>
   clear H'
   try clear c2
   try clear p2
   try clear c3
   try clear c7
   try clear hcz6_0
   try clear hcz6_1
   try clear hcz8_0
   try clear hcz8_1
   try clear hfz6_0
   try clear hfz6_1
   try clear hfz8_0
   try clear hfz8_1
   obtain ⟨x3_1, x12_1, rfl, rfl, HA, HK1, HO_10, BK175, HB⟩ := hrel
   cases gk with
   | zero => exact absurd HA.out (by simp [impl_AllDebts.l0])
   | succ k1 =>
    have H := HA.out
    clear HA
    simp only [impl_AllDebts.l0] at H
    by_cases c11 : x12_1 < (t177.length : Int)
    ·rw [if_pos c11] at H
     have c11b0 := decide_eq_true c11
     clear c11
     obtain ⟨c12, H⟩ := pos_ H
     have c12b0 := decide_eq_true c12
     clear c12
     obtain ⟨c13, H⟩ := pos_ H
     have c13b0 := decide_eq_true c13
     clear c13
     have H' := Aside0.mk H
     clear H
     have p180 : 0 ≤ (x12_1 : Int) := of_decide_eq_true (g0_)
     have q180 : x12_1 < (t177.length : Int) := of_decide_eq_true (g0_)
     obtain ⟨ad180, e180, hx180_0⟩ := Kd.at_int (Kd.R_reads' HO_10.out).2.2 x12_1 p180 q180
     cases e180
     replace p180 := eq_true p180
     replace q180 := eq_true q180
     go_wp2
     go_roundg k1
     case measure => have := HK1.out; omega
     case rel => exact ⟨(wrap64 (x3_1 + (rd t177 x12_1))), (wrap64 (x12_1 + 1)), (g3_), (g3_), H', ⟨g8_⟩, ⟨uf1_ HO_10⟩, ⟨uf0_ BK175⟩, ⟨qz9_⟩⟩
    ·rw [if_neg c11] at H
     have c11b0 := decide_eq_false c11
     clear c11
     obtain rfl := Option.some.inj H
     go_wp2
     go_ret
     exact ⟨g4_, qz9_⟩
 ·replace c3 := Bool.eq_false_iff.mpr c3
  subst c3
  replace H := ifn_ H
  obtain rfl := Option.some.inj H
  go_enter Try.func25, Try.ntmps25
  go_wp2_with (first | ((with_reducible refine gate_dst (N := 1) rfl ?_); refine bx_ (N := 1) #[.slice A0_0 l0_0.length c0_0, .slice A0_1 l0_1.length c0_1] 25 ?_; intro gb175 hg w14 hbox hb; have BK175 := Aside0.mk (hbox); have GW175 := Aside0.mk ((g34_ : w.heap.size ≤ gb175)); have GE175 := Aside0.mk ((g34_ : w.heap.size ≤ gb175)); replace HB := Aside0.mk (below_step (qz9_) hb); clear hb hbox hg; obtain ⟨hcz15_0, hcz15_1, hfz15_0, hfz15_1⟩ := blk2_ BK175) | ((with_reducible refine gate_callee (f := 73) rfl ?_); refine goesL_ (some 7) rfl rfl Try.func73 k_ rfl #[.agg #[.slice A0_0 l0_0.length c0_0, .slice A0_1 l0_1.length c0_1]] rfl (g2_) ?_; (with_reducible refine (impl_isBook.calls k _ _ l0_0 _ _ l0_1 false _ ?side1 ?side2 ?side3 ?side4 A2.out).mono ?_); (case side1 => exact uf3_ HR0_0); (case side2 => exact HC0_0.out); (case side3 => exact uf3_ HR0_1); (case side4 => exact HC0_1.out); rintro e w16 ⟨rfl, hb⟩; refine ⟨_, rfl, ?_⟩; replace BK175 := bb_ BK175 hb; replace HB := Aside0.mk (below_step (qz9_) hb); (try clear hb); (try clear hk hi)))
  go_ret
  exact ⟨g4_, qz9_⟩
def spec_l1In.f (a0 : Int) (a1 : Int) (a2 : Int) : Option (Bool) := if a0 ≥ a1 then (some (decide (a0 ≤ a2))) else (some false)
set_option maxHeartbeats 8000000 in
set_option maxRecDepth 100000 in
theorem spec_l1In.calls (a0 : Int) (a1 : Int) (a2 : Int) (r : Bool) (w : World) (h : spec_l1In.f a0 a1 a2 = some r) :
  Calls Try.prog 65 #[.int .i64 a0, .int .i64 a1, .int .i64 a2] w fun e w' => e = .returned (.bool r) ∧ Drawn0 w w' := by
 have H : (if a0 ≥ a1 then (some (decide (a0 ≤ a2))) else (some false)) = some r := h
 clear h
 by_cases c4 : a0 ≥ a1
 ·rw [if_pos c4] at H
  have c4b0 := decide_eq_true c4
  clear c4
  obtain rfl := Option.some.inj H
  go_enter Try.func65, Try.ntmps65
  go_wp2
  go_ret
  exact ⟨g3_, g5_⟩
 ·rw [if_neg c4] at H
  have c4b0 := decide_eq_false c4
  clear c4
  obtain rfl := Option.some.inj H
  go_enter Try.func65, Try.ntmps65
  go_wp2
  go_ret
  exact ⟨g3_, g5_⟩
mutual
def spec_BookOk.j0 : Nat → Bool → List Int → List (List Int) → Option (Bool)
 | 0, _, _, _ => none
 | k + 1, x18, x235000, x235001 => if x18 = true then (some false) else (spec_BookOk.l0 k 0 x235000 x235001)
def spec_BookOk.l0 : Nat → Int → List Int → List (List Int) → Option (Bool)
 | 0, _, _, _ => none
 | k + 1, x3, x235000, x235001 => if x3 < (x235000.length : Int) then (if 0 ≤ x3 then ((spec_l1In.f (rd x235000 x3) 0 20).bind fun t237 => (if t237 = true then (if x3 < (x235001.length : Int) then (if ((rd_L1 x235001 x3).length : Int) = (x235000.length : Int) then (if x3 < ((rd_L1 x235001 x3).length : Int) then (spec_BookOk.j2 k x3 ((rd (rd_L1 x235001 x3) x3) != 0) x235000 x235001) else (none)) else (spec_BookOk.j2 k x3 true x235000 x235001)) else (none)) else (spec_BookOk.j2 k x3 true x235000 x235001))) else (none)) else (some true)
def spec_BookOk.j2 : Nat → Int → Bool → List Int → List (List Int) → Option (Bool)
 | 0, _, _, _, _ => none
 | k + 1, x3, x55, x235000, x235001 => if x55 = true then (some false) else (spec_BookOk.l1 k x3 0 x235000 x235001)
def spec_BookOk.l1 : Nat → Int → Int → List Int → List (List Int) → Option (Bool)
 | 0, _, _, _, _ => none
 | k + 1, x3, x4, x235000, x235001 => if 0 ≤ x3 then (if x3 < (x235001.length : Int) then (if x4 < ((rd_L1 x235001 x3).length : Int) then (if 0 ≤ x4 then ((spec_l1In.f (rd (rd_L1 x235001 x3) x4) 0 9).bind fun t244 => (if t244 = true then (spec_BookOk.l1 k x3 (wrap64 (x4 + 1)) x235000 x235001) else (some false))) else (none)) else (spec_BookOk.l0 k (wrap64 (x3 + 1)) x235000 x235001)) else (none)) else (none)
end
def spec_BookOk.f (k : Nat) (l0_0 : List Int) (l0_1 : List (List Int)) : Option (Bool) := (spec_l1In.f (l0_0.length : Int) 1 4).bind fun t235 => (if t235 = true then (spec_BookOk.j0 k ((l0_1.length : Int) != (l0_0.length : Int)) l0_0 l0_1) else (spec_BookOk.j0 k true l0_0 l0_1))
theorem spec_BookOk.mq {p : Prop} (h : p := by
 repeat' first
 | (with_reducible exact ih0 _ _ _)
 | (with_reducible exact ih1 _ _ _)
 | (with_reducible exact ih2 _ _ _ _)
 | (with_reducible exact ih3 _ _ _ _)
 | (with_reducible exact LeO.refl _)
 | (with_reducible exact LeO.none _)
 | (with_reducible refine LeO.ite ?_ ?_)
 | (with_reducible refine LeO.bind ?_ (fun _ => ?_))
 | exact ih0 _ _ _
 | exact ih1 _ _ _
 | exact ih2 _ _ _ _
 | exact ih3 _ _ _ _
 | exact LeO.none _
 | refine LeO.ite ?_ ?_
 | refine LeO.bind ?_ (fun _ => ?_)) : p := h
theorem spec_BookOk.mono_l : ∀ k, (∀ y0 y1 y2, LeO (spec_BookOk.j0 k y0 y1 y2) (spec_BookOk.j0 (k + 1) y0 y1 y2)) ∧ (∀ y0 y1 y2, LeO (spec_BookOk.l0 k y0 y1 y2) (spec_BookOk.l0 (k + 1) y0 y1 y2)) ∧ (∀ y0 y1 y2 y3, LeO (spec_BookOk.j2 k y0 y1 y2 y3) (spec_BookOk.j2 (k + 1) y0 y1 y2 y3)) ∧ (∀ y0 y1 y2 y3, LeO (spec_BookOk.l1 k y0 y1 y2 y3) (spec_BookOk.l1 (k + 1) y0 y1 y2 y3))
 | 0 => ⟨fun _ _ _ r h => by simp [spec_BookOk.j0] at h, fun _ _ _ r h => by simp [spec_BookOk.l0] at h, fun _ _ _ _ r h => by simp [spec_BookOk.j2] at h, fun _ _ _ _ r h => by simp [spec_BookOk.l1] at h⟩
 | k + 1 => by
  obtain ⟨ih0, ih1, ih2, ih3⟩ := spec_BookOk.mono_l k
  refine ⟨?_, ?_, ?_, ?_⟩
  ·intro y0 y1 y2
   unfold spec_BookOk.j0
   exact spec_BookOk.mq
  ·intro y0 y1 y2
   unfold spec_BookOk.l0
   exact spec_BookOk.mq
  ·intro y0 y1 y2 y3
   unfold spec_BookOk.j2
   exact spec_BookOk.mq
  ·intro y0 y1 y2 y3
   unfold spec_BookOk.l1
   exact spec_BookOk.mq
theorem spec_BookOk.mono : ∀ a0 a1 k, LeO (spec_BookOk.f k a0 a1) (spec_BookOk.f (k + 1) a0 a1) := by
 intro a0 a1 k
 obtain ⟨ih0, ih1, ih2, ih3⟩ := spec_BookOk.mono_l k
 unfold spec_BookOk.f
 exact spec_BookOk.mq
def spec_BookOk.T6 : Bool × List (List Nat × List Nat) := (true, [([], []), ([0], [0]), ([], []), ([1, 2], [1, 2]), ([3], [3]), ([4], [4]), ([5], [5]), ([6, 5], [6]), ([7], [7]), ([8, 7], [7, 8]), ([7], [7]), ([9, 10, 7], [7, 9, 10]), ([11, 7], [7, 11]), ([12, 7], [7, 12]), ([7], [7]), ([14, 7], [7, 14]), ([15, 7], [7, 15]), ([13, 16, 7], [7, 13, 16]), ([7, 17], [7, 17]), ([18, 7], [18]), ([19], [19]), ([20, 19], [19, 20]), ([19], [19]), ([21, 22, 19], [19, 21, 22]), ([23, 19], [19, 23]), ([19], [19]), ([24, 25, 19], [19, 24, 25]), ([26, 19], [19, 26]), ([27, 19], [19, 27]), ([19, 28], [19, 28])])
def spec_BookOk.B6 : List Nat := [0, 1, 0, 7, 15, 31, 63, 127, 255, 511, 255, 2047, 4095, 8191, 255, 16639, 49407, 131071, 262143, 524287, 1048575, 2097151, 1048575, 8388607, 16777215, 1048575, 67108863, 134217727, 268435455, 536870911]
theorem spec_BookOk.tab6 : rtab .any (opsOf Try.f42 6) = spec_BookOk.T6 := by kernel_rfl
theorem spec_BookOk.bits6 : waitsOk spec_BookOk.T6.2 spec_BookOk.B6 = true := by kernel_rfl
theorem qz17_ {p : Prop} (h : p := by repeat (first | (with_reducible first | exact HB.out | apply below_alloc | apply pw_below_drewN | apply below_drew1 | refine below_set ?_ GE234.out) | exact HB.out)) : p := h
set_option maxHeartbeats 8000000 in
set_option maxRecDepth 100000 in
theorem spec_BookOk.calls (k : Nat) (A0_0 : Option Addr) (c0_0 : Nat) (l0_0 : List Int) (A0_1 : Option Addr) (c0_1 : Nat) (l0_1 : List (List Int)) (r : Bool) (w : World) (hr0_0 : Kd.C (Kd.int .i64) w A0_0 l0_0.length l0_0) (hc0_0 : l0_0.length ≤ c0_0) (hr0_1 : Kd.C (Kd.slice 3 (Kd.int .i64)) w A0_1 l0_1.length l0_1) (hc0_1 : l0_1.length ≤ c0_1) (h : spec_BookOk.f k l0_0 l0_1 = some r) :
  Calls Try.prog 42 #[.agg #[.slice A0_0 l0_0.length c0_0, .slice A0_1 l0_1.length c0_1]] w fun e w' => e = .returned (.bool r) ∧ Below w.heap.size w w' := by
 have hu25 := Try.underlying25
 have HR0_0 := Aside0.mk hr0_0
 have HC0_0 := Aside0.mk hc0_0
 clear hr0_0 hc0_0
 have HR0_1 := Aside0.mk hr0_1
 have HC0_1 := Aside0.mk hc0_1
 clear hr0_1 hc0_1
 have HB := Aside0.mk (Below.refl w.heap.size w)
 have H : ((spec_l1In.f (l0_0.length : Int) 1 4).bind fun t235 => (if t235 = true then (spec_BookOk.j0 k ((l0_1.length : Int) != (l0_0.length : Int)) l0_0 l0_1) else (spec_BookOk.j0 k true l0_0 l0_1))) = some r := h
 clear h
 have HC2 := Aside0.mk H
 clear H
 go_enter Try.func42, Try.ntmps42
 go_upto_region 1 with (first | ((with_reducible refine gate_dst (N := 1) rfl ?_); (try (refine gate_guard (by rfl) ?_; dsimp only)); refine bx_ (N := 1) #[.slice A0_0 l0_0.length c0_0, .slice A0_1 l0_1.length c0_1] 25 ?_; intro gb234 hg w3 hbox hb; have BK234 := Aside0.mk (hbox); have GW234 := Aside0.mk ((by rw [hg]; exact (below_size (qz17_)) : w.heap.size ≤ gb234)); have GE234 := Aside0.mk ((by rw [hg]; exact (below_size (qz17_)) : w.heap.size ≤ gb234)); replace HB := Aside0.mk (below_step (qz17_) hb); clear hb hbox hg))
 (try simp only [Act.put, List.setIfInBounds_toArray, List.set_cons_zero, List.set_cons_succ])
 go_cut [18] (fun v18 wc => ∃ (kq : Nat) (x18_1 : Bool), v18 = .bool x18_1 ∧ Aside0 (spec_BookOk.j0 kq x18_1 l0_0 l0_1 = some r) ∧ Aside0 (kq ≤ k) ∧ Aside0 (wc.heap[gb234]? = some (.cells #[(.slice A0_0 l0_0.length c0_0), (.slice A0_1 l0_1.length c0_1)] 25 (0, 0))) ∧ Aside0 (Below w.heap.size w wc))
 case first =>
  have H := HC2.out
  clear HC2
  obtain ⟨t235, A4, H⟩ := bind_ H
  by_cases c5 : t235 = true
  ·subst c5
   replace H := ifp_ H
   have H' := Aside0.mk H
   clear H
   obtain ⟨hcz6_0, hcz6_1, hfz6_0, hfz6_1⟩ := blk2_ BK234
   go_wp2_with (first | ((with_reducible refine gate_callee (f := 65) rfl ?_); refine goesL_ (some 8) rfl rfl Try.func65 k_ rfl #[.int .i64 (l0_0.length : Int), .int .i64 1, .int .i64 4] rfl (g2_) ?_; (with_reducible refine (spec_l1In.calls (l0_0.length : Int) 1 4 true _ A4.out).mono ?_); rintro e w' ⟨rfl, ⟨nd, rfl⟩⟩; refine ⟨_, rfl, ?_⟩))
   go_meet
   case rel => exact ⟨_, (((l0_1.length : Int) != (l0_0.length : Int))), (g3_), H', ⟨g15_⟩, ⟨uf0_ BK234⟩, ⟨qz17_⟩⟩
  ·replace c5 := Bool.eq_false_iff.mpr c5
   subst c5
   replace H := ifn_ H
   have H' := Aside0.mk H
   clear H
   obtain ⟨hcz7_0, hcz7_1, hfz7_0, hfz7_1⟩ := blk2_ BK234
   go_wp2_with (first | ((with_reducible refine gate_callee (f := 65) rfl ?_); refine goesL_ (some 8) rfl rfl Try.func65 k_ rfl #[.int .i64 (l0_0.length : Int), .int .i64 1, .int .i64 4] rfl (g2_) ?_; (with_reducible refine (spec_l1In.calls (l0_0.length : Int) 1 4 false _ A4.out).mono ?_); rintro e w' ⟨rfl, ⟨nd, rfl⟩⟩; refine ⟨_, rfl, ?_⟩))
   go_meet
   case rel => exact ⟨_, (true), (g3_), H', ⟨g15_⟩, ⟨uf0_ BK234⟩, ⟨qz17_⟩⟩
 case rest =>
  clear HC2
  try clear p2
  try clear c4
  try clear c5
  try clear c6
  try clear hcz6_0
  try clear hcz6_1
  try clear hcz7_0
  try clear hcz7_1
  try clear hfz6_0
  try clear hfz6_1
  try clear hfz7_0
  try clear hfz7_1
  obtain ⟨kq, x18_1, rfl, HA, HJ1, BK234, HB⟩ := hcut
  cases kq with
  | zero => exact absurd HA.out (by simp [spec_BookOk.j0])
  | succ kj1 =>
   have H := HA.out
   clear HA
   simp only [spec_BookOk.j0] at H
   by_cases c8 : x18_1 = true
   ·subst c8
    replace H := ifp_ H
    obtain rfl := Option.some.inj H
    go_wp2
    go_ret
    exact ⟨g4_, qz17_⟩
   ·replace c8 := Bool.eq_false_iff.mpr c8
    subst c8
    replace H := ifn_ H
    have H' := Aside0.mk H
    clear H
    go_wp2
    go_loopg [3] kj1 (fun kq v3 w' => ∃ (x3_2 : Int), v3 = .int .i64 x3_2 ∧ Aside0 (spec_BookOk.l0 kq x3_2 l0_0 l0_1 = some r) ∧ Aside0 (kq ≤ kj1) ∧ Aside0 (w'.heap[gb234]? = some (.cells #[(.slice A0_0 l0_0.length c0_0), (.slice A0_1 l0_1.length c0_1)] 25 (0, 0))) ∧ Aside0 (Below w.heap.size w w'))
    case atStart => exact ⟨(0), (g3_), H', ⟨Nat.le_refl _⟩, ⟨uf0_ BK234⟩, ⟨qz17_⟩⟩
    case round =>
     clear H'
     try clear p2
     try clear c4
     try clear c5
     try clear c6
     try clear c8
     try clear hcz6_0
     try clear hcz6_1
     try clear hcz7_0
     try clear hcz7_1
     try clear hfz6_0
     try clear hfz6_1
     try clear hfz7_0
     try clear hfz7_1
     try clear p2
     obtain ⟨x3_2, rfl, HA, HK2, BK234, HB⟩ := hrel
     cases gk with
     | zero => exact absurd HA.out (by simp [spec_BookOk.l0])
     | succ k2 =>
      have H := HA.out
      clear HA
      simp only [spec_BookOk.l0] at H
      by_cases c9 : x3_2 < (l0_0.length : Int)
      ·rw [if_pos c9] at H
       have c9b0 := decide_eq_true c9
       clear c9
       have HC10 := Aside0.mk H
       clear H
       obtain ⟨hcz11_0, hcz11_1, hfz11_0, hfz11_1⟩ := blk2_ BK234
       go_upto_region 6 with (fail)
       go_cut [55] (fun v55 wc => ∃ (kq : Nat) (x55_9 : Bool), v55 = .bool x55_9 ∧ Aside0 (spec_BookOk.j2 kq x3_2 x55_9 l0_0 l0_1 = some r) ∧ Aside0 (kq ≤ k2) ∧ Aside0 (wc.heap[gb234]? = some (.cells #[(.slice A0_0 l0_0.length c0_0), (.slice A0_1 l0_1.length c0_1)] 25 (0, 0))) ∧ Aside0 (Below w.heap.size w wc))
       case first =>
        have H := HC10.out
        clear HC10
        obtain ⟨c12, H⟩ := pos_ H
        have c12b0 := decide_eq_true c12
        clear c12
        (first | rw [c12b0] | (simp only [i64_w, i32_w]; rw [c12b0]) | skip)
        obtain ⟨t237, A13, H⟩ := bind_ H
        by_cases c14 : t237 = true
        ·subst c14
         replace H := ifp_ H
         obtain ⟨c15, H⟩ := pos_ H
         have c15b0 := decide_eq_true c15
         clear c15
         by_cases c16 : ((rd_L1 l0_1 x3_2).length : Int) = (l0_0.length : Int)
         ·rw [if_pos c16] at H
          have c16b0 : (((rd_L1 l0_1 x3_2).length : Int) == (l0_0.length : Int)) = true := beq_iff_eq.mpr c16
          have c16b1 : (((rd_L1 l0_1 x3_2).length : Int) != (l0_0.length : Int)) = false := bne_eq_false_iff_eq.mpr c16
          have c16b2 : ((rd_L1 l0_1 x3_2).length == l0_0.length) = true := by first | simpa using c16 | (simp at c16 ⊢; omega)
          clear c16
          obtain ⟨c17, H⟩ := pos_ H
          have c17b0 := decide_eq_true c17
          clear c17
          have H' := Aside0.mk H
          clear H
          try go_wp2
          replace BK234 := Aside0.mk (blk_drew BK234.out)
          replace HB := Aside0.mk (below_drew1 HB.out)
          have p236 : 0 ≤ (x3_2 : Int) := of_decide_eq_true (g0_)
          have q236 : x3_2 < (l0_0.length : Int) := of_decide_eq_true (g0_)
          obtain ⟨ad236, e236, hx236_0⟩ := Kd.at_int HR0_0.out x3_2 p236 q236
          have hw236_0 := hx236_0
          cases e236
          replace hx236_0 := cl_ HB hx236_0
          replace p236 := eq_true p236
          replace q236 := eq_true q236
          have p238 : 0 ≤ (x3_2 : Int) := of_decide_eq_true (g0_)
          have q238 : x3_2 < (l0_1.length : Int) := of_decide_eq_true (g0_)
          obtain ⟨ad238, A238_0, c238_0, e238, hx238_0, hl238_0, hi238_0⟩ := at_L1 HR0_1.out x3_2 p238 q238
          have hw238_0 := hx238_0
          cases e238
          replace hx238_0 := cl_ HB hx238_0
          have HR238_0 := Aside0.mk hi238_0
          have HC238_0 := Aside0.mk hl238_0
          clear hi238_0 hl238_0
          replace p238 := eq_true p238
          replace q238 := eq_true q238
          have p239 : 0 ≤ (x3_2 : Int) := of_decide_eq_true (g0_)
          have q239 : x3_2 < (l0_1.length : Int) := of_decide_eq_true (g0_)
          obtain ⟨ad239, A239_0, c239_0, e239, hx239_0, hl239_0, hi239_0⟩ := at_L1 HR0_1.out x3_2 p239 q239
          have hw239_0 := hx239_0
          obtain rfl : ad238 = ad239 := (by injection e239)
          replace hx239_0 := cl_ HB hx239_0
          have HR239_0 := Aside0.mk hi239_0
          have HC239_0 := Aside0.mk hl239_0
          clear hi239_0 hl239_0
          replace p239 := eq_true p239
          replace q239 := eq_true q239
          have ea_ := Option.some.inj (hx238_0.symm.trans hx239_0)
          injection ea_ with ea_ en_ ec_
          subst ea_
          subst ec_
          clear en_
          have p240 : 0 ≤ (x3_2 : Int) := of_decide_eq_true (g0_)
          have q240 : x3_2 < ((rd_L1 l0_1 x3_2).length : Int) := of_decide_eq_true (g0_)
          obtain ⟨ad240, e240, hx240_0⟩ := Kd.at_int HR239_0.out x3_2 p240 q240
          have hw240_0 := hx240_0
          cases e240
          replace hx240_0 := cl_ HB hx240_0
          replace p240 := eq_true p240
          replace q240 := eq_true q240
          refine start_ (n := 30) (S := fun w' => w'.cell? ⟨gb234, 0, none⟩ = some (.slice (some ad236) l0_0.length c0_0) ∧ w'.cell? ⟨gb234, 1, none⟩ = some (.slice (some ad238) l0_1.length c0_1) ∧ w'.cell? (ad236.add (x3_2).toNat) = some (.int .i64 (rd l0_0 x3_2)) ∧ w'.cell? (ad238.add (x3_2).toNat) = some (.slice (some ad240) (rd_L1 l0_1 x3_2).length c238_0) ∧ w'.cell? (ad238.add (x3_2).toNat) = some (.slice (some ad240) (rd_L1 l0_1 x3_2).length c238_0) ∧ w'.cell? (ad240.add (x3_2).toNat) = some (.int .i64 (rd (rd_L1 l0_1 x3_2) x3_2))) (ds := []) (tl_ 30 0) (g1_) rfl (g1_) ⟨(blk_cell BK234.out 0).trans rfl, (blk_cell BK234.out 1).trans rfl, ((cl_ HB hw236_0).trans rfl), ((cl_ HB hw238_0).trans rfl), ((cl_ HB hw239_0).trans rfl), ((cl_ HB hw240_0).trans rfl)⟩ (fun hHeld => ?_); refine with_tabW spec_BookOk.tab6 spec_BookOk.bits6 (fun HT_ HW_ => ?_)
          generalize wr.drew = w18 at BK234 HB HR238_0 HR239_0 hx236_0 hx238_0 hx239_0 hx240_0 hHeld ⊢
          refine pw_ 0 26 (tl_ 30 1) rfl rfl ?_
          refine pw_ 2 28 (tl_ 30 5) rfl rfl ?_
          refine tk3_ 1 27 (tl_ 30 7) rfl rfl hHeld ?_
          refine pw_ 3 29 (tl_ 30 15) rfl rfl ?_
          refine tk3_ 4 30 (tl_ 30 31) rfl rfl hHeld ?_
          refine one_ (i := 5) (N := some 31) (tl_ 30 63) rfl rfl (one_of HT_.out (g1_)) (by decide) (fun K hK => ?_)
          refine goes_ Try.func65 (g1_) rfl #[.int .i64 (rd l0_0 x3_2), .int .i64 0, .int .i64 20] (by rfl) rfl rfl (g2_) ?_
          with_reducible refine (spec_l1In.calls (rd l0_0 x3_2) 0 20 true _ A13.out).mono ?_
          rintro e w' ⟨rfl, ⟨nd, rfl⟩⟩
          refine ⟨_, rfl, ?_⟩
          refine hK.out _ _ ⟨(blk_cell BK234.out 0).trans rfl, (blk_cell BK234.out 1).trans rfl, ((cl_ HB hw236_0).trans rfl), ((cl_ HB hw238_0).trans rfl), ((cl_ HB hw239_0).trans rfl), ((cl_ HB hw240_0).trans rfl)⟩ (fun hHeld => ?_)
          clear hK K
          refine nm_ ?_
          refine pw_ 6 32 (tl_ 30 127) rfl rfl ?_
          refine pw_ 7 33 (tl_ 30 255) rfl rfl ?_
          refine pw_ 8 34 (tl_ 30 511) rfl rfl ?_
          refine pw_ 10 36 (tl_ 30 1535) rfl rfl ?_
          refine pw_ 14 40 (tl_ 30 17919) rfl rfl ?_
          refine tk3_ 9 35 (tl_ 30 18431) rfl rfl hHeld ?_
          refine pw_ 11 37 (tl_ 30 20479) rfl rfl ?_
          refine tk3_ 12 38 (tl_ 30 24575) rfl rfl hHeld ?_
          refine pw_ 13 39 (tl_ 30 32767) rfl rfl ?_
          refine tk3_ 15 41 (tl_ 30 65535) rfl rfl hHeld ?_
          refine pw_ 16 42 (tl_ 30 131071) rfl rfl ?_
          refine pw_ 17 43 (tl_ 30 262143) rfl rfl ?_
          refine pw_ 18 44 (tl_ 30 524287) rfl rfl ?_
          refine pw_ 19 45 (tl_ 30 1048575) rfl rfl ?_
          refine pw_ 20 46 (tl_ 30 2097151) rfl rfl ?_
          refine pw_ 22 48 (tl_ 30 6291455) rfl rfl ?_
          refine pw_ 25 51 (tl_ 30 39845887) rfl rfl ?_
          refine tk3_ 21 47 (tl_ 30 41943039) rfl rfl hHeld ?_
          refine pw_ 23 49 (tl_ 30 50331647) rfl rfl ?_
          refine tk3_ 24 50 (tl_ 30 67108863) rfl rfl hHeld ?_
          refine pw_ 26 52 (tl_ 30 134217727) rfl rfl ?_
          refine tk3_ 27 53 (tl_ 30 268435455) rfl rfl hHeld ?_
          refine pw_ 28 54 (tl_ 30 536870911) rfl rfl ?_
          refine pw_ 29 55 (tl_ 30 1073741823) rfl rfl ?_
          refine done_ (done_of HT_.out (g1_)) ?_
          try go_wp2
          go_meet
          case rel => exact ⟨_, (((rd (rd_L1 l0_1 x3_2) x3_2) != 0)), (g3_), H', ⟨g22_⟩, ⟨uf0_ BK234⟩, ⟨qz17_⟩⟩
         ·rw [if_neg c16] at H
          have c16b0 : (((rd_L1 l0_1 x3_2).length : Int) == (l0_0.length : Int)) = false := beq_eq_false_iff_ne.mpr c16
          have c16b1 : (((rd_L1 l0_1 x3_2).length : Int) != (l0_0.length : Int)) = true := bne_iff_ne.mpr c16
          have c16b2 : ((rd_L1 l0_1 x3_2).length == l0_0.length) = false := by first | simpa using c16 | (simp at c16 ⊢; omega)
          have H' := Aside0.mk H
          clear H
          try go_wp2
          replace BK234 := Aside0.mk (blk_drew BK234.out)
          replace HB := Aside0.mk (below_drew1 HB.out)
          have p236 : 0 ≤ (x3_2 : Int) := of_decide_eq_true (g0_)
          have q236 : x3_2 < (l0_0.length : Int) := of_decide_eq_true (g0_)
          obtain ⟨ad236, e236, hx236_0⟩ := Kd.at_int HR0_0.out x3_2 p236 q236
          have hw236_0 := hx236_0
          cases e236
          replace hx236_0 := cl_ HB hx236_0
          replace p236 := eq_true p236
          replace q236 := eq_true q236
          have p238 : 0 ≤ (x3_2 : Int) := of_decide_eq_true (g0_)
          have q238 : x3_2 < (l0_1.length : Int) := of_decide_eq_true (g0_)
          obtain ⟨ad238, A238_0, c238_0, e238, hx238_0, hl238_0, hi238_0⟩ := at_L1 HR0_1.out x3_2 p238 q238
          have hw238_0 := hx238_0
          cases e238
          replace hx238_0 := cl_ HB hx238_0
          have HR238_0 := Aside0.mk hi238_0
          have HC238_0 := Aside0.mk hl238_0
          clear hi238_0 hl238_0
          replace p238 := eq_true p238
          replace q238 := eq_true q238
          refine start_ (n := 30) (S := fun w' => w'.cell? ⟨gb234, 0, none⟩ = some (.slice (some ad236) l0_0.length c0_0) ∧ w'.cell? ⟨gb234, 1, none⟩ = some (.slice (some ad238) l0_1.length c0_1) ∧ w'.cell? (ad236.add (x3_2).toNat) = some (.int .i64 (rd l0_0 x3_2)) ∧ w'.cell? (ad238.add (x3_2).toNat) = some (.slice A238_0 (rd_L1 l0_1 x3_2).length c238_0)) (ds := []) (tl_ 30 0) (g1_) rfl (g1_) ⟨(blk_cell BK234.out 0).trans rfl, (blk_cell BK234.out 1).trans rfl, ((cl_ HB hw236_0).trans rfl), ((cl_ HB hw238_0).trans rfl)⟩ (fun hHeld => ?_); refine with_tabW spec_BookOk.tab6 spec_BookOk.bits6 (fun HT_ HW_ => ?_)
          generalize wr.drew = w19 at BK234 HB HR238_0 hx236_0 hx238_0 hHeld ⊢
          refine pw_ 0 26 (tl_ 30 1) rfl rfl ?_
          refine pw_ 2 28 (tl_ 30 5) rfl rfl ?_
          refine tk2_ 1 27 (tl_ 30 7) rfl rfl hHeld ?_
          refine pw_ 3 29 (tl_ 30 15) rfl rfl ?_
          refine tk2_ 4 30 (tl_ 30 31) rfl rfl hHeld ?_
          refine one_ (i := 5) (N := some 31) (tl_ 30 63) rfl rfl (one_of HT_.out (g1_)) (by decide) (fun K hK => ?_)
          refine goes_ Try.func65 (g1_) rfl #[.int .i64 (rd l0_0 x3_2), .int .i64 0, .int .i64 20] (by rfl) rfl rfl (g2_) ?_
          with_reducible refine (spec_l1In.calls (rd l0_0 x3_2) 0 20 true _ A13.out).mono ?_
          rintro e w' ⟨rfl, ⟨nd, rfl⟩⟩
          refine ⟨_, rfl, ?_⟩
          refine hK.out _ _ ⟨(blk_cell BK234.out 0).trans rfl, (blk_cell BK234.out 1).trans rfl, ((cl_ HB hw236_0).trans rfl), ((cl_ HB hw238_0).trans rfl)⟩ (fun hHeld => ?_)
          clear hK K
          refine nm_ ?_
          refine pw_ 6 32 (tl_ 30 127) rfl rfl ?_
          refine pw_ 7 33 (tl_ 30 255) rfl rfl ?_
          refine pw_ 8 34 (tl_ 30 511) rfl rfl ?_
          refine pw_ 10 36 (tl_ 30 1535) rfl rfl ?_
          refine pw_ 14 40 (tl_ 30 17919) rfl rfl ?_
          refine tk2_ 9 35 (tl_ 30 18431) rfl rfl hHeld ?_
          refine pw_ 11 37 (tl_ 30 20479) rfl rfl ?_
          refine tk2_ 12 38 (tl_ 30 24575) rfl rfl hHeld ?_
          refine pw_ 13 39 (tl_ 30 32767) rfl rfl ?_
          refine tk2_ 15 41 (tl_ 30 65535) rfl rfl hHeld ?_
          refine pw_ 16 42 (tl_ 30 131071) rfl rfl ?_
          refine pw_ 17 43 (tl_ 30 262143) rfl rfl ?_
          refine pw_ 18 44 (tl_ 30 524287) rfl rfl ?_
          refine pw_ 19 45 (tl_ 30 1048575) rfl rfl ?_
          refine pu_ 20 46 (tl_ 30 2097151) rfl rfl ?_
          refine pu_ 21 47 (tl_ 30 4194303) rfl rfl ?_
          refine pu_ 22 48 (tl_ 30 8388607) rfl rfl ?_
          refine pu_ 23 49 (tl_ 30 16777215) rfl rfl ?_
          refine pu_ 24 50 (tl_ 30 33554431) rfl rfl ?_
          refine pu_ 25 51 (tl_ 30 67108863) rfl rfl ?_
          refine pu_ 26 52 (tl_ 30 134217727) rfl rfl ?_
          refine pu_ 27 53 (tl_ 30 268435455) rfl rfl ?_
          refine pu_ 28 54 (tl_ 30 536870911) rfl rfl ?_
          refine pw_ 29 55 (tl_ 30 1073741823) rfl rfl ?_
          refine done_ (done_of HT_.out (g1_)) ?_
          try go_wp2
          go_meet
          case rel => exact ⟨_, (true), (g3_), H', ⟨g22_⟩, ⟨uf0_ BK234⟩, ⟨qz17_⟩⟩
        ·replace c14 := Bool.eq_false_iff.mpr c14
         subst c14
         replace H := ifn_ H
         have H' := Aside0.mk H
         clear H
         try go_wp2
         replace BK234 := Aside0.mk (blk_drew BK234.out)
         replace HB := Aside0.mk (below_drew1 HB.out)
         have p236 : 0 ≤ (x3_2 : Int) := of_decide_eq_true (g0_)
         have q236 : x3_2 < (l0_0.length : Int) := of_decide_eq_true (g0_)
         obtain ⟨ad236, e236, hx236_0⟩ := Kd.at_int HR0_0.out x3_2 p236 q236
         have hw236_0 := hx236_0
         cases e236
         replace hx236_0 := cl_ HB hx236_0
         replace p236 := eq_true p236
         replace q236 := eq_true q236
         refine start_ (n := 30) (S := fun w' => w'.cell? ⟨gb234, 0, none⟩ = some (.slice (some ad236) l0_0.length c0_0) ∧ w'.cell? ⟨gb234, 1, none⟩ = some (.slice A0_1 l0_1.length c0_1) ∧ w'.cell? (ad236.add (x3_2).toNat) = some (.int .i64 (rd l0_0 x3_2))) (ds := []) (tl_ 30 0) (g1_) rfl (g1_) ⟨(blk_cell BK234.out 0).trans rfl, (blk_cell BK234.out 1).trans rfl, ((cl_ HB hw236_0).trans rfl)⟩ (fun hHeld => ?_); refine with_tabW spec_BookOk.tab6 spec_BookOk.bits6 (fun HT_ HW_ => ?_)
         generalize wr.drew = w20 at BK234 HB hx236_0 hHeld ⊢
         refine pw_ 0 26 (tl_ 30 1) rfl rfl ?_
         refine pw_ 2 28 (tl_ 30 5) rfl rfl ?_
         refine tk4_ 1 27 (tl_ 30 7) rfl rfl hHeld ?_
         refine pw_ 3 29 (tl_ 30 15) rfl rfl ?_
         refine tk4_ 4 30 (tl_ 30 31) rfl rfl hHeld ?_
         refine one_ (i := 5) (N := some 31) (tl_ 30 63) rfl rfl (one_of HT_.out (g1_)) (by decide) (fun K hK => ?_)
         refine goes_ Try.func65 (g1_) rfl #[.int .i64 (rd l0_0 x3_2), .int .i64 0, .int .i64 20] (by rfl) rfl rfl (g2_) ?_
         with_reducible refine (spec_l1In.calls (rd l0_0 x3_2) 0 20 false _ A13.out).mono ?_
         rintro e w' ⟨rfl, ⟨nd, rfl⟩⟩
         refine ⟨_, rfl, ?_⟩
         refine hK.out _ _ ⟨(blk_cell BK234.out 0).trans rfl, (blk_cell BK234.out 1).trans rfl, ((cl_ HB hw236_0).trans rfl)⟩ (fun hHeld => ?_)
         clear hK K
         refine nm_ ?_
         refine pw_ 6 32 (tl_ 30 127) rfl rfl ?_
         refine pw_ 7 33 (tl_ 30 255) rfl rfl ?_
         refine pu_ 8 34 (tl_ 30 511) rfl rfl ?_
         refine pu_ 9 35 (tl_ 30 1023) rfl rfl ?_
         refine pu_ 10 36 (tl_ 30 2047) rfl rfl ?_
         refine pu_ 11 37 (tl_ 30 4095) rfl rfl ?_
         refine pu_ 12 38 (tl_ 30 8191) rfl rfl ?_
         refine pu_ 13 39 (tl_ 30 16383) rfl rfl ?_
         refine pu_ 14 40 (tl_ 30 32767) rfl rfl ?_
         refine pu_ 15 41 (tl_ 30 65535) rfl rfl ?_
         refine pu_ 16 42 (tl_ 30 131071) rfl rfl ?_
         refine pu_ 17 43 (tl_ 30 262143) rfl rfl ?_
         refine pw_ 18 44 (tl_ 30 524287) rfl rfl ?_
         refine pw_ 19 45 (tl_ 30 1048575) rfl rfl ?_
         refine pu_ 20 46 (tl_ 30 2097151) rfl rfl ?_
         refine pu_ 21 47 (tl_ 30 4194303) rfl rfl ?_
         refine pu_ 22 48 (tl_ 30 8388607) rfl rfl ?_
         refine pu_ 23 49 (tl_ 30 16777215) rfl rfl ?_
         refine pu_ 24 50 (tl_ 30 33554431) rfl rfl ?_
         refine pu_ 25 51 (tl_ 30 67108863) rfl rfl ?_
         refine pu_ 26 52 (tl_ 30 134217727) rfl rfl ?_
         refine pu_ 27 53 (tl_ 30 268435455) rfl rfl ?_
         refine pu_ 28 54 (tl_ 30 536870911) rfl rfl ?_
         refine pw_ 29 55 (tl_ 30 1073741823) rfl rfl ?_
         refine done_ (done_of HT_.out (g1_)) ?_
         try go_wp2
         go_meet
         case rel => exact ⟨_, (true), (g3_), H', ⟨g22_⟩, ⟨uf0_ BK234⟩, ⟨qz17_⟩⟩
       case rest =>
        clear HC10
        try clear c1
        try clear c2
        try clear p2
        try clear q2
        try clear hx2
        try clear c6
        try clear c12
        try clear c14
        try clear c15
        try clear c16
        try clear c16b0
        try clear c16b1
        try clear c16b2
        try clear c17
        try clear hx236_0
        try clear hx238_0
        try clear p236
        try clear p238
        try clear q236
        try clear q238
        obtain ⟨kq, x55_9, rfl, HA, HJ9, BK234, HB⟩ := hcut
        cases kq with
        | zero => exact absurd HA.out (by simp [spec_BookOk.j2])
        | succ kj9 =>
         have H := HA.out
         clear HA
         simp only [spec_BookOk.j2] at H
         by_cases c21 : x55_9 = true
         ·subst c21
          replace H := ifp_ H
          obtain rfl := Option.some.inj H
          go_wp2
          go_ret
          exact ⟨g4_, qz17_⟩
         ·replace c21 := Bool.eq_false_iff.mpr c21
          subst c21
          replace H := ifn_ H
          have H' := Aside0.mk H
          clear H
          go_wp2
          go_loopg [4] kj9 (fun kq v4 w' => ∃ (x4_4 : Int), v4 = .int .i64 x4_4 ∧ Aside0 (spec_BookOk.l1 kq x3_2 x4_4 l0_0 l0_1 = some r) ∧ Aside0 (kq ≤ kj9) ∧ Aside0 (w'.heap[gb234]? = some (.cells #[(.slice A0_0 l0_0.length c0_0), (.slice A0_1 l0_1.length c0_1)] 25 (0, 0))) ∧ Aside0 (Below w.heap.size w w'))
          case atStart => exact ⟨(0), (g3_), H', ⟨Nat.le_refl _⟩, ⟨uf0_ BK234⟩, ⟨qz17_⟩⟩
          case round =>
           clear H'
           try clear c1
           try clear c2
           try clear p2
           try clear q2
           try clear hx2
           try clear c6
           try clear c12
           try clear c14
           try clear c15
           try clear c16
           try clear c16b0
           try clear c16b1
           try clear c16b2
           try clear c17
           try clear c21
           try clear hx236_0
           try clear hx238_0
           try clear p2
           try clear p236
           try clear p238
           try clear q2
           try clear q236
           try clear q238
           obtain ⟨x4_4, rfl, HA, HK4, BK234, HB⟩ := hrel
           cases gk with
           | zero => exact absurd HA.out (by simp [spec_BookOk.l1])
           | succ k4 =>
            have H := HA.out
            clear HA
            simp only [spec_BookOk.l1] at H
            obtain ⟨c22, H⟩ := pos_ H
            have c22b0 := decide_eq_true c22
            clear c22
            obtain ⟨c23, H⟩ := pos_ H
            have c23b0 := decide_eq_true c23
            clear c23
            by_cases c24 : x4_4 < ((rd_L1 l0_1 x3_2).length : Int)
            ·rw [if_pos c24] at H
             have c24b0 := decide_eq_true c24
             clear c24
             obtain ⟨c25, H⟩ := pos_ H
             have c25b0 := decide_eq_true c25
             clear c25
             obtain ⟨t244, A26, H⟩ := bind_ H
             by_cases c27 : t244 = true
             ·subst c27
              replace H := ifp_ H
              have H' := Aside0.mk H
              clear H
              obtain ⟨hcz28_0, hcz28_1, hfz28_0, hfz28_1⟩ := blk2_ BK234
              have p241 : 0 ≤ (x3_2 : Int) := of_decide_eq_true (g0_)
              have q241 : x3_2 < (l0_1.length : Int) := of_decide_eq_true (g0_)
              obtain ⟨ad241, A241_0, c241_0, e241, hx241_0, hl241_0, hi241_0⟩ := at_L1 HR0_1.out x3_2 p241 q241
              cases e241
              replace hx241_0 := cl_ HB hx241_0
              have HR241_0 := Aside0.mk hi241_0
              have HC241_0 := Aside0.mk hl241_0
              clear hi241_0 hl241_0
              replace p241 := eq_true p241
              replace q241 := eq_true q241
              have p242 : 0 ≤ (x3_2 : Int) := of_decide_eq_true (g0_)
              have q242 : x3_2 < (l0_1.length : Int) := of_decide_eq_true (g0_)
              obtain ⟨ad242, A242_0, c242_0, e242, hx242_0, hl242_0, hi242_0⟩ := at_L1 HR0_1.out x3_2 p242 q242
              obtain rfl : ad241 = ad242 := (by injection e242)
              replace hx242_0 := cl_ HB hx242_0
              have HR242_0 := Aside0.mk hi242_0
              have HC242_0 := Aside0.mk hl242_0
              clear hi242_0 hl242_0
              replace p242 := eq_true p242
              replace q242 := eq_true q242
              have ea_ := Option.some.inj (hx241_0.symm.trans hx242_0)
              injection ea_ with ea_ en_ ec_
              subst ea_
              subst ec_
              clear en_
              have p243 : 0 ≤ (x4_4 : Int) := of_decide_eq_true (g0_)
              have q243 : x4_4 < ((rd_L1 l0_1 x3_2).length : Int) := of_decide_eq_true (g0_)
              obtain ⟨ad243, e243, hx243_0⟩ := Kd.at_int HR242_0.out x4_4 p243 q243
              cases e243
              replace hx243_0 := cl_ HB hx243_0
              replace p243 := eq_true p243
              replace q243 := eq_true q243
              go_wp2_with (first | ((with_reducible refine gate_callee (f := 65) rfl ?_); refine goesL_ (some 74) rfl rfl Try.func65 k_ rfl #[.int .i64 (rd (rd_L1 l0_1 x3_2) x4_4), .int .i64 0, .int .i64 9] rfl (g2_) ?_; (with_reducible refine (spec_l1In.calls (rd (rd_L1 l0_1 x3_2) x4_4) 0 9 true _ A26.out).mono ?_); rintro e w' ⟨rfl, ⟨nd, rfl⟩⟩; refine ⟨_, rfl, ?_⟩))
              go_roundg k4
              case measure => have := HJ1.out; have := HK2.out; have := HJ9.out; have := HK4.out; omega
              case rel => exact ⟨(wrap64 (x4_4 + 1)), (g3_), H', ⟨by have := HJ1.out; have := HK2.out; have := HJ9.out; have := HK4.out; omega⟩, ⟨uf0_ BK234⟩, ⟨qz17_⟩⟩
             ·replace c27 := Bool.eq_false_iff.mpr c27
              subst c27
              replace H := ifn_ H
              obtain rfl := Option.some.inj H
              obtain ⟨hcz29_0, hcz29_1, hfz29_0, hfz29_1⟩ := blk2_ BK234
              have p241 : 0 ≤ (x3_2 : Int) := of_decide_eq_true (g0_)
              have q241 : x3_2 < (l0_1.length : Int) := of_decide_eq_true (g0_)
              obtain ⟨ad241, A241_0, c241_0, e241, hx241_0, hl241_0, hi241_0⟩ := at_L1 HR0_1.out x3_2 p241 q241
              cases e241
              replace hx241_0 := cl_ HB hx241_0
              have HR241_0 := Aside0.mk hi241_0
              have HC241_0 := Aside0.mk hl241_0
              clear hi241_0 hl241_0
              replace p241 := eq_true p241
              replace q241 := eq_true q241
              have p242 : 0 ≤ (x3_2 : Int) := of_decide_eq_true (g0_)
              have q242 : x3_2 < (l0_1.length : Int) := of_decide_eq_true (g0_)
              obtain ⟨ad242, A242_0, c242_0, e242, hx242_0, hl242_0, hi242_0⟩ := at_L1 HR0_1.out x3_2 p242 q242
              obtain rfl : ad241 = ad242 := (by injection e242)
              replace hx242_0 := cl_ HB hx242_0
              have HR242_0 := Aside0.mk hi242_0
              have HC242_0 := Aside0.mk hl242_0
              clear hi242_0 hl242_0
              replace p242 := eq_true p242
              replace q242 := eq_true q242
              have ea_ := Option.some.inj (hx241_0.symm.trans hx242_0)
              injection ea_ with ea_ en_ ec_
              subst ea_
              subst ec_
              clear en_
              have p243 : 0 ≤ (x4_4 : Int) := of_decide_eq_true (g0_)
              have q243 : x4_4 < ((rd_L1 l0_1 x3_2).length : Int) := of_decide_eq_true (g0_)
              obtain ⟨ad243, e243, hx243_0⟩ := Kd.at_int HR242_0.out x4_4 p243 q243
              cases e243
              replace hx243_0 := cl_ HB hx243_0
              replace p243 := eq_true p243
              replace q243 := eq_true q243
              go_wp2_with (first | ((with_reducible refine gate_callee (f := 65) rfl ?_); refine goesL_ (some 74) rfl rfl Try.func65 k_ rfl #[.int .i64 (rd (rd_L1 l0_1 x3_2) x4_4), .int .i64 0, .int .i64 9] rfl (g2_) ?_; (with_reducible refine (spec_l1In.calls (rd (rd_L1 l0_1 x3_2) x4_4) 0 9 false _ A26.out).mono ?_); rintro e w' ⟨rfl, ⟨nd, rfl⟩⟩; refine ⟨_, rfl, ?_⟩))
              go_ret
              exact ⟨g4_, qz17_⟩
            ·rw [if_neg c24] at H
             have c24b0 := decide_eq_false c24
             clear c24
             have H' := Aside0.mk H
             clear H
             obtain ⟨hcz30_0, hcz30_1, hfz30_0, hfz30_1⟩ := blk2_ BK234
             have p241 : 0 ≤ (x3_2 : Int) := of_decide_eq_true (g0_)
             have q241 : x3_2 < (l0_1.length : Int) := of_decide_eq_true (g0_)
             obtain ⟨ad241, A241_0, c241_0, e241, hx241_0, hl241_0, hi241_0⟩ := at_L1 HR0_1.out x3_2 p241 q241
             cases e241
             replace hx241_0 := cl_ HB hx241_0
             have HR241_0 := Aside0.mk hi241_0
             have HC241_0 := Aside0.mk hl241_0
             clear hi241_0 hl241_0
             replace p241 := eq_true p241
             replace q241 := eq_true q241
             go_wp2
             go_roundg k4
             case measure => have := HJ1.out; have := HK2.out; have := HJ9.out; have := HK4.out; omega
             case rel => exact ⟨(wrap64 (x3_2 + 1)), (g3_), H', ⟨by have := HJ1.out; have := HK2.out; have := HJ9.out; have := HK4.out; omega⟩, ⟨uf0_ BK234⟩, ⟨qz17_⟩⟩
      ·rw [if_neg c9] at H
       have c9b0 := decide_eq_false c9
       clear c9
       obtain rfl := Option.some.inj H
       obtain ⟨hcz31_0, hcz31_1, hfz31_0, hfz31_1⟩ := blk2_ BK234
       go_wp2
       go_ret
       exact ⟨g4_, qz17_⟩
def IsS112 (w0 W : World) (g : Nat) (f0 : List Int) (f1 : Int) : Prop := ∃ A0 c0, W.heap[g]? = some (.cells #[.slice A0 f0.length c0, .int .i64 f1] 112 (0, 0)) ∧ w0.heap.size ≤ g ∧ Kd.C (Kd.int .u8) w0 A0 f0.length f0
theorem IsS112.grown {w0 W : World} {g : Nat} {f0 : List Int} {f1 : Int} {W1 : World} {row : Option Nat} (h : IsS112 w0 W g f0 f1) (hw : W.grownBy W1 row) (hne : some g ≠ row) : IsS112 w0 W1 g f0 f1 := by
 obtain ⟨A0, c0, hb, hg, hr0⟩ := h
 exact ⟨A0, c0, blk_grown hb hw hne, hg, hr0⟩
theorem IsS112.own_neN {w0 W : World} {g : Nat} {f0 : List Int} {f1 : Int} {α : Type} {d : Kd α} {e : Nat} {base : Nat} {ok : Nat → Prop} {v : Value} {xs : List α} (h : IsS112 w0 W g f0 f1) (ho : Kd.N d e W base ok v xs) (ht : e ≠ 112) : some g ≠ v.ownBlock := by
 obtain ⟨A0, c0, hb, hg, hr0⟩ := h
 exact Kd.N_ne ho hb ht
theorem IsS112.fresh {w0 W : World} {g : Nat} {f0 : List Int} {f1 : Int} (h : IsS112 w0 W g f0 f1) : ∀ k, W.heap.size ≤ k → k ≠ g := by
 obtain ⟨A0, c0, hb, hg, hr0⟩ := h
 exact Kd.freshB hb
theorem IsS112.kept {w0 W : World} {g : Nat} {f0 : List Int} {f1 : Int} {W1 : World} {S : Nat → Prop} (h : IsS112 w0 W g f0 f1) (hk : Kept W W1 S) (hne : ¬ S g) : IsS112 w0 W1 g f0 f1 := by
 obtain ⟨A0, c0, hb, hg, hr0⟩ := h
 exact ⟨A0, c0, blk_kept hb hk hne, hg, hr0⟩
theorem IsS112.below {w0 W : World} {g : Nat} {f0 : List Int} {f1 : Int} {W1 : World} (h : IsS112 w0 W g f0 f1) (hw : Below W.heap.size W W1) : IsS112 w0 W1 g f0 f1 := h.grown (grown_of_below hw none) (by simp)
theorem IsS112.alloc {w0 W : World} {g : Nat} {f0 : List Int} {f1 : Int} (h : IsS112 w0 W g f0 f1) (o : Obj) : IsS112 w0 (W.alloc o) g f0 f1 := h.below (below_alloc (Below.refl _ _) o)
theorem IsS112.drewN {w0 W : World} {g : Nat} {f0 : List Int} {f1 : Int} (h : IsS112 w0 W g f0 f1) (m : Nat) : IsS112 w0 (W.drewN m) g f0 f1 := h
theorem IsS112.drew {w0 W : World} {g : Nat} {f0 : List Int} {f1 : Int} (h : IsS112 w0 W g f0 f1) : IsS112 w0 W.drew g f0 f1 := h
theorem IsS112.at_ {w0 W : World} {g : Nat} {f0 : List Int} {f1 : Int} {w' : World} {m : Nat} (hq : W.drewN m = w') (h : IsS112 w0 W g f0 f1) : IsS112 w0 w' g f0 f1 := by subst hq; exact IsS112.drewN h m
theorem IsS112.apart {w0 W : World} {g : Nat} {f0 : List Int} {f1 : Int} {α : Type} {d : Kd α} {e : Nat} {base : Nat} {ok : Nat → Prop} {v : Value} {xs : List α} (h : IsS112 w0 W g f0 f1) (ho : d.R e W base ok v xs) (ht : ∀ q, q ∈ e :: d.E → q ≠ 112) : d.R e W base (fun k => ok k ∧ k ≠ g) v xs := by
 obtain ⟨A0, c0, hb, hg, hr0⟩ := h
 exact Kd.R_types ho hb ht
theorem IsS112.own_ne {w0 W : World} {g : Nat} {f0 : List Int} {f1 : Int} {α : Type} {d : Kd α} {e : Nat} {base : Nat} {ok : Nat → Prop} {v : Value} {xs : List α} (h : IsS112 w0 W g f0 f1) (ho : d.R e W base ok v xs) (ht : e ≠ 112) : some g ≠ v.ownBlock := by
 obtain ⟨A0, c0, hb, hg, hr0⟩ := h
 exact Kd.R_ne ho hb ht
theorem IsS112.apartQ {w0 W : World} {g : Nat} {f0 : List Int} {f1 : Int} {α : Type} {d : Kd α} {e : Nat} {base : Nat} {ok : Nat → Prop} {v : Value} {xs : List α} (h : IsS112 w0 W g f0 f1) (ho : d.Q e W base ok v xs) (ht : ∀ q, q ∈ e :: d.E → q ≠ 112) : d.Q e W base (fun k => ok k ∧ k ≠ g) v xs := by
 obtain ⟨A0, c0, hb, hg, hr0⟩ := h
 exact Kd.Q_types ho hb ht
theorem IsS112.own_neQ {w0 W : World} {g : Nat} {f0 : List Int} {f1 : Int} {α : Type} {d : Kd α} {e : Nat} {base : Nat} {ok : Nat → Prop} {v : Value} {xs : List α} (h : IsS112 w0 W g f0 f1) (ho : d.Q e W base ok v xs) (ht : e ≠ 112) : some g ≠ v.ownBlock := by
 obtain ⟨A0, c0, hb, hg, hr0⟩ := h
 exact Kd.Q_ne ho hb ht
theorem IsS112.apartS {w0 W : World} {g : Nat} {f0 : List Int} {f1 : Int} {α : Type} {d : Kd α} {e : Nat} {base : Nat} {ok : Nat → Prop} {v : Value} {xs : List α} (h : IsS112 w0 W g f0 f1) (ho : d.S e W base ok v xs) (ht : ∀ q, q ∈ e :: d.E → q ≠ 112) : d.S e W base (fun k => ok k ∧ k ≠ g) v xs := by
 obtain ⟨A0, c0, hb, hg, hr0⟩ := h
 exact Kd.S_types ho hb ht
theorem IsS112.own_neS {w0 W : World} {g : Nat} {f0 : List Int} {f1 : Int} {α : Type} {d : Kd α} {e : Nat} {base : Nat} {ok : Nat → Prop} {v : Value} {xs : List α} (h : IsS112 w0 W g f0 f1) (ho : d.S e W base ok v xs) (ht : e ≠ 112) : some g ≠ v.ownBlock := by
 obtain ⟨A0, c0, hb, hg, hr0⟩ := h
 exact Kd.S_ne ho hb ht
theorem IsS112.lt {w0 W : World} {g : Nat} {f0 : List Int} {f1 : Int} (h : IsS112 w0 W g f0 f1) : g < W.heap.size := by
 obtain ⟨A0, c0, hb, hg, hr0⟩ := h
 exact blk_lt hb
theorem IsS112.ge {w0 W : World} {g : Nat} {f0 : List Int} {f1 : Int} (h : IsS112 w0 W g f0 f1) : w0.heap.size ≤ g := by
 obtain ⟨A0, c0, hb, hg, hr0⟩ := h
 exact hg
theorem IsS112.ne_blk {w0 W : World} {g : Nat} {f0 : List Int} {f1 : Int} {a : Nat} {cs : Array Value} {t : TypeId} {fr : Nat × Nat} (h : IsS112 w0 W g f0 f1) (hb2 : W.heap[a]? = some (.cells cs t fr)) (ht : t ≠ 112) : g ≠ a := by
 obtain ⟨A0, c0, hb, hg, hr0⟩ := h
 rintro rfl
 rw [hb] at hb2
 injection hb2 with hb2
 injection hb2 with _ ht2
 exact ht ht2.symm
theorem IsS112.far {w0 W : World} {g : Nat} {f0 : List Int} {f1 : Int} {p : Addr} (h : IsS112 w0 W g f0 f1) (hne : g ≠ p.block) (u : Value) : IsS112 w0 (W.setCell p u) g f0 f1 := by
 obtain ⟨A0, c0, hb, hg, hr0⟩ := h
 exact ⟨A0, c0, blk_far hb hne u, hg, hr0⟩
theorem cellS112_0 {W : World} {g : Nat} {A0 : Option Addr} {c0 : Nat} {f0 : List Int} {f1 : Int} (h : W.heap[g]? = some (.cells #[.slice A0 f0.length c0, .int .i64 f1] 112 (0, 0))) : W.cell? ⟨g, 0, none⟩ = some (.slice A0 f0.length c0) := (blk_cell h 0).trans rfl
theorem cellS112_1 {W : World} {g : Nat} {A0 : Option Addr} {c0 : Nat} {f0 : List Int} {f1 : Int} (h : W.heap[g]? = some (.cells #[.slice A0 f0.length c0, .int .i64 f1] 112 (0, 0))) : W.cell? ⟨g, 1, none⟩ = some (.int .i64 f1) := (blk_cell h 1).trans rfl
theorem IsS112.set_1 {w0 W : World} {g : Nat} {f0 : List Int} {f1 : Int} (h : IsS112 w0 W g f0 f1) (x : Int) : IsS112 w0 (W.setCell ⟨g, 1, none⟩ (.int .i64 x)) g f0 x := by
 obtain ⟨A0, c0, hb, hg, hr0⟩ := h
 exact ⟨A0, c0, by simpa using blk_set hb 1 (.int .i64 x), hg, hr0⟩
theorem IsS112.new (w0 W : World) (A0 : Option Addr) (c0 : Nat) (f0 : List Int) (f1 : Int) (hB : Below w0.heap.size w0 W) (hr0 : Kd.C (Kd.int .u8) w0 A0 f0.length f0) : IsS112 w0 (W.alloc (.cells #[.slice A0 f0.length c0, .int .i64 f1] 112)) W.heap.size f0 f1 := ⟨A0, c0, by simpa using heap_alloc_new W _, hB.size, hr0⟩
def spec_l20Open.f (l0 : List Int) : Option (List Int × Int) := if (l0.length : Int) > 2000 then (if 2000 ≤ (l0.length : Int) then (some (l0.take 2000, 0)) else (none)) else (some (l0, 0))
theorem qz18_ {p : Prop} (h : p := by repeat (first | (with_reducible first | exact HB.out | apply below_alloc | apply pw_below_drewN | apply below_drew1 | refine below_set ?_ GE125.out | refine below_set ?_ GE126.out) | exact HB.out)) : p := h
theorem qz8_ {p : Prop} (h : p := by repeat (first | (with_reducible first | exact HBW.out | apply below_alloc | apply pw_below_drewN | apply below_drew1 | refine below_set ?_ GW125.out | refine below_set ?_ GW126.out) | exact HBW.out)) : p := h
set_option maxHeartbeats 8000000 in
set_option maxRecDepth 100000 in
theorem spec_l20Open.calls (A0 : Option Addr) (c0 : Nat) (l0 : List Int) (r1 : List Int) (r2 : Int) (w0 w : World) (hB : Below w0.heap.size w0 w) (hr0 : Kd.C (Kd.int .u8) w0 A0 l0.length l0) (hc0 : l0.length ≤ c0) (h : spec_l20Open.f l0 = some (r1, r2)) :
  Calls Try.prog 69 #[.slice A0 l0.length c0] w fun e w' => ∃ g_ : Nat, e = .returned (.pointer (some ⟨g_, 0, none⟩)) ∧ IsS112 w0 w' g_ r1 r2 ∧ Below w0.heap.size w0 w' ∧ Below w.heap.size w w' := by
 have hu112 := Try.underlying112
 have HR0 := Aside0.mk hr0
 have HC0 := Aside0.mk hc0
 clear hr0 hc0
 have HBW := Aside0.mk (Below.refl w.heap.size w)
 have HW0 := Aside0.mk hB.size
 have HB := Aside0.mk hB
 clear hB
 have H : (if (l0.length : Int) > 2000 then (if 2000 ≤ (l0.length : Int) then (some (l0.take 2000, 0)) else (none)) else (some (l0, 0))) = some (r1, r2) := h
 clear h
 by_cases c2 : (l0.length : Int) > 2000
 ·rw [if_pos c2] at H
  have c2b0 := decide_eq_true c2
  have c2b1 : decide (2000 < l0.length) = true := decide_eq_true (by omega)
  clear c2
  obtain ⟨c3, H⟩ := pos_ H
  have c3b0 := eq_true c3
  have c3b1 := decide_eq_true c3
  clear c3
  simp only [Option.some.injEq, Prod.mk.injEq] at H
  obtain ⟨rfl, rfl⟩ := H
  obtain ⟨i04, hi04, _, hsz4, _⟩ := info_parts info5
  obtain ⟨hcut4, hA4, hC4⟩ := print_take_of (P := Try.prog) (Value.int .u8) 0 33 5 .i64 Try.underlying33 hi04 hsz4 A0 c0 l0 2000 (by omega) (of_decide_eq_true (g0_)) HC0.out
  have HR124 := Aside0.mk (Kd.C_of_reads (h1 := fun _ => rfl) (hA4 _ (Kd.reads_of_C HR0.out)))
  have HC124 := Aside0.mk hC4
  clear hA4 hC4 hi04 hsz4
  go_enter Try.func69, Try.ntmps69
  go_wp2_with (first | ((with_reducible refine gate_dst (N := 10) rfl ?_); refine bx_ (N := 10) #[.slice A0 (l0.take 2000).length c0, .int .i64 0] 112 ?_; intro gb125 hg w5 hbox hb; replace HB := Aside0.mk (below_step (qz18_) hb); have BK125 := Aside0.mk (hbox); have GW125 := Aside0.mk ((g33_ : w.heap.size ≤ gb125)); have GE125 := Aside0.mk ((Nat.le_trans HW0.out (g33_ : w.heap.size ≤ gb125) : w0.heap.size ≤ gb125)); replace HBW := Aside0.mk (below_step HBW.out hb); clear hb hbox hg))
  go_ret
  exact ⟨_, rfl, (show IsS112 w0 _ gb125 (l0.take 2000) 0 from ⟨_, _, uf0_ BK125, GE125.out, HR124.out⟩), qz18_, qz8_⟩
 ·rw [if_neg c2] at H
  have c2b0 := decide_eq_false c2
  have c2b1 : decide (2000 < l0.length) = false := decide_eq_false (by omega)
  clear c2
  simp only [Option.some.injEq, Prod.mk.injEq] at H
  obtain ⟨rfl, rfl⟩ := H
  go_enter Try.func69, Try.ntmps69
  go_wp2_with (first | ((with_reducible refine gate_dst (N := 10) rfl ?_); refine bx_ (N := 10) #[.slice A0 l0.length c0, .int .i64 0] 112 ?_; intro gb126 hg w6 hbox hb; replace HB := Aside0.mk (below_step (qz18_) hb); have BK126 := Aside0.mk (hbox); have GW126 := Aside0.mk ((g33_ : w.heap.size ≤ gb126)); have GE126 := Aside0.mk ((Nat.le_trans HW0.out (g33_ : w.heap.size ≤ gb126) : w0.heap.size ≤ gb126)); replace HBW := Aside0.mk (below_step HBW.out hb); clear hb hbox hg))
  go_ret
  exact ⟨_, rfl, (show IsS112 w0 _ gb126 l0 0 from ⟨_, _, uf0_ BK126, GE126.out, HR0.out⟩), qz18_, qz8_⟩
def spec_l20Rd_pick.j0 : Nat → Int → Bool → List Int → Int → Option (Int × Int)
 | 0, _, _, _, _ => none
 | k + 1, x1, x24, x1000, x1001 => if x24 = true then (some (0, x1001)) else (if (wrap64 (x1001 - 1)) < (x1000.length : Int) then (if 0 ≤ (wrap64 (x1001 - 1)) then (if x1 = 0 then (none) else (some (Int.tmod (wrap64 (rd x1000 (wrap64 (x1001 - 1)))) x1, x1001))) else (none)) else (if (x1000.length : Int) = 0 then (none) else (if 0 ≤ (Int.tmod (wrap64 (x1001 - 1)) (x1000.length : Int)) then (if (Int.tmod (wrap64 (x1001 - 1)) (x1000.length : Int)) < (x1000.length : Int) then (if 0 ≤ (Int.tmod (wrap64 ((wrap64 ((wrap64 (x1001 - 1)) * 7)) + 3)) (x1000.length : Int)) then (if (Int.tmod (wrap64 ((wrap64 ((wrap64 (x1001 - 1)) * 7)) + 3)) (x1000.length : Int)) < (x1000.length : Int) then (if x1 = 0 then (none) else (some (Int.tmod (Go.bits .xor .i64 (wrap64 ((wrap64 ((wrap64 ((wrap64 ((wrap64 (rd x1000 (Int.tmod (wrap64 (x1001 - 1)) (x1000.length : Int)))) * 131)) + (wrap64 ((wrap64 (rd x1000 (Int.tmod (wrap64 ((wrap64 ((wrap64 (x1001 - 1)) * 7)) + 3)) (x1000.length : Int)))) * 1117)))) + (wrap64 ((wrap64 (x1001 - 1)) * 29)))) + (wrap64 ((wrap64 (Int.tdiv (wrap64 (x1001 - 1)) (x1000.length : Int))) * 53)))) (wrap64 (Int.tdiv (wrap64 ((wrap64 ((wrap64 ((wrap64 ((wrap64 (rd x1000 (Int.tmod (wrap64 (x1001 - 1)) (x1000.length : Int)))) * 131)) + (wrap64 ((wrap64 (rd x1000 (Int.tmod (wrap64 ((wrap64 ((wrap64 (x1001 - 1)) * 7)) + 3)) (x1000.length : Int)))) * 1117)))) + (wrap64 ((wrap64 (x1001 - 1)) * 29)))) + (wrap64 ((wrap64 (Int.tdiv (wrap64 (x1001 - 1)) (x1000.length : Int))) * 53)))) 64))) x1, x1001))) else (none)) else (none)) else (none)) else (none))))
def spec_l20Rd_pick.f (k : Nat) (s0_0 : List Int) (s0_1 : Int) (a1 : Int) : Option (Int × Int) := if a1 < 1 then (spec_l20Rd_pick.j0 k a1 true s0_0 (wrap64 (s0_1 + 1))) else (spec_l20Rd_pick.j0 k a1 ((s0_0.length : Int) == 0) s0_0 (wrap64 (s0_1 + 1)))
theorem spec_l20Rd_pick.mq {p : Prop} (h : p := by
 repeat' first
 | (with_reducible exact ih0 _ _ _ _)
 | (with_reducible exact LeO.refl _)
 | (with_reducible exact LeO.none _)
 | (with_reducible refine LeO.ite ?_ ?_)
 | (with_reducible refine LeO.bind ?_ (fun _ => ?_))
 | exact ih0 _ _ _ _
 | exact LeO.none _
 | refine LeO.ite ?_ ?_
 | refine LeO.bind ?_ (fun _ => ?_)) : p := h
theorem spec_l20Rd_pick.mono_l : ∀ k, (∀ y0 y1 y2 y3, LeO (spec_l20Rd_pick.j0 k y0 y1 y2 y3) (spec_l20Rd_pick.j0 (k + 1) y0 y1 y2 y3))
 | 0 => fun _ _ _ _ r h => by simp [spec_l20Rd_pick.j0] at h
 | k + 1 => by
  have ih0 := spec_l20Rd_pick.mono_l k
  ·intro y0 y1 y2 y3
   unfold spec_l20Rd_pick.j0
   exact spec_l20Rd_pick.mq
theorem spec_l20Rd_pick.mono : ∀ a0 a1 a2 k, LeO (spec_l20Rd_pick.f k a0 a1 a2) (spec_l20Rd_pick.f (k + 1) a0 a1 a2) := by
 intro a0 a1 a2 k
 have ih0 := spec_l20Rd_pick.mono_l k
 unfold spec_l20Rd_pick.f
 exact spec_l20Rd_pick.mq
theorem qz19_ {p : Prop} (h : p := by repeat (first | (with_reducible first | exact HI0.out | apply IsS112.alloc | apply IsS112.drewN | apply IsS112.drew | apply IsS112.set_1) | exact HI0.out)) : p := h
theorem qz20_ {p : Prop} (h : p := by repeat (first | (with_reducible first | exact HK.out | apply KeepBut.set_ | apply keep_drewN | apply keep_drew | apply keep_alloc) | exact HK.out)) : p := h
theorem qz21_ {p : Prop} (h : p := by repeat (first | (with_reducible first | exact HB.out | apply below_alloc | apply pw_below_drewN | apply below_drew1 | refine below_set ?_ (IsS112.ge HI0.out)) | exact HB.out)) : p := h
set_option maxHeartbeats 8000000 in
set_option maxRecDepth 100000 in
theorem spec_l20Rd_pick.calls (k : Nat) (g : Nat) (s0_0 : List Int) (s0_1 : Int) (a1 : Int) (r1 : Int) (r2 : Int) (w0 w : World) (hI : IsS112 w0 w g s0_0 s0_1) (hB : Below w0.heap.size w0 w) (h : spec_l20Rd_pick.f k s0_0 s0_1 a1 = some (r1, r2)) :
  Calls Try.prog 70 #[.pointer (some ⟨g, 0, none⟩), .int .i64 a1] w fun e w' => e = .returned (.int .i64 r1) ∧ IsS112 w0 w' g s0_0 r2 ∧ Below w0.heap.size w0 w' ∧ KeepBut w w' g none := by
 have HI0 := Aside0.mk hI
 have HK := Aside0.mk (KeepBut.refl w g none)
 have HL := Aside0.mk hB.size
 clear hI
 have HW0 := Aside0.mk hB.size
 have HB := Aside0.mk hB
 clear hB
 have H : (if a1 < 1 then (spec_l20Rd_pick.j0 k a1 true s0_0 (wrap64 (s0_1 + 1))) else (spec_l20Rd_pick.j0 k a1 ((s0_0.length : Int) == 0) s0_0 (wrap64 (s0_1 + 1)))) = some (r1, r2) := h
 clear h
 have HC3 := Aside0.mk H
 clear H
 obtain ⟨ASz4_0, cSz4_0, HGz4, hgz4, HSz4_0⟩ := HI0.out
 have hcz4_0 := cellS112_0 HGz4
 have hcz4_1 := cellS112_1 HGz4
 have hfz4_1 := blk_frozen HGz4 1
 clear HGz4 hgz4
 go_enter Try.func70, Try.ntmps70
 go_upto_region 2 with (fail)
 repeat (go_quiet (fail); go_upto_region 2 with (fail))
 go_cut [24] (fun v24 wc => ∃ (kq : Nat) (x24_2 : Bool), v24 = .bool x24_2 ∧ Aside0 (spec_l20Rd_pick.j0 kq a1 x24_2 s0_0 (wrap64 (s0_1 + 1)) = some (r1, r2)) ∧ Aside0 (kq ≤ k) ∧ Aside0 (IsS112 w0 wc g s0_0 (wrap64 (s0_1 + 1))) ∧ Aside0 (KeepBut w wc g none) ∧ Aside0 (Below w0.heap.size w0 wc))
 case first =>
  have H := HC3.out
  clear HC3
  by_cases c5 : a1 < 1
  ·rw [if_pos c5] at H
   have c5b0 := decide_eq_true c5
   clear c5
   (first | rw [c5b0] | (simp only [i64_w, i32_w]; rw [c5b0]) | skip)
   have H' := Aside0.mk H
   clear H
   go_wp2
   repeat (go_quiet (fail); try go_wp2)
   go_meet
   case rel => exact ⟨_, (true), (g3_), H', ⟨g15_⟩, ⟨qz19_⟩, ⟨qz20_⟩, ⟨qz21_⟩⟩
  ·rw [if_neg c5] at H
   have c5b0 := decide_eq_false c5
   clear c5
   (first | rw [c5b0] | (simp only [i64_w, i32_w]; rw [c5b0]) | skip)
   have H' := Aside0.mk H
   clear H
   obtain ⟨ASz6_0, cSz6_0, HGz6, hgz6, HSz6_0⟩ := HI0.out
   have hcz6_0 := cellS112_0 HGz6
   have hcz6_1 := cellS112_1 HGz6
   have hfz6_1 := blk_frozen HGz6 1
   clear HGz6 hgz6
   go_wp2
   repeat (go_quiet (fail); try go_wp2)
   go_meet
   case rel => exact ⟨_, (((s0_0.length : Int) == 0)), (g3_), H', ⟨g15_⟩, ⟨qz19_⟩, ⟨qz20_⟩, ⟨qz21_⟩⟩
 case rest =>
  clear HC3
  try clear p2
  try clear c5
  try clear c5b0
  try clear p6
  try clear hcz4_0
  try clear hcz4_1
  try clear hcz6_0
  try clear hcz6_1
  try clear hfz4_1
  try clear hfz6_1
  obtain ⟨kq, x24_2, rfl, HA, HJ2, HI0, HK, HB⟩ := hcut
  cases kq with
  | zero => exact absurd HA.out (by simp [spec_l20Rd_pick.j0])
  | succ kj2 =>
   have H := HA.out
   clear HA
   simp only [spec_l20Rd_pick.j0] at H
   by_cases c7 : x24_2 = true
   ·subst c7
    replace H := ifp_ H
    simp only [Option.some.injEq, Prod.mk.injEq] at H
    obtain ⟨rfl, rfl⟩ := H
    go_wp2
    repeat (go_quiet (fail); try go_wp2)
    go_ret
    exact ⟨g4_, qz19_, qz21_, qz20_⟩
   ·replace c7 := Bool.eq_false_iff.mpr c7
    subst c7
    replace H := ifn_ H
    by_cases c8 : (wrap64 ((wrap64 (s0_1 + 1)) - 1)) < (s0_0.length : Int)
    ·rw [if_pos c8] at H
     have c8b0 := decide_eq_true c8
     clear c8
     obtain ⟨ji9, hji9⟩ : ∃ j_ : Int, (wrap64 ((wrap64 (s0_1 + 1)) - 1)) = j_ := ⟨_, rfl⟩
     replace H : (if 0 ≤ (ji9) then (if a1 = 0 then (none) else (some (Int.tmod (wrap64 (rd s0_0 (ji9))) a1, (wrap64 (s0_1 + 1))))) else (none)) = some (r1, r2) := by first | (rw [hji9] at H; exact H) | (simp only [hji9] at H ⊢; exact H)
     (try rw [hji9] at c8b0)
     have hji9w : (IntKind.i64.wrap ((wrap64 (s0_1 + 1)) - 1)) = ji9 := (i64_w _).trans hji9
     obtain ⟨c10, H⟩ := pos_ H
     have c10b0 := decide_eq_true c10
     clear c10
     by_cases c11 : a1 = 0
     ·rw [if_pos c11] at H
      exact absurd H (by simp)
     ·rw [if_neg c11] at H
      have c11b0 : (a1 == 0) = false := beq_eq_false_iff_ne.mpr c11
      have c11b1 : (a1 != 0) = true := bne_iff_ne.mpr c11
      simp only [Option.some.injEq, Prod.mk.injEq] at H
      obtain ⟨rfl, rfl⟩ := H
      obtain ⟨ASz12_0, cSz12_0, HGz12, hgz12, HSz12_0⟩ := HI0.out
      have hcz12_0 := cellS112_0 HGz12
      have hcz12_1 := cellS112_1 HGz12
      have hfz12_1 := blk_frozen HGz12 1
      clear HGz12 hgz12
      have p127 : 0 ≤ ((ji9) : Int) := of_decide_eq_true (g0_)
      have q127 : (ji9) < (s0_0.length : Int) := of_decide_eq_true (g0_)
      obtain ⟨ad127, e127, hx127_0⟩ := Kd.at_int HSz12_0 (ji9) p127 q127
      cases e127
      replace hx127_0 := pw_cell_below HB.out hx127_0
      replace p127 := eq_true p127
      replace q127 := eq_true q127
      go_wp2
      repeat (go_quiet (fail); try go_wp2)
      go_ret
      exact ⟨by first | rfl | (simp [errW_none, errW_some] <;> rfl) | (simp only [← hji9]; first | rfl | (simp [errW_none, errW_some] <;> rfl)) | (simp [*, errW_none, errW_some] <;> rfl), qz19_, qz21_, qz20_⟩
    ·rw [if_neg c8] at H
     have c8b0 := decide_eq_false c8
     clear c8
     by_cases c13 : (s0_0.length : Int) = 0
     ·rw [if_pos c13] at H
      exact absurd H (by simp)
     ·rw [if_neg c13] at H
      have c13b0 : ((s0_0.length : Int) == 0) = false := beq_eq_false_iff_ne.mpr c13
      have c13b1 : ((s0_0.length : Int) != 0) = true := bne_iff_ne.mpr c13
      have c13b2 : ¬ (s0_0 = []) := fun h_ => c13 (by rw [h_]; rfl)
      obtain ⟨ji14, hji14⟩ : ∃ j_ : Int, (Int.tmod (wrap64 ((wrap64 (s0_1 + 1)) - 1)) (s0_0.length : Int)) = j_ := ⟨_, rfl⟩
      replace H : (if 0 ≤ (ji14) then (if (ji14) < (s0_0.length : Int) then (if 0 ≤ (Int.tmod (wrap64 ((wrap64 ((wrap64 ((wrap64 (s0_1 + 1)) - 1)) * 7)) + 3)) (s0_0.length : Int)) then (if (Int.tmod (wrap64 ((wrap64 ((wrap64 ((wrap64 (s0_1 + 1)) - 1)) * 7)) + 3)) (s0_0.length : Int)) < (s0_0.length : Int) then (if a1 = 0 then (none) else (some (Int.tmod (Go.bits .xor .i64 (wrap64 ((wrap64 ((wrap64 ((wrap64 ((wrap64 (rd s0_0 (ji14))) * 131)) + (wrap64 ((wrap64 (rd s0_0 (Int.tmod (wrap64 ((wrap64 ((wrap64 ((wrap64 (s0_1 + 1)) - 1)) * 7)) + 3)) (s0_0.length : Int)))) * 1117)))) + (wrap64 ((wrap64 ((wrap64 (s0_1 + 1)) - 1)) * 29)))) + (wrap64 ((wrap64 (Int.tdiv (wrap64 ((wrap64 (s0_1 + 1)) - 1)) (s0_0.length : Int))) * 53)))) (wrap64 (Int.tdiv (wrap64 ((wrap64 ((wrap64 ((wrap64 ((wrap64 (rd s0_0 (ji14))) * 131)) + (wrap64 ((wrap64 (rd s0_0 (Int.tmod (wrap64 ((wrap64 ((wrap64 ((wrap64 (s0_1 + 1)) - 1)) * 7)) + 3)) (s0_0.length : Int)))) * 1117)))) + (wrap64 ((wrap64 ((wrap64 (s0_1 + 1)) - 1)) * 29)))) + (wrap64 ((wrap64 (Int.tdiv (wrap64 ((wrap64 (s0_1 + 1)) - 1)) (s0_0.length : Int))) * 53)))) 64))) a1, (wrap64 (s0_1 + 1))))) else (none)) else (none)) else (none)) else (none)) = some (r1, r2) := by first | (rw [hji14] at H; exact H) | (simp only [hji14] at H ⊢; exact H)
      obtain ⟨c15, H⟩ := pos_ H
      have c15b0 := decide_eq_true c15
      clear c15
      obtain ⟨c16, H⟩ := pos_ H
      have c16b0 := decide_eq_true c16
      clear c16
      obtain ⟨ji17, hji17⟩ : ∃ j_ : Int, (Int.tmod (wrap64 ((wrap64 ((wrap64 ((wrap64 (s0_1 + 1)) - 1)) * 7)) + 3)) (s0_0.length : Int)) = j_ := ⟨_, rfl⟩
      replace H : (if 0 ≤ (ji17) then (if (ji17) < (s0_0.length : Int) then (if a1 = 0 then (none) else (some (Int.tmod (Go.bits .xor .i64 (wrap64 ((wrap64 ((wrap64 ((wrap64 ((wrap64 (rd s0_0 (ji14))) * 131)) + (wrap64 ((wrap64 (rd s0_0 (ji17))) * 1117)))) + (wrap64 ((wrap64 ((wrap64 (s0_1 + 1)) - 1)) * 29)))) + (wrap64 ((wrap64 (Int.tdiv (wrap64 ((wrap64 (s0_1 + 1)) - 1)) (s0_0.length : Int))) * 53)))) (wrap64 (Int.tdiv (wrap64 ((wrap64 ((wrap64 ((wrap64 ((wrap64 (rd s0_0 (ji14))) * 131)) + (wrap64 ((wrap64 (rd s0_0 (ji17))) * 1117)))) + (wrap64 ((wrap64 ((wrap64 (s0_1 + 1)) - 1)) * 29)))) + (wrap64 ((wrap64 (Int.tdiv (wrap64 ((wrap64 (s0_1 + 1)) - 1)) (s0_0.length : Int))) * 53)))) 64))) a1, (wrap64 (s0_1 + 1))))) else (none)) else (none)) = some (r1, r2) := by first | (rw [hji17] at H; exact H) | (simp only [hji17] at H ⊢; exact H)
      obtain ⟨c18, H⟩ := pos_ H
      have c18b0 := decide_eq_true c18
      clear c18
      obtain ⟨c19, H⟩ := pos_ H
      have c19b0 := decide_eq_true c19
      clear c19
      by_cases c20 : a1 = 0
      ·rw [if_pos c20] at H
       exact absurd H (by simp)
      ·rw [if_neg c20] at H
       have c20b0 : (a1 == 0) = false := beq_eq_false_iff_ne.mpr c20
       have c20b1 : (a1 != 0) = true := bne_iff_ne.mpr c20
       simp only [Option.some.injEq, Prod.mk.injEq] at H
       obtain ⟨rfl, rfl⟩ := H
       obtain ⟨ASz21_0, cSz21_0, HGz21, hgz21, HSz21_0⟩ := HI0.out
       have hcz21_0 := cellS112_0 HGz21
       have hcz21_1 := cellS112_1 HGz21
       have hfz21_1 := blk_frozen HGz21 1
       clear HGz21 hgz21
       have p128 : 0 ≤ ((ji14) : Int) := of_decide_eq_true (g0_)
       have q128 : (ji14) < (s0_0.length : Int) := of_decide_eq_true (g0_)
       obtain ⟨ad128, e128, hx128_0⟩ := Kd.at_int HSz21_0 (ji14) p128 q128
       cases e128
       replace hx128_0 := pw_cell_below HB.out hx128_0
       replace p128 := eq_true p128
       replace q128 := eq_true q128
       have p129 : 0 ≤ ((ji17) : Int) := of_decide_eq_true (g0_)
       have q129 : (ji17) < (s0_0.length : Int) := of_decide_eq_true (g0_)
       obtain ⟨ad129, e129, hx129_0⟩ := Kd.at_int HSz21_0 (ji17) p129 q129
       obtain rfl : ad128 = ad129 := (by injection e129)
       replace hx129_0 := pw_cell_below HB.out hx129_0
       replace p129 := eq_true p129
       replace q129 := eq_true q129
       go_wp2
       repeat (go_quiet (fail); try go_wp2)
       go_ret
       exact ⟨by first | rfl | (simp [errW_none, errW_some] <;> rfl) | (simp only [← hji14, ← hji17]; first | rfl | (simp [errW_none, errW_some] <;> rfl)) | (simp [*, errW_none, errW_some] <;> rfl), qz19_, qz21_, qz20_⟩
def spec_l20Rd_odd.f (k : Nat) (s0_0 : List Int) (s0_1 : Int) (a1 : Int) : Option (Bool × Int) := if a1 > 0 then ((spec_l20Rd_pick.f k s0_0 s0_1 a1).bind fun bt328 => (some ((bt328.1 == (wrap64 (a1 - 1))), bt328.2))) else (some (false, s0_1))
theorem spec_l20Rd_odd.mq {p : Prop} (h : p := by
 repeat' first
 | (with_reducible exact spec_l20Rd_pick.mono _ _ _ _)
 | (with_reducible exact LeO.refl _)
 | (with_reducible exact LeO.none _)
 | (with_reducible refine LeO.ite ?_ ?_)
 | (with_reducible refine LeO.bind ?_ (fun _ => ?_))
 | exact spec_l20Rd_pick.mono _ _ _ _
 | exact LeO.none _
 | refine LeO.ite ?_ ?_
 | refine LeO.bind ?_ (fun _ => ?_)) : p := h
theorem spec_l20Rd_odd.mono : ∀ a0 a1 a2 k, LeO (spec_l20Rd_odd.f k a0 a1 a2) (spec_l20Rd_odd.f (k + 1) a0 a1 a2) := by
 intro a0 a1 a2 k
 unfold spec_l20Rd_odd.f
 exact spec_l20Rd_odd.mq
theorem qz22_ {p : Prop} (h : p := by repeat (first | (with_reducible first | exact HI0.out | apply IsS112.alloc | apply IsS112.drewN | apply IsS112.drew | apply IsS112.set_1) | exact HI0.out)) : p := h
theorem qz23_ {p : Prop} (h : p := by repeat (first | (with_reducible first | exact HB.out | apply below_alloc | apply pw_below_drewN | apply below_drew1 | refine below_set ?_ (IsS112.ge HI0.out)) | exact HB.out)) : p := h
theorem qz24_ {p : Prop} (h : p := by repeat (first | (with_reducible first | exact HK.out | apply KeepBut.set_ | apply keep_drewN | apply keep_drew | apply keep_alloc) | exact HK.out)) : p := h
set_option maxHeartbeats 8000000 in
set_option maxRecDepth 100000 in
theorem spec_l20Rd_odd.calls (k : Nat) (g : Nat) (s0_0 : List Int) (s0_1 : Int) (a1 : Int) (r1 : Bool) (r2 : Int) (w0 w : World) (hI : IsS112 w0 w g s0_0 s0_1) (hB : Below w0.heap.size w0 w) (h : spec_l20Rd_odd.f k s0_0 s0_1 a1 = some (r1, r2)) :
  Calls Try.prog 106 #[.pointer (some ⟨g, 0, none⟩), .int .i64 a1] w fun e w' => e = .returned (.bool r1) ∧ IsS112 w0 w' g s0_0 r2 ∧ Below w0.heap.size w0 w' ∧ KeepBut w w' g none := by
 have HI0 := Aside0.mk hI
 have HK := Aside0.mk (KeepBut.refl w g none)
 have HL := Aside0.mk hB.size
 clear hI
 have HW0 := Aside0.mk hB.size
 have HB := Aside0.mk hB
 clear hB
 have H : (if a1 > 0 then ((spec_l20Rd_pick.f k s0_0 s0_1 a1).bind fun bt328 => (some ((bt328.1 == (wrap64 (a1 - 1))), bt328.2))) else (some (false, s0_1))) = some (r1, r2) := h
 clear h
 by_cases c3 : a1 > 0
 ·rw [if_pos c3] at H
  have c3b0 := decide_eq_true c3
  clear c3
  replace H := Option.bind_eq_some_iff.mp H
  obtain ⟨⟨t328, t329⟩, A40, H⟩ := H
  replace H : (some ((t328 == (wrap64 (a1 - 1))), t329)) = some (r1, r2) := H
  have A4 := Aside0.mk A40
  clear A40
  simp only [Option.some.injEq, Prod.mk.injEq] at H
  obtain ⟨rfl, rfl⟩ := H
  go_enter Try.func106, Try.ntmps106
  go_wp2_with (first | (go_at_call 70; (with_reducible refine (spec_l20Rd_pick.calls k g s0_0 s0_1 a1 t328 t329 w0 _ ?side1 ?side2 A4.out).mono ?_); (case side1 => exact qz22_); (case side2 => exact qz23_); rintro e w5 ⟨rfl, hi, hb, hk⟩; replace HK := Aside0.mk (KeepBut.trans (qz24_) hk (.inl rfl)); replace HB := Aside0.mk (hb); replace HI0 := Aside0.mk (hi); (try clear hb); (try clear hk hi)))
  go_ret
  exact ⟨g4_, qz22_, qz23_, qz24_⟩
 ·rw [if_neg c3] at H
  have c3b0 := decide_eq_false c3
  clear c3
  simp only [Option.some.injEq, Prod.mk.injEq] at H
  obtain ⟨rfl, rfl⟩ := H
  go_enter Try.func106, Try.ntmps106
  go_wp2
  go_ret
  exact ⟨g4_, qz22_, qz23_, qz24_⟩
mutual
def spec_l20Book.l0 : Nat → Int → Int → Int → Int → List Int → Int → List Int → List (List Int) → Option (List Int × (List (List Int)) × Int)
 | 0, _, _, _, _, _, _, _, _ => none
 | k + 1, x1, x5, x7, x8, x1000, x1001, x338000, x338001 => if x8 < x5 then ((spec_l20Rd_pick.f k x1000 x1001 4).bind fun bt340 => ((spec_l20Rd_pick.f k x1000 bt340.2 21).bind fun bt342 => ((some (([0, bt340.1, bt342.1] : List Int) : List Int)).bind fun y344 => (if 0 ≤ x7 then (if x7 < (y344.length : Int) then (if x338000.length < 17592186044416 then (spec_l20Book.l1 k x1 x5 x7 x8 (([] : List Int)) 0 x1000 bt342.2 (x338000 ++ [rd y344 x7]) x338001) else (none)) else (none)) else (none))))) else ((spec_l20Rd_odd.f k x1000 x1001 x1).bind fun bt370 => (if bt370.1 = true then ((spec_l20Rd_pick.f k x1000 bt370.2 4).bind fun bt372 => (if bt372.1 = 0 then (some (([] : List Int), ([] : List (List Int)), bt372.2)) else (if bt372.1 = 1 then (if 0 < (x338000.length : Int) then (some ((x338000.set (0 : Int).toNat (-1)), x338001, bt372.2)) else (none)) else (if bt372.1 = 2 then (if 0 < (x338001.length : Int) then (if 0 < ((rd_L1 x338001 0).length : Int) then (some (x338000, (x338001.set (0 : Int).toNat ((rd_L1 x338001 0).set (0 : Int).toNat 1)), bt372.2)) else (none)) else (none)) else (if 0 ≤ (wrap64 (x5 - 1)) then (if (wrap64 (x5 - 1)) < (x338001.length : Int) then (if 1 ≤ ((rd_L1 x338001 (wrap64 (x5 - 1))).length : Int) then (some (x338000, (x338001.set ((wrap64 (x5 - 1)) : Int).toNat ((rd_L1 x338001 (wrap64 (x5 - 1))).drop 1)), bt372.2)) else (none)) else (none)) else (none)))))) else (some (x338000, x338001, bt370.2))))
def spec_l20Book.l1 : Nat → Int → Int → Int → Int → List Int → Int → List Int → Int → List Int → List (List Int) → Option (List Int × (List (List Int)) × Int)
 | 0, _, _, _, _, _, _, _, _, _, _ => none
 | k + 1, x1, x5, x7, x8, x9, x10, x1000, x1001, x338000, x338001 => if x10 < x5 then (if x8 = x10 then (if x9.length < 17592186044416 then (spec_l20Book.l1 k x1 x5 x7 x8 (x9 ++ [0]) (wrap64 (x10 + 1)) x1000 x1001 x338000 x338001) else (none)) else ((spec_l20Rd_pick.f k x1000 x1001 3).bind fun bt360 => (if bt360.1 > 0 then ((spec_l20Rd_pick.f k x1000 bt360.2 10).bind fun bt362 => (if x9.length < 17592186044416 then (spec_l20Book.l1 k x1 x5 x7 x8 (x9 ++ [bt362.1]) (wrap64 (x10 + 1)) x1000 bt362.2 x338000 x338001) else (none))) else (if x9.length < 17592186044416 then (spec_l20Book.l1 k x1 x5 x7 x8 (x9 ++ [0]) (wrap64 (x10 + 1)) x1000 bt360.2 x338000 x338001) else (none))))) else (if x338001.length < 5864062014805 then (spec_l20Book.l0 k x1 x5 x7 (wrap64 (x8 + 1)) x1000 x1001 x338000 (x338001 ++ [x9])) else (none))
end
def spec_l20Book.f (k : Nat) (s0_0 : List Int) (s0_1 : Int) (a1 : Int) : Option (List Int × (List (List Int)) × Int) := (some (([1, 2, 3, 3, 4, 4] : List Int) : List Int)).bind fun y331 => ((spec_l20Rd_pick.f k s0_0 s0_1 6).bind fun bt334 => (if 0 ≤ bt334.1 then (if bt334.1 < (y331.length : Int) then ((spec_l20Rd_pick.f k s0_0 bt334.2 3).bind fun bt338 => (spec_l20Book.l0 k a1 (rd y331 bt334.1) bt338.1 0 s0_0 bt338.2 ([] : List Int) ([] : List (List Int)))) else (none)) else (none)))
theorem spec_l20Book.mq {p : Prop} (h : p := by
 repeat' first
 | (with_reducible exact ih0 _ _ _ _ _ _ _ _)
 | (with_reducible exact ih1 _ _ _ _ _ _ _ _ _ _)
 | (with_reducible exact spec_l20Rd_odd.mono _ _ _ _)
 | (with_reducible exact spec_l20Rd_pick.mono _ _ _ _)
 | (with_reducible exact LeO.refl _)
 | (with_reducible exact LeO.none _)
 | (with_reducible refine LeO.ite ?_ ?_)
 | (with_reducible refine LeO.bind ?_ (fun _ => ?_))
 | exact ih0 _ _ _ _ _ _ _ _
 | exact ih1 _ _ _ _ _ _ _ _ _ _
 | exact spec_l20Rd_odd.mono _ _ _ _
 | exact spec_l20Rd_pick.mono _ _ _ _
 | exact LeO.none _
 | refine LeO.ite ?_ ?_
 | refine LeO.bind ?_ (fun _ => ?_)) : p := h
theorem spec_l20Book.mono_l : ∀ k, (∀ y0 y1 y2 y3 y4 y5 y6 y7, LeO (spec_l20Book.l0 k y0 y1 y2 y3 y4 y5 y6 y7) (spec_l20Book.l0 (k + 1) y0 y1 y2 y3 y4 y5 y6 y7)) ∧ (∀ y0 y1 y2 y3 y4 y5 y6 y7 y8 y9, LeO (spec_l20Book.l1 k y0 y1 y2 y3 y4 y5 y6 y7 y8 y9) (spec_l20Book.l1 (k + 1) y0 y1 y2 y3 y4 y5 y6 y7 y8 y9))
 | 0 => ⟨fun _ _ _ _ _ _ _ _ r h => by simp [spec_l20Book.l0] at h, fun _ _ _ _ _ _ _ _ _ _ r h => by simp [spec_l20Book.l1] at h⟩
 | k + 1 => by
  obtain ⟨ih0, ih1⟩ := spec_l20Book.mono_l k
  refine ⟨?_, ?_⟩
  ·intro y0 y1 y2 y3 y4 y5 y6 y7
   unfold spec_l20Book.l0
   exact spec_l20Book.mq
  ·intro y0 y1 y2 y3 y4 y5 y6 y7 y8 y9
   unfold spec_l20Book.l1
   exact spec_l20Book.mq
theorem spec_l20Book.mono : ∀ a0 a1 a2 k, LeO (spec_l20Book.f k a0 a1 a2) (spec_l20Book.f (k + 1) a0 a1 a2) := by
 intro a0 a1 a2 k
 obtain ⟨ih0, ih1⟩ := spec_l20Book.mono_l k
 unfold spec_l20Book.f
 exact spec_l20Book.mq
def spec_l20Book.T7 : Bool × List (List Nat × List Nat) := (true, [([], []), ([0], [0]), ([], []), ([2], [2]), ([], []), ([4, 3], [4]), ([3, 5], [3, 5]), ([], []), ([6, 7], [6, 7]), ([8], [8]), ([9], [9]), ([1, 10, 5], [1, 10]), ([0, 1, 2, 3, 4, 5, 6, 7, 8, 9, 10, 11], []), ([12, 11, 11, 0, 1, 2, 3, 4, 5, 6, 7, 8, 9, 10, 11], [11, 12])])
def spec_l20Book.B7 : List Nat := [0, 1, 0, 4, 0, 28, 60, 0, 252, 508, 1020, 2047, 4095, 8191]
theorem spec_l20Book.tab7 : rtab .any (opsOf Try.f91 7) = spec_l20Book.T7 := by kernel_rfl
theorem spec_l20Book.bits7 : waitsOk spec_l20Book.T7.2 spec_l20Book.B7 = true := by kernel_rfl
def spec_l20Book.T19 : Bool × List (List Nat × List Nat) := (true, [([], []), ([0], [0]), ([], []), ([2], [2]), ([], []), ([4], [4]), ([], []), ([6], [6]), ([5, 7], [5, 7]), ([8], [8]), ([9], [9]), ([1, 3, 0, 1, 2, 3, 4, 5, 6, 7, 8, 9, 10], [1, 3]), ([11, 10, 0, 1, 2, 3, 4, 5, 6, 7, 8, 9, 10], [10, 11])])
def spec_l20Book.B19 : List Nat := [0, 1, 0, 4, 0, 16, 0, 64, 240, 496, 1008, 2047, 4095]
theorem spec_l20Book.tab19 : rtab .any (opsOf Try.f91 19) = spec_l20Book.T19 := by kernel_rfl
theorem spec_l20Book.bits19 : waitsOk spec_l20Book.T19.2 spec_l20Book.B19 = true := by kernel_rfl
theorem qz25_ {p : Prop} (h : p := by repeat (first | (with_reducible first | exact HI0.out | apply IsS112.alloc | apply IsS112.drewN | apply IsS112.drew | apply IsS112.set_1 | refine IsS112.far ?_ NB0_330.out _ | refine IsS112.far ?_ NB0_337.out _ | refine IsS112.far ?_ HN0_go84.out _) | exact HI0.out)) : p := h
theorem qz10_ {p : Prop} (h : p := by repeat (first | (with_reducible first | exact HK.out | apply KeepBut.set_ | apply keep_drewN | apply keep_drew | apply keep_alloc | refine keep_far ?_ GW330.out _ | refine keep_far ?_ GW337.out _ | refine keep_far ?_ GB84.out _) | exact HK.out)) : p := h
theorem qz26_ {p : Prop} (h : p := by repeat (first | (with_reducible first | exact HB.out | apply below_alloc | apply pw_below_drewN | apply below_drew1 | refine below_set ?_ (IsS112.ge HI0.out) | refine below_set ?_ GE330.out | refine below_set ?_ GE337.out | refine below_set ?_ (Nat.le_trans HL.out GB84.out)) | exact HB.out)) : p := h
set_option maxHeartbeats 8000000 in
set_option maxRecDepth 100000 in
theorem spec_l20Book.calls (k : Nat) (g : Nat) (s0_0 : List Int) (s0_1 : Int) (a1 : Int) (r1 : List Int) (r2 : List (List Int)) (r3 : Int) (w0 w : World) (hI : IsS112 w0 w g s0_0 s0_1) (hB : Below w0.heap.size w0 w) (h : spec_l20Book.f k s0_0 s0_1 a1 = some (r1, r2, r3)) :
  Calls Try.prog 91 #[.pointer (some ⟨g, 0, none⟩), .int .i64 a1] w fun e w' => ∃ v0_ v1_ : Value, e = .returned (.agg #[v0_, v1_]) ∧ Kd.R (Kd.int .i64) 3 w' w.heap.size (fun k_ => (w.heap.size ≤ k_)) v0_ r1 ∧ Kd.V (Kd.slice 3 (Kd.int .i64)) 22 w' w.heap.size (fun k_ => (w.heap.size ≤ k_) ∧ some k_ ≠ (v0_ : Value).ownBlock) v1_ r2 ∧ IsS112 w0 w' g s0_0 r3 ∧ Below w0.heap.size w0 w' ∧ KeepBut w w' g none := by
 have hu25 := Try.underlying25
 have HI0 := Aside0.mk hI
 have HK := Aside0.mk (KeepBut.refl w g none)
 have HL := Aside0.mk hB.size
 clear hI
 have HW0 := Aside0.mk hB.size
 have HB := Aside0.mk hB
 clear hB
 have H : ((some (([1, 2, 3, 3, 4, 4] : List Int) : List Int)).bind fun y331 => ((spec_l20Rd_pick.f k s0_0 s0_1 6).bind fun bt334 => (if 0 ≤ bt334.1 then (if bt334.1 < (y331.length : Int) then ((spec_l20Rd_pick.f k s0_0 bt334.2 3).bind fun bt338 => (spec_l20Book.l0 k a1 (rd y331 bt334.1) bt338.1 0 s0_0 bt338.2 ([] : List Int) ([] : List (List Int)))) else (none)) else (none)))) = some (r1, r2, r3) := h
 clear h
 obtain ⟨y331, hy331⟩ : ∃ y_ : List Int, y_ = (([1, 2, 3, 3, 4, 4] : List Int)) := ⟨_, rfl⟩
 replace H : ((spec_l20Rd_pick.f k s0_0 s0_1 6).bind fun bt334 => (if 0 ≤ bt334.1 then (if bt334.1 < (y331.length : Int) then ((spec_l20Rd_pick.f k s0_0 bt334.2 3).bind fun bt338 => (spec_l20Book.l0 k a1 (rd y331 bt334.1) bt338.1 0 s0_0 bt338.2 ([] : List Int) ([] : List (List Int)))) else (none)) else (none))) = some (r1, r2, r3) := by first | (rw [hy331]; with_reducible exact H) | (have H2_ := (Option.bind_some _ _).symm.trans H; rw [hy331]; with_reducible exact H2_) | (have H2_ := (Option.bind_some _ _).symm.trans H; with_reducible exact H2_) | with_reducible exact H | (rw [hy331]; exact H) | exact H
 have Ny331 := Aside0.mk hy331
 clear hy331
 replace H := Option.bind_eq_some_iff.mp H
 obtain ⟨⟨t334, t335⟩, A30, H⟩ := H
 replace H : (if 0 ≤ t334 then (if t334 < (y331.length : Int) then ((spec_l20Rd_pick.f k s0_0 t335 3).bind fun bt338 => (spec_l20Book.l0 k a1 (rd y331 t334) bt338.1 0 s0_0 bt338.2 ([] : List Int) ([] : List (List Int)))) else (none)) else (none)) = some (r1, r2, r3) := H
 have A3 := Aside0.mk A30
 clear A30
 obtain ⟨c4, H⟩ := pos_ H
 have c4b0 := decide_eq_true c4
 clear c4
 obtain ⟨c5, H⟩ := pos_ H
 have c5b0 := decide_eq_true c5
 clear c5
 replace H := Option.bind_eq_some_iff.mp H
 obtain ⟨⟨t338, t339⟩, A60, H⟩ := H
 replace H : (spec_l20Book.l0 k a1 (rd y331 t334) t338 0 s0_0 t339 ([] : List Int) ([] : List (List Int))) = some (r1, r2, r3) := H
 have A6 := Aside0.mk A60
 clear A60
 have H' := Aside0.mk H
 clear H
 go_enter Try.func91, Try.ntmps91
 go_wp2_with (first | ((with_reducible refine gate_dst (N := 4) rfl ?_); refine bx_ (N := 4) #[.slice none 0 0, .slice none 0 0] 25 ?_; intro gb330 hg w7 hbox hb; replace HB := Aside0.mk (below_step (qz26_) hb); have BK330 := Aside0.mk (hbox); have GW330 := Aside0.mk ((g36_ : w.heap.size ≤ gb330)); have GE330 := Aside0.mk ((Nat.le_trans HW0.out (g36_ : w.heap.size ≤ gb330) : w0.heap.size ≤ gb330)); replace HK := Aside0.mk (KeepBut.trans (qz10_) (KeepBut.of_below hb g none) (.inl rfl)); have NB0_330 := Aside0.mk ((by rw [hg]; exact Nat.ne_of_lt (IsS112.lt (show IsS112 w0 _ g s0_0 s0_1 from qz25_)) : g ≠ gb330)); have NB330_0 := Aside0.mk ((by rw [hg]; exact Nat.ne_of_gt (IsS112.lt (show IsS112 w0 _ g s0_0 s0_1 from qz25_)) : gb330 ≠ g)); replace HI0 := Aside0.mk (IsS112.below (qz25_) hb); clear hb hbox hg) | ((with_reducible refine gate_dst (N := 12) rfl ?_); refine Kd.R_lit (Kd.int .i64) _ 3 ?hg (N := 12) ?hd (xs := ([1, 2, 3, 3, 4, 4] : List Int)) (inner := [.int .i64 1, .int .i64 2, .int .i64 3, .int .i64 3, .int .i64 4, .int .i64 4]) (ok := fun _ => True) (okp := fun _ => True) ?hr ?hp (fun _ hk => hk) trivial (Below.refl _ _) (Nat.le_refl _) (by simp) ?_; (case hd => rfl); (case hg => rfl); (case hr => first | (go_simp; done) | (go_simp; rfl)); (case hp => exact (Reps.one (show Kd.M (Kd.int .i64) _ _ _ 1 [.int .i64 1] from rfl) (Reps.one (show Kd.M (Kd.int .i64) _ _ _ 2 [.int .i64 2] from rfl) (Reps.one (show Kd.M (Kd.int .i64) _ _ _ 3 [.int .i64 3] from rfl) (Reps.one (show Kd.M (Kd.int .i64) _ _ _ 3 [.int .i64 3] from rfl) (Reps.one (show Kd.M (Kd.int .i64) _ _ _ 4 [.int .i64 4] from rfl) (Reps.one (show Kd.M (Kd.int .i64) _ _ _ 4 [.int .i64 4] from rfl) (Reps.none _ _)))))))); intro v332 w8 ho9 hb hg_ hnew_; clear hg_ hnew_; (first | rw [← Ny331.out] at ho9 | (simp only [Int.reduceToNat] at ho9; rw [← Ny331.out] at ho9)); have HO333 := Aside0.mk (Kd.R_lower (Kd.R_newM (M := fun k_ => (w.heap.size ≤ k_)) ho9 (keep_size (w := w) (g := g) (row := none) (qz10_)) (fun k_ h_ => h_)) (keep_size (w := w) (g := g) (row := none) (qz10_))); replace BK330 := bb_ BK330 hb; replace HK := Aside0.mk (KeepBut.trans (qz10_) (KeepBut.of_below hb g none) (.inl rfl)); replace HB := Aside0.mk (below_step (qz26_) hb); replace HI0 := Aside0.mk (IsS112.below (qz25_) hb); clear hb ho9) | ((with_reducible refine gate_callee (f := 70) rfl ?_); refine goesL_ (some 14) rfl rfl Try.func70 k_ rfl #[.pointer (some ⟨g, 0, none⟩), .int .i64 6] rfl (g2_) ?_; (with_reducible refine (spec_l20Rd_pick.calls k g s0_0 s0_1 6 t334 t335 w0 _ ?side1 ?side2 A3.out).mono ?_); (case side1 => exact qz25_); (case side2 => exact qz26_); rintro e w10 ⟨rfl, hi, hb, hk⟩; refine ⟨_, rfl, ?_⟩; replace BK330 := Aside0.mk (KeepBut.blk hk (g' := gb330) (o := .cells #[.slice none 0 0, .slice none 0 0] 25 (0, 0)) (uf0_ BK330) NB330_0.out (by simp)); replace HO333 := Aside0.mk (Kd.R_mono (Kd.R_keep (IsS112.apart (show IsS112 w0 _ g s0_0 s0_1 from qz25_) (uf1_ HO333) (by decide)) hk (fun _ h => h.2)) (fun _ h => h.1)); replace HK := Aside0.mk (KeepBut.trans (qz10_) hk (.inl rfl)); replace HB := Aside0.mk (hb); replace HI0 := Aside0.mk (hi); (try clear hb); (try clear hk hi); obtain ⟨Ao11, co11, eo11⟩ := Kd.R_slice HO333.out; subst eo11; have p336 : 0 ≤ (t334 : Int) := of_decide_eq_true (g0_); have q336 : t334 < (y331.length : Int) := of_decide_eq_true (g0_); obtain ⟨ad336, e336, hx336_0⟩ := Kd.at_int (Kd.R_reads' HO333.out).2.2 t334 p336 q336; cases e336; replace p336 := eq_true p336; replace q336 := eq_true q336) | ((with_reducible refine gate_dst (N := 6) rfl ?_); refine bx_ (N := 6) #[.slice none 0 0, .slice none 0 0] 25 ?_; intro gb337 hg w12 hbox hb; replace HO333 := Aside0.mk (Kd.R_below (uf1_ HO333) hb); replace HB := Aside0.mk (below_step (qz26_) hb); have BK337 := Aside0.mk (hbox); have GW337 := Aside0.mk ((g36_ : w.heap.size ≤ gb337)); have GE337 := Aside0.mk ((Nat.le_trans HW0.out (g36_ : w.heap.size ≤ gb337) : w0.heap.size ≤ gb337)); replace HK := Aside0.mk (KeepBut.trans (qz10_) (KeepBut.of_below hb g none) (.inl rfl)); have NB330_337 := Aside0.mk ((by rw [hg]; exact Nat.ne_of_lt (blk_lt (g := gb330) (o := .cells #[.slice none 0 0, .slice none 0 0] 25 (0, 0)) (uf0_ BK330)) : gb330 ≠ gb337)); have NB337_330 := Aside0.mk ((by rw [hg]; exact Nat.ne_of_gt (blk_lt (g := gb330) (o := .cells #[.slice none 0 0, .slice none 0 0] 25 (0, 0)) (uf0_ BK330)) : gb337 ≠ gb330)); replace BK330 := bb_ BK330 hb; have NB0_337 := Aside0.mk ((by rw [hg]; exact Nat.ne_of_lt (IsS112.lt (show IsS112 w0 _ g s0_0 t335 from qz25_)) : g ≠ gb337)); have NB337_0 := Aside0.mk ((by rw [hg]; exact Nat.ne_of_gt (IsS112.lt (show IsS112 w0 _ g s0_0 t335 from qz25_)) : gb337 ≠ g)); replace HI0 := Aside0.mk (IsS112.below (qz25_) hb); clear hb hbox hg; have hnb13 := NB337_330.out; have hnc13 := NB330_337.out; have hnb14 := NB337_0.out; have hnc14 := NB0_337.out; obtain ⟨hcz15_0, hcz15_1, hfz15_0, hfz15_1⟩ := blk2_ BK337) | ((with_reducible refine gate_callee (f := 70) rfl ?_); refine goesL_ (some 19) rfl rfl Try.func70 k_ rfl #[.pointer (some ⟨g, 0, none⟩), .int .i64 3] rfl (g2_) ?_; (with_reducible refine (spec_l20Rd_pick.calls k g s0_0 t335 3 t338 t339 w0 _ ?side1 ?side2 A6.out).mono ?_); (case side1 => exact qz25_); (case side2 => exact qz26_); rintro e w16 ⟨rfl, hi, hb, hk⟩; refine ⟨_, rfl, ?_⟩; replace BK330 := Aside0.mk (KeepBut.blk hk (g' := gb330) (o := .cells #[.slice none 0 0, .slice none 0 0] 25 (0, 0)) (by (with_reducible repeat (first | refine blk_drewN ?_ _ | refine blk_drew ?_ | refine blk_alloc ?_ _)); refine blk_far ?_ NB330_337.out _; (with_reducible repeat (first | refine blk_drewN ?_ _ | refine blk_drew ?_ | refine blk_alloc ?_ _)); refine blk_far ?_ NB330_337.out _; (with_reducible repeat (first | refine blk_drewN ?_ _ | refine blk_drew ?_ | refine blk_alloc ?_ _)); exact BK330.out) NB330_0.out (by simp)); replace HO333 := Aside0.mk (Kd.R_mono (Kd.R_keep (IsS112.apart (show IsS112 w0 _ g s0_0 t335 from qz25_) (by (with_reducible repeat (first | apply Kd.R_alloc | apply Kd.R_drewN | apply Kd.R_drew)); exact (Kd.R_mono (Kd.R_far (p := ⟨gb337, 1, none⟩) (Kd.R_far (p := ⟨gb337, 0, none⟩) (Kd.R_types HO333.out BK337.out (by decide)) (fun _ hk => hk.2) (.slice none 0 0)) (fun _ hk => hk.2) (.slice none 0 0)) (fun _ h_ => h_.1))) (by decide)) hk (fun _ h => h.2)) (fun _ h => h.1)); replace BK337 := Aside0.mk (KeepBut.blk hk (g' := gb337) (o := .cells #[.slice none 0 0, .slice none 0 0] 25 (0, 0)) (by (with_reducible repeat (first | refine blk_drewN ?_ _ | refine blk_drew ?_ | refine blk_alloc ?_ _)); refine blk_put (cs := #[.slice none 0 0, .slice none 0 0]) ?_ 1 _ rfl; (with_reducible repeat (first | refine blk_drewN ?_ _ | refine blk_drew ?_ | refine blk_alloc ?_ _)); refine blk_put (cs := #[.slice none 0 0, .slice none 0 0]) ?_ 0 _ rfl; (with_reducible repeat (first | refine blk_drewN ?_ _ | refine blk_drew ?_ | refine blk_alloc ?_ _)); exact BK337.out) NB337_0.out (by simp)); replace HK := Aside0.mk (KeepBut.trans (qz10_) hk (.inl rfl)); replace HB := Aside0.mk (hb); replace HI0 := Aside0.mk (hi); (try clear hb); (try clear hk hi)))
 go_loopg [8] k (fun kq v8 w' => ∃ (x8_1 : Int) (x1001_1 : Int) (x338000_1 : List Int) (x338001_1 : List (List Int)) (u338000 : Value) (u338001 : Value), v8 = .int .i64 x8_1 ∧ Aside0 (spec_l20Book.l0 kq a1 (rd y331 t334) t338 x8_1 s0_0 x1001_1 x338000_1 x338001_1 = some (r1, r2, r3)) ∧ Aside0 (kq ≤ k) ∧ Aside0 (Kd.R (Kd.int .i64) 3 w' w.heap.size (fun k_ => (w.heap.size ≤ k_)) u338000 x338000_1) ∧ Aside0 (Kd.S (Kd.slice 3 (Kd.int .i64)) 22 w' w.heap.size (fun k_ => (w.heap.size ≤ k_) ∧ some k_ ≠ (u338000 : Value).ownBlock) u338001 x338001_1) ∧ Aside0 (w'.heap[gb330]? = some (.cells #[(.slice none 0 0), (.slice none 0 0)] 25 (0, 0))) ∧ Aside0 (w'.heap[gb337]? = some (.cells #[u338000, u338001] 25 (0, 0))) ∧ Aside0 (IsS112 w0 w' g s0_0 x1001_1) ∧ Aside0 (KeepBut w w' g none) ∧ Aside0 (Below w0.heap.size w0 w'))
 case atStart => exact ⟨(0), (t339), (([] : List Int)), (([] : List (List Int))), (.slice none 0 0), (.slice none 0 0), (g3_), H', ⟨Nat.le_refl _⟩, ⟨g14_⟩, ⟨g17_⟩, ⟨uf0_ BK330⟩, ⟨uf0_ BK337⟩, ⟨qz25_⟩, ⟨qz10_⟩, ⟨qz26_⟩⟩
 case round =>
  clear H'
  try clear c1
  try clear p2
  try clear p3
  try clear q3
  try clear hx3
  try clear c4
  try clear c4b0
  try clear c5
  try clear c5b0
  try clear c7
  try clear c9
  try clear c13
  try clear c14
  try clear hcz15_0
  try clear hcz15_1
  try clear hfz15_0
  try clear hfz15_1
  try clear hx336_0
  try clear p336
  try clear q336
  obtain ⟨x8_1, x1001_1, x338000_1, x338001_1, u338000, u338001, rfl, HA, HK1, HO_338000, HO_338001, BK330, BK337, HI0, HK, HB⟩ := hrel
  cases gk with
  | zero => exact absurd HA.out (by simp [spec_l20Book.l0])
  | succ k1 =>
   have H := HA.out
   clear HA
   simp only [spec_l20Book.l0] at H
   by_cases c17 : x8_1 < (rd y331 t334)
   ·rw [if_pos c17] at H
    have c17b0 := decide_eq_true c17
    clear c17
    replace H := Option.bind_eq_some_iff.mp H
    obtain ⟨⟨t340, t341⟩, A180, H⟩ := H
    replace H : ((spec_l20Rd_pick.f k1 s0_0 t341 21).bind fun bt342 => ((some (([0, t340, bt342.1] : List Int) : List Int)).bind fun y344 => (if 0 ≤ t338 then (if t338 < (y344.length : Int) then (if x338000_1.length < 17592186044416 then (spec_l20Book.l1 k1 a1 (rd y331 t334) t338 x8_1 (([] : List Int)) 0 s0_0 bt342.2 (x338000_1 ++ [rd y344 t338]) x338001_1) else (none)) else (none)) else (none)))) = some (r1, r2, r3) := H
    have A18 := Aside0.mk A180
    clear A180
    replace H := Option.bind_eq_some_iff.mp H
    obtain ⟨⟨t342, t343⟩, A190, H⟩ := H
    replace H : ((some (([0, t340, t342] : List Int) : List Int)).bind fun y344 => (if 0 ≤ t338 then (if t338 < (y344.length : Int) then (if x338000_1.length < 17592186044416 then (spec_l20Book.l1 k1 a1 (rd y331 t334) t338 x8_1 (([] : List Int)) 0 s0_0 t343 (x338000_1 ++ [rd y344 t338]) x338001_1) else (none)) else (none)) else (none))) = some (r1, r2, r3) := H
    have A19 := Aside0.mk A190
    clear A190
    obtain ⟨y344, hy344⟩ : ∃ y_ : List Int, y_ = (([0, t340, t342] : List Int)) := ⟨_, rfl⟩
    replace H : (if 0 ≤ t338 then (if t338 < (y344.length : Int) then (if x338000_1.length < 17592186044416 then (spec_l20Book.l1 k1 a1 (rd y331 t334) t338 x8_1 (([] : List Int)) 0 s0_0 t343 (x338000_1 ++ [rd y344 t338]) x338001_1) else (none)) else (none)) else (none)) = some (r1, r2, r3) := by first | (rw [hy344]; with_reducible exact H) | (have H2_ := (Option.bind_some _ _).symm.trans H; rw [hy344]; with_reducible exact H2_) | (have H2_ := (Option.bind_some _ _).symm.trans H; with_reducible exact H2_) | with_reducible exact H | (rw [hy344]; exact H) | exact H
    have Ny344 := Aside0.mk hy344
    clear hy344
    obtain ⟨c20, H⟩ := pos_ H
    have c20b0 := decide_eq_true c20
    clear c20
    obtain ⟨c21, H⟩ := pos_ H
    have c21b0 := decide_eq_true c21
    clear c21
    obtain ⟨c22, H⟩ := pos_ H
    have LMc22 := Aside0.mk c22
    clear c22
    obtain ⟨y348, hy348⟩ : ∃ y_ : List Int, y_ = (x338000_1 ++ [rd y344 t338]) := ⟨_, rfl⟩
    replace H : (spec_l20Book.l1 k1 a1 (rd y331 t334) t338 x8_1 (([] : List Int)) 0 s0_0 t343 y348 x338001_1) = some (r1, r2, r3) := by first | (rw [hy348]; with_reducible exact H) | (have H2_ := (Option.bind_some _ _).symm.trans H; rw [hy348]; with_reducible exact H2_) | (have H2_ := (Option.bind_some _ _).symm.trans H; with_reducible exact H2_) | with_reducible exact H | (rw [hy348]; exact H) | exact H
    have Ny348 := Aside0.mk hy348
    clear hy348
    obtain ⟨y351, hy351⟩ : ∃ y_ : List Int, y_ = (([] : List Int)) := ⟨_, rfl⟩
    replace H : (spec_l20Book.l1 k1 a1 (rd y331 t334) t338 x8_1 y351 0 s0_0 t343 y348 x338001_1) = some (r1, r2, r3) := by first | (rw [hy351]; with_reducible exact H) | (have H2_ := (Option.bind_some _ _).symm.trans H; rw [hy351]; with_reducible exact H2_) | (have H2_ := (Option.bind_some _ _).symm.trans H; with_reducible exact H2_) | with_reducible exact H | (rw [hy351]; exact H) | exact H
    have Ny351 := Aside0.mk hy351
    clear hy351
    have H' := Aside0.mk H
    clear H
    try go_wp2
    have pi347 : (0 ≤ (t338 : Int)) = True := eq_true (of_decide_eq_true (g0_))
    have qi347 : (t338 < (y344.length : Int)) = True := eq_true (of_decide_eq_true (g0_))
    replace HO_338000 := Aside0.mk (Kd.R_drew HO_338000.out)
    replace HO_338001 := Aside0.mk (Kd.S_drew HO_338001.out)
    replace BK330 := Aside0.mk (blk_drew BK330.out)
    replace BK337 := Aside0.mk (blk_drew BK337.out)
    replace HI0 := Aside0.mk (IsS112.drew HI0.out)
    replace HK := Aside0.mk (keep_drew HK.out)
    replace HB := Aside0.mk (below_drew1 HB.out)
    refine start_ (n := 14) (S := fun w' => w'.cell? ⟨gb337, 0, none⟩ = some (u338000) ∧ w'.cell? ⟨gb337, 1, none⟩ = some (u338001)) (ds := [13]) (tl_ 14 0) (g1_) rfl (g1_) ⟨(blk_cell BK337.out 0).trans rfl, (blk_cell BK337.out 1).trans rfl⟩ (fun hHeld => ?_); refine with_tabW spec_l20Book.tab7 spec_l20Book.bits7 (fun HT_ HW_ => ?_)
    generalize wr.drew = w23 at HO_338000 HO_338001 BK330 BK337 HI0 HK HB hHeld ⊢
    refine pw_ 0 25 (tl_ 14 1) rfl rfl ?_
    refine pw_ 2 27 (tl_ 14 5) rfl rfl ?_
    refine pw_ 4 29 (tl_ 14 21) rfl rfl ?_
    refine pw_ 7 32 (tl_ 14 149) rfl rfl ?_
    refine tk0_ 1 26 (tl_ 14 151) rfl rfl hHeld ?_
    refine one_ (i := 3) (N := some 28) (tl_ 14 159) rfl rfl (one_of HT_.out (g1_)) (by decide) (fun K hK => ?_)
    refine goes_ Try.func70 (g1_) rfl #[.pointer (some ⟨g, 0, none⟩), .int .i64 4] (by rfl) rfl rfl (g2_) ?_
    with_reducible refine (spec_l20Rd_pick.calls k1 g s0_0 x1001_1 4 t340 t341 w0 _ ?side1 ?side2 A18.out).mono ?_
    (case side1 => exact qz25_)
    (case side2 => exact qz26_)
    rintro e w24 ⟨rfl, hi, hb, hk⟩
    refine ⟨_, rfl, ?_⟩
    replace HO_338000 := Aside0.mk (Kd.R_mono (Kd.R_keep (IsS112.apart (show IsS112 w0 _ g s0_0 x1001_1 from qz25_) (uf1_ HO_338000) (by decide)) hk (fun _ h => h.2)) (fun _ h => h.1))
    replace HO_338001 := Aside0.mk (Kd.S_mono (Kd.S_keep (IsS112.apartS (show IsS112 w0 _ g s0_0 x1001_1 from qz25_) (uf2_ HO_338001) (by decide)) hk (fun _ h => h.2)) (fun _ h => h.1))
    replace BK330 := Aside0.mk (KeepBut.blk hk (g' := gb330) (o := .cells #[.slice none 0 0, .slice none 0 0] 25 (0, 0)) (uf0_ BK330) NB330_0.out (by simp))
    replace BK337 := Aside0.mk (KeepBut.blk hk (g' := gb337) (o := .cells #[u338000, u338001] 25 (0, 0)) (uf0_ BK337) NB337_0.out (by simp))
    replace HK := Aside0.mk (KeepBut.trans (qz10_) hk (.inl rfl))
    replace HB := Aside0.mk (hb)
    replace HI0 := Aside0.mk (hi)
    (try clear hb)
    (try clear hk hi)
    refine hK.out _ _ ⟨(blk_cell BK337.out 0).trans rfl, (blk_cell BK337.out 1).trans rfl⟩ (fun hHeld => ?_)
    clear hK K
    refine nm_ ?_
    refine one_ (i := 5) (N := some 30) (tl_ 14 191) rfl rfl (one_of HT_.out (g1_)) (by decide) (fun K hK => ?_)
    refine goes_ Try.func70 (g1_) rfl #[.pointer (some ⟨g, 0, none⟩), .int .i64 21] (by rfl) rfl rfl (g2_) ?_
    with_reducible refine (spec_l20Rd_pick.calls k1 g s0_0 t341 21 t342 t343 w0 _ ?side1 ?side2 A19.out).mono ?_
    (case side1 => exact qz25_)
    (case side2 => exact qz26_)
    rintro e w25 ⟨rfl, hi, hb, hk⟩
    refine ⟨_, rfl, ?_⟩
    replace HO_338000 := Aside0.mk (Kd.R_mono (Kd.R_keep (IsS112.apart (show IsS112 w0 _ g s0_0 t341 from qz25_) (uf1_ HO_338000) (by decide)) hk (fun _ h => h.2)) (fun _ h => h.1))
    replace HO_338001 := Aside0.mk (Kd.S_mono (Kd.S_keep (IsS112.apartS (show IsS112 w0 _ g s0_0 t341 from qz25_) (uf2_ HO_338001) (by decide)) hk (fun _ h => h.2)) (fun _ h => h.1))
    replace BK330 := Aside0.mk (KeepBut.blk hk (g' := gb330) (o := .cells #[.slice none 0 0, .slice none 0 0] 25 (0, 0)) (uf0_ BK330) NB330_0.out (by simp))
    replace BK337 := Aside0.mk (KeepBut.blk hk (g' := gb337) (o := .cells #[u338000, u338001] 25 (0, 0)) (uf0_ BK337) NB337_0.out (by simp))
    replace HK := Aside0.mk (KeepBut.trans (qz10_) hk (.inl rfl))
    replace HB := Aside0.mk (hb)
    replace HI0 := Aside0.mk (hi)
    (try clear hb)
    (try clear hk hi)
    refine hK.out _ _ ⟨(blk_cell BK337.out 0).trans rfl, (blk_cell BK337.out 1).trans rfl⟩ (fun hHeld => ?_)
    clear hK K
    refine nm_ ?_
    refine one_ (i := 6) (N := some 31) (tl_ 14 255) rfl rfl (one_of HT_.out (g1_)) (by decide) (fun K hK => ?_)
    refine Kd.R_lit_step (Kd.int .i64) _ 3 ?hg (N := 31) ?hd (xs := ([0, t340, t342] : List Int)) (inner := [.int .i64 0, .int .i64 t340, .int .i64 t342]) (ok := fun _ => True) (okp := fun _ => True) ?hr ?hp (fun _ hk => hk) trivial (Below.refl _ _) (Nat.le_refl _) (by simp) ?_; (case hd => rfl); (case hg => rfl); (case hr => first | (go_simp; done) | (go_simp; rfl)); (case hp => exact (Reps.one (show Kd.M (Kd.int .i64) _ _ _ 0 [.int .i64 0] from rfl) (Reps.one (show Kd.M (Kd.int .i64) _ _ _ t340 [.int .i64 t340] from rfl) (Reps.one (show Kd.M (Kd.int .i64) _ _ _ t342 [.int .i64 t342] from rfl) (Reps.none _ _)))))
    intro v345 w26 ho27 hb hg_ hnew_
    clear hg_ hnew_
    (first | rw [← Ny344.out] at ho27 | (simp only [Int.reduceToNat] at ho27; rw [← Ny344.out] at ho27))
    replace HO_338001 := Aside0.mk (Kd.S_elder' (uf2_ HO_338001) (Kd.R_base ho27) hb)
    have HO346 := Aside0.mk (Kd.R_lower (Kd.R_new' (Kd.R_newM (M := fun k_ => (w.heap.size ≤ k_)) ho27 (keep_size (w := w) (g := g) (row := none) (qz10_)) (fun k_ h_ => h_)) (Kd.R_lt (uf1_ HO_338000))) (keep_size (w := w) (g := g) (row := none) (qz10_)))
    replace HO_338000 := Aside0.mk (Kd.R_elder' (uf1_ HO_338000) (Kd.R_base ho27) hb)
    replace BK330 := bb_ BK330 hb
    replace BK337 := bb_ BK337 hb
    replace HK := Aside0.mk (KeepBut.trans (qz10_) (KeepBut.of_below hb g none) (.inl rfl))
    replace HB := Aside0.mk (below_step (qz26_) hb)
    replace HI0 := Aside0.mk (IsS112.below (qz25_) hb)
    clear hb ho27
    obtain ⟨Ao28, co28, eo28⟩ := Kd.R_slice HO346.out
    subst eo28
    obtain ⟨ado28, fo28, _⟩ := Kd.at_int (Kd.R_reads' HO346.out).2.2 0 (by decide) (by rw [Ny344.out]; simp)
    cases fo28
    refine hK.out _ _ ⟨(blk_cell BK337.out 0).trans rfl, (blk_cell BK337.out 1).trans rfl⟩ (fun hHeld => ?_)
    clear hK K
    refine nm_ ?_
    refine pw_ 8 33 (tl_ 14 511) rfl rfl ?_
    refine one_ (i := 9) (N := some 34) (tl_ 14 1023) rfl rfl (one_of HT_.out (g1_)) (by decide) (fun K hK => ?_)
    (have p347 : 0 ≤ (t338 : Int) := of_decide_eq_true (g0_); have q347 : t338 < (y344.length : Int) := of_decide_eq_true (g0_); obtain ⟨ad347, e347, hx347_0⟩ := Kd.at_int (Kd.R_reads' HO346.out).2.2 t338 p347 q347; obtain rfl : ado28 = ad347 := (by injection e347))
    refine value_ (w1 := ?_) (v := ?_) (by rfl) rfl ?_ ?_
    rotate_left 2
    ·go_simp
     constructor
     ·rfl
     ·rfl
    clear hx347_0
    refine hK.out _ _ ⟨(blk_cell BK337.out 0).trans rfl, (blk_cell BK337.out 1).trans rfl⟩ (fun hHeld => ?_)
    clear hK K
    refine nm_ ?_
    refine one_ (i := 10) (N := some 35) (tl_ 14 2047) rfl rfl (one_of HT_.out (g1_)) (by decide) (fun K hK => ?_)
    refine value_ (w1 := ?_) (v := ?_) (by rfl) rfl ?_ ?_
    rotate_left 2
    ·go_simp
     constructor
     ·rfl
     ·rfl
    refine hK.out _ _ ⟨(blk_cell (blk_alloc BK337.out _) 0).trans rfl, (blk_cell (blk_alloc BK337.out _) 1).trans rfl⟩ (fun hHeld => ?_)
    clear hK K
    refine nm_ ?_
    refine one_ (i := 11) (N := some 36) (tl_ 14 4095) rfl rfl (one_of HT_.out (g1_)) (by decide) (fun K hK => ?_)
    refine Kd.R_append_step (Kd.int .i64) w.heap.size (by rfl) (.tmp 26) (.tmp 35) 22 3 (.int .i64 0) 8 rfl Try.underlying22 info3 rfl (by decide) (by omega) u338000 x338000_1 (rd y344 t338) [.int .i64 (rd y344 t338)] (fun k_ => (w.heap.size ≤ k_) ∧ some k_ ≠ (.slice (some ado28) y344.length co28 : Value).ownBlock) (fun _ => False) rfl rfl ?aP (fun _ hk => hk.elim) ?aF ?aO (Below.refl _ _) ?aS ?aL ?_
    (case aP => exact rfl)
    (case aF => exact (fun k_ hk => ⟨(Nat.le_trans (keep_size (w := w) (g := g) (row := none) (qz10_)) hk), Kd.fresh' (Kd.R_lt (uf1_ HO346)) k_ hk⟩))
    (case aO => exact (uf1_ HO_338000))
    (case aS => exact (keep_size (w := w) (g := g) (row := none) (qz10_)))
    (case aL => have := LMc22.out; omega)
    intro v349 w29 ho hb hg hat
    rw [← Ny348.out] at ho
    replace HO_338001 := Aside0.mk (Kd.S_after (ok := (fun k_ => (w.heap.size ≤ k_) ∧ some k_ ≠ (.slice (some ado28) y344.length co28 : Value).ownBlock)) (by (with_reducible repeat (first | apply Kd.S_alloc | apply Kd.S_drewN | apply Kd.S_drew)); exact Kd.S_mono HO_338001.out (fun _ hk => ⟨⟨hk.1.1, hk.2⟩, hk.1.2⟩)) hg hat)
    replace BK330 := Aside0.mk (blk_grown (g := gb330) (o := .cells #[.slice none 0 0, .slice none 0 0] 25 (0, 0)) (uf0_ BK330) hg (Kd.R_ne HO_338000.out BK330.out (by decide)))
    replace BK337 := Aside0.mk (blk_grown (g := gb337) (o := .cells #[u338000, u338001] 25 (0, 0)) (uf0_ BK337) hg (Kd.R_ne HO_338000.out BK337.out (by decide)))
    replace HO346 := Aside0.mk (Kd.R_after (ok := (fun k_ => (w.heap.size ≤ k_))) (by (with_reducible repeat (first | apply Kd.R_alloc | apply Kd.R_drewN | apply Kd.R_drew)); exact Kd.R_mono HO346.out (fun _ hk => ⟨hk.1.1, hk.2⟩)) hg hat)
    replace HB := Aside0.mk (below_weaken (qz26_) HL.out hb)
    replace HI0 := Aside0.mk (IsS112.grown (qz25_) hg (IsS112.own_ne HI0.out HO_338000.out (by decide)))
    replace HK := Aside0.mk (KeepBut.trans (qz10_) (KeepBut.of_grown hg g) (Kd.R_base2 HO_338000.out))
    have HO350 := Aside0.mk (ho)
    clear HO_338000
    clear ho hb hg hat
    obtain ⟨Ao30, co30, eo30⟩ := Kd.R_slice HO350.out
    (first | subst eo30 | (injection eo30 with f1_ f2_ f3_; have f4_ := f1_.symm; have f5_ := f3_.symm; clear f1_ f2_ f3_; subst f4_; subst f5_))
    refine hK.out _ _ ⟨(blk_cell BK337.out 0).trans rfl, (blk_cell BK337.out 1).trans rfl⟩ (fun hHeld => ?_)
    clear hK K
    refine nm_ ?_
    refine pw_ 12 37 (tl_ 14 8191) rfl rfl ?_
    refine last_ (i := 13) (N := none) (tl_ 14 16383) rfl rfl (one_of HT_.out (g1_)) (by decide) (fun K hK => ?_)
    have hs31 : w29.cell? ⟨gb337, 0, none⟩ = some (u338000) := (blk_cell BK337.out 0).trans rfl
    have hfs31 := blk_frozen BK337.out 0
    have hns31_0 := NB330_337.out
    have hms31_0 := NB337_330.out
    refine skip_ (w1 := ?_) (by rfl) rfl ?_ ?_
    rotate_left
    ·go_simp
     rfl
    refine hK.out _ _ ?_
    clear hK K
    refine done_ (done_of HT_.out (g1_)) ?_
    try go_wp2_with (first | ((with_reducible refine gate_dst (N := 38) rfl ?_); refine Kd.R_lit (Kd.int .i64) _ 3 ?hg (N := 38) ?hd (xs := ([] : List Int)) (inner := []) (ok := fun _ => True) (okp := fun _ => True) ?hr ?hp (fun _ hk => hk) trivial (Below.refl _ _) (Nat.le_refl _) (by simp) ?_; (case hd => rfl); (case hg => rfl); (case hr => first | (go_simp; done) | (go_simp; rfl)); (case hp => exact (Reps.none _ _)); intro v352 w32 ho33 hb hg_ hnew_; clear hg_ hnew_; (first | rw [← Ny351.out] at ho33 | (simp only [Int.reduceToNat] at ho33; rw [← Ny351.out] at ho33)); replace HO_338001 := Aside0.mk (Kd.S_elder' (by (with_reducible repeat (first | apply Kd.S_alloc | apply Kd.S_drewN | apply Kd.S_drew)); exact (Kd.S_mono (Kd.S_far (p := ⟨gb337, 0, none⟩) (Kd.S_types HO_338001.out BK337.out (by decide)) (fun _ hk => hk.2) (.slice Ao30 y348.length co30)) (fun _ h_ => h_.1))) (Kd.R_base ho33) hb); have HO353 := Aside0.mk (Kd.R_lower (Kd.R_new' (Kd.R_new' (Kd.R_newM (M := fun k_ => (w.heap.size ≤ k_)) ho33 (keep_size (w := w) (g := g) (row := none) (qz10_)) (fun k_ h_ => h_)) (Kd.R_lt (by (with_reducible repeat (first | apply Kd.R_alloc | apply Kd.R_drewN | apply Kd.R_drew)); exact (Kd.R_mono (Kd.R_far (p := ⟨gb337, 0, none⟩) (Kd.R_types HO346.out BK337.out (by decide)) (fun _ hk => hk.2) (.slice Ao30 y348.length co30)) (fun _ h_ => h_.1))))) (Kd.R_lt (by (with_reducible repeat (first | apply Kd.R_alloc | apply Kd.R_drewN | apply Kd.R_drew)); exact (Kd.R_mono (Kd.R_far (p := ⟨gb337, 0, none⟩) (Kd.R_types HO350.out BK337.out (by decide)) (fun _ hk => hk.2) (.slice Ao30 y348.length co30)) (fun _ h_ => h_.1))))) (keep_size (w := w) (g := g) (row := none) (qz10_))); replace HO346 := Aside0.mk (Kd.R_elder' (by (with_reducible repeat (first | apply Kd.R_alloc | apply Kd.R_drewN | apply Kd.R_drew)); exact (Kd.R_mono (Kd.R_far (p := ⟨gb337, 0, none⟩) (Kd.R_types HO346.out BK337.out (by decide)) (fun _ hk => hk.2) (.slice Ao30 y348.length co30)) (fun _ h_ => h_.1))) (Kd.R_base ho33) hb); replace HO350 := Aside0.mk (Kd.R_elder' (by (with_reducible repeat (first | apply Kd.R_alloc | apply Kd.R_drewN | apply Kd.R_drew)); exact (Kd.R_mono (Kd.R_far (p := ⟨gb337, 0, none⟩) (Kd.R_types HO350.out BK337.out (by decide)) (fun _ hk => hk.2) (.slice Ao30 y348.length co30)) (fun _ h_ => h_.1))) (Kd.R_base ho33) hb); replace BK330 := Aside0.mk (blk_below (g := gb330) (o := .cells #[.slice none 0 0, .slice none 0 0] 25 (0, 0)) (by (with_reducible repeat (first | refine blk_drewN ?_ _ | refine blk_drew ?_ | refine blk_alloc ?_ _)); refine blk_far ?_ NB330_337.out _; (with_reducible repeat (first | refine blk_drewN ?_ _ | refine blk_drew ?_ | refine blk_alloc ?_ _)); exact BK330.out) hb); replace BK337 := Aside0.mk (blk_below (g := gb337) (o := .cells #[.slice Ao30 y348.length co30, u338001] 25 (0, 0)) (by (with_reducible repeat (first | refine blk_drewN ?_ _ | refine blk_drew ?_ | refine blk_alloc ?_ _)); refine blk_put (cs := #[u338000, u338001]) ?_ 0 _ rfl; (with_reducible repeat (first | refine blk_drewN ?_ _ | refine blk_drew ?_ | refine blk_alloc ?_ _)); exact BK337.out) hb); replace HK := Aside0.mk (KeepBut.trans (qz10_) (KeepBut.of_below hb g none) (.inl rfl)); replace HB := Aside0.mk (below_step (qz26_) hb); replace HI0 := Aside0.mk (IsS112.below (show IsS112 w0 (w29.setCell ⟨gb337, 0, none⟩ (.slice Ao30 y348.length co30)) g s0_0 t343 from qz25_) hb); clear hb ho33))
    go_loopg [9, 10] k1 (fun kq v9 v10 w' => ∃ (x9_2 : List Int) (x10_2 : Int) (x1001_2 : Int), v10 = .int .i64 x10_2 ∧ Aside0 (spec_l20Book.l1 kq a1 (rd y331 t334) t338 x8_1 x9_2 x10_2 s0_0 x1001_2 y348 x338001_1 = some (r1, r2, r3)) ∧ Aside0 (kq ≤ k1) ∧ Aside0 (Kd.R (Kd.int .i64) 3 w' w.heap.size (fun k_ => (w.heap.size ≤ k_) ∧ some k_ ≠ ((.slice Ao30 y348.length co30) : Value).ownBlock) v9 x9_2) ∧ Aside0 (Kd.R (Kd.int .i64) 3 w' w.heap.size (fun k_ => (w.heap.size ≤ k_) ∧ some k_ ≠ (v9 : Value).ownBlock) (.slice Ao30 y348.length co30) y348) ∧ Aside0 (Kd.S (Kd.slice 3 (Kd.int .i64)) 22 w' w.heap.size (fun k_ => (w.heap.size ≤ k_) ∧ some k_ ≠ (v9 : Value).ownBlock ∧ some k_ ≠ ((.slice Ao30 y348.length co30) : Value).ownBlock) u338001 x338001_1) ∧ Aside0 (w'.heap[gb330]? = some (.cells #[(.slice none 0 0), (.slice none 0 0)] 25 (0, 0))) ∧ Aside0 (w'.heap[gb337]? = some (.cells #[(.slice Ao30 y348.length co30), u338001] 25 (0, 0))) ∧ Aside0 (IsS112 w0 w' g s0_0 x1001_2) ∧ Aside0 (KeepBut w w' g none) ∧ Aside0 (Below w0.heap.size w0 w'))
    case atStart => exact ⟨(y351), (0), (t343), (g3_), H', ⟨Nat.le_refl _⟩, ⟨by (with_reducible repeat (first | apply Kd.R_alloc | apply Kd.R_drewN | apply Kd.R_drew)); exact Kd.R_mono HO353.out (fun _ hk => ⟨hk.1.1.1, hk.2⟩)⟩, ⟨by (with_reducible repeat (first | apply Kd.R_alloc | apply Kd.R_drewN | apply Kd.R_drew)); exact Kd.R_mono HO350.out (fun _ hk => ⟨hk.1.1, hk.2⟩)⟩, ⟨by (with_reducible repeat (first | apply Kd.S_alloc | apply Kd.S_drewN | apply Kd.S_drew)); exact Kd.S_mono HO_338001.out (fun _ hk => ⟨hk.1.1.1, ⟨hk.2, hk.1.2⟩⟩)⟩, ⟨uf0_ BK330⟩, ⟨uf0_ BK337⟩, ⟨qz25_⟩, ⟨qz10_⟩, ⟨qz26_⟩⟩
    case round =>
     clear H'
     try clear c1
     try clear c2
     try clear p2
     try clear p3
     try clear q3
     try clear hx3
     try clear qi3
     try clear c4
     try clear c4b0
     try clear c5
     try clear c5b0
     try clear c7
     try clear c9
     try clear c13
     try clear c14
     try clear c17
     try clear c17b0
     try clear c20
     try clear c20b0
     try clear c21
     try clear c21b0
     try clear c22
     try clear p33
     try clear q33
     try clear hx33
     try clear hcz15_0
     try clear hcz15_1
     try clear hfz15_0
     try clear hfz15_1
     try clear hx336_0
     try clear hx347_0
     try clear p2
     try clear p3
     try clear p336
     try clear p347
     try clear q3
     try clear q336
     try clear q347
     obtain ⟨x9_2, x10_2, x1001_2, rfl, HA, HK2, HO_9, HO_338000, HO_338001, BK330, BK337, HI0, HK, HB⟩ := hrel
     cases gk with
     | zero => exact absurd HA.out (by simp [spec_l20Book.l1])
     | succ k2 =>
      have H := HA.out
      clear HA
      simp only [spec_l20Book.l1] at H
      by_cases c34 : x10_2 < (rd y331 t334)
      ·rw [if_pos c34] at H
       have c34b0 := decide_eq_true c34
       clear c34
       by_cases c35 : x8_1 = x10_2
       ·rw [if_pos c35] at H
        have c35b0 : (x8_1 == x10_2) = true := beq_iff_eq.mpr c35
        have c35b1 : (x8_1 != x10_2) = false := bne_eq_false_iff_eq.mpr c35
        clear c35
        obtain ⟨c36, H⟩ := pos_ H
        have LMc36 := Aside0.mk c36
        clear c36
        obtain ⟨y357, hy357⟩ : ∃ y_ : List Int, y_ = (x9_2 ++ [0]) := ⟨_, rfl⟩
        replace H : (spec_l20Book.l1 k2 a1 (rd y331 t334) t338 x8_1 y357 (wrap64 (x10_2 + 1)) s0_0 x1001_2 y348 x338001_1) = some (r1, r2, r3) := by first | (rw [hy357]; with_reducible exact H) | (have H2_ := (Option.bind_some _ _).symm.trans H; rw [hy357]; with_reducible exact H2_) | (have H2_ := (Option.bind_some _ _).symm.trans H; with_reducible exact H2_) | with_reducible exact H | (rw [hy357]; exact H) | exact H
        have Ny357 := Aside0.mk hy357
        clear hy357
        have H' := Aside0.mk H
        clear H
        go_wp2_with (first | ((with_reducible refine gate_builtin (b := .append) (xs := #[.tmp 54, .tmp 56]) rfl ?_); at_builtin; refine Kd.R_append (Kd.int .i64) w.heap.size rfl (.tmp 54) (.tmp 56) 22 3 (.int .i64 0) 8 rfl Try.underlying22 info3 rfl (by decide) (by omega) u9 x9_2 0 [.int .i64 0] (fun k_ => (w.heap.size ≤ k_) ∧ some k_ ≠ (.slice Ao30 y348.length co30 : Value).ownBlock) (fun _ => False) rfl rfl ?aP (fun _ hk => hk.elim) ?aF ?aO (Below.refl _ _) ?aS ?aL ?_; (case aP => exact rfl); (case aF => exact (fun k_ hk => ⟨(Nat.le_trans (keep_size (w := w) (g := g) (row := none) (qz10_)) hk), Kd.fresh' (Kd.R_lt (uf1_ HO_338000)) k_ hk⟩)); (case aO => exact (uf1_ HO_9)); (case aS => exact (keep_size (w := w) (g := g) (row := none) (qz10_))); (case aL => have := LMc36.out; omega); intro v358 w37 ho hb hg hat; rw [← Ny357.out] at ho; replace HO_338000 := Aside0.mk (Kd.R_after (ok := (fun k_ => (w.heap.size ≤ k_))) (uf1_ HO_338000) hg hat); replace HO_338001 := Aside0.mk (Kd.S_after (ok := (fun k_ => (w.heap.size ≤ k_) ∧ some k_ ≠ (.slice Ao30 y348.length co30 : Value).ownBlock)) (g51_) hg hat); replace BK330 := Aside0.mk (blk_grown (g := gb330) (o := .cells #[.slice none 0 0, .slice none 0 0] 25 (0, 0)) (uf0_ BK330) hg (Kd.R_ne HO_9.out BK330.out (by decide))); replace BK337 := Aside0.mk (blk_grown (g := gb337) (o := .cells #[.slice Ao30 y348.length co30, u338001] 25 (0, 0)) (uf0_ BK337) hg (Kd.R_ne HO_9.out BK337.out (by decide))); replace HB := Aside0.mk (below_weaken (qz26_) HL.out hb); replace HI0 := Aside0.mk (IsS112.grown (qz25_) hg (IsS112.own_ne HI0.out HO_9.out (by decide))); replace HK := Aside0.mk (KeepBut.trans (qz10_) (KeepBut.of_grown hg g) (Kd.R_base2 HO_9.out)); have HO359 := Aside0.mk (ho); clear HO_9; clear ho hb hg hat))
        go_roundg k2
        case measure => have := HK1.out; have := HK2.out; omega
        case rel => exact ⟨(y357), (wrap64 (x10_2 + 1)), (x1001_2), (g3_), H', ⟨g11_⟩, ⟨uf1_ HO359⟩, ⟨uf1_ HO_338000⟩, ⟨g52_⟩, ⟨uf0_ BK330⟩, ⟨uf0_ BK337⟩, ⟨qz25_⟩, ⟨qz10_⟩, ⟨qz26_⟩⟩
       ·rw [if_neg c35] at H
        have c35b0 : (x8_1 == x10_2) = false := beq_eq_false_iff_ne.mpr c35
        have c35b1 : (x8_1 != x10_2) = true := bne_iff_ne.mpr c35
        replace H := Option.bind_eq_some_iff.mp H
        obtain ⟨⟨t360, t361⟩, A380, H⟩ := H
        replace H : (if t360 > 0 then ((spec_l20Rd_pick.f k2 s0_0 t361 10).bind fun bt362 => (if x9_2.length < 17592186044416 then (spec_l20Book.l1 k2 a1 (rd y331 t334) t338 x8_1 (x9_2 ++ [bt362.1]) (wrap64 (x10_2 + 1)) s0_0 bt362.2 y348 x338001_1) else (none))) else (if x9_2.length < 17592186044416 then (spec_l20Book.l1 k2 a1 (rd y331 t334) t338 x8_1 (x9_2 ++ [0]) (wrap64 (x10_2 + 1)) s0_0 t361 y348 x338001_1) else (none))) = some (r1, r2, r3) := H
        have A38 := Aside0.mk A380
        clear A380
        by_cases c39 : t360 > 0
        ·rw [if_pos c39] at H
         have c39b0 := decide_eq_true c39
         clear c39
         replace H := Option.bind_eq_some_iff.mp H
         obtain ⟨⟨t362, t363⟩, A400, H⟩ := H
         replace H : (if x9_2.length < 17592186044416 then (spec_l20Book.l1 k2 a1 (rd y331 t334) t338 x8_1 (x9_2 ++ [t362]) (wrap64 (x10_2 + 1)) s0_0 t363 y348 x338001_1) else (none)) = some (r1, r2, r3) := H
         have A40 := Aside0.mk A400
         clear A400
         obtain ⟨c41, H⟩ := pos_ H
         have LMc41 := Aside0.mk c41
         clear c41
         obtain ⟨y364, hy364⟩ : ∃ y_ : List Int, y_ = (x9_2 ++ [t362]) := ⟨_, rfl⟩
         replace H : (spec_l20Book.l1 k2 a1 (rd y331 t334) t338 x8_1 y364 (wrap64 (x10_2 + 1)) s0_0 t363 y348 x338001_1) = some (r1, r2, r3) := by first | (rw [hy364]; with_reducible exact H) | (have H2_ := (Option.bind_some _ _).symm.trans H; rw [hy364]; with_reducible exact H2_) | (have H2_ := (Option.bind_some _ _).symm.trans H; with_reducible exact H2_) | with_reducible exact H | (rw [hy364]; exact H) | exact H
         have Ny364 := Aside0.mk hy364
         clear hy364
         have H' := Aside0.mk H
         clear H
         go_wp2_with (first | (go_at_call 70; (with_reducible refine (spec_l20Rd_pick.calls k2 g s0_0 x1001_2 3 t360 t361 w0 _ ?side1 ?side2 A38.out).mono ?_); (case side1 => exact qz25_); (case side2 => exact qz26_); rintro e w42 ⟨rfl, hi, hb, hk⟩; replace HO_9 := Aside0.mk (Kd.R_mono (Kd.R_keep (IsS112.apart (show IsS112 w0 _ g s0_0 x1001_2 from qz25_) (uf1_ HO_9) (by decide)) hk (fun _ h => h.2)) (fun _ h => h.1)); replace HO_338000 := Aside0.mk (Kd.R_mono (Kd.R_keep (IsS112.apart (show IsS112 w0 _ g s0_0 x1001_2 from qz25_) (uf1_ HO_338000) (by decide)) hk (fun _ h => h.2)) (fun _ h => h.1)); replace HO_338001 := Aside0.mk (Kd.S_mono (Kd.S_keep (IsS112.apartS (show IsS112 w0 _ g s0_0 x1001_2 from qz25_) (uf2_ HO_338001) (by decide)) hk (fun _ h => h.2)) (fun _ h => h.1)); replace BK330 := Aside0.mk (KeepBut.blk hk (g' := gb330) (o := .cells #[.slice none 0 0, .slice none 0 0] 25 (0, 0)) (uf0_ BK330) NB330_0.out (by simp)); replace BK337 := Aside0.mk (KeepBut.blk hk (g' := gb337) (o := .cells #[.slice Ao30 y348.length co30, u338001] 25 (0, 0)) (uf0_ BK337) NB337_0.out (by simp)); replace HK := Aside0.mk (KeepBut.trans (qz10_) hk (.inl rfl)); replace HB := Aside0.mk (hb); replace HI0 := Aside0.mk (hi); (try clear hb); (try clear hk hi)) | ((with_reducible refine gate_callee (f := 70) rfl ?_); refine goesL_ (some 53) rfl rfl Try.func70 k_ rfl #[.pointer (some ⟨g, 0, none⟩), .int .i64 10] rfl (g2_) ?_; (with_reducible refine (spec_l20Rd_pick.calls k2 g s0_0 t361 10 t362 t363 w0 _ ?side1 ?side2 A40.out).mono ?_); (case side1 => exact qz25_); (case side2 => exact qz26_); rintro e w43 ⟨rfl, hi, hb, hk⟩; refine ⟨_, rfl, ?_⟩; replace HO_9 := Aside0.mk (Kd.R_mono (Kd.R_keep (IsS112.apart (show IsS112 w0 _ g s0_0 t361 from qz25_) (uf1_ HO_9) (by decide)) hk (fun _ h => h.2)) (fun _ h => h.1)); replace HO_338000 := Aside0.mk (Kd.R_mono (Kd.R_keep (IsS112.apart (show IsS112 w0 _ g s0_0 t361 from qz25_) (uf1_ HO_338000) (by decide)) hk (fun _ h => h.2)) (fun _ h => h.1)); replace HO_338001 := Aside0.mk (Kd.S_mono (Kd.S_keep (IsS112.apartS (show IsS112 w0 _ g s0_0 t361 from qz25_) (uf2_ HO_338001) (by decide)) hk (fun _ h => h.2)) (fun _ h => h.1)); replace BK330 := Aside0.mk (KeepBut.blk hk (g' := gb330) (o := .cells #[.slice none 0 0, .slice none 0 0] 25 (0, 0)) (uf0_ BK330) NB330_0.out (by simp)); replace BK337 := Aside0.mk (KeepBut.blk hk (g' := gb337) (o := .cells #[.slice Ao30 y348.length co30, u338001] 25 (0, 0)) (uf0_ BK337) NB337_0.out (by simp)); replace HK := Aside0.mk (KeepBut.trans (qz10_) hk (.inl rfl)); replace HB := Aside0.mk (hb); replace HI0 := Aside0.mk (hi); (try clear hb); (try clear hk hi)) | ((with_reducible refine gate_builtin (b := .append) (xs := #[.tmp 54, .tmp 56]) rfl ?_); at_builtin; refine Kd.R_append (Kd.int .i64) w.heap.size rfl (.tmp 54) (.tmp 56) 22 3 (.int .i64 0) 8 rfl Try.underlying22 info3 rfl (by decide) (by omega) u9 x9_2 t362 [.int .i64 t362] (fun k_ => (w.heap.size ≤ k_) ∧ some k_ ≠ (.slice Ao30 y348.length co30 : Value).ownBlock) (fun _ => False) rfl rfl ?aP (fun _ hk => hk.elim) ?aF ?aO (Below.refl _ _) ?aS ?aL ?_; (case aP => exact rfl); (case aF => exact (fun k_ hk => ⟨(Nat.le_trans (keep_size (w := w) (g := g) (row := none) (qz10_)) hk), Kd.fresh' (Kd.R_lt (uf1_ HO_338000)) k_ hk⟩)); (case aO => exact (uf1_ HO_9)); (case aS => exact (keep_size (w := w) (g := g) (row := none) (qz10_))); (case aL => have := LMc41.out; omega); intro v365 w44 ho hb hg hat; rw [← Ny364.out] at ho; replace HO_338000 := Aside0.mk (Kd.R_after (ok := (fun k_ => (w.heap.size ≤ k_))) (uf1_ HO_338000) hg hat); replace HO_338001 := Aside0.mk (Kd.S_after (ok := (fun k_ => (w.heap.size ≤ k_) ∧ some k_ ≠ (.slice Ao30 y348.length co30 : Value).ownBlock)) (g51_) hg hat); replace BK330 := Aside0.mk (blk_grown (g := gb330) (o := .cells #[.slice none 0 0, .slice none 0 0] 25 (0, 0)) (uf0_ BK330) hg (Kd.R_ne HO_9.out BK330.out (by decide))); replace BK337 := Aside0.mk (blk_grown (g := gb337) (o := .cells #[.slice Ao30 y348.length co30, u338001] 25 (0, 0)) (uf0_ BK337) hg (Kd.R_ne HO_9.out BK337.out (by decide))); replace HB := Aside0.mk (below_weaken (qz26_) HL.out hb); replace HI0 := Aside0.mk (IsS112.grown (qz25_) hg (IsS112.own_ne HI0.out HO_9.out (by decide))); replace HK := Aside0.mk (KeepBut.trans (qz10_) (KeepBut.of_grown hg g) (Kd.R_base2 HO_9.out)); have HO366 := Aside0.mk (ho); clear HO_9; clear ho hb hg hat))
         go_roundg k2
         case measure => have := HK1.out; have := HK2.out; omega
         case rel => exact ⟨(y364), (wrap64 (x10_2 + 1)), (t363), (g3_), H', ⟨g11_⟩, ⟨uf1_ HO366⟩, ⟨uf1_ HO_338000⟩, ⟨g52_⟩, ⟨uf0_ BK330⟩, ⟨uf0_ BK337⟩, ⟨qz25_⟩, ⟨qz10_⟩, ⟨qz26_⟩⟩
        ·rw [if_neg c39] at H
         have c39b0 := decide_eq_false c39
         clear c39
         obtain ⟨c45, H⟩ := pos_ H
         have LMc45 := Aside0.mk c45
         clear c45
         obtain ⟨y367, hy367⟩ : ∃ y_ : List Int, y_ = (x9_2 ++ [0]) := ⟨_, rfl⟩
         replace H : (spec_l20Book.l1 k2 a1 (rd y331 t334) t338 x8_1 y367 (wrap64 (x10_2 + 1)) s0_0 t361 y348 x338001_1) = some (r1, r2, r3) := by first | (rw [hy367]; with_reducible exact H) | (have H2_ := (Option.bind_some _ _).symm.trans H; rw [hy367]; with_reducible exact H2_) | (have H2_ := (Option.bind_some _ _).symm.trans H; with_reducible exact H2_) | with_reducible exact H | (rw [hy367]; exact H) | exact H
         have Ny367 := Aside0.mk hy367
         clear hy367
         have H' := Aside0.mk H
         clear H
         go_wp2_with (first | (go_at_call 70; (with_reducible refine (spec_l20Rd_pick.calls k2 g s0_0 x1001_2 3 t360 t361 w0 _ ?side1 ?side2 A38.out).mono ?_); (case side1 => exact qz25_); (case side2 => exact qz26_); rintro e w46 ⟨rfl, hi, hb, hk⟩; replace HO_9 := Aside0.mk (Kd.R_mono (Kd.R_keep (IsS112.apart (show IsS112 w0 _ g s0_0 x1001_2 from qz25_) (uf1_ HO_9) (by decide)) hk (fun _ h => h.2)) (fun _ h => h.1)); replace HO_338000 := Aside0.mk (Kd.R_mono (Kd.R_keep (IsS112.apart (show IsS112 w0 _ g s0_0 x1001_2 from qz25_) (uf1_ HO_338000) (by decide)) hk (fun _ h => h.2)) (fun _ h => h.1)); replace HO_338001 := Aside0.mk (Kd.S_mono (Kd.S_keep (IsS112.apartS (show IsS112 w0 _ g s0_0 x1001_2 from qz25_) (uf2_ HO_338001) (by decide)) hk (fun _ h => h.2)) (fun _ h => h.1)); replace BK330 := Aside0.mk (KeepBut.blk hk (g' := gb330) (o := .cells #[.slice none 0 0, .slice none 0 0] 25 (0, 0)) (uf0_ BK330) NB330_0.out (by simp)); replace BK337 := Aside0.mk (KeepBut.blk hk (g' := gb337) (o := .cells #[.slice Ao30 y348.length co30, u338001] 25 (0, 0)) (uf0_ BK337) NB337_0.out (by simp)); replace HK := Aside0.mk (KeepBut.trans (qz10_) hk (.inl rfl)); replace HB := Aside0.mk (hb); replace HI0 := Aside0.mk (hi); (try clear hb); (try clear hk hi)) | ((with_reducible refine gate_builtin (b := .append) (xs := #[.tmp 54, .tmp 56]) rfl ?_); at_builtin; refine Kd.R_append (Kd.int .i64) w.heap.size rfl (.tmp 54) (.tmp 56) 22 3 (.int .i64 0) 8 rfl Try.underlying22 info3 rfl (by decide) (by omega) u9 x9_2 0 [.int .i64 0] (fun k_ => (w.heap.size ≤ k_) ∧ some k_ ≠ (.slice Ao30 y348.length co30 : Value).ownBlock) (fun _ => False) rfl rfl ?aP (fun _ hk => hk.elim) ?aF ?aO (Below.refl _ _) ?aS ?aL ?_; (case aP => exact rfl); (case aF => exact (fun k_ hk => ⟨(Nat.le_trans (keep_size (w := w) (g := g) (row := none) (qz10_)) hk), Kd.fresh' (Kd.R_lt (uf1_ HO_338000)) k_ hk⟩)); (case aO => exact (uf1_ HO_9)); (case aS => exact (keep_size (w := w) (g := g) (row := none) (qz10_))); (case aL => have := LMc45.out; omega); intro v368 w47 ho hb hg hat; rw [← Ny367.out] at ho; replace HO_338000 := Aside0.mk (Kd.R_after (ok := (fun k_ => (w.heap.size ≤ k_))) (uf1_ HO_338000) hg hat); replace HO_338001 := Aside0.mk (Kd.S_after (ok := (fun k_ => (w.heap.size ≤ k_) ∧ some k_ ≠ (.slice Ao30 y348.length co30 : Value).ownBlock)) (g51_) hg hat); replace BK330 := Aside0.mk (blk_grown (g := gb330) (o := .cells #[.slice none 0 0, .slice none 0 0] 25 (0, 0)) (uf0_ BK330) hg (Kd.R_ne HO_9.out BK330.out (by decide))); replace BK337 := Aside0.mk (blk_grown (g := gb337) (o := .cells #[.slice Ao30 y348.length co30, u338001] 25 (0, 0)) (uf0_ BK337) hg (Kd.R_ne HO_9.out BK337.out (by decide))); replace HB := Aside0.mk (below_weaken (qz26_) HL.out hb); replace HI0 := Aside0.mk (IsS112.grown (qz25_) hg (IsS112.own_ne HI0.out HO_9.out (by decide))); replace HK := Aside0.mk (KeepBut.trans (qz10_) (KeepBut.of_grown hg g) (Kd.R_base2 HO_9.out)); have HO369 := Aside0.mk (ho); clear HO_9; clear ho hb hg hat))
         go_roundg k2
         case measure => have := HK1.out; have := HK2.out; omega
         case rel => exact ⟨(y367), (wrap64 (x10_2 + 1)), (t361), (g3_), H', ⟨g11_⟩, ⟨uf1_ HO369⟩, ⟨uf1_ HO_338000⟩, ⟨g52_⟩, ⟨uf0_ BK330⟩, ⟨uf0_ BK337⟩, ⟨qz25_⟩, ⟨qz10_⟩, ⟨qz26_⟩⟩
      ·rw [if_neg c34] at H
       have c34b0 := decide_eq_false c34
       clear c34
       obtain ⟨c48, H⟩ := pos_ H
       have LMc48 := Aside0.mk c48
       clear c48
       obtain ⟨y354, hy354⟩ : ∃ y_ : List (List Int), y_ = (x338001_1 ++ [x9_2]) := ⟨_, rfl⟩
       replace H : (spec_l20Book.l0 k2 a1 (rd y331 t334) t338 (wrap64 (x8_1 + 1)) s0_0 x1001_2 y348 y354) = some (r1, r2, r3) := by first | (rw [hy354]; with_reducible exact H) | (have H2_ := (Option.bind_some _ _).symm.trans H; rw [hy354]; with_reducible exact H2_) | (have H2_ := (Option.bind_some _ _).symm.trans H; with_reducible exact H2_) | with_reducible exact H | (rw [hy354]; exact H) | exact H
       have Ny354 := Aside0.mk hy354
       clear hy354
       have H' := Aside0.mk H
       clear H
       have hnb49 := NB337_330.out
       have hnc49 := NB330_337.out
       have hnb50 := NB337_0.out
       have hnc50 := NB0_337.out
       obtain ⟨hcz51_0, hcz51_1, hfz51_0, hfz51_1⟩ := blk2_ BK337
       obtain ⟨Ao53, co53, eo53⟩ := Kd.R_slice HO_9.out
       subst eo53
       go_wp2_with (first | ((with_reducible refine gate_builtin (b := .append) (xs := #[.tmp 59, .tmp 61]) rfl ?_); at_builtin; refine Kd.S_append (Kd.slice 3 (Kd.int .i64)) w.heap.size rfl (.tmp 59) (.tmp 61) 23 22 (.slice none 0 0) 24 rfl Try.underlying23 info22 rfl (by decide) (by omega) u338001 x338001_1 x9_2 [.slice Ao53 x9_2.length co53] (fun k_ => (w.heap.size ≤ k_) ∧ some k_ ≠ (.slice Ao30 y348.length co30 : Value).ownBlock) (fun k_ => some k_ = (.slice Ao53 x9_2.length co53 : Value).ownBlock) rfl rfl ?aP (fun k_ hk_ => ((Kd.R_mono (ok' := fun k_ => ((fun k_ => (w.heap.size ≤ k_) ∧ some k_ ≠ (.slice Ao30 y348.length co30 : Value).ownBlock)) k_ ∧ some k_ ≠ (u338001 : Value).ownBlock) (Kd.R_apart' (HO_9.out) (Kd.S_typed HO_338001.out) (by decide)) (fun k_ hk => ⟨⟨hk.1.1, hk.1.2⟩, hk.2⟩))).1 k_ hk_.symm) ?aF ?aO (Below.refl _ _) ?aS ?aL ?_; (case aP => exact Kd.M_row (Kd.R_mono (Kd.R_tight rfl (Kd.R_mono (ok' := fun k_ => ((fun k_ => (w.heap.size ≤ k_) ∧ some k_ ≠ (.slice Ao30 y348.length co30 : Value).ownBlock)) k_ ∧ some k_ ≠ (u338001 : Value).ownBlock) (Kd.R_apart' (HO_9.out) (Kd.S_typed HO_338001.out) (by decide)) (fun k_ hk => ⟨⟨hk.1.1, hk.1.2⟩, hk.2⟩))) (fun _ h_ => h_))); (case aF => exact (fun k_ hk => ⟨(Nat.le_trans (keep_size (w := w) (g := g) (row := none) (qz10_)) hk), Kd.fresh' (Kd.R_lt (uf1_ HO_338000)) k_ hk⟩)); (case aO => exact (by (with_reducible repeat (first | apply Kd.S_alloc | apply Kd.S_drewN | apply Kd.S_drew)); exact Kd.S_mono HO_338001.out (fun k_ hk => ⟨⟨hk.1, hk.2.2⟩, fun e_ => hk.2.1 e_⟩))); (case aS => exact (keep_size (w := w) (g := g) (row := none) (qz10_))); (case aL => have := LMc48.out; omega); intro v355 w52 ho hb hg hat; rw [← Ny354.out] at ho; replace HO_338000 := Aside0.mk (Kd.R_over' (uf1_ HO_338000) (Kd.S_typed (uf2_ HO_338001)) (by decide) hg); replace BK330 := Aside0.mk (blk_grown (g := gb330) (o := .cells #[.slice none 0 0, .slice none 0 0] 25 (0, 0)) (uf0_ BK330) hg (Kd.S_ne HO_338001.out BK330.out (by decide))); replace BK337 := Aside0.mk (blk_grown (g := gb337) (o := .cells #[.slice Ao30 y348.length co30, u338001] 25 (0, 0)) (uf0_ BK337) hg (Kd.S_ne HO_338001.out BK337.out (by decide))); replace HB := Aside0.mk (below_weaken (qz26_) HL.out hb); replace HI0 := Aside0.mk (IsS112.grown (qz25_) hg (IsS112.own_neS HI0.out HO_338001.out (by decide))); replace HK := Aside0.mk (KeepBut.trans (qz10_) (KeepBut.of_grown hg g) (Kd.S_base2 HO_338001.out)); have HO356 := Aside0.mk (ho); clear HO_338001 HO_9; clear ho hb hg hat; obtain ⟨Ao54, co54, eo54⟩ := Kd.S_slice HO356.out; subst eo54; obtain ⟨hcz55_0, hcz55_1, hfz55_0, hfz55_1⟩ := blk2_ BK337))
       go_roundg k2
       case measure => have := HK1.out; have := HK2.out; omega
       case rel => exact ⟨(wrap64 (x8_1 + 1)), (x1001_2), (y348), (y354), (.slice Ao30 y348.length co30), (.slice Ao54 y354.length co54), (g3_), H', ⟨g11_⟩, ⟨by (with_reducible repeat (first | apply Kd.R_alloc | apply Kd.R_drewN | apply Kd.R_drew)); exact Kd.R_mono (Kd.R_far (p := ⟨gb337, 1, none⟩) (Kd.R_types HO_338000.out BK337.out (by decide)) (fun _ hk => hk.2) (.slice Ao54 y354.length co54)) (fun _ hk => hk.1.1)⟩, ⟨by (with_reducible repeat (first | apply Kd.S_alloc | apply Kd.S_drewN | apply Kd.S_drew)); exact Kd.S_mono (Kd.S_far (p := ⟨gb337, 1, none⟩) (Kd.S_types HO356.out BK337.out (by decide)) (fun _ hk => hk.2) (.slice Ao54 y354.length co54)) (fun _ hk => ⟨hk.1.1, hk.1.2⟩)⟩, ⟨by (with_reducible repeat (first | refine blk_drewN ?_ _ | refine blk_drew ?_ | refine blk_alloc ?_ _)); refine blk_far ?_ NB330_337.out _; (with_reducible repeat (first | refine blk_drewN ?_ _ | refine blk_drew ?_ | refine blk_alloc ?_ _)); exact BK330.out⟩, ⟨by (with_reducible repeat (first | refine blk_drewN ?_ _ | refine blk_drew ?_ | refine blk_alloc ?_ _)); refine blk_put (cs := #[.slice Ao30 y348.length co30, u338001]) ?_ 1 _ rfl; (with_reducible repeat (first | refine blk_drewN ?_ _ | refine blk_drew ?_ | refine blk_alloc ?_ _)); exact BK337.out⟩, ⟨qz25_⟩, ⟨qz10_⟩, ⟨qz26_⟩⟩
   ·rw [if_neg c17] at H
    have c17b0 := decide_eq_false c17
    clear c17
    replace H := Option.bind_eq_some_iff.mp H
    obtain ⟨⟨t370, t371⟩, A560, H⟩ := H
    replace H : (if t370 = true then ((spec_l20Rd_pick.f k1 s0_0 t371 4).bind fun bt372 => (if bt372.1 = 0 then (some (([] : List Int), ([] : List (List Int)), bt372.2)) else (if bt372.1 = 1 then (if 0 < (x338000_1.length : Int) then (some ((x338000_1.set (0 : Int).toNat (-1)), x338001_1, bt372.2)) else (none)) else (if bt372.1 = 2 then (if 0 < (x338001_1.length : Int) then (if 0 < ((rd_L1 x338001_1 0).length : Int) then (some (x338000_1, (x338001_1.set (0 : Int).toNat ((rd_L1 x338001_1 0).set (0 : Int).toNat 1)), bt372.2)) else (none)) else (none)) else (if 0 ≤ (wrap64 ((rd y331 t334) - 1)) then (if (wrap64 ((rd y331 t334) - 1)) < (x338001_1.length : Int) then (if 1 ≤ ((rd_L1 x338001_1 (wrap64 ((rd y331 t334) - 1))).length : Int) then (some (x338000_1, (x338001_1.set ((wrap64 ((rd y331 t334) - 1)) : Int).toNat ((rd_L1 x338001_1 (wrap64 ((rd y331 t334) - 1))).drop 1)), bt372.2)) else (none)) else (none)) else (none)))))) else (some (x338000_1, x338001_1, t371))) = some (r1, r2, r3) := H
    have A56 := Aside0.mk A560
    clear A560
    by_cases c57 : t370 = true
    ·subst c57
     replace H := ifp_ H
     replace H := Option.bind_eq_some_iff.mp H
     obtain ⟨⟨t372, t373⟩, A580, H⟩ := H
     replace H : (if t372 = 0 then (some (([] : List Int), ([] : List (List Int)), t373)) else (if t372 = 1 then (if 0 < (x338000_1.length : Int) then (some ((x338000_1.set (0 : Int).toNat (-1)), x338001_1, t373)) else (none)) else (if t372 = 2 then (if 0 < (x338001_1.length : Int) then (if 0 < ((rd_L1 x338001_1 0).length : Int) then (some (x338000_1, (x338001_1.set (0 : Int).toNat ((rd_L1 x338001_1 0).set (0 : Int).toNat 1)), t373)) else (none)) else (none)) else (if 0 ≤ (wrap64 ((rd y331 t334) - 1)) then (if (wrap64 ((rd y331 t334) - 1)) < (x338001_1.length : Int) then (if 1 ≤ ((rd_L1 x338001_1 (wrap64 ((rd y331 t334) - 1))).length : Int) then (some (x338000_1, (x338001_1.set ((wrap64 ((rd y331 t334) - 1)) : Int).toNat ((rd_L1 x338001_1 (wrap64 ((rd y331 t334) - 1))).drop 1)), t373)) else (none)) else (none)) else (none))))) = some (r1, r2, r3) := H
     have A58 := Aside0.mk A580
     clear A580
     by_cases c59 : t372 = 0
     ·rw [if_pos c59] at H
      have c59b0 : (t372 == 0) = true := beq_iff_eq.mpr c59
      have c59b1 : (t372 != 0) = false := bne_eq_false_iff_eq.mpr c59
      clear c59
      simp only [Option.some.injEq, Prod.mk.injEq] at H
      obtain ⟨rfl, rfl, rfl⟩ := H
      go_wp2_with (first | ((with_reducible refine gate_callee (f := 106) rfl ?_); refine goesL_ (some 66) rfl rfl Try.func106 k_ rfl #[.pointer (some ⟨g, 0, none⟩), .int .i64 a1] rfl (g2_) ?_; (with_reducible refine (spec_l20Rd_odd.calls k1 g s0_0 x1001_1 a1 true t371 w0 _ ?side1 ?side2 A56.out).mono ?_); (case side1 => exact qz25_); (case side2 => exact qz26_); rintro e w60 ⟨rfl, hi, hb, hk⟩; refine ⟨_, rfl, ?_⟩; replace HO_338000 := Aside0.mk (Kd.R_mono (Kd.R_keep (IsS112.apart (show IsS112 w0 _ g s0_0 x1001_1 from qz25_) (uf1_ HO_338000) (by decide)) hk (fun _ h => h.2)) (fun _ h => h.1)); replace HO_338001 := Aside0.mk (Kd.S_mono (Kd.S_keep (IsS112.apartS (show IsS112 w0 _ g s0_0 x1001_1 from qz25_) (uf2_ HO_338001) (by decide)) hk (fun _ h => h.2)) (fun _ h => h.1)); replace BK330 := Aside0.mk (KeepBut.blk hk (g' := gb330) (o := .cells #[.slice none 0 0, .slice none 0 0] 25 (0, 0)) (uf0_ BK330) NB330_0.out (by simp)); replace BK337 := Aside0.mk (KeepBut.blk hk (g' := gb337) (o := .cells #[u338000, u338001] 25 (0, 0)) (uf0_ BK337) NB337_0.out (by simp)); replace HK := Aside0.mk (KeepBut.trans (qz10_) hk (.inl rfl)); replace HB := Aside0.mk (hb); replace HI0 := Aside0.mk (hi); (try clear hb); (try clear hk hi)) | ((with_reducible refine gate_callee (f := 70) rfl ?_); refine goesL_ (some 68) rfl rfl Try.func70 k_ rfl #[.pointer (some ⟨g, 0, none⟩), .int .i64 4] rfl (g2_) ?_; (with_reducible refine (spec_l20Rd_pick.calls k1 g s0_0 t371 4 t372 t373 w0 _ ?side1 ?side2 A58.out).mono ?_); (case side1 => exact qz25_); (case side2 => exact qz26_); rintro e w61 ⟨rfl, hi, hb, hk⟩; refine ⟨_, rfl, ?_⟩; replace HO_338000 := Aside0.mk (Kd.R_mono (Kd.R_keep (IsS112.apart (show IsS112 w0 _ g s0_0 t371 from qz25_) (uf1_ HO_338000) (by decide)) hk (fun _ h => h.2)) (fun _ h => h.1)); replace HO_338001 := Aside0.mk (Kd.S_mono (Kd.S_keep (IsS112.apartS (show IsS112 w0 _ g s0_0 t371 from qz25_) (uf2_ HO_338001) (by decide)) hk (fun _ h => h.2)) (fun _ h => h.1)); replace BK330 := Aside0.mk (KeepBut.blk hk (g' := gb330) (o := .cells #[.slice none 0 0, .slice none 0 0] 25 (0, 0)) (uf0_ BK330) NB330_0.out (by simp)); replace BK337 := Aside0.mk (KeepBut.blk hk (g' := gb337) (o := .cells #[u338000, u338001] 25 (0, 0)) (uf0_ BK337) NB337_0.out (by simp)); replace HK := Aside0.mk (KeepBut.trans (qz10_) hk (.inl rfl)); replace HB := Aside0.mk (hb); replace HI0 := Aside0.mk (hi); (try clear hb); (try clear hk hi); have hnb62 := NB330_337.out; have hnc62 := NB337_330.out; have hnb63 := NB330_0.out; have hnc63 := NB0_330.out; obtain ⟨hcz64_0, hcz64_1, hfz64_0, hfz64_1⟩ := blk2_ BK330))
      refine bodyPost_ret (results_cell_row rfl _ _ gb330 25 #[.slice none 0 0, .slice none 0 0] (0, 0) _ rfl (by (with_reducible repeat (first | refine blk_drewN ?_ _ | refine blk_drew ?_ | refine blk_alloc ?_ _)); refine blk_put (cs := #[.slice none 0 0, .slice none 0 0]) ?_ 1 _ rfl; (with_reducible repeat (first | refine blk_drewN ?_ _ | refine blk_drew ?_ | refine blk_alloc ?_ _)); refine blk_put (cs := #[.slice none 0 0, .slice none 0 0]) ?_ 0 _ rfl; (with_reducible repeat (first | refine blk_drewN ?_ _ | refine blk_drew ?_ | refine blk_alloc ?_ _)); exact BK330.out) Try.underlying25 rfl (g1_)) rfl ?_
      exact ⟨_, _, g4_, g14_, Kd.V_nil _ _ _ _ _, qz25_, qz26_, qz10_⟩
     ·rw [if_neg c59] at H
      have c59b0 : (t372 == 0) = false := beq_eq_false_iff_ne.mpr c59
      have c59b1 : (t372 != 0) = true := bne_iff_ne.mpr c59
      by_cases c65 : t372 = 1
      ·rw [if_pos c65] at H
       have c65b0 : (t372 == 1) = true := beq_iff_eq.mpr c65
       have c65b1 : (t372 != 1) = false := bne_eq_false_iff_eq.mpr c65
       clear c65
       obtain ⟨c66, H⟩ := pos_ H
       have c66b0 := decide_eq_true c66
       have c66b1 : decide (0 < x338000_1.length) = true := decide_eq_true (by omega)
       clear c66
       obtain ⟨y374, hy374⟩ : ∃ y_ : List Int, y_ = (x338000_1.set (0 : Int).toNat (-1)) := ⟨_, rfl⟩
       replace H : (some (y374, x338001_1, t373)) = some (r1, r2, r3) := by first | (rw [hy374]; with_reducible exact H) | (have H2_ := (Option.bind_some _ _).symm.trans H; rw [hy374]; with_reducible exact H2_) | (have H2_ := (Option.bind_some _ _).symm.trans H; with_reducible exact H2_) | with_reducible exact H | (rw [hy374]; exact H) | exact H
       have Ny374 := Aside0.mk hy374
       clear hy374
       simp only [Option.some.injEq, Prod.mk.injEq] at H
       obtain ⟨rfl, rfl, rfl⟩ := H
       go_wp2_with (first | ((with_reducible refine gate_callee (f := 106) rfl ?_); refine goesL_ (some 66) rfl rfl Try.func106 k_ rfl #[.pointer (some ⟨g, 0, none⟩), .int .i64 a1] rfl (g2_) ?_; (with_reducible refine (spec_l20Rd_odd.calls k1 g s0_0 x1001_1 a1 true t371 w0 _ ?side1 ?side2 A56.out).mono ?_); (case side1 => exact qz25_); (case side2 => exact qz26_); rintro e w68 ⟨rfl, hi, hb, hk⟩; refine ⟨_, rfl, ?_⟩; replace HO_338000 := Aside0.mk (Kd.R_mono (Kd.R_keep (IsS112.apart (show IsS112 w0 _ g s0_0 x1001_1 from qz25_) (uf1_ HO_338000) (by decide)) hk (fun _ h => h.2)) (fun _ h => h.1)); replace HO_338001 := Aside0.mk (Kd.S_mono (Kd.S_keep (IsS112.apartS (show IsS112 w0 _ g s0_0 x1001_1 from qz25_) (uf2_ HO_338001) (by decide)) hk (fun _ h => h.2)) (fun _ h => h.1)); replace BK330 := Aside0.mk (KeepBut.blk hk (g' := gb330) (o := .cells #[.slice none 0 0, .slice none 0 0] 25 (0, 0)) (uf0_ BK330) NB330_0.out (by simp)); replace BK337 := Aside0.mk (KeepBut.blk hk (g' := gb337) (o := .cells #[u338000, u338001] 25 (0, 0)) (uf0_ BK337) NB337_0.out (by simp)); replace HK := Aside0.mk (KeepBut.trans (qz10_) hk (.inl rfl)); replace HB := Aside0.mk (hb); replace HI0 := Aside0.mk (hi); (try clear hb); (try clear hk hi)) | ((with_reducible refine gate_callee (f := 70) rfl ?_); refine goesL_ (some 68) rfl rfl Try.func70 k_ rfl #[.pointer (some ⟨g, 0, none⟩), .int .i64 4] rfl (g2_) ?_; (with_reducible refine (spec_l20Rd_pick.calls k1 g s0_0 t371 4 t372 t373 w0 _ ?side1 ?side2 A58.out).mono ?_); (case side1 => exact qz25_); (case side2 => exact qz26_); rintro e w69 ⟨rfl, hi, hb, hk⟩; refine ⟨_, rfl, ?_⟩; replace HO_338000 := Aside0.mk (Kd.R_mono (Kd.R_keep (IsS112.apart (show IsS112 w0 _ g s0_0 t371 from qz25_) (uf1_ HO_338000) (by decide)) hk (fun _ h => h.2)) (fun _ h => h.1)); replace HO_338001 := Aside0.mk (Kd.S_mono (Kd.S_keep (IsS112.apartS (show IsS112 w0 _ g s0_0 t371 from qz25_) (uf2_ HO_338001) (by decide)) hk (fun _ h => h.2)) (fun _ h => h.1)); replace BK330 := Aside0.mk (KeepBut.blk hk (g' := gb330) (o := .cells #[.slice none 0 0, .slice none 0 0] 25 (0, 0)) (uf0_ BK330) NB330_0.out (by simp)); replace BK337 := Aside0.mk (KeepBut.blk hk (g' := gb337) (o := .cells #[u338000, u338001] 25 (0, 0)) (uf0_ BK337) NB337_0.out (by simp)); replace HK := Aside0.mk (KeepBut.trans (qz10_) hk (.inl rfl)); replace HB := Aside0.mk (hb); replace HI0 := Aside0.mk (hi); (try clear hb); (try clear hk hi); have hnb70 := NB337_330.out; have hnc70 := NB330_337.out; have hnb71 := NB337_0.out; have hnc71 := NB0_337.out; obtain ⟨hcz72_0, hcz72_1, hfz72_0, hfz72_1⟩ := blk2_ BK337; have p67 : 0 ≤ (0 : Int) := (by omega); have q67 : (0 : Int) < ((x338000_1.length : Int) : Int) := of_decide_eq_true (g0_); have qi67 : (0 < x338000_1.length) = True := eq_true (by omega); obtain ⟨go67, co67, eo67, gb67, gl67, cl67, HG67⟩ := Kd.R_form HO_338000.out (by omega); (first | cases eo67 | (injection eo67 with ea_ en_ ec_; (first | subst ea_ | (injection ea_ with ea_; subst ea_)); subst ec_; clear en_)); have GB67 := Aside0.mk gb67; have GG67 := Aside0.mk HG67; clear gb67 gl67 HG67; obtain ⟨hx67_0, hf67_0⟩ := Kd.R_celln 0 HO_338000.out (0 : Int) p67 q67; (try rw [show ((0 : Int)).toNat = 0 from rfl] at hx67_0); (try simp only [Nat.reduceMul, Nat.zero_mul, Nat.zero_add, Nat.reduceAdd] at hx67_0); (try rw [show ((0 : Int)).toNat = 0 from rfl] at hf67_0); (try simp only [Nat.reduceMul, Nat.zero_mul, Nat.zero_add, Nat.reduceAdd] at hf67_0); replace p67 := eq_true p67; replace q67 := eq_true q67; obtain ⟨hy73_, hz73_⟩ := Kd.R_celln 0 HO_338000.out (0 : Int) (by omega) (of_decide_eq_true (g0_)); (try simp only [Int.reduceToNat, Int.toNat_zero, Int.toNat_ofNat, Nat.reduceMul, Nat.zero_mul, Nat.zero_add] at hy73_ hz73_); (try rw [show ((0 : Int)).toNat = 0 from rfl] at hy73_); (try rw [show ((0 : Int)).toNat = 0 from rfl] at hz73_); have HP73 := Kd.R_putg HO_338000.out (0 : Int) (-1)) | ((with_reducible refine gate_store (t := 3) (p := 88) rfl ?_); refine store_event (t := 3) (p := 88) (v := ?vo_w74) (w1 := (w69.setCell ⟨go67, (0 : Int).toNat, none⟩ (.int .i64 (-1)))) ?hg ?ho ?hn ?hr ?_; (case ho => rfl); (case hg => rfl); (case hn => rfl); (case hr => first | (go_simp; done) | (go_simp; rfl)); intro w74 hw; have hg : w69.grownBy w74 (some go67) := (by rw [hw]; exact HP73.2); have hp_ : Kd.R (Kd.int .i64) 3 w74 w.heap.size (fun k_ => (w.heap.size ≤ k_)) (.slice (some ⟨go67, 0, none⟩) x338000_1.length co67) y374 := (by rw [hw, Ny374.out]; exact HP73.1); clear HP73; replace HO_338001 := Aside0.mk (Kd.S_after (v := (.slice (some ⟨go67, 0, none⟩) x338000_1.length co67)) (v1 := (.slice (some ⟨go67, 0, none⟩) x338000_1.length co67)) (ok := (fun k_ => (w.heap.size ≤ k_))) (uf2_ HO_338001) hg (.inl rfl)); replace BK330 := Aside0.mk (blk_grown (g := gb330) (o := .cells #[.slice none 0 0, .slice none 0 0] 25 (0, 0)) (uf0_ BK330) hg (Kd.R_ne HO_338000.out BK330.out (by decide))); replace BK337 := Aside0.mk (blk_grown (g := gb337) (o := .cells #[.slice (some ⟨go67, 0, none⟩) x338000_1.length co67, u338001] 25 (0, 0)) (uf0_ BK337) hg (Kd.R_ne HO_338000.out BK337.out (by decide))); replace HI0 := Aside0.mk (IsS112.grown (qz25_) hg (IsS112.own_ne HI0.out HO_338000.out (by decide))); replace HB := Aside0.mk ((by rw [hw]; exact below_set (HB.out) (Nat.le_trans HL.out GB67.out) : Below w0.heap.size w0 w74)); replace HK := Aside0.mk (KeepBut.trans (qz10_) (KeepBut.of_grown hg g) (Kd.R_base2 HO_338000.out)); replace HO_338000 := Aside0.mk (hp_); clear hg hw hp_; obtain ⟨hcz75_0, hcz75_1, hfz75_0, hfz75_1⟩ := blk2_ BK337; have hnb76 := NB330_0.out; have hnc76 := NB0_330.out; obtain ⟨hcz77_0, hcz77_1, hfz77_0, hfz77_1⟩ := blk2_ BK330; obtain ⟨Ao78, co78, eo78⟩ := Kd.S_slice HO_338001.out; subst eo78))
       refine bodyPost_ret (results_cell_row rfl _ _ gb330 25 #[.slice (some ⟨go67, 0, none⟩) x338000_1.length co67, .slice Ao78 x338001_1.length co78] (0, 0) _ rfl (by (with_reducible repeat (first | refine blk_drewN ?_ _ | refine blk_drew ?_ | refine blk_alloc ?_ _)); refine blk_put (cs := #[.slice (some ⟨go67, 0, none⟩) x338000_1.length co67, .slice none 0 0]) ?_ 1 _ rfl; (with_reducible repeat (first | refine blk_drewN ?_ _ | refine blk_drew ?_ | refine blk_alloc ?_ _)); refine blk_put (cs := #[.slice none 0 0, .slice none 0 0]) ?_ 0 _ rfl; (with_reducible repeat (first | refine blk_drewN ?_ _ | refine blk_drew ?_ | refine blk_alloc ?_ _)); exact BK330.out) Try.underlying25 rfl (g1_)) rfl ?_
       exact ⟨_, _, g4_, by (with_reducible repeat (first | apply Kd.R_alloc | apply Kd.R_drewN | apply Kd.R_drew)); exact Kd.R_mono (Kd.R_far (p := ⟨gb330, 1, none⟩) (Kd.R_far (p := ⟨gb330, 0, none⟩) (Kd.R_types HO_338000.out BK330.out (by decide)) (fun _ hk => hk.2) (.slice (some ⟨go67, 0, none⟩) x338000_1.length co67)) (fun _ hk => hk.2) (.slice Ao78 x338001_1.length co78)) (fun _ hk => hk.1), Kd.S_V (by (with_reducible repeat (first | apply Kd.S_alloc | apply Kd.S_drewN | apply Kd.S_drew)); exact Kd.S_mono (Kd.S_far (p := ⟨gb330, 1, none⟩) (Kd.S_far (p := ⟨gb330, 0, none⟩) (Kd.S_types HO_338001.out BK330.out (by decide)) (fun _ hk => hk.2) (.slice (some ⟨go67, 0, none⟩) x338000_1.length co67)) (fun _ hk => hk.2) (.slice Ao78 x338001_1.length co78)) (fun _ hk => ⟨hk.1.1, hk.1.2⟩)), qz25_, qz26_, qz10_⟩
      ·rw [if_neg c65] at H
       have c65b0 : (t372 == 1) = false := beq_eq_false_iff_ne.mpr c65
       have c65b1 : (t372 != 1) = true := bne_iff_ne.mpr c65
       by_cases c79 : t372 = 2
       ·rw [if_pos c79] at H
        have c79b0 : (t372 == 2) = true := beq_iff_eq.mpr c79
        have c79b1 : (t372 != 2) = false := bne_eq_false_iff_eq.mpr c79
        clear c79
        obtain ⟨c80, H⟩ := pos_ H
        have c80b0 := decide_eq_true c80
        have c80b1 : decide (0 < x338001_1.length) = true := decide_eq_true (by omega)
        clear c80
        obtain ⟨c81, H⟩ := pos_ H
        have c81b0 := decide_eq_true c81
        have c81b1 : decide (0 < (rd_L1 x338001_1 0).length) = true := decide_eq_true (by omega)
        clear c81
        obtain ⟨y376, hy376⟩ : ∃ y_ : List Int, y_ = ((rd_L1 x338001_1 0).set (0 : Int).toNat 1) := ⟨_, rfl⟩
        replace H : (some (x338000_1, (x338001_1.set (0 : Int).toNat y376), t373)) = some (r1, r2, r3) := by first | (rw [hy376]; with_reducible exact H) | (have H2_ := (Option.bind_some _ _).symm.trans H; rw [hy376]; with_reducible exact H2_) | (have H2_ := (Option.bind_some _ _).symm.trans H; with_reducible exact H2_) | with_reducible exact H | (rw [hy376]; exact H) | exact H
        have Ny376 := Aside0.mk hy376
        clear hy376
        obtain ⟨y378, hy378⟩ : ∃ y_ : List (List Int), y_ = (x338001_1.set (0 : Int).toNat y376) := ⟨_, rfl⟩
        replace H : (some (x338000_1, y378, t373)) = some (r1, r2, r3) := by first | (rw [hy378]; with_reducible exact H) | (have H2_ := (Option.bind_some _ _).symm.trans H; rw [hy378]; with_reducible exact H2_) | (have H2_ := (Option.bind_some _ _).symm.trans H; with_reducible exact H2_) | with_reducible exact H | (rw [hy378]; exact H) | exact H
        have Ny378 := Aside0.mk hy378
        clear hy378
        simp only [Option.some.injEq, Prod.mk.injEq] at H
        obtain ⟨rfl, rfl, rfl⟩ := H
        go_wp2_with (first | ((with_reducible refine gate_callee (f := 106) rfl ?_); refine goesL_ (some 66) rfl rfl Try.func106 k_ rfl #[.pointer (some ⟨g, 0, none⟩), .int .i64 a1] rfl (g2_) ?_; (with_reducible refine (spec_l20Rd_odd.calls k1 g s0_0 x1001_1 a1 true t371 w0 _ ?side1 ?side2 A56.out).mono ?_); (case side1 => exact qz25_); (case side2 => exact qz26_); rintro e w83 ⟨rfl, hi, hb, hk⟩; refine ⟨_, rfl, ?_⟩; replace HO_338000 := Aside0.mk (Kd.R_mono (Kd.R_keep (IsS112.apart (show IsS112 w0 _ g s0_0 x1001_1 from qz25_) (uf1_ HO_338000) (by decide)) hk (fun _ h => h.2)) (fun _ h => h.1)); replace HO_338001 := Aside0.mk (Kd.S_mono (Kd.S_keep (IsS112.apartS (show IsS112 w0 _ g s0_0 x1001_1 from qz25_) (uf2_ HO_338001) (by decide)) hk (fun _ h => h.2)) (fun _ h => h.1)); replace BK330 := Aside0.mk (KeepBut.blk hk (g' := gb330) (o := .cells #[.slice none 0 0, .slice none 0 0] 25 (0, 0)) (uf0_ BK330) NB330_0.out (by simp)); replace BK337 := Aside0.mk (KeepBut.blk hk (g' := gb337) (o := .cells #[u338000, u338001] 25 (0, 0)) (uf0_ BK337) NB337_0.out (by simp)); replace HK := Aside0.mk (KeepBut.trans (qz10_) hk (.inl rfl)); replace HB := Aside0.mk (hb); replace HI0 := Aside0.mk (hi); (try clear hb); (try clear hk hi)) | ((with_reducible refine gate_callee (f := 70) rfl ?_); refine goesL_ (some 68) rfl rfl Try.func70 k_ rfl #[.pointer (some ⟨g, 0, none⟩), .int .i64 4] rfl (g2_) ?_; (with_reducible refine (spec_l20Rd_pick.calls k1 g s0_0 t371 4 t372 t373 w0 _ ?side1 ?side2 A58.out).mono ?_); (case side1 => exact qz25_); (case side2 => exact qz26_); rintro e w84 ⟨rfl, hi, hb, hk⟩; refine ⟨_, rfl, ?_⟩; replace HO_338000 := Aside0.mk (Kd.R_mono (Kd.R_keep (IsS112.apart (show IsS112 w0 _ g s0_0 t371 from qz25_) (uf1_ HO_338000) (by decide)) hk (fun _ h => h.2)) (fun _ h => h.1)); replace HO_338001 := Aside0.mk (Kd.S_mono (Kd.S_keep (IsS112.apartS (show IsS112 w0 _ g s0_0 t371 from qz25_) (uf2_ HO_338001) (by decide)) hk (fun _ h => h.2)) (fun _ h => h.1)); replace BK330 := Aside0.mk (KeepBut.blk hk (g' := gb330) (o := .cells #[.slice none 0 0, .slice none 0 0] 25 (0, 0)) (uf0_ BK330) NB330_0.out (by simp)); replace BK337 := Aside0.mk (KeepBut.blk hk (g' := gb337) (o := .cells #[u338000, u338001] 25 (0, 0)) (uf0_ BK337) NB337_0.out (by simp)); replace HK := Aside0.mk (KeepBut.trans (qz10_) hk (.inl rfl)); replace HB := Aside0.mk (hb); replace HI0 := Aside0.mk (hi); (try clear hb); (try clear hk hi); have hnb85 := NB337_330.out; have hnc85 := NB330_337.out; have hnb86 := NB337_0.out; have hnc86 := NB0_337.out; obtain ⟨hcz87_0, hcz87_1, hfz87_0, hfz87_1⟩ := blk2_ BK337; obtain ⟨Ao88, co88, eo88⟩ := Kd.S_slice HO_338001.out; subst eo88; have p375 : 0 ≤ (0 : Int) := (by omega); have q375 : 0 < (x338001_1.length : Int) := of_decide_eq_true (g0_); obtain ⟨ad375, A375_0, c375_0, e375, hx375_0, hl375_0, hi375_0⟩ := at_L1 (Kd.S_reads' HO_338001.out).2.2 0 p375 q375; cases e375; obtain ⟨ce375, hce375, hMe375, hcc375⟩ := Kd.S_get HO_338001.out [] 0 p375 (by first | exact q375 | exact of_decide_eq_true (g0_) | (have e_ := (Kd.S_reads' HO_338001.out).1; omega)); obtain ⟨ve375_0, rfl, ge375_0⟩ := hMe375; have hv375_0 := hcc375 0 _ rfl; rw [Nat.add_zero, show ((Kd.slice 3 (Kd.int .i64))).sz = 1 from rfl, Nat.mul_one] at hv375_0; replace hv375_0 := Option.some.inj (hv375_0.symm.trans hx375_0); rw [hv375_0] at ge375_0; have HL375_0 := Aside0.mk (show Kd.R (Kd.int .i64) 3 _ _ _ _ (rd_L1 x338001_1 0) from ge375_0); clear hv375_0 ge375_0; have HX375_0 := Aside0.mk hx375_0; clear hcc375 hce375; have qi375 : (0 < x338001_1.length) = True := eq_true (by omega); (try rw [show ((0 : Int)).toNat = 0 from rfl] at hx375_0); (try rw [Addr.add_zero'] at hx375_0); have HR375_0 := Aside0.mk hi375_0; have HC375_0 := Aside0.mk hl375_0; clear hi375_0 hl375_0; replace p375 := eq_true p375; replace q375 := eq_true q375; have p82 : 0 ≤ (0 : Int) := (by omega); have q82 : (0 : Int) < (((rd_L1 x338001_1 0).length : Int) : Int) := of_decide_eq_true (g0_); have qi82 : (0 < (rd_L1 x338001_1 0).length) = True := eq_true (by omega); obtain ⟨go82, co82, eo82, gb82, gl82, cl82, HG82⟩ := Kd.R_form HL375_0.out (by omega); (first | cases eo82 | (injection eo82 with ea_ en_ ec_; (first | subst ea_ | (injection ea_ with ea_; subst ea_)); subst ec_; clear en_)); have GB82 := Aside0.mk gb82; have GG82 := Aside0.mk HG82; clear gb82 gl82 HG82; obtain ⟨hx82_0, hf82_0⟩ := Kd.R_celln 0 HL375_0.out (0 : Int) p82 q82; (try rw [show ((0 : Int)).toNat = 0 from rfl] at hx82_0); (try simp only [Nat.reduceMul, Nat.zero_mul, Nat.zero_add, Nat.reduceAdd] at hx82_0); (try rw [show ((0 : Int)).toNat = 0 from rfl] at hf82_0); (try simp only [Nat.reduceMul, Nat.zero_mul, Nat.zero_add, Nat.reduceAdd] at hf82_0); replace p82 := eq_true p82; replace q82 := eq_true q82; have hq89 : (0 : Int) < (x338001_1.length : Int) := (by have h_ : (0 : Int) < ((x338001_1.length : Int) : Int) := of_decide_eq_true (g0_); first | exact h_ | (have e_ := (Kd.S_reads' HO_338001.out).1; omega) | simpa only [List.length_set, List.length_set] using h_); obtain ⟨oki89, ce89, hcl89, hM89, hcc89, hok89, hbk89⟩ := Kd.S_borrow HO_338001.out [] (0 : Int) (by omega) hq89; obtain ⟨ve89_0, rfl, ge89_0⟩ := hM89; have hv89 := hcc89 0 _ rfl; rw [Nat.add_zero, show ((Kd.slice 3 (Kd.int .i64))).sz = 1 from rfl, Nat.mul_one] at hv89; replace hv89 := Option.some.inj (hv89.symm.trans HX375_0.out); subst hv89; clear hcc89 hcl89; replace ge89_0 := (show Kd.R (Kd.int .i64) 3 _ _ _ _ (rd_L1 x338001_1 0) from ge89_0); have HP89 := Kd.R_putg ge89_0 (0 : Int) 1) | ((with_reducible refine gate_store (t := 3) (p := 95) rfl ?_); refine store_event (t := 3) (p := 95) (v := ?vo_w90) (w1 := (w84.setCell ⟨go82, 0, none⟩ (.int .i64 1))) ?hg ?ho ?hn ?hr ?_; (case ho => rfl); (case hg => rfl); (case hn => rfl); (case hr => first | (go_simp; done) | (go_simp; rfl)); intro w90 hw; have hg : w84.grownBy w90 (some go82) := (by rw [hw]; exact HP89.2); have hz_ : Kd.R (Kd.int .i64) 3 w90 w.heap.size oki89 (.slice (some ⟨go82, 0, none⟩) (rd_L1 x338001_1 0).length c375_0) y376 := (by rw [hw, Ny376.out]; exact HP89.1); have hp_ : Kd.S (Kd.slice 3 (Kd.int .i64)) 22 w90 w.heap.size (fun k_ => (w.heap.size ≤ k_) ∧ some k_ ≠ (u338000 : Value).ownBlock) (.slice (some ad375) x338001_1.length co88) y378 := (by rw [Ny378.out]; exact hbk89 hg (fun k_ e_ => by injection e_ with e_; subst e_; exact ge89_0.1 _ rfl) (Kd.M_row hz_)); have hm_ := Kd.R_mono hz_ hok89; clear HP89 hbk89; replace HO_338000 := Aside0.mk (Kd.R_grown1 (uf1_ HO_338000) rfl hg ((HL375_0.out.1 _ rfl).1.2)); replace HO_338001 := Aside0.mk (hp_); replace BK330 := Aside0.mk (blk_grown (g := gb330) (o := .cells #[.slice none 0 0, .slice none 0 0] 25 (0, 0)) (uf0_ BK330) hg (Kd.R_ne HL375_0.out BK330.out (by decide))); replace BK337 := Aside0.mk (blk_grown (g := gb337) (o := .cells #[u338000, .slice (some ad375) x338001_1.length co88] 25 (0, 0)) (uf0_ BK337) hg (Kd.R_ne HL375_0.out BK337.out (by decide))); replace HI0 := Aside0.mk (IsS112.grown (qz25_) hg (IsS112.own_ne HI0.out HL375_0.out (by decide))); replace HB := Aside0.mk ((by rw [hw]; exact below_set (HB.out) (Nat.le_trans HL.out GB82.out) : Below w0.heap.size w0 w90)); replace HK := Aside0.mk (KeepBut.trans (qz10_) (KeepBut.of_grown hg g) (Kd.R_base2 HL375_0.out)); have HL379 := Aside0.mk (hm_); have HC377 := Aside0.mk ((Kd.R_reads' hm_).2.1); clear HL375_0; clear hg hw hp_ hz_ hm_ hok89; obtain ⟨hcz91_0, hcz91_1, hfz91_0, hfz91_1⟩ := blk2_ BK337; obtain ⟨Ao92, co92, eo92⟩ := Kd.R_slice HO_338000.out; subst eo92; have hnb93 := NB330_0.out; have hnc93 := NB0_330.out; obtain ⟨hcz94_0, hcz94_1, hfz94_0, hfz94_1⟩ := blk2_ BK330))
        refine bodyPost_ret (results_cell_row rfl _ _ gb330 25 #[.slice Ao92 x338000_1.length co92, .slice (some ad375) x338001_1.length co88] (0, 0) _ rfl (by (with_reducible repeat (first | refine blk_drewN ?_ _ | refine blk_drew ?_ | refine blk_alloc ?_ _)); refine blk_put (cs := #[.slice Ao92 x338000_1.length co92, .slice none 0 0]) ?_ 1 _ rfl; (with_reducible repeat (first | refine blk_drewN ?_ _ | refine blk_drew ?_ | refine blk_alloc ?_ _)); refine blk_put (cs := #[.slice none 0 0, .slice none 0 0]) ?_ 0 _ rfl; (with_reducible repeat (first | refine blk_drewN ?_ _ | refine blk_drew ?_ | refine blk_alloc ?_ _)); exact BK330.out) Try.underlying25 rfl (g1_)) rfl ?_
        exact ⟨_, _, g4_, by (with_reducible repeat (first | apply Kd.R_alloc | apply Kd.R_drewN | apply Kd.R_drew)); exact Kd.R_mono (Kd.R_far (p := ⟨gb330, 1, none⟩) (Kd.R_far (p := ⟨gb330, 0, none⟩) (Kd.R_types HO_338000.out BK330.out (by decide)) (fun _ hk => hk.2) (.slice Ao92 x338000_1.length co92)) (fun _ hk => hk.2) (.slice (some ad375) x338001_1.length co88)) (fun _ hk => hk.1), Kd.S_V (by (with_reducible repeat (first | apply Kd.S_alloc | apply Kd.S_drewN | apply Kd.S_drew)); exact Kd.S_mono (Kd.S_far (p := ⟨gb330, 1, none⟩) (Kd.S_far (p := ⟨gb330, 0, none⟩) (Kd.S_types HO_338001.out BK330.out (by decide)) (fun _ hk => hk.2) (.slice Ao92 x338000_1.length co92)) (fun _ hk => hk.2) (.slice (some ad375) x338001_1.length co88)) (fun _ hk => ⟨hk.1.1, hk.1.2⟩)), qz25_, qz26_, qz10_⟩
       ·rw [if_neg c79] at H
        have n_ : Kd.N (Kd.slice 3 (Kd.int .i64)) 22 wr w.heap.size (fun k_ => (w.heap.size ≤ k_) ∧ some k_ ≠ (u338000 : Value).ownBlock ∧ k_ ≠ gb330 ∧ k_ ≠ gb337 ∧ k_ ≠ g) u338001 x338001_1 := Kd.N_mono (Kd.S_N (IsS112.apartS HI0.out (Kd.S_types (Kd.S_types HO_338001.out BK330.out (by decide)) BK337.out (by decide)) (by decide))) (fun k_ hk => ⟨hk.1.1.1.1, hk.1.1.1.2, hk.1.1.2, hk.1.2, hk.2⟩)
        clear HO_338001
        have HO_338001 := Aside0.mk n_
        clear n_
        have c79b0 : (t372 == 2) = false := beq_eq_false_iff_ne.mpr c79
        have c79b1 : (t372 != 2) = true := bne_iff_ne.mpr c79
        obtain ⟨ji80, hji80⟩ : ∃ j_ : Int, (wrap64 ((rd y331 t334) - 1)) = j_ := ⟨_, rfl⟩
        replace H : (if 0 ≤ (ji80) then (if (ji80) < (x338001_1.length : Int) then (if 1 ≤ ((rd_L1 x338001_1 (ji80)).length : Int) then (some (x338000_1, (x338001_1.set ((ji80) : Int).toNat ((rd_L1 x338001_1 (ji80)).drop 1)), t373)) else (none)) else (none)) else (none)) = some (r1, r2, r3) := by first | (rw [hji80] at H; exact H) | (simp only [hji80] at H ⊢; exact H)
        (try rw [hji80] at A56)
        (try rw [hji80] at A58)
        have hji80w : (IntKind.i64.wrap ((rd y331 t334) - 1)) = ji80 := (i64_w _).trans hji80
        obtain ⟨c81, H⟩ := pos_ H
        have c81b0 := decide_eq_true c81
        clear c81
        obtain ⟨c82, H⟩ := pos_ H
        have c82b0 := decide_eq_true c82
        clear c82
        obtain ⟨c83, H⟩ := pos_ H
        have c83b0 := eq_true c83
        have c83b1 := decide_eq_true c83
        clear c83
        obtain ⟨y376, hy376⟩ : ∃ y_ : List Int, y_ = ((rd_L1 x338001_1 (ji80)).drop 1) := ⟨_, rfl⟩
        replace H : (some (x338000_1, (x338001_1.set ((ji80) : Int).toNat y376), t373)) = some (r1, r2, r3) := by first | (rw [hy376]; with_reducible exact H) | (have H2_ := (Option.bind_some _ _).symm.trans H; rw [hy376]; with_reducible exact H2_) | (have H2_ := (Option.bind_some _ _).symm.trans H; with_reducible exact H2_) | with_reducible exact H | (rw [hy376]; exact H) | exact H
        have Ny376 := Aside0.mk hy376
        clear hy376
        obtain ⟨y381, hy381⟩ : ∃ y_ : List (List Int), y_ = (x338001_1.set ((ji80) : Int).toNat y376) := ⟨_, rfl⟩
        replace H : (some (x338000_1, y381, t373)) = some (r1, r2, r3) := by first | (rw [hy381]; with_reducible exact H) | (have H2_ := (Option.bind_some _ _).symm.trans H; rw [hy381]; with_reducible exact H2_) | (have H2_ := (Option.bind_some _ _).symm.trans H; with_reducible exact H2_) | with_reducible exact H | (rw [hy381]; exact H) | exact H
        have Ny381 := Aside0.mk hy381
        clear hy381
        simp only [Option.some.injEq, Prod.mk.injEq] at H
        obtain ⟨rfl, rfl, rfl⟩ := H
        try go_wp2_with (first | ((with_reducible refine gate_callee (f := 106) rfl ?_); refine goesL_ (some 66) rfl rfl Try.func106 k_ rfl #[.pointer (some ⟨g, 0, none⟩), .int .i64 a1] rfl (g2_) ?_; (with_reducible refine (spec_l20Rd_odd.calls k1 g s0_0 x1001_1 a1 true t371 w0 _ ?side1 ?side2 A56.out).mono ?_); (case side1 => exact qz25_); (case side2 => exact qz26_); rintro e w85 ⟨rfl, hi, hb, hk⟩; refine ⟨_, rfl, ?_⟩; replace HO_338000 := Aside0.mk (Kd.R_mono (Kd.R_keep (IsS112.apart (show IsS112 w0 _ g s0_0 x1001_1 from qz25_) (uf1_ HO_338000) (by decide)) hk (fun _ h => h.2)) (fun _ h => h.1)); replace HO_338001 := Aside0.mk (Kd.N_mono (Kd.N_keep (Kd.N_mono (ok := fun k_ => (((w.heap.size ≤ k_)) ∧ (some k_ ≠ (u338000 : Value).ownBlock ∧ (k_ ≠ gb330 ∧ (k_ ≠ gb337 ∧ k_ ≠ g))))) (uf4_ HO_338001) (fun k_ hk_ => (⟨hk_, hk_.2.2.2.2⟩ : _ ∧ k_ ≠ g))) hk (fun _ h => h.2)) (fun _ h => h.1)); replace BK330 := Aside0.mk (KeepBut.blk hk (g' := gb330) (o := .cells #[.slice none 0 0, .slice none 0 0] 25 (0, 0)) (uf0_ BK330) NB330_0.out (by simp)); replace BK337 := Aside0.mk (KeepBut.blk hk (g' := gb337) (o := .cells #[u338000, u338001] 25 (0, 0)) (uf0_ BK337) NB337_0.out (by simp)); replace HK := Aside0.mk (KeepBut.trans (qz10_) hk (.inl rfl)); replace HB := Aside0.mk (hb); replace HI0 := Aside0.mk (hi); (try clear hb); (try clear hk hi)) | ((with_reducible refine gate_callee (f := 70) rfl ?_); refine goesL_ (some 68) rfl rfl Try.func70 k_ rfl #[.pointer (some ⟨g, 0, none⟩), .int .i64 4] rfl (g2_) ?_; (with_reducible refine (spec_l20Rd_pick.calls k1 g s0_0 t371 4 t372 t373 w0 _ ?side1 ?side2 A58.out).mono ?_); (case side1 => exact qz25_); (case side2 => exact qz26_); rintro e w86 ⟨rfl, hi, hb, hk⟩; refine ⟨_, rfl, ?_⟩; replace HO_338000 := Aside0.mk (Kd.R_mono (Kd.R_keep (IsS112.apart (show IsS112 w0 _ g s0_0 t371 from qz25_) (uf1_ HO_338000) (by decide)) hk (fun _ h => h.2)) (fun _ h => h.1)); replace HO_338001 := Aside0.mk (Kd.N_mono (Kd.N_keep (Kd.N_mono (ok := fun k_ => (((w.heap.size ≤ k_)) ∧ (some k_ ≠ (u338000 : Value).ownBlock ∧ (k_ ≠ gb330 ∧ (k_ ≠ gb337 ∧ k_ ≠ g))))) (uf4_ HO_338001) (fun k_ hk_ => (⟨hk_, hk_.2.2.2.2⟩ : _ ∧ k_ ≠ g))) hk (fun _ h => h.2)) (fun _ h => h.1)); replace BK330 := Aside0.mk (KeepBut.blk hk (g' := gb330) (o := .cells #[.slice none 0 0, .slice none 0 0] 25 (0, 0)) (uf0_ BK330) NB330_0.out (by simp)); replace BK337 := Aside0.mk (KeepBut.blk hk (g' := gb337) (o := .cells #[u338000, u338001] 25 (0, 0)) (uf0_ BK337) NB337_0.out (by simp)); replace HK := Aside0.mk (KeepBut.trans (qz10_) hk (.inl rfl)); replace HB := Aside0.mk (hb); replace HI0 := Aside0.mk (hi); (try clear hb); (try clear hk hi)))
        replace HO_338000 := Aside0.mk (Kd.R_drew HO_338000.out)
        replace HO_338001 := Aside0.mk (Kd.N_drew HO_338001.out)
        replace BK330 := Aside0.mk (blk_drew BK330.out)
        replace BK337 := Aside0.mk (blk_drew BK337.out)
        replace HI0 := Aside0.mk (IsS112.drew HI0.out)
        replace HK := Aside0.mk (keep_drew HK.out)
        replace HB := Aside0.mk (below_drew1 HB.out)
        obtain ⟨Ao88, co88, eo88⟩ := Kd.N_slice HO_338001.out
        (first | subst eo88 | (injection eo88 with f1_ f2_ f3_; have f4_ := f1_.symm; have f5_ := f3_.symm; clear f1_ f2_ f3_; subst f4_; subst f5_))
        have p375 : 0 ≤ ((ji80) : Int) := of_decide_eq_true (g0_)
        have q375 : (ji80) < (x338001_1.length : Int) := of_decide_eq_true (g0_)
        obtain ⟨ad375, A375_0, c375_0, e375, hx375_0, hl375_0, hi375_0⟩ := at_L1 (Kd.N_reads' HO_338001.out).2.2 (ji80) p375 q375
        cases e375
        obtain ⟨ce375, hce375, hMe375, hcc375⟩ := Kd.N_get HO_338001.out [] (ji80) p375 (by first | exact q375 | exact of_decide_eq_true (g0_) | (have e_ := (Kd.N_reads' HO_338001.out).1; omega))
        obtain ⟨ua375_0, uc375_0, rfl, ul375_0, ge375_0⟩ := Kd.FK_slice_open hMe375
        have hv375_0 := hcc375 0 _ rfl
        rw [Nat.add_zero, show ((Kd.slice 3 (Kd.int .i64))).sz = 1 from rfl, Nat.mul_one] at hv375_0
        replace hv375_0 := Option.some.inj (hv375_0.symm.trans hx375_0)
        injection hv375_0 with hva_ hvn_ hvc_
        rw [hva_] at ge375_0
        rw [hvc_] at ul375_0
        have HL375_0 := Aside0.mk (show Kd.V (Kd.int .i64) 3 _ w.heap.size _ _ (rd_L1 x338001_1 (ji80)) from Kd.V_mk ul375_0 ge375_0)
        clear hva_ hvn_ hvc_ ge375_0 ul375_0
        clear hcc375 hce375
        have HR375_0 := Aside0.mk hi375_0
        have HC375_0 := Aside0.mk hl375_0
        clear hi375_0 hl375_0
        replace p375 := eq_true p375
        replace q375 := eq_true q375
        have q89 : (1 : Int) ≤ (((rd_L1 x338001_1 (ji80)).length : Int) : Int) := of_decide_eq_true (g0_)
        obtain ⟨i089, hi089, _, hsz89, _⟩ := info_parts info3
        have hroom89 : (rd_L1 x338001_1 (ji80)).length ≤ c375_0 := HC375_0.out
        have hC89 : Kd.F (Kd.int .i64) _ _ A375_0 (rd_L1 x338001_1 (ji80)).length (rd_L1 x338001_1 (ji80)) := (Kd.V_at (base := w.heap.size) HL375_0.out).2.2
        have hcut89 := cut_from (P := Try.prog) 22 3 .i64 Try.underlying22 hi089 1 hsz89 A375_0 (rd_L1 x338001_1 (ji80)).length c375_0 1 (by omega) q89
        have hr89 := Kd.F_cut (m := (1 : Int).toNat) (c := c375_0) hC89 (by omega) hroom89
        obtain ⟨A89, hA89⟩ : ∃ A1, A1 = (if c375_0 = (1 : Int).toNat then A375_0 else (A375_0 : Option Addr).map (·.add ((1 : Int).toNat * 1))) := ⟨_, rfl⟩
        obtain ⟨c89, hc89⟩ : ∃ c1, c1 = c375_0 - (1 : Int).toNat := ⟨_, rfl⟩
        have hy89 : y376.length = (rd_L1 x338001_1 (ji80)).length - (1 : Int).toNat := (by rw [Ny376.out, List.length_drop] <;> omega)
        rw [show (rd_L1 x338001_1 (ji80)).drop (1 : Int).toNat = y376 from Ny376.out.symm] at hr89
        replace hr89 : Kd.F (Kd.int .i64) _ _ A89 y376.length y376 := (by rw [hA89]; exact hr89)
        rw [← hy89, ← hA89, ← hc89] at hcut89
        have HO380 := Aside0.mk (show Kd.V (Kd.int .i64) 3 _ w.heap.size _ (.slice A89 y376.length c89) y376 from Kd.V_mk (by rw [hy89, hc89]; exact Nat.sub_le_sub_right hroom89 _) hr89)
        have HC380 := Aside0.mk (show y376.length ≤ c89 from by rw [hy89, hc89]; exact Nat.sub_le_sub_right hroom89 _)
        clear hr89 hC89 hroom89 hi089 hsz89 hc89
        have KY89 := Aside0.mk hy89
        have KA89 := Aside0.mk hA89
        clear hy89 hA89
        replace q89 := eq_true q89
        have p84 : 0 ≤ ((ji80) : Int) := of_decide_eq_true (g0_)
        have q84 : ((ji80) : Int) < ((x338001_1.length : Int) : Int) := of_decide_eq_true (g0_)
        obtain ⟨go84, co84, eo84, gb84, gl84, cl84, HG84⟩ := Kd.N_form HO_338001.out (by omega)
        (first | cases eo84 | (injection eo84 with ea_ en_ ec_; (first | subst ea_ | (injection ea_ with ea_; subst ea_)); subst ec_; clear en_))
        have GB84 := Aside0.mk gb84
        have GG84 := Aside0.mk HG84
        clear gb84 gl84 HG84
        (first | simp only [add_plain] at hx375_0 | skip)
        obtain ⟨ce84, hcl84, hM84, hcc84, hfr84⟩ := Kd.N_elem HO_338001.out [] ((ji80) : Int) p84 q84
        obtain ⟨ua84_0, uc84_0, rfl, ul84_0, ge84_0⟩ := Kd.FK_slice_open hM84
        have hx84_0 := hcc84 0 _ rfl
        have hf84_0 := hfr84 0
        (try simp only [show ((Kd.slice 3 (Kd.int .i64))).sz = 1 from rfl, Nat.mul_one, Nat.add_zero] at hx84_0)
        (try simp only [show ((Kd.slice 3 (Kd.int .i64))).sz = 1 from rfl, Nat.mul_one, Nat.add_zero] at hf84_0)
        clear hcl84 hcc84 hfr84 hM84
        replace p84 := eq_true p84
        replace q84 := eq_true q84
        have HN0_go84 := Aside0.mk (show g ≠ go84 from by have h_ := IsS112.own_neN HI0.out HO_338001.out (by decide); intro e_; exact h_ (g7_))
        have HX90 := Aside0.mk (show Kd.N (Kd.slice 3 (Kd.int .i64)) 22 _ w.heap.size (fun k_ => (w.heap.size ≤ k_) ∧ some k_ ≠ (u338000 : Value).ownBlock ∧ k_ ≠ gb330 ∧ k_ ≠ gb337 ∧ k_ ≠ g) (.slice (some ⟨go84, 0, none⟩) x338001_1.length co88) x338001_1 from (Kd.N_mono (HO_338001.out) (fun k_ hk => ⟨hk.1, ⟨hk.2.1, ⟨hk.2.2.1, ⟨hk.2.2.2.1, hk.2.2.2.2⟩⟩⟩⟩)))
        obtain ⟨ce90, hcl90, hM90, hcc90, hfr90⟩ := Kd.N_elem HX90.out [] ((ji80) : Int) (of_decide_eq_true (g0_)) (by have h_ : ((ji80) : Int) < ((x338001_1.length : Int) : Int) := of_decide_eq_true (g0_); first | exact h_ | (have e_ := (Kd.N_reads' HO_338001.out).1; omega) | simpa using h_)
        obtain ⟨ua90_0, uc90_0, rfl, ul90_0, ge90_0⟩ := Kd.FK_slice_open hM90
        have HP90 := (Kd.N_seg HX90.out ((ji80) : Int) (of_decide_eq_true (g0_)) (by have h_ : ((ji80) : Int) < ((x338001_1.length : Int) : Int) := of_decide_eq_true (g0_); first | exact h_ | (have e_ := (Kd.N_reads' HO_338001.out).1; omega) | simpa using h_) (seg := [.slice A89 y376.length c89]) (j := 0) hcl90 hcc90 (show 1 ≤ 1 from by decide) (x' := y376) (Kd.FK_slice_mk (Kd.V_reads' (Kd.V_mono (ok' := (fun k_ => ((fun k_ => (w.heap.size ≤ k_) ∧ some k_ ≠ (u338000 : Value).ownBlock ∧ k_ ≠ gb330 ∧ k_ ≠ gb337 ∧ k_ ≠ g)) k_ ∧ k_ ≠ go84)) (HO380.out) (fun k_ hk => ⟨⟨hk.1.1, ⟨hk.1.2.1, ⟨hk.1.2.2.1, ⟨hk.1.2.2.2.1, hk.1.2.2.2.2⟩⟩⟩⟩, fun e_ => (hk.2) (g7_)⟩))).2.1 (Kd.V_F (Kd.V_mono (ok' := (fun k_ => ((fun k_ => (w.heap.size ≤ k_) ∧ some k_ ≠ (u338000 : Value).ownBlock ∧ k_ ≠ gb330 ∧ k_ ≠ gb337 ∧ k_ ≠ g)) k_ ∧ k_ ≠ go84)) (HO380.out) (fun k_ hk => ⟨⟨hk.1.1, ⟨hk.1.2.1, ⟨hk.1.2.2.1, ⟨hk.1.2.2.2.1, hk.1.2.2.2.2⟩⟩⟩⟩, fun e_ => (hk.2) (g7_)⟩)))) (fun _ hk => hk)).1
        (try simp only [show ((Kd.slice 3 (Kd.int .i64))).sz = 1 from rfl, Nat.mul_one, Nat.add_zero] at HP90)
        rw [← Ny381.out] at HP90
        have HQ90 := Aside0.mk HP90
        clear hcl90 hcc90 hfr90 hM90 HP90
        refine start_ (n := 13) (S := fun w' => w'.cell? ⟨gb337, 0, none⟩ = some (u338000) ∧ w'.cell? ⟨gb337, 1, none⟩ = some (.slice (some ⟨go84, 0, none⟩) x338001_1.length co88) ∧ w'.cell? ⟨go84, ((ji80)).toNat, none⟩ = some (.slice A375_0 (rd_L1 x338001_1 (ji80)).length c375_0)) (ds := [12]) (tl_ 13 0) (g1_) rfl (g1_) ⟨(blk_cell BK337.out 0).trans rfl, (blk_cell BK337.out 1).trans rfl, hx375_0⟩ (fun hHeld => ?_); refine with_tabW spec_l20Book.tab19 spec_l20Book.bits19 (fun HT_ HW_ => ?_)
        generalize w86.drew = w87 at HO_338000 HO_338001 BK330 BK337 HI0 HK HB GG84 HL375_0 HO380 HQ90 HR375_0 hf84_0 hx375_0 hx84_0 hHeld ⊢
        refine pw_ 0 69 (tl_ 13 1) rfl rfl ?_
        refine pw_ 2 71 (tl_ 13 5) rfl rfl ?_
        refine pw_ 3 72 (tl_ 13 13) rfl rfl ?_
        refine pw_ 4 73 (tl_ 13 29) rfl rfl ?_
        refine pw_ 6 75 (tl_ 13 93) rfl rfl ?_
        refine pw_ 7 76 (tl_ 13 221) rfl rfl ?_
        refine tk4_ 1 70 (tl_ 13 223) rfl rfl hHeld ?_
        refine tk4_ 5 74 (tl_ 13 255) rfl rfl hHeld ?_
        refine pw_ 8 77 (tl_ 13 511) rfl rfl ?_
        refine tk4_ 9 78 (tl_ 13 1023) rfl rfl hHeld ?_
        refine pw_ 10 79 (tl_ 13 2047) rfl rfl ?_
        refine pw_ 11 80 (tl_ 13 4095) rfl rfl ?_
        refine last_ (i := 12) (N := none) (tl_ 13 8191) rfl rfl (one_of HT_.out (g1_)) (by decide) (fun K hK => ?_)
        refine skip_ (w1 := ?_) (by rfl) rfl ?_ ?_
        rotate_left
        ·go_simp
         rfl
        refine hK.out _ _ ?_
        clear hK K
        refine done_ (done_of HT_.out (g1_)) ?_
        have n0_ : Aside0 (Kd.R (Kd.int .i64) 3 (w87.setCell ⟨go84, ((ji80) : Int).toNat, none⟩ (.slice A89 y376.length c89)) w.heap.size (fun k_ => (w.heap.size ≤ k_)) u338000 x338000_1) := ⟨by (with_reducible repeat (first | apply Kd.R_alloc | apply Kd.R_drewN | apply Kd.R_drew)); exact Kd.R_mono (Kd.R_far (p := ⟨go84, ((ji80) : Int).toNat, none⟩) (Kd.R_types HO_338000.out GG84.out (by decide)) (fun _ hk => hk.2) (.slice A89 y376.length c89)) (fun _ hk => hk.1)⟩
        have n1_ : Aside0 (Kd.N (Kd.slice 3 (Kd.int .i64)) 22 (w87.setCell ⟨go84, ((ji80) : Int).toNat, none⟩ (.slice A89 y376.length c89)) w.heap.size (fun k_ => (w.heap.size ≤ k_) ∧ some k_ ≠ (u338000 : Value).ownBlock ∧ k_ ≠ gb330 ∧ k_ ≠ gb337 ∧ k_ ≠ g) (.slice (some ⟨go84, 0, none⟩) x338001_1.length co88) y381) := ⟨uf4_ HQ90⟩
        have n2_ : Aside0 (Kd.V (Kd.int .i64) 3 (w87.setCell ⟨go84, ((ji80) : Int).toNat, none⟩ (.slice A89 y376.length c89)) w.heap.size (fun k_ => (w.heap.size ≤ k_) ∧ some k_ ≠ (u338000 : Value).ownBlock ∧ some k_ ≠ (.slice (some ⟨go84, 0, none⟩) x338001_1.length co88 : Value).ownBlock ∧ k_ ≠ gb330 ∧ k_ ≠ gb337 ∧ k_ ≠ g) (.slice A375_0 (rd_L1 x338001_1 (ji80)).length c375_0) (rd_L1 x338001_1 (ji80))) := ⟨by (with_reducible repeat (first | apply Kd.V_alloc | apply Kd.V_drewN | apply Kd.V_drew)); exact Kd.V_mono (Kd.V_far (p := ⟨go84, ((ji80) : Int).toNat, none⟩) (Kd.V_mono HL375_0.out (fun k_ hk => (⟨hk, fun e_ => hk.2 (g7_)⟩ : _ ∧ k_ ≠ go84))) (fun _ hk => hk.2) (.slice A89 y376.length c89)) (fun _ hk => ⟨hk.1.1.1, ⟨hk.1.1.2.1, ⟨hk.1.2, ⟨hk.1.1.2.2.1, ⟨hk.1.1.2.2.2.1, hk.1.1.2.2.2.2⟩⟩⟩⟩⟩)⟩
        have n3_ : Aside0 (Kd.V (Kd.int .i64) 3 (w87.setCell ⟨go84, ((ji80) : Int).toNat, none⟩ (.slice A89 y376.length c89)) w.heap.size (fun k_ => (w.heap.size ≤ k_) ∧ some k_ ≠ (u338000 : Value).ownBlock ∧ some k_ ≠ (.slice (some ⟨go84, 0, none⟩) x338001_1.length co88 : Value).ownBlock ∧ k_ ≠ gb330 ∧ k_ ≠ gb337 ∧ k_ ≠ g) (.slice A89 y376.length c89) y376) := ⟨by (with_reducible repeat (first | apply Kd.V_alloc | apply Kd.V_drewN | apply Kd.V_drew)); exact Kd.V_mono (Kd.V_far (p := ⟨go84, ((ji80) : Int).toNat, none⟩) (Kd.V_mono HO380.out (fun k_ hk => (⟨hk, fun e_ => hk.2 (g7_)⟩ : _ ∧ k_ ≠ go84))) (fun _ hk => hk.2) (.slice A89 y376.length c89)) (fun _ hk => ⟨hk.1.1.1, ⟨hk.1.1.2.1, ⟨hk.1.2, ⟨hk.1.1.2.2.1, ⟨hk.1.1.2.2.2.1, hk.1.1.2.2.2.2⟩⟩⟩⟩⟩)⟩
        have n4_ : Aside0 ((w87.setCell ⟨go84, ((ji80) : Int).toNat, none⟩ (.slice A89 y376.length c89)).heap[gb330]? = some (.cells #[.slice none 0 0, .slice none 0 0] 25 (0, 0))) := ⟨by (with_reducible repeat (first | refine blk_drewN ?_ _ | refine blk_drew ?_ | refine blk_alloc ?_ _)); refine blk_far ?_ (by have h_ := Kd.N_away HO_338001.out (fun _ hk => hk.2.2.1); intro e_; exact h_ (g7_)) _; (with_reducible repeat (first | refine blk_drewN ?_ _ | refine blk_drew ?_ | refine blk_alloc ?_ _)); exact BK330.out⟩
        have n5_ : Aside0 ((w87.setCell ⟨go84, ((ji80) : Int).toNat, none⟩ (.slice A89 y376.length c89)).heap[gb337]? = some (.cells #[u338000, .slice (some ⟨go84, 0, none⟩) x338001_1.length co88] 25 (0, 0))) := ⟨by (with_reducible repeat (first | refine blk_drewN ?_ _ | refine blk_drew ?_ | refine blk_alloc ?_ _)); refine blk_far ?_ (by have h_ := Kd.N_away HO_338001.out (fun _ hk => hk.2.2.2.1); intro e_; exact h_ (g7_)) _; (with_reducible repeat (first | refine blk_drewN ?_ _ | refine blk_drew ?_ | refine blk_alloc ?_ _)); exact BK337.out⟩
        have n6_ : Aside0 (IsS112 w0 (w87.setCell ⟨go84, ((ji80) : Int).toNat, none⟩ (.slice A89 y376.length c89)) g s0_0 t373) := ⟨qz25_⟩
        have n7_ : Aside0 (KeepBut w (w87.setCell ⟨go84, ((ji80) : Int).toNat, none⟩ (.slice A89 y376.length c89)) g none) := ⟨qz10_⟩
        have n8_ : Aside0 (Below w0.heap.size w0 (w87.setCell ⟨go84, ((ji80) : Int).toNat, none⟩ (.slice A89 y376.length c89))) := ⟨qz26_⟩
        (try clear HO_338000)
        (try clear HO_338001)
        (try clear HL375_0)
        (try clear HO380)
        (try clear BK330)
        (try clear BK337)
        (try clear HI0)
        (try clear HK)
        (try clear HB)
        generalize (w87.setCell ⟨go84, ((ji80) : Int).toNat, none⟩ (.slice A89 y376.length c89)) = w91 at n0_ n1_ n2_ n3_ n4_ n5_ n6_ n7_ n8_ ⊢
        have HO_338000 := n0_
        have HO_338001 := n1_
        have HL375_0 := n2_
        have HO380 := n3_
        have BK330 := n4_
        have BK337 := n5_
        have HI0 := n6_
        have HK := n7_
        have HB := n8_
        clear n0_ n1_ n2_ n3_ n4_ n5_ n6_ n7_ n8_
        have hnb92 := NB337_330.out
        have hnc92 := NB330_337.out
        have hnb93 := NB337_0.out
        have hnc93 := NB0_337.out
        obtain ⟨hcz94_0, hcz94_1, hfz94_0, hfz94_1⟩ := blk2_ BK337
        obtain ⟨Ao95, co95, eo95⟩ := Kd.R_slice HO_338000.out
        subst eo95
        have hnb96 := NB330_0.out
        have hnc96 := NB0_330.out
        obtain ⟨hcz97_0, hcz97_1, hfz97_0, hfz97_1⟩ := blk2_ BK330
        try go_wp2
        refine bodyPost_ret (results_cell_row rfl _ _ gb330 25 #[.slice Ao95 x338000_1.length co95, .slice (some ⟨go84, 0, none⟩) x338001_1.length co88] (0, 0) _ rfl (by (with_reducible repeat (first | refine blk_drewN ?_ _ | refine blk_drew ?_ | refine blk_alloc ?_ _)); refine blk_put (cs := #[.slice Ao95 x338000_1.length co95, .slice none 0 0]) ?_ 1 _ rfl; (with_reducible repeat (first | refine blk_drewN ?_ _ | refine blk_drew ?_ | refine blk_alloc ?_ _)); refine blk_put (cs := #[.slice none 0 0, .slice none 0 0]) ?_ 0 _ rfl; (with_reducible repeat (first | refine blk_drewN ?_ _ | refine blk_drew ?_ | refine blk_alloc ?_ _)); exact BK330.out) Try.underlying25 rfl (g1_)) rfl ?_
        exact ⟨_, _, by first | rfl | (simp [errW_none, errW_some] <;> rfl) | (simp only [← hji80]; first | rfl | (simp [errW_none, errW_some] <;> rfl)) | (simp [*, errW_none, errW_some] <;> rfl), by (with_reducible repeat (first | apply Kd.R_alloc | apply Kd.R_drewN | apply Kd.R_drew)); exact Kd.R_mono (Kd.R_far (p := ⟨gb330, 1, none⟩) (Kd.R_far (p := ⟨gb330, 0, none⟩) (Kd.R_types HO_338000.out BK330.out (by decide)) (fun _ hk => hk.2) (.slice Ao95 x338000_1.length co95)) (fun _ hk => hk.2) (.slice (some ⟨go84, 0, none⟩) x338001_1.length co88)) (fun _ hk => hk.1), Kd.N_V (by (with_reducible repeat (first | apply Kd.N_alloc | apply Kd.N_drewN | apply Kd.N_drew)); exact Kd.N_mono (Kd.N_far (p := ⟨gb330, 1, none⟩) (Kd.N_far (p := ⟨gb330, 0, none⟩) (Kd.N_mono HO_338001.out (fun k_ hk => (⟨hk, hk.2.2.1⟩ : _ ∧ k_ ≠ gb330))) (fun _ hk => hk.2) (.slice Ao95 x338000_1.length co95)) (fun _ hk => hk.2) (.slice (some ⟨go84, 0, none⟩) x338001_1.length co88)) (fun _ hk => ⟨hk.1.1, hk.1.2.1⟩)), qz25_, qz26_, qz10_⟩
    ·replace c57 := Bool.eq_false_iff.mpr c57
     subst c57
     replace H := ifn_ H
     simp only [Option.some.injEq, Prod.mk.injEq] at H
     obtain ⟨rfl, rfl, rfl⟩ := H
     go_wp2_with (first | ((with_reducible refine gate_callee (f := 106) rfl ?_); refine goesL_ (some 66) rfl rfl Try.func106 k_ rfl #[.pointer (some ⟨g, 0, none⟩), .int .i64 a1] rfl (g2_) ?_; (with_reducible refine (spec_l20Rd_odd.calls k1 g s0_0 x1001_1 a1 false t371 w0 _ ?side1 ?side2 A56.out).mono ?_); (case side1 => exact qz25_); (case side2 => exact qz26_); rintro e w95 ⟨rfl, hi, hb, hk⟩; refine ⟨_, rfl, ?_⟩; replace HO_338000 := Aside0.mk (Kd.R_mono (Kd.R_keep (IsS112.apart (show IsS112 w0 _ g s0_0 x1001_1 from qz25_) (uf1_ HO_338000) (by decide)) hk (fun _ h => h.2)) (fun _ h => h.1)); replace HO_338001 := Aside0.mk (Kd.S_mono (Kd.S_keep (IsS112.apartS (show IsS112 w0 _ g s0_0 x1001_1 from qz25_) (uf2_ HO_338001) (by decide)) hk (fun _ h => h.2)) (fun _ h => h.1)); replace BK330 := Aside0.mk (KeepBut.blk hk (g' := gb330) (o := .cells #[.slice none 0 0, .slice none 0 0] 25 (0, 0)) (uf0_ BK330) NB330_0.out (by simp)); replace BK337 := Aside0.mk (KeepBut.blk hk (g' := gb337) (o := .cells #[u338000, u338001] 25 (0, 0)) (uf0_ BK337) NB337_0.out (by simp)); replace HK := Aside0.mk (KeepBut.trans (qz10_) hk (.inl rfl)); replace HB := Aside0.mk (hb); replace HI0 := Aside0.mk (hi); (try clear hb); (try clear hk hi); have hnb96 := NB337_330.out; have hnc96 := NB330_337.out; have hnb97 := NB337_0.out; have hnc97 := NB0_337.out; obtain ⟨hcz98_0, hcz98_1, hfz98_0, hfz98_1⟩ := blk2_ BK337; obtain ⟨Ao99, co99, eo99⟩ := Kd.R_slice HO_338000.out; subst eo99; have hnb100 := NB330_0.out; have hnc100 := NB0_330.out; obtain ⟨hcz101_0, hcz101_1, hfz101_0, hfz101_1⟩ := blk2_ BK330; obtain ⟨Ao102, co102, eo102⟩ := Kd.S_slice HO_338001.out; subst eo102))
     refine bodyPost_ret (results_cell_row rfl _ _ gb330 25 #[.slice Ao99 x338000_1.length co99, .slice Ao102 x338001_1.length co102] (0, 0) _ rfl (by (with_reducible repeat (first | refine blk_drewN ?_ _ | refine blk_drew ?_ | refine blk_alloc ?_ _)); refine blk_put (cs := #[.slice Ao99 x338000_1.length co99, .slice none 0 0]) ?_ 1 _ rfl; (with_reducible repeat (first | refine blk_drewN ?_ _ | refine blk_drew ?_ | refine blk_alloc ?_ _)); refine blk_put (cs := #[.slice none 0 0, .slice none 0 0]) ?_ 0 _ rfl; (with_reducible repeat (first | refine blk_drewN ?_ _ | refine blk_drew ?_ | refine blk_alloc ?_ _)); exact BK330.out) Try.underlying25 rfl (g1_)) rfl ?_
     exact ⟨_, _, g4_, by (with_reducible repeat (first | apply Kd.R_alloc | apply Kd.R_drewN | apply Kd.R_drew)); exact Kd.R_mono (Kd.R_far (p := ⟨gb330, 1, none⟩) (Kd.R_far (p := ⟨gb330, 0, none⟩) (Kd.R_types HO_338000.out BK330.out (by decide)) (fun _ hk => hk.2) (.slice Ao99 x338000_1.length co99)) (fun _ hk => hk.2) (.slice Ao102 x338001_1.length co102)) (fun _ hk => hk.1), Kd.S_V (by (with_reducible repeat (first | apply Kd.S_alloc | apply Kd.S_drewN | apply Kd.S_drew)); exact Kd.S_mono (Kd.S_far (p := ⟨gb330, 1, none⟩) (Kd.S_far (p := ⟨gb330, 0, none⟩) (Kd.S_types HO_338001.out BK330.out (by decide)) (fun _ hk => hk.2) (.slice Ao99 x338000_1.length co99)) (fun _ hk => hk.2) (.slice Ao102 x338001_1.length co102)) (fun _ hk => ⟨hk.1.1, hk.1.2⟩)), qz25_, qz26_, qz10_⟩
def spec_DrawNetted.f (k : Nat) (l0 : List Int) : Option (List Int × (List (List Int))) := (spec_l20Open.f l0).bind fun bt381 => ((spec_l20Book.f k bt381.1 bt381.2 9).bind fun bt384 => (some (bt384.1, bt384.2.1)))
theorem spec_DrawNetted.mq {p : Prop} (h : p := by
 repeat' first
 | (with_reducible exact spec_l20Book.mono _ _ _ _)
 | (with_reducible exact LeO.refl _)
 | (with_reducible exact LeO.none _)
 | (with_reducible refine LeO.ite ?_ ?_)
 | (with_reducible refine LeO.bind ?_ (fun _ => ?_))
 | exact spec_l20Book.mono _ _ _ _
 | exact LeO.none _
 | refine LeO.ite ?_ ?_
 | refine LeO.bind ?_ (fun _ => ?_)) : p := h
theorem spec_DrawNetted.mono : ∀ a0 k, LeO (spec_DrawNetted.f k a0) (spec_DrawNetted.f (k + 1) a0) := by
 intro a0 k
 unfold spec_DrawNetted.f
 exact spec_DrawNetted.mq
theorem qz27_ {p : Prop} (h : p := by repeat (first | (with_reducible first | exact HB.out | apply below_alloc | apply pw_below_drewN | apply below_drew1 | refine below_set ?_ GE380.out | refine below_set ?_ (IsS112.ge HI383.out)) | exact HB.out)) : p := h
theorem qz28_ {p : Prop} (h : p := by repeat (first | (with_reducible first | exact HI383.out | apply IsS112.alloc | apply IsS112.drewN | apply IsS112.drew | apply IsS112.set_1 | refine IsS112.far ?_ NB383_380.out _) | exact HI383.out)) : p := h
set_option maxHeartbeats 8000000 in
set_option maxRecDepth 100000 in
theorem spec_DrawNetted.calls (k : Nat) (A0 : Option Addr) (c0 : Nat) (l0 : List Int) (r1 : List Int) (r2 : List (List Int)) (w : World) (hr0 : Kd.C (Kd.int .u8) w A0 l0.length l0) (hc0 : l0.length ≤ c0) (h : spec_DrawNetted.f k l0 = some (r1, r2)) :
  Calls Try.prog 38 #[.slice A0 l0.length c0] w fun e w' => ∃ v0_ v1_ : Value, e = .returned (.agg #[v0_, v1_]) ∧ Kd.R (Kd.int .i64) 3 w' w.heap.size (fun k_ => (w.heap.size ≤ k_)) v0_ r1 ∧ Kd.V (Kd.slice 3 (Kd.int .i64)) 22 w' w.heap.size (fun k_ => (w.heap.size ≤ k_) ∧ some k_ ≠ (v0_ : Value).ownBlock) v1_ r2 ∧ Below w.heap.size w w' := by
 have hu25 := Try.underlying25
 have HR0 := Aside0.mk hr0
 have HC0 := Aside0.mk hc0
 clear hr0 hc0
 have HB := Aside0.mk (Below.refl w.heap.size w)
 have H : ((spec_l20Open.f l0).bind fun bt381 => ((spec_l20Book.f k bt381.1 bt381.2 9).bind fun bt384 => (some (bt384.1, bt384.2.1)))) = some (r1, r2) := h
 clear h
 replace H := Option.bind_eq_some_iff.mp H
 obtain ⟨⟨t381, t382⟩, A20, H⟩ := H
 replace H : ((spec_l20Book.f k t381 t382 9).bind fun bt384 => (some (bt384.1, bt384.2.1))) = some (r1, r2) := H
 have A2 := Aside0.mk A20
 clear A20
 replace H := Option.bind_eq_some_iff.mp H
 obtain ⟨⟨t384, t387, t390⟩, A30, H⟩ := H
 replace H : (some (t384, t387)) = some (r1, r2) := H
 have A3 := Aside0.mk A30
 clear A30
 simp only [Option.some.injEq, Prod.mk.injEq] at H
 obtain ⟨rfl, rfl⟩ := H
 go_enter Try.func38, Try.ntmps38
 go_wp2_with (first | ((with_reducible refine gate_dst (N := 2) rfl ?_); refine bx_ (N := 2) #[.slice none 0 0, .slice none 0 0] 25 ?_; intro gb380 hg w4 hbox hb; have BK380 := Aside0.mk (hbox); have GW380 := Aside0.mk ((by rw [hg]; exact (below_size (qz27_)) : w.heap.size ≤ gb380)); have GE380 := Aside0.mk ((by rw [hg]; exact (below_size (qz27_)) : w.heap.size ≤ gb380)); replace HB := Aside0.mk (below_step (qz27_) hb); clear hb hbox hg) | ((with_reducible refine gate_callee (f := 69) rfl ?_); refine goesL_ (some 4) rfl rfl Try.func69 k_ rfl #[.slice A0 l0.length c0] rfl (g2_) ?_; (with_reducible refine (spec_l20Open.calls _ _ l0 t381 t382 w _ ?side1 ?side2 ?side3 A2.out).mono ?_); (case side1 => exact qz27_); (case side2 => exact HR0.out); (case side3 => exact HC0.out); rintro e w5 ⟨g383, rfl, hi, hb, hb2⟩; refine ⟨_, rfl, ?_⟩; replace HB := Aside0.mk (hb); have HI383 := Aside0.mk (hi); have NB383_380 := Aside0.mk (IsS112.ne_blk hi (blk_below (g := gb380) (o := .cells #[.slice none 0 0, .slice none 0 0] 25 (0, 0)) (uf0_ BK380) hb2) (by decide)); have NB380_383 := Aside0.mk (Ne.symm (IsS112.ne_blk hi (blk_below (g := gb380) (o := .cells #[.slice none 0 0, .slice none 0 0] 25 (0, 0)) (uf0_ BK380) hb2) (by decide))); replace BK380 := Aside0.mk (blk_below (g := gb380) (o := .cells #[.slice none 0 0, .slice none 0 0] 25 (0, 0)) (uf0_ BK380) hb2); (try clear hb); (try clear hb2); (try clear hk); (try clear hi)) | ((with_reducible refine gate_callee (f := 91) rfl ?_); refine goesL_ (some 5) rfl rfl Try.func91 k_ rfl #[.pointer (some ⟨g383, 0, none⟩), .int .i64 9] rfl (g2_) ?_; (with_reducible refine (spec_l20Book.calls k g383 t381 t382 9 t384 t387 t390 w _ ?side1 ?side2 A3.out).mono ?_); (case side1 => exact qz28_); (case side2 => exact qz27_); rintro e w6 ⟨v385, v388, rfl, ho0, ho1, hi, hb, hk⟩; refine ⟨_, rfl, ?_⟩; have HO386 := Aside0.mk (Kd.R_lower (Kd.R_newM (M := fun k_ => (w.heap.size ≤ k_)) (Kd.R_mono (ok' := fun k_ => True) ho0 (fun _ hk_ => trivial)) (below_size (qz27_)) (fun k_ h_ => h_)) (below_size (qz27_))); have HO389 := Aside0.mk (Kd.V_lower (Kd.V_mono (ok' := fun k_ => (w.heap.size ≤ k_) ∧ some k_ ≠ (v385 : Value).ownBlock ∧ k_ ≠ gb380 ∧ k_ ≠ g383) ho1 (fun k_ hk_ => ⟨(Nat.le_trans (below_size (qz27_)) hk_.1), hk_.2, (Kd.freshB (g := gb380) (o := .cells #[.slice none 0 0, .slice none 0 0] 25 (0, 0)) (uf0_ BK380) k_ hk_.1), (IsS112.fresh (qz28_) k_ hk_.1)⟩)) (below_size (qz27_))); replace BK380 := Aside0.mk (KeepBut.blk hk (g' := gb380) (o := .cells #[.slice none 0 0, .slice none 0 0] 25 (0, 0)) (uf0_ BK380) NB380_383.out (by simp)); replace HB := Aside0.mk (hb); replace HI383 := Aside0.mk (hi); (try clear hb); (try clear hb2); (try clear hk); (try clear hi); (try clear ho0); (try clear ho1); obtain ⟨Ao7, co7, eo7⟩ := Kd.R_slice HO386.out; subst eo7; have hnb8 := NB380_383.out; have hnc8 := NB383_380.out; obtain ⟨hcz9_0, hcz9_1, hfz9_0, hfz9_1⟩ := blk2_ BK380; obtain ⟨Ao10, co10, eo10⟩ := Kd.V_slice HO389.out; subst eo10))
 refine bodyPost_ret (results_cell_row rfl _ _ gb380 25 #[.slice Ao7 t384.length co7, .slice Ao10 t387.length co10] (0, 0) _ rfl (by (with_reducible repeat (first | refine blk_drewN ?_ _ | refine blk_drew ?_ | refine blk_alloc ?_ _)); refine blk_put (cs := #[.slice Ao7 t384.length co7, .slice none 0 0]) ?_ 1 _ rfl; (with_reducible repeat (first | refine blk_drewN ?_ _ | refine blk_drew ?_ | refine blk_alloc ?_ _)); refine blk_put (cs := #[.slice none 0 0, .slice none 0 0]) ?_ 0 _ rfl; (with_reducible repeat (first | refine blk_drewN ?_ _ | refine blk_drew ?_ | refine blk_alloc ?_ _)); exact BK380.out) Try.underlying25 rfl (g1_)) rfl ?_
 exact ⟨_, _, g4_, by (with_reducible repeat (first | apply Kd.R_alloc | apply Kd.R_drewN | apply Kd.R_drew)); exact Kd.R_mono (Kd.R_far (p := ⟨gb380, 1, none⟩) (Kd.R_far (p := ⟨gb380, 0, none⟩) (Kd.R_types HO386.out BK380.out (by decide)) (fun _ hk => hk.2) (.slice Ao7 t384.length co7)) (fun _ hk => hk.2) (.slice Ao10 t387.length co10)) (fun _ hk => hk.1.1), by (with_reducible repeat (first | apply Kd.V_alloc | apply Kd.V_drewN | apply Kd.V_drew)); exact Kd.V_mono (Kd.V_far (p := ⟨gb380, 1, none⟩) (Kd.V_far (p := ⟨gb380, 0, none⟩) (Kd.V_mono HO389.out (fun k_ hk => (⟨hk, hk.2.2.1⟩ : _ ∧ k_ ≠ gb380))) (fun _ hk => hk.2) (.slice Ao7 t384.length co7)) (fun _ hk => hk.2) (.slice Ao10 t387.length co10)) (fun _ hk => ⟨hk.1.1, hk.1.2.1⟩), qz27_⟩
def impl_copyBook.l0 : Nat → List (List Int) → Int → Int → List Int → List (List Int) → Option (List Int × (List (List Int)))
 | 0, _, _, _, _, _ => none
 | k + 1, x12, x13, x14, x400000, x400001 => if x14 < x13 then (if 0 ≤ x14 then (if x14 < (x12.length : Int) then ((some (([] : List Int) : List Int)).bind fun y401 => (if y401.length + (rd_L1 x12 x14).length < 17592186044416 then (if x400001.length < 5864062014805 then (impl_copyBook.l0 k x12 x13 (wrap64 (x14 + 1)) x400000 (x400001 ++ [(y401 ++ (rd_L1 x12 x14))])) else (none)) else (none))) else (none)) else (none)) else (some (x400000, x400001))
def impl_copyBook.f (k : Nat) (l0_0 : List Int) (l0_1 : List (List Int)) : Option (List Int × (List (List Int))) := (some (([] : List Int) : List Int)).bind fun y393 => (if y393.length + l0_0.length < 17592186044416 then (impl_copyBook.l0 k l0_1 (l0_1.length : Int) 0 (y393 ++ l0_0) ([] : List (List Int))) else (none))
theorem impl_copyBook.mq {p : Prop} (h : p := by
 repeat' first
 | (with_reducible exact ih0 _ _ _ _ _)
 | (with_reducible exact LeO.refl _)
 | (with_reducible exact LeO.none _)
 | (with_reducible refine LeO.ite ?_ ?_)
 | (with_reducible refine LeO.bind ?_ (fun _ => ?_))
 | exact ih0 _ _ _ _ _
 | exact LeO.none _
 | refine LeO.ite ?_ ?_
 | refine LeO.bind ?_ (fun _ => ?_)) : p := h
theorem impl_copyBook.mono_l : ∀ k, (∀ y0 y1 y2 y3 y4, LeO (impl_copyBook.l0 k y0 y1 y2 y3 y4) (impl_copyBook.l0 (k + 1) y0 y1 y2 y3 y4))
 | 0 => fun _ _ _ _ _ r h => by simp [impl_copyBook.l0] at h
 | k + 1 => by
  have ih0 := impl_copyBook.mono_l k
  ·intro y0 y1 y2 y3 y4
   unfold impl_copyBook.l0
   exact impl_copyBook.mq
theorem impl_copyBook.mono : ∀ a0 a1 k, LeO (impl_copyBook.f k a0 a1) (impl_copyBook.f (k + 1) a0 a1) := by
 intro a0 a1 k
 have ih0 := impl_copyBook.mono_l k
 unfold impl_copyBook.f
 exact impl_copyBook.mq
def impl_copyBook.T5 : Bool × List (List Nat × List Nat) := (true, [([], []), ([0], [0]), ([], []), ([], []), ([2, 3], [2, 3]), ([4], [4]), ([1, 5, 4], [1, 5]), ([0, 1, 2, 3, 4, 5, 6], []), ([7, 6, 6, 0, 1, 2, 3, 4, 5, 6], [6, 7])])
def impl_copyBook.B5 : List Nat := [0, 1, 0, 0, 12, 28, 63, 127, 255]
theorem impl_copyBook.tab5 : rtab .any (opsOf Try.f111 5) = impl_copyBook.T5 := by kernel_rfl
theorem impl_copyBook.bits5 : waitsOk impl_copyBook.T5.2 impl_copyBook.B5 = true := by kernel_rfl
theorem qz5_ {p : Prop} (h : p := by repeat (first | (with_reducible first | exact HB.out | apply below_alloc | apply pw_below_drewN | apply below_drew1 | refine below_set ?_ GE391.out | refine below_set ?_ GE392.out | refine below_set ?_ GE399.out) | exact HB.out)) : p := h
set_option maxHeartbeats 8000000 in
set_option maxRecDepth 100000 in
theorem impl_copyBook.calls (k : Nat) (A0_0 : Option Addr) (c0_0 : Nat) (l0_0 : List Int) (A0_1 : Option Addr) (c0_1 : Nat) (l0_1 : List (List Int)) (r1 : List Int) (r2 : List (List Int)) (w : World) (hr0_0 : Kd.C (Kd.int .i64) w A0_0 l0_0.length l0_0) (hc0_0 : l0_0.length ≤ c0_0) (hr0_1 : Kd.C (Kd.slice 3 (Kd.int .i64)) w A0_1 l0_1.length l0_1) (hc0_1 : l0_1.length ≤ c0_1) (h : impl_copyBook.f k l0_0 l0_1 = some (r1, r2)) :
  Calls Try.prog 111 #[.agg #[.slice A0_0 l0_0.length c0_0, .slice A0_1 l0_1.length c0_1]] w fun e w' => ∃ v0_ v1_ : Value, e = .returned (.agg #[v0_, v1_]) ∧ Kd.R (Kd.int .i64) 3 w' w.heap.size (fun _ => True) v0_ r1 ∧ Kd.S (Kd.slice 3 (Kd.int .i64)) 22 w' w.heap.size (fun k_ => some k_ ≠ (v0_ : Value).ownBlock) v1_ r2 ∧ Below w.heap.size w w' := by
 have hu25 := Try.underlying25
 have HR0_0 := Aside0.mk hr0_0
 have HC0_0 := Aside0.mk hc0_0
 clear hr0_0 hc0_0
 have HR0_1 := Aside0.mk hr0_1
 have HC0_1 := Aside0.mk hc0_1
 clear hr0_1 hc0_1
 have HB := Aside0.mk (Below.refl w.heap.size w)
 have H : ((some (([] : List Int) : List Int)).bind fun y393 => (if y393.length + l0_0.length < 17592186044416 then (impl_copyBook.l0 k l0_1 (l0_1.length : Int) 0 (y393 ++ l0_0) ([] : List (List Int))) else (none))) = some (r1, r2) := h
 clear h
 obtain ⟨y393, hy393⟩ : ∃ y_ : List Int, y_ = (([] : List Int)) := ⟨_, rfl⟩
 replace H : (if y393.length + l0_0.length < 17592186044416 then (impl_copyBook.l0 k l0_1 (l0_1.length : Int) 0 (y393 ++ l0_0) ([] : List (List Int))) else (none)) = some (r1, r2) := by first | (rw [hy393]; with_reducible exact H) | (have H2_ := (Option.bind_some _ _).symm.trans H; rw [hy393]; with_reducible exact H2_) | (have H2_ := (Option.bind_some _ _).symm.trans H; with_reducible exact H2_) | with_reducible exact H | (rw [hy393]; exact H) | exact H
 have Ny393 := Aside0.mk hy393
 clear hy393
 obtain ⟨c2, H⟩ := pos_ H
 have LMc2 := Aside0.mk c2
 clear c2
 obtain ⟨y396, hy396⟩ : ∃ y_ : List Int, y_ = (y393 ++ l0_0) := ⟨_, rfl⟩
 replace H : (impl_copyBook.l0 k l0_1 (l0_1.length : Int) 0 y396 ([] : List (List Int))) = some (r1, r2) := by first | (rw [hy396]; with_reducible exact H) | (have H2_ := (Option.bind_some _ _).symm.trans H; rw [hy396]; with_reducible exact H2_) | (have H2_ := (Option.bind_some _ _).symm.trans H; with_reducible exact H2_) | with_reducible exact H | (rw [hy396]; exact H) | exact H
 have Ny396 := Aside0.mk hy396
 clear hy396
 have H' := Aside0.mk H
 clear H
 go_enter Try.func111, Try.ntmps111
 go_wp2_with (first | ((with_reducible refine gate_dst (N := 1) rfl ?_); refine bx_ (N := 1) #[.slice A0_0 l0_0.length c0_0, .slice A0_1 l0_1.length c0_1] 25 ?_; intro gb391 hg w3 hbox hb; have BK391 := Aside0.mk (hbox); have GW391 := Aside0.mk ((g28_ : w.heap.size ≤ gb391)); have GE391 := Aside0.mk ((g28_ : w.heap.size ≤ gb391)); replace HB := Aside0.mk (below_step (qz5_) hb); clear hb hbox hg) | ((with_reducible refine gate_dst (N := 2) rfl ?_); refine bx_ (N := 2) #[.slice none 0 0, .slice none 0 0] 25 ?_; intro gb392 hg w4 hbox hb; have BK392 := Aside0.mk (hbox); have GW392 := Aside0.mk ((g28_ : w.heap.size ≤ gb392)); have GE392 := Aside0.mk ((g28_ : w.heap.size ≤ gb392)); replace HB := Aside0.mk (below_step (qz5_) hb); have NB391_392 := Aside0.mk ((by rw [hg]; exact Nat.ne_of_lt (blk_lt (g := gb391) (o := .cells #[.slice A0_0 l0_0.length c0_0, .slice A0_1 l0_1.length c0_1] 25 (0, 0)) (uf0_ BK391)) : gb391 ≠ gb392)); have NB392_391 := Aside0.mk ((by rw [hg]; exact Nat.ne_of_gt (blk_lt (g := gb391) (o := .cells #[.slice A0_0 l0_0.length c0_0, .slice A0_1 l0_1.length c0_1] 25 (0, 0)) (uf0_ BK391)) : gb392 ≠ gb391)); replace BK391 := bb_ BK391 hb; clear hb hbox hg) | ((with_reducible refine gate_dst (N := 6) rfl ?_); refine Kd.R_lit (Kd.int .i64) _ 3 ?hg (N := 6) ?hd (xs := ([] : List Int)) (inner := []) (ok := fun _ => True) (okp := fun _ => True) ?hr ?hp (fun _ hk => hk) trivial (Below.refl _ _) (Nat.le_refl _) (by simp) ?_; (case hd => rfl); (case hg => rfl); (case hr => first | (go_simp; done) | (go_simp; rfl)); (case hp => exact (Reps.none _ _)); intro v394 w5 ho6 hb hg_ hnew_; clear hg_ hnew_; (first | rw [← Ny393.out] at ho6 | (simp only [Int.reduceToNat] at ho6; rw [← Ny393.out] at ho6)); have HO395 := Aside0.mk (Kd.R_lower ho6 (below_size (qz5_))); replace BK391 := bb_ BK391 hb; replace BK392 := bb_ BK392 hb; replace HB := Aside0.mk (below_step (qz5_) hb); clear hb ho6; have hnb7 := NB391_392.out; have hnc7 := NB392_391.out; obtain ⟨hcz8_0, hcz8_1, hfz8_0, hfz8_1⟩ := blk2_ BK391) | ((with_reducible refine gate_builtin (b := .append) (xs := #[.tmp 6, .tmp 8]) rfl ?_); at_builtin; refine Kd.R_append_rows (Kd.int .i64) (w0 := w) w.heap.size rfl (.tmp 6) (.tmp 8) 22 3 (.int .i64 0) 8 rfl Try.underlying22 info3 rfl (by decide) (by omega) v394 y393 l0_0 _ _ _ (fun _ => True) (fun _ => False) rfl rfl ?aO ?aR (fun _ _ h => h) (fun _ h => h.elim) ?aF ?aB ?aS ?aL ?_; (case aR => exact uf3_ HR0_0); (case aB => exact (qz5_)); (case aF => exact (fun _ _ => trivial)); (case aO => exact (uf1_ HO395)); (case aS => exact (below_size (qz5_))); (case aL => have := LMc2.out; omega); intro v397 w9 ho hb hg hat; rw [← Ny396.out] at ho; replace BK391 := Aside0.mk (blk_grown (g := gb391) (o := .cells #[.slice A0_0 l0_0.length c0_0, .slice A0_1 l0_1.length c0_1] 25 (0, 0)) (uf0_ BK391) hg (Kd.R_ne HO395.out BK391.out (by decide))); replace BK392 := Aside0.mk (blk_grown (g := gb392) (o := .cells #[.slice none 0 0, .slice none 0 0] 25 (0, 0)) (uf0_ BK392) hg (Kd.R_ne HO395.out BK392.out (by decide))); replace HB := Aside0.mk (hb); have HO398 := Aside0.mk (ho); clear HO395; clear ho hb hg hat; obtain ⟨Ao10, co10, eo10⟩ := Kd.R_slice HO398.out; subst eo10) | ((with_reducible refine gate_dst (N := 3) rfl ?_); refine bx_ (N := 3) #[.slice none 0 0, .slice none 0 0] 25 ?_; intro gb399 hg w11 hbox hb; replace HO398 := Aside0.mk (Kd.R_below (uf1_ HO398) hb); have BK399 := Aside0.mk (hbox); have GW399 := Aside0.mk ((g28_ : w.heap.size ≤ gb399)); have GE399 := Aside0.mk ((g28_ : w.heap.size ≤ gb399)); replace HB := Aside0.mk (below_step (qz5_) hb); have NB391_399 := Aside0.mk ((by rw [hg]; exact Nat.ne_of_lt (blk_lt (g := gb391) (o := .cells #[.slice A0_0 l0_0.length c0_0, .slice A0_1 l0_1.length c0_1] 25 (0, 0)) (uf0_ BK391)) : gb391 ≠ gb399)); have NB399_391 := Aside0.mk ((by rw [hg]; exact Nat.ne_of_gt (blk_lt (g := gb391) (o := .cells #[.slice A0_0 l0_0.length c0_0, .slice A0_1 l0_1.length c0_1] 25 (0, 0)) (uf0_ BK391)) : gb399 ≠ gb391)); replace BK391 := bb_ BK391 hb; have NB392_399 := Aside0.mk ((by rw [hg]; exact Nat.ne_of_lt (blk_lt (g := gb392) (o := .cells #[.slice none 0 0, .slice none 0 0] 25 (0, 0)) (uf0_ BK392)) : gb392 ≠ gb399)); have NB399_392 := Aside0.mk ((by rw [hg]; exact Nat.ne_of_gt (blk_lt (g := gb392) (o := .cells #[.slice none 0 0, .slice none 0 0] 25 (0, 0)) (uf0_ BK392)) : gb399 ≠ gb392)); replace BK392 := bb_ BK392 hb; clear hb hbox hg; have hnb12 := NB399_391.out; have hnc12 := NB391_399.out; have hnb13 := NB399_392.out; have hnc13 := NB392_399.out; obtain ⟨hcz14_0, hcz14_1, hfz14_0, hfz14_1⟩ := blk2_ BK399; obtain ⟨hcz15_0, hcz15_1, hfz15_0, hfz15_1⟩ := blk2_ BK391))
 go_loopg [14] k (fun kq v14 w' => ∃ (x14_1 : Int) (x400001_1 : List (List Int)) (u400001 : Value), v14 = .int .i64 x14_1 ∧ Aside0 (impl_copyBook.l0 kq l0_1 (l0_1.length : Int) x14_1 y396 x400001_1 = some (r1, r2)) ∧ Aside0 (kq ≤ k) ∧ Aside0 (Kd.R (Kd.int .i64) 3 w' w.heap.size (fun _ => True) (.slice Ao10 y396.length co10) y396) ∧ Aside0 (Kd.S (Kd.slice 3 (Kd.int .i64)) 22 w' w.heap.size (fun k_ => some k_ ≠ ((.slice Ao10 y396.length co10) : Value).ownBlock) u400001 x400001_1) ∧ Aside0 (w'.heap[gb391]? = some (.cells #[(.slice A0_0 l0_0.length c0_0), (.slice A0_1 l0_1.length c0_1)] 25 (0, 0))) ∧ Aside0 (w'.heap[gb392]? = some (.cells #[(.slice none 0 0), (.slice none 0 0)] 25 (0, 0))) ∧ Aside0 (w'.heap[gb399]? = some (.cells #[(.slice Ao10 y396.length co10), u400001] 25 (0, 0))) ∧ Aside0 (Below w.heap.size w w'))
 case atStart => exact ⟨(0), (([] : List (List Int))), (.slice none 0 0), (g3_), H', ⟨Nat.le_refl _⟩, ⟨by (with_reducible repeat (first | apply Kd.R_alloc | apply Kd.R_drewN | apply Kd.R_drew)); exact Kd.R_mono (Kd.R_far (p := ⟨gb399, 1, none⟩) (Kd.R_far (p := ⟨gb399, 0, none⟩) (Kd.R_types HO398.out BK399.out (by decide)) (fun _ hk => hk.2) (.slice Ao10 y396.length co10)) (fun _ hk => hk.2) (.slice none 0 0)) (fun _ hk => trivial)⟩, ⟨g17_⟩, ⟨by (with_reducible repeat (first | refine blk_drewN ?_ _ | refine blk_drew ?_ | refine blk_alloc ?_ _)); refine blk_far ?_ NB391_399.out _; (with_reducible repeat (first | refine blk_drewN ?_ _ | refine blk_drew ?_ | refine blk_alloc ?_ _)); refine blk_far ?_ NB391_399.out _; (with_reducible repeat (first | refine blk_drewN ?_ _ | refine blk_drew ?_ | refine blk_alloc ?_ _)); exact BK391.out⟩, ⟨by (with_reducible repeat (first | refine blk_drewN ?_ _ | refine blk_drew ?_ | refine blk_alloc ?_ _)); refine blk_far ?_ NB392_399.out _; (with_reducible repeat (first | refine blk_drewN ?_ _ | refine blk_drew ?_ | refine blk_alloc ?_ _)); refine blk_far ?_ NB392_399.out _; (with_reducible repeat (first | refine blk_drewN ?_ _ | refine blk_drew ?_ | refine blk_alloc ?_ _)); exact BK392.out⟩, ⟨by (with_reducible repeat (first | refine blk_drewN ?_ _ | refine blk_drew ?_ | refine blk_alloc ?_ _)); refine blk_put (cs := #[.slice Ao10 y396.length co10, .slice none 0 0]) ?_ 1 _ rfl; (with_reducible repeat (first | refine blk_drewN ?_ _ | refine blk_drew ?_ | refine blk_alloc ?_ _)); refine blk_put (cs := #[.slice none 0 0, .slice none 0 0]) ?_ 0 _ rfl; (with_reducible repeat (first | refine blk_drewN ?_ _ | refine blk_drew ?_ | refine blk_alloc ?_ _)); exact BK399.out⟩, ⟨qz5_⟩⟩
 case round =>
  clear H'
  try clear c1
  try clear c2
  try clear p2
  try clear c7
  try clear c11
  try clear c12
  try clear c13
  try clear hcz14_0
  try clear hcz14_1
  try clear hcz15_0
  try clear hcz15_1
  try clear hcz8_0
  try clear hcz8_1
  try clear hfz14_0
  try clear hfz14_1
  try clear hfz15_0
  try clear hfz15_1
  try clear hfz8_0
  try clear hfz8_1
  obtain ⟨x14_1, x400001_1, u400001, rfl, HA, HK1, HO_400000, HO_400001, BK391, BK392, BK399, HB⟩ := hrel
  cases gk with
  | zero => exact absurd HA.out (by simp [impl_copyBook.l0])
  | succ k1 =>
   have H := HA.out
   clear HA
   simp only [impl_copyBook.l0] at H
   by_cases c16 : x14_1 < (l0_1.length : Int)
   ·rw [if_pos c16] at H
    have c16b0 := decide_eq_true c16
    clear c16
    obtain ⟨c17, H⟩ := pos_ H
    have c17b0 := decide_eq_true c17
    clear c17
    obtain ⟨c18, H⟩ := pos_ H
    have c18b0 := decide_eq_true c18
    clear c18
    obtain ⟨y401, hy401⟩ : ∃ y_ : List Int, y_ = (([] : List Int)) := ⟨_, rfl⟩
    replace H : (if y401.length + (rd_L1 l0_1 x14_1).length < 17592186044416 then (if x400001_1.length < 5864062014805 then (impl_copyBook.l0 k1 l0_1 (l0_1.length : Int) (wrap64 (x14_1 + 1)) y396 (x400001_1 ++ [(y401 ++ (rd_L1 l0_1 x14_1))])) else (none)) else (none)) = some (r1, r2) := by first | (rw [hy401]; with_reducible exact H) | (have H2_ := (Option.bind_some _ _).symm.trans H; rw [hy401]; with_reducible exact H2_) | (have H2_ := (Option.bind_some _ _).symm.trans H; with_reducible exact H2_) | with_reducible exact H | (rw [hy401]; exact H) | exact H
    have Ny401 := Aside0.mk hy401
    clear hy401
    obtain ⟨c19, H⟩ := pos_ H
    have LMc19 := Aside0.mk c19
    clear c19
    obtain ⟨y404, hy404⟩ : ∃ y_ : List Int, y_ = (y401 ++ (rd_L1 l0_1 x14_1)) := ⟨_, rfl⟩
    replace H : (if x400001_1.length < 5864062014805 then (impl_copyBook.l0 k1 l0_1 (l0_1.length : Int) (wrap64 (x14_1 + 1)) y396 (x400001_1 ++ [y404])) else (none)) = some (r1, r2) := by first | (rw [hy404]; with_reducible exact H) | (have H2_ := (Option.bind_some _ _).symm.trans H; rw [hy404]; with_reducible exact H2_) | (have H2_ := (Option.bind_some _ _).symm.trans H; with_reducible exact H2_) | with_reducible exact H | (rw [hy404]; exact H) | exact H
    have Ny404 := Aside0.mk hy404
    clear hy404
    obtain ⟨c20, H⟩ := pos_ H
    have LMc20 := Aside0.mk c20
    clear c20
    obtain ⟨y407, hy407⟩ : ∃ y_ : List (List Int), y_ = (x400001_1 ++ [y404]) := ⟨_, rfl⟩
    replace H : (impl_copyBook.l0 k1 l0_1 (l0_1.length : Int) (wrap64 (x14_1 + 1)) y396 y407) = some (r1, r2) := by first | (rw [hy407]; with_reducible exact H) | (have H2_ := (Option.bind_some _ _).symm.trans H; rw [hy407]; with_reducible exact H2_) | (have H2_ := (Option.bind_some _ _).symm.trans H; with_reducible exact H2_) | with_reducible exact H | (rw [hy407]; exact H) | exact H
    have Ny407 := Aside0.mk hy407
    clear hy407
    have H' := Aside0.mk H
    clear H
    have p400 : 0 ≤ (x14_1 : Int) := of_decide_eq_true (g0_)
    have q400 : x14_1 < (l0_1.length : Int) := of_decide_eq_true (g0_)
    obtain ⟨ad400, A400_0, c400_0, e400, hx400_0, hl400_0, hi400_0⟩ := at_L1 HR0_1.out x14_1 p400 q400
    cases e400
    replace hx400_0 := cl_ HB hx400_0
    have HR400_0 := Aside0.mk hi400_0
    have HC400_0 := Aside0.mk hl400_0
    clear hi400_0 hl400_0
    replace p400 := eq_true p400
    replace q400 := eq_true q400
    try go_wp2
    replace HO_400000 := Aside0.mk (Kd.R_drew HO_400000.out)
    replace HO_400001 := Aside0.mk (Kd.S_drew HO_400001.out)
    replace BK391 := Aside0.mk (blk_drew BK391.out)
    replace BK392 := Aside0.mk (blk_drew BK392.out)
    replace BK399 := Aside0.mk (blk_drew BK399.out)
    replace HB := Aside0.mk (below_drew1 HB.out)
    refine start_ (n := 9) (S := fun w' => w'.cell? ⟨gb399, 0, none⟩ = some (.slice Ao10 y396.length co10) ∧ w'.cell? ⟨gb399, 1, none⟩ = some (u400001)) (ds := [8]) (tl_ 9 0) (g1_) rfl (g1_) ⟨(blk_cell BK399.out 0).trans rfl, (blk_cell BK399.out 1).trans rfl⟩ (fun hHeld => ?_); refine with_tabW impl_copyBook.tab5 impl_copyBook.bits5 (fun HT_ HW_ => ?_)
    generalize wr.drew = w21 at HO_400000 HO_400001 BK391 BK392 BK399 HB hHeld ⊢
    refine pw_ 0 18 (tl_ 9 1) rfl rfl ?_
    refine pw_ 3 21 (tl_ 9 9) rfl rfl ?_
    refine tk0_ 1 19 (tl_ 9 11) rfl rfl hHeld ?_
    refine one_ (i := 2) (N := some 20) (tl_ 9 15) rfl rfl (one_of HT_.out (g1_)) (by decide) (fun K hK => ?_)
    refine Kd.R_lit_step (Kd.int .i64) _ 3 ?hg (N := 20) ?hd (xs := ([] : List Int)) (inner := []) (ok := fun _ => True) (okp := fun _ => True) ?hr ?hp (fun _ hk => hk) trivial (Below.refl _ _) (Nat.le_refl _) (by simp) ?_; (case hd => rfl); (case hg => rfl); (case hr => first | (go_simp; done) | (go_simp; rfl)); (case hp => exact (Reps.none _ _))
    intro v402 w22 ho23 hb hg_ hnew_
    clear hg_ hnew_
    (first | rw [← Ny401.out] at ho23 | (simp only [Int.reduceToNat] at ho23; rw [← Ny401.out] at ho23))
    replace HO_400001 := Aside0.mk (Kd.S_elder' (uf2_ HO_400001) (Kd.R_base ho23) hb)
    have HO403 := Aside0.mk (Kd.R_lower (Kd.R_new' ho23 (Kd.R_lt (uf1_ HO_400000))) (below_size (qz5_)))
    replace HO_400000 := Aside0.mk (Kd.R_elder' (uf1_ HO_400000) (Kd.R_base ho23) hb)
    replace BK391 := bb_ BK391 hb
    replace BK392 := bb_ BK392 hb
    replace BK399 := bb_ BK399 hb
    replace HB := Aside0.mk (below_step (qz5_) hb)
    clear hb ho23
    refine hK.out _ _ ⟨(blk_cell BK399.out 0).trans rfl, (blk_cell BK399.out 1).trans rfl⟩ (fun hHeld => ?_)
    clear hK K
    refine nm_ ?_
    refine one_ (i := 4) (N := some 22) (tl_ 9 31) rfl rfl (one_of HT_.out (g1_)) (by decide) (fun K hK => ?_)
    refine Kd.R_append_rows_step (Kd.int .i64) (w0 := w) w.heap.size (by rfl) (.tmp 20) (.tmp 21) 22 3 (.int .i64 0) 8 rfl Try.underlying22 info3 rfl (by decide) (by omega) v402 y401 (rd_L1 l0_1 x14_1) _ _ _ (fun k_ => some k_ ≠ (.slice Ao10 y396.length co10 : Value).ownBlock) (fun _ => False) rfl rfl ?aO ?aR (fun _ _ h => h) (fun _ h => h.elim) ?aF ?aB ?aS ?aL ?_
    (case aR => exact uf3_ HR400_0)
    (case aB => exact (qz5_))
    (case aF => exact (fun k_ hk => Kd.fresh' (Kd.R_lt (uf1_ HO_400000)) k_ hk))
    (case aO => exact (by (with_reducible repeat (first | apply Kd.R_alloc | apply Kd.R_drewN | apply Kd.R_drew)); exact Kd.R_mono HO403.out (fun _ hk => hk.2)))
    (case aS => exact (below_size (qz5_)))
    (case aL => have := LMc19.out; omega)
    intro v405 w24 ho hb hg hat
    rw [← Ny404.out] at ho
    replace HO_400000 := Aside0.mk (Kd.R_after (ok := (fun _ => True)) (uf1_ HO_400000) hg hat)
    replace HO_400001 := Aside0.mk (Kd.S_after (ok := (fun k_ => some k_ ≠ (.slice Ao10 y396.length co10 : Value).ownBlock)) (uf2_ HO_400001) hg hat)
    replace BK391 := Aside0.mk (blk_grown (g := gb391) (o := .cells #[.slice A0_0 l0_0.length c0_0, .slice (some ad400) l0_1.length c0_1] 25 (0, 0)) (uf0_ BK391) hg (Kd.R_ne HO403.out BK391.out (by decide)))
    replace BK392 := Aside0.mk (blk_grown (g := gb392) (o := .cells #[.slice none 0 0, .slice none 0 0] 25 (0, 0)) (uf0_ BK392) hg (Kd.R_ne HO403.out BK392.out (by decide)))
    replace BK399 := Aside0.mk (blk_grown (g := gb399) (o := .cells #[.slice Ao10 y396.length co10, u400001] 25 (0, 0)) (uf0_ BK399) hg (Kd.R_ne HO403.out BK399.out (by decide)))
    replace HB := Aside0.mk (hb)
    have HO406 := Aside0.mk (ho)
    clear HO403
    clear ho hb hg hat
    obtain ⟨Ao26, co26, eo26⟩ := Kd.R_slice HO406.out
    (first | subst eo26 | (injection eo26 with f1_ f2_ f3_; have f4_ := f1_.symm; have f5_ := f3_.symm; clear f1_ f2_ f3_; subst f4_; subst f5_))
    refine hK.out _ _ ⟨(blk_cell BK399.out 0).trans rfl, (blk_cell BK399.out 1).trans rfl⟩ (fun hHeld => ?_)
    clear hK K
    refine nm_ ?_
    refine one_ (i := 5) (N := some 23) (tl_ 9 63) rfl rfl (one_of HT_.out (g1_)) (by decide) (fun K hK => ?_)
    refine value_ (w1 := ?_) (v := ?_) (by rfl) rfl ?_ ?_
    rotate_left 2
    ·go_simp
     constructor
     ·rfl
     ·rfl
    refine hK.out _ _ ⟨(blk_cell (blk_alloc BK399.out _) 0).trans rfl, (blk_cell (blk_alloc BK399.out _) 1).trans rfl⟩ (fun hHeld => ?_)
    clear hK K
    refine nm_ ?_
    refine one_ (i := 6) (N := some 24) (tl_ 9 127) rfl rfl (one_of HT_.out (g1_)) (by decide) (fun K hK => ?_)
    refine Kd.S_append_step (Kd.slice 3 (Kd.int .i64)) (w0 := w) w.heap.size (by rfl) (.tmp 19) (.tmp 23) 23 22 (.slice none 0 0) 24 rfl Try.underlying23 info22 rfl (by decide) (by omega) u400001 x400001_1 y404 [.slice Ao26 y404.length co26] (fun k_ => some k_ ≠ (.slice Ao10 y396.length co10 : Value).ownBlock) (fun k_ => some k_ = (.slice Ao26 y404.length co26 : Value).ownBlock) rfl rfl ?aP (fun k_ hk_ => ((Kd.R_mono (ok' := fun k_ => ((fun k_ => some k_ ≠ (.slice Ao10 y396.length co10 : Value).ownBlock)) k_ ∧ some k_ ≠ (u400001 : Value).ownBlock) (Kd.R_apart' (HO406.out) (Kd.S_typed HO_400001.out) (by decide)) (fun k_ hk => ⟨hk.1, hk.2⟩))).1 k_ hk_.symm) ?aF ?aO ?aB ?aS ?aL ?_
    (case aP => exact Kd.M_row (Kd.R_mono (Kd.R_tight rfl (Kd.R_mono (ok' := fun k_ => ((fun k_ => some k_ ≠ (.slice Ao10 y396.length co10 : Value).ownBlock)) k_ ∧ some k_ ≠ (u400001 : Value).ownBlock) (Kd.R_apart' (HO406.out) (Kd.S_typed HO_400001.out) (by decide)) (fun k_ hk => ⟨hk.1, hk.2⟩))) (fun _ h_ => h_)))
    (case aB => exact (qz5_))
    (case aF => exact (fun k_ hk => Kd.fresh' (Kd.R_lt (uf1_ HO_400000)) k_ hk))
    (case aO => exact (by (with_reducible repeat (first | apply Kd.S_alloc | apply Kd.S_drewN | apply Kd.S_drew)); exact Kd.S_mono HO_400001.out (fun k_ hk => ⟨hk.1, fun e_ => hk.2 e_⟩)))
    (case aS => exact (below_size (qz5_)))
    (case aL => have := LMc20.out; omega)
    intro v408 w25 ho hb hg hat
    rw [← Ny407.out] at ho
    replace HO_400000 := Aside0.mk (Kd.R_over' (uf1_ HO_400000) (Kd.S_typed (uf2_ HO_400001)) (by decide) hg)
    replace BK391 := Aside0.mk (blk_grown (g := gb391) (o := .cells #[.slice A0_0 l0_0.length c0_0, .slice (some ad400) l0_1.length c0_1] 25 (0, 0)) (uf0_ BK391) hg (Kd.S_ne HO_400001.out BK391.out (by decide)))
    replace BK392 := Aside0.mk (blk_grown (g := gb392) (o := .cells #[.slice none 0 0, .slice none 0 0] 25 (0, 0)) (uf0_ BK392) hg (Kd.S_ne HO_400001.out BK392.out (by decide)))
    replace BK399 := Aside0.mk (blk_grown (g := gb399) (o := .cells #[.slice Ao10 y396.length co10, u400001] 25 (0, 0)) (uf0_ BK399) hg (Kd.S_ne HO_400001.out BK399.out (by decide)))
    replace HB := Aside0.mk (hb)
    have HO409 := Aside0.mk (ho)
    clear HO_400001 HO406
    clear ho hb hg hat
    obtain ⟨Ao27, co27, eo27⟩ := Kd.S_slice HO409.out
    (first | subst eo27 | (injection eo27 with f1_ f2_ f3_; have f4_ := f1_.symm; have f5_ := f3_.symm; clear f1_ f2_ f3_; subst f4_; subst f5_))
    refine hK.out _ _ ⟨(blk_cell BK399.out 0).trans rfl, (blk_cell BK399.out 1).trans rfl⟩ (fun hHeld => ?_)
    clear hK K
    refine nm_ ?_
    refine pw_ 7 25 (tl_ 9 255) rfl rfl ?_
    refine last_ (i := 8) (N := none) (tl_ 9 511) rfl rfl (one_of HT_.out (g1_)) (by decide) (fun K hK => ?_)
    have hs28 : w25.cell? ⟨gb399, 1, none⟩ = some (u400001) := (blk_cell BK399.out 1).trans rfl
    have hfs28 := blk_frozen BK399.out 1
    have hns28_0 := NB391_399.out
    have hns28_1 := NB392_399.out
    have hms28_0 := NB399_391.out
    have hms28_1 := NB399_392.out
    refine skip_ (w1 := ?_) (by rfl) rfl ?_ ?_
    rotate_left
    ·go_simp
     rfl
    refine hK.out _ _ ?_
    clear hK K
    refine done_ (done_of HT_.out (g1_)) ?_
    try go_wp2
    go_roundg k1
    case measure => have := HK1.out; omega
    case rel => exact ⟨(wrap64 (x14_1 + 1)), (y407), (.slice Ao27 y407.length co27), (g3_), H', ⟨g8_⟩, ⟨by (with_reducible repeat (first | apply Kd.R_alloc | apply Kd.R_drewN | apply Kd.R_drew)); exact Kd.R_mono (Kd.R_far (p := ⟨gb399, 1, none⟩) (Kd.R_types HO_400000.out BK399.out (by decide)) (fun _ hk => hk.2) (.slice Ao27 y407.length co27)) (fun _ hk => trivial)⟩, ⟨by (with_reducible repeat (first | apply Kd.S_alloc | apply Kd.S_drewN | apply Kd.S_drew)); exact Kd.S_mono (Kd.S_far (p := ⟨gb399, 1, none⟩) (Kd.S_types HO409.out BK399.out (by decide)) (fun _ hk => hk.2) (.slice Ao27 y407.length co27)) (fun _ hk => hk.1)⟩, ⟨by (with_reducible repeat (first | refine blk_drewN ?_ _ | refine blk_drew ?_ | refine blk_alloc ?_ _)); refine blk_far ?_ NB391_399.out _; (with_reducible repeat (first | refine blk_drewN ?_ _ | refine blk_drew ?_ | refine blk_alloc ?_ _)); exact BK391.out⟩, ⟨by (with_reducible repeat (first | refine blk_drewN ?_ _ | refine blk_drew ?_ | refine blk_alloc ?_ _)); refine blk_far ?_ NB392_399.out _; (with_reducible repeat (first | refine blk_drewN ?_ _ | refine blk_drew ?_ | refine blk_alloc ?_ _)); exact BK392.out⟩, ⟨by (with_reducible repeat (first | refine blk_drewN ?_ _ | refine blk_drew ?_ | refine blk_alloc ?_ _)); refine blk_put (cs := #[.slice Ao10 y396.length co10, u400001]) ?_ 1 _ rfl; (with_reducible repeat (first | refine blk_drewN ?_ _ | refine blk_drew ?_ | refine blk_alloc ?_ _)); exact BK399.out⟩, ⟨qz5_⟩⟩
   ·rw [if_neg c16] at H
    have c16b0 := decide_eq_false c16
    clear c16
    simp only [Option.some.injEq, Prod.mk.injEq] at H
    obtain ⟨rfl, rfl⟩ := H
    have hnb29 := NB399_391.out
    have hnc29 := NB391_399.out
    have hnb30 := NB399_392.out
    have hnc30 := NB392_399.out
    obtain ⟨hcz31_0, hcz31_1, hfz31_0, hfz31_1⟩ := blk2_ BK399
    have hnb32 := NB392_391.out
    have hnc32 := NB391_392.out
    obtain ⟨hcz33_0, hcz33_1, hfz33_0, hfz33_1⟩ := blk2_ BK392
    obtain ⟨Ao34, co34, eo34⟩ := Kd.S_slice HO_400001.out
    subst eo34
    go_wp2
    refine bodyPost_ret (results_cell_row rfl _ _ gb392 25 #[.slice Ao10 y396.length co10, .slice Ao34 x400001_1.length co34] (0, 0) _ rfl (by (with_reducible repeat (first | refine blk_drewN ?_ _ | refine blk_drew ?_ | refine blk_alloc ?_ _)); refine blk_put (cs := #[.slice Ao10 y396.length co10, .slice none 0 0]) ?_ 1 _ rfl; (with_reducible repeat (first | refine blk_drewN ?_ _ | refine blk_drew ?_ | refine blk_alloc ?_ _)); refine blk_put (cs := #[.slice none 0 0, .slice none 0 0]) ?_ 0 _ rfl; (with_reducible repeat (first | refine blk_drewN ?_ _ | refine blk_drew ?_ | refine blk_alloc ?_ _)); exact BK392.out) Try.underlying25 rfl (g1_)) rfl ?_
    exact ⟨_, _, g4_, by (with_reducible repeat (first | apply Kd.R_alloc | apply Kd.R_drewN | apply Kd.R_drew)); exact Kd.R_mono (Kd.R_far (p := ⟨gb392, 1, none⟩) (Kd.R_far (p := ⟨gb392, 0, none⟩) (Kd.R_types HO_400000.out BK392.out (by decide)) (fun _ hk => hk.2) (.slice Ao10 y396.length co10)) (fun _ hk => hk.2) (.slice Ao34 x400001_1.length co34)) (fun _ hk => trivial), by (with_reducible repeat (first | apply Kd.S_alloc | apply Kd.S_drewN | apply Kd.S_drew)); exact Kd.S_mono (Kd.S_far (p := ⟨gb392, 1, none⟩) (Kd.S_far (p := ⟨gb392, 0, none⟩) (Kd.S_types HO_400001.out BK392.out (by decide)) (fun _ hk => hk.2) (.slice Ao10 y396.length co10)) (fun _ hk => hk.2) (.slice Ao34 x400001_1.length co34)) (fun _ hk => hk.1), qz5_⟩
mutual
def impl_netted.l0 : Nat → List (List Int) → Int → Int → List Int → List (List Int) → List Int → List (List Int) → Option (List Int × (List (List Int)))
 | 0, _, _, _, _, _, _, _ => none
 | k + 1, x11, x12, x13, x411000, x411001, x419000, x419001 => if x13 < x12 then (if 0 ≤ x13 then (if x13 < (x11.length : Int) then (impl_netted.l1 k x13 x11 x12 x13 (rd_L1 x11 x13) ((rd_L1 x11 x13).length : Int) 0 x411000 x411001 x419000 x419001) else (none)) else (none)) else (some (x419000, x419001))
def impl_netted.l1 : Nat → Int → List (List Int) → Int → Int → List Int → Int → Int → List Int → List (List Int) → List Int → List (List Int) → Option (List Int × (List (List Int)))
 | 0, _, _, _, _, _, _, _, _, _, _, _ => none
 | k + 1, x4, x11, x12, x13, x18, x19, x20, x411000, x411001, x419000, x419001 => if x20 < x19 then (if 0 ≤ x20 then (if x20 < (x18.length : Int) then (if 0 ≤ x4 then (if x4 < (x419001.length : Int) then (if x20 < (x411001.length : Int) then (if x4 < ((rd_L1 x411001 x20).length : Int) then (if x20 < ((rd_L1 x419001 x4).length : Int) then (impl_netted.l1 k x4 x11 x12 x13 x18 x19 (wrap64 (x20 + 1)) x411000 x411001 x419000 (x419001.set (x4 : Int).toNat ((rd_L1 x419001 x4).set (x20 : Int).toNat (wrap64 ((rd x18 x20) - (mn (rd x18 x20) (rd (rd_L1 x411001 x20) x4))))))) else (none)) else (none)) else (none)) else (none)) else (none)) else (none)) else (none)) else (impl_netted.l0 k x11 x12 (wrap64 (x13 + 1)) x411000 x411001 x419000 x419001)
end
def impl_netted.f (k : Nat) (l0_0 : List Int) (l0_1 : List (List Int)) : Option (List Int × (List (List Int))) := (impl_copyBook.f k l0_0 l0_1).bind fun bt412 => (impl_netted.l0 k l0_1 (l0_1.length : Int) 0 l0_0 l0_1 bt412.1 bt412.2)
theorem impl_netted.mq {p : Prop} (h : p := by
 repeat' first
 | (with_reducible exact ih0 _ _ _ _ _ _ _)
 | (with_reducible exact ih1 _ _ _ _ _ _ _ _ _ _ _)
 | (with_reducible exact impl_copyBook.mono _ _ _)
 | (with_reducible exact LeO.refl _)
 | (with_reducible exact LeO.none _)
 | (with_reducible refine LeO.ite ?_ ?_)
 | (with_reducible refine LeO.bind ?_ (fun _ => ?_))
 | exact ih0 _ _ _ _ _ _ _
 | exact ih1 _ _ _ _ _ _ _ _ _ _ _
 | exact impl_copyBook.mono _ _ _
 | exact LeO.none _
 | refine LeO.ite ?_ ?_
 | refine LeO.bind ?_ (fun _ => ?_)) : p := h
theorem impl_netted.mono_l : ∀ k, (∀ y0 y1 y2 y3 y4 y5 y6, LeO (impl_netted.l0 k y0 y1 y2 y3 y4 y5 y6) (impl_netted.l0 (k + 1) y0 y1 y2 y3 y4 y5 y6)) ∧ (∀ y0 y1 y2 y3 y4 y5 y6 y7 y8 y9 y10, LeO (impl_netted.l1 k y0 y1 y2 y3 y4 y5 y6 y7 y8 y9 y10) (impl_netted.l1 (k + 1) y0 y1 y2 y3 y4 y5 y6 y7 y8 y9 y10))
 | 0 => ⟨fun _ _ _ _ _ _ _ r h => by simp [impl_netted.l0] at h, fun _ _ _ _ _ _ _ _ _ _ _ r h => by simp [impl_netted.l1] at h⟩
 | k + 1 => by
  obtain ⟨ih0, ih1⟩ := impl_netted.mono_l k
  refine ⟨?_, ?_⟩
  ·intro y0 y1 y2 y3 y4 y5 y6
   unfold impl_netted.l0
   exact impl_netted.mq
  ·intro y0 y1 y2 y3 y4 y5 y6 y7 y8 y9 y10
   unfold impl_netted.l1
   exact impl_netted.mq
theorem impl_netted.mono : ∀ a0 a1 k, LeO (impl_netted.f k a0 a1) (impl_netted.f (k + 1) a0 a1) := by
 intro a0 a1 k
 obtain ⟨ih0, ih1⟩ := impl_netted.mono_l k
 unfold impl_netted.f
 exact impl_netted.mq
def impl_netted.T8 : Bool × List (List Nat × List Nat) := (true, [([], []), ([0], [0]), ([], []), ([1, 2], [1, 2]), ([3], [3]), ([], []), ([], []), ([], []), ([], []), ([8], [8]), ([], []), ([9, 10], [9, 10]), ([11], [11]), ([], []), ([12, 13], [12, 13]), ([14], [14]), ([7, 15], [7, 15]), ([6, 16], [6, 16]), ([4, 5, 0, 1, 2, 3, 4, 5, 6, 7, 8, 9, 10, 11, 12, 13, 14, 15, 16, 17], [4, 5]), ([18, 17, 0, 1, 2, 3, 4, 5, 6, 7, 8, 9, 10, 11, 12, 13, 14, 15, 16, 17], [17, 18])])
def impl_netted.B8 : List Nat := [0, 1, 0, 7, 15, 0, 0, 0, 0, 256, 0, 1792, 3840, 0, 16128, 32512, 65408, 131008, 262143, 524287]
theorem impl_netted.tab8 : rtab .any (opsOf Try.f92 8) = impl_netted.T8 := by kernel_rfl
theorem impl_netted.bits8 : waitsOk impl_netted.T8.2 impl_netted.B8 = true := by kernel_rfl
theorem qz6_ {p : Prop} (h : p := by repeat (first | (with_reducible first | exact HB.out | apply below_alloc | apply pw_below_drewN | apply below_drew1 | refine below_set ?_ GE410.out | refine below_set ?_ GE411.out | refine below_set ?_ GE418.out | refine below_set ?_ GB27.out) | exact HB.out)) : p := h
set_option maxHeartbeats 8000000 in
set_option maxRecDepth 100000 in
theorem impl_netted.calls (k : Nat) (A0_0 : Option Addr) (c0_0 : Nat) (l0_0 : List Int) (A0_1 : Option Addr) (c0_1 : Nat) (l0_1 : List (List Int)) (r1 : List Int) (r2 : List (List Int)) (w : World) (hr0_0 : Kd.C (Kd.int .i64) w A0_0 l0_0.length l0_0) (hc0_0 : l0_0.length ≤ c0_0) (hr0_1 : Kd.C (Kd.slice 3 (Kd.int .i64)) w A0_1 l0_1.length l0_1) (hc0_1 : l0_1.length ≤ c0_1) (h : impl_netted.f k l0_0 l0_1 = some (r1, r2)) :
  Calls Try.prog 92 #[.agg #[.slice A0_0 l0_0.length c0_0, .slice A0_1 l0_1.length c0_1]] w fun e w' => ∃ v0_ v1_ : Value, e = .returned (.agg #[v0_, v1_]) ∧ Kd.R (Kd.int .i64) 3 w' w.heap.size (fun _ => True) v0_ r1 ∧ Kd.S (Kd.slice 3 (Kd.int .i64)) 22 w' w.heap.size (fun k_ => some k_ ≠ (v0_ : Value).ownBlock) v1_ r2 ∧ Below w.heap.size w w' := by
 have hu25 := Try.underlying25
 have HR0_0 := Aside0.mk hr0_0
 have HC0_0 := Aside0.mk hc0_0
 clear hr0_0 hc0_0
 have HR0_1 := Aside0.mk hr0_1
 have HC0_1 := Aside0.mk hc0_1
 clear hr0_1 hc0_1
 have HB := Aside0.mk (Below.refl w.heap.size w)
 have H : ((impl_copyBook.f k l0_0 l0_1).bind fun bt412 => (impl_netted.l0 k l0_1 (l0_1.length : Int) 0 l0_0 l0_1 bt412.1 bt412.2)) = some (r1, r2) := h
 clear h
 replace H := Option.bind_eq_some_iff.mp H
 obtain ⟨⟨t412, t415⟩, A20, H⟩ := H
 replace H : (impl_netted.l0 k l0_1 (l0_1.length : Int) 0 l0_0 l0_1 t412 t415) = some (r1, r2) := H
 have A2 := Aside0.mk A20
 clear A20
 have H' := Aside0.mk H
 clear H
 go_enter Try.func92, Try.ntmps92
 go_wp2_with (first | ((with_reducible refine gate_dst (N := 1) rfl ?_); refine bx_ (N := 1) #[.slice A0_0 l0_0.length c0_0, .slice A0_1 l0_1.length c0_1] 25 ?_; intro gb410 hg w3 hbox hb; have BK410 := Aside0.mk (hbox); have GW410 := Aside0.mk ((g29_ : w.heap.size ≤ gb410)); have GE410 := Aside0.mk ((g29_ : w.heap.size ≤ gb410)); replace HB := Aside0.mk (below_step (qz6_) hb); clear hb hbox hg) | ((with_reducible refine gate_dst (N := 2) rfl ?_); refine bx_ (N := 2) #[.slice none 0 0, .slice none 0 0] 25 ?_; intro gb411 hg w4 hbox hb; have BK411 := Aside0.mk (hbox); have GW411 := Aside0.mk ((g29_ : w.heap.size ≤ gb411)); have GE411 := Aside0.mk ((g29_ : w.heap.size ≤ gb411)); replace HB := Aside0.mk (below_step (qz6_) hb); have NB410_411 := Aside0.mk ((by rw [hg]; exact Nat.ne_of_lt (blk_lt (g := gb410) (o := .cells #[.slice A0_0 l0_0.length c0_0, .slice A0_1 l0_1.length c0_1] 25 (0, 0)) (uf0_ BK410)) : gb410 ≠ gb411)); have NB411_410 := Aside0.mk ((by rw [hg]; exact Nat.ne_of_gt (blk_lt (g := gb410) (o := .cells #[.slice A0_0 l0_0.length c0_0, .slice A0_1 l0_1.length c0_1] 25 (0, 0)) (uf0_ BK410)) : gb411 ≠ gb410)); replace BK410 := bb_ BK410 hb; clear hb hbox hg; have hnb5 := NB410_411.out; have hnc5 := NB411_410.out; obtain ⟨hcz6_0, hcz6_1, hfz6_0, hfz6_1⟩ := blk2_ BK410) | ((with_reducible refine gate_callee (f := 111) rfl ?_); refine goesL_ (some 9) rfl rfl Try.func111 k_ rfl #[.agg #[.slice A0_0 l0_0.length c0_0, .slice A0_1 l0_1.length c0_1]] rfl (g2_) ?_; (with_reducible refine (impl_copyBook.calls k _ _ l0_0 _ _ l0_1 t412 t415 _ ?side1 ?side2 ?side3 ?side4 A2.out).mono ?_); (case side1 => exact uf3_ HR0_0); (case side2 => exact HC0_0.out); (case side3 => exact uf3_ HR0_1); (case side4 => exact HC0_1.out); rintro e w7 ⟨v413, v416, rfl, ho0, ho1, hb⟩; refine ⟨_, rfl, ?_⟩; have HO414 := Aside0.mk (Kd.R_lower ho0 (below_size (qz6_))); have HO417 := Aside0.mk (Kd.S_lower ho1 (below_size (qz6_))); replace BK410 := bb_ BK410 hb; replace BK411 := bb_ BK411 hb; replace HB := Aside0.mk (below_step (qz6_) hb); (try clear hb); (try clear hk hi); (try clear ho0); (try clear ho1)) | ((with_reducible refine gate_dst (N := 3) rfl ?_); refine bx_ (N := 3) #[.slice none 0 0, .slice none 0 0] 25 ?_; intro gb418 hg w8 hbox hb; replace HO414 := Aside0.mk (Kd.R_below (uf1_ HO414) hb); replace HO417 := Aside0.mk (Kd.S_below (uf2_ HO417) hb); have BK418 := Aside0.mk (hbox); have GW418 := Aside0.mk ((g29_ : w.heap.size ≤ gb418)); have GE418 := Aside0.mk ((g29_ : w.heap.size ≤ gb418)); replace HB := Aside0.mk (below_step (qz6_) hb); have NB410_418 := Aside0.mk ((by rw [hg]; exact Nat.ne_of_lt (blk_lt (g := gb410) (o := .cells #[.slice A0_0 l0_0.length c0_0, .slice A0_1 l0_1.length c0_1] 25 (0, 0)) (uf0_ BK410)) : gb410 ≠ gb418)); have NB418_410 := Aside0.mk ((by rw [hg]; exact Nat.ne_of_gt (blk_lt (g := gb410) (o := .cells #[.slice A0_0 l0_0.length c0_0, .slice A0_1 l0_1.length c0_1] 25 (0, 0)) (uf0_ BK410)) : gb418 ≠ gb410)); replace BK410 := bb_ BK410 hb; have NB411_418 := Aside0.mk ((by rw [hg]; exact Nat.ne_of_lt (blk_lt (g := gb411) (o := .cells #[.slice none 0 0, .slice none 0 0] 25 (0, 0)) (uf0_ BK411)) : gb411 ≠ gb418)); have NB418_411 := Aside0.mk ((by rw [hg]; exact Nat.ne_of_gt (blk_lt (g := gb411) (o := .cells #[.slice none 0 0, .slice none 0 0] 25 (0, 0)) (uf0_ BK411)) : gb418 ≠ gb411)); replace BK411 := bb_ BK411 hb; clear hb hbox hg; obtain ⟨Ao9, co9, eo9⟩ := Kd.R_slice HO414.out; subst eo9; have hnb10 := NB418_410.out; have hnc10 := NB410_418.out; have hnb11 := NB418_411.out; have hnc11 := NB411_418.out; obtain ⟨hcz12_0, hcz12_1, hfz12_0, hfz12_1⟩ := blk2_ BK418; obtain ⟨Ao13, co13, eo13⟩ := Kd.S_slice HO417.out; subst eo13; obtain ⟨hcz14_0, hcz14_1, hfz14_0, hfz14_1⟩ := blk2_ BK410))
 go_loopg [13] k (fun kq v13 w' => ∃ (x13_1 : Int) (x419000_1 : List Int) (x419001_1 : List (List Int)) (u419000 : Value) (u419001 : Value), v13 = .int .i64 x13_1 ∧ Aside0 (impl_netted.l0 kq l0_1 (l0_1.length : Int) x13_1 l0_0 l0_1 x419000_1 x419001_1 = some (r1, r2)) ∧ Aside0 (kq ≤ k) ∧ Aside0 (Kd.R (Kd.int .i64) 3 w' w.heap.size (fun _ => True) u419000 x419000_1) ∧ Aside0 (Kd.S (Kd.slice 3 (Kd.int .i64)) 22 w' w.heap.size (fun k_ => some k_ ≠ (u419000 : Value).ownBlock) u419001 x419001_1) ∧ Aside0 (w'.heap[gb410]? = some (.cells #[(.slice A0_0 l0_0.length c0_0), (.slice A0_1 l0_1.length c0_1)] 25 (0, 0))) ∧ Aside0 (w'.heap[gb411]? = some (.cells #[(.slice none 0 0), (.slice none 0 0)] 25 (0, 0))) ∧ Aside0 (w'.heap[gb418]? = some (.cells #[u419000, u419001] 25 (0, 0))) ∧ Aside0 (Below w.heap.size w w'))
 case atStart => exact ⟨(0), (t412), (t415), (.slice Ao9 t412.length co9), (.slice Ao13 t415.length co13), (g3_), H', ⟨Nat.le_refl _⟩, ⟨by (with_reducible repeat (first | apply Kd.R_alloc | apply Kd.R_drewN | apply Kd.R_drew)); exact Kd.R_mono (Kd.R_far (p := ⟨gb418, 1, none⟩) (Kd.R_far (p := ⟨gb418, 0, none⟩) (Kd.R_types HO414.out BK418.out (by decide)) (fun _ hk => hk.2) (.slice Ao9 t412.length co9)) (fun _ hk => hk.2) (.slice Ao13 t415.length co13)) (fun _ hk => trivial)⟩, ⟨by (with_reducible repeat (first | apply Kd.S_alloc | apply Kd.S_drewN | apply Kd.S_drew)); exact Kd.S_mono (Kd.S_far (p := ⟨gb418, 1, none⟩) (Kd.S_far (p := ⟨gb418, 0, none⟩) (Kd.S_types HO417.out BK418.out (by decide)) (fun _ hk => hk.2) (.slice Ao9 t412.length co9)) (fun _ hk => hk.2) (.slice Ao13 t415.length co13)) (fun _ hk => hk.1)⟩, ⟨by (with_reducible repeat (first | refine blk_drewN ?_ _ | refine blk_drew ?_ | refine blk_alloc ?_ _)); refine blk_far ?_ NB410_418.out _; (with_reducible repeat (first | refine blk_drewN ?_ _ | refine blk_drew ?_ | refine blk_alloc ?_ _)); refine blk_far ?_ NB410_418.out _; (with_reducible repeat (first | refine blk_drewN ?_ _ | refine blk_drew ?_ | refine blk_alloc ?_ _)); exact BK410.out⟩, ⟨by (with_reducible repeat (first | refine blk_drewN ?_ _ | refine blk_drew ?_ | refine blk_alloc ?_ _)); refine blk_far ?_ NB411_418.out _; (with_reducible repeat (first | refine blk_drewN ?_ _ | refine blk_drew ?_ | refine blk_alloc ?_ _)); refine blk_far ?_ NB411_418.out _; (with_reducible repeat (first | refine blk_drewN ?_ _ | refine blk_drew ?_ | refine blk_alloc ?_ _)); exact BK411.out⟩, ⟨by (with_reducible repeat (first | refine blk_drewN ?_ _ | refine blk_drew ?_ | refine blk_alloc ?_ _)); refine blk_put (cs := #[.slice Ao9 t412.length co9, .slice none 0 0]) ?_ 1 _ rfl; (with_reducible repeat (first | refine blk_drewN ?_ _ | refine blk_drew ?_ | refine blk_alloc ?_ _)); refine blk_put (cs := #[.slice none 0 0, .slice none 0 0]) ?_ 0 _ rfl; (with_reducible repeat (first | refine blk_drewN ?_ _ | refine blk_drew ?_ | refine blk_alloc ?_ _)); exact BK418.out⟩, ⟨qz6_⟩⟩
 case round =>
  clear H'
  try clear c1
  try clear p2
  try clear c5
  try clear c9
  try clear c10
  try clear c11
  try clear hcz12_0
  try clear hcz12_1
  try clear hcz14_0
  try clear hcz14_1
  try clear hcz6_0
  try clear hcz6_1
  try clear hfz12_0
  try clear hfz12_1
  try clear hfz14_0
  try clear hfz14_1
  try clear hfz6_0
  try clear hfz6_1
  obtain ⟨x13_1, x419000_1, x419001_1, u419000, u419001, rfl, HA, HK1, HO_419000, HO_419001, BK410, BK411, BK418, HB⟩ := hrel
  cases gk with
  | zero => exact absurd HA.out (by simp [impl_netted.l0])
  | succ k1 =>
   have H := HA.out
   clear HA
   simp only [impl_netted.l0] at H
   by_cases c15 : x13_1 < (l0_1.length : Int)
   ·rw [if_pos c15] at H
    have c15b0 := decide_eq_true c15
    clear c15
    obtain ⟨c16, H⟩ := pos_ H
    have c16b0 := decide_eq_true c16
    clear c16
    obtain ⟨c17, H⟩ := pos_ H
    have c17b0 := decide_eq_true c17
    clear c17
    have H' := Aside0.mk H
    clear H
    have p419 : 0 ≤ (x13_1 : Int) := of_decide_eq_true (g0_)
    have q419 : x13_1 < (l0_1.length : Int) := of_decide_eq_true (g0_)
    obtain ⟨ad419, A419_0, c419_0, e419, hx419_0, hl419_0, hi419_0⟩ := at_L1 HR0_1.out x13_1 p419 q419
    cases e419
    replace hx419_0 := cl_ HB hx419_0
    have HR419_0 := Aside0.mk hi419_0
    have HC419_0 := Aside0.mk hl419_0
    clear hi419_0 hl419_0
    replace p419 := eq_true p419
    replace q419 := eq_true q419
    go_wp2
    go_loopg [20] k1 (fun kq v20 w' => ∃ (x20_2 : Int) (x419000_2 : List Int) (x419001_2 : List (List Int)) (u419000 : Value) (u419001 : Value), v20 = .int .i64 x20_2 ∧ Aside0 (impl_netted.l1 kq x13_1 l0_1 (l0_1.length : Int) x13_1 (rd_L1 l0_1 x13_1) ((rd_L1 l0_1 x13_1).length : Int) x20_2 l0_0 l0_1 x419000_2 x419001_2 = some (r1, r2)) ∧ Aside0 (kq ≤ k1) ∧ Aside0 (Kd.R (Kd.int .i64) 3 w' w.heap.size (fun _ => True) u419000 x419000_2) ∧ Aside0 (Kd.S (Kd.slice 3 (Kd.int .i64)) 22 w' w.heap.size (fun k_ => some k_ ≠ (u419000 : Value).ownBlock) u419001 x419001_2) ∧ Aside0 (w'.heap[gb410]? = some (.cells #[(.slice A0_0 l0_0.length c0_0), (.slice (some ad419) l0_1.length c0_1)] 25 (0, 0))) ∧ Aside0 (w'.heap[gb411]? = some (.cells #[(.slice none 0 0), (.slice none 0 0)] 25 (0, 0))) ∧ Aside0 (w'.heap[gb418]? = some (.cells #[u419000, u419001] 25 (0, 0))) ∧ Aside0 (Below w.heap.size w w'))
    case atStart => exact ⟨(0), (x419000_1), (x419001_1), (u419000), (u419001), (g3_), H', ⟨Nat.le_refl _⟩, ⟨uf1_ HO_419000⟩, ⟨uf2_ HO_419001⟩, ⟨uf0_ BK410⟩, ⟨uf0_ BK411⟩, ⟨uf0_ BK418⟩, ⟨qz6_⟩⟩
    case round =>
     clear H'
     try clear c1
     try clear p2
     try clear c4
     try clear p4
     try clear q4
     try clear hx4
     try clear c5
     try clear c9
     try clear c10
     try clear c11
     try clear c15
     try clear c15b0
     try clear c16
     try clear c16b0
     try clear c17
     try clear c17b0
     try clear hcz12_0
     try clear hcz12_1
     try clear hcz14_0
     try clear hcz14_1
     try clear hcz6_0
     try clear hcz6_1
     try clear hfz12_0
     try clear hfz12_1
     try clear hfz14_0
     try clear hfz14_1
     try clear hfz6_0
     try clear hfz6_1
     try clear hx419_0
     try clear p2
     try clear p419
     try clear q419
     obtain ⟨x20_2, x419000_2, x419001_2, u419000, u419001, rfl, HA, HK2, HO_419000, HO_419001, BK410, BK411, BK418, HB⟩ := hrel
     cases gk with
     | zero => exact absurd HA.out (by simp [impl_netted.l1])
     | succ k2 =>
      have H := HA.out
      clear HA
      simp only [impl_netted.l1] at H
      by_cases c18 : x20_2 < ((rd_L1 l0_1 x13_1).length : Int)
      ·rw [if_pos c18] at H
       have c18b0 := decide_eq_true c18
       clear c18
       obtain ⟨c19, H⟩ := pos_ H
       have c19b0 := decide_eq_true c19
       clear c19
       obtain ⟨c20, H⟩ := pos_ H
       have c20b0 := decide_eq_true c20
       clear c20
       obtain ⟨c21, H⟩ := pos_ H
       have c21b0 := decide_eq_true c21
       clear c21
       obtain ⟨c22, H⟩ := pos_ H
       have c22b0 := decide_eq_true c22
       clear c22
       obtain ⟨c23, H⟩ := pos_ H
       have c23b0 := decide_eq_true c23
       clear c23
       obtain ⟨c24, H⟩ := pos_ H
       have c24b0 := decide_eq_true c24
       clear c24
       obtain ⟨ji25, hji25⟩ : ∃ j_ : Int, (mn (rd (rd_L1 l0_1 x13_1) x20_2) (rd (rd_L1 l0_1 x20_2) x13_1)) = j_ := ⟨_, rfl⟩
       replace H : (if x20_2 < ((rd_L1 x419001_2 x13_1).length : Int) then (impl_netted.l1 k2 x13_1 l0_1 (l0_1.length : Int) x13_1 (rd_L1 l0_1 x13_1) ((rd_L1 l0_1 x13_1).length : Int) (wrap64 (x20_2 + 1)) l0_0 l0_1 x419000_2 (x419001_2.set (x13_1 : Int).toNat ((rd_L1 x419001_2 x13_1).set (x20_2 : Int).toNat (wrap64 ((rd (rd_L1 l0_1 x13_1) x20_2) - (ji25)))))) else (none)) = some (r1, r2) := by first | (rw [hji25] at H; exact H) | (simp only [hji25] at H ⊢; exact H)
       have hji25_ : (if (rd (rd_L1 l0_1 x20_2) x13_1) < (rd (rd_L1 l0_1 x13_1) x20_2) then (rd (rd_L1 l0_1 x20_2) x13_1) else (rd (rd_L1 l0_1 x13_1) x20_2)) = ji25 := hji25
       obtain ⟨c26, H⟩ := pos_ H
       have c26b0 := decide_eq_true c26
       clear c26
       obtain ⟨y424, hy424⟩ : ∃ y_ : List Int, y_ = ((rd_L1 x419001_2 x13_1).set (x20_2 : Int).toNat (wrap64 ((rd (rd_L1 l0_1 x13_1) x20_2) - (ji25)))) := ⟨_, rfl⟩
       replace H : (impl_netted.l1 k2 x13_1 l0_1 (l0_1.length : Int) x13_1 (rd_L1 l0_1 x13_1) ((rd_L1 l0_1 x13_1).length : Int) (wrap64 (x20_2 + 1)) l0_0 l0_1 x419000_2 (x419001_2.set (x13_1 : Int).toNat y424)) = some (r1, r2) := by first | (rw [hy424]; with_reducible exact H) | (have H2_ := (Option.bind_some _ _).symm.trans H; rw [hy424]; with_reducible exact H2_) | (have H2_ := (Option.bind_some _ _).symm.trans H; with_reducible exact H2_) | with_reducible exact H | (rw [hy424]; exact H) | exact H
       have Ny424 := Aside0.mk hy424
       clear hy424
       obtain ⟨y426, hy426⟩ : ∃ y_ : List (List Int), y_ = (x419001_2.set (x13_1 : Int).toNat y424) := ⟨_, rfl⟩
       replace H : (impl_netted.l1 k2 x13_1 l0_1 (l0_1.length : Int) x13_1 (rd_L1 l0_1 x13_1) ((rd_L1 l0_1 x13_1).length : Int) (wrap64 (x20_2 + 1)) l0_0 l0_1 x419000_2 y426) = some (r1, r2) := by first | (rw [hy426]; with_reducible exact H) | (have H2_ := (Option.bind_some _ _).symm.trans H; rw [hy426]; with_reducible exact H2_) | (have H2_ := (Option.bind_some _ _).symm.trans H; with_reducible exact H2_) | with_reducible exact H | (rw [hy426]; exact H) | exact H
       have Ny426 := Aside0.mk hy426
       clear hy426
       have H' := Aside0.mk H
       clear H
       have p420 : 0 ≤ (x20_2 : Int) := of_decide_eq_true (g0_)
       have q420 : x20_2 < ((rd_L1 l0_1 x13_1).length : Int) := of_decide_eq_true (g0_)
       obtain ⟨ad420, e420, hx420_0⟩ := Kd.at_int HR419_0.out x20_2 p420 q420
       cases e420
       replace hx420_0 := cl_ HB hx420_0
       replace p420 := eq_true p420
       replace q420 := eq_true q420
       try go_wp2
       replace HO_419000 := Aside0.mk (Kd.R_drew HO_419000.out)
       replace HO_419001 := Aside0.mk (Kd.S_drew HO_419001.out)
       replace BK410 := Aside0.mk (blk_drew BK410.out)
       replace BK411 := Aside0.mk (blk_drew BK411.out)
       replace BK418 := Aside0.mk (blk_drew BK418.out)
       replace HB := Aside0.mk (below_drew1 HB.out)
       obtain ⟨Ao29, co29, eo29⟩ := Kd.S_slice HO_419001.out
       (first | subst eo29 | (injection eo29 with f1_ f2_ f3_; have f4_ := f1_.symm; have f5_ := f3_.symm; clear f1_ f2_ f3_; subst f4_; subst f5_))
       have p421 : 0 ≤ (x13_1 : Int) := of_decide_eq_true (g0_)
       have q421 : x13_1 < (x419001_2.length : Int) := of_decide_eq_true (g0_)
       obtain ⟨ad421, A421_0, c421_0, e421, hx421_0, hl421_0, hi421_0⟩ := at_L1 (Kd.S_reads' HO_419001.out).2.2 x13_1 p421 q421
       cases e421
       obtain ⟨ce421, hce421, hMe421, hcc421⟩ := Kd.S_get HO_419001.out [] x13_1 p421 (by first | exact q421 | exact of_decide_eq_true (g0_) | (have e_ := (Kd.S_reads' HO_419001.out).1; omega))
       obtain ⟨ve421_0, rfl, ge421_0⟩ := hMe421
       have hv421_0 := hcc421 0 _ rfl
       rw [Nat.add_zero, show ((Kd.slice 3 (Kd.int .i64))).sz = 1 from rfl, Nat.mul_one] at hv421_0
       replace hv421_0 := Option.some.inj (hv421_0.symm.trans hx421_0)
       rw [hv421_0] at ge421_0
       have HL421_0 := Aside0.mk (show Kd.R (Kd.int .i64) 3 _ _ _ _ (rd_L1 x419001_2 x13_1) from ge421_0)
       clear hv421_0 ge421_0
       have HX421_0 := Aside0.mk hx421_0
       clear hcc421 hce421
       have HR421_0 := Aside0.mk hi421_0
       have HC421_0 := Aside0.mk hl421_0
       clear hi421_0 hl421_0
       replace p421 := eq_true p421
       replace q421 := eq_true q421
       have p422 : 0 ≤ (x20_2 : Int) := of_decide_eq_true (g0_)
       have q422 : x20_2 < (l0_1.length : Int) := of_decide_eq_true (g0_)
       obtain ⟨ad422, A422_0, c422_0, e422, hx422_0, hl422_0, hi422_0⟩ := at_L1 HR0_1.out x20_2 p422 q422
       have hw422_0 := hx422_0
       obtain rfl : ad419 = ad422 := (by injection e422)
       replace hx422_0 := cl_ HB hx422_0
       have HR422_0 := Aside0.mk hi422_0
       have HC422_0 := Aside0.mk hl422_0
       clear hi422_0 hl422_0
       replace p422 := eq_true p422
       replace q422 := eq_true q422
       have p423 : 0 ≤ (x13_1 : Int) := of_decide_eq_true (g0_)
       have q423 : x13_1 < ((rd_L1 l0_1 x20_2).length : Int) := of_decide_eq_true (g0_)
       obtain ⟨ad423, e423, hx423_0⟩ := Kd.at_int HR422_0.out x13_1 p423 q423
       have hw423_0 := hx423_0
       cases e423
       replace hx423_0 := cl_ HB hx423_0
       replace p423 := eq_true p423
       replace q423 := eq_true q423
       have p27 : 0 ≤ (x20_2 : Int) := of_decide_eq_true (g0_)
       have q27 : (x20_2 : Int) < (((rd_L1 x419001_2 x13_1).length : Int) : Int) := of_decide_eq_true (g0_)
       obtain ⟨go27, co27, eo27, gb27, gl27, cl27, HG27⟩ := Kd.R_form HL421_0.out (by omega)
       (first | cases eo27 | (injection eo27 with ea_ en_ ec_; (first | subst ea_ | (injection ea_ with ea_; subst ea_)); subst ec_; clear en_))
       have GB27 := Aside0.mk gb27
       have GG27 := Aside0.mk HG27
       clear gb27 gl27 HG27
       obtain ⟨hx27_0, hf27_0⟩ := Kd.R_celln 0 HL421_0.out (x20_2 : Int) p27 q27
       replace p27 := eq_true p27
       replace q27 := eq_true q27
       have hq30 : (x13_1 : Int) < (x419001_2.length : Int) := (by have h_ : (x13_1 : Int) < ((x419001_2.length : Int) : Int) := of_decide_eq_true (g0_); first | exact h_ | (have e_ := (Kd.S_reads' HO_419001.out).1; omega) | simpa only [List.length_set, List.length_set] using h_)
       obtain ⟨oki30, ce30, hcl30, hM30, hcc30, hok30, hbk30⟩ := Kd.S_borrow HO_419001.out [] (x13_1 : Int) (of_decide_eq_true (g0_)) (by first | exact hq30 | exact of_decide_eq_true (g0_) | (have e_ := (Kd.S_reads' HO_419001.out).1; omega))
       obtain ⟨ve30_0, rfl, ge30_0⟩ := hM30
       have hv30 := hcc30 0 _ rfl
       rw [Nat.add_zero, show ((Kd.slice 3 (Kd.int .i64))).sz = 1 from rfl, Nat.mul_one] at hv30
       replace hv30 := Option.some.inj (hv30.symm.trans HX421_0.out)
       subst hv30
       clear hcc30 hcl30
       replace ge30_0 := (show Kd.R (Kd.int .i64) 3 _ _ _ _ (rd_L1 x419001_2 x13_1) from ge30_0)
       have HP30 := Kd.R_putg ge30_0 (x20_2 : Int) (wrap64 ((rd (rd_L1 l0_1 x13_1) x20_2) - (ji25)))
       rw [← Ny424.out] at HP30
       have HS30 := hbk30 HP30.2 (fun k_ e_ => by injection e_ with e_; subst e_; exact ge30_0.1 _ rfl) (x' := y424) (Kd.M_row HP30.1)
       rw [← Ny426.out] at HS30
       have HQ30 := Aside0.mk HS30
       clear HP30 HS30 hbk30 hok30
       refine start_ (n := 20) (S := fun w' => w'.cell? ⟨gb418, 0, none⟩ = some (u419000) ∧ w'.cell? ⟨gb418, 1, none⟩ = some (.slice (some ad421) x419001_2.length co29) ∧ w'.cell? ⟨gb410, 0, none⟩ = some (.slice A0_0 l0_0.length c0_0) ∧ w'.cell? ⟨gb410, 1, none⟩ = some (.slice (some ad419) l0_1.length c0_1) ∧ w'.cell? (ad421.add (x13_1).toNat) = some (.slice (some ⟨go27, 0, none⟩) (rd_L1 x419001_2 x13_1).length c421_0) ∧ w'.cell? (ad419.add (x20_2).toNat) = some (.slice (some ad423) (rd_L1 l0_1 x20_2).length c422_0) ∧ w'.cell? (ad423.add (x13_1).toNat) = some (.int .i64 (rd (rd_L1 l0_1 x20_2) x13_1))) (ds := [19]) (tl_ 20 0) (g1_) rfl (g1_) ⟨(blk_cell BK418.out 0).trans rfl, (blk_cell BK418.out 1).trans rfl, (blk_cell BK410.out 0).trans rfl, (blk_cell BK410.out 1).trans rfl, hx421_0, ((cl_ HB hw422_0).trans rfl), ((cl_ HB hw423_0).trans rfl)⟩ (fun hHeld => ?_); refine with_tabW impl_netted.tab8 impl_netted.bits8 (fun HT_ HW_ => ?_)
       generalize wr.drew = w28 at HO_419000 HO_419001 BK410 BK411 BK418 HB GG27 HL421_0 HQ30 HR421_0 HR422_0 HX421_0 hf27_0 hx27_0 hx421_0 hx422_0 hx423_0 hHeld ⊢
       refine pw_ 0 25 (tl_ 20 1) rfl rfl ?_
       refine pw_ 2 27 (tl_ 20 5) rfl rfl ?_
       refine pw_ 5 30 (tl_ 20 37) rfl rfl ?_
       refine pw_ 6 31 (tl_ 20 101) rfl rfl ?_
       refine pw_ 7 32 (tl_ 20 229) rfl rfl ?_
       refine pw_ 8 33 (tl_ 20 485) rfl rfl ?_
       refine pw_ 10 35 (tl_ 20 1509) rfl rfl ?_
       refine pw_ 13 38 (tl_ 20 9701) rfl rfl ?_
       refine tk5_ 1 26 (tl_ 20 9703) rfl rfl hHeld ?_
       refine pw_ 3 28 (tl_ 20 9711) rfl rfl ?_
       refine tk5_ 4 29 (tl_ 20 9727) rfl rfl hHeld ?_
       refine tk5_ 9 34 (tl_ 20 10239) rfl rfl hHeld ?_
       refine pw_ 11 36 (tl_ 20 12287) rfl rfl ?_
       refine tk5_ 12 37 (tl_ 20 16383) rfl rfl hHeld ?_
       refine pw_ 14 39 (tl_ 20 32767) rfl rfl ?_
       refine tk5_ 15 40 (tl_ 20 65535) rfl rfl hHeld ?_
       refine pw_ 16 41 (tl_ 20 131071) rfl rfl ?_
       refine pw_ 17 42 (tl_ 20 262143) rfl rfl ?_
       refine pw_ 18 43 (tl_ 20 524287) rfl rfl ?_
       refine last_ (i := 19) (N := none) (tl_ 20 1048575) rfl rfl (one_of HT_.out (g1_)) (by decide) (fun K hK => ?_)
       refine skip_ (w1 := ?_) (by rfl) rfl ?_ ?_
       rotate_left
       ·go_simp
        rfl
       refine hK.out _ _ ?_
       clear hK K
       refine done_ (done_of HT_.out (g1_)) ?_
       try go_wp2
       go_roundg k2
       case measure => have := HK1.out; have := HK2.out; omega
       case rel => exact ⟨(wrap64 (x20_2 + 1)), (x419000_2), (y426), (u419000), (.slice (some ad421) x419001_2.length co29), (g3_), H', ⟨g11_⟩, ⟨by (with_reducible repeat (first | apply Kd.R_alloc | apply Kd.R_drewN | apply Kd.R_drew)); exact Kd.R_mono (Kd.R_far (p := ⟨go27, (x20_2 : Int).toNat, none⟩) (Kd.R_far1 HO_419000.out rfl ((HL421_0.out.1 _ rfl).1)) (fun _ hk => hk.2) (.int .i64 (wrap64 ((rd (rd_L1 l0_1 x13_1) x20_2) - (ji25))))) (fun _ hk => trivial)⟩, ⟨uf2_ HQ30⟩, ⟨by (with_reducible repeat (first | refine blk_drewN ?_ _ | refine blk_drew ?_ | refine blk_alloc ?_ _)); refine blk_far ?_ (by have h_ := Kd.R_ne HL421_0.out BK410.out (by decide); intro e_; exact h_ (g7_)) _; (with_reducible repeat (first | refine blk_drewN ?_ _ | refine blk_drew ?_ | refine blk_alloc ?_ _)); exact BK410.out⟩, ⟨by (with_reducible repeat (first | refine blk_drewN ?_ _ | refine blk_drew ?_ | refine blk_alloc ?_ _)); refine blk_far ?_ (by have h_ := Kd.R_ne HL421_0.out BK411.out (by decide); intro e_; exact h_ (g7_)) _; (with_reducible repeat (first | refine blk_drewN ?_ _ | refine blk_drew ?_ | refine blk_alloc ?_ _)); exact BK411.out⟩, ⟨by (with_reducible repeat (first | refine blk_drewN ?_ _ | refine blk_drew ?_ | refine blk_alloc ?_ _)); refine blk_far ?_ (by have h_ := Kd.R_ne HL421_0.out BK418.out (by decide); intro e_; exact h_ (g7_)) _; (with_reducible repeat (first | refine blk_drewN ?_ _ | refine blk_drew ?_ | refine blk_alloc ?_ _)); exact BK418.out⟩, ⟨qz6_⟩⟩
      ·rw [if_neg c18] at H
       have c18b0 := decide_eq_false c18
       clear c18
       have H' := Aside0.mk H
       clear H
       go_wp2
       go_roundg k2
       case measure => have := HK1.out; have := HK2.out; omega
       case rel => exact ⟨(wrap64 (x13_1 + 1)), (x419000_2), (x419001_2), (u419000), (u419001), (g3_), H', ⟨g11_⟩, ⟨uf1_ HO_419000⟩, ⟨uf2_ HO_419001⟩, ⟨uf0_ BK410⟩, ⟨uf0_ BK411⟩, ⟨uf0_ BK418⟩, ⟨qz6_⟩⟩
   ·rw [if_neg c15] at H
    have c15b0 := decide_eq_false c15
    clear c15
    simp only [Option.some.injEq, Prod.mk.injEq] at H
    obtain ⟨rfl, rfl⟩ := H
    have hnb32 := NB418_410.out
    have hnc32 := NB410_418.out
    have hnb33 := NB418_411.out
    have hnc33 := NB411_418.out
    obtain ⟨hcz34_0, hcz34_1, hfz34_0, hfz34_1⟩ := blk2_ BK418
    obtain ⟨Ao35, co35, eo35⟩ := Kd.R_slice HO_419000.out
    subst eo35
    have hnb36 := NB411_410.out
    have hnc36 := NB410_411.out
    obtain ⟨hcz37_0, hcz37_1, hfz37_0, hfz37_1⟩ := blk2_ BK411
    obtain ⟨Ao38, co38, eo38⟩ := Kd.S_slice HO_419001.out
    subst eo38
    go_wp2
    refine bodyPost_ret (results_cell_row rfl _ _ gb411 25 #[.slice Ao35 x419000_1.length co35, .slice Ao38 x419001_1.length co38] (0, 0) _ rfl (by (with_reducible repeat (first | refine blk_drewN ?_ _ | refine blk_drew ?_ | refine blk_alloc ?_ _)); refine blk_put (cs := #[.slice Ao35 x419000_1.length co35, .slice none 0 0]) ?_ 1 _ rfl; (with_reducible repeat (first | refine blk_drewN ?_ _ | refine blk_drew ?_ | refine blk_alloc ?_ _)); refine blk_put (cs := #[.slice none 0 0, .slice none 0 0]) ?_ 0 _ rfl; (with_reducible repeat (first | refine blk_drewN ?_ _ | refine blk_drew ?_ | refine blk_alloc ?_ _)); exact BK411.out) Try.underlying25 rfl (g1_)) rfl ?_
    exact ⟨_, _, g4_, by (with_reducible repeat (first | apply Kd.R_alloc | apply Kd.R_drewN | apply Kd.R_drew)); exact Kd.R_mono (Kd.R_far (p := ⟨gb411, 1, none⟩) (Kd.R_far (p := ⟨gb411, 0, none⟩) (Kd.R_types HO_419000.out BK411.out (by decide)) (fun _ hk => hk.2) (.slice Ao35 x419000_1.length co35)) (fun _ hk => hk.2) (.slice Ao38 x419001_1.length co38)) (fun _ hk => trivial), by (with_reducible repeat (first | apply Kd.S_alloc | apply Kd.S_drewN | apply Kd.S_drew)); exact Kd.S_mono (Kd.S_far (p := ⟨gb411, 1, none⟩) (Kd.S_far (p := ⟨gb411, 0, none⟩) (Kd.S_types HO_419001.out BK411.out (by decide)) (fun _ hk => hk.2) (.slice Ao35 x419000_1.length co35)) (fun _ hk => hk.2) (.slice Ao38 x419001_1.length co38)) (fun _ hk => hk.1), qz6_⟩
def impl_Netted.f (k : Nat) (l0_0 : List Int) (l0_1 : List (List Int)) : Option (List Int × (List (List Int))) := (impl_isBook.f k l0_0 l0_1).bind fun t429 => (if t429 = true then ((impl_netted.f k l0_0 l0_1).bind fun bt430 => (some (bt430.1, bt430.2))) else (some (([] : List Int), ([] : List (List Int)))))
theorem impl_Netted.mq {p : Prop} (h : p := by
 repeat' first
 | (with_reducible exact impl_isBook.mono _ _ _)
 | (with_reducible exact impl_netted.mono _ _ _)
 | (with_reducible exact LeO.refl _)
 | (with_reducible exact LeO.none _)
 | (with_reducible refine LeO.ite ?_ ?_)
 | (with_reducible refine LeO.bind ?_ (fun _ => ?_))
 | exact impl_isBook.mono _ _ _
 | exact impl_netted.mono _ _ _
 | exact LeO.none _
 | refine LeO.ite ?_ ?_
 | refine LeO.bind ?_ (fun _ => ?_)) : p := h
theorem impl_Netted.mono : ∀ a0 a1 k, LeO (impl_Netted.f k a0 a1) (impl_Netted.f (k + 1) a0 a1) := by
 intro a0 a1 k
 unfold impl_Netted.f
 exact impl_Netted.mq
theorem qz4_ {p : Prop} (h : p := by repeat (first | (with_reducible first | exact HB.out | apply below_alloc | apply pw_below_drewN | apply below_drew1 | refine below_set ?_ GE427.out | refine below_set ?_ GE428.out) | exact HB.out)) : p := h
set_option maxHeartbeats 8000000 in
set_option maxRecDepth 100000 in
theorem impl_Netted.calls (k : Nat) (A0_0 : Option Addr) (c0_0 : Nat) (l0_0 : List Int) (A0_1 : Option Addr) (c0_1 : Nat) (l0_1 : List (List Int)) (r1 : List Int) (r2 : List (List Int)) (w : World) (hr0_0 : Kd.C (Kd.int .i64) w A0_0 l0_0.length l0_0) (hc0_0 : l0_0.length ≤ c0_0) (hr0_1 : Kd.C (Kd.slice 3 (Kd.int .i64)) w A0_1 l0_1.length l0_1) (hc0_1 : l0_1.length ≤ c0_1) (h : impl_Netted.f k l0_0 l0_1 = some (r1, r2)) :
  Calls Try.prog 39 #[.agg #[.slice A0_0 l0_0.length c0_0, .slice A0_1 l0_1.length c0_1]] w fun e w' => ∃ v0_ v1_ : Value, e = .returned (.agg #[v0_, v1_]) ∧ Kd.R (Kd.int .i64) 3 w' w.heap.size (fun _ => True) v0_ r1 ∧ Kd.S (Kd.slice 3 (Kd.int .i64)) 22 w' w.heap.size (fun k_ => some k_ ≠ (v0_ : Value).ownBlock) v1_ r2 ∧ Below w.heap.size w w' := by
 have hu25 := Try.underlying25
 have HR0_0 := Aside0.mk hr0_0
 have HC0_0 := Aside0.mk hc0_0
 clear hr0_0 hc0_0
 have HR0_1 := Aside0.mk hr0_1
 have HC0_1 := Aside0.mk hc0_1
 clear hr0_1 hc0_1
 have HB := Aside0.mk (Below.refl w.heap.size w)
 have H : ((impl_isBook.f k l0_0 l0_1).bind fun t429 => (if t429 = true then ((impl_netted.f k l0_0 l0_1).bind fun bt430 => (some (bt430.1, bt430.2))) else (some (([] : List Int), ([] : List (List Int)))))) = some (r1, r2) := h
 clear h
 obtain ⟨t429, A2, H⟩ := bind_ H
 by_cases c3 : t429 = true
 ·subst c3
  replace H := ifp_ H
  replace H := Option.bind_eq_some_iff.mp H
  obtain ⟨⟨t430, t433⟩, A40, H⟩ := H
  replace H : (some (t430, t433)) = some (r1, r2) := H
  have A4 := Aside0.mk A40
  clear A40
  simp only [Option.some.injEq, Prod.mk.injEq] at H
  obtain ⟨rfl, rfl⟩ := H
  go_enter Try.func39, Try.ntmps39
  go_wp2_with (first | ((with_reducible refine gate_dst (N := 1) rfl ?_); refine bx_ (N := 1) #[.slice A0_0 l0_0.length c0_0, .slice A0_1 l0_1.length c0_1] 25 ?_; intro gb427 hg w5 hbox hb; have BK427 := Aside0.mk (hbox); have GW427 := Aside0.mk ((g21_ : w.heap.size ≤ gb427)); have GE427 := Aside0.mk ((g21_ : w.heap.size ≤ gb427)); replace HB := Aside0.mk (below_step (qz4_) hb); clear hb hbox hg) | ((with_reducible refine gate_dst (N := 2) rfl ?_); refine bx_ (N := 2) #[.slice none 0 0, .slice none 0 0] 25 ?_; intro gb428 hg w6 hbox hb; have BK428 := Aside0.mk (hbox); have GW428 := Aside0.mk ((g21_ : w.heap.size ≤ gb428)); have GE428 := Aside0.mk ((g21_ : w.heap.size ≤ gb428)); replace HB := Aside0.mk (below_step (qz4_) hb); have NB427_428 := Aside0.mk ((by rw [hg]; exact Nat.ne_of_lt (blk_lt (g := gb427) (o := .cells #[.slice A0_0 l0_0.length c0_0, .slice A0_1 l0_1.length c0_1] 25 (0, 0)) (uf0_ BK427)) : gb427 ≠ gb428)); have NB428_427 := Aside0.mk ((by rw [hg]; exact Nat.ne_of_gt (blk_lt (g := gb427) (o := .cells #[.slice A0_0 l0_0.length c0_0, .slice A0_1 l0_1.length c0_1] 25 (0, 0)) (uf0_ BK427)) : gb428 ≠ gb427)); replace BK427 := bb_ BK427 hb; clear hb hbox hg; have hnb7 := NB427_428.out; have hnc7 := NB428_427.out; obtain ⟨hcz8_0, hcz8_1, hfz8_0, hfz8_1⟩ := blk2_ BK427) | ((with_reducible refine gate_callee (f := 73) rfl ?_); refine goesL_ (some 4) rfl rfl Try.func73 k_ rfl #[.agg #[.slice A0_0 l0_0.length c0_0, .slice A0_1 l0_1.length c0_1]] rfl (g2_) ?_; (with_reducible refine (impl_isBook.calls k _ _ l0_0 _ _ l0_1 true _ ?side1 ?side2 ?side3 ?side4 A2.out).mono ?_); (case side1 => exact uf3_ HR0_0); (case side2 => exact HC0_0.out); (case side3 => exact uf3_ HR0_1); (case side4 => exact HC0_1.out); rintro e w9 ⟨rfl, hb⟩; refine ⟨_, rfl, ?_⟩; replace BK427 := bb_ BK427 hb; replace BK428 := bb_ BK428 hb; replace HB := Aside0.mk (below_step (qz4_) hb); (try clear hb); (try clear hk hi); obtain ⟨hcz10_0, hcz10_1, hfz10_0, hfz10_1⟩ := blk2_ BK427) | ((with_reducible refine gate_callee (f := 92) rfl ?_); refine goesL_ (some 8) rfl rfl Try.func92 k_ rfl #[.agg #[.slice A0_0 l0_0.length c0_0, .slice A0_1 l0_1.length c0_1]] rfl (g2_) ?_; (with_reducible refine (impl_netted.calls k _ _ l0_0 _ _ l0_1 t430 t433 _ ?side1 ?side2 ?side3 ?side4 A4.out).mono ?_); (case side1 => exact uf3_ HR0_0); (case side2 => exact HC0_0.out); (case side3 => exact uf3_ HR0_1); (case side4 => exact HC0_1.out); rintro e w11 ⟨v431, v434, rfl, ho0, ho1, hb⟩; refine ⟨_, rfl, ?_⟩; have HO432 := Aside0.mk (Kd.R_lower ho0 (below_size (qz4_))); have HO435 := Aside0.mk (Kd.S_lower ho1 (below_size (qz4_))); replace BK427 := bb_ BK427 hb; replace BK428 := bb_ BK428 hb; replace HB := Aside0.mk (below_step (qz4_) hb); (try clear hb); (try clear hk hi); (try clear ho0); (try clear ho1); obtain ⟨Ao12, co12, eo12⟩ := Kd.R_slice HO432.out; subst eo12; obtain ⟨hcz13_0, hcz13_1, hfz13_0, hfz13_1⟩ := blk2_ BK428; obtain ⟨Ao14, co14, eo14⟩ := Kd.S_slice HO435.out; subst eo14))
  refine bodyPost_ret (results_cell_row rfl _ _ gb428 25 #[.slice Ao12 t430.length co12, .slice Ao14 t433.length co14] (0, 0) _ rfl (by (with_reducible repeat (first | refine blk_drewN ?_ _ | refine blk_drew ?_ | refine blk_alloc ?_ _)); refine blk_put (cs := #[.slice Ao12 t430.length co12, .slice none 0 0]) ?_ 1 _ rfl; (with_reducible repeat (first | refine blk_drewN ?_ _ | refine blk_drew ?_ | refine blk_alloc ?_ _)); refine blk_put (cs := #[.slice none 0 0, .slice none 0 0]) ?_ 0 _ rfl; (with_reducible repeat (first | refine blk_drewN ?_ _ | refine blk_drew ?_ | refine blk_alloc ?_ _)); exact BK428.out) Try.underlying25 rfl (g1_)) rfl ?_
  exact ⟨_, _, g4_, by (with_reducible repeat (first | apply Kd.R_alloc | apply Kd.R_drewN | apply Kd.R_drew)); exact Kd.R_mono (Kd.R_far (p := ⟨gb428, 1, none⟩) (Kd.R_far (p := ⟨gb428, 0, none⟩) (Kd.R_types HO432.out BK428.out (by decide)) (fun _ hk => hk.2) (.slice Ao12 t430.length co12)) (fun _ hk => hk.2) (.slice Ao14 t433.length co14)) (fun _ hk => trivial), by (with_reducible repeat (first | apply Kd.S_alloc | apply Kd.S_drewN | apply Kd.S_drew)); exact Kd.S_mono (Kd.S_far (p := ⟨gb428, 1, none⟩) (Kd.S_far (p := ⟨gb428, 0, none⟩) (Kd.S_types HO435.out BK428.out (by decide)) (fun _ hk => hk.2) (.slice Ao12 t430.length co12)) (fun _ hk => hk.2) (.slice Ao14 t433.length co14)) (fun _ hk => hk.1), qz4_⟩
 ·replace c3 := Bool.eq_false_iff.mpr c3
  subst c3
  replace H := ifn_ H
  simp only [Option.some.injEq, Prod.mk.injEq] at H
  obtain ⟨rfl, rfl⟩ := H
  go_enter Try.func39, Try.ntmps39
  go_wp2_with (first | ((with_reducible refine gate_dst (N := 1) rfl ?_); refine bx_ (N := 1) #[.slice A0_0 l0_0.length c0_0, .slice A0_1 l0_1.length c0_1] 25 ?_; intro gb427 hg w15 hbox hb; have BK427 := Aside0.mk (hbox); have GW427 := Aside0.mk ((g21_ : w.heap.size ≤ gb427)); have GE427 := Aside0.mk ((g21_ : w.heap.size ≤ gb427)); replace HB := Aside0.mk (below_step (qz4_) hb); clear hb hbox hg) | ((with_reducible refine gate_dst (N := 2) rfl ?_); refine bx_ (N := 2) #[.slice none 0 0, .slice none 0 0] 25 ?_; intro gb428 hg w16 hbox hb; have BK428 := Aside0.mk (hbox); have GW428 := Aside0.mk ((g21_ : w.heap.size ≤ gb428)); have GE428 := Aside0.mk ((g21_ : w.heap.size ≤ gb428)); replace HB := Aside0.mk (below_step (qz4_) hb); have NB427_428 := Aside0.mk ((by rw [hg]; exact Nat.ne_of_lt (blk_lt (g := gb427) (o := .cells #[.slice A0_0 l0_0.length c0_0, .slice A0_1 l0_1.length c0_1] 25 (0, 0)) (uf0_ BK427)) : gb427 ≠ gb428)); have NB428_427 := Aside0.mk ((by rw [hg]; exact Nat.ne_of_gt (blk_lt (g := gb427) (o := .cells #[.slice A0_0 l0_0.length c0_0, .slice A0_1 l0_1.length c0_1] 25 (0, 0)) (uf0_ BK427)) : gb428 ≠ gb427)); replace BK427 := bb_ BK427 hb; clear hb hbox hg; have hnb17 := NB427_428.out; have hnc17 := NB428_427.out; obtain ⟨hcz18_0, hcz18_1, hfz18_0, hfz18_1⟩ := blk2_ BK427) | ((with_reducible refine gate_callee (f := 73) rfl ?_); refine goesL_ (some 4) rfl rfl Try.func73 k_ rfl #[.agg #[.slice A0_0 l0_0.length c0_0, .slice A0_1 l0_1.length c0_1]] rfl (g2_) ?_; (with_reducible refine (impl_isBook.calls k _ _ l0_0 _ _ l0_1 false _ ?side1 ?side2 ?side3 ?side4 A2.out).mono ?_); (case side1 => exact uf3_ HR0_0); (case side2 => exact HC0_0.out); (case side3 => exact uf3_ HR0_1); (case side4 => exact HC0_1.out); rintro e w19 ⟨rfl, hb⟩; refine ⟨_, rfl, ?_⟩; replace BK427 := bb_ BK427 hb; replace BK428 := bb_ BK428 hb; replace HB := Aside0.mk (below_step (qz4_) hb); (try clear hb); (try clear hk hi); obtain ⟨hcz20_0, hcz20_1, hfz20_0, hfz20_1⟩ := blk2_ BK428))
  refine bodyPost_ret (results_cell_row rfl _ _ gb428 25 #[.slice none 0 0, .slice none 0 0] (0, 0) _ rfl (by (with_reducible repeat (first | refine blk_drewN ?_ _ | refine blk_drew ?_ | refine blk_alloc ?_ _)); refine blk_put (cs := #[.slice none 0 0, .slice none 0 0]) ?_ 1 _ rfl; (with_reducible repeat (first | refine blk_drewN ?_ _ | refine blk_drew ?_ | refine blk_alloc ?_ _)); refine blk_put (cs := #[.slice none 0 0, .slice none 0 0]) ?_ 0 _ rfl; (with_reducible repeat (first | refine blk_drewN ?_ _ | refine blk_drew ?_ | refine blk_alloc ?_ _)); exact BK428.out) Try.underlying25 rfl (g1_)) rfl ?_
  exact ⟨_, _, g4_, g14_, g17_, qz4_⟩
end Go.Proofs.Ytfooakkhkehpiaa.PU
