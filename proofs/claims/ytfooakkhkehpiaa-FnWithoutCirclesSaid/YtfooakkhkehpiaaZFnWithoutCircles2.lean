/- FnWithoutCircles: for every input the law holds. No condition. -/
import Derived.Test.YtfooakkhkehpiaaZFnWithoutCircles1
namespace Go.Proofs.Ytfooakkhkehpiaa.PU
open Go.RowKit Go.Proofs.YtfooakkhkehpiaaW.PrintWords Go.Proofs.YtfooakkhkehpiaaW.PrintLast Go.Proofs.YtfooakkhkehpiaaW.PrintMore Go.Proofs.Ytfooakkhkehpiaa.Qd
attribute [local go_sem] max2_int min2_int max_two min_two max_three min_three max_four min_four
set_option linter.unusedVariables false
set_option linter.unusedSimpArgs false
mutual
def impl_owes.l0 : Nat → List Int → List (List Int) → Int → Int → Option (List Int)
 | 0, _, _, _, _ => none
 | k + 1, x3, gi, ir, et => if et < ir then (if 0 ≤ et then (if et < (gi.length : Int) then (impl_owes.l1 k x3 et gi ir et (rd_L1 gi et) ((rd_L1 gi et).length : Int) 0) else (none)) else (none)) else (some x3)
def impl_owes.l1 : Nat → List Int → Int → List (List Int) → Int → Int → List Int → Int → Int → Option (List Int)
 | 0, _, _, _, _, _, _, _, _ => none
 | k + 1, x3, x4, gi, ir, et, x20, pz, x22 => if x22 < pz then (if 0 ≤ x22 then (if x22 < (x20.length : Int) then (if 0 ≤ x4 then (if x4 < (x3.length : Int) then (impl_owes.l1 k (x3.set (x4 : Int).toNat (wrap64 ((rd x3 x4) + (rd x20 x22)))) x4 gi ir et x20 pz (wrap64 (x22 + 1))) else (none)) else (none)) else (none)) else (none)) else (impl_owes.l0 k x3 gi ir (wrap64 (et + 1)))
end
def impl_owes.f (k : Nat) (ab : List Int) (aa : List (List Int)) : Option (List Int) := if 0 ≤ (ab.length : Int) then (if ((ab.length : Int) : Int).toNat ≤ 35184372088832 then (impl_owes.l0 k (List.replicate ((ab.length : Int) : Int).toNat 0) aa (aa.length : Int) 0) else (none)) else (none)
theorem impl_owes.mq {p : Prop} (h : p := by
 repeat' first
 | (with_reducible exact ih0 _ _ _ _)
 | (with_reducible exact ih1 _ _ _ _ _ _ _ _)
 | (with_reducible exact LeO.refl _)
 | (with_reducible exact LeO.none _)
 | (with_reducible refine LeO.ite ?_ ?_)
 | (with_reducible refine LeO.bind ?_ (fun _ => ?_))
 | exact ih0 _ _ _ _
 | exact ih1 _ _ _ _ _ _ _ _
 | exact LeO.none _
 | refine LeO.ite ?_ ?_
 | refine LeO.bind ?_ (fun _ => ?_)) : p := h
theorem impl_owes.mono_l : ∀ k, (∀ y0 y1 y2 y3, LeO (impl_owes.l0 k y0 y1 y2 y3) (impl_owes.l0 (k + 1) y0 y1 y2 y3)) ∧ (∀ y0 y1 y2 y3 y4 y5 y6 y7, LeO (impl_owes.l1 k y0 y1 y2 y3 y4 y5 y6 y7) (impl_owes.l1 (k + 1) y0 y1 y2 y3 y4 y5 y6 y7))
 | 0 => ⟨fun _ _ _ _ r h => by simp [impl_owes.l0] at h, fun _ _ _ _ _ _ _ _ r h => by simp [impl_owes.l1] at h⟩
 | k + 1 => by
  obtain ⟨ih0, ih1⟩ := impl_owes.mono_l k
  refine ⟨?_, ?_⟩
  ·intro y0 y1 y2 y3
   unfold impl_owes.l0
   exact impl_owes.mq
  ·intro y0 y1 y2 y3 y4 y5 y6 y7
   unfold impl_owes.l1
   exact impl_owes.mq
theorem impl_owes.mono : ∀ a0 a1 k, LeO (impl_owes.f k a0 a1) (impl_owes.f (k + 1) a0 a1) := by
 intro a0 a1 k
 obtain ⟨ih0, ih1⟩ := impl_owes.mono_l k
 unfold impl_owes.f
 exact impl_owes.mq
theorem st {p : Prop} (h : p := by repeat (first | (with_reducible first | exact HB.out | apply below_alloc | apply pw_below_drewN | apply below_drew1 | refine below_set ?_ dt8.out) | exact HB.out)) : p := h
set_option maxHeartbeats 8000000 in
set_option maxRecDepth 100000 in
theorem impl_owes.calls (k : Nat) (af : Option Addr) (ae : Nat) (ab : List Int) (ah : Option Addr) (ag : Nat) (aa : List (List Int)) (r : List Int) (w : World) (cg : Kd.C (Kd.int .i64) w af ab.length ab) (ck : ab.length ≤ ae) (ch : Kd.C (Kd.slice 3 (Kd.int .i64)) w ah aa.length aa) (cl : aa.length ≤ ag) (h : impl_owes.f k ab aa = some r) :
  Calls Try.prog 74 #[.agg #[.slice af ab.length ae, .slice ah aa.length ag]] w fun e w' => ∃ v0_ : Value, e = .returned (v0_) ∧ Kd.R (Kd.int .i64) 3 w' w.heap.size (fun _ => True) v0_ r ∧ Below w.heap.size w w' := by
 have hu25 := Try.underlying25
 have b7 := Aside0.mk cg
 have cn := Aside0.mk ck
 clear cg ck
 have bz := Aside0.mk ch
 have cr := Aside0.mk cl
 clear ch cl
 have HB := Aside0.mk (Below.refl w.heap.size w)
 have H : (if 0 ≤ (ab.length : Int) then (if ((ab.length : Int) : Int).toNat ≤ 35184372088832 then (impl_owes.l0 k (List.replicate ((ab.length : Int) : Int).toNat 0) aa (aa.length : Int) 0) else (none)) else (none)) = some r := h
 clear h
 obtain ⟨c2, H⟩ := pos_ H
 have iu := eq_true c2
 have km := decide_eq_true c2
 clear c2
 obtain ⟨c3, H⟩ := pos_ H
 have ft := eq_true c3
 have kn := decide_eq_true c3
 clear c3
 obtain ⟨cn7, hy123⟩ : ∃ y_ : List Int, y_ = (List.replicate ((ab.length : Int) : Int).toNat 0) := ⟨_, rfl⟩
 replace H : (impl_owes.l0 k cn7 aa (aa.length : Int) 0) = some r := by first | (rw [hy123]; with_reducible exact H) | (have H2_ := (Option.bind_some _ _).symm.trans H; rw [hy123]; with_reducible exact H2_) | (have H2_ := (Option.bind_some _ _).symm.trans H; with_reducible exact H2_) | with_reducible exact H | (rw [hy123]; exact H) | exact H
 have cn8 := Aside0.mk hy123
 clear hy123
 have H' := Aside0.mk H
 clear H
 go_enter Try.func74, Try.ntmps74
 go_wp2_with (first | ((with_reducible refine gate_dst (N := 1) rfl ?_); refine bx_ (N := 1) #[.slice af ab.length ae, .slice ah aa.length ag] 25 ?_; intro ak8 hg w4 hbox hb; have n4 := Aside0.mk (hbox); have fh3 := Aside0.mk ((by rw [hg]; exact (below_size (st)) : w.heap.size ≤ ak8)); have dt8 := Aside0.mk ((by rw [hg]; exact (below_size (st)) : w.heap.size ≤ ak8)); replace HB := Aside0.mk (below_step (st) hb); clear hb hbox hg; obtain ⟨xx, xy, xz, ya⟩ := blk2_ n4) | ((with_reducible refine gate_dst (N := 11) rfl ?_); refine Kd.R_make (Kd.int .i64) _ 3 rfl (N := 11) rfl 22 _ _ rfl (ab.length : Int) rfl rfl Try.underlying22 (.int .i64 0) 8 info3 rfl (by decide) (by omega) 0 (ok := fun _ => True) (okp := fun _ => True) rfl (fun _ hk => hk) trivial (of_decide_eq_true (g0_)) (Nat.le_trans (Nat.mul_le_mul_right _ (of_decide_eq_true (g0_) : (ab.length : Int).toNat ≤ 35184372088832)) (by omega)) (Below.refl _ _) (Nat.le_refl _) ?_; intro cn9 w6 p0 hb hg_ hnew_; clear hg_ hnew_; (first | rw [← cn8.out] at p0 | (simp only [Int.reduceToNat] at p0; rw [← cn8.out] at p0)); have dt9 := Aside0.mk (Kd.R_lower p0 (below_size (st))); replace n4 := bb_ n4 hb; replace HB := Aside0.mk (below_step (st) hb); clear hb p0; obtain ⟨ko, kr, ks, kt⟩ := blk2_ n4))
 go_loopg [15] k (fun kq v15 w' => ∃ (dy : List Int) (b8 : Int), v15 = .int .i64 b8 ∧ Aside0 (impl_owes.l0 kq dy aa (aa.length : Int) b8 = some r) ∧ Aside0 (kq ≤ k) ∧ Aside0 (Kd.R (Kd.int .i64) 3 w' w.heap.size (fun _ => True) cn9 dy) ∧ Aside0 (w'.heap[ak8]? = some (.cells #[(.slice af ab.length ae), (.slice ah aa.length ag)] 25 (0, 0))) ∧ Aside0 (Below w.heap.size w w'))
 case atStart => exact ⟨(cn7), (0), (g2_), H', ⟨Nat.le_refl _⟩, ⟨uf1_ dt9⟩, ⟨uf0_ n4⟩, ⟨st⟩⟩
 case round =>
  clear H'
  try clear c2
  try clear iu
  try clear km
  try clear p2
  try clear c3
  try clear ft
  try clear kn
  try clear c7
  try clear xx
  try clear xy
  try clear ko
  try clear kr
  try clear xz
  try clear ya
  try clear ks
  try clear kt
  obtain ⟨dy, b8, rfl, HA, HK1, ap, n4, HB⟩ := hrel
  cases gk with
  | zero => exact absurd HA.out (by simp [impl_owes.l0])
  | succ k1 =>
   have H := HA.out
   clear HA
   simp only [impl_owes.l0] at H
   by_cases c9 : b8 < (aa.length : Int)
   ·rw [if_pos c9] at H
    have p7 := decide_eq_true c9
    clear c9
    obtain ⟨db, H⟩ := pos_ H
    have ia := decide_eq_true db
    clear db
    obtain ⟨d5, H⟩ := pos_ H
    have mb := decide_eq_true d5
    clear d5
    have H' := Aside0.mk H
    clear H
    have ba8 : 0 ≤ (b8 : Int) := of_decide_eq_true (g0_)
    have ba9 : b8 < (aa.length : Int) := of_decide_eq_true (g0_)
    obtain ⟨co0, fh4, fh5, du0, bq9, co1, co2⟩ := at_L1 bz.out b8 ba8 ba9
    cases du0
    replace bq9 := cl_ HB bq9
    have du1 := Aside0.mk co2
    have fh6 := Aside0.mk co1
    clear co2 co1
    replace ba8 := eq_true ba8
    replace ba9 := eq_true ba9
    go_wp2
    go_loopg [22] k1 (fun kq v22 w' => ∃ (bl : List Int) (o2 : Int), v22 = .int .i64 o2 ∧ Aside0 (impl_owes.l1 kq bl b8 aa (aa.length : Int) b8 (rd_L1 aa b8) ((rd_L1 aa b8).length : Int) o2 = some r) ∧ Aside0 (kq ≤ k1) ∧ Aside0 (Kd.R (Kd.int .i64) 3 w' w.heap.size (fun _ => True) cn9 bl) ∧ Aside0 (w'.heap[ak8]? = some (.cells #[(.slice af ab.length ae), (.slice (some co0) aa.length ag)] 25 (0, 0))) ∧ Aside0 (Below w.heap.size w w'))
    case atStart => exact ⟨(dy), (0), (g2_), H', ⟨Nat.le_refl _⟩, ⟨uf1_ ap⟩, ⟨uf0_ n4⟩, ⟨st⟩⟩
    case round =>
     clear H'
     try clear c1
     try clear p1
     try clear q1
     try clear va
     try clear c2
     try clear iu
     try clear km
     try clear p2
     try clear c3
     try clear ft
     try clear kn
     try clear c7
     try clear c9
     try clear p7
     try clear db
     try clear ia
     try clear d5
     try clear mb
     try clear xx
     try clear xy
     try clear ko
     try clear kr
     try clear xz
     try clear ya
     try clear ks
     try clear kt
     try clear bq9
     try clear ba8
     try clear p2
     try clear ba9
     obtain ⟨bl, o2, rfl, HA, HK2, ap, n4, HB⟩ := hrel
     cases gk with
     | zero => exact absurd HA.out (by simp [impl_owes.l1])
     | succ k2 =>
      have H := HA.out
      clear HA
      simp only [impl_owes.l1] at H
      by_cases d2 : o2 < ((rd_L1 aa b8).length : Int)
      ·rw [if_pos d2] at H
       have lm := decide_eq_true d2
       clear d2
       obtain ⟨fu, H⟩ := pos_ H
       have ta := decide_eq_true fu
       clear fu
       obtain ⟨f2, H⟩ := pos_ H
       have pv := decide_eq_true f2
       clear f2
       obtain ⟨cb, H⟩ := pos_ H
       have gv := decide_eq_true cb
       clear cb
       obtain ⟨ed, H⟩ := pos_ H
       have o3 := decide_eq_true ed
       clear ed
       obtain ⟨br0, hy129⟩ : ∃ y_ : List Int, y_ = (bl.set (b8 : Int).toNat (wrap64 ((rd bl b8) + (rd (rd_L1 aa b8) o2)))) := ⟨_, rfl⟩
       replace H : (impl_owes.l1 k2 br0 b8 aa (aa.length : Int) b8 (rd_L1 aa b8) ((rd_L1 aa b8).length : Int) (wrap64 (o2 + 1))) = some r := by first | (rw [hy129]; with_reducible exact H) | (have H2_ := (Option.bind_some _ _).symm.trans H; rw [hy129]; with_reducible exact H2_) | (have H2_ := (Option.bind_some _ _).symm.trans H; with_reducible exact H2_) | with_reducible exact H | (rw [hy129]; exact H) | exact H
       have du2 := Aside0.mk hy129
       clear hy129
       have H' := Aside0.mk H
       clear H
       have br1 : 0 ≤ (o2 : Int) := of_decide_eq_true (g0_)
       have br2 : o2 < ((rd_L1 aa b8).length : Int) := of_decide_eq_true (g0_)
       obtain ⟨fh7, du3, co3⟩ := Kd.at_int du1.out o2 br1 br2
       cases du3
       replace co3 := cl_ HB co3
       replace br1 := eq_true br1
       replace br2 := eq_true br2
       obtain ⟨fh8, du4, du5⟩ := Kd.R_slice ap.out
       subst du5
       have br3 : 0 ≤ (b8 : Int) := of_decide_eq_true (g0_)
       have br4 : b8 < (bl.length : Int) := of_decide_eq_true (g0_)
       obtain ⟨fh9, du6, du7⟩ := Kd.at_int (Kd.R_reads' ap.out).2.2 b8 br3 br4
       cases du6
       replace br3 := eq_true br3
       replace br4 := eq_true br4
       have p17 : 0 ≤ (b8 : Int) := of_decide_eq_true (g0_)
       have q17 : (b8 : Int) < ((bl.length : Int) : Int) := of_decide_eq_true (g0_)
       obtain ⟨br5, a5, ku, co4, gl17, cl17, HG17⟩ := Kd.R_form ap.out (by omega)
       (first | cases ku | (injection ku with ea_ en_ ec_; (first | subst ea_ | (injection ea_ with ea_; subst ea_)); subst ec_; clear en_))
       have GB17 := Aside0.mk co4
       have GG17 := Aside0.mk HG17
       clear co4 gl17 HG17
       (first | simp only [add_plain] at du7 | skip)
       obtain ⟨fi0, hf17_0⟩ := Kd.R_celln 0 ap.out (b8 : Int) p17 q17
       replace p17 := eq_true p17
       replace q17 := eq_true q17
       have HP19 := Kd.R_putg ap.out (b8 : Int) (wrap64 ((rd bl b8) + (rd (rd_L1 aa b8) o2)))
       go_wp2_with (first | ((with_reducible refine gate_store (t := 3) (p := 32) rfl ?_); refine store_event (t := 3) (p := 32) (v := ?vo_w20) (w1 := (wr.setCell ⟨br5, (b8 : Int).toNat, none⟩ (.int .i64 (wrap64 ((rd bl b8) + (rd (rd_L1 aa b8) o2)))))) ?hg ?ho ?hn ?hr ?_; (case ho => rfl); (case hg => rfl); (case hn => rfl); (case hr => first | (go_simp; done) | (go_simp; rfl)); intro rr hw; have hg : wr.grownBy rr (some br5) := (by rw [hw]; exact HP19.2); have hp_ : Kd.R (Kd.int .i64) 3 rr w.heap.size (fun _ => True) (.slice (some ⟨br5, 0, none⟩) bl.length du4) br0 := (by rw [hw, du2.out]; exact HP19.1); clear HP19; replace n4 := Aside0.mk (blk_grown (g := ak8) (o := .cells #[.slice af ab.length ae, .slice (some co0) aa.length ag] 25 (0, 0)) (uf0_ n4) hg (Kd.R_ne ap.out n4.out (by decide))); replace ap := Aside0.mk (hp_); replace HB := Aside0.mk ((by rw [hw]; exact below_set (HB.out) GB17.out : Below w.heap.size w rr)); clear hg hw hp_))
       go_roundg k2
       case measure => have := HK1.out; have := HK2.out; omega
       case rel => exact ⟨(br0), (wrap64 (o2 + 1)), (g2_), H', ⟨g19_⟩, ⟨uf1_ ap⟩, ⟨uf0_ n4⟩, ⟨st⟩⟩
      ·rw [if_neg d2] at H
       have lm := decide_eq_false d2
       clear d2
       have H' := Aside0.mk H
       clear H
       go_wp2
       go_roundg k2
       case measure => have := HK1.out; have := HK2.out; omega
       case rel => exact ⟨(bl), (wrap64 (b8 + 1)), (g2_), H', ⟨g19_⟩, ⟨uf1_ ap⟩, ⟨uf0_ n4⟩, ⟨st⟩⟩
   ·rw [if_neg c9] at H
    have p7 := decide_eq_false c9
    clear c9
    obtain rfl := Option.some.inj H
    go_wp2
    go_ret
    exact ⟨_, g4_, uf1_ ap, st⟩
def impl_AllDebts.l0 : Nat → Int → List Int → Int → Int → Option (Int)
 | 0, _, _, _, _ => none
 | k + 1, x3, i7, ew, j7 => if j7 < ew then (if 0 ≤ j7 then (if j7 < (i7.length : Int) then (impl_AllDebts.l0 k (wrap64 (x3 + (rd i7 j7))) i7 ew (wrap64 (j7 + 1))) else (none)) else (none)) else (some x3)
def impl_AllDebts.f (k : Nat) (ab : List Int) (aa : List (List Int)) : Option (Int) := (impl_isBook.f k ab aa).bind fun ak9 => (if ak9 = true then ((impl_owes.f k ab aa).bind fun m5 => (impl_AllDebts.l0 k 0 m5 (m5.length : Int) 0)) else (some (-1)))
theorem impl_AllDebts.mq {p : Prop} (h : p := by
 repeat' first
 | (with_reducible exact ih0 _ _ _ _)
 | (with_reducible exact impl_isBook.mono _ _ _)
 | (with_reducible exact impl_owes.mono _ _ _)
 | (with_reducible exact LeO.refl _)
 | (with_reducible exact LeO.none _)
 | (with_reducible refine LeO.ite ?_ ?_)
 | (with_reducible refine LeO.bind ?_ (fun _ => ?_))
 | exact ih0 _ _ _ _
 | exact impl_isBook.mono _ _ _
 | exact impl_owes.mono _ _ _
 | exact LeO.none _
 | refine LeO.ite ?_ ?_
 | refine LeO.bind ?_ (fun _ => ?_)) : p := h
theorem impl_AllDebts.mono_l : ∀ k, (∀ y0 y1 y2 y3, LeO (impl_AllDebts.l0 k y0 y1 y2 y3) (impl_AllDebts.l0 (k + 1) y0 y1 y2 y3))
 | 0 => fun _ _ _ _ r h => by simp [impl_AllDebts.l0] at h
 | k + 1 => by
  have ih0 := impl_AllDebts.mono_l k
  ·intro y0 y1 y2 y3
   unfold impl_AllDebts.l0
   exact impl_AllDebts.mq
theorem impl_AllDebts.mono : ∀ a0 a1 k, LeO (impl_AllDebts.f k a0 a1) (impl_AllDebts.f (k + 1) a0 a1) := by
 intro a0 a1 k
 have ih0 := impl_AllDebts.mono_l k
 unfold impl_AllDebts.f
 exact impl_AllDebts.mq
theorem rm {p : Prop} (h : p := by repeat (first | (with_reducible first | exact HB.out | apply below_alloc | apply pw_below_drewN | apply below_drew1 | refine below_set ?_ co5.out) | exact HB.out)) : p := h
set_option maxHeartbeats 8000000 in
set_option maxRecDepth 100000 in
theorem impl_AllDebts.calls (k : Nat) (af : Option Addr) (ae : Nat) (ab : List Int) (ah : Option Addr) (ag : Nat) (aa : List (List Int)) (r : Int) (w : World) (cg : Kd.C (Kd.int .i64) w af ab.length ab) (ck : ab.length ≤ ae) (ch : Kd.C (Kd.slice 3 (Kd.int .i64)) w ah aa.length aa) (cl : aa.length ≤ ag) (h : impl_AllDebts.f k ab aa = some r) :
  Calls Try.prog 25 #[.agg #[.slice af ab.length ae, .slice ah aa.length ag]] w fun e w' => e = .returned (.int .i64 r) ∧ Below w.heap.size w w' := by
 have hu25 := Try.underlying25
 have b7 := Aside0.mk cg
 have cn := Aside0.mk ck
 clear cg ck
 have bz := Aside0.mk ch
 have cr := Aside0.mk cl
 clear ch cl
 have HB := Aside0.mk (Below.refl w.heap.size w)
 have H : ((impl_isBook.f k ab aa).bind fun ak9 => (if ak9 = true then ((impl_owes.f k ab aa).bind fun m5 => (impl_AllDebts.l0 k 0 m5 (m5.length : Int) 0)) else (some (-1)))) = some r := h
 clear h
 obtain ⟨ak9, A2, H⟩ := bind_ H
 by_cases c3 : ak9 = true
 ·subst c3
  replace H := ifp_ H
  obtain ⟨m5, A4, H⟩ := bind_ H
  have H' := Aside0.mk H
  clear H
  go_enter Try.func25, Try.ntmps25
  go_wp2_with (first | ((with_reducible refine gate_dst (N := 1) rfl ?_); refine bx_ (N := 1) #[.slice af ab.length ae, .slice ah aa.length ag] 25 ?_; intro ad2 hg w5 hbox hb; have n5 := Aside0.mk (hbox); have du8 := Aside0.mk ((g56_ : w.heap.size ≤ ad2)); have co5 := Aside0.mk ((g56_ : w.heap.size ≤ ad2)); replace HB := Aside0.mk (below_step (rm) hb); clear hb hbox hg; obtain ⟨rs, rt, vc, ru⟩ := blk2_ n5) | ((with_reducible refine gate_callee (f := 73) rfl ?_); refine goesL_ (some 7) rfl rfl Try.func73 k_ rfl #[.agg #[.slice af ab.length ae, .slice ah aa.length ag]] rfl (g3_) ?_; (with_reducible refine (impl_isBook.calls k _ _ ab _ _ aa true _ ?side1 ?side2 ?side3 ?side4 A2.out).mono ?_); (case side1 => exact uf2_ b7); (case side2 => exact cn.out); (case side3 => exact uf2_ bz); (case side4 => exact cr.out); rintro e w7 ⟨rfl, hb⟩; refine ⟨_, rfl, ?_⟩; replace n5 := bb_ n5 hb; replace HB := Aside0.mk (below_step (rm) hb); (try clear hb); (try clear hk hi); obtain ⟨ko, kr, ks, kt⟩ := blk2_ n5) | ((with_reducible refine gate_callee (f := 74) rfl ?_); refine goesL_ (some 10) rfl rfl Try.func74 k_ rfl #[.agg #[.slice af ab.length ae, .slice ah aa.length ag]] rfl (g3_) ?_; (with_reducible refine (impl_owes.calls k _ _ ab _ _ aa m5 _ ?side1 ?side2 ?side3 ?side4 A4.out).mono ?_); (case side1 => exact uf2_ b7); (case side2 => exact cn.out); (case side3 => exact uf2_ bz); (case side4 => exact cr.out); rintro e w9 ⟨fi1, rfl, ac, hb⟩; refine ⟨_, rfl, ?_⟩; have co6 := Aside0.mk (Kd.R_lower ac (below_size (rm))); replace n5 := bb_ n5 hb; replace HB := Aside0.mk (below_step (rm) hb); (try clear hb); (try clear hk hi); (try clear ac); obtain ⟨cy, cz, p8⟩ := Kd.R_slice co6.out; subst p8))
  go_loopg [3, 12] k (fun kq v3 v12 w' => ∃ (dy : Int) (tb : Int), v3 = .int .i64 dy ∧ v12 = .int .i64 tb ∧ Aside0 (impl_AllDebts.l0 kq dy m5 (m5.length : Int) tb = some r) ∧ Aside0 (kq ≤ k) ∧ Aside0 (Kd.R (Kd.int .i64) 3 w' w.heap.size (fun _ => True) (.slice cy m5.length cz) m5) ∧ Aside0 (w'.heap[ad2]? = some (.cells #[(.slice af ab.length ae), (.slice ah aa.length ag)] 25 (0, 0))) ∧ Aside0 (Below w.heap.size w w'))
  case atStart => exact ⟨(0), (0), (g2_), (g2_), H', ⟨Nat.le_refl _⟩, ⟨uf1_ co6⟩, ⟨uf0_ n5⟩, ⟨rm⟩⟩
  case round =>
   clear H'
   try clear c2
   try clear p2
   try clear c3
   try clear c7
   try clear rs
   try clear rt
   try clear ko
   try clear kr
   try clear vc
   try clear ru
   try clear ks
   try clear kt
   obtain ⟨dy, tb, rfl, rfl, HA, HK1, co8, n5, HB⟩ := hrel
   cases gk with
   | zero => exact absurd HA.out (by simp [impl_AllDebts.l0])
   | succ k1 =>
    have H := HA.out
    clear HA
    simp only [impl_AllDebts.l0] at H
    by_cases d5 : tb < (m5.length : Int)
    ·rw [if_pos d5] at H
     have mb := decide_eq_true d5
     clear d5
     obtain ⟨d2, H⟩ := pos_ H
     have lm := decide_eq_true d2
     clear d2
     obtain ⟨fu, H⟩ := pos_ H
     have ta := decide_eq_true fu
     clear fu
     have H' := Aside0.mk H
     clear H
     have br6 : 0 ≤ (tb : Int) := of_decide_eq_true (g0_)
     have br7 : tb < (m5.length : Int) := of_decide_eq_true (g0_)
     obtain ⟨fi2, du9, fi3⟩ := Kd.at_int (Kd.R_reads' co8.out).2.2 tb br6 br7
     cases du9
     replace br6 := eq_true br6
     replace br7 := eq_true br7
     go_wp2
     go_roundg k1
     case measure => have := HK1.out; omega
     case rel => exact ⟨(wrap64 (dy + (rd m5 tb))), (wrap64 (tb + 1)), (g2_), (g2_), H', ⟨g9_⟩, ⟨uf1_ co8⟩, ⟨uf0_ n5⟩, ⟨rm⟩⟩
    ·rw [if_neg d5] at H
     have mb := decide_eq_false d5
     clear d5
     obtain rfl := Option.some.inj H
     go_wp2
     go_ret
     exact ⟨g4_, rm⟩
 ·replace c3 := Bool.eq_false_iff.mpr c3
  subst c3
  replace H := ifn_ H
  obtain rfl := Option.some.inj H
  go_enter Try.func25, Try.ntmps25
  go_wp2_with (first | ((with_reducible refine gate_dst (N := 1) rfl ?_); refine bx_ (N := 1) #[.slice af ab.length ae, .slice ah aa.length ag] 25 ?_; intro ad2 hg w14 hbox hb; have n5 := Aside0.mk (hbox); have du8 := Aside0.mk ((g56_ : w.heap.size ≤ ad2)); have co5 := Aside0.mk ((g56_ : w.heap.size ≤ ad2)); replace HB := Aside0.mk (below_step (rm) hb); clear hb hbox hg; obtain ⟨yb, yc, yd, ye⟩ := blk2_ n5) | ((with_reducible refine gate_callee (f := 73) rfl ?_); refine goesL_ (some 7) rfl rfl Try.func73 k_ rfl #[.agg #[.slice af ab.length ae, .slice ah aa.length ag]] rfl (g3_) ?_; (with_reducible refine (impl_isBook.calls k _ _ ab _ _ aa false _ ?side1 ?side2 ?side3 ?side4 A2.out).mono ?_); (case side1 => exact uf2_ b7); (case side2 => exact cn.out); (case side3 => exact uf2_ bz); (case side4 => exact cr.out); rintro e tc ⟨rfl, hb⟩; refine ⟨_, rfl, ?_⟩; replace n5 := bb_ n5 hb; replace HB := Aside0.mk (below_step (rm) hb); (try clear hb); (try clear hk hi)))
  go_ret
  exact ⟨g4_, rm⟩
def laws_sameInts.l0 : Nat → List Int → List Int → Int → Option (Bool)
 | 0, _, _, _ => none
 | k + 1, x0, x1, x5 => if x5 < (x0.length : Int) then (if 0 ≤ x5 then (if x5 < (x1.length : Int) then (if (rd x0 x5) = (rd x1 x5) then (laws_sameInts.l0 k x0 x1 (wrap64 (x5 + 1))) else (some false)) else (none)) else (none)) else (some true)
def laws_sameInts.f (k : Nat) (l0 : List Int) (l1 : List Int) : Option (Bool) := if (l0.length : Int) = (l1.length : Int) then (laws_sameInts.l0 k l0 l1 0) else (some false)
theorem laws_sameInts.mq {p : Prop} (h : p := by
 repeat' first
 | (with_reducible exact ih0 _ _ _)
 | (with_reducible exact LeO.refl _)
 | (with_reducible exact LeO.none _)
 | (with_reducible refine LeO.ite ?_ ?_)
 | (with_reducible refine LeO.bind ?_ (fun _ => ?_))
 | exact ih0 _ _ _
 | exact LeO.none _
 | refine LeO.ite ?_ ?_
 | refine LeO.bind ?_ (fun _ => ?_)) : p := h
theorem laws_sameInts.mono_l : ∀ k, (∀ y0 y1 y2, LeO (laws_sameInts.l0 k y0 y1 y2) (laws_sameInts.l0 (k + 1) y0 y1 y2))
 | 0 => fun _ _ _ r h => by simp [laws_sameInts.l0] at h
 | k + 1 => by
  have ih0 := laws_sameInts.mono_l k
  ·intro y0 y1 y2
   unfold laws_sameInts.l0
   exact laws_sameInts.mq
theorem laws_sameInts.mono : ∀ a0 a1 k, LeO (laws_sameInts.f k a0 a1) (laws_sameInts.f (k + 1) a0 a1) := by
 intro a0 a1 k
 have ih0 := laws_sameInts.mono_l k
 unfold laws_sameInts.f
 exact laws_sameInts.mq
set_option maxHeartbeats 8000000 in
set_option maxRecDepth 100000 in
theorem laws_sameInts.calls (k : Nat) (A0 : Option Addr) (c0 : Nat) (l0 : List Int) (A1 : Option Addr) (c1 : Nat) (l1 : List Int) (r : Bool) (w : World) (ct : Kd.C (Kd.int .i64) w A0 l0.length l0) (dq : l0.length ≤ c0) (gx : Kd.C (Kd.int .i64) w A1 l1.length l1) (gj : l1.length ≤ c1) (h : laws_sameInts.f k l0 l1 = some r) :
  Calls Try.prog 45 #[.slice A0 l0.length c0, .slice A1 l1.length c1] w fun e w' => e = .returned (.bool r) ∧ Drawn0 w w' := by
 have eg := Aside0.mk ct
 have jo := Aside0.mk dq
 clear ct dq
 have eh := Aside0.mk gx
 have HC1 := Aside0.mk gj
 clear gx gj
 have H : (if (l0.length : Int) = (l1.length : Int) then (laws_sameInts.l0 k l0 l1 0) else (some false)) = some r := h
 clear h
 by_cases c3 : (l0.length : Int) = (l1.length : Int)
 ·rw [if_pos c3] at H
  have ft : ((l0.length : Int) == (l1.length : Int)) = true := beq_iff_eq.mpr c3
  have kn : ((l0.length : Int) != (l1.length : Int)) = false := bne_eq_false_iff_eq.mpr c3
  have vd : (l0.length == l1.length) = true := by first | simpa using c3 | (simp at c3 ⊢; omega)
  clear c3
  have H' := Aside0.mk H
  clear H
  go_enter Try.func45, Try.ntmps45
  go_wp2
  repeat (go_quiet (fail); try go_wp2)
  go_loopg [5] k (fun kq v5 w' => ∃ (bs : Int), v5 = .int .i64 bs ∧ Aside0 (laws_sameInts.l0 kq l0 l1 bs = some r) ∧ Aside0 (kq ≤ k) ∧ Drawn0 w w')
  case atStart => exact ⟨(0), (g2_), H', ⟨Nat.le_refl _⟩, g5_⟩
  case round =>
   clear H'
   try clear c1
   try clear p2
   try clear c3
   try clear ft
   try clear kn
   try clear vd
   obtain ⟨bs, rfl, HA, HK1, ⟨m1, rfl⟩⟩ := hrel
   cases gk with
   | zero => exact absurd HA.out (by simp [laws_sameInts.l0])
   | succ k1 =>
    have H := HA.out
    clear HA
    simp only [laws_sameInts.l0] at H
    by_cases c4 : bs < (l0.length : Int)
    ·rw [if_pos c4] at H
     have i8 := decide_eq_true c4
     clear c4
     obtain ⟨c5, H⟩ := pos_ H
     have ev := decide_eq_true c5
     clear c5
     obtain ⟨c6, H⟩ := pos_ H
     have gu := decide_eq_true c6
     clear c6
     by_cases c7 : (rd l0 bs) = (rd l1 bs)
     ·rw [if_pos c7] at H
      have al0 : ((rd l0 bs) == (rd l1 bs)) = true := beq_iff_eq.mpr c7
      have br8 : ((rd l0 bs) != (rd l1 bs)) = false := bne_eq_false_iff_eq.mpr c7
      clear c7
      have H' := Aside0.mk H
      clear H
      have yf : 0 ≤ (bs : Int) := of_decide_eq_true (g0_)
      have yg : bs < (l0.length : Int) := of_decide_eq_true (g0_)
      obtain ⟨dv0, br9, dv1⟩ := Kd.at_int eg.out bs yf yg
      cases br9
      replace yf := eq_true yf
      replace yg := eq_true yg
      have yh : 0 ≤ (bs : Int) := of_decide_eq_true (g0_)
      have yi : bs < (l1.length : Int) := of_decide_eq_true (g0_)
      obtain ⟨dv2, bs0, dv3⟩ := Kd.at_int eh.out bs yh yi
      cases bs0
      replace yh := eq_true yh
      replace yi := eq_true yi
      go_wp2
      repeat (go_quiet (fail); try go_wp2)
      go_roundg k1
      case measure => have := HK1.out; omega
      case rel => exact ⟨(wrap64 (bs + 1)), (g2_), H', ⟨g9_⟩, g5_⟩
     ·rw [if_neg c7] at H
      have al0 : ((rd l0 bs) == (rd l1 bs)) = false := beq_eq_false_iff_ne.mpr c7
      have br8 : ((rd l0 bs) != (rd l1 bs)) = true := bne_iff_ne.mpr c7
      obtain rfl := Option.some.inj H
      have yf : 0 ≤ (bs : Int) := of_decide_eq_true (g0_)
      have yg : bs < (l0.length : Int) := of_decide_eq_true (g0_)
      obtain ⟨dv0, br9, dv1⟩ := Kd.at_int eg.out bs yf yg
      cases br9
      replace yf := eq_true yf
      replace yg := eq_true yg
      have yh : 0 ≤ (bs : Int) := of_decide_eq_true (g0_)
      have yi : bs < (l1.length : Int) := of_decide_eq_true (g0_)
      obtain ⟨dv2, bs0, dv3⟩ := Kd.at_int eh.out bs yh yi
      cases bs0
      replace yh := eq_true yh
      replace yi := eq_true yi
      go_wp2
      repeat (go_quiet (fail); try go_wp2)
      go_ret
      exact ⟨g2_, g5_⟩
    ·rw [if_neg c4] at H
     have i8 := decide_eq_false c4
     clear c4
     obtain rfl := Option.some.inj H
     go_wp2
     repeat (go_quiet (fail); try go_wp2)
     go_ret
     exact ⟨g2_, g5_⟩
 ·rw [if_neg c3] at H
  have ft : ((l0.length : Int) == (l1.length : Int)) = false := beq_eq_false_iff_ne.mpr c3
  have kn : ((l0.length : Int) != (l1.length : Int)) = true := bne_iff_ne.mpr c3
  have vd : (l0.length == l1.length) = false := by first | simpa using c3 | (simp at c3 ⊢; omega)
  obtain rfl := Option.some.inj H
  go_enter Try.func45, Try.ntmps45
  go_wp2
  repeat (go_quiet (fail); try go_wp2)
  go_ret
  exact ⟨g2_, g5_⟩
def laws_sameRows.l0 : Nat → List (List Int) → List (List Int) → Int → Option (Bool)
 | 0, _, _, _ => none
 | k + 1, x0, x1, x5 => if x5 < (x0.length : Int) then (if 0 ≤ x5 then (if x5 < (x1.length : Int) then ((laws_sameInts.f k (rd_L1 x0 x5) (rd_L1 x1 x5)).bind fun bs1 => (if bs1 = true then (laws_sameRows.l0 k x0 x1 (wrap64 (x5 + 1))) else (some false))) else (none)) else (none)) else (some true)
def laws_sameRows.f (k : Nat) (l0 : List (List Int)) (l1 : List (List Int)) : Option (Bool) := if (l0.length : Int) = (l1.length : Int) then (laws_sameRows.l0 k l0 l1 0) else (some false)
theorem laws_sameRows.mq {p : Prop} (h : p := by
 repeat' first
 | (with_reducible exact ih0 _ _ _)
 | (with_reducible exact laws_sameInts.mono _ _ _)
 | (with_reducible exact LeO.refl _)
 | (with_reducible exact LeO.none _)
 | (with_reducible refine LeO.ite ?_ ?_)
 | (with_reducible refine LeO.bind ?_ (fun _ => ?_))
 | exact ih0 _ _ _
 | exact laws_sameInts.mono _ _ _
 | exact LeO.none _
 | refine LeO.ite ?_ ?_
 | refine LeO.bind ?_ (fun _ => ?_)) : p := h
theorem laws_sameRows.mono_l : ∀ k, (∀ y0 y1 y2, LeO (laws_sameRows.l0 k y0 y1 y2) (laws_sameRows.l0 (k + 1) y0 y1 y2))
 | 0 => fun _ _ _ r h => by simp [laws_sameRows.l0] at h
 | k + 1 => by
  have ih0 := laws_sameRows.mono_l k
  ·intro y0 y1 y2
   unfold laws_sameRows.l0
   exact laws_sameRows.mq
theorem laws_sameRows.mono : ∀ a0 a1 k, LeO (laws_sameRows.f k a0 a1) (laws_sameRows.f (k + 1) a0 a1) := by
 intro a0 a1 k
 have ih0 := laws_sameRows.mono_l k
 unfold laws_sameRows.f
 exact laws_sameRows.mq
set_option maxHeartbeats 8000000 in
set_option maxRecDepth 100000 in
theorem laws_sameRows.calls (k : Nat) (A0 : Option Addr) (c0 : Nat) (l0 : List (List Int)) (A1 : Option Addr) (c1 : Nat) (l1 : List (List Int)) (r : Bool) (w : World) (ct : Kd.C (Kd.slice 3 (Kd.int .i64)) w A0 l0.length l0) (dq : l0.length ≤ c0) (gx : Kd.C (Kd.slice 3 (Kd.int .i64)) w A1 l1.length l1) (gj : l1.length ≤ c1) (h : laws_sameRows.f k l0 l1 = some r) :
  Calls Try.prog 93 #[.slice A0 l0.length c0, .slice A1 l1.length c1] w fun e w' => e = .returned (.bool r) ∧ Drawn0 w w' := by
 have eg := Aside0.mk ct
 have jo := Aside0.mk dq
 clear ct dq
 have eh := Aside0.mk gx
 have HC1 := Aside0.mk gj
 clear gx gj
 have H : (if (l0.length : Int) = (l1.length : Int) then (laws_sameRows.l0 k l0 l1 0) else (some false)) = some r := h
 clear h
 by_cases c3 : (l0.length : Int) = (l1.length : Int)
 ·rw [if_pos c3] at H
  have ft : ((l0.length : Int) == (l1.length : Int)) = true := beq_iff_eq.mpr c3
  have kn : ((l0.length : Int) != (l1.length : Int)) = false := bne_eq_false_iff_eq.mpr c3
  have vd : (l0.length == l1.length) = true := by first | simpa using c3 | (simp at c3 ⊢; omega)
  clear c3
  have H' := Aside0.mk H
  clear H
  go_enter Try.func93, Try.ntmps93
  go_wp2
  repeat (go_quiet (fail); try go_wp2)
  go_loopg [5] k (fun kq v5 w' => ∃ (bs : Int), v5 = .int .i64 bs ∧ Aside0 (laws_sameRows.l0 kq l0 l1 bs = some r) ∧ Aside0 (kq ≤ k) ∧ Drawn0 w w')
  case atStart => exact ⟨(0), (g2_), H', ⟨Nat.le_refl _⟩, g5_⟩
  case round =>
   clear H'
   try clear c1
   try clear p2
   try clear c3
   try clear ft
   try clear kn
   try clear vd
   obtain ⟨bs, rfl, HA, HK1, ⟨m1, rfl⟩⟩ := hrel
   cases gk with
   | zero => exact absurd HA.out (by simp [laws_sameRows.l0])
   | succ k1 =>
    have H := HA.out
    clear HA
    simp only [laws_sameRows.l0] at H
    by_cases c4 : bs < (l0.length : Int)
    ·rw [if_pos c4] at H
     have i8 := decide_eq_true c4
     clear c4
     obtain ⟨c5, H⟩ := pos_ H
     have ev := decide_eq_true c5
     clear c5
     obtain ⟨c6, H⟩ := pos_ H
     have gu := decide_eq_true c6
     clear c6
     obtain ⟨bs1, A7, H⟩ := bind_ H
     by_cases c8 : bs1 = true
     ·subst c8
      replace H := ifp_ H
      have H' := Aside0.mk H
      clear H
      have yj : 0 ≤ (bs : Int) := of_decide_eq_true (g0_)
      have yk : bs < (l0.length : Int) := of_decide_eq_true (g0_)
      obtain ⟨dv4, dv5, dv6, bs2, dv7, al1, al2⟩ := at_L1 eg.out bs yj yk
      cases bs2
      have yl := Aside0.mk al2
      have ym := Aside0.mk al1
      clear al2 al1
      replace yj := eq_true yj
      replace yk := eq_true yk
      have yn : 0 ≤ (bs : Int) := of_decide_eq_true (g0_)
      have yo : bs < (l1.length : Int) := of_decide_eq_true (g0_)
      obtain ⟨dv8, dv9, dw0, bs3, dw1, al3, al4⟩ := at_L1 eh.out bs yn yo
      cases bs3
      have yp := Aside0.mk al4
      have yq := Aside0.mk al3
      clear al4 al3
      replace yn := eq_true yn
      replace yo := eq_true yo
      go_wp2_with (first | (go_at_call 45; (with_reducible refine (laws_sameInts.calls k1 _ _ (rd_L1 l0 bs) _ _ (rd_L1 l1 bs) true _ ?side1 ?side2 ?side3 ?side4 A7.out).mono ?_); (case side1 => repeat (first | exact yl.out | (with_reducible refine Kd.C_alloc ?_ _) | (with_reducible refine Kd.C_drewN ?_ _) | (with_reducible refine Kd.C_drew ?_))); (case side2 => exact ym.out); (case side3 => repeat (first | exact yp.out | (with_reducible refine Kd.C_alloc ?_ _) | (with_reducible refine Kd.C_drewN ?_ _) | (with_reducible refine Kd.C_drew ?_))); (case side4 => exact yq.out); rintro e w' ⟨rfl, ⟨nd, rfl⟩⟩; (try first | exact ⟨rfl, _, World.drewN_drewN _ _ _⟩ | exact ⟨rfl, _, Eq.trans (World.drewN_drewN _ _ _) (congrArg (World.drewN _) (Nat.add_assoc _ _ _))⟩)))
      repeat (go_quiet (first | (go_at_call 45; (with_reducible refine (laws_sameInts.calls k1 _ _ (rd_L1 l0 bs) _ _ (rd_L1 l1 bs) true _ ?side1 ?side2 ?side3 ?side4 A7.out).mono ?_); (case side1 => repeat (first | exact yl.out | (with_reducible refine Kd.C_alloc ?_ _) | (with_reducible refine Kd.C_drewN ?_ _) | (with_reducible refine Kd.C_drew ?_))); (case side2 => exact ym.out); (case side3 => repeat (first | exact yp.out | (with_reducible refine Kd.C_alloc ?_ _) | (with_reducible refine Kd.C_drewN ?_ _) | (with_reducible refine Kd.C_drew ?_))); (case side4 => exact yq.out); rintro e w' ⟨rfl, ⟨nd, rfl⟩⟩; (try first | exact ⟨rfl, _, World.drewN_drewN _ _ _⟩ | exact ⟨rfl, _, Eq.trans (World.drewN_drewN _ _ _) (congrArg (World.drewN _) (Nat.add_assoc _ _ _))⟩))); try go_wp2_with (first | (go_at_call 45; (with_reducible refine (laws_sameInts.calls k1 _ _ (rd_L1 l0 bs) _ _ (rd_L1 l1 bs) true _ ?side1 ?side2 ?side3 ?side4 A7.out).mono ?_); (case side1 => repeat (first | exact yl.out | (with_reducible refine Kd.C_alloc ?_ _) | (with_reducible refine Kd.C_drewN ?_ _) | (with_reducible refine Kd.C_drew ?_))); (case side2 => exact ym.out); (case side3 => repeat (first | exact yp.out | (with_reducible refine Kd.C_alloc ?_ _) | (with_reducible refine Kd.C_drewN ?_ _) | (with_reducible refine Kd.C_drew ?_))); (case side4 => exact yq.out); rintro e w' ⟨rfl, ⟨nd, rfl⟩⟩; (try first | exact ⟨rfl, _, World.drewN_drewN _ _ _⟩ | exact ⟨rfl, _, Eq.trans (World.drewN_drewN _ _ _) (congrArg (World.drewN _) (Nat.add_assoc _ _ _))⟩))))
      go_roundg k1
      case measure => have := HK1.out; omega
      case rel => exact ⟨(wrap64 (bs + 1)), (g2_), H', ⟨g9_⟩, g5_⟩
     ·replace c8 := Bool.eq_false_iff.mpr c8
      subst c8
      replace H := ifn_ H
      obtain rfl := Option.some.inj H
      have yj : 0 ≤ (bs : Int) := of_decide_eq_true (g0_)
      have yk : bs < (l0.length : Int) := of_decide_eq_true (g0_)
      obtain ⟨dv4, dv5, dv6, bs2, dv7, al1, al2⟩ := at_L1 eg.out bs yj yk
      cases bs2
      have yl := Aside0.mk al2
      have ym := Aside0.mk al1
      clear al2 al1
      replace yj := eq_true yj
      replace yk := eq_true yk
      have yn : 0 ≤ (bs : Int) := of_decide_eq_true (g0_)
      have yo : bs < (l1.length : Int) := of_decide_eq_true (g0_)
      obtain ⟨dv8, dv9, dw0, bs3, dw1, al3, al4⟩ := at_L1 eh.out bs yn yo
      cases bs3
      have yp := Aside0.mk al4
      have yq := Aside0.mk al3
      clear al4 al3
      replace yn := eq_true yn
      replace yo := eq_true yo
      go_wp2_with (first | (go_at_call 45; (with_reducible refine (laws_sameInts.calls k1 _ _ (rd_L1 l0 bs) _ _ (rd_L1 l1 bs) false _ ?side1 ?side2 ?side3 ?side4 A7.out).mono ?_); (case side1 => repeat (first | exact yl.out | (with_reducible refine Kd.C_alloc ?_ _) | (with_reducible refine Kd.C_drewN ?_ _) | (with_reducible refine Kd.C_drew ?_))); (case side2 => exact ym.out); (case side3 => repeat (first | exact yp.out | (with_reducible refine Kd.C_alloc ?_ _) | (with_reducible refine Kd.C_drewN ?_ _) | (with_reducible refine Kd.C_drew ?_))); (case side4 => exact yq.out); rintro e w' ⟨rfl, ⟨nd, rfl⟩⟩; (try first | exact ⟨rfl, _, World.drewN_drewN _ _ _⟩ | exact ⟨rfl, _, Eq.trans (World.drewN_drewN _ _ _) (congrArg (World.drewN _) (Nat.add_assoc _ _ _))⟩)))
      repeat (go_quiet (first | (go_at_call 45; (with_reducible refine (laws_sameInts.calls k1 _ _ (rd_L1 l0 bs) _ _ (rd_L1 l1 bs) false _ ?side1 ?side2 ?side3 ?side4 A7.out).mono ?_); (case side1 => repeat (first | exact yl.out | (with_reducible refine Kd.C_alloc ?_ _) | (with_reducible refine Kd.C_drewN ?_ _) | (with_reducible refine Kd.C_drew ?_))); (case side2 => exact ym.out); (case side3 => repeat (first | exact yp.out | (with_reducible refine Kd.C_alloc ?_ _) | (with_reducible refine Kd.C_drewN ?_ _) | (with_reducible refine Kd.C_drew ?_))); (case side4 => exact yq.out); rintro e w' ⟨rfl, ⟨nd, rfl⟩⟩; (try first | exact ⟨rfl, _, World.drewN_drewN _ _ _⟩ | exact ⟨rfl, _, Eq.trans (World.drewN_drewN _ _ _) (congrArg (World.drewN _) (Nat.add_assoc _ _ _))⟩))); try go_wp2_with (first | (go_at_call 45; (with_reducible refine (laws_sameInts.calls k1 _ _ (rd_L1 l0 bs) _ _ (rd_L1 l1 bs) false _ ?side1 ?side2 ?side3 ?side4 A7.out).mono ?_); (case side1 => repeat (first | exact yl.out | (with_reducible refine Kd.C_alloc ?_ _) | (with_reducible refine Kd.C_drewN ?_ _) | (with_reducible refine Kd.C_drew ?_))); (case side2 => exact ym.out); (case side3 => repeat (first | exact yp.out | (with_reducible refine Kd.C_alloc ?_ _) | (with_reducible refine Kd.C_drewN ?_ _) | (with_reducible refine Kd.C_drew ?_))); (case side4 => exact yq.out); rintro e w' ⟨rfl, ⟨nd, rfl⟩⟩; (try first | exact ⟨rfl, _, World.drewN_drewN _ _ _⟩ | exact ⟨rfl, _, Eq.trans (World.drewN_drewN _ _ _) (congrArg (World.drewN _) (Nat.add_assoc _ _ _))⟩))))
      go_ret
      exact ⟨g2_, g5_⟩
    ·rw [if_neg c4] at H
     have i8 := decide_eq_false c4
     clear c4
     obtain rfl := Option.some.inj H
     go_wp2
     repeat (go_quiet (fail); try go_wp2)
     go_ret
     exact ⟨g2_, g5_⟩
 ·rw [if_neg c3] at H
  have ft : ((l0.length : Int) == (l1.length : Int)) = false := beq_eq_false_iff_ne.mpr c3
  have kn : ((l0.length : Int) != (l1.length : Int)) = true := bne_iff_ne.mpr c3
  have vd : (l0.length == l1.length) = false := by first | simpa using c3 | (simp at c3 ⊢; omega)
  obtain rfl := Option.some.inj H
  go_enter Try.func93, Try.ntmps93
  go_wp2
  repeat (go_quiet (fail); try go_wp2)
  go_ret
  exact ⟨g2_, g5_⟩
def laws_sameBook.f (k : Nat) (ab : List Int) (aa : List (List Int)) (m6 : List Int) (p9 : List (List Int)) : Option (Bool) := (laws_sameInts.f k ab m6).bind fun al5 => (if al5 = true then ((laws_sameRows.f k aa p9).bind fun al6 => (some al6)) else (some false))
theorem laws_sameBook.mq {p : Prop} (h : p := by
 repeat' first
 | (with_reducible exact laws_sameInts.mono _ _ _)
 | (with_reducible exact laws_sameRows.mono _ _ _)
 | (with_reducible exact LeO.refl _)
 | (with_reducible exact LeO.none _)
 | (with_reducible refine LeO.ite ?_ ?_)
 | (with_reducible refine LeO.bind ?_ (fun _ => ?_))
 | exact laws_sameInts.mono _ _ _
 | exact laws_sameRows.mono _ _ _
 | exact LeO.none _
 | refine LeO.ite ?_ ?_
 | refine LeO.bind ?_ (fun _ => ?_)) : p := h
theorem laws_sameBook.mono : ∀ a0 a1 a2 a3 k, LeO (laws_sameBook.f k a0 a1 a2 a3) (laws_sameBook.f (k + 1) a0 a1 a2 a3) := by
 intro a0 a1 a2 a3 k
 unfold laws_sameBook.f
 exact laws_sameBook.mq
theorem u6 {p : Prop} (h : p := by repeat (first | (with_reducible first | exact HB.out | apply below_alloc | apply pw_below_drewN | apply below_drew1 | refine below_set ?_ cp0.out | refine below_set ?_ cp1.out) | exact HB.out)) : p := h
set_option maxHeartbeats 8000000 in
set_option maxRecDepth 100000 in
theorem laws_sameBook.calls (k : Nat) (af : Option Addr) (ae : Nat) (ab : List Int) (ah : Option Addr) (ag : Nat) (aa : List (List Int)) (ad3 : Option Addr) (ad4 : Nat) (m6 : List Int) (bb0 : Option Addr) (bb1 : Nat) (p9 : List (List Int)) (r : Bool) (w : World) (cg : Kd.C (Kd.int .i64) w af ab.length ab) (ck : ab.length ≤ ae) (ch : Kd.C (Kd.slice 3 (Kd.int .i64)) w ah aa.length aa) (cl : aa.length ≤ ag) (cp2 : Kd.C (Kd.int .i64) w ad3 m6.length m6) (cp3 : m6.length ≤ ad4) (cp4 : Kd.C (Kd.slice 3 (Kd.int .i64)) w bb0 p9.length p9) (cp5 : p9.length ≤ bb1) (h : laws_sameBook.f k ab aa m6 p9 = some r) :
  Calls Try.prog 40 #[.agg #[.slice af ab.length ae, .slice ah aa.length ag], .agg #[.slice ad3 m6.length ad4, .slice bb0 p9.length bb1]] w fun e w' => e = .returned (.bool r) ∧ Below w.heap.size w w' := by
 have hu25 := Try.underlying25
 have b7 := Aside0.mk cg
 have cn := Aside0.mk ck
 clear cg ck
 have bz := Aside0.mk ch
 have cr := Aside0.mk cl
 clear ch cl
 have cp6 := Aside0.mk cp2
 have cp7 := Aside0.mk cp3
 clear cp2 cp3
 have dw2 := Aside0.mk cp4
 have dw3 := Aside0.mk cp5
 clear cp4 cp5
 have HB := Aside0.mk (Below.refl w.heap.size w)
 have H : ((laws_sameInts.f k ab m6).bind fun al5 => (if al5 = true then ((laws_sameRows.f k aa p9).bind fun al6 => (some al6)) else (some false))) = some r := h
 clear h
 obtain ⟨al5, A3, H⟩ := bind_ H
 by_cases c4 : al5 = true
 ·subst c4
  replace H := ifp_ H
  obtain ⟨al6, A5, H⟩ := bind_ H
  obtain rfl := Option.some.inj H
  go_enter Try.func40, Try.ntmps40
  go_wp2_with (first | ((with_reducible refine gate_dst (N := 2) rfl ?_); refine bx_ (N := 2) #[.slice af ab.length ae, .slice ah aa.length ag] 25 ?_; intro n6 hg w6 hbox hb; have qa := Aside0.mk (hbox); have dw4 := Aside0.mk ((g25_ : w.heap.size ≤ n6)); have cp0 := Aside0.mk ((g25_ : w.heap.size ≤ n6)); replace HB := Aside0.mk (below_step (u6) hb); clear hb hbox hg) | ((with_reducible refine gate_dst (N := 3) rfl ?_); refine bx_ (N := 3) #[.slice ad3 m6.length ad4, .slice bb0 p9.length bb1] 25 ?_; intro td hg w7 hbox hb; have bs4 := Aside0.mk (hbox); have dw5 := Aside0.mk ((g25_ : w.heap.size ≤ td)); have cp1 := Aside0.mk ((g25_ : w.heap.size ≤ td)); replace HB := Aside0.mk (below_step (u6) hb); have bs5 := Aside0.mk ((by rw [hg]; exact Nat.ne_of_lt (blk_lt (g := n6) (o := .cells #[.slice af ab.length ae, .slice ah aa.length ag] 25 (0, 0)) (uf0_ qa)) : n6 ≠ td)); have bs6 := Aside0.mk ((by rw [hg]; exact Nat.ne_of_gt (blk_lt (g := n6) (o := .cells #[.slice af ab.length ae, .slice ah aa.length ag] 25 (0, 0)) (uf0_ qa)) : td ≠ n6)); replace qa := bb_ qa hb; clear hb hbox hg; have dw6 := bs5.out; have dw7 := bs6.out; obtain ⟨aj4, aj5, aj6, aj7⟩ := blk2_ qa; obtain ⟨m7, m8, m9, na⟩ := blk2_ bs4) | ((with_reducible refine gate_callee (f := 45) rfl ?_); refine goesL_ (some 9) rfl rfl Try.func45 k_ rfl #[.slice af ab.length ae, .slice ad3 m6.length ad4] rfl (g3_) ?_; (with_reducible refine (laws_sameInts.calls k _ _ ab _ _ m6 true _ ?side1 ?side2 ?side3 ?side4 A3.out).mono ?_); (case side1 => exact uf2_ b7); (case side2 => exact cn.out); (case side3 => exact uf2_ cp6); (case side4 => exact cp7.out); rintro e w' ⟨rfl, ⟨nd, rfl⟩⟩; refine ⟨_, rfl, ?_⟩) | (go_at_call 93; (with_reducible refine (laws_sameRows.calls k _ _ aa _ _ p9 al6 _ ?side1 ?side2 ?side3 ?side4 A5.out).mono ?_); (case side1 => repeat (first | exact (Kd.C_below bz.out (u6)) | (with_reducible refine Kd.C_alloc ?_ _) | (with_reducible refine Kd.C_drewN ?_ _) | (with_reducible refine Kd.C_drew ?_))); (case side2 => exact cr.out); (case side3 => repeat (first | exact (Kd.C_below dw2.out (u6)) | (with_reducible refine Kd.C_alloc ?_ _) | (with_reducible refine Kd.C_drewN ?_ _) | (with_reducible refine Kd.C_drew ?_))); (case side4 => exact dw3.out); rintro e w' ⟨rfl, ⟨nd, rfl⟩⟩))
  go_ret
  exact ⟨g4_, u6⟩
 ·replace c4 := Bool.eq_false_iff.mpr c4
  subst c4
  replace H := ifn_ H
  obtain rfl := Option.some.inj H
  go_enter Try.func40, Try.ntmps40
  go_wp2_with (first | ((with_reducible refine gate_dst (N := 2) rfl ?_); refine bx_ (N := 2) #[.slice af ab.length ae, .slice ah aa.length ag] 25 ?_; intro n6 hg w11 hbox hb; have qa := Aside0.mk (hbox); have dw4 := Aside0.mk ((g25_ : w.heap.size ≤ n6)); have cp0 := Aside0.mk ((g25_ : w.heap.size ≤ n6)); replace HB := Aside0.mk (below_step (u6) hb); clear hb hbox hg) | ((with_reducible refine gate_dst (N := 3) rfl ?_); refine bx_ (N := 3) #[.slice ad3 m6.length ad4, .slice bb0 p9.length bb1] 25 ?_; intro td hg o4 hbox hb; have bs4 := Aside0.mk (hbox); have dw5 := Aside0.mk ((g25_ : w.heap.size ≤ td)); have cp1 := Aside0.mk ((g25_ : w.heap.size ≤ td)); replace HB := Aside0.mk (below_step (u6) hb); have bs5 := Aside0.mk ((by rw [hg]; exact Nat.ne_of_lt (blk_lt (g := n6) (o := .cells #[.slice af ab.length ae, .slice ah aa.length ag] 25 (0, 0)) (uf0_ qa)) : n6 ≠ td)); have bs6 := Aside0.mk ((by rw [hg]; exact Nat.ne_of_gt (blk_lt (g := n6) (o := .cells #[.slice af ab.length ae, .slice ah aa.length ag] 25 (0, 0)) (uf0_ qa)) : td ≠ n6)); replace qa := bb_ qa hb; clear hb hbox hg; have bb2 := bs5.out; have bb3 := bs6.out; obtain ⟨ad5, ad6, ad7, ad8⟩ := blk2_ qa; obtain ⟨yb, yc, yd, ye⟩ := blk2_ bs4) | ((with_reducible refine gate_callee (f := 45) rfl ?_); refine goesL_ (some 9) rfl rfl Try.func45 k_ rfl #[.slice af ab.length ae, .slice ad3 m6.length ad4] rfl (g3_) ?_; (with_reducible refine (laws_sameInts.calls k _ _ ab _ _ m6 false _ ?side1 ?side2 ?side3 ?side4 A3.out).mono ?_); (case side1 => exact uf2_ b7); (case side2 => exact cn.out); (case side3 => exact uf2_ cp6); (case side4 => exact cp7.out); rintro e w' ⟨rfl, ⟨nd, rfl⟩⟩; refine ⟨_, rfl, ?_⟩))
  go_ret
  exact ⟨g4_, u6⟩
def laws_noBook.f (k : Nat) (ab : List Int) (aa : List (List Int)) : Option (Bool) := (laws_sameBook.f k ab aa ([] : List Int) ([] : List (List Int))).bind fun al7 => (some al7)
theorem laws_noBook.mq {p : Prop} (h : p := by
 repeat' first
 | (with_reducible exact laws_sameBook.mono _ _ _ _ _)
 | (with_reducible exact LeO.refl _)
 | (with_reducible exact LeO.none _)
 | (with_reducible refine LeO.ite ?_ ?_)
 | (with_reducible refine LeO.bind ?_ (fun _ => ?_))
 | exact laws_sameBook.mono _ _ _ _ _
 | exact LeO.none _
 | refine LeO.ite ?_ ?_
 | refine LeO.bind ?_ (fun _ => ?_)) : p := h
theorem laws_noBook.mono : ∀ a0 a1 k, LeO (laws_noBook.f k a0 a1) (laws_noBook.f (k + 1) a0 a1) := by
 intro a0 a1 k
 unfold laws_noBook.f
 exact laws_noBook.mq
theorem az5 {p : Prop} (h : p := by repeat (first | (with_reducible first | exact HB.out | apply below_alloc | apply pw_below_drewN | apply below_drew1 | refine below_set ?_ dw8.out) | exact HB.out)) : p := h
set_option maxHeartbeats 8000000 in
set_option maxRecDepth 100000 in
theorem laws_noBook.calls (k : Nat) (af : Option Addr) (ae : Nat) (ab : List Int) (ah : Option Addr) (ag : Nat) (aa : List (List Int)) (r : Bool) (w : World) (cg : Kd.C (Kd.int .i64) w af ab.length ab) (ck : ab.length ≤ ae) (ch : Kd.C (Kd.slice 3 (Kd.int .i64)) w ah aa.length aa) (cl : aa.length ≤ ag) (h : laws_noBook.f k ab aa = some r) :
  Calls Try.prog 43 #[.agg #[.slice af ab.length ae, .slice ah aa.length ag]] w fun e w' => e = .returned (.bool r) ∧ Below w.heap.size w w' := by
 have hu25 := Try.underlying25
 have b7 := Aside0.mk cg
 have cn := Aside0.mk ck
 clear cg ck
 have bz := Aside0.mk ch
 have cr := Aside0.mk cl
 clear ch cl
 have HB := Aside0.mk (Below.refl w.heap.size w)
 have H : ((laws_sameBook.f k ab aa ([] : List Int) ([] : List (List Int))).bind fun al7 => (some al7)) = some r := h
 clear h
 obtain ⟨al7, A2, H⟩ := bind_ H
 obtain rfl := Option.some.inj H
 go_enter Try.func43, Try.ntmps43
 go_wp2_with (first | ((with_reducible refine gate_dst (N := 1) rfl ?_); refine bx_ (N := 1) #[.slice af ab.length ae, .slice ah aa.length ag] 25 ?_; intro cp8 hg w3 hbox hb; have bs7 := Aside0.mk (hbox); have fi4 := Aside0.mk ((by rw [hg]; exact (below_size (az5)) : w.heap.size ≤ cp8)); have dw8 := Aside0.mk ((by rw [hg]; exact (below_size (az5)) : w.heap.size ≤ cp8)); replace HB := Aside0.mk (below_step (az5) hb); clear hb hbox hg; obtain ⟨s7, s8, xl, s9⟩ := blk2_ bs7) | ((with_reducible refine gate_callee (f := 40) rfl ?_); refine goesL_ (some 5) rfl rfl Try.func40 k_ rfl #[.agg #[.slice af ab.length ae, .slice ah aa.length ag], .agg #[.slice none 0 0, .slice none 0 0]] rfl (g3_) ?_; (refine (laws_sameBook.calls k _ _ ab _ _ aa _ _ ([] : List Int) _ _ ([] : List (List Int)) al7 _ ?side1 ?side2 ?side3 ?side4 ?side5 ?side6 ?side7 ?side8 A2.out).mono ?_); (case side1 => exact uf2_ b7); (case side2 => exact cn.out); (case side3 => exact uf2_ bz); (case side4 => exact cr.out); (case side5 => exact Kd.C_nil _ _); (case side6 => exact Nat.le_refl _); (case side7 => exact Kd.C_nil _ _); (case side8 => exact Nat.le_refl _); rintro e w5 ⟨rfl, hb⟩; refine ⟨_, rfl, ?_⟩; replace bs7 := bb_ bs7 hb; replace HB := Aside0.mk (below_step (az5) hb); (try clear hb); (try clear hk hi)))
 go_ret
 exact ⟨g4_, az5⟩
def impl_BookOk.f (k : Nat) (ab : List Int) (aa : List (List Int)) : Option (Bool) := (impl_isBook.f k ab aa).bind fun al8 => (some al8)
theorem impl_BookOk.mq {p : Prop} (h : p := by
 repeat' first
 | (with_reducible exact impl_isBook.mono _ _ _)
 | (with_reducible exact LeO.refl _)
 | (with_reducible exact LeO.none _)
 | (with_reducible refine LeO.ite ?_ ?_)
 | (with_reducible refine LeO.bind ?_ (fun _ => ?_))
 | exact impl_isBook.mono _ _ _
 | exact LeO.none _
 | refine LeO.ite ?_ ?_
 | refine LeO.bind ?_ (fun _ => ?_)) : p := h
theorem impl_BookOk.mono : ∀ a0 a1 k, LeO (impl_BookOk.f k a0 a1) (impl_BookOk.f (k + 1) a0 a1) := by
 intro a0 a1 k
 unfold impl_BookOk.f
 exact impl_BookOk.mq
theorem az6 {p : Prop} (h : p := by repeat (first | (with_reducible first | exact HB.out | apply below_alloc | apply pw_below_drewN | apply below_drew1 | refine below_set ?_ dw9.out) | exact HB.out)) : p := h
set_option maxHeartbeats 8000000 in
set_option maxRecDepth 100000 in
theorem impl_BookOk.calls (k : Nat) (af : Option Addr) (ae : Nat) (ab : List Int) (ah : Option Addr) (ag : Nat) (aa : List (List Int)) (r : Bool) (w : World) (cg : Kd.C (Kd.int .i64) w af ab.length ab) (ck : ab.length ≤ ae) (ch : Kd.C (Kd.slice 3 (Kd.int .i64)) w ah aa.length aa) (cl : aa.length ≤ ag) (h : impl_BookOk.f k ab aa = some r) :
  Calls Try.prog 44 #[.agg #[.slice af ab.length ae, .slice ah aa.length ag]] w fun e w' => e = .returned (.bool r) ∧ Below w.heap.size w w' := by
 have hu25 := Try.underlying25
 have b7 := Aside0.mk cg
 have cn := Aside0.mk ck
 clear cg ck
 have bz := Aside0.mk ch
 have cr := Aside0.mk cl
 clear ch cl
 have HB := Aside0.mk (Below.refl w.heap.size w)
 have H : ((impl_isBook.f k ab aa).bind fun al8 => (some al8)) = some r := h
 clear h
 obtain ⟨al8, A2, H⟩ := bind_ H
 obtain rfl := Option.some.inj H
 go_enter Try.func44, Try.ntmps44
 go_wp2_with (first | ((with_reducible refine gate_dst (N := 1) rfl ?_); refine bx_ (N := 1) #[.slice af ab.length ae, .slice ah aa.length ag] 25 ?_; intro cp9 hg w3 hbox hb; have bs8 := Aside0.mk (hbox); have fi5 := Aside0.mk ((by rw [hg]; exact (below_size (az6)) : w.heap.size ≤ cp9)); have dw9 := Aside0.mk ((by rw [hg]; exact (below_size (az6)) : w.heap.size ≤ cp9)); replace HB := Aside0.mk (below_step (az6) hb); clear hb hbox hg; obtain ⟨s7, s8, xl, s9⟩ := blk2_ bs8) | ((with_reducible refine gate_callee (f := 73) rfl ?_); refine goesL_ (some 4) rfl rfl Try.func73 k_ rfl #[.agg #[.slice af ab.length ae, .slice ah aa.length ag]] rfl (g3_) ?_; (with_reducible refine (impl_isBook.calls k _ _ ab _ _ aa al8 _ ?side1 ?side2 ?side3 ?side4 A2.out).mono ?_); (case side1 => exact uf2_ b7); (case side2 => exact cn.out); (case side3 => exact uf2_ bz); (case side4 => exact cr.out); rintro e w5 ⟨rfl, hb⟩; refine ⟨_, rfl, ?_⟩; replace bs8 := bb_ bs8 hb; replace HB := Aside0.mk (below_step (az6) hb); (try clear hb); (try clear hk hi)))
 go_ret
 exact ⟨g4_, az6⟩
mutual
def impl_owed.l0 : Nat → List Int → List (List Int) → Int → Int → Option (List Int)
 | 0, _, _, _, _ => none
 | k + 1, x3, gi, ir, et => if et < ir then (if 0 ≤ et then (if et < (gi.length : Int) then (impl_owed.l1 k x3 gi ir et (rd_L1 gi et) ((rd_L1 gi et).length : Int) 0) else (none)) else (none)) else (some x3)
def impl_owed.l1 : Nat → List Int → List (List Int) → Int → Int → List Int → Int → Int → Option (List Int)
 | 0, _, _, _, _, _, _, _ => none
 | k + 1, x3, gi, ir, et, x19, x20, pz => if pz < x20 then (if 0 ≤ pz then (if pz < (x19.length : Int) then (if pz < (x3.length : Int) then (impl_owed.l1 k (x3.set (pz : Int).toNat (wrap64 ((rd x3 pz) + (rd x19 pz)))) gi ir et x19 x20 (wrap64 (pz + 1))) else (none)) else (none)) else (none)) else (impl_owed.l0 k x3 gi ir (wrap64 (et + 1)))
end
def impl_owed.f (k : Nat) (ab : List Int) (aa : List (List Int)) : Option (List Int) := if 0 ≤ (ab.length : Int) then (if ((ab.length : Int) : Int).toNat ≤ 35184372088832 then (impl_owed.l0 k (List.replicate ((ab.length : Int) : Int).toNat 0) aa (aa.length : Int) 0) else (none)) else (none)
theorem impl_owed.mq {p : Prop} (h : p := by
 repeat' first
 | (with_reducible exact ih0 _ _ _ _)
 | (with_reducible exact ih1 _ _ _ _ _ _ _)
 | (with_reducible exact LeO.refl _)
 | (with_reducible exact LeO.none _)
 | (with_reducible refine LeO.ite ?_ ?_)
 | (with_reducible refine LeO.bind ?_ (fun _ => ?_))
 | exact ih0 _ _ _ _
 | exact ih1 _ _ _ _ _ _ _
 | exact LeO.none _
 | refine LeO.ite ?_ ?_
 | refine LeO.bind ?_ (fun _ => ?_)) : p := h
theorem impl_owed.mono_l : ∀ k, (∀ y0 y1 y2 y3, LeO (impl_owed.l0 k y0 y1 y2 y3) (impl_owed.l0 (k + 1) y0 y1 y2 y3)) ∧ (∀ y0 y1 y2 y3 y4 y5 y6, LeO (impl_owed.l1 k y0 y1 y2 y3 y4 y5 y6) (impl_owed.l1 (k + 1) y0 y1 y2 y3 y4 y5 y6))
 | 0 => ⟨fun _ _ _ _ r h => by simp [impl_owed.l0] at h, fun _ _ _ _ _ _ _ r h => by simp [impl_owed.l1] at h⟩
 | k + 1 => by
  obtain ⟨ih0, ih1⟩ := impl_owed.mono_l k
  refine ⟨?_, ?_⟩
  ·intro y0 y1 y2 y3
   unfold impl_owed.l0
   exact impl_owed.mq
  ·intro y0 y1 y2 y3 y4 y5 y6
   unfold impl_owed.l1
   exact impl_owed.mq
theorem impl_owed.mono : ∀ a0 a1 k, LeO (impl_owed.f k a0 a1) (impl_owed.f (k + 1) a0 a1) := by
 intro a0 a1 k
 obtain ⟨ih0, ih1⟩ := impl_owed.mono_l k
 unfold impl_owed.f
 exact impl_owed.mq
theorem su {p : Prop} (h : p := by repeat (first | (with_reducible first | exact HB.out | apply below_alloc | apply pw_below_drewN | apply below_drew1 | refine below_set ?_ dx0.out) | exact HB.out)) : p := h
set_option maxHeartbeats 8000000 in
set_option maxRecDepth 100000 in
theorem impl_owed.calls (k : Nat) (af : Option Addr) (ae : Nat) (ab : List Int) (ah : Option Addr) (ag : Nat) (aa : List (List Int)) (r : List Int) (w : World) (cg : Kd.C (Kd.int .i64) w af ab.length ab) (ck : ab.length ≤ ae) (ch : Kd.C (Kd.slice 3 (Kd.int .i64)) w ah aa.length aa) (cl : aa.length ≤ ag) (h : impl_owed.f k ab aa = some r) :
  Calls Try.prog 112 #[.agg #[.slice af ab.length ae, .slice ah aa.length ag]] w fun e w' => ∃ v0_ : Value, e = .returned (v0_) ∧ Kd.R (Kd.int .i64) 3 w' w.heap.size (fun _ => True) v0_ r ∧ Below w.heap.size w w' := by
 have hu25 := Try.underlying25
 have b7 := Aside0.mk cg
 have cn := Aside0.mk ck
 clear cg ck
 have bz := Aside0.mk ch
 have cr := Aside0.mk cl
 clear ch cl
 have HB := Aside0.mk (Below.refl w.heap.size w)
 have H : (if 0 ≤ (ab.length : Int) then (if ((ab.length : Int) : Int).toNat ≤ 35184372088832 then (impl_owed.l0 k (List.replicate ((ab.length : Int) : Int).toNat 0) aa (aa.length : Int) 0) else (none)) else (none)) = some r := h
 clear h
 obtain ⟨c2, H⟩ := pos_ H
 have iu := eq_true c2
 have km := decide_eq_true c2
 clear c2
 obtain ⟨c3, H⟩ := pos_ H
 have ft := eq_true c3
 have kn := decide_eq_true c3
 clear c3
 obtain ⟨cq0, hy150⟩ : ∃ y_ : List Int, y_ = (List.replicate ((ab.length : Int) : Int).toNat 0) := ⟨_, rfl⟩
 replace H : (impl_owed.l0 k cq0 aa (aa.length : Int) 0) = some r := by first | (rw [hy150]; with_reducible exact H) | (have H2_ := (Option.bind_some _ _).symm.trans H; rw [hy150]; with_reducible exact H2_) | (have H2_ := (Option.bind_some _ _).symm.trans H; with_reducible exact H2_) | with_reducible exact H | (rw [hy150]; exact H) | exact H
 have cq1 := Aside0.mk hy150
 clear hy150
 have H' := Aside0.mk H
 clear H
 go_enter Try.func112, Try.ntmps112
 go_wp2_with (first | ((with_reducible refine gate_dst (N := 1) rfl ?_); refine bx_ (N := 1) #[.slice af ab.length ae, .slice ah aa.length ag] 25 ?_; intro am0 hg w4 hbox hb; have n7 := Aside0.mk (hbox); have fi6 := Aside0.mk ((by rw [hg]; exact (below_size (su)) : w.heap.size ≤ am0)); have dx0 := Aside0.mk ((by rw [hg]; exact (below_size (su)) : w.heap.size ≤ am0)); replace HB := Aside0.mk (below_step (su) hb); clear hb hbox hg; obtain ⟨xx, xy, xz, ya⟩ := blk2_ n7) | ((with_reducible refine gate_dst (N := 11) rfl ?_); refine Kd.R_make (Kd.int .i64) _ 3 rfl (N := 11) rfl 22 _ _ rfl (ab.length : Int) rfl rfl Try.underlying22 (.int .i64 0) 8 info3 rfl (by decide) (by omega) 0 (ok := fun _ => True) (okp := fun _ => True) rfl (fun _ hk => hk) trivial (of_decide_eq_true (g0_)) (Nat.le_trans (Nat.mul_le_mul_right _ (of_decide_eq_true (g0_) : (ab.length : Int).toNat ≤ 35184372088832)) (by omega)) (Below.refl _ _) (Nat.le_refl _) ?_; intro cq2 w6 p0 hb hg_ hnew_; clear hg_ hnew_; (first | rw [← cq1.out] at p0 | (simp only [Int.reduceToNat] at p0; rw [← cq1.out] at p0)); have dx1 := Aside0.mk (Kd.R_lower p0 (below_size (su))); replace n7 := bb_ n7 hb; replace HB := Aside0.mk (below_step (su) hb); clear hb p0; obtain ⟨ko, kr, ks, kt⟩ := blk2_ n7))
 go_loopg [15] k (fun kq v15 w' => ∃ (dy : List Int) (b8 : Int), v15 = .int .i64 b8 ∧ Aside0 (impl_owed.l0 kq dy aa (aa.length : Int) b8 = some r) ∧ Aside0 (kq ≤ k) ∧ Aside0 (Kd.R (Kd.int .i64) 3 w' w.heap.size (fun _ => True) cq2 dy) ∧ Aside0 (w'.heap[am0]? = some (.cells #[(.slice af ab.length ae), (.slice ah aa.length ag)] 25 (0, 0))) ∧ Aside0 (Below w.heap.size w w'))
 case atStart => exact ⟨(cq0), (0), (g2_), H', ⟨Nat.le_refl _⟩, ⟨uf1_ dx1⟩, ⟨uf0_ n7⟩, ⟨su⟩⟩
 case round =>
  clear H'
  try clear c1
  try clear c2
  try clear iu
  try clear km
  try clear p2
  try clear c3
  try clear ft
  try clear kn
  try clear xx
  try clear xy
  try clear ko
  try clear kr
  try clear xz
  try clear ya
  try clear ks
  try clear kt
  obtain ⟨dy, b8, rfl, HA, HK1, ap, n7, HB⟩ := hrel
  cases gk with
  | zero => exact absurd HA.out (by simp [impl_owed.l0])
  | succ k1 =>
   have H := HA.out
   clear HA
   simp only [impl_owed.l0] at H
   by_cases c9 : b8 < (aa.length : Int)
   ·rw [if_pos c9] at H
    have p7 := decide_eq_true c9
    clear c9
    obtain ⟨db, H⟩ := pos_ H
    have ia := decide_eq_true db
    clear db
    obtain ⟨d5, H⟩ := pos_ H
    have mb := decide_eq_true d5
    clear d5
    have H' := Aside0.mk H
    clear H
    have bb5 : 0 ≤ (b8 : Int) := of_decide_eq_true (g0_)
    have bb6 : b8 < (aa.length : Int) := of_decide_eq_true (g0_)
    obtain ⟨cq3, fi7, fi8, dx2, bs9, cq4, cq5⟩ := at_L1 bz.out b8 bb5 bb6
    cases dx2
    replace bs9 := cl_ HB bs9
    have dx3 := Aside0.mk cq5
    have fi9 := Aside0.mk cq4
    clear cq5 cq4
    replace bb5 := eq_true bb5
    replace bb6 := eq_true bb6
    go_wp2
    go_loopg [21] k1 (fun kq v21 w' => ∃ (bl : List Int) (gy : Int), v21 = .int .i64 gy ∧ Aside0 (impl_owed.l1 kq bl aa (aa.length : Int) b8 (rd_L1 aa b8) ((rd_L1 aa b8).length : Int) gy = some r) ∧ Aside0 (kq ≤ k1) ∧ Aside0 (Kd.R (Kd.int .i64) 3 w' w.heap.size (fun _ => True) cq2 bl) ∧ Aside0 (w'.heap[am0]? = some (.cells #[(.slice af ab.length ae), (.slice (some cq3) aa.length ag)] 25 (0, 0))) ∧ Aside0 (Below w.heap.size w w'))
    case atStart => exact ⟨(dy), (0), (g2_), H', ⟨Nat.le_refl _⟩, ⟨uf1_ ap⟩, ⟨uf0_ n7⟩, ⟨su⟩⟩
    case round =>
     clear H'
     try clear c1
     try clear p1
     try clear q1
     try clear va
     try clear c2
     try clear iu
     try clear km
     try clear p2
     try clear c3
     try clear ft
     try clear kn
     try clear c9
     try clear p7
     try clear db
     try clear ia
     try clear d5
     try clear mb
     try clear xx
     try clear xy
     try clear ko
     try clear kr
     try clear xz
     try clear ya
     try clear ks
     try clear kt
     try clear bs9
     try clear bb5
     try clear p2
     try clear bb6
     obtain ⟨bl, gy, rfl, HA, HK2, ap, n7, HB⟩ := hrel
     cases gk with
     | zero => exact absurd HA.out (by simp [impl_owed.l1])
     | succ k2 =>
      have H := HA.out
      clear HA
      simp only [impl_owed.l1] at H
      by_cases d2 : gy < ((rd_L1 aa b8).length : Int)
      ·rw [if_pos d2] at H
       have lm := decide_eq_true d2
       clear d2
       obtain ⟨fu, H⟩ := pos_ H
       have ta := decide_eq_true fu
       clear fu
       obtain ⟨f2, H⟩ := pos_ H
       have pv := decide_eq_true f2
       clear f2
       obtain ⟨cb, H⟩ := pos_ H
       have gv := decide_eq_true cb
       clear cb
       obtain ⟨bt0, hy156⟩ : ∃ y_ : List Int, y_ = (bl.set (gy : Int).toNat (wrap64 ((rd bl gy) + (rd (rd_L1 aa b8) gy)))) := ⟨_, rfl⟩
       replace H : (impl_owed.l1 k2 bt0 aa (aa.length : Int) b8 (rd_L1 aa b8) ((rd_L1 aa b8).length : Int) (wrap64 (gy + 1))) = some r := by first | (rw [hy156]; with_reducible exact H) | (have H2_ := (Option.bind_some _ _).symm.trans H; rw [hy156]; with_reducible exact H2_) | (have H2_ := (Option.bind_some _ _).symm.trans H; with_reducible exact H2_) | with_reducible exact H | (rw [hy156]; exact H) | exact H
       have dx4 := Aside0.mk hy156
       clear hy156
       have H' := Aside0.mk H
       clear H
       have bt1 : 0 ≤ (gy : Int) := of_decide_eq_true (g0_)
       have bt2 : gy < ((rd_L1 aa b8).length : Int) := of_decide_eq_true (g0_)
       obtain ⟨fj0, dx5, cq6⟩ := Kd.at_int dx3.out gy bt1 bt2
       cases dx5
       replace cq6 := cl_ HB cq6
       replace bt1 := eq_true bt1
       replace bt2 := eq_true bt2
       obtain ⟨ba, a5, ku⟩ := Kd.R_slice ap.out
       subst ku
       have bt3 : 0 ≤ (gy : Int) := of_decide_eq_true (g0_)
       have bt4 : gy < (bl.length : Int) := of_decide_eq_true (g0_)
       obtain ⟨fj1, dx6, dx7⟩ := Kd.at_int (Kd.R_reads' ap.out).2.2 gy bt3 bt4
       cases dx6
       replace bt3 := eq_true bt3
       replace bt4 := eq_true bt4
       have p16 : 0 ≤ (gy : Int) := of_decide_eq_true (g0_)
       have q16 : (gy : Int) < ((bl.length : Int) : Int) := of_decide_eq_true (g0_)
       obtain ⟨bt5, lo, vf, cq7, gl16, cl16, HG16⟩ := Kd.R_form ap.out (by omega)
       (first | cases vf | (injection vf with ea_ en_ ec_; (first | subst ea_ | (injection ea_ with ea_; subst ea_)); subst ec_; clear en_))
       have GB16 := Aside0.mk cq7
       have GG16 := Aside0.mk HG16
       clear cq7 gl16 HG16
       (first | simp only [add_plain] at dx7 | skip)
       obtain ⟨fj2, hf16_0⟩ := Kd.R_celln 0 ap.out (gy : Int) p16 q16
       replace p16 := eq_true p16
       replace q16 := eq_true q16
       have HP18 := Kd.R_putg ap.out (gy : Int) (wrap64 ((rd bl gy) + (rd (rd_L1 aa b8) gy)))
       go_wp2_with (first | ((with_reducible refine gate_store (t := 3) (p := 32) rfl ?_); refine store_event (t := 3) (p := 32) (v := ?vo_w19) (w1 := (wr.setCell ⟨bt5, (gy : Int).toNat, none⟩ (.int .i64 (wrap64 ((rd bl gy) + (rd (rd_L1 aa b8) gy)))))) ?hg ?ho ?hn ?hr ?_; (case ho => rfl); (case hg => rfl); (case hn => rfl); (case hr => first | (go_simp; done) | (go_simp; rfl)); intro te hw; have hg : wr.grownBy te (some bt5) := (by rw [hw]; exact HP18.2); have hp_ : Kd.R (Kd.int .i64) 3 te w.heap.size (fun _ => True) (.slice (some ⟨bt5, 0, none⟩) bl.length a5) bt0 := (by rw [hw, dx4.out]; exact HP18.1); clear HP18; replace n7 := Aside0.mk (blk_grown (g := am0) (o := .cells #[.slice af ab.length ae, .slice (some cq3) aa.length ag] 25 (0, 0)) (uf0_ n7) hg (Kd.R_ne ap.out n7.out (by decide))); replace ap := Aside0.mk (hp_); replace HB := Aside0.mk ((by rw [hw]; exact below_set (HB.out) GB16.out : Below w.heap.size w te)); clear hg hw hp_))
       go_roundg k2
       case measure => have := HK1.out; have := HK2.out; omega
       case rel => exact ⟨(bt0), (wrap64 (gy + 1)), (g2_), H', ⟨g19_⟩, ⟨uf1_ ap⟩, ⟨uf0_ n7⟩, ⟨su⟩⟩
      ·rw [if_neg d2] at H
       have lm := decide_eq_false d2
       clear d2
       have H' := Aside0.mk H
       clear H
       go_wp2
       go_roundg k2
       case measure => have := HK1.out; have := HK2.out; omega
       case rel => exact ⟨(bl), (wrap64 (b8 + 1)), (g2_), H', ⟨g19_⟩, ⟨uf1_ ap⟩, ⟨uf0_ n7⟩, ⟨su⟩⟩
   ·rw [if_neg c9] at H
    have p7 := decide_eq_false c9
    clear c9
    obtain rfl := Option.some.inj H
    go_wp2
    go_ret
    exact ⟨_, g4_, uf1_ ap, su⟩
def impl_nets.l0 : Nat → List Int → List Int → Int → Int → Option (List Int)
 | 0, _, _, _, _ => none
 | k + 1, x3, x9, i7, ew => if ew < i7 then (if 0 ≤ ew then (if ew < (x9.length : Int) then (if ew < (x3.length : Int) then (impl_nets.l0 k (x3.set (ew : Int).toNat (wrap64 ((rd x3 ew) - (rd x9 ew)))) x9 i7 (wrap64 (ew + 1))) else (none)) else (none)) else (none)) else (some x3)
def impl_nets.f (k : Nat) (ab : List Int) (aa : List (List Int)) : Option (List Int) := (impl_owed.f k ab aa).bind fun ad9 => ((impl_owes.f k ab aa).bind fun i9 => (impl_nets.l0 k ad9 i9 (i9.length : Int) 0))
theorem impl_nets.mq {p : Prop} (h : p := by
 repeat' first
 | (with_reducible exact ih0 _ _ _ _)
 | (with_reducible exact impl_owed.mono _ _ _)
 | (with_reducible exact impl_owes.mono _ _ _)
 | (with_reducible exact LeO.refl _)
 | (with_reducible exact LeO.none _)
 | (with_reducible refine LeO.ite ?_ ?_)
 | (with_reducible refine LeO.bind ?_ (fun _ => ?_))
 | exact ih0 _ _ _ _
 | exact impl_owed.mono _ _ _
 | exact impl_owes.mono _ _ _
 | exact LeO.none _
 | refine LeO.ite ?_ ?_
 | refine LeO.bind ?_ (fun _ => ?_)) : p := h
theorem impl_nets.mono_l : ∀ k, (∀ y0 y1 y2 y3, LeO (impl_nets.l0 k y0 y1 y2 y3) (impl_nets.l0 (k + 1) y0 y1 y2 y3))
 | 0 => fun _ _ _ _ r h => by simp [impl_nets.l0] at h
 | k + 1 => by
  have ih0 := impl_nets.mono_l k
  ·intro y0 y1 y2 y3
   unfold impl_nets.l0
   exact impl_nets.mq
theorem impl_nets.mono : ∀ a0 a1 k, LeO (impl_nets.f k a0 a1) (impl_nets.f (k + 1) a0 a1) := by
 intro a0 a1 k
 have ih0 := impl_nets.mono_l k
 unfold impl_nets.f
 exact impl_nets.mq
theorem sv {p : Prop} (h : p := by repeat (first | (with_reducible first | exact HB.out | apply below_alloc | apply pw_below_drewN | apply below_drew1 | refine below_set ?_ dx8.out) | exact HB.out)) : p := h
set_option maxHeartbeats 8000000 in
set_option maxRecDepth 100000 in
theorem impl_nets.calls (k : Nat) (af : Option Addr) (ae : Nat) (ab : List Int) (ah : Option Addr) (ag : Nat) (aa : List (List Int)) (r : List Int) (w : World) (cg : Kd.C (Kd.int .i64) w af ab.length ab) (ck : ab.length ≤ ae) (ch : Kd.C (Kd.slice 3 (Kd.int .i64)) w ah aa.length aa) (cl : aa.length ≤ ag) (h : impl_nets.f k ab aa = some r) :
  Calls Try.prog 94 #[.agg #[.slice af ab.length ae, .slice ah aa.length ag]] w fun e w' => ∃ v0_ : Value, e = .returned (v0_) ∧ Kd.R (Kd.int .i64) 3 w' w.heap.size (fun _ => True) v0_ r ∧ Below w.heap.size w w' := by
 have hu25 := Try.underlying25
 have b7 := Aside0.mk cg
 have cn := Aside0.mk ck
 clear cg ck
 have bz := Aside0.mk ch
 have cr := Aside0.mk cl
 clear ch cl
 have HB := Aside0.mk (Below.refl w.heap.size w)
 have H : ((impl_owed.f k ab aa).bind fun ad9 => ((impl_owes.f k ab aa).bind fun i9 => (impl_nets.l0 k ad9 i9 (i9.length : Int) 0))) = some r := h
 clear h
 obtain ⟨ad9, A2, H⟩ := bind_ H
 obtain ⟨i9, A3, H⟩ := bind_ H
 have H' := Aside0.mk H
 clear H
 go_enter Try.func94, Try.ntmps94
 go_wp2_with (first | ((with_reducible refine gate_dst (N := 1) rfl ?_); refine bx_ (N := 1) #[.slice af ab.length ae, .slice ah aa.length ag] 25 ?_; intro bb7 hg w4 hbox hb; have o5 := Aside0.mk (hbox); have fj3 := Aside0.mk ((by rw [hg]; exact (below_size (sv)) : w.heap.size ≤ bb7)); have dx8 := Aside0.mk ((by rw [hg]; exact (below_size (sv)) : w.heap.size ≤ bb7)); replace HB := Aside0.mk (below_step (sv) hb); clear hb hbox hg; obtain ⟨xx, xy, xz, ya⟩ := blk2_ o5) | ((with_reducible refine gate_callee (f := 112) rfl ?_); refine goesL_ (some 7) rfl rfl Try.func112 k_ rfl #[.agg #[.slice af ab.length ae, .slice ah aa.length ag]] rfl (g3_) ?_; (with_reducible refine (impl_owed.calls k _ _ ab _ _ aa ad9 _ ?side1 ?side2 ?side3 ?side4 A2.out).mono ?_); (case side1 => exact uf2_ b7); (case side2 => exact cn.out); (case side3 => exact uf2_ bz); (case side4 => exact cr.out); rintro e w6 ⟨cq8, rfl, ac, hb⟩; refine ⟨_, rfl, ?_⟩; have bb8 := Aside0.mk (Kd.R_lower ac (below_size (sv))); replace o5 := bb_ o5 hb; replace HB := Aside0.mk (below_step (sv) hb); (try clear hb); (try clear hk hi); (try clear ac); obtain ⟨l7, l8, l9, ma⟩ := blk2_ o5) | ((with_reducible refine gate_callee (f := 74) rfl ?_); refine goesL_ (some 9) rfl rfl Try.func74 k_ rfl #[.agg #[.slice af ab.length ae, .slice ah aa.length ag]] rfl (g3_) ?_; (with_reducible refine (impl_owes.calls k _ _ ab _ _ aa i9 _ ?side1 ?side2 ?side3 ?side4 A3.out).mono ?_); (case side1 => exact uf2_ b7); (case side2 => exact cn.out); (case side3 => exact uf2_ bz); (case side4 => exact cr.out); rintro e w8 ⟨fj4, rfl, ac, hb⟩; refine ⟨_, rfl, ?_⟩; have cq9 := Aside0.mk (Kd.R_lower (Kd.R_new' ac (Kd.R_lt (uf1_ bb8))) (below_size (sv))); replace bb8 := Aside0.mk (Kd.R_elder' (uf1_ bb8) (Kd.R_base ac) hb); replace o5 := bb_ o5 hb; replace HB := Aside0.mk (below_step (sv) hb); (try clear hb); (try clear hk hi); (try clear ac); obtain ⟨am, al, qb⟩ := Kd.R_slice cq9.out; subst qb))
 go_loopg [11] k (fun kq yr w' => ∃ (dy : List Int) (dg : Int), yr = .int .i64 dg ∧ Aside0 (impl_nets.l0 kq dy i9 (i9.length : Int) dg = some r) ∧ Aside0 (kq ≤ k) ∧ Aside0 (Kd.R (Kd.int .i64) 3 w' w.heap.size (fun k_ => some k_ ≠ ((.slice am i9.length al) : Value).ownBlock) cq8 dy) ∧ Aside0 (Kd.R (Kd.int .i64) 3 w' w.heap.size (fun k_ => some k_ ≠ (cq8 : Value).ownBlock) (.slice am i9.length al) i9) ∧ Aside0 (w'.heap[bb7]? = some (.cells #[(.slice af ab.length ae), (.slice ah aa.length ag)] 25 (0, 0))) ∧ Aside0 (Below w.heap.size w w'))
 case atStart => exact ⟨(ad9), (0), (g2_), H', ⟨Nat.le_refl _⟩, ⟨by (with_reducible repeat (first | apply Kd.R_alloc | apply Kd.R_drewN | apply Kd.R_drew)); exact Kd.R_mono bb8.out (fun _ hk => hk.2)⟩, ⟨by (with_reducible repeat (first | apply Kd.R_alloc | apply Kd.R_drewN | apply Kd.R_drew)); exact Kd.R_mono cq9.out (fun _ hk => hk.2)⟩, ⟨uf0_ o5⟩, ⟨sv⟩⟩
 case round =>
  clear H'
  try clear c1
  try clear p2
  try clear c7
  try clear c9
  try clear xx
  try clear xy
  try clear l7
  try clear l8
  try clear xz
  try clear ya
  try clear l9
  try clear ma
  obtain ⟨dy, dg, rfl, HA, HK1, ap, ex, o5, HB⟩ := hrel
  cases gk with
  | zero => exact absurd HA.out (by simp [impl_nets.l0])
  | succ k1 =>
   have H := HA.out
   clear HA
   simp only [impl_nets.l0] at H
   by_cases db : dg < (i9.length : Int)
   ·rw [if_pos db] at H
    have ia := decide_eq_true db
    clear db
    obtain ⟨d5, H⟩ := pos_ H
    have mb := decide_eq_true d5
    clear d5
    obtain ⟨d2, H⟩ := pos_ H
    have lm := decide_eq_true d2
    clear d2
    obtain ⟨fu, H⟩ := pos_ H
    have ta := decide_eq_true fu
    clear fu
    obtain ⟨bt6, hy166⟩ : ∃ y_ : List Int, y_ = (dy.set (dg : Int).toNat (wrap64 ((rd dy dg) - (rd i9 dg)))) := ⟨_, rfl⟩
    replace H : (impl_nets.l0 k1 bt6 i9 (i9.length : Int) (wrap64 (dg + 1))) = some r := by first | (rw [hy166]; with_reducible exact H) | (have H2_ := (Option.bind_some _ _).symm.trans H; rw [hy166]; with_reducible exact H2_) | (have H2_ := (Option.bind_some _ _).symm.trans H; with_reducible exact H2_) | with_reducible exact H | (rw [hy166]; exact H) | exact H
    have dx9 := Aside0.mk hy166
    clear hy166
    have H' := Aside0.mk H
    clear H
    have bt7 : 0 ≤ (dg : Int) := of_decide_eq_true (g0_)
    have bt8 : dg < (i9.length : Int) := of_decide_eq_true (g0_)
    obtain ⟨dy0, dy1, fj5⟩ := Kd.at_int (Kd.R_reads' ex.out).2.2 dg bt7 bt8
    cases dy1
    replace bt7 := eq_true bt7
    replace bt8 := eq_true bt8
    obtain ⟨j8, iv, bt9⟩ := Kd.R_slice ap.out
    subst bt9
    have bu0 : 0 ≤ (dg : Int) := of_decide_eq_true (g0_)
    have bu1 : dg < (dy.length : Int) := of_decide_eq_true (g0_)
    obtain ⟨fj6, dy2, dy3⟩ := Kd.at_int (Kd.R_reads' ap.out).2.2 dg bu0 bu1
    cases dy2
    replace bu0 := eq_true bu0
    replace bu1 := eq_true bu1
    have p14 : 0 ≤ (dg : Int) := of_decide_eq_true (g0_)
    have q14 : (dg : Int) < ((dy.length : Int) : Int) := of_decide_eq_true (g0_)
    obtain ⟨am1, ak, j9, cr0, gl14, cl14, HG14⟩ := Kd.R_form ap.out (by omega)
    (first | cases j9 | (injection j9 with ea_ en_ ec_; (first | subst ea_ | (injection ea_ with ea_; subst ea_)); subst ec_; clear en_))
    have GB14 := Aside0.mk cr0
    have GG14 := Aside0.mk HG14
    clear cr0 gl14 HG14
    (first | simp only [add_plain] at dy3 | skip)
    obtain ⟨fj7, hf14_0⟩ := Kd.R_celln 0 ap.out (dg : Int) p14 q14
    replace p14 := eq_true p14
    replace q14 := eq_true q14
    have HP16 := Kd.R_putg ap.out (dg : Int) (wrap64 ((rd dy dg) - (rd i9 dg)))
    go_wp2_with (first | ((with_reducible refine gate_store (t := 3) (p := 22) rfl ?_); refine store_event (t := 3) (p := 22) (v := ?vo_w17) (w1 := (wr.setCell ⟨am1, (dg : Int).toNat, none⟩ (.int .i64 (wrap64 ((rd dy dg) - (rd i9 dg)))))) ?hg ?ho ?hn ?hr ?_; (case ho => rfl); (case hg => rfl); (case hn => rfl); (case hr => first | (go_simp; done) | (go_simp; rfl)); intro tf hw; have hg : wr.grownBy tf (some am1) := (by rw [hw]; exact HP16.2); have hp_ : Kd.R (Kd.int .i64) 3 tf w.heap.size (fun k_ => some k_ ≠ (.slice (some dy0) i9.length al : Value).ownBlock) (.slice (some ⟨am1, 0, none⟩) dy.length iv) bt6 := (by rw [hw, dx9.out]; exact HP16.1); clear HP16; replace ex := Aside0.mk (Kd.R_after (v := (.slice (some ⟨am1, 0, none⟩) dy.length iv)) (v1 := (.slice (some ⟨am1, 0, none⟩) dy.length iv)) (ok := (fun _ => True)) (by (with_reducible repeat (first | apply Kd.R_alloc | apply Kd.R_drewN | apply Kd.R_drew)); exact Kd.R_mono ex.out (fun _ hk => ⟨trivial, hk⟩)) hg (.inl rfl)); replace o5 := Aside0.mk (blk_grown (g := bb7) (o := .cells #[.slice af ab.length ae, .slice ah aa.length ag] 25 (0, 0)) (uf0_ o5) hg (Kd.R_ne ap.out o5.out (by decide))); replace ap := Aside0.mk (hp_); replace HB := Aside0.mk ((by rw [hw]; exact below_set (HB.out) GB14.out : Below w.heap.size w tf)); clear hg hw hp_))
    go_roundg k1
    case measure => have := HK1.out; omega
    case rel => exact ⟨(bt6), (wrap64 (dg + 1)), (g2_), H', ⟨g9_⟩, ⟨uf1_ ap⟩, ⟨by (with_reducible repeat (first | apply Kd.R_alloc | apply Kd.R_drewN | apply Kd.R_drew)); exact Kd.R_mono ex.out (fun _ hk => hk.2)⟩, ⟨uf0_ o5⟩, ⟨sv⟩⟩
   ·rw [if_neg db] at H
    have ia := decide_eq_false db
    clear db
    obtain rfl := Option.some.inj H
    go_wp2
    go_ret
    exact ⟨_, g4_, by (with_reducible repeat (first | apply Kd.R_alloc | apply Kd.R_drewN | apply Kd.R_drew)); exact Kd.R_mono ap.out (fun _ hk => trivial), sv⟩
def impl_NetsOf.f (k : Nat) (ab : List Int) (aa : List (List Int)) : Option (List Int) := (impl_isBook.f k ab aa).bind fun am2 => (if am2 = true then ((impl_nets.f k ab aa).bind fun am3 => (some am3)) else (some ([] : List Int)))
theorem impl_NetsOf.mq {p : Prop} (h : p := by
 repeat' first
 | (with_reducible exact impl_isBook.mono _ _ _)
 | (with_reducible exact impl_nets.mono _ _ _)
 | (with_reducible exact LeO.refl _)
 | (with_reducible exact LeO.none _)
 | (with_reducible refine LeO.ite ?_ ?_)
 | (with_reducible refine LeO.bind ?_ (fun _ => ?_))
 | exact impl_isBook.mono _ _ _
 | exact impl_nets.mono _ _ _
 | exact LeO.none _
 | refine LeO.ite ?_ ?_
 | refine LeO.bind ?_ (fun _ => ?_)) : p := h
theorem impl_NetsOf.mono : ∀ a0 a1 k, LeO (impl_NetsOf.f k a0 a1) (impl_NetsOf.f (k + 1) a0 a1) := by
 intro a0 a1 k
 unfold impl_NetsOf.f
 exact impl_NetsOf.mq
theorem u7 {p : Prop} (h : p := by repeat (first | (with_reducible first | exact HB.out | apply below_alloc | apply pw_below_drewN | apply below_drew1 | refine below_set ?_ cr1.out) | exact HB.out)) : p := h
set_option maxHeartbeats 8000000 in
set_option maxRecDepth 100000 in
theorem impl_NetsOf.calls (k : Nat) (af : Option Addr) (ae : Nat) (ab : List Int) (ah : Option Addr) (ag : Nat) (aa : List (List Int)) (r : List Int) (w : World) (cg : Kd.C (Kd.int .i64) w af ab.length ab) (ck : ab.length ≤ ae) (ch : Kd.C (Kd.slice 3 (Kd.int .i64)) w ah aa.length aa) (cl : aa.length ≤ ag) (h : impl_NetsOf.f k ab aa = some r) :
  Calls Try.prog 46 #[.agg #[.slice af ab.length ae, .slice ah aa.length ag]] w fun e w' => ∃ v0_ : Value, e = .returned (v0_) ∧ Kd.R (Kd.int .i64) 3 w' w.heap.size (fun _ => True) v0_ r ∧ Below w.heap.size w w' := by
 have hu25 := Try.underlying25
 have b7 := Aside0.mk cg
 have cn := Aside0.mk ck
 clear cg ck
 have bz := Aside0.mk ch
 have cr := Aside0.mk cl
 clear ch cl
 have HB := Aside0.mk (Below.refl w.heap.size w)
 have H : ((impl_isBook.f k ab aa).bind fun am2 => (if am2 = true then ((impl_nets.f k ab aa).bind fun am3 => (some am3)) else (some ([] : List Int)))) = some r := h
 clear h
 obtain ⟨am2, A2, H⟩ := bind_ H
 by_cases c3 : am2 = true
 ·subst c3
  replace H := ifp_ H
  obtain ⟨am3, A4, H⟩ := bind_ H
  obtain rfl := Option.some.inj H
  go_enter Try.func46, Try.ntmps46
  go_wp2_with (first | ((with_reducible refine gate_dst (N := 1) rfl ?_); refine bx_ (N := 1) #[.slice af ab.length ae, .slice ah aa.length ag] 25 ?_; intro am4 hg w5 hbox hb; have rv := Aside0.mk (hbox); have dy4 := Aside0.mk ((g57_ : w.heap.size ≤ am4)); have cr1 := Aside0.mk ((g57_ : w.heap.size ≤ am4)); replace HB := Aside0.mk (below_step (u7) hb); clear hb hbox hg; obtain ⟨rs, rt, vc, ru⟩ := blk2_ rv) | ((with_reducible refine gate_callee (f := 73) rfl ?_); refine goesL_ (some 4) rfl rfl Try.func73 k_ rfl #[.agg #[.slice af ab.length ae, .slice ah aa.length ag]] rfl (g3_) ?_; (with_reducible refine (impl_isBook.calls k _ _ ab _ _ aa true _ ?side1 ?side2 ?side3 ?side4 A2.out).mono ?_); (case side1 => exact uf2_ b7); (case side2 => exact cn.out); (case side3 => exact uf2_ bz); (case side4 => exact cr.out); rintro e w7 ⟨rfl, hb⟩; refine ⟨_, rfl, ?_⟩; replace rv := bb_ rv hb; replace HB := Aside0.mk (below_step (u7) hb); (try clear hb); (try clear hk hi); obtain ⟨ko, kr, ks, kt⟩ := blk2_ rv) | ((with_reducible refine gate_callee (f := 94) rfl ?_); refine goesL_ (some 7) rfl rfl Try.func94 k_ rfl #[.agg #[.slice af ab.length ae, .slice ah aa.length ag]] rfl (g3_) ?_; (with_reducible refine (impl_nets.calls k _ _ ab _ _ aa am3 _ ?side1 ?side2 ?side3 ?side4 A4.out).mono ?_); (case side1 => exact uf2_ b7); (case side2 => exact cn.out); (case side3 => exact uf2_ bz); (case side4 => exact cr.out); rintro e w9 ⟨fj8, rfl, ac, hb⟩; refine ⟨_, rfl, ?_⟩; have dy5 := Aside0.mk (Kd.R_lower ac (below_size (u7))); replace rv := bb_ rv hb; replace HB := Aside0.mk (below_step (u7) hb); (try clear hb); (try clear hk hi); (try clear ac)))
  go_ret
  exact ⟨_, g4_, uf1_ dy5, u7⟩
 ·replace c3 := Bool.eq_false_iff.mpr c3
  subst c3
  replace H := ifn_ H
  obtain rfl := Option.some.inj H
  go_enter Try.func46, Try.ntmps46
  go_wp2_with (first | ((with_reducible refine gate_dst (N := 1) rfl ?_); refine bx_ (N := 1) #[.slice af ab.length ae, .slice ah aa.length ag] 25 ?_; intro am4 hg o6 hbox hb; have rv := Aside0.mk (hbox); have dy4 := Aside0.mk ((g57_ : w.heap.size ≤ am4)); have cr1 := Aside0.mk ((g57_ : w.heap.size ≤ am4)); replace HB := Aside0.mk (below_step (u7) hb); clear hb hbox hg; obtain ⟨yt, yu, yv, yw⟩ := blk2_ rv) | ((with_reducible refine gate_callee (f := 73) rfl ?_); refine goesL_ (some 4) rfl rfl Try.func73 k_ rfl #[.agg #[.slice af ab.length ae, .slice ah aa.length ag]] rfl (g3_) ?_; (with_reducible refine (impl_isBook.calls k _ _ ab _ _ aa false _ ?side1 ?side2 ?side3 ?side4 A2.out).mono ?_); (case side1 => exact uf2_ b7); (case side2 => exact cn.out); (case side3 => exact uf2_ bz); (case side4 => exact cr.out); rintro e o4 ⟨rfl, hb⟩; refine ⟨_, rfl, ?_⟩; replace rv := bb_ rv hb; replace HB := Aside0.mk (below_step (u7) hb); (try clear hb); (try clear hk hi)))
  go_ret
  exact ⟨_, g4_, g22_, u7⟩
def cmp_isNaN_int.f (a0 : Int) : Option (Bool) := some (a0 != a0)
set_option maxHeartbeats 8000000 in
set_option maxRecDepth 100000 in
theorem cmp_isNaN_int.calls (a0 : Int) (r : Bool) (w : World) (h : cmp_isNaN_int.f a0 = some r) :
  Calls Try.prog 130 #[.int .i64 a0] w fun e w' => e = .returned (.bool r) ∧ Drawn0 w w' := by
 have H : (some (a0 != a0)) = some r := h
 clear h
 obtain rfl := Option.some.inj H
 go_enter Try.func130, Try.ntmps130
 go_wp2
 go_ret
 exact ⟨g2_, g5_⟩
def cmp_Compare_int.f (a0 : Int) (a1 : Int) : Option (Int) := (cmp_isNaN_int.f a0).bind fun al9 => ((cmp_isNaN_int.f a1).bind fun ve => (if al9 = true then (if ve = true then (some 0) else (some (-1))) else (if ve = true then (some 1) else (if a0 < a1 then (some (-1)) else (if a0 > a1 then (some 1) else (some 0))))))
set_option maxHeartbeats 8000000 in
set_option maxRecDepth 100000 in
theorem cmp_Compare_int.calls (a0 : Int) (a1 : Int) (r : Int) (w : World) (h : cmp_Compare_int.f a0 a1 = some r) :
  Calls Try.prog 120 #[.int .i64 a0, .int .i64 a1] w fun e w' => e = .returned (.int .i64 r) ∧ Drawn0 w w' := by
 have H : ((cmp_isNaN_int.f a0).bind fun al9 => ((cmp_isNaN_int.f a1).bind fun ve => (if al9 = true then (if ve = true then (some 0) else (some (-1))) else (if ve = true then (some 1) else (if a0 < a1 then (some (-1)) else (if a0 > a1 then (some 1) else (some 0))))))) = some r := h
 clear h
 obtain ⟨al9, A3, H⟩ := bind_ H
 obtain ⟨ve, A4, H⟩ := bind_ H
 by_cases c5 : al9 = true
 ·subst c5
  replace H := ifp_ H
  by_cases c6 : ve = true
  ·subst c6
   replace H := ifp_ H
   obtain rfl := Option.some.inj H
   go_enter Try.func120, Try.ntmps120
   go_wp2_with (first | ((with_reducible refine gate_callee (f := 130) rfl ?_); refine goesL_ (some 8) rfl rfl Try.func130 k_ rfl #[.int .i64 a0] rfl (g3_) ?_; (with_reducible refine (cmp_isNaN_int.calls a0 true _ A3.out).mono ?_); rintro e w' ⟨rfl, ⟨nd, rfl⟩⟩; refine ⟨_, rfl, ?_⟩) | ((with_reducible refine gate_callee (f := 130) rfl ?_); refine goesL_ (some 10) rfl rfl Try.func130 k_ rfl #[.int .i64 a1] rfl (g3_) ?_; (with_reducible refine (cmp_isNaN_int.calls a1 true _ A4.out).mono ?_); rintro e w' ⟨rfl, ⟨nd, rfl⟩⟩; refine ⟨_, rfl, ?_⟩))
   go_ret
   exact ⟨g2_, g5_⟩
  ·replace c6 := Bool.eq_false_iff.mpr c6
   subst c6
   replace H := ifn_ H
   obtain rfl := Option.some.inj H
   go_enter Try.func120, Try.ntmps120
   go_wp2_with (first | ((with_reducible refine gate_callee (f := 130) rfl ?_); refine goesL_ (some 8) rfl rfl Try.func130 k_ rfl #[.int .i64 a0] rfl (g3_) ?_; (with_reducible refine (cmp_isNaN_int.calls a0 true _ A3.out).mono ?_); rintro e w' ⟨rfl, ⟨nd, rfl⟩⟩; refine ⟨_, rfl, ?_⟩) | ((with_reducible refine gate_callee (f := 130) rfl ?_); refine goesL_ (some 10) rfl rfl Try.func130 k_ rfl #[.int .i64 a1] rfl (g3_) ?_; (with_reducible refine (cmp_isNaN_int.calls a1 false _ A4.out).mono ?_); rintro e w' ⟨rfl, ⟨nd, rfl⟩⟩; refine ⟨_, rfl, ?_⟩))
   go_ret
   exact ⟨g2_, g5_⟩
 ·replace c5 := Bool.eq_false_iff.mpr c5
  subst c5
  replace H := ifn_ H
  by_cases c7 : ve = true
  ·subst c7
   replace H := ifp_ H
   obtain rfl := Option.some.inj H
   go_enter Try.func120, Try.ntmps120
   go_wp2_with (first | ((with_reducible refine gate_callee (f := 130) rfl ?_); refine goesL_ (some 8) rfl rfl Try.func130 k_ rfl #[.int .i64 a0] rfl (g3_) ?_; (with_reducible refine (cmp_isNaN_int.calls a0 false _ A3.out).mono ?_); rintro e w' ⟨rfl, ⟨nd, rfl⟩⟩; refine ⟨_, rfl, ?_⟩) | ((with_reducible refine gate_callee (f := 130) rfl ?_); refine goesL_ (some 10) rfl rfl Try.func130 k_ rfl #[.int .i64 a1] rfl (g3_) ?_; (with_reducible refine (cmp_isNaN_int.calls a1 true _ A4.out).mono ?_); rintro e w' ⟨rfl, ⟨nd, rfl⟩⟩; refine ⟨_, rfl, ?_⟩))
   go_ret
   exact ⟨g2_, g5_⟩
  ·replace c7 := Bool.eq_false_iff.mpr c7
   subst c7
   replace H := ifn_ H
   by_cases c8 : a0 < a1
   ·rw [if_pos c8] at H
    have bb4 := decide_eq_true c8
    clear c8
    obtain rfl := Option.some.inj H
    go_enter Try.func120, Try.ntmps120
    go_wp2_with (first | ((with_reducible refine gate_callee (f := 130) rfl ?_); refine goesL_ (some 8) rfl rfl Try.func130 k_ rfl #[.int .i64 a0] rfl (g3_) ?_; (with_reducible refine (cmp_isNaN_int.calls a0 false _ A3.out).mono ?_); rintro e w' ⟨rfl, ⟨nd, rfl⟩⟩; refine ⟨_, rfl, ?_⟩) | ((with_reducible refine gate_callee (f := 130) rfl ?_); refine goesL_ (some 10) rfl rfl Try.func130 k_ rfl #[.int .i64 a1] rfl (g3_) ?_; (with_reducible refine (cmp_isNaN_int.calls a1 false _ A4.out).mono ?_); rintro e w' ⟨rfl, ⟨nd, rfl⟩⟩; refine ⟨_, rfl, ?_⟩))
    go_ret
    exact ⟨g2_, g5_⟩
   ·rw [if_neg c8] at H
    have bb4 := decide_eq_false c8
    clear c8
    by_cases c9 : a0 > a1
    ·rw [if_pos c9] at H
     have p7 := decide_eq_true c9
     clear c9
     obtain rfl := Option.some.inj H
     go_enter Try.func120, Try.ntmps120
     go_wp2_with (first | ((with_reducible refine gate_callee (f := 130) rfl ?_); refine goesL_ (some 8) rfl rfl Try.func130 k_ rfl #[.int .i64 a0] rfl (g3_) ?_; (with_reducible refine (cmp_isNaN_int.calls a0 false _ A3.out).mono ?_); rintro e w' ⟨rfl, ⟨nd, rfl⟩⟩; refine ⟨_, rfl, ?_⟩) | ((with_reducible refine gate_callee (f := 130) rfl ?_); refine goesL_ (some 10) rfl rfl Try.func130 k_ rfl #[.int .i64 a1] rfl (g3_) ?_; (with_reducible refine (cmp_isNaN_int.calls a1 false _ A4.out).mono ?_); rintro e w' ⟨rfl, ⟨nd, rfl⟩⟩; refine ⟨_, rfl, ?_⟩))
     go_ret
     exact ⟨g2_, g5_⟩
    ·rw [if_neg c9] at H
     have p7 := decide_eq_false c9
     clear c9
     obtain rfl := Option.some.inj H
     go_enter Try.func120, Try.ntmps120
     go_wp2_with (first | ((with_reducible refine gate_callee (f := 130) rfl ?_); refine goesL_ (some 8) rfl rfl Try.func130 k_ rfl #[.int .i64 a0] rfl (g3_) ?_; (with_reducible refine (cmp_isNaN_int.calls a0 false _ A3.out).mono ?_); rintro e w' ⟨rfl, ⟨nd, rfl⟩⟩; refine ⟨_, rfl, ?_⟩) | ((with_reducible refine gate_callee (f := 130) rfl ?_); refine goesL_ (some 10) rfl rfl Try.func130 k_ rfl #[.int .i64 a1] rfl (g3_) ?_; (with_reducible refine (cmp_isNaN_int.calls a1 false _ A4.out).mono ?_); rintro e w' ⟨rfl, ⟨nd, rfl⟩⟩; refine ⟨_, rfl, ?_⟩))
     go_ret
     exact ⟨g2_, g5_⟩
def slices_Compare_int_int.l0 : Nat → List Int → List Int → List Int → Int → Int → Option (Int)
 | 0, _, _, _, _, _ => none
 | k + 1, x0, x1, x9, i7, ew => if ew < i7 then (if 0 ≤ ew then (if ew < (x9.length : Int) then (if ew ≥ (x1.length : Int) then (some 1) else (if ew < (x1.length : Int) then ((cmp_Compare_int.f (rd x9 ew) (rd x1 ew)).bind fun r8 => (if r8 = 0 then (slices_Compare_int_int.l0 k x0 x1 x9 i7 (wrap64 (ew + 1))) else (some r8))) else (none))) else (none)) else (none)) else (if (x0.length : Int) < (x1.length : Int) then (some (-1)) else (some 0))
def slices_Compare_int_int.f (k : Nat) (l0 : List Int) (l1 : List Int) : Option (Int) := slices_Compare_int_int.l0 k l0 l1 l0 (l0.length : Int) 0
theorem slices_Compare_int_int.mq {p : Prop} (h : p := by
 repeat' first
 | (with_reducible exact ih0 _ _ _ _ _)
 | (with_reducible exact LeO.refl _)
 | (with_reducible exact LeO.none _)
 | (with_reducible refine LeO.ite ?_ ?_)
 | (with_reducible refine LeO.bind ?_ (fun _ => ?_))
 | exact ih0 _ _ _ _ _
 | exact LeO.none _
 | refine LeO.ite ?_ ?_
 | refine LeO.bind ?_ (fun _ => ?_)) : p := h
theorem slices_Compare_int_int.mono_l : ∀ k, (∀ y0 y1 y2 y3 y4, LeO (slices_Compare_int_int.l0 k y0 y1 y2 y3 y4) (slices_Compare_int_int.l0 (k + 1) y0 y1 y2 y3 y4))
 | 0 => fun _ _ _ _ _ r h => by simp [slices_Compare_int_int.l0] at h
 | k + 1 => by
  have ih0 := slices_Compare_int_int.mono_l k
  ·intro y0 y1 y2 y3 y4
   unfold slices_Compare_int_int.l0
   exact slices_Compare_int_int.mq
theorem slices_Compare_int_int.mono : ∀ a0 a1 k, LeO (slices_Compare_int_int.f k a0 a1) (slices_Compare_int_int.f (k + 1) a0 a1) := by
 intro a0 a1 k
 have ih0 := slices_Compare_int_int.mono_l k
 unfold slices_Compare_int_int.f
 exact slices_Compare_int_int.mq
set_option maxHeartbeats 8000000 in
set_option maxRecDepth 100000 in
theorem slices_Compare_int_int.calls (k : Nat) (A0 : Option Addr) (c0 : Nat) (l0 : List Int) (A1 : Option Addr) (c1 : Nat) (l1 : List Int) (r : Int) (w : World) (ct : Kd.C (Kd.int .i64) w A0 l0.length l0) (dq : l0.length ≤ c0) (gx : Kd.C (Kd.int .i64) w A1 l1.length l1) (gj : l1.length ≤ c1) (h : slices_Compare_int_int.f k l0 l1 = some r) :
  Calls Try.prog 121 #[.slice A0 l0.length c0, .slice A1 l1.length c1] w fun e w' => e = .returned (.int .i64 r) ∧ Drawn0 w w' := by
 have eg := Aside0.mk ct
 have jo := Aside0.mk dq
 clear ct dq
 have eh := Aside0.mk gx
 have HC1 := Aside0.mk gj
 clear gx gj
 have H : (slices_Compare_int_int.l0 k l0 l1 l0 (l0.length : Int) 0) = some r := h
 clear h
 have H' := Aside0.mk H
 clear H
 go_enter Try.func121, Try.ntmps121
 go_wp2
 go_loopg [11] k (fun kq yr w' => ∃ (dg : Int), yr = .int .i64 dg ∧ Aside0 (slices_Compare_int_int.l0 kq l0 l1 l0 (l0.length : Int) dg = some r) ∧ Aside0 (kq ≤ k) ∧ Drawn0 w w')
 case atStart => exact ⟨(0), (g2_), H', ⟨Nat.le_refl _⟩, g5_⟩
 case round =>
  clear H'
  try clear c1
  try clear p2
  obtain ⟨dg, rfl, HA, HK1, ⟨m1, rfl⟩⟩ := hrel
  cases gk with
  | zero => exact absurd HA.out (by simp [slices_Compare_int_int.l0])
  | succ k1 =>
   have H := HA.out
   clear HA
   simp only [slices_Compare_int_int.l0] at H
   by_cases c3 : dg < (l0.length : Int)
   ·rw [if_pos c3] at H
    have ft := decide_eq_true c3
    clear c3
    obtain ⟨c4, H⟩ := pos_ H
    have i8 := decide_eq_true c4
    clear c4
    obtain ⟨c5, H⟩ := pos_ H
    have ev := decide_eq_true c5
    clear c5
    by_cases c6 : dg ≥ (l1.length : Int)
    ·rw [if_pos c6] at H
     have gu := decide_eq_true c6
     clear c6
     obtain rfl := Option.some.inj H
     have ql : 0 ≤ (dg : Int) := of_decide_eq_true (g0_)
     have qm : dg < (l0.length : Int) := of_decide_eq_true (g0_)
     obtain ⟨cz2, ap4, cz3⟩ := Kd.at_int eg.out dg ql qm
     cases ap4
     replace ql := eq_true ql
     replace qm := eq_true qm
     go_wp2
     go_ret
     exact ⟨g2_, g5_⟩
    ·rw [if_neg c6] at H
     have gu := decide_eq_false c6
     clear c6
     obtain ⟨c7, H⟩ := pos_ H
     have al0 := decide_eq_true c7
     clear c7
     obtain ⟨r8, A8, H⟩ := bind_ H
     by_cases c9 : r8 = 0
     ·rw [if_pos c9] at H
      have p7 : (r8 == 0) = true := beq_iff_eq.mpr c9
      have ek3 : (r8 != 0) = false := bne_eq_false_iff_eq.mpr c9
      clear c9
      have H' := Aside0.mk H
      clear H
      have ql : 0 ≤ (dg : Int) := of_decide_eq_true (g0_)
      have qm : dg < (l0.length : Int) := of_decide_eq_true (g0_)
      obtain ⟨cz2, ap4, cz3⟩ := Kd.at_int eg.out dg ql qm
      cases ap4
      replace ql := eq_true ql
      replace qm := eq_true qm
      have zy : 0 ≤ (dg : Int) := of_decide_eq_true (g0_)
      have zz : dg < (l1.length : Int) := of_decide_eq_true (g0_)
      obtain ⟨ek4, bz1, ek5⟩ := Kd.at_int eh.out dg zy zz
      cases bz1
      replace zy := eq_true zy
      replace zz := eq_true zz
      go_wp2_with (first | ((with_reducible refine gate_callee (f := 120) rfl ?_); refine goesL_ (some 26) rfl rfl Try.func120 k_ rfl #[.int .i64 (rd l0 dg), .int .i64 (rd l1 dg)] rfl (g3_) ?_; (with_reducible refine (cmp_Compare_int.calls (rd l0 dg) (rd l1 dg) r8 _ A8.out).mono ?_); rintro e w' ⟨rfl, ⟨nd, rfl⟩⟩; refine ⟨_, rfl, ?_⟩))
      go_roundg k1
      case measure => have := HK1.out; omega
      case rel => exact ⟨(wrap64 (dg + 1)), (g2_), H', ⟨g9_⟩, g5_⟩
     ·rw [if_neg c9] at H
      have p7 : (r8 == 0) = false := beq_eq_false_iff_ne.mpr c9
      have ek3 : (r8 != 0) = true := bne_iff_ne.mpr c9
      obtain rfl := Option.some.inj H
      have ql : 0 ≤ (dg : Int) := of_decide_eq_true (g0_)
      have qm : dg < (l0.length : Int) := of_decide_eq_true (g0_)
      obtain ⟨cz2, ap4, cz3⟩ := Kd.at_int eg.out dg ql qm
      cases ap4
      replace ql := eq_true ql
      replace qm := eq_true qm
      have zy : 0 ≤ (dg : Int) := of_decide_eq_true (g0_)
      have zz : dg < (l1.length : Int) := of_decide_eq_true (g0_)
      obtain ⟨ek4, bz1, ek5⟩ := Kd.at_int eh.out dg zy zz
      cases bz1
      replace zy := eq_true zy
      replace zz := eq_true zz
      go_wp2_with (first | ((with_reducible refine gate_callee (f := 120) rfl ?_); refine goesL_ (some 26) rfl rfl Try.func120 k_ rfl #[.int .i64 (rd l0 dg), .int .i64 (rd l1 dg)] rfl (g3_) ?_; (with_reducible refine (cmp_Compare_int.calls (rd l0 dg) (rd l1 dg) r8 _ A8.out).mono ?_); rintro e w' ⟨rfl, ⟨nd, rfl⟩⟩; refine ⟨_, rfl, ?_⟩))
      go_ret
      exact ⟨g2_, g5_⟩
   ·rw [if_neg c3] at H
    have ft := decide_eq_false c3
    clear c3
    by_cases db : (l0.length : Int) < (l1.length : Int)
    ·rw [if_pos db] at H
     have ia := decide_eq_true db
     have zi : decide (l0.length < l1.length) = true := decide_eq_true (Int.ofNat_lt.mp db)
     clear db
     obtain rfl := Option.some.inj H
     go_wp2
     go_ret
     exact ⟨g2_, g5_⟩
    ·rw [if_neg db] at H
     have ia := decide_eq_false db
     have zi : decide (l0.length < l1.length) = false := decide_eq_false (fun h => db (Int.ofNat_lt.mpr h))
     clear db
     obtain rfl := Option.some.inj H
     go_wp2
     go_ret
     exact ⟨g2_, g5_⟩
def cmp_Or_int.l0 : Nat → Int → List Int → Int → Int → Option (Int)
 | 0, _, _, _, _ => none
 | k + 1, x3, x6, x7, x8 => if x8 < x7 then (if 0 ≤ x8 then (if x8 < (x6.length : Int) then (if (rd x6 x8) = x3 then (cmp_Or_int.l0 k x3 x6 x7 (wrap64 (x8 + 1))) else (some (rd x6 x8))) else (none)) else (none)) else (some x3)
def cmp_Or_int.f (k : Nat) (l0 : List Int) : Option (Int) := cmp_Or_int.l0 k 0 l0 (l0.length : Int) 0
theorem cmp_Or_int.mq {p : Prop} (h : p := by
 repeat' first
 | (with_reducible exact ih0 _ _ _ _)
 | (with_reducible exact LeO.refl _)
 | (with_reducible exact LeO.none _)
 | (with_reducible refine LeO.ite ?_ ?_)
 | (with_reducible refine LeO.bind ?_ (fun _ => ?_))
 | exact ih0 _ _ _ _
 | exact LeO.none _
 | refine LeO.ite ?_ ?_
 | refine LeO.bind ?_ (fun _ => ?_)) : p := h
theorem cmp_Or_int.mono_l : ∀ k, (∀ y0 y1 y2 y3, LeO (cmp_Or_int.l0 k y0 y1 y2 y3) (cmp_Or_int.l0 (k + 1) y0 y1 y2 y3))
 | 0 => fun _ _ _ _ r h => by simp [cmp_Or_int.l0] at h
 | k + 1 => by
  have ih0 := cmp_Or_int.mono_l k
  ·intro y0 y1 y2 y3
   unfold cmp_Or_int.l0
   exact cmp_Or_int.mq
theorem cmp_Or_int.mono : ∀ a0 k, LeO (cmp_Or_int.f k a0) (cmp_Or_int.f (k + 1) a0) := by
 intro a0 k
 have ih0 := cmp_Or_int.mono_l k
 unfold cmp_Or_int.f
 exact cmp_Or_int.mq
set_option maxHeartbeats 8000000 in
set_option maxRecDepth 100000 in
theorem cmp_Or_int.calls (k : Nat) (A0 : Option Addr) (c0 : Nat) (l0 : List Int) (r : Int) (w : World) (ct : Kd.C (Kd.int .i64) w A0 l0.length l0) (dq : l0.length ≤ c0) (h : cmp_Or_int.f k l0 = some r) :
  Calls Try.prog 119 #[.slice A0 l0.length c0] w fun e w' => e = .returned (.int .i64 r) ∧ Drawn0 w w' := by
 have eg := Aside0.mk ct
 have jo := Aside0.mk dq
 clear ct dq
 have H : (cmp_Or_int.l0 k 0 l0 (l0.length : Int) 0) = some r := h
 clear h
 have H' := Aside0.mk H
 clear H
 go_enter Try.func119, Try.ntmps119
 go_wp2
 go_loopg [8] k (fun kq v8 w' => ∃ (dj : Int), v8 = .int .i64 dj ∧ Aside0 (cmp_Or_int.l0 kq 0 l0 (l0.length : Int) dj = some r) ∧ Aside0 (kq ≤ k) ∧ Drawn0 w w')
 case atStart => exact ⟨(0), (g2_), H', ⟨Nat.le_refl _⟩, g5_⟩
 case round =>
  clear H'
  try clear c1
  obtain ⟨dj, rfl, HA, HK1, ⟨m1, rfl⟩⟩ := hrel
  cases gk with
  | zero => exact absurd HA.out (by simp [cmp_Or_int.l0])
  | succ k1 =>
   have H := HA.out
   clear HA
   simp only [cmp_Or_int.l0] at H
   by_cases c2 : dj < (l0.length : Int)
   ·rw [if_pos c2] at H
    have iu := decide_eq_true c2
    clear c2
    obtain ⟨c3, H⟩ := pos_ H
    have ft := decide_eq_true c3
    clear c3
    obtain ⟨c4, H⟩ := pos_ H
    have i8 := decide_eq_true c4
    clear c4
    by_cases c5 : (rd l0 dj) = 0
    ·rw [if_pos c5] at H
     have ev : ((rd l0 dj) == 0) = true := beq_iff_eq.mpr c5
     have xm : ((rd l0 dj) != 0) = false := bne_eq_false_iff_eq.mpr c5
     clear c5
     have H' := Aside0.mk H
     clear H
     have aa5 : 0 ≤ (dj : Int) := of_decide_eq_true (g0_)
     have aa6 : dj < (l0.length : Int) := of_decide_eq_true (g0_)
     obtain ⟨em0, cb6, em1⟩ := Kd.at_int eg.out dj aa5 aa6
     cases cb6
     replace aa5 := eq_true aa5
     replace aa6 := eq_true aa6
     go_wp2
     go_roundg k1
     case measure => have := HK1.out; omega
     case rel => exact ⟨(wrap64 (dj + 1)), (g2_), H', ⟨g9_⟩, g5_⟩
    ·rw [if_neg c5] at H
     have ev : ((rd l0 dj) == 0) = false := beq_eq_false_iff_ne.mpr c5
     have xm : ((rd l0 dj) != 0) = true := bne_iff_ne.mpr c5
     obtain rfl := Option.some.inj H
     have aa5 : 0 ≤ (dj : Int) := of_decide_eq_true (g0_)
     have aa6 : dj < (l0.length : Int) := of_decide_eq_true (g0_)
     obtain ⟨em0, cb6, em1⟩ := Kd.at_int eg.out dj aa5 aa6
     cases cb6
     replace aa5 := eq_true aa5
     replace aa6 := eq_true aa6
     go_wp2
     go_ret
     exact ⟨g2_, g5_⟩
   ·rw [if_neg c2] at H
    have iu := decide_eq_false c2
    clear c2
    obtain rfl := Option.some.inj H
    go_wp2
    go_ret
    exact ⟨g2_, g5_⟩
def slices_Index_int_int.l0 : Nat → List Int → Int → Int → Int → Option (Int)
 | 0, _, _, _, _ => none
 | k + 1, x0, x1, x7, x8 => if x8 < x7 then (if 0 ≤ x8 then (if x8 < (x0.length : Int) then (if x1 = (rd x0 x8) then (some x8) else (slices_Index_int_int.l0 k x0 x1 x7 (wrap64 (x8 + 1)))) else (none)) else (none)) else (some (-1))
def slices_Index_int_int.f (k : Nat) (l0 : List Int) (a1 : Int) : Option (Int) := slices_Index_int_int.l0 k l0 a1 (l0.length : Int) 0
theorem slices_Index_int_int.mq {p : Prop} (h : p := by
 repeat' first
 | (with_reducible exact ih0 _ _ _ _)
 | (with_reducible exact LeO.refl _)
 | (with_reducible exact LeO.none _)
 | (with_reducible refine LeO.ite ?_ ?_)
 | (with_reducible refine LeO.bind ?_ (fun _ => ?_))
 | exact ih0 _ _ _ _
 | exact LeO.none _
 | refine LeO.ite ?_ ?_
 | refine LeO.bind ?_ (fun _ => ?_)) : p := h
theorem slices_Index_int_int.mono_l : ∀ k, (∀ y0 y1 y2 y3, LeO (slices_Index_int_int.l0 k y0 y1 y2 y3) (slices_Index_int_int.l0 (k + 1) y0 y1 y2 y3))
 | 0 => fun _ _ _ _ r h => by simp [slices_Index_int_int.l0] at h
 | k + 1 => by
  have ih0 := slices_Index_int_int.mono_l k
  ·intro y0 y1 y2 y3
   unfold slices_Index_int_int.l0
   exact slices_Index_int_int.mq
theorem slices_Index_int_int.mono : ∀ a0 a1 k, LeO (slices_Index_int_int.f k a0 a1) (slices_Index_int_int.f (k + 1) a0 a1) := by
 intro a0 a1 k
 have ih0 := slices_Index_int_int.mono_l k
 unfold slices_Index_int_int.f
 exact slices_Index_int_int.mq
set_option maxHeartbeats 8000000 in
set_option maxRecDepth 100000 in
theorem slices_Index_int_int.calls (k : Nat) (A0 : Option Addr) (c0 : Nat) (l0 : List Int) (a1 : Int) (r : Int) (w : World) (ct : Kd.C (Kd.int .i64) w A0 l0.length l0) (dq : l0.length ≤ c0) (h : slices_Index_int_int.f k l0 a1 = some r) :
  Calls Try.prog 128 #[.slice A0 l0.length c0, .int .i64 a1] w fun e w' => e = .returned (.int .i64 r) ∧ Drawn0 w w' := by
 have eg := Aside0.mk ct
 have jo := Aside0.mk dq
 clear ct dq
 have H : (slices_Index_int_int.l0 k l0 a1 (l0.length : Int) 0) = some r := h
 clear h
 have H' := Aside0.mk H
 clear H
 go_enter Try.func128, Try.ntmps128
 go_wp2
 go_loopg [8] k (fun kq v8 w' => ∃ (dj : Int), v8 = .int .i64 dj ∧ Aside0 (slices_Index_int_int.l0 kq l0 a1 (l0.length : Int) dj = some r) ∧ Aside0 (kq ≤ k) ∧ Drawn0 w w')
 case atStart => exact ⟨(0), (g2_), H', ⟨Nat.le_refl _⟩, g5_⟩
 case round =>
  clear H'
  try clear c1
  try clear p2
  obtain ⟨dj, rfl, HA, HK1, ⟨m1, rfl⟩⟩ := hrel
  cases gk with
  | zero => exact absurd HA.out (by simp [slices_Index_int_int.l0])
  | succ k1 =>
   have H := HA.out
   clear HA
   simp only [slices_Index_int_int.l0] at H
   by_cases c3 : dj < (l0.length : Int)
   ·rw [if_pos c3] at H
    have ft := decide_eq_true c3
    clear c3
    obtain ⟨c4, H⟩ := pos_ H
    have i8 := decide_eq_true c4
    clear c4
    obtain ⟨c5, H⟩ := pos_ H
    have ev := decide_eq_true c5
    clear c5
    by_cases c6 : a1 = (rd l0 dj)
    ·rw [if_pos c6] at H
     have gu : (a1 == (rd l0 dj)) = true := beq_iff_eq.mpr c6
     have xn : (a1 != (rd l0 dj)) = false := bne_eq_false_iff_eq.mpr c6
     clear c6
     obtain rfl := Option.some.inj H
     have ac2 : 0 ≤ (dj : Int) := of_decide_eq_true (g0_)
     have ac3 : dj < (l0.length : Int) := of_decide_eq_true (g0_)
     obtain ⟨fc4, cj6, fc5⟩ := Kd.at_int eg.out dj ac2 ac3
     cases cj6
     replace ac2 := eq_true ac2
     replace ac3 := eq_true ac3
     go_wp2
     go_ret
     exact ⟨g2_, g5_⟩
    ·rw [if_neg c6] at H
     have gu : (a1 == (rd l0 dj)) = false := beq_eq_false_iff_ne.mpr c6
     have xn : (a1 != (rd l0 dj)) = true := bne_iff_ne.mpr c6
     have H' := Aside0.mk H
     clear H
     have ac2 : 0 ≤ (dj : Int) := of_decide_eq_true (g0_)
     have ac3 : dj < (l0.length : Int) := of_decide_eq_true (g0_)
     obtain ⟨fc4, cj6, fc5⟩ := Kd.at_int eg.out dj ac2 ac3
     cases cj6
     replace ac2 := eq_true ac2
     replace ac3 := eq_true ac3
     go_wp2
     go_roundg k1
     case measure => have := HK1.out; omega
     case rel => exact ⟨(wrap64 (dj + 1)), (g2_), H', ⟨g9_⟩, g5_⟩
   ·rw [if_neg c3] at H
    have ft := decide_eq_false c3
    clear c3
    obtain rfl := Option.some.inj H
    go_wp2
    go_ret
    exact ⟨g2_, g5_⟩
def slices_Contains_int_int.f (k : Nat) (l0 : List Int) (a1 : Int) : Option (Bool) := (slices_Index_int_int.f k l0 a1).bind fun az0 => (some (decide (az0 ≥ 0)))
theorem slices_Contains_int_int.mq {p : Prop} (h : p := by
 repeat' first
 | (with_reducible exact slices_Index_int_int.mono _ _ _)
 | (with_reducible exact LeO.refl _)
 | (with_reducible exact LeO.none _)
 | (with_reducible refine LeO.ite ?_ ?_)
 | (with_reducible refine LeO.bind ?_ (fun _ => ?_))
 | exact slices_Index_int_int.mono _ _ _
 | exact LeO.none _
 | refine LeO.ite ?_ ?_
 | refine LeO.bind ?_ (fun _ => ?_)) : p := h
theorem slices_Contains_int_int.mono : ∀ a0 a1 k, LeO (slices_Contains_int_int.f k a0 a1) (slices_Contains_int_int.f (k + 1) a0 a1) := by
 intro a0 a1 k
 unfold slices_Contains_int_int.f
 exact slices_Contains_int_int.mq
set_option maxHeartbeats 8000000 in
set_option maxRecDepth 100000 in
theorem slices_Contains_int_int.calls (k : Nat) (A0 : Option Addr) (c0 : Nat) (l0 : List Int) (a1 : Int) (r : Bool) (w : World) (ct : Kd.C (Kd.int .i64) w A0 l0.length l0) (dq : l0.length ≤ c0) (h : slices_Contains_int_int.f k l0 a1 = some r) :
  Calls Try.prog 116 #[.slice A0 l0.length c0, .int .i64 a1] w fun e w' => e = .returned (.bool r) ∧ Drawn0 w w' := by
 have eg := Aside0.mk ct
 have jo := Aside0.mk dq
 clear ct dq
 have H : ((slices_Index_int_int.f k l0 a1).bind fun az0 => (some (decide (az0 ≥ 0)))) = some r := h
 clear h
 obtain ⟨az0, A3, H⟩ := bind_ H
 obtain rfl := Option.some.inj H
 go_enter Try.func116, Try.ntmps116
 go_wp2_with (first | ((with_reducible refine gate_callee (f := 128) rfl ?_); refine goesL_ (some 7) rfl rfl Try.func128 k_ rfl #[.slice A0 l0.length c0, .int .i64 a1] rfl (g3_) ?_; (with_reducible refine (slices_Index_int_int.calls k _ _ l0 a1 az0 _ ?side1 ?side2 A3.out).mono ?_); (case side1 => repeat (first | exact eg.out | (with_reducible refine Kd.C_alloc ?_ _) | (with_reducible refine Kd.C_drewN ?_ _) | (with_reducible refine Kd.C_drew ?_))); (case side2 => exact jo.out); rintro e w' ⟨rfl, ⟨nd, rfl⟩⟩; refine ⟨_, rfl, ?_⟩))
 go_ret
 exact ⟨g2_, g5_⟩
end Go.Proofs.Ytfooakkhkehpiaa.PU
namespace Go.Proofs.Ytfooakkhkehpiaa.PU
open Go.RowKit Go.Proofs.YtfooakkhkehpiaaW.PrintWords Go.Proofs.YtfooakkhkehpiaaW.PrintLast Go.Proofs.YtfooakkhkehpiaaW.PrintMore
attribute [local go_sem] max2_int min2_int max_two min_two max_three min_three max_four min_four   -- for this text's walks alone
set_option linter.unusedVariables false
set_option linter.unusedSimpArgs false
section
open Go.Shelf Go.Lib
namespace Circ
theorem two_ints (w : World) (a b : Int) : Kd.C (Kd.int .i64) (w.alloc (.cells #[.int .i64 a, .int .i64 b] 3)) (some ⟨w.heap.size, 0, none⟩) 2 [a, b] := by
  have hh : (w.alloc (.cells #[.int .i64 a, .int .i64 b] 3)).heap[w.heap.size]? = some (.cells #[.int .i64 a, .int .i64 b] 3 (0, 0)) := by rw [show (w.alloc (.cells #[.int .i64 a, .int .i64 b] 3)).heap = w.heap.push (.cells #[.int .i64 a, .int .i64 b] 3) from rfl]; simp
  refine ⟨rfl, by decide, fun _ => ⟨⟨w.heap.size, 0, none⟩, rfl, fun j p hj => ⟨[.int .i64 p], rfl, rfl, fun i u hu => ?_⟩⟩⟩
  have hi : i = 0 := by
    have := (List.getElem?_eq_some_iff.1 hu).1
    simp at this; exact this
  subst hi
  have hu' : u = .int .i64 p := by simpa using hu.symm
  subst hu'
  have hs : (Kd.int .i64).sz = 1 := rfl
  rw [hs, add_at, Nat.mul_one, Nat.add_zero, Nat.zero_add, blk_cell hh j]
  have hj2 : j < 2 := (List.getElem?_eq_some_iff.1 hj).1
  rcases (by omega : j = 0 ∨ j = 1) with rfl | rfl
  · have : a = p := by simpa using hj
    subst this; rfl
  · have : b = p := by simpa using hj
    subst this; rfl
def cmpv (k : Nat) (l0 l1 : List Int) : Option Int := (cmp_Compare_int.f (l0.length : Int) (l1.length : Int)).bind fun a => (slices_Compare_int_int.f k l0 l1).bind fun b => cmp_Or_int.f k [a, b]
set_option maxHeartbeats 4000000 in
set_option maxRecDepth 100000 in
theorem circles2 (k : Nat) (A0 : Option Addr) (c0 : Nat) (l0 : List Int) (A1 : Option Addr) (c1 : Nat) (l1 : List Int) (r : Int) (w : World) (hr0 : Kd.C (Kd.int .i64) w A0 l0.length l0) (hc0 : l0.length ≤ c0) (hr1 : Kd.C (Kd.int .i64) w A1 l1.length l1) (hc1 : l1.length ≤ c1) (h : cmpv k l0 l1 = some r) :
    Calls Try.prog 118 #[.slice A0 l0.length c0, .slice A1 l1.length c1] w fun e w' => e = .returned (.int .i64 r) ∧ ∃ n1 o n2, w' = ((w.drewN n1).alloc o).drewN n2 := by
  have HR0 := Aside0.mk hr0
  have HR1 := Aside0.mk hr1
  obtain ⟨a, ha, h⟩ := Option.bind_eq_some_iff.mp h
  obtain ⟨b, hb, h⟩ := Option.bind_eq_some_iff.mp h
  have HA := Aside0.mk ha
  have HB := Aside0.mk hb
  have HO := Aside0.mk h
  clear hr0 hr1 ha hb h
  go_enter Try.func118, Try.ntmps118
  go_wp2_with (first | (go_at_call 120; refine (cmp_Compare_int.calls _ _ a _ HA.out).mono ?_; rintro e w1 ⟨rfl, ⟨n1, rfl⟩⟩) | (go_at_call 121; refine (slices_Compare_int_int.calls k _ _ l0 _ _ l1 b _ ?s1 ?s2 ?s3 ?s4 HB.out).mono ?_; (case s1 => repeat (first | exact HR0.out | (with_reducible refine Kd.C_drewN ?_ _) | (with_reducible refine Kd.C_drew ?_))); (case s2 => exact hc0); (case s3 => repeat (first | exact HR1.out | (with_reducible refine Kd.C_drewN ?_ _) | (with_reducible refine Kd.C_drew ?_))); (case s4 => exact hc1); rintro e w2 ⟨rfl, ⟨n2, rfl⟩⟩) | (go_at_call 119; refine (cmp_Or_int.calls k _ 2 [a, b] r _ ?s1 ?s2 HO.out).mono ?_; (case s1 => exact two_ints _ a b); (case s2 => exact Nat.le_refl _); rintro e w3 ⟨rfl, ⟨n3, rfl⟩⟩))
  go_ret
  exact ⟨rfl, _, _, _, rfl⟩
section
open Go.Sort
def rn : Ren := ⟨fun _ => 133, fun n => if n = 22 then 23 else if n = 24 then 22 else if n = 25 then 120 else n, fun n => n⟩
set_option maxRecDepth 100000 in
theorem laid : SlLaysF.n20 Try.prog rn := {
  mixed := by kernel_rfl
  f20 := ⟨"slices.insertionSortCmpFunc[[]int]", by kernel_rfl, by kernel_rfl⟩
  t0 := by kernel_rfl
  a0 := fun _ => rfl
  z0 := fun _ => rfl
  v0 := fun _ => rfl
  t3 := by kernel_rfl
  a3 := fun _ => rfl
  z3 := fun _ => rfl
  v3 := fun _ => rfl
  t4 := by kernel_rfl
  a4 := fun _ => rfl
  z4 := fun _ => rfl
  v4 := fun _ => rfl
  t22 := by kernel_rfl
  a22 := fun _ => rfl
  z22 := fun _ => rfl
  v22 := fun _ => rfl
  a24 := fun _ => rfl
  z24 := fun _ => rfl
  t25 := by kernel_rfl
  a25 := fun _ => rfl
  z25 := fun _ => rfl
  v25 := fun _ => rfl }
end
def cmpI (a b : Int) : Int := if a < b then -1 else if a > b then 1 else 0
def lexc : List Int → List Int → Int
  | [], b => if 0 < b.length then -1 else 0
  | _ :: _, [] => 1
  | a :: r, b :: s => if cmpI a b = 0 then lexc r s else cmpI a b
def cmpl (a b : List Int) : Int := if cmpI (a.length : Int) (b.length : Int) = 0 then lexc a b else cmpI (a.length : Int) (b.length : Int)
theorem compI (a b : Int) : cmp_Compare_int.f a b = some (cmpI a b) := by
  unfold cmp_Compare_int.f cmp_isNaN_int.f cmpI
  by_cases h : a < b
  · simp [h]
  · by_cases h2 : a > b
    · simp [h, h2]
    · simp [h, h2]
theorem c_drop (xs : List Int) (i : Nat) (h : i < xs.length) : xs.drop i = rd xs (i : Int) :: xs.drop (i + 1) := by
  rw [List.drop_eq_getElem_cons h]; simp [rd, List.getD_eq_getElem?_getD, List.getElem?_eq_getElem h]
theorem lex_l (a b : List Int) (ha : a.length ≤ 9223372036854775807) : ∀ (e i k : Nat), a.length - i = e → i ≤ a.length → e < k → slices_Compare_int_int.l0 k a b a (a.length : Int) (i : Int) = some (lexc (a.drop i) (b.drop i)) := by
  intro e
  induction e with
  | zero =>
    intro i k he hi hk
    obtain ⟨k, rfl⟩ : ∃ m, k = m + 1 := ⟨k - 1, by omega⟩
    obtain rfl : i = a.length := by omega
    simp only [slices_Compare_int_int.l0]
    rw [if_neg (by omega), List.drop_length, lexc]
    by_cases h : a.length < b.length
    · rw [if_pos (by omega), if_pos (by rw [List.length_drop]; omega)]
    · rw [if_neg (by omega), if_neg (by rw [List.length_drop]; omega)]
  | succ e ih =>
    intro i k he hi hk
    obtain ⟨k, rfl⟩ : ∃ m, k = m + 1 := ⟨k - 1, by omega⟩
    have hw : wrap64 ((i : Int) + 1) = ((i + 1 : Nat) : Int) := by unfold wrap64; omega
    simp only [slices_Compare_int_int.l0]
    rw [if_pos (by omega), if_pos (by omega), if_pos (by omega), hw, c_drop a i (by omega)]
    by_cases h : i < b.length
    · rw [if_neg (by omega), if_pos (by omega), compI, Option.bind_some, c_drop b i h, lexc]
      by_cases hc : cmpI (rd a (i : Int)) (rd b (i : Int)) = 0
      · rw [if_pos hc, if_pos hc]
        exact ih (i + 1) k (by omega) (by omega) (by omega)
      · rw [if_neg hc, if_neg hc]
    · rw [if_pos (by omega), List.drop_of_length_le (show b.length ≤ i by omega), lexc]
theorem orI (a b : Int) : cmp_Or_int.f 3 [a, b] = some (if a = 0 then b else a) := by
  unfold cmp_Or_int.f
  have w1 : wrap64 (1 : Int) = 1 := by unfold wrap64; omega
  have w2 : wrap64 (2 : Int) = 2 := by unfold wrap64; omega
  have e0 : ∀ x y : Int, rd [x, y] 0 = x := fun _ _ => rfl
  have e1 : ∀ x y : Int, rd [x, y] 1 = y := fun _ _ => rfl
  by_cases h : a = 0
  · by_cases h2 : b = 0
    · simp [cmp_Or_int.l0, w1, w2, e0, e1, h, h2]
    · simp [cmp_Or_int.l0, w1, w2, e0, e1, h, h2]
  · simp [cmp_Or_int.l0, e0, h]
theorem cmpv_ev (a b : List Int) (ha : a.length ≤ 9223372036854775807) : ∃ k, cmpv k a b = some (cmpl a b) := by
  refine ⟨a.length + 3, ?_⟩
  unfold cmpv cmpl
  rw [compI, Option.bind_some]
  unfold slices_Compare_int_int.f
  have := lex_l a b ha a.length 0 (a.length + 3) (by omega) (by omega) (by omega)
  rw [List.drop_zero, List.drop_zero] at this
  rw [show ((0 : Nat) : Int) = 0 from rfl] at this
  rw [this, Option.bind_some]
  have hm : ∀ n, cmp_Or_int.f (n + 3) [cmpI (a.length : Int) (b.length : Int), lexc a b] = some (if cmpI (a.length : Int) (b.length : Int) = 0 then lexc a b else cmpI (a.length : Int) (b.length : Int)) := by
    intro n
    induction n with
    | zero => exact orI _ _
    | succ n ih => exact cmp_Or_int.mono _ _ _ ih
  exact hm _
def El (w0 : World) (okk : Nat → Prop) : Type := { x : Option Addr × Nat × List Int // x.2.2.length ≤ x.2.1 ∧ Kd.F (Kd.int .i64) w0 okk x.1 x.2.2.length x.2.2 }
instance {w0 : World} {okk : Nat → Prop} : Inhabited (El w0 okk) := ⟨⟨(none, 0, []), Nat.le_refl _, Kd.F_nil _ _ _⟩⟩
def El.enc {w0 : World} {okk : Nat → Prop} (x : El w0 okk) : Value := .slice x.1.1 x.1.2.2.length x.1.2.1
def El.l {w0 : World} {okk : Nat → Prop} (x : El w0 okk) : List Int := x.1.2.2
def El.cf {w0 : World} {okk : Nat → Prop} (x y : El w0 okk) : Int := cmpl x.l y.l
section
variable {w0 W : World} {okk ok : Nat → Prop} {blk n cap base : Nat} {xs : List (List Int)}
theorem El.one : OneCell (El.enc : El w0 okk → Value) := fun _ => rfl
theorem el_of {x : List Int} {c : List Value} (h : Kd.FK (Kd.slice 3 (Kd.int .i64)) w0 okk x c) : ∃ e : El w0 okk, e.l = x ∧ [e.enc] = c := by
  obtain ⟨A, cp, rfl, hl, hC⟩ := Kd.FK_now h
  refine ⟨⟨(A, cp, x), hl, fun W' hW => ?_⟩, rfl, rfl⟩
  obtain ⟨A', cp', he, _, hC'⟩ := h W' hW
  have h1 := congrArg (fun l => l[0]?) he
  have h2 := Option.some.inj (show some (Value.slice A x.length cp) = some (Value.slice A' x.length cp') from h1)
  injection h2 with h3 _ _
  show Kd.C (Kd.int .i64) W' A x.length x
  rw [h3]; exact hC'
theorem els_of : ∀ (ys : List (List Int)) (cs : List (List Value)), ys.length = cs.length → (∀ (j : Nat) (x : List Int) (c : List Value), ys[j]? = some x → cs[j]? = some c → Kd.FK (Kd.slice 3 (Kd.int .i64)) w0 okk x c) → ∃ ds : List (El w0 okk), ds.map El.l = ys ∧ ds.map (fun x => [x.enc]) = cs
  | [], cs, hl, _ => ⟨[], rfl, by cases cs with
    | nil => rfl
    | cons a r => simp at hl⟩
  | y :: ys, [], hl, _ => by simp at hl
  | y :: ys, c :: cs, hl, h => by
    obtain ⟨e, h1, h2⟩ := el_of (h 0 y c rfl rfl)
    obtain ⟨ds, h3, h4⟩ := els_of ys cs (by simpa using hl) (fun j x c hx hc => h (j + 1) x c (by simpa using hx) (by simpa using hc))
    exact ⟨e :: ds, by simp [h1, h3], by simp [h2, h4]⟩
theorem blk_holds (d : Array (El w0 okk)) {cur : Array Value} (hh : w0.heap[blk]? = some (.cells cur 22 (0, 0))) (hc : ∀ j, j < d.size → cur[j]? = some (d[j]!).enc) : Go.Sort.Holds El.enc w0 blk 0 d := fun j hj => by
  rw [Nat.zero_add]
  exact ⟨(blk_cell hh j).trans (hc j hj), blk_frozen hh j⟩
theorem sw_heap {d' : Array (El w0 okk)} (S : SW El.enc w0 blk 0 d' W) (hblk : blk < w0.heap.size) : Kept w0 W (fun k => k = blk) ∧ W.os = w0.os ∧ W.tape = w0.tape ∧ W.output = w0.output ∧ ∀ {cur : Array Value}, w0.heap[blk]? = some (.cells cur 22 (0, 0)) → W.heap[blk]? = some (.cells (Go.Sort.putCells El.enc 0 d' cur) 22 (0, 0)) := by
  obtain ⟨m, os, rfl⟩ := S
  have hs : (Go.Sort.putRow El.enc (Go.Sort.ahead w0 m) blk 0 d').heap.size = w0.heap.size := by rw [size_putRow]; rfl
  refine ⟨⟨?_, fun k hk hn => ?_⟩, rfl, rfl, rfl, fun {cur} hh => ?_⟩
  · unfold sortWorld; rw [Go.Sort.size_grow, hs]; omega
  · show ((Go.Sort.putRow El.enc (Go.Sort.ahead w0 m) blk 0 d').heap ++ os)[k]? = _
    rw [Array.getElem?_append_left (by rw [hs]; exact hk)]
    show (w0.heap.modify blk _)[k]? = _
    rw [Array.getElem?_modify, if_neg (fun e => hn e.symm)]
  · show ((Go.Sort.putRow El.enc (Go.Sort.ahead w0 m) blk 0 d').heap ++ os)[blk]? = _
    rw [Array.getElem?_append_left (by rw [hs]; exact hblk)]
    show (w0.heap.modify blk _)[blk]? = _
    rw [Array.getElem?_modify, if_pos rfl, hh]
    rfl
end
section
variable {w0 W : World} {ok : Nat → Prop} {blk n cap base : Nat} {xs : List (List Int)}
structure RowOf (w0 : World) (base : Nat) (ok : Nat → Prop) (blk n cap : Nat) (cur : Array Value) (d : Array (El w0 (fun k => ok k ∧ k ≠ blk))) : Prop where
  hh : w0.heap[blk]? = some (.cells cur 22 (0, 0))
  hd : d.size = n
  hc : ∀ j, j < d.size → cur[j]? = some (d[j]!).enc
  hb : base ≤ blk
  hn : n ≤ cap
  hm : cap ≤ maxLen
  hs : cur.size = cap
  hok : ok blk
theorem N_els (h : Kd.N (Kd.slice 3 (Kd.int .i64)) 22 w0 base ok (.slice (some ⟨blk, 0, none⟩) n cap) xs) :
    ∃ cur d, RowOf w0 base ok blk n cap cur d ∧ d.toList.map El.l = xs := by
  obtain ⟨h0, rows, hl, hR, hF⟩ := h
  have hbl : (Value.slice (some ⟨blk, 0, none⟩) n cap).ownBlock = some blk := by simp [Value.ownBlock]
  obtain ⟨ds, h1, h2⟩ := els_of (w0 := w0) (okk := fun k => ok k ∧ k ≠ blk) xs rows hl.symm (fun j x c hx hc => Foot.mono (hF j x c hx hc) (fun k hk => ⟨hk.1, fun e => hk.2 (by rw [hbl, e])⟩))
  obtain ⟨_, inner, ho, hr⟩ := hR
  rcases ho.2 with ⟨hv, _⟩ | ⟨g, cap', cur, hv, hg, hh, hn, hm, hs, ht⟩
  · cases hv
  injection hv with hA hN hC
  injection hA with hA
  injection hA with hA
  subst hA; subst hC
  have hsz : (Kd.raw (Kd.slice 3 (Kd.int .i64)).sz).sz = 1 := rfl
  rw [hsz] at hs ht hr
  rw [Nat.mul_one] at hs ht
  have hdl : ds.length = rows.length := by rw [← h2, List.length_map]
  refine ⟨cur, ds.toArray, ⟨hh, by simp [hdl, hN], fun j hj => ?_, hg, by omega, hm, hs, h0 blk hbl⟩, by simpa using h1⟩
  have hj' : j < ds.length := by simpa using hj
  have hjr : rows[j]? = some [(ds[j]).enc] := by rw [← h2, List.getElem?_map, List.getElem?_eq_getElem hj']; rfl
  have hM := hr.2 j _ hjr
  have e1 : (inner.drop (j * 1)).take 1 = [(ds[j]).enc] := hM.1
  rw [Nat.mul_one] at e1
  have hil : inner.length = rows.length := by have := hr.1; omega
  have e2 : inner[j]? = some (ds[j]).enc := by
    have hji : j < inner.length := by omega
    rw [List.drop_eq_getElem_cons hji, List.take_succ_cons, List.take_zero] at e1
    injection e1 with e5 _
    rw [List.getElem?_eq_getElem hji, e5]
  have e3 : cur.toList[j]? = some (ds[j]).enc := by
    rw [← e2, ← ht, List.getElem?_take, if_pos (by omega)]
  have e4 : (ds.toArray)[j]! = ds[j] := by simp [hj']
  rw [e4, ← Array.getElem?_toList]
  exact e3
theorem put_take {okk : Nat → Prop} (cur : Array Value) (d' : Array (El w0 okk)) (h : d'.size ≤ cur.size) : (Go.Sort.putCells El.enc 0 d' cur).toList.take d'.size = d'.toList.map El.enc := by
  apply List.ext_getElem?
  intro j
  rw [List.getElem?_take, List.getElem?_map, Array.getElem?_toList, Array.getElem?_toList]
  unfold Go.Sort.putCells
  rw [Array.getElem?_mapIdx]
  by_cases hj : j < d'.size
  · rw [if_pos hj, Array.getElem?_eq_getElem (show j < cur.size by omega), Array.getElem?_eq_getElem hj]
    simp only [Option.map_some]
    rw [if_pos ⟨Nat.zero_le _, by omega⟩, Nat.sub_zero, getElem!_pos d' j hj]
  · rw [if_neg hj, Array.getElem?_eq_none (by omega)]; rfl
theorem N_back {cur : Array Value} {d d' : Array (El w0 (fun k => ok k ∧ k ≠ blk))} (R : RowOf w0 base ok blk n cap cur d) (hs : d'.size = n) (S : SW El.enc w0 blk 0 d' W) :
    Kd.N (Kd.slice 3 (Kd.int .i64)) 22 W base ok (.slice (some ⟨blk, 0, none⟩) n cap) (d'.toList.map El.l) := by
  have hblk : blk < w0.heap.size := (Array.getElem?_eq_some_iff.1 R.hh).1
  obtain ⟨hk, _, _, _, hcur⟩ := sw_heap S hblk
  have hbl : (Value.slice (some ⟨blk, 0, none⟩) n cap).ownBlock = some blk := by simp [Value.ownBlock]
  have hsz : (Kd.raw (Kd.slice 3 (Kd.int .i64)).sz).sz = 1 := rfl
  refine ⟨fun k hk => ?_, d'.toList.map (fun x => [x.enc]), by simp, ⟨fun k hk => hk.symm, d'.toList.map El.enc, ?_, ?_, ?_⟩, fun j x c hx hc => ?_⟩
  · rw [hbl] at hk; injection hk with hk; subst hk; exact R.hok
  · rw [hsz]
    refine ⟨by simp, .inr ⟨blk, cap, _, ?_, R.hb, hcur R.hh, ?_, R.hm, ?_, ?_⟩⟩
    · simp [hs]
    · simp [hs]; exact R.hn
    · rw [Nat.mul_one]; unfold Go.Sort.putCells; rw [Array.size_mapIdx]; exact R.hs
    · rw [Nat.mul_one]
      have := put_take cur d' (by rw [hs, R.hs]; exact R.hn)
      simpa using this
  · rw [hsz]; simp
  · intro j p hj
    have hj' : j < d'.toList.length := by have := (List.getElem?_eq_some_iff.1 hj).1; simpa using this
    rw [List.getElem?_map, List.getElem?_eq_getElem hj'] at hj
    have hp : p = [(d'.toList[j]).enc] := (Option.some.inj hj).symm
    subst hp
    have ecs : ((d'.toList.map El.enc).drop (j * 1)).take 1 = [(d'.toList[j]).enc] := by
      rw [Nat.mul_one, List.drop_eq_getElem_cons (by simpa using hj'), List.take_succ_cons, List.take_zero]; simp
    rw [hsz, ecs]
    exact ⟨rfl, rfl, fun u hu => by rw [List.mem_singleton.1 hu]; rfl⟩
  · have hj' : j < d'.toList.length := by have := (List.getElem?_eq_some_iff.1 hx).1; simpa using this
    rw [List.getElem?_map, List.getElem?_eq_getElem hj'] at hx hc
    obtain rfl := Option.some.inj hx
    obtain rfl := Option.some.inj hc
    have hF := (d'.toList[j]).2.2
    have hF2 : Kd.F (Kd.int .i64) W (fun k => ok k ∧ k ≠ blk) _ _ _ := Kd.F_kept hF hk (fun k hk => hk.2)
    intro W' hW
    exact ⟨(d'.toList[j]).1.1, (d'.toList[j]).1.2.1, rfl, (d'.toList[j]).2.1, hF2 W' (fun k hk hlt => hW k ⟨hk.1, fun e => hk.2 (by rw [hbl] at e; injection e)⟩ hlt)⟩
end
def insL : Nat → List (List Int) → List (List Int)
  | 0, xs => xs
  | j + 1, xs => if cmpl (xs.getD (j + 1) []) (xs.getD j []) < 0 then insL j ((xs.set (j + 1) (xs.getD j [])).set j (xs.getD (j + 1) [])) else xs
def srtL : Nat → Nat → List (List Int) → List (List Int)
  | 0, _, xs => xs
  | e + 1, i, xs => srtL e (i + 1) (insL i xs)
section
variable {w0 W : World} {okk ok : Nat → Prop} {blk n cap base : Nat} {xs : List (List Int)}
theorem mp_get (d : Array (El w0 okk)) {j : Nat} (hj : j < d.size) : (d.toList.map El.l).getD j [] = (d[j]!).l := by
  rw [List.getD_eq_getElem?_getD, List.getElem?_map, Array.getElem?_toList, Array.getElem?_eq_getElem hj, getElem!_pos d j hj]; rfl
theorem mp_set (d : Array (El w0 okk)) (j : Nat) (x : El w0 okk) : (d.setIfInBounds j x).toList.map El.l = (d.toList.map El.l).set j x.l := by
  rw [Array.toList_setIfInBounds, List.map_set]
theorem ins_eq : ∀ (j : Nat) (d : Array (El w0 okk)), j < d.size → (Go.Sort.insInner (ltOf El.cf) 0 j d).toList.map El.l = insL j (d.toList.map El.l) ∧ (Go.Sort.insInner (ltOf El.cf) 0 j d).size = d.size
  | 0, d, _ => ⟨rfl, rfl⟩
  | j + 1, d, hj => by
    rw [Go.Sort.insInner, insL, mp_get d hj, mp_get d (show j < d.size by omega)]
    by_cases h : cmpl (d[j + 1]!).l (d[j]!).l < 0
    · have hl : (decide (j + 1 > 0) && ltOf El.cf d[j + 1]! d[j]!) = true := by
        rw [Bool.and_eq_true]; exact ⟨decide_eq_true (by omega), decide_eq_true h⟩
      rw [if_pos hl, if_pos h]
      have hs : (Go.Sort.swp d (j + 1) j).size = d.size := by unfold Go.Sort.swp; simp
      obtain ⟨h1, h2⟩ := ins_eq j (Go.Sort.swp d (j + 1) j) (by omega)
      refine ⟨?_, by rw [h2, hs]⟩
      rw [h1]
      congr 1
      unfold Go.Sort.swp
      rw [mp_set, mp_set]
    · have hl : ¬ (decide (j + 1 > 0) && ltOf El.cf d[j + 1]! d[j]!) = true := by
        rw [Bool.and_eq_true]; rintro ⟨_, z⟩; exact h (of_decide_eq_true z)
      rw [if_neg hl, if_neg h]
      exact ⟨rfl, rfl⟩
theorem srt_eq : ∀ (e i b : Nat) (d : Array (El w0 okk)), b - i = e → b ≤ d.size → (Go.Sort.insOuter (ltOf El.cf) 0 b i d).toList.map El.l = srtL e i (d.toList.map El.l) ∧ (Go.Sort.insOuter (ltOf El.cf) 0 b i d).size = d.size
  | 0, i, b, d, he, hb => by
    rw [Go.Sort.insOuter, if_neg (by omega)]
    exact ⟨rfl, rfl⟩
  | e + 1, i, b, d, he, hb => by
    rw [Go.Sort.insOuter, if_pos (by omega), srtL]
    obtain ⟨h1, h2⟩ := ins_eq i d (by omega)
    obtain ⟨h3, h4⟩ := srt_eq e (i + 1) b (Go.Sort.insInner (ltOf El.cf) 0 i d) (by omega) (by omega)
    exact ⟨by rw [h3, h1], by rw [h4, h2]⟩
theorem cmp_lays (hblk : blk < w0.heap.size) (size : Nat) : CmpLays1 Try.prog 118 #[] (El.enc : El w0 (fun k => ok k ∧ k ≠ blk) → Value) El.cf blk 0 size w0 := by
  intro m os dk hs x y
  have S : SW El.enc w0 blk 0 dk (sortWorld El.enc w0 blk 0 m dk os) := ⟨m, os, rfl⟩
  have hk := (sw_heap S hblk).1
  have hx := x.2.2 (sortWorld El.enc w0 blk 0 m dk os) (fun k hk' hlt => hk.2 k hlt hk'.2)
  have hy := y.2.2 (sortWorld El.enc w0 blk 0 m dk os) (fun k hk' hlt => hk.2 k hlt hk'.2)
  obtain ⟨k, hkv⟩ := cmpv_ev x.l y.l hx.2.1
  refine (circles2 k _ _ x.l _ _ y.l _ _ hx x.2.1 hy y.2.1 hkv).mono ?_
  rintro e w' ⟨rfl, n1, o, n2, rfl⟩
  exact ⟨rfl, n1 + n2, #[o], by rw [Go.Sort.alloc_eq_grow]; simp [World.drewN, Go.Sort.grow, Nat.add_assoc]⟩
def Sorted (w0 : World) (base : Nat) (ok : Nat → Prop) (blk n cap : Nat) (ys : List (List Int)) (w' : World) : Prop :=
  Kd.N (Kd.slice 3 (Kd.int .i64)) 22 w' base ok (.slice (some ⟨blk, 0, none⟩) n cap) ys ∧ Kept w0 w' (fun k => k = blk) ∧ w'.os = w0.os ∧ w'.tape = w0.tape ∧ w'.output = w0.output
theorem ins133 (h : Kd.N (Kd.slice 3 (Kd.int .i64)) 22 w0 base ok (.slice (some ⟨blk, 0, none⟩) n cap) xs) (hn : n ≤ 1000) (a : Nat) (ha : a = 0 ∨ a = n) :
    Calls Try.prog 133 #[.slice (some ⟨blk, 0, none⟩) n cap, .int .i64 (a : Int), .int .i64 (n : Int), .func (.func 118) #[] #[]] w0 fun e w' => e = .returned (.tuple #[]) ∧ Sorted w0 base ok blk n cap (if a = 0 then srtL (n - 1) 1 xs else xs) w' := by
  obtain ⟨cur, d, R, hx⟩ := N_els h
  have hblk : blk < w0.heap.size := (Array.getElem?_eq_some_iff.1 R.hh).1
  have hH := blk_holds d R.hh R.hc
  have hmain := Any.insertionSortCmpFunc_s laid El.enc El.cf 118 #[] blk 0 cap a n d d w0 w0 (enters_of Try.func118 (by kernel_rfl) rfl) (cmp_lays hblk d.size) ⟨El.one, hH, hblk⟩ rfl (SW.start hH) (by omega) (by rw [R.hd]; exact Nat.le_refl _) (by rw [R.hd]; omega)
  rw [R.hd] at hmain
  refine hmain.mono ?_
  rintro e w' ⟨rfl, S⟩
  unfold Go.Sort.insertionSort at S
  have hb2 : n ≤ d.size := by rw [R.hd]; exact Nat.le_refl _
  obtain ⟨hk, ho, ht, hu, _⟩ := sw_heap S hblk
  have fin : (Go.Sort.insOuter (ltOf El.cf) a n (a + 1) d).size = n ∧ (Go.Sort.insOuter (ltOf El.cf) a n (a + 1) d).toList.map El.l = if a = 0 then srtL (n - 1) 1 xs else xs := by
    rcases ha with rfl | rfl
    · obtain ⟨h1, h2⟩ := srt_eq (n - 1) 1 n d (by omega) hb2
      exact ⟨by rw [h2, R.hd], by rw [if_pos rfl, h1, hx]⟩
    · rw [Go.Sort.insOuter, if_neg (by omega)]
      refine ⟨R.hd, ?_⟩
      by_cases h0 : a = 0
      · subst h0
        have : xs = [] := by
          rw [← hx]
          have : d.toList = [] := List.eq_nil_of_length_eq_zero (by simpa using R.hd)
          rw [this]; rfl
        rw [if_pos rfl, this]
        have : d.toList = [] := List.eq_nil_of_length_eq_zero (by simpa using R.hd)
        rw [this]; rfl
      · rw [if_neg h0, hx]
  refine ⟨rfl, ?_, hk, ho, ht, hu⟩
  rw [← fin.2]
  exact N_back R fin.1 S
end
section
variable {w0 w1 w2 : World} {ok : Nat → Prop} {blk n cap base : Nat} {xs ys : List (List Int)}
theorem Sorted.refl (h : Kd.N (Kd.slice 3 (Kd.int .i64)) 22 w0 base ok (.slice (some ⟨blk, 0, none⟩) n cap) xs) : Sorted w0 base ok blk n cap xs w0 := ⟨h, Kept.refl _ _, rfl, rfl, rfl⟩
theorem Sorted.drewN (h : Sorted w0 base ok blk n cap xs w1) (m : Nat) : Sorted w0 base ok blk n cap xs (w1.drewN m) := ⟨Kd.N_drewN h.1 m, Kept.drewN h.2.1 m, h.2.2⟩
theorem Sorted.drew (h : Sorted w0 base ok blk n cap xs w1) : Sorted w0 base ok blk n cap xs w1.drew := ⟨Kd.N_drew h.1, Kept.drew h.2.1, h.2.2⟩
theorem Sorted.trans (h : Sorted w0 base ok blk n cap xs w1) (k : Sorted w1 base ok blk n cap ys w2) : Sorted w0 base ok blk n cap ys w2 :=
  ⟨k.1, ⟨Nat.le_trans h.2.1.1 k.2.1.1, fun i hi hn => (k.2.1.2 i (Nat.lt_of_lt_of_le hi h.2.1.1) hn).trans (h.2.1.2 i hi hn)⟩, k.2.2.1.trans h.2.2.1, k.2.2.2.1.trans h.2.2.2.1, k.2.2.2.2.trans h.2.2.2.2⟩
theorem ins133b (h : Kd.N (Kd.slice 3 (Kd.int .i64)) 22 w0 base ok (.slice (some ⟨blk, 0, none⟩) n cap) xs) (hn : n ≤ 1000) (a : Nat) (ha : a = 0 ∨ a = n) (x y : Int) (hx : x = (a : Int)) (hy : y = (n : Int)) :
    Calls Try.prog 133 #[.slice (some ⟨blk, 0, none⟩) n cap, .int .i64 x, .int .i64 y, .func (.func 118) #[] #[]] w0 fun e w' => e = .returned (.tuple #[]) ∧ Sorted w0 base ok blk n cap (if a = 0 then srtL (n - 1) 1 xs else xs) w' := by
  subst hx; subst hy; exact ins133 h hn a ha
set_option maxHeartbeats 4000000 in
set_option maxRecDepth 100000 in
theorem ins133_0 (A : Option Addr) (c : Nat) (w : World) : Calls Try.prog 133 #[.slice A 0 c, .int .i64 0, .int .i64 0, .func (.func 118) #[] #[]] w fun e w' => e = .returned (.tuple #[]) ∧ Drawn0 w w' := by
  go_enter Try.func133, Try.ntmps133
  go_wp2
  repeat (go_quiet (fail); try go_wp2)
  go_loopg [8] 0 (fun kq v8 w' => v8 = .int .i64 1 ∧ Drawn0 w w')
  case atStart => exact ⟨rfl, by repeat (first | exact Drawn0.refl _ | apply Drawn0.step)⟩
  case round =>
    obtain ⟨rfl, ⟨m1, rfl⟩⟩ := hrel
    go_wp2
    repeat (go_quiet (fail); try go_wp2)
    go_end0
    exact ⟨rfl, by repeat (first | exact Drawn0.refl _ | apply Drawn0.step)⟩
set_option maxHeartbeats 4000000 in
set_option maxRecDepth 100000 in
theorem stable129_lt (h : Kd.N (Kd.slice 3 (Kd.int .i64)) 22 w0 base ok (.slice (some ⟨blk, 0, none⟩) n cap) xs) (hn : n < 20) :
    Calls Try.prog 129 #[.slice (some ⟨blk, 0, none⟩) n cap, .int .i64 (n : Int), .func (.func 118) #[] #[]] w0 fun e w' => e = .returned (.tuple #[]) ∧ Sorted w0 base ok blk n cap (srtL (n - 1) 1 xs) w' := by
  have HS := Aside0.mk (Sorted.refl h)
  have hc1 : decide ((20 : Int) ≤ (n : Int)) = false := decide_eq_false (by omega)
  have hc2 : decide ((20 : Int) < (n : Int)) = false := decide_eq_false (by omega)
  go_enter Try.func129, Try.ntmps129
  go_wp2
  go_loopg [7, 8] 0 (fun kq v7 v8 w' => v7 = .int .i64 0 ∧ v8 = .int .i64 20 ∧ Aside0 (Sorted w0 base ok blk n cap xs w'))
  case atStart => exact ⟨rfl, rfl, ⟨HS.out⟩⟩
  case round =>
    clear HS
    obtain ⟨rfl, rfl, HS⟩ := hrel
    go_wp2_with (go_at_call 133; refine (ins133 (show Kd.N (Kd.slice 3 (Kd.int .i64)) 22 _ base ok (.slice (some ⟨blk, 0, none⟩) n cap) _ by (repeat (first | with_reducible refine Kd.N_drewN ?_ _ | with_reducible refine Kd.N_drew ?_)); exact HS.out.1) (by omega) 0 (Or.inl rfl)).mono ?_; rintro e w9 ⟨rfl, hs⟩; have n0_ := Aside0.mk (Sorted.trans (show Sorted w0 base ok blk n cap _ _ by (repeat (first | with_reducible refine Sorted.drewN ?_ _ | with_reducible refine Sorted.drew ?_)); exact HS.out) hs); clear HS hs; have HS := n0_; clear n0_)
    go_loopg [6] 0 (fun kq v6 w' => v6 = .int .i64 20 ∧ Aside0 (Sorted w0 base ok blk n cap (srtL (n - 1) 1 xs) w'))
    case atStart => exact ⟨rfl, ⟨by (repeat (first | with_reducible refine Sorted.drewN ?_ _ | with_reducible refine Sorted.drew ?_)); exact HS.out⟩⟩
    case round =>
      clear HS
      obtain ⟨rfl, HS⟩ := hrel
      go_wp2
      go_end0
      exact ⟨rfl, by (repeat (first | with_reducible refine Sorted.drewN ?_ _ | with_reducible refine Sorted.drew ?_)); exact HS.out⟩
set_option maxHeartbeats 4000000 in
set_option maxRecDepth 100000 in
theorem stable129_20 (h : Kd.N (Kd.slice 3 (Kd.int .i64)) 22 w0 base ok (.slice (some ⟨blk, 0, none⟩) n cap) xs) (hn : n = 20) :
    Calls Try.prog 129 #[.slice (some ⟨blk, 0, none⟩) n cap, .int .i64 (n : Int), .func (.func 118) #[] #[]] w0 fun e w' => e = .returned (.tuple #[]) ∧ Sorted w0 base ok blk n cap (srtL (n - 1) 1 xs) w' := by
  have HS := Aside0.mk (Sorted.refl h)
  have hc1 : decide ((20 : Int) ≤ (n : Int)) = true := decide_eq_true (by omega)
  have hc2 : decide ((20 : Int) < (n : Int)) = false := decide_eq_false (by omega)
  have hc3 : decide ((40 : Int) ≤ (n : Int)) = false := decide_eq_false (by omega)
  have w40 : wrap64 ((20 : Int) + 20) = 40 := by unfold wrap64; omega
  have HN := Aside0.mk hn
  clear hn
  go_enter Try.func129, Try.ntmps129
  go_wp2
  go_loopg [7, 8] 1 (fun kq v7 v8 w' => (kq = 1 ∧ v7 = .int .i64 0 ∧ v8 = .int .i64 20 ∧ Aside0 (Sorted w0 base ok blk n cap xs w')) ∨ (v7 = .int .i64 (n : Int) ∧ v8 = .int .i64 40 ∧ Aside0 (Sorted w0 base ok blk n cap (srtL (n - 1) 1 xs) w')))
  case atStart => exact .inl ⟨rfl, rfl, rfl, ⟨HS.out⟩⟩
  case round =>
    clear HS
    rcases hrel with ⟨rfl, rfl, rfl, HS⟩ | ⟨rfl, rfl, HS⟩
    · go_wp2_with (go_at_call 133; refine (ins133b (show Kd.N (Kd.slice 3 (Kd.int .i64)) 22 _ base ok (.slice (some ⟨blk, 0, none⟩) n cap) _ by (repeat (first | with_reducible refine Kd.N_drewN ?_ _ | with_reducible refine Kd.N_drew ?_)); exact HS.out.1) (by have := HN.out; omega) 0 (Or.inl rfl) _ _ ?hx ?hy).mono ?_; (case hx => rfl); (case hy => have := HN.out; omega); rintro e w9 ⟨rfl, hs⟩; rw [if_pos rfl] at hs; have n0_ := Aside0.mk (Sorted.trans (show Sorted w0 base ok blk n cap _ _ by (repeat (first | with_reducible refine Sorted.drewN ?_ _ | with_reducible refine Sorted.drew ?_)); exact HS.out) hs); clear HS hs; have HS := n0_; clear n0_)
      go_roundg 0
      case measure => omega
      case rel => exact .inr ⟨by first | rfl | (rw [HN.out]; rfl), by first | rfl | (rw [w40]) | (simp only [i64_w]; rw [w40]), ⟨by (repeat (first | with_reducible refine Sorted.drewN ?_ _ | with_reducible refine Sorted.drew ?_)); exact HS.out⟩⟩
    · go_wp2_with (go_at_call 133; refine (ins133b (show Kd.N (Kd.slice 3 (Kd.int .i64)) 22 _ base ok (.slice (some ⟨blk, 0, none⟩) n cap) _ by (repeat (first | with_reducible refine Kd.N_drewN ?_ _ | with_reducible refine Kd.N_drew ?_)); exact HS.out.1) (by have := HN.out; omega) n (Or.inr rfl) _ _ ?hx ?hy).mono ?_; (case hx => first | rfl | (have := HN.out; omega)); (case hy => first | rfl | (have := HN.out; omega)); rintro e w9 ⟨rfl, hs⟩; rw [if_neg (by have := HN.out; omega)] at hs; have n0_ := Aside0.mk (Sorted.trans (show Sorted w0 base ok blk n cap _ _ by (repeat (first | with_reducible refine Sorted.drewN ?_ _ | with_reducible refine Sorted.drew ?_)); exact HS.out) hs); clear HS hs; have HS := n0_; clear n0_)
      go_loopg [6] 0 (fun kq v6 w' => v6 = .int .i64 20 ∧ Aside0 (Sorted w0 base ok blk n cap (srtL (n - 1) 1 xs) w'))
      case atStart => exact ⟨rfl, ⟨by (repeat (first | with_reducible refine Sorted.drewN ?_ _ | with_reducible refine Sorted.drew ?_)); exact HS.out⟩⟩
      case round =>
        clear HS
        obtain ⟨rfl, HS⟩ := hrel
        go_wp2
        go_end0
        exact ⟨rfl, by (repeat (first | with_reducible refine Sorted.drewN ?_ _ | with_reducible refine Sorted.drew ?_)); exact HS.out⟩
set_option maxHeartbeats 4000000 in
set_option maxRecDepth 100000 in
theorem stable129_0 (A : Option Addr) (c : Nat) (w : World) : Calls Try.prog 129 #[.slice A 0 c, .int .i64 0, .func (.func 118) #[] #[]] w fun e w' => e = .returned (.tuple #[]) ∧ Drawn0 w w' := by
  go_enter Try.func129, Try.ntmps129
  go_wp2
  go_loopg [7, 8] 0 (fun kq v7 v8 w' => v7 = .int .i64 0 ∧ v8 = .int .i64 20 ∧ Drawn0 w w')
  case atStart => exact ⟨rfl, rfl, by repeat (first | exact Drawn0.refl _ | apply Drawn0.step)⟩
  case round =>
    obtain ⟨rfl, rfl, ⟨m1, rfl⟩⟩ := hrel
    go_wp2_with (go_at_call 133; refine (ins133_0 A c _).mono ?_; rintro e w9 ⟨rfl, ⟨nd, rfl⟩⟩)
    go_loopg [6] 0 (fun kq v6 w' => v6 = .int .i64 20 ∧ Drawn0 w w')
    case atStart => exact ⟨rfl, by repeat (first | exact Drawn0.refl _ | exact ⟨_, rfl⟩ | exact ⟨_, World.drewN_drewN _ _ _⟩ | apply Drawn0.step)⟩
    case round =>
      obtain ⟨rfl, ⟨m2, rfl⟩⟩ := hrel
      go_wp2
      go_end0
      exact ⟨rfl, by repeat (first | exact Drawn0.refl _ | exact ⟨_, rfl⟩ | apply Drawn0.step)⟩
set_option maxHeartbeats 4000000 in
set_option maxRecDepth 100000 in
theorem sort117 (h : Kd.N (Kd.slice 3 (Kd.int .i64)) 22 w0 base ok (.slice (some ⟨blk, 0, none⟩) n cap) xs) (hn : n ≤ 20) :
    Calls Try.prog 117 #[.slice (some ⟨blk, 0, none⟩) n cap, .func (.func 118) #[] #[]] w0 fun e w' => e = .returned (.tuple #[]) ∧ Sorted w0 base ok blk n cap (srtL (n - 1) 1 xs) w' := by
  have hS : Calls Try.prog 129 #[.slice (some ⟨blk, 0, none⟩) n cap, .int .i64 (n : Int), .func (.func 118) #[] #[]] w0 fun e w' => e = .returned (.tuple #[]) ∧ Sorted w0 base ok blk n cap (srtL (n - 1) 1 xs) w' := by
    by_cases h20 : n < 20
    · exact stable129_lt h h20
    · exact stable129_20 h (by omega)
  have HS := Aside0.mk hS
  clear hS
  go_enter Try.func117, Try.ntmps117
  go_wp2_with (go_at_call 129; refine HS.out.mono ?_; rintro e w9 ⟨rfl, hs⟩)
  go_end0
  exact ⟨rfl, hs⟩
set_option maxHeartbeats 4000000 in
set_option maxRecDepth 100000 in
theorem sort117_0 (A : Option Addr) (c : Nat) (w : World) : Calls Try.prog 117 #[.slice A 0 c, .func (.func 118) #[] #[]] w fun e w' => e = .returned (.tuple #[]) ∧ Drawn0 w w' := by
  go_enter Try.func117, Try.ntmps117
  go_wp2_with (go_at_call 129; refine (stable129_0 A c _).mono ?_; rintro e w9 ⟨rfl, ⟨nd, rfl⟩⟩)
  go_end0
  exact ⟨rfl, by repeat (first | exact Drawn0.refl _ | exact ⟨_, rfl⟩ | apply Drawn0.step)⟩
end
def stepI (F : List Int → List (List Int)) (p row : List Int) (j : Nat) : List (List Int) :=
  if rd row (j : Int) = 0 ∨ (j : Int) < rd p 0 then [] else if (j : Int) = rd p 0 then [p] else if (j : Int) ∈ p then [] else F (p ++ [(j : Int)])
def rowI (F : List Int → List (List Int)) (p row : List Int) : Nat → Nat → List (List Int)
  | 0, _ => []
  | e + 1, j => stepI F p row j ++ rowI F p row e (j + 1)
def lastI (p : List Int) : Int := rd p ((p.length - 1 : Nat) : Int)
def walkI (d : List (List Int)) : Nat → List Int → List (List Int)
  | 0, _ => []
  | m + 1, p => rowI (walkI d m) p (d.getD (lastI p).toNat []) (d.getD (lastI p).toNat []).length 0
structure St (w0 : World) (gB gO gW : Nat) (AC : Option Addr) (nC cC : Nat) (AD : Option Addr) (nD cD : Nat) (vo : Value) (xs : List (List Int)) (w : World) : Prop where
  hB : Below w0.heap.size w0 w
  bB : w.heap[gB]? = some (.cells #[.slice AC nC cC, .slice AD nD cD] 25 (0, 0))
  bO : w.heap[gO]? = some (.cells #[vo] 23 (0, 0))
  bW : w.heap[gW]? = some (.cells #[.func (.func 115) #[] #[.pointer (some ⟨gB, 0, none⟩), .pointer (some ⟨gO, 0, none⟩), .pointer (some ⟨gW, 0, none⟩)]] 115 (0, 0))
  hN : Kd.N (Kd.slice 3 (Kd.int .i64)) 22 w w0.heap.size (fun k => w0.heap.size ≤ k ∧ k ≠ gO) vo xs
def Kp (gO : Nat) (w : World) (vo : Value) (w' : World) (vo' : Value) : Prop :=
  w.heap.size ≤ w'.heap.size ∧ (∀ k, k < w.heap.size → k ≠ gO → some k ≠ vo.ownBlock → w'.heap[k]? = w.heap[k]?) ∧ (vo'.ownBlock = vo.ownBlock ∨ ∃ b, vo'.ownBlock = some b ∧ w.heap.size ≤ b)
section
variable {w0 w w1 w2 : World} {gB gO gW : Nat} {AC AD : Option Addr} {nC cC nD cD : Nat} {vo v1 v2 : Value} {xs : List (List Int)}
theorem Kp.refl : Kp gO w vo w vo := ⟨Nat.le_refl _, fun _ _ _ _ => rfl, .inl rfl⟩
theorem Kp.trans (h : Kp gO w vo w1 v1) (k : Kp gO w1 v1 w2 v2) : Kp gO w vo w2 v2 := by
  refine ⟨Nat.le_trans h.1 k.1, fun i hi hg ho => ?_, ?_⟩
  · refine (k.2.1 i (Nat.lt_of_lt_of_le hi h.1) hg (fun e => ?_)).trans (h.2.1 i hi hg ho)
    rcases h.2.2 with e1 | ⟨b, e1, hb⟩
    · exact ho (e.trans e1)
    · rw [e1] at e; injection e with e; omega
  · rcases k.2.2 with e1 | ⟨b, e1, hb⟩
    · rw [e1]; exact h.2.2
    · exact .inr ⟨b, e1, Nat.le_trans h.1 hb⟩
theorem Kp.below (h : Below w.heap.size w w1) : Kp gO w vo w1 vo := ⟨h.size, fun k hk _ _ => h.block k hk, .inl rfl⟩
theorem St.below (h : St w0 gB gO gW AC nC cC AD nD cD vo xs w) (hb : Below w.heap.size w w1) : St w0 gB gO gW AC nC cC AD nD cD vo xs w1 :=
  ⟨below_step h.hB hb, blk_below h.bB hb, blk_below h.bO hb, blk_below h.bW hb, Kd.N_below h.hN hb⟩
theorem St.drewN (h : St w0 gB gO gW AC nC cC AD nD cD vo xs w) (n : Nat) : St w0 gB gO gW AC nC cC AD nD cD vo xs (w.drewN n) := h.below (pw_below_drewN (Below.refl _ _) n)
theorem St.drew (h : St w0 gB gO gW AC nC cC AD nD cD vo xs w) : St w0 gB gO gW AC nC cC AD nD cD vo xs w.drew := h.below (below_drew (Below.refl _ _))
def Pa (gO : Nat) (w : World) (vo : Value) (A : Option Addr) (p : List Int) : Prop := Kd.F (Kd.int .i64) w (fun k => k ≠ gO ∧ some k ≠ vo.ownBlock) A p.length p
theorem Pa.kp {A : Option Addr} {p : List Int} (h : Pa gO w vo A p) (k : Kp gO w vo w1 v1) : Pa gO w1 v1 A p := by
  refine Kd.F_mono (Kd.F_step (Kd.F_bound h) (fun i hi hlt => k.2.1 i hlt hi.1.1 hi.1.2)) (fun i hi => ⟨hi.1.1, fun e => ?_⟩)
  rcases k.2.2 with e1 | ⟨b, e1, hb⟩
  · exact hi.1.2 (e.trans e1)
  · rw [e1] at e; injection e with e; have := hi.2; omega
end
theorem rows_at {w : World} {A : Option Addr} {n : Nat} {xs : List (List Int)} (h : Kd.C (Kd.slice 3 (Kd.int .i64)) w A n xs) (j : Nat) (hj : j < n) :
    ∃ ad A0 c0, A = some ad ∧ w.cell? (ad.add j) = some (.slice A0 (xs.getD j []).length c0) ∧ (xs.getD j []).length ≤ c0 ∧ (Kd.int .i64).C w A0 (xs.getD j []).length (xs.getD j []) := by
  obtain ⟨ad, c, rfl, hcl, ⟨A0, c0, rfl, hl, hC⟩, hcc⟩ := Kd.C_get h [] (j : Int) (by omega) (by omega)
  refine ⟨ad, A0, c0, rfl, ?_, hl, hC⟩
  have := hcc 0 _ rfl
  have hs : (Kd.slice 3 (Kd.int .i64)).sz = 1 := rfl
  rw [hs] at this
  simpa using this
theorem pigeon : ∀ (n : Nat) (p : List Int), p.Nodup → (∀ x ∈ p, 0 ≤ x ∧ x < (n : Int)) → p.length ≤ n
  | 0, p, _, h => by
    cases p with
    | nil => simp
    | cons a r => have := h a List.mem_cons_self; omega
  | n + 1, p, hd, h => by
    by_cases hm : (n : Int) ∈ p
    · have h1 := pigeon n (p.erase (n : Int)) (hd.erase _) (fun x hx => by
        have h2 := h x (List.mem_of_mem_erase hx)
        have h3 : x ≠ (n : Int) := (List.Nodup.mem_erase_iff hd).1 hx |>.1
        omega)
      have h2 := List.length_erase_of_mem hm
      omega
    · have h1 := pigeon n p hd (fun x hx => by
        have h2 := h x hx
        have h3 : x ≠ (n : Int) := fun e => hm (e ▸ hx)
        omega)
      omega
theorem rd_mem' {p : List Int} {i : Nat} (h : i < p.length) : rd p (i : Int) ∈ p := by
  have : rd p (i : Int) = p[i] := by simp [rd, List.getD_eq_getElem?_getD, List.getElem?_eq_getElem h]
  rw [this]; exact List.getElem_mem h
theorem Kp.drewN {gO : Nat} {w w1 : World} {vo v1 : Value} (h : Kp gO w vo w1 v1) (n : Nat) : Kp gO w vo (w1.drewN n) v1 := h.trans (Kp.below (pw_below_drewN (Below.refl _ _) n))
theorem Kp.drew {gO : Nat} {w w1 : World} {vo v1 : Value} (h : Kp gO w vo w1 v1) : Kp gO w vo w1.drew v1 := h.trans (Kp.below (below_drew (Below.refl _ _)))
theorem contains_ev (p : List Int) (x : Int) (hp : p.length ≤ 4611686018427387904) : ∃ k, slices_Contains_int_int.f k p x = some (decide (x ∈ p)) := by
  have key : ∀ (e i k : Nat), p.length - i = e → i ≤ p.length → e < k → (∀ i' : Nat, i' < i → rd p (i' : Int) ≠ x) → ∃ q, slices_Index_int_int.l0 k p x (p.length : Int) (i : Int) = some q ∧ (decide (q ≥ 0) = decide (x ∈ p)) := by
    intro e
    induction e with
    | zero =>
      intro i k he hi hk hno
      obtain ⟨k, rfl⟩ : ∃ m, k = m + 1 := ⟨k - 1, by omega⟩
      refine ⟨-1, by simp only [slices_Index_int_int.l0]; rw [if_neg (by omega)], ?_⟩
      have : x ∉ p := fun hm => by
        obtain ⟨q, hq, e⟩ := List.mem_iff_getElem.mp hm
        exact hno q (by omega) (by simp [rd, List.getD_eq_getElem?_getD, List.getElem?_eq_getElem hq, e])
      rw [decide_eq_false this]; rfl
    | succ e ih =>
      intro i k he hi hk hno
      obtain ⟨k, rfl⟩ : ∃ m, k = m + 1 := ⟨k - 1, by omega⟩
      have hw : wrap64 ((i : Int) + 1) = ((i + 1 : Nat) : Int) := by unfold wrap64; omega
      by_cases h : x = rd p (i : Int)
      · refine ⟨(i : Int), by simp only [slices_Index_int_int.l0]; rw [if_pos (by omega), if_pos (by omega), if_pos (by omega), if_pos h], ?_⟩
        rw [decide_eq_true (show x ∈ p from h ▸ rd_mem' (by omega))]
        exact decide_eq_true (by omega)
      · obtain ⟨q, h1, h2⟩ := ih (i + 1) k (by omega) (by omega) (by omega) (fun i' hi' => by
          by_cases e' : i' = i
          · subst e'; exact fun z => h z.symm
          · exact hno i' (by omega))
        exact ⟨q, by simp only [slices_Index_int_int.l0]; rw [if_pos (by omega), if_pos (by omega), if_pos (by omega), if_neg h, hw]; exact h1, h2⟩
  obtain ⟨q, h1, h2⟩ := key p.length 0 (p.length + 1) (by omega) (by omega) (by omega) (fun i' hi' => by omega)
  refine ⟨p.length + 1, ?_⟩
  unfold slices_Contains_int_int.f slices_Index_int_int.f
  rw [show ((0 : Nat) : Int) = 0 from rfl] at h1
  rw [h1, Option.bind_some, h2]
theorem after_put {w0 wz W w4 : World} {gB gO gW : Nat} {AC AD : Option Addr} {nC cC nD cD : Nat} {v v4 : Value} {ys zs : List (List Int)} (nBO : gB ≠ gO) (nWO : gW ≠ gO) (gO0 : w0.heap.size ≤ gO) (SZ : St w0 gB gO gW AC nC cC AD nD cD v ys wz) (BZ : Below wz.heap.size wz W) (hb : Below w0.heap.size w0 w4) (hg : W.grownBy w4 v.ownBlock) (hat : v4.ownBlock = v.ownBlock ∨ ∃ b, v4.ownBlock = some b ∧ W.heap.size ≤ b) (hN : Kd.N (Kd.slice 3 (Kd.int .i64)) 22 w4 w0.heap.size (fun k => w0.heap.size ≤ k ∧ k ≠ gO) v4 zs) :
    w4.heap[gO]? = some (.cells #[v] 23 (0, 0)) ∧ St w0 gB gO gW AC nC cC AD nD cD v4 zs (w4.setCell ⟨gO, 0, none⟩ v4) ∧ Kp gO wz v (w4.setCell ⟨gO, 0, none⟩ v4) v4 := by
  have hNW := Kd.N_below SZ.hN BZ
  have bO := blk_grown (blk_below SZ.bO BZ) hg (Kd.N_ne hNW (blk_below SZ.bO BZ) (by decide))
  have bB := blk_grown (blk_below SZ.bB BZ) hg (Kd.N_ne hNW (blk_below SZ.bB BZ) (by decide))
  have bW := blk_grown (blk_below SZ.bW BZ) hg (Kd.N_ne hNW (blk_below SZ.bW BZ) (by decide))
  refine ⟨bO, ⟨below_set hb gO0, blk_far bB nBO _, blk_put bO 0 _ rfl, blk_far bW nWO _, Kd.N_far hN (fun _ hk => hk.2) v4⟩, ?_, fun k hk hgo hown => ?_, ?_⟩
  · rw [World.size_setCell]; exact Nat.le_trans BZ.size hg.size
  · refine (Below.heap_setCell w4 ⟨gO, 0, none⟩ v4 k hgo).trans ((hg.block k (Nat.lt_of_lt_of_le hk BZ.size) hown).trans (BZ.block k hk))
  · rcases hat with h | ⟨b, h1, h2⟩
    · exact .inl h
    · exact .inr ⟨b, h1, Nat.le_trans BZ.size h2⟩
def T6 : Bool × List (List Nat × List Nat) := (true, [([], []), ([], []), ([], []), ([1, 2], [1, 2]), ([3], [3]), ([0, 4, 3], [0, 4]), ([5, 5, 0, 1, 2, 3, 4, 5], [5])])
def B6 : List Nat := [0, 0, 0, 6, 14, 31, 63]
theorem tab6 : rtab .any (opsOf Try.f115 6) = T6 := by kernel_rfl
theorem bits6 : waitsOk T6.2 B6 = true := by kernel_rfl
def T8 : Bool × List (List Nat × List Nat) := (true, [([], []), ([], []), ([], []), ([1, 2], [1, 2]), ([], []), ([4], [4]), ([3, 5, 3], [3, 5]), ([0, 6, 6], [0, 6])])
def B8 : List Nat := [0, 0, 0, 6, 0, 16, 62, 127]
theorem tab8 : rtab .any (opsOf Try.f115 8) = T8 := by kernel_rfl
theorem bits8 : waitsOk T8.2 B8 = true := by kernel_rfl
theorem step_len (F : List Int → List (List Int)) (B : Nat) (hB : 1 ≤ B) (hF : ∀ q, (F q).length ≤ B) (p row : List Int) (j : Nat) : (stepI F p row j).length ≤ B := by
  unfold stepI
  split
  · exact Nat.zero_le _
  · split
    · exact hB
    · split
      · exact Nat.zero_le _
      · exact hF _
theorem row_len (F : List Int → List (List Int)) (B : Nat) (hB : 1 ≤ B) (hF : ∀ q, (F q).length ≤ B) (p row : List Int) : ∀ (e j : Nat), (rowI F p row e j).length ≤ e * B
  | 0, _ => Nat.zero_le _
  | e + 1, j => by
    rw [rowI, List.length_append, Nat.succ_mul]
    have h1 := step_len F B hB hF p row j
    have h2 := row_len F B hB hF p row e (j + 1)
    omega
theorem walk_len {d : List (List Int)} (sq : ∀ i, i < d.length → (d.getD i []).length = d.length) (h4 : d.length ≤ 4) : ∀ (m : Nat) (p : List Int), (walkI d m p).length ≤ 5 ^ m
  | 0, _ => Nat.zero_le _
  | m + 1, p => by
    rw [walkI]
    have h1 := row_len (walkI d m) (5 ^ m) (Nat.one_le_pow _ _ (by omega)) (walk_len sq h4 m) p (d.getD (lastI p).toNat []) (d.getD (lastI p).toNat []).length 0
    have h2 : (d.getD (lastI p).toNat []).length ≤ 4 := by
      by_cases h : (lastI p).toNat < d.length
      · rw [sq _ h]; exact h4
      · rw [List.getD_eq_getElem?_getD, List.getElem?_eq_none (by omega)]; simp
    have h3 : (d.getD (lastI p).toNat []).length * 5 ^ m ≤ 4 * 5 ^ m := Nat.mul_le_mul_right _ h2
    rw [Nat.pow_succ]
    omega
set_option maxHeartbeats 8000000 in
set_option maxRecDepth 100000 in
theorem walk {w0 : World} {gB gO gW : Nat} {AC AD : Option Addr} {nC cC cD : Nat} {d : List (List Int)} (hD : Kd.C (Kd.slice 3 (Kd.int .i64)) w0 AD d.length d) (sq : ∀ i, i < d.length → (d.getD i []).length = d.length) (h4 : d.length ≤ 4)
    (nBO : gB ≠ gO) (nOB : gO ≠ gB) (nWO : gW ≠ gO) (nOW : gO ≠ gW) (nBW : gB ≠ gW) (nWB : gW ≠ gB) (gO0 : w0.heap.size ≤ gO) : ∀ (m : Nat) (p : List Int), 0 < p.length → (∀ x ∈ p, 0 ≤ x ∧ x < (d.length : Int)) → p.Nodup → d.length < m + p.length →
    ∀ (A : Option Addr) (cP : Nat) (w : World) (vo : Value) (xs : List (List Int)), p.length ≤ cP → xs.length + 5 ^ m ≤ 1000000 → St w0 gB gO gW AC nC cC AD d.length cD vo xs w → Pa gO w vo A p →
    Calls Try.prog 115 #[.slice A p.length cP, .pointer (some ⟨gB, 0, none⟩), .pointer (some ⟨gO, 0, none⟩), .pointer (some ⟨gW, 0, none⟩)] w fun e w' => e = .returned (.tuple #[]) ∧ ∃ v', St w0 gB gO gW AC nC cC AD d.length cD v' (xs ++ walkI d m p) w' ∧ Kp gO w vo w' v'
  | 0, p, hp, hr, hnd, hm, _, _, _, _, _, _, _, _, _ => by have := pigeon d.length p hnd hr; omega
  | m + 1, p, hp, hr, hnd, hm, A, cP, w, vo, xs, hcP, hbd, hS, hP => by
    have HS := Aside0.mk hS
    have HP := Aside0.mk hP
    have hpl := pigeon d.length p hnd hr
    have hla := hr _ (rd_mem' (show p.length - 1 < p.length by omega))
    have hhd := hr _ (rd_mem' (show 0 < p.length from hp))
    obtain ⟨L, hL⟩ := Int.eq_ofNat_of_zero_le hla.1
    have hLd : L < d.length := by omega
    have hlL : (lastI p).toNat = L := by unfold lastI; rw [hL]; rfl
    obtain ⟨adD, B0, b0, eD, hx, hb0, hrow⟩ := rows_at hD L hLd
    subst eD
    have hsq := sq L hLd
    have h5p : 1 ≤ 5 ^ m := Nat.one_le_pow _ _ (by omega)
    have HR := Aside0.mk (show walkI d (m + 1) p = rowI (walkI d m) p (d.getD L []) (d.getD L []).length 0 by rw [walkI, hlL])
    have HROW := Aside0.mk hrow
    generalize d.getD L [] = row at hx hb0 HROW hsq HR
    clear hrow
    obtain ⟨adP, eA, hx0⟩ := Kd.at_int (Foot.now hP) 0 (by omega) (by omega)
    subst eA
    obtain ⟨adP', eA', hx1⟩ := Kd.at_int (Foot.now hP) ((p.length - 1 : Nat) : Int) (by omega) (by omega)
    cases eA'
    have hxw := (HS.out.hB.cell (World.block_lt_of_cell? w0 _ hx)).trans hx
    have hw1 : wrap64 ((p.length : Int) - 1) = ((p.length - 1 : Nat) : Int) := by unfold wrap64; omega
    have q0 : (0 ≤ ((p.length - 1 : Nat) : Int)) = True := eq_true (by omega)
    have q1 : (((p.length - 1 : Nat) : Int) < (p.length : Int)) = True := eq_true (by omega)
    rw [hL] at hx1
    have q2 : (0 ≤ (L : Int)) = True := eq_true (by omega)
    have q3 : ((L : Int) < (d.length : Int)) = True := eq_true (by omega)
    have hz0 : w.cell? ⟨gB, 1, none⟩ = some (.slice (some adD) d.length cD) := (blk_cell HS.out.bB 1).trans rfl
    have hxw' : w.cell? (adD.add L) = some (.slice B0 row.length b0) := hxw
    rw [Int.toNat_natCast] at hx1
    have HX0 := Aside0.mk hx0
    have HSQ := Aside0.mk hsq
    clear hS hP hx hxw hx0 hsq
    go_enter Try.func115, Try.ntmps115
    go_wp2
    go_loopg [20] (row.length) (fun kq v20 w' => ∃ (j : Nat) (v : Value) (ys : List (List Int)), kq + j = row.length ∧ v20 = .int .i64 j ∧ Aside0 (St w0 gB gO gW AC nC cC (some adD) d.length cD v ys w') ∧ Aside0 (Kp gO w vo w' v) ∧ Aside0 (ys ++ rowI (walkI d m) p row kq j = xs ++ walkI d (m + 1) p) ∧ Aside0 (ys.length + kq * 5 ^ m ≤ 1000000))
    case atStart => exact ⟨0, vo, xs, by omega, rfl, ⟨by (repeat (first | with_reducible refine St.drewN ?_ _ | with_reducible refine St.drew ?_)); exact HS.out⟩, ⟨Kp.below (by repeat (first | (with_reducible first | exact Below.refl _ _ | apply below_alloc | apply pw_below_drewN | apply below_drew1) | exact Below.refl _ _))⟩, ⟨by rw [HR.out]⟩, ⟨by have z := HSQ.out; have y : row.length * 5 ^ m ≤ 4 * 5 ^ m := Nat.mul_le_mul_right _ (by omega); rw [Nat.pow_succ] at hbd; omega⟩⟩
    case round =>
      clear HS
      obtain ⟨j, v, ys, hj, rfl, SS, KK, HE, HBd⟩ := hrel
      have HPw := Aside0.mk (HP.out.kp KK.out)
      by_cases hlt : j < row.length
      · obtain ⟨k1, rfl⟩ : ∃ k1, gk = k1 + 1 := ⟨gk - 1, by omega⟩
        have HC := Aside0.mk (Foot.now HPw.out)
        have HWJ : Aside0 (wrap64 ((j : Int) + 1) = ((j + 1 : Nat) : Int)) := ⟨by have := HSQ.out; unfold wrap64; omega⟩
        obtain ⟨adR, eR, hrw⟩ := Kd.at_int HROW.out (j : Int) (by omega) (by omega)
        subst eR
        obtain ⟨adP2, eP, hp0⟩ := Kd.at_int HC.out 0 (by omega) (by omega)
        cases eP
        have hrw2 := (SS.out.hB.cell (World.block_lt_of_cell? w0 _ hrw)).trans hrw
        rw [Int.toNat_natCast] at hrw2
        have hp1 : wr.cell? adP = some (.int .i64 (rd p 0)) := by simpa [Addr.add] using hp0
        clear hp0
        have p5 : (0 ≤ (j : Int)) = True := eq_true (by omega)
        have q5 : ((j : Int) < (row.length : Int)) = True := eq_true (by omega)
        have q6 : ((0 : Int) < (p.length : Int)) = True := eq_true (by omega)
        have c3b0 : decide ((j : Int) < (row.length : Int)) = true := decide_eq_true (by omega)
        clear hrw
        have HG := Aside0.mk (show stepI (walkI d m) p row j = if rd row (j : Int) = 0 ∨ (j : Int) < rd p 0 then [] else if (j : Int) = rd p 0 then [p] else if (j : Int) ∈ p then [] else walkI d m (p ++ [(j : Int)]) from rfl)
        generalize rd row (j : Int) = t at hrw2 HG
        obtain ⟨hv, hhv⟩ : ∃ hv, rd p 0 = hv := ⟨_, rfl⟩
        rw [hhv] at hp1 HG
        have HHV := Aside0.mk hhv
        clear hhv
        by_cases ht0 : t = 0
        · have c1 : (t == 0) = true := beq_iff_eq.mpr ht0
          have HNIL : Aside0 (stepI (walkI d m) p row j = []) := ⟨by rw [HG.out, if_pos (.inl ht0)]⟩
          clear HG ht0
          go_wp2
          go_roundg k1
          case measure => omega
          case rel => exact ⟨j + 1, v, ys, by omega, (by first | rw [HWJ.out] | go_num), ⟨by (repeat (first | with_reducible refine St.drewN ?_ _ | with_reducible refine St.drew ?_)); exact SS.out⟩, ⟨by (repeat (first | with_reducible refine Kp.drewN ?_ _ | with_reducible refine Kp.drew ?_)); exact KK.out⟩, ⟨by have := HE.out; rw [rowI, HNIL.out, List.nil_append] at this; exact this⟩, ⟨by have := HBd.out; rw [Nat.succ_mul] at this; omega⟩⟩
        have c1 : (t == 0) = false := beq_eq_false_iff_ne.mpr ht0
        by_cases hlo : (j : Int) < hv
        · have c2 : decide ((j : Int) < hv) = true := decide_eq_true hlo
          have HNIL : Aside0 (stepI (walkI d m) p row j = []) := ⟨by rw [HG.out, if_pos (.inr hlo)]⟩
          clear HG ht0 hlo
          go_wp2
          go_roundg k1
          case measure => omega
          case rel => exact ⟨j + 1, v, ys, by omega, (by first | rw [HWJ.out] | go_num), ⟨by (repeat (first | with_reducible refine St.drewN ?_ _ | with_reducible refine St.drew ?_)); exact SS.out⟩, ⟨by (repeat (first | with_reducible refine Kp.drewN ?_ _ | with_reducible refine Kp.drew ?_)); exact KK.out⟩, ⟨by have := HE.out; rw [rowI, HNIL.out, List.nil_append] at this; exact this⟩, ⟨by have := HBd.out; rw [Nat.succ_mul] at this; omega⟩⟩
        have c2 : decide ((j : Int) < hv) = false := decide_eq_false hlo
        by_cases heq : (j : Int) = hv
        · have c4 : ((j : Int) == hv) = true := beq_iff_eq.mpr heq
          have HONE : Aside0 (stepI (walkI d m) p row j = [p]) := ⟨by rw [HG.out, if_neg (fun z => z.elim ht0 hlo), if_pos heq]⟩
          clear HG ht0 hlo heq
          go_upto_region 6 with fail
          try go_wp2
          have SZ := Aside0.mk (St.drew SS.out)
          have KZ := Aside0.mk (Kp.drew KK.out)
          have PZ := Aside0.mk (Pa.kp HPw.out (Kp.drew Kp.refl))
          have BZ := Aside0.mk (Below.refl wr.drew.heap.size wr.drew)
          refine start_ (n := 7) (S := fun w' => w'.cell? ⟨gO, 0, none⟩ = some v) (ds := [6]) #[false, false, false, false, false, false, false] (by kernel_rfl) rfl rfl ((blk_cell SZ.out.bO 0).trans rfl) (fun hHeld => ?_); refine with_tabW tab6 bits6 (fun HT_ HW_ => ?_)
          clear SS KK HPw HC hrw2 hp1
          generalize wr.drew = wz at SZ KZ PZ BZ hHeld ⊢
          refine pure_ (i := 2) (N := some 43) (v := ?_) (a' := ?_) #[false, false, true, false, false, false, false] rfl rfl (any_of HT_.out (by kernel_rfl)) (fun _ _ _ h => h) (Or.inl ⟨by rfl, ?_⟩) ?_ ?_
          rotate_left
          · intro w'
            go_simp
            with_reducible rfl
          rotate_left
          · simp only [Act.put, List.setIfInBounds_toArray, List.set_cons_zero, List.set_cons_succ, i64_w, i32_w]
            rfl
          refine take_ (i := 0) (N := some 41) (v := ?_) (a' := ?_) #[true, false, true, false, false, false, false] rfl rfl (take_ofW HT_.out HW_.out (by kernel_rfl)) (fun _ _ _ h => h) (Or.inl ⟨by rfl, ?_⟩) hHeld ?_ ?_
          rotate_left
          · rintro w' s0
            go_simp
            with_reducible rfl
          rotate_left
          · simp only [Act.put, List.setIfInBounds_toArray, List.set_cons_zero, List.set_cons_succ, i64_w, i32_w]
            rfl
          refine one_ (i := 1) (N := some 42) #[true, true, true, false, false, false, false] rfl rfl (one_of HT_.out (by kernel_rfl)) (by decide) (fun K hK => ?_)
          refine Kd.R_lit_step (Kd.int .i64) _ 3 ?hg (N := 42) ?hd (xs := ([] : List Int)) (inner := []) (ok := fun _ => True) (okp := fun _ => True) ?hr ?hp (fun _ hk => hk) trivial (Below.refl _ _) (Nat.le_refl _) (by simp) ?_
          (case hd => rfl)
          (case hg => rfl)
          (case hr => first | (go_simp; done) | (go_simp; rfl))
          (case hp => exact (Reps.none _ _))
          intro v42 wa ho hb hg_ hnew_
          clear hg_ hnew_
          have HO1 := Aside0.mk (Kd.R_lower ho BZ.out.size)
          have n0_ := Aside0.mk (below_step BZ.out hb)
          clear BZ hb ho
          have BZ := n0_
          clear n0_
          refine hK.out _ _ ((blk_cell (blk_below SZ.out.bO BZ.out) 0).trans rfl) (fun hHeld => ?_)
          clear hK K
          refine norm_ (a' := ?_) ?_ ?_
          rotate_left
          · show Act.put _ (some 42) _ = _
            simp only [Act.put, List.setIfInBounds_toArray, List.set_cons_zero, List.set_cons_succ, i64_w, i32_w]
            rfl
          refine one_ (i := 3) (N := some 44) #[true, true, true, true, false, false, false] rfl rfl (one_of HT_.out (by kernel_rfl)) (by decide) (fun K hK => ?_)
          refine Kd.R_append_rows_step (Kd.int .i64) (w0 := wz) wz.heap.size (by rfl) (.tmp 42) (.tmp 43) 22 3 (.int .i64 0) 8 rfl Try.underlying22 info3 rfl (by decide) (by omega) v42 [] p _ _ _ (fun _ => True) (fun _ => False) rfl rfl ?aO ?aR (fun _ _ h => h) (fun _ h => h.elim) ?aF ?aB ?aS ?aL ?_
          (case aR => exact (Foot.now (Kd.F_below PZ.out BZ.out)))
          (case aB => exact BZ.out)
          (case aF => exact fun _ _ => trivial)
          (case aO => exact HO1.out)
          (case aS => exact BZ.out.size)
          (case aL => simp; omega)
          intro v44 wb ho hb hg hat
          rw [List.nil_append] at ho
          have HO2 := Aside0.mk ho
          clear BZ HO1
          have BZ := Aside0.mk hb
          clear ho hb hg hat
          obtain ⟨Ao, co, eo⟩ := Kd.R_slice HO2.out
          subst eo
          refine hK.out _ _ ((blk_cell (blk_below SZ.out.bO BZ.out) 0).trans rfl) (fun hHeld => ?_)
          clear hK K
          refine norm_ (a' := ?_) ?_ ?_
          rotate_left
          · show Act.put _ (some 44) _ = _
            simp only [Act.put, List.setIfInBounds_toArray, List.set_cons_zero, List.set_cons_succ, i64_w, i32_w]
            rfl
          refine one_ (i := 4) (N := some 45) #[true, true, true, true, true, false, false] rfl rfl (one_of HT_.out (by kernel_rfl)) (by decide) (fun K hK => ?_)
          have HF : Aside0 (Kd.F (Kd.int .i64) wb (fun k => wz.heap.size ≤ k) Ao p.length p) := ⟨Kd.R_F (Kd.R_mono (Kd.R_bound HO2.out) (fun _ hk => hk.2.1))⟩
          refine Kd.N_lit_step (Kd.slice 3 (Kd.int .i64)) (w0 := wz) wz.heap.size 22 ?hg (N' := 45) ?hd (xs := [p]) (inner := [.slice Ao p.length co]) (ok := fun k => wz.heap.size ≤ k) (okp := fun k => wz.heap.size ≤ k) ?hr ?hp (fun _ hk => hk) BZ.out.size BZ.out BZ.out.size (by simp) ?_
          (case hd => rfl)
          (case hg => rfl)
          (case hr => first | (go_simp; done) | (go_simp; rfl))
          (case hp => exact Reps.one (show Kd.FK (Kd.slice 3 (Kd.int .i64)) wb (fun k => wz.heap.size ≤ k) p [.slice Ao p.length co] from fun W' hW => ⟨Ao, co, rfl, (Kd.R_reads' HO2.out).2.1, HF.out W' hW⟩) (Reps.none _ _))
          intro v45 wc ho hb hg hat
          have HO3 := Aside0.mk ho
          clear BZ HO2 HF
          have BZ := Aside0.mk hb
          clear ho hb hg hat
          obtain ⟨A45, c45, e45⟩ := Kd.N_slice HO3.out
          subst e45
          refine hK.out _ _ ((blk_cell (blk_below SZ.out.bO BZ.out) 0).trans rfl) (fun hHeld => ?_)
          clear hK K
          refine norm_ (a' := ?_) ?_ ?_
          rotate_left
          · show Act.put _ (some 45) _ = _
            simp only [Act.put, List.setIfInBounds_toArray, List.set_cons_zero, List.set_cons_succ, i64_w, i32_w]
            rfl
          refine one_ (i := 5) (N := some 46) #[true, true, true, true, true, true, false] rfl rfl (one_of HT_.out (by kernel_rfl)) (by decide) (fun K hK => ?_)
          have hgw := (Array.getElem?_eq_some_iff.1 SZ.out.bO).1
          refine Kd.N_append_rows_step (Kd.slice 3 (Kd.int .i64)) (w0 := w0) w0.heap.size (by rfl) (.tmp 41) (.tmp 45) 23 22 (.slice none 0 0) 24 rfl Try.underlying23 info22 rfl (by decide) (by omega) v ys [p] _ _ _ (fun k => w0.heap.size ≤ k ∧ k ≠ gO) (fun k => (w0.heap.size ≤ k ∧ k ≠ gO) ∧ some k ≠ v.ownBlock) rfl rfl ?aO ?aR (fun _ hk => hk) ?aF ?aB ?aS ?aL ?_
          (case aO => exact Kd.N_below SZ.out.hN BZ.out)
          (case aR => exact Kd.F_mono (Kd.N_F HO3.out) (fun k hk => ⟨⟨Nat.le_trans SZ.out.hB.size hk, fun e => by omega⟩, fun e => by have := Kd.N_lt SZ.out.hN k e.symm; omega⟩))
          (case aF => exact fun k hk => ⟨Nat.le_trans SZ.out.hB.size (Nat.le_trans BZ.out.size hk), fun e => by have := BZ.out.size; omega⟩)
          (case aB => exact below_step SZ.out.hB BZ.out)
          (case aS => exact Nat.le_trans SZ.out.hB.size BZ.out.size)
          (case aL => have z := HBd.out; rw [Nat.succ_mul] at z; simp; omega)
          intro v46 wd ho hb hg hat
          obtain ⟨zs, hzs⟩ : ∃ zs, zs = ys ++ [p] := ⟨_, rfl⟩
          rw [← hzs] at ho
          have NZ := Aside0.mk hzs
          clear hzs
          obtain ⟨hbO, hS4, hK4⟩ := after_put nBO nWO gO0 SZ.out BZ.out hb hg hat ho
          have HBO := Aside0.mk hbO
          have HS4 := Aside0.mk hS4
          have HK4 := Aside0.mk hK4
          clear hbO hS4 hK4 ho hb hg hat
          refine hK.out _ _ ((blk_cell HBO.out 0).trans rfl) (fun hHeld => ?_)
          clear hK K
          refine norm_ (a' := ?_) ?_ ?_
          rotate_left
          · show Act.put _ (some 46) _ = _
            simp only [Act.put, List.setIfInBounds_toArray, List.set_cons_zero, List.set_cons_succ, i64_w, i32_w]
            rfl
          refine last_ (i := 6) (N := none) #[true, true, true, true, true, true, true] rfl rfl (by kernel_rfl) (by decide) (fun K hK => ?_)
          have hs46 : wd.cell? ⟨gO, 0, none⟩ = some v := (blk_cell HBO.out 0).trans rfl
          have hfs46 := blk_frozen HBO.out 0
          obtain ⟨A46, c46, e46⟩ := Kd.N_slice HS4.out.hN
          subst e46
          refine skip_ (w1 := ?_) (by rfl) rfl ?_ ?_
          rotate_left
          · go_simp
            rfl
          refine hK.out _ _ ?_
          clear hK K
          refine done_ (by kernel_rfl) ?_
          try go_wp2
          go_roundg k1
          case measure => omega
          case rel => exact ⟨j + 1, _, zs, by omega, (by first | rw [HWJ.out] | go_num), ⟨by (repeat (first | with_reducible refine St.drewN ?_ _ | with_reducible refine St.drew ?_)); exact HS4.out⟩, ⟨by (repeat (first | with_reducible refine Kp.drewN ?_ _ | with_reducible refine Kp.drew ?_)); exact Kp.trans KZ.out HK4.out⟩, ⟨by have z := HE.out; rw [rowI, HONE.out] at z; rw [NZ.out, List.append_assoc]; exact z⟩, ⟨by have z := HBd.out; rw [Nat.succ_mul] at z; rw [NZ.out, List.length_append, List.length_singleton]; omega⟩⟩
        have c4 : ((j : Int) == hv) = false := beq_eq_false_iff_ne.mpr heq
        obtain ⟨kc, hkc⟩ := contains_ev p (j : Int) (by omega)
        by_cases hin : (j : Int) ∈ p
        · have HNIL : Aside0 (stepI (walkI d m) p row j = []) := ⟨by rw [HG.out, if_neg (fun z => z.elim ht0 hlo), if_neg heq, if_pos hin]⟩
          rw [decide_eq_true hin] at hkc
          have HK := Aside0.mk hkc
          clear HG ht0 hlo heq hin hkc
          go_wp2_with (go_at_call 116; refine (slices_Contains_int_int.calls kc _ _ p (j : Int) true _ ?s1 hcP HK.out).mono ?_; (case s1 => repeat (first | exact HC.out | (with_reducible refine Kd.C_drewN ?_ _) | (with_reducible refine Kd.C_drew ?_))); rintro e w9 ⟨rfl, ⟨nd, rfl⟩⟩)
          go_roundg k1
          case measure => omega
          case rel => exact ⟨j + 1, v, ys, by omega, (by first | rw [HWJ.out] | go_num), ⟨by (repeat (first | with_reducible refine St.drewN ?_ _ | with_reducible refine St.drew ?_)); exact SS.out⟩, ⟨by (repeat (first | with_reducible refine Kp.drewN ?_ _ | with_reducible refine Kp.drew ?_)); exact KK.out⟩, ⟨by have := HE.out; rw [rowI, HNIL.out, List.nil_append] at this; exact this⟩, ⟨by have := HBd.out; rw [Nat.succ_mul] at this; omega⟩⟩
        have HREC : Aside0 (stepI (walkI d m) p row j = walkI d m (p ++ [(j : Int)])) := ⟨by rw [HG.out, if_neg (fun z => z.elim ht0 hlo), if_neg heq, if_neg hin]⟩
        rw [decide_eq_false hin] at hkc
        have HK := Aside0.mk hkc
        have hjh : hv < (j : Int) := by omega
        clear HG ht0 hlo heq hkc
        go_upto_region 8 with (go_at_call 116; refine (slices_Contains_int_int.calls kc _ _ p (j : Int) false _ ?s1 hcP HK.out).mono ?_; (case s1 => repeat (first | exact HC.out | (with_reducible refine Kd.C_drewN ?_ _) | (with_reducible refine Kd.C_drew ?_))); rintro e w9 ⟨rfl, ⟨nd, rfl⟩⟩)
        try go_wp2
        have SZ := Aside0.mk (St.drew (St.drewN SS.out nd))
        have KZ := Aside0.mk (Kp.drew (Kp.drewN KK.out nd))
        have PZ := Aside0.mk (Pa.kp HPw.out (Kp.drew (Kp.drewN Kp.refl nd)))
        have BZ := Aside0.mk (Below.refl (wr.drewN nd).drew.heap.size (wr.drewN nd).drew)
        have HLP := Aside0.mk (show p.length ≤ 4 by omega)
        have HIN := Aside0.mk hin
        clear hin
        refine start_ (n := 8) (S := fun w' => w'.cell? ⟨gW, 0, none⟩ = some (.func (.func 115) #[] #[.pointer (some ⟨gB, 0, none⟩), .pointer (some ⟨gO, 0, none⟩), .pointer (some ⟨gW, 0, none⟩)])) (ds := []) #[false, false, false, false, false, false, false, false] (by kernel_rfl) rfl rfl ((blk_cell SZ.out.bW 0).trans rfl) (fun hHeld => ?_); refine with_tabW tab8 bits8 (fun HT_ HW_ => ?_)
        clear SS KK HPw HC hrw2 hp1
        generalize (wr.drewN nd).drew = wz at SZ KZ PZ BZ hHeld ⊢
        refine pure_ (i := 2) (N := some 54) (v := ?_) (a' := ?_) #[false, false, true, false, false, false, false, false] rfl rfl (any_of HT_.out (by kernel_rfl)) (fun _ _ _ h => h) (Or.inl ⟨by rfl, ?_⟩) ?_ ?_
        rotate_left
        · intro w'
          go_simp
          with_reducible rfl
        rotate_left
        · simp only [Act.put, List.setIfInBounds_toArray, List.set_cons_zero, List.set_cons_succ, i64_w, i32_w]
          rfl
        refine pure_ (i := 4) (N := some 56) (v := ?_) (a' := ?_) #[false, false, true, false, true, false, false, false] rfl rfl (any_of HT_.out (by kernel_rfl)) (fun _ _ _ h => h) (Or.inl ⟨by rfl, ?_⟩) ?_ ?_
        rotate_left
        · intro w'
          go_simp
          with_reducible rfl
        rotate_left
        · simp only [Act.put, List.setIfInBounds_toArray, List.set_cons_zero, List.set_cons_succ, i64_w, i32_w]
          rfl
        refine take_ (i := 0) (N := some 52) (v := ?_) (a' := ?_) #[true, false, true, false, true, false, false, false] rfl rfl (take_ofW HT_.out HW_.out (by kernel_rfl)) (fun _ _ _ h => h) (Or.inl ⟨by rfl, ?_⟩) hHeld ?_ ?_
        rotate_left
        · rintro w' s0
          go_simp
          with_reducible rfl
        rotate_left
        · simp only [Act.put, List.setIfInBounds_toArray, List.set_cons_zero, List.set_cons_succ, i64_w, i32_w]
          rfl
        refine join_ (σ := Value × Value × Value) 2 #[true, true, true, true, true, true, false, false] (fun s_ => [(53, s_.1), (55, s_.2.1), (57, s_.2.2)]) (fun s_ w' => (w'.cell? ⟨gW, 0, none⟩ = some (.func (.func 115) #[] #[.pointer (some ⟨gB, 0, none⟩), .pointer (some ⟨gO, 0, none⟩), .pointer (some ⟨gW, 0, none⟩)])) ∧ Kd.R (Kd.int .i64) 3 w' wz.heap.size (fun _ => True) s_.2.1 p ∧ Kd.R (Kd.int .i64) 3 w' wz.heap.size (fun k => True ∧ some k ≠ (s_.2.1 : Value).ownBlock) s_.2.2 [(j : Int)] ∧ Below wz.heap.size wz w') ?_ ?_
        rotate_left
        · intro hCont
          refine two_ (i := 1) (j := 5) (Ni := some 53) (Nj := some 57) #[true, true, true, false, true, false, false, false] #[true, false, true, false, true, true, false, false] rfl rfl rfl rfl (two_of HT_.out (by kernel_rfl)) (by decide) (by decide) (fun K hK => ?_) (fun K hK => ?_)
          · skip
            refine Kd.R_lit_step (Kd.int .i64) _ 3 ?hg (N := 53) ?hd (xs := ([] : List Int)) (inner := []) (ok := fun _ => True) (okp := fun _ => True) ?hr ?hp (fun _ hk => hk) trivial (Below.refl _ _) (Nat.le_refl _) (by simp) ?_
            (case hd => rfl)
            (case hg => rfl)
            (case hr => first | (go_simp; done) | (go_simp; rfl))
            (case hp => exact (Reps.none _ _))
            intro v53 wa_ ho hb hg_ hnew_
            clear hg_ hnew_
            have HO53 := Aside0.mk (Kd.R_lower ho BZ.out.size)
            have n0_ := Aside0.mk (below_step BZ.out hb)
            clear BZ hb ho
            have BZ := n0_
            clear n0_
            refine hK.out _ _ (blk_cell (blk_below SZ.out.bW BZ.out) 0 |>.trans rfl) (fun hHeld => ?_)
            clear hK K
            refine norm_ (a' := ?_) ?_ ?_
            rotate_left
            · show Act.put _ (some 53) _ = _
              simp only [Act.put, List.setIfInBounds_toArray, List.set_cons_zero, List.set_cons_succ, i64_w, i32_w]
              rfl
            refine two_ (i := 3) (j := 5) (Ni := some 55) (Nj := some 57) #[true, true, true, true, true, false, false, false] #[true, true, true, false, true, true, false, false] rfl rfl rfl rfl (two_of HT_.out (by kernel_rfl)) (by decide) (by decide) (fun K hK => ?_) (fun K hK => ?_)
            · skip
              refine Kd.R_append_rows_step (Kd.int .i64) (w0 := wz) wz.heap.size (by rfl) (.tmp 53) (.tmp 54) 22 3 (.int .i64 0) 8 rfl Try.underlying22 info3 rfl (by decide) (by omega) v53 [] p _ _ _ (fun _ => True) (fun _ => False) rfl rfl ?aO ?aR (fun _ _ h => h) (fun _ h => h.elim) ?aF ?aB ?aS ?aL ?_
              (case aR => exact (Foot.now (Kd.F_below PZ.out BZ.out)))
              (case aB => exact BZ.out)
              (case aF => exact fun _ _ => trivial)
              (case aO => exact HO53.out)
              (case aS => exact BZ.out.size)
              (case aL => (try simp only [List.length_nil, List.length_cons]); have := HLP.out; omega)
              intro v55 wb_ ho hb hg hat
              rw [List.nil_append] at ho
              have HO55 := Aside0.mk ho
              clear BZ HO53
              have BZ := Aside0.mk hb
              clear ho hb hg hat
              refine hK.out _ _ (blk_cell (blk_below SZ.out.bW BZ.out) 0 |>.trans rfl) (fun hHeld => ?_)
              clear hK K
              refine norm_ (a' := ?_) ?_ ?_
              rotate_left
              · show Act.put _ (some 55) _ = _
                simp only [Act.put, List.setIfInBounds_toArray, List.set_cons_zero, List.set_cons_succ, i64_w, i32_w]
                rfl
              refine one_ (i := 5) (N := some 57) #[true, true, true, true, true, true, false, false] rfl rfl (one_of HT_.out (by kernel_rfl)) (by decide) (fun K hK => ?_)
              refine Kd.R_lit_step (Kd.int .i64) _ 3 ?hg (N := 57) ?hd (xs := ([(j : Int)] : List Int)) (inner := [.int .i64 (j : Int)]) (ok := fun _ => True) (okp := fun _ => True) ?hr ?hp (fun _ hk => hk) trivial (Below.refl _ _) (Nat.le_refl _) (by simp) ?_
              (case hd => rfl)
              (case hg => rfl)
              (case hr => first | (go_simp; done) | (go_simp; rfl))
              (case hp => exact (Reps.one (show Kd.M (Kd.int .i64) _ _ _ (j : Int) [.int .i64 (j : Int)] from rfl) (Reps.none _ _)))
              intro v57 wa_ ho hb hg_ hnew_
              clear hg_ hnew_
              have HO57 := Aside0.mk (Kd.R_lower (Kd.R_new' (u := v55) ho (Kd.R_lt HO55.out)) BZ.out.size)
              have m0_ := Aside0.mk (Kd.R_below HO55.out hb)
              clear HO55
              have HO55 := m0_
              clear m0_
              have n0_ := Aside0.mk (below_step BZ.out hb)
              clear BZ hb ho
              have BZ := n0_
              clear n0_
              refine hK.out _ _ (blk_cell (blk_below SZ.out.bW BZ.out) 0 |>.trans rfl) (fun hHeld => ?_)
              clear hK K
              refine norm_ (a' := ?_) ?_ ?_
              rotate_left
              · show Act.put _ (some 57) _ = _
                simp only [Act.put, List.setIfInBounds_toArray, List.set_cons_zero, List.set_cons_succ, i64_w, i32_w]
                rfl
              exact norm_ (by simp only [putAll, Act.put, List.setIfInBounds_toArray, List.set_cons_zero, List.set_cons_succ]) (hCont (v53, v55, v57) _ ⟨hHeld, HO55.out, HO57.out, BZ.out⟩)
            · skip
              refine Kd.R_lit_step (Kd.int .i64) _ 3 ?hg (N := 57) ?hd (xs := ([(j : Int)] : List Int)) (inner := [.int .i64 (j : Int)]) (ok := fun _ => True) (okp := fun _ => True) ?hr ?hp (fun _ hk => hk) trivial (Below.refl _ _) (Nat.le_refl _) (by simp) ?_
              (case hd => rfl)
              (case hg => rfl)
              (case hr => first | (go_simp; done) | (go_simp; rfl))
              (case hp => exact (Reps.one (show Kd.M (Kd.int .i64) _ _ _ (j : Int) [.int .i64 (j : Int)] from rfl) (Reps.none _ _)))
              intro v57 wa_ ho hb hg_ hnew_
              clear hg_ hnew_
              have HO57 := Aside0.mk (Kd.R_lower (Kd.R_new' (u := v53) ho (Kd.R_lt HO53.out)) BZ.out.size)
              have m0_ := Aside0.mk (Kd.R_below HO53.out hb)
              clear HO53
              have HO53 := m0_
              clear m0_
              have n0_ := Aside0.mk (below_step BZ.out hb)
              clear BZ hb ho
              have BZ := n0_
              clear n0_
              refine hK.out _ _ (blk_cell (blk_below SZ.out.bW BZ.out) 0 |>.trans rfl) (fun hHeld => ?_)
              clear hK K
              refine norm_ (a' := ?_) ?_ ?_
              rotate_left
              · show Act.put _ (some 57) _ = _
                simp only [Act.put, List.setIfInBounds_toArray, List.set_cons_zero, List.set_cons_succ, i64_w, i32_w]
                rfl
              refine one_ (i := 3) (N := some 55) #[true, true, true, true, true, true, false, false] rfl rfl (one_of HT_.out (by kernel_rfl)) (by decide) (fun K hK => ?_)
              refine Kd.R_append_rows_step (Kd.int .i64) (w0 := wz) wz.heap.size (by rfl) (.tmp 53) (.tmp 54) 22 3 (.int .i64 0) 8 rfl Try.underlying22 info3 rfl (by decide) (by omega) v53 [] p _ _ _ (fun _ => True) (fun _ => False) rfl rfl ?aO ?aR (fun _ _ h => h) (fun _ h => h.elim) ?aF ?aB ?aS ?aL ?_
              (case aR => exact (Foot.now (Kd.F_below PZ.out BZ.out)))
              (case aB => exact BZ.out)
              (case aF => exact fun _ _ => trivial)
              (case aO => exact HO53.out)
              (case aS => exact BZ.out.size)
              (case aL => (try simp only [List.length_nil, List.length_cons]); have := HLP.out; omega)
              intro v55 wb_ ho hb hg hat
              rw [List.nil_append] at ho
              have m0_ := Aside0.mk (Kd.R_after (ok := fun _ => True) HO57.out hg hat)
              clear HO57
              have HO57 := m0_
              clear m0_
              have HO55 := Aside0.mk ho
              clear BZ HO53
              have BZ := Aside0.mk hb
              clear ho hb hg hat
              refine hK.out _ _ (blk_cell (blk_below SZ.out.bW BZ.out) 0 |>.trans rfl) (fun hHeld => ?_)
              clear hK K
              refine norm_ (a' := ?_) ?_ ?_
              rotate_left
              · show Act.put _ (some 55) _ = _
                simp only [Act.put, List.setIfInBounds_toArray, List.set_cons_zero, List.set_cons_succ, i64_w, i32_w]
                rfl
              exact norm_ (by simp only [putAll, Act.put, List.setIfInBounds_toArray, List.set_cons_zero, List.set_cons_succ]) (hCont (v53, v55, v57) _ ⟨hHeld, HO55.out, HO57.out, BZ.out⟩)
          · skip
            refine Kd.R_lit_step (Kd.int .i64) _ 3 ?hg (N := 57) ?hd (xs := ([(j : Int)] : List Int)) (inner := [.int .i64 (j : Int)]) (ok := fun _ => True) (okp := fun _ => True) ?hr ?hp (fun _ hk => hk) trivial (Below.refl _ _) (Nat.le_refl _) (by simp) ?_
            (case hd => rfl)
            (case hg => rfl)
            (case hr => first | (go_simp; done) | (go_simp; rfl))
            (case hp => exact (Reps.one (show Kd.M (Kd.int .i64) _ _ _ (j : Int) [.int .i64 (j : Int)] from rfl) (Reps.none _ _)))
            intro v57 wa_ ho hb hg_ hnew_
            clear hg_ hnew_
            have HO57 := Aside0.mk (Kd.R_lower ho BZ.out.size)
            have n0_ := Aside0.mk (below_step BZ.out hb)
            clear BZ hb ho
            have BZ := n0_
            clear n0_
            refine hK.out _ _ (blk_cell (blk_below SZ.out.bW BZ.out) 0 |>.trans rfl) (fun hHeld => ?_)
            clear hK K
            refine norm_ (a' := ?_) ?_ ?_
            rotate_left
            · show Act.put _ (some 57) _ = _
              simp only [Act.put, List.setIfInBounds_toArray, List.set_cons_zero, List.set_cons_succ, i64_w, i32_w]
              rfl
            refine one_ (i := 1) (N := some 53) #[true, true, true, false, true, true, false, false] rfl rfl (one_of HT_.out (by kernel_rfl)) (by decide) (fun K hK => ?_)
            refine Kd.R_lit_step (Kd.int .i64) _ 3 ?hg (N := 53) ?hd (xs := ([] : List Int)) (inner := []) (ok := fun _ => True) (okp := fun _ => True) ?hr ?hp (fun _ hk => hk) trivial (Below.refl _ _) (Nat.le_refl _) (by simp) ?_
            (case hd => rfl)
            (case hg => rfl)
            (case hr => first | (go_simp; done) | (go_simp; rfl))
            (case hp => exact (Reps.none _ _))
            intro v53 wa_ ho hb hg_ hnew_
            clear hg_ hnew_
            have m0_ := Aside0.mk (Kd.R_elder' (v := v53) HO57.out (Kd.R_base ho) hb)
            clear HO57
            have HO57 := m0_
            clear m0_
            have HO53 := Aside0.mk (Kd.R_lower ho BZ.out.size)
            have n0_ := Aside0.mk (below_step BZ.out hb)
            clear BZ hb ho
            have BZ := n0_
            clear n0_
            refine hK.out _ _ (blk_cell (blk_below SZ.out.bW BZ.out) 0 |>.trans rfl) (fun hHeld => ?_)
            clear hK K
            refine norm_ (a' := ?_) ?_ ?_
            rotate_left
            · show Act.put _ (some 53) _ = _
              simp only [Act.put, List.setIfInBounds_toArray, List.set_cons_zero, List.set_cons_succ, i64_w, i32_w]
              rfl
            refine one_ (i := 3) (N := some 55) #[true, true, true, true, true, true, false, false] rfl rfl (one_of HT_.out (by kernel_rfl)) (by decide) (fun K hK => ?_)
            refine Kd.R_append_rows_step (Kd.int .i64) (w0 := wz) wz.heap.size (by rfl) (.tmp 53) (.tmp 54) 22 3 (.int .i64 0) 8 rfl Try.underlying22 info3 rfl (by decide) (by omega) v53 [] p _ _ _ (fun _ => True) (fun _ => False) rfl rfl ?aO ?aR (fun _ _ h => h) (fun _ h => h.elim) ?aF ?aB ?aS ?aL ?_
            (case aR => exact (Foot.now (Kd.F_below PZ.out BZ.out)))
            (case aB => exact BZ.out)
            (case aF => exact fun _ _ => trivial)
            (case aO => exact HO53.out)
            (case aS => exact BZ.out.size)
            (case aL => (try simp only [List.length_nil, List.length_cons]); have := HLP.out; omega)
            intro v55 wb_ ho hb hg hat
            rw [List.nil_append] at ho
            have m0_ := Aside0.mk (Kd.R_after (ok := fun _ => True) HO57.out hg hat)
            clear HO57
            have HO57 := m0_
            clear m0_
            have HO55 := Aside0.mk ho
            clear BZ HO53
            have BZ := Aside0.mk hb
            clear ho hb hg hat
            refine hK.out _ _ (blk_cell (blk_below SZ.out.bW BZ.out) 0 |>.trans rfl) (fun hHeld => ?_)
            clear hK K
            refine norm_ (a' := ?_) ?_ ?_
            rotate_left
            · show Act.put _ (some 55) _ = _
              simp only [Act.put, List.setIfInBounds_toArray, List.set_cons_zero, List.set_cons_succ, i64_w, i32_w]
              rfl
            exact norm_ (by simp only [putAll, Act.put, List.setIfInBounds_toArray, List.set_cons_zero, List.set_cons_succ]) (hCont (v53, v55, v57) _ ⟨hHeld, HO55.out, HO57.out, BZ.out⟩)
        rintro ⟨v53, v55, v57⟩ w53 ⟨hHeld, h0_, h1_, h2_⟩
        clear BZ
        have HO55 := Aside0.mk h0_
        have HO57 := Aside0.mk h1_
        have BZ := Aside0.mk h2_
        clear h0_ h1_ h2_
        obtain ⟨A57, c57, e57⟩ := Kd.R_slice HO57.out
        subst e57
        refine norm_ (a' := ?_) ?_ ?_
        rotate_left
        · simp only [putAll, Act.put, List.setIfInBounds_toArray, List.set_cons_zero, List.set_cons_succ]
          rfl
        refine one_ (i := 6) (N := some 58) #[true, true, true, true, true, true, true, false] rfl rfl (one_of HT_.out (by kernel_rfl)) (by decide) (fun K hK => ?_)
        refine Kd.R_append_rows_step (Kd.int .i64) (w0 := wz) wz.heap.size (by rfl) (.tmp 55) (.tmp 57) 22 3 (.int .i64 0) 8 rfl Try.underlying22 info3 rfl (by decide) (by omega) v55 p [(j : Int)] _ _ _ (fun _ => True) (fun _ => False) rfl rfl ?aO ?aR (fun _ _ h => h) (fun _ h => h.elim) ?aF ?aB ?aS ?aL ?_
        (case aR => exact (Kd.R_reads' HO57.out).2.2)
        (case aB => exact BZ.out)
        (case aF => exact fun _ _ => trivial)
        (case aO => exact HO55.out)
        (case aS => exact BZ.out.size)
        (case aL => (try simp only [List.length_nil, List.length_cons]); have := HLP.out; omega)
        intro v58 wb_ ho hb hg hat
        have HO58 := Aside0.mk ho
        clear HO57
        clear BZ HO55
        have BZ := Aside0.mk hb
        clear ho hb hg hat
        have SY := Aside0.mk (St.below SZ.out BZ.out)
        have KY := Aside0.mk (Kp.trans KZ.out (Kp.below BZ.out))
        refine hK.out _ _ (blk_cell (blk_below SZ.out.bW BZ.out) 0 |>.trans rfl) (fun hHeld => ?_)
        clear hK K
        refine norm_ (a' := ?_) ?_ ?_
        rotate_left
        · show Act.put _ (some 58) _ = _
          simp only [Act.put, List.setIfInBounds_toArray, List.set_cons_zero, List.set_cons_succ, i64_w, i32_w]
          rfl
        obtain ⟨A58, c58, e58⟩ := Kd.R_slice HO58.out
        subst e58
        have HP58 : Aside0 (Pa gO wb_ v A58 (p ++ [(j : Int)])) := ⟨Kd.F_mono (Kd.R_F (Kd.R_bound HO58.out)) (fun k hk => ⟨fun e => by have h5 := hk.2.1; have h6 := blk_lt SZ.out.bO; omega, fun e => by have h5 := hk.2.1; have h6 := Kd.N_lt SZ.out.hN k e.symm; omega⟩)⟩
        have hc58 := (Kd.R_reads' HO58.out).2.1
        refine one_ (i := 7) (N := some 59) #[true, true, true, true, true, true, true, true] rfl rfl (one_of HT_.out (by kernel_rfl)) (by decide) (fun K hK => ?_)
        have he := enters_ Try.func115 (by kernel_rfl) rfl #[.slice A58 (p ++ [(j : Int)]).length c58, .pointer (some ⟨gB, 0, none⟩), .pointer (some ⟨gO, 0, none⟩), .pointer (some ⟨gW, 0, none⟩)] wb_
        refine call_ 115 #[.slice A58 (p ++ [(j : Int)]).length c58, .pointer (some ⟨gB, 0, none⟩), .pointer (some ⟨gO, 0, none⟩), .pointer (some ⟨gW, 0, none⟩)] (by rfl) rfl ?hr ?_
        (case hr => unfold execOp; simp [resolve, Deferred.ofValue, invoke, Act.eval, he])
        refine (walk hD sq h4 nBO nOB nWO nOW nBW nWB gO0 m (p ++ [(j : Int)]) ?s1 ?s2 ?s3 ?s4 A58 c58 wb_ v ys hc58 ?s5 SY.out HP58.out).mono ?_
        (case s1 => simp)
        (case s2 => exact fun x hx => (List.mem_append.1 hx).elim (fun z => hr x z) (fun z => by have := List.mem_singleton.1 z; have := HSQ.out; omega))
        (case s3 => exact List.nodup_append.2 ⟨hnd, (by simp), fun a ha b hb e => HIN.out (by rw [← List.mem_singleton.1 hb, ← e]; exact ha)⟩)
        (case s4 => rw [List.length_append, List.length_singleton]; omega)
        (case s5 => have z := HBd.out; rw [Nat.succ_mul] at z; omega)
        rintro e w9 ⟨rfl, v9, hs9, hk9⟩
        refine ⟨_, rfl, ?_⟩
        have HS9 := Aside0.mk hs9
        have HK9 := Aside0.mk (Kp.trans KY.out hk9)
        clear hs9 hk9
        refine hK.out _ _ ((blk_cell HS9.out.bW 0).trans rfl) (fun hHeld => ?_)
        clear hK K
        refine done_ (by kernel_rfl) ?_
        try go_wp2
        go_roundg k1
        case measure => omega
        case rel => exact ⟨j + 1, v9, _, by omega, (by first | rw [HWJ.out] | go_num), ⟨by (repeat (first | with_reducible refine St.drewN ?_ _ | with_reducible refine St.drew ?_)); exact HS9.out⟩, ⟨by (repeat (first | with_reducible refine Kp.drewN ?_ _ | with_reducible refine Kp.drew ?_)); exact HK9.out⟩, ⟨by have z := HE.out; rw [rowI, HREC.out] at z; rw [List.append_assoc]; exact z⟩, ⟨by have z := HBd.out; rw [Nat.succ_mul] at z; have y := walk_len sq h4 m (p ++ [(j : Int)]); rw [List.length_append]; omega⟩⟩
      · obtain rfl : j = row.length := by omega
        have hk0 : gk = 0 := by omega
        subst hk0
        have c3b0 : decide ((row.length : Int) < (row.length : Int)) = false := decide_eq_false (by omega)
        go_wp2
        go_end0
        exact ⟨rfl, v, by have := HE.out; rw [rowI, List.append_nil] at this; rw [← this]; (repeat (first | with_reducible refine St.drewN ?_ _ | with_reducible refine St.drew ?_)); exact SS.out, by (repeat (first | with_reducible refine Kp.drewN ?_ _ | with_reducible refine Kp.drew ?_)); exact KK.out⟩
def foundI (d : List (List Int)) : Nat → Nat → List (List Int)
  | 0, _ => []
  | e + 1, i => walkI d d.length [(i : Int)] ++ foundI d e (i + 1)
theorem lit1 {gO : Nat} {vo : Value} (w : World) (i : Int) (h1 : gO < w.heap.size) (h2 : ∀ k, vo.ownBlock = some k → k < w.heap.size) : Pa gO (w.alloc (.cells #[.int .i64 i] 3)) vo (some ⟨w.heap.size, 0, none⟩) [i] := by
  have hR : Kd.R (Kd.int .i64) 3 (w.alloc (.cells #[.int .i64 i] 3)) w.heap.size (fun _ => True) (.slice (some ⟨w.heap.size, 0, none⟩) 1 1) [i] := by
    refine ⟨fun _ _ => trivial, [.int .i64 i], World.ownsRow_lit w #[.int .i64 i] 1 (Nat.le_refl _) (by decide) rfl, Reps.one (show Kd.M (Kd.int .i64) _ _ _ i [.int .i64 i] from rfl) (Reps.none _ _)⟩
  exact Kd.F_mono (Kd.R_F (Kd.R_bound hR)) (fun k hk => ⟨fun e => by have := hk.2.1; omega, fun e => by have := hk.2.1; have := h2 k e.symm; omega⟩)
theorem size_alloc_ (w : World) (o : Obj) : (w.alloc o).heap.size = w.heap.size + 1 := by rw [show (w.alloc o).heap = w.heap.push o from rfl, Array.size_push]
def at4 (w : World) (C1 C2 C3 C4 : Array Value) : World := (((w.alloc (.cells C1 25)).alloc (.cells C2 22)).alloc (.cells C3 23)).alloc (.cells C4 115)
theorem at4_1 (w : World) (C1 C2 C3 C4 : Array Value) : (at4 w C1 C2 C3 C4).heap[w.heap.size]? = some (.cells C1 25 (0, 0)) := blk_alloc (blk_alloc (blk_alloc (blk_new w _) _) _) _
theorem at4_3 (w : World) (C1 C2 C3 C4 : Array Value) : (at4 w C1 C2 C3 C4).heap[w.heap.size + 1 + 1]? = some (.cells C3 23 (0, 0)) := by
  have := blk_new ((w.alloc (.cells C1 25)).alloc (.cells C2 22)) (.cells C3 23)
  rw [size_alloc_, size_alloc_] at this
  exact blk_alloc this _
theorem at4_4 (w : World) (C1 C2 C3 C4 : Array Value) : (at4 w C1 C2 C3 C4).heap[w.heap.size + 1 + 1 + 1]? = some (.cells C4 115 (0, 0)) := by
  have := blk_new (((w.alloc (.cells C1 25)).alloc (.cells C2 22)).alloc (.cells C3 23)) (.cells C4 115)
  rw [size_alloc_, size_alloc_, size_alloc_] at this
  exact this
theorem st_init (w : World) (AC : Option Addr) (nC cC : Nat) (AD : Option Addr) (nD cD : Nat) :
    St w w.heap.size (w.heap.size + 1 + 1) (w.heap.size + 1 + 1 + 1) AC nC cC AD nD cD (.slice (some ⟨w.heap.size + 1, 0, none⟩) 0 0) []
      ((at4 w #[.slice AC nC cC, .slice AD nD cD] #[] #[.slice (some ⟨w.heap.size + 1, 0, none⟩) 0 0] #[.nilFunc]).setCell ⟨w.heap.size + 1 + 1 + 1, 0, none⟩
        (.func (.func 115) #[] #[.pointer (some ⟨w.heap.size, 0, none⟩), .pointer (some ⟨w.heap.size + 1 + 1, 0, none⟩), .pointer (some ⟨w.heap.size + 1 + 1 + 1, 0, none⟩)])) := by
  have hR : Kd.N (Kd.slice 3 (Kd.int .i64)) 22 ((w.alloc (.cells #[.slice AC nC cC, .slice AD nD cD] 25)).alloc (.cells #[] 22)) w.heap.size (fun k => w.heap.size ≤ k ∧ k ≠ w.heap.size + 1 + 1) (.slice (some ⟨w.heap.size + 1, 0, none⟩) 0 0) [] := by
    refine ⟨fun k hk => ?_, [], rfl, ⟨fun k hk => hk.symm, [], ?_, Reps.none _ _⟩, fun j x c hx _ => by simp at hx⟩
    · have : w.heap.size + 1 = k := by simpa [Value.ownBlock] using hk
      omega
    · have := World.ownsRow_lit (base := w.heap.size) (e := 22) (size := (Kd.raw (Kd.slice 3 (Kd.int .i64)).sz).sz) (w.alloc (.cells #[.slice AC nC cC, .slice AD nD cD] 25)) #[] 0 (by rw [size_alloc_]; omega) (by decide) (by simp)
      rw [size_alloc_] at this
      exact this
  refine ⟨?_, blk_far (at4_1 _ _ _ _ _) (by show w.heap.size ≠ w.heap.size + 1 + 1 + 1; omega) _, blk_far (at4_3 _ _ _ _ _) (by show w.heap.size + 1 + 1 ≠ w.heap.size + 1 + 1 + 1; omega) _, blk_put (at4_4 _ _ _ _ _) 0 _ rfl, ?_⟩
  · unfold at4; exact below_set (below_alloc (below_alloc (below_alloc (below_alloc (Below.refl _ _) _) _) _) _) (by omega)
  · refine Kd.N_below hR (below_set (below_alloc (below_alloc (Below.refl _ _) _) _) ?_)
    rw [size_alloc_, size_alloc_]; omega
end Circ
open Circ
def impl_circles.f (_ : Nat) (c : List Int) (d : List (List Int)) : Option (List (List Int)) :=
  if c.length = d.length ∧ d.length ≤ 4 ∧ (∀ i, i < d.length → (d.getD i []).length = d.length) ∧ (foundI d d.length 0).length ≤ 20 then some (srtL ((foundI d d.length 0).length - 1) 1 (foundI d d.length 0)) else none
theorem impl_circles.mono : ∀ a0 a1 k, LeO (impl_circles.f k a0 a1) (impl_circles.f (k + 1) a0 a1) := fun _ _ _ => LeO.refl _
set_option maxHeartbeats 8000000 in
set_option maxRecDepth 100000 in
theorem impl_circles.calls (k : Nat) (A0_0 : Option Addr) (c0_0 : Nat) (l0_0 : List Int) (A0_1 : Option Addr) (c0_1 : Nat) (l0_1 : List (List Int)) (r : List (List Int)) (w : World) (hr0_0 : Kd.C (Kd.int .i64) w A0_0 l0_0.length l0_0) (hc0_0 : l0_0.length ≤ c0_0) (hr0_1 : Kd.C (Kd.slice 3 (Kd.int .i64)) w A0_1 l0_1.length l0_1) (hc0_1 : l0_1.length ≤ c0_1) (h : impl_circles.f k l0_0 l0_1 = some r) :
    Calls Try.prog 96 #[.agg #[.slice A0_0 l0_0.length c0_0, .slice A0_1 l0_1.length c0_1]] w fun e w' => ∃ v0_ : Value, e = .returned (v0_) ∧ Kd.N (Kd.slice 3 (Kd.int .i64)) 22 w' w.heap.size (fun k_ => (w.heap.size ≤ k_)) v0_ r ∧ Below w.heap.size w w' := by
  have hu := Try.underlying25
  unfold impl_circles.f at h
  split at h
  case isFalse => cases h
  case isTrue hh =>
  obtain ⟨hcd, h4, sq, h20⟩ := hh
  have HR := Aside0.mk (Option.some.inj h)
  have HCD := Aside0.mk hcd
  clear hcd
  clear h
  have H20 := Aside0.mk h20
  clear h20
  have HD := Aside0.mk hr0_1
  have HSQ := Aside0.mk sq
  clear hr0_1 sq
  have z1 : w.heap.size ≠ w.heap.size + 1 + 1 := by omega
  have z2 : w.heap.size + 1 + 1 ≠ w.heap.size := by omega
  have z3 : w.heap.size + 1 + 1 + 1 ≠ w.heap.size + 1 + 1 := by omega
  have z4 : w.heap.size + 1 + 1 ≠ w.heap.size + 1 + 1 + 1 := by omega
  have z5 : w.heap.size ≠ w.heap.size + 1 + 1 + 1 := by omega
  have z6 : w.heap.size + 1 + 1 + 1 ≠ w.heap.size := by omega
  have z7 : w.heap.size ≤ w.heap.size + 1 + 1 := by omega
  have hst := at4_4 w #[.slice A0_0 l0_0.length c0_0, .slice A0_1 l0_1.length c0_1] #[] #[.slice (some ⟨w.heap.size + 1, 0, none⟩) 0 0] #[.nilFunc]
  have hs0 : (at4 w #[.slice A0_0 l0_0.length c0_0, .slice A0_1 l0_1.length c0_1] #[] #[.slice (some ⟨w.heap.size + 1, 0, none⟩) 0 0] #[.nilFunc]).cell? ⟨w.heap.size + 1 + 1 + 1, 0, none⟩ = some .nilFunc := (blk_cell hst 0).trans rfl
  have hf0 := blk_frozen hst 0
  unfold at4 at hs0 hf0
  clear hst
  go_enter Try.func96, Try.ntmps96
  have S0 := Aside0.mk (st_init w A0_0 l0_0.length c0_0 A0_1 l0_1.length c0_1)
  unfold at4 at S0
  generalize hW4 : ((((w.alloc (.cells #[.slice A0_0 l0_0.length c0_0, .slice A0_1 l0_1.length c0_1] 25)).alloc (.cells #[] 22)).alloc (.cells #[.slice (some ⟨w.heap.size + 1, 0, none⟩) 0 0] 23)).alloc (.cells #[.nilFunc] 115)) = w4 at hs0 hf0 S0
  go_wp2_with ((with_reducible refine gate_store (t := 115) (p := 4) rfl ?_); refine store_event (t := 115) (p := 4) (v := ?vo) (w1 := w4.setCell ⟨w.heap.size + 1 + 1 + 1, 0, none⟩
        (.func (.func 115) #[] #[.pointer (some ⟨w.heap.size, 0, none⟩), .pointer (some ⟨w.heap.size + 1 + 1, 0, none⟩), .pointer (some ⟨w.heap.size + 1 + 1 + 1, 0, none⟩)])) ?hg ?ho ?hn ?hr ?_; (case ho => rfl); (case hg => rfl); (case hn => rfl); (case hr => go_simp; rw [run_store _ _ _ _ _ rfl]; simp only [stored, hs0, hf0]; rfl); intro w5 hw; rw [← hw] at S0; have SS := S0; clear S0 hs0 hf0 hW4 hw; have hz0 : w5.cell? ⟨w.heap.size, 0, none⟩ = some (.slice A0_0 l0_0.length c0_0) := (blk_cell SS.out.bB 0).trans rfl)
  have h625 : l0_1.length * 5 ^ l0_1.length ≤ 4 * 625 := Nat.mul_le_mul h4 (Nat.pow_le_pow_right (by omega) h4)
  generalize hF : foundI l0_1 l0_1.length 0 = F at HR H20
  have HF := Aside0.mk hF
  clear hF
  obtain ⟨n, hn⟩ : ∃ n, n = l0_1.length := ⟨_, rfl⟩
  have HN := Aside0.mk hn
  have H4 := Aside0.mk h4
  clear hn h4
  have H625 := Aside0.mk h625
  clear h625
  have HHR := Aside0.mk hr0_0
  clear hr0_0
  go_loopg [11] (l0_0.length) (fun kq v11 w' => ∃ (j : Nat) (v : Value) (ys : List (List Int)), kq + j = l0_0.length ∧ v11 = .int .i64 j ∧ Aside0 (St w w.heap.size (w.heap.size + 1 + 1) (w.heap.size + 1 + 1 + 1) A0_0 l0_0.length c0_0 A0_1 l0_1.length c0_1 v ys w') ∧ Aside0 (ys ++ foundI l0_1 kq j = F) ∧ Aside0 (ys.length + kq * 5 ^ l0_1.length ≤ 1000000))
  case atStart => exact ⟨0, _, [], by omega, rfl, ⟨by (repeat (first | with_reducible refine St.drewN ?_ _ | with_reducible refine St.drew ?_)); exact SS.out⟩, ⟨by rw [← HF.out, List.nil_append, HCD.out]⟩, ⟨by have := H625.out; rw [HCD.out, List.length_nil]; omega⟩⟩
  case round =>
    clear SS
    obtain ⟨j, v, ys, hj, rfl, SS, HE, HBd⟩ := hrel
    by_cases hlt : j < l0_0.length
    · obtain ⟨k1, rfl⟩ : ∃ k1, gk = k1 + 1 := ⟨gk - 1, by omega⟩
      have HWJ : Aside0 (wrap64 ((j : Int) + 1) = ((j + 1 : Nat) : Int)) := ⟨by have := H4.out; have := HCD.out; unfold wrap64; omega⟩
      have hzW : wr.cell? ⟨w.heap.size + 1 + 1 + 1, 0, none⟩ = some (.func (.func 115) #[] #[.pointer (some ⟨w.heap.size, 0, none⟩), .pointer (some ⟨w.heap.size + 1 + 1, 0, none⟩), .pointer (some ⟨w.heap.size + 1 + 1 + 1, 0, none⟩)]) := (blk_cell SS.out.bW 0).trans rfl
      have c3b0 : decide ((j : Int) < (l0_0.length : Int)) = true := decide_eq_true (by omega)
      go_wp2_with (go_at_call 115; refine (walk HD.out HSQ.out H4.out z1 z2 z3 z4 z5 z6 z7 l0_1.length [(j : Int)] (by simp) ?s2 (by simp) (by simp) _ 1 _ v ys (Nat.le_refl _) ?s5 (SS.out.below (below_alloc (Below.refl _ _) _)) (lit1 wr (j : Int) (blk_lt SS.out.bO) (Kd.N_lt SS.out.hN))).mono ?_; (case s2 => exact fun x hx => by have := List.mem_singleton.1 hx; have := HCD.out; omega); (case s5 => have z := HBd.out; rw [Nat.succ_mul] at z; omega); rintro e w9 ⟨rfl, v9, hs9, _⟩; have HS9 := Aside0.mk hs9; clear hs9)
      go_roundg k1
      case measure => omega
      case rel => exact ⟨j + 1, v9, _, by omega, (by first | rw [HWJ.out] | go_num), ⟨by (repeat (first | with_reducible refine St.drewN ?_ _ | with_reducible refine St.drew ?_)); exact HS9.out⟩, ⟨by have z := HE.out; rw [foundI] at z; rw [List.append_assoc]; exact z⟩, ⟨by have z := HBd.out; rw [Nat.succ_mul] at z; have y := walk_len HSQ.out H4.out l0_1.length [(j : Int)]; rw [List.length_append]; omega⟩⟩
    · obtain rfl : j = l0_0.length := by omega
      have hk0 : gk = 0 := by omega
      subst hk0
      have c3b0 : decide ((l0_0.length : Int) < (l0_0.length : Int)) = false := decide_eq_false (by omega)
      have HYF : Aside0 (ys = F) := ⟨by have := HE.out; rw [foundI, List.append_nil] at this; exact this⟩
      have hzO : wr.cell? ⟨w.heap.size + 1 + 1, 0, none⟩ = some v := (blk_cell SS.out.bO 0).trans rfl
      by_cases hys : ys = []
      · subst hys
        obtain ⟨AV, cV, eV⟩ := Kd.N_slice SS.out.hN
        have HEV := Aside0.mk eV
        clear eV
        go_wp2_with (go_at_call 117; rw [HEV.out]; refine (sort117_0 AV cV _).mono ?_; rintro e w9 ⟨rfl, ⟨nd, rfl⟩⟩)
        go_ret
        refine ⟨_, rfl, ?_, ?_⟩
        · rw [← HR.out, ← HYF.out]
          exact Kd.N_mono (ok := fun k => w.heap.size ≤ k ∧ k ≠ w.heap.size + 1 + 1) (by (repeat (first | with_reducible refine Kd.N_drewN ?_ _ | with_reducible refine Kd.N_drew ?_)); exact SS.out.hN) (fun _ hk => hk.1)
        · repeat (first | (with_reducible first | exact SS.out.hB | apply below_alloc | apply pw_below_drewN | apply below_drew1) | exact SS.out.hB)
      · have hlen : 0 < ys.length := List.length_pos_iff.2 hys
        obtain ⟨g, cap, eV, hg, hgl, _⟩ := Kd.N_form SS.out.hN hlen
        have HEV := Aside0.mk eV
        have HN9 := Aside0.mk (show Kd.N (Kd.slice 3 (Kd.int .i64)) 22 wr w.heap.size (fun k => w.heap.size ≤ k ∧ k ≠ w.heap.size + 1 + 1) (.slice (some ⟨g, 0, none⟩) ys.length cap) ys from eV ▸ SS.out.hN)
        have hgO : g ≠ w.heap.size + 1 + 1 := (SS.out.hN.1 g (by rw [eV]; simp [Value.ownBlock])).2
        have HGO := Aside0.mk hgO
        have HG := Aside0.mk hg
        have h20 : ys.length ≤ 20 := by rw [HYF.out]; exact H20.out
        clear eV hgO hg hgl hys hlen
        go_wp2_with (go_at_call 117; rw [HEV.out]; refine (sort117 (show Kd.N (Kd.slice 3 (Kd.int .i64)) 22 _ w.heap.size (fun k => w.heap.size ≤ k ∧ k ≠ w.heap.size + 1 + 1) (.slice (some ⟨g, 0, none⟩) ys.length cap) ys by (repeat (first | with_reducible refine Kd.N_drewN ?_ _ | with_reducible refine Kd.N_drew ?_)); exact HN9.out) h20).mono ?_; rintro e w9 ⟨rfl, hs9⟩; have HS9 := Aside0.mk hs9; clear hs9; have hzO9 : w9.cell? ⟨w.heap.size + 1 + 1, 0, none⟩ = some v := (blk_cell ((HS9.out.2.1.2 _ (blk_lt SS.out.bO) (fun e => HGO.out e.symm)).trans SS.out.bO) 0).trans rfl)
        go_ret
        refine ⟨_, rfl, ?_, ?_⟩
        · rw [← HR.out, ← HYF.out, HEV.out]
          exact Kd.N_mono (ok := fun k => w.heap.size ≤ k ∧ k ≠ w.heap.size + 1 + 1) (by (repeat (first | with_reducible refine Kd.N_drewN ?_ _ | with_reducible refine Kd.N_drew ?_)); exact HS9.out.1) (fun _ hk => hk.1)
        · have hBB : Below w.heap.size w w9 := ⟨HS9.out.2.2.1.trans SS.out.hB.os, HS9.out.2.2.2.1.trans SS.out.hB.tape, HS9.out.2.2.2.2.trans SS.out.hB.output, Nat.le_trans SS.out.hB.size HS9.out.2.1.1, fun i hi => (HS9.out.2.1.2 i (Nat.lt_of_lt_of_le hi SS.out.hB.size) (fun e => by have := HG.out; omega)).trans (SS.out.hB.block i hi)⟩
          repeat (first | (with_reducible first | exact hBB | apply below_alloc | apply pw_below_drewN | apply below_drew1) | exact hBB)
end
end Go.Proofs.Ytfooakkhkehpiaa.PU
namespace Go.Proofs.Ytfooakkhkehpiaa.PU
open Go.RowKit Go.Proofs.YtfooakkhkehpiaaW.PrintWords Go.Proofs.YtfooakkhkehpiaaW.PrintLast Go.Proofs.YtfooakkhkehpiaaW.PrintMore Go.Proofs.Ytfooakkhkehpiaa.Qd
attribute [local go_sem] max2_int min2_int max_two min_two max_three min_three max_four min_four
set_option linter.unusedVariables false
set_option linter.unusedSimpArgs false
def impl_CirclesOf.f (k : Nat) (ab : List Int) (aa : List (List Int)) : Option ((List (List Int))) := (impl_isBook.f k ab aa).bind fun at7 => (if at7 = true then ((impl_circles.f k ab aa).bind fun at8 => (some at8)) else (some ([] : List (List Int))))
theorem impl_CirclesOf.mq {p : Prop} (h : p := by
 repeat' first
 | (with_reducible exact impl_circles.mono _ _ _)
 | (with_reducible exact impl_isBook.mono _ _ _)
 | (with_reducible exact LeO.refl _)
 | (with_reducible exact LeO.none _)
 | (with_reducible refine LeO.ite ?_ ?_)
 | (with_reducible refine LeO.bind ?_ (fun _ => ?_))
 | exact impl_circles.mono _ _ _
 | exact impl_isBook.mono _ _ _
 | exact LeO.none _
 | refine LeO.ite ?_ ?_
 | refine LeO.bind ?_ (fun _ => ?_)) : p := h
theorem impl_CirclesOf.mono : ∀ a0 a1 k, LeO (impl_CirclesOf.f k a0 a1) (impl_CirclesOf.f (k + 1) a0 a1) := by
 intro a0 a1 k
 unfold impl_CirclesOf.f
 exact impl_CirclesOf.mq
theorem sw {p : Prop} (h : p := by repeat (first | (with_reducible first | exact HB.out | apply below_alloc | apply pw_below_drewN | apply below_drew1 | refine below_set ?_ di9.out) | exact HB.out)) : p := h
set_option maxHeartbeats 8000000 in
set_option maxRecDepth 100000 in
theorem impl_CirclesOf.calls (k : Nat) (af : Option Addr) (ae : Nat) (ab : List Int) (ah : Option Addr) (ag : Nat) (aa : List (List Int)) (r : List (List Int)) (w : World) (cg : Kd.C (Kd.int .i64) w af ab.length ab) (ck : ab.length ≤ ae) (ch : Kd.C (Kd.slice 3 (Kd.int .i64)) w ah aa.length aa) (cl : aa.length ≤ ag) (h : impl_CirclesOf.f k ab aa = some r) :
  Calls Try.prog 50 #[.agg #[.slice af ab.length ae, .slice ah aa.length ag]] w fun e w' => ∃ v0_ : Value, e = .returned (v0_) ∧ Kd.N (Kd.slice 3 (Kd.int .i64)) 22 w' w.heap.size (fun k_ => (w.heap.size ≤ k_)) v0_ r ∧ Below w.heap.size w w' := by
 have hu25 := Try.underlying25
 have b7 := Aside0.mk cg
 have cn := Aside0.mk ck
 clear cg ck
 have bz := Aside0.mk ch
 have cr := Aside0.mk cl
 clear ch cl
 have HB := Aside0.mk (Below.refl w.heap.size w)
 have H : ((impl_isBook.f k ab aa).bind fun at7 => (if at7 = true then ((impl_circles.f k ab aa).bind fun at8 => (some at8)) else (some ([] : List (List Int))))) = some r := h
 clear h
 obtain ⟨at7, A2, H⟩ := bind_ H
 by_cases c3 : at7 = true
 ·subst c3
  replace H := ifp_ H
  obtain ⟨at8, A4, H⟩ := bind_ H
  obtain rfl := Option.some.inj H
  go_enter Try.func50, Try.ntmps50
  go_wp2_with (first | ((with_reducible refine gate_dst (N := 1) rfl ?_); refine bx_ (N := 1) #[.slice af ab.length ae, .slice ah aa.length ag] 25 ?_; intro ab5 hg w5 hbox hb; have rj := Aside0.mk (hbox); have ey2 := Aside0.mk ((g67_ : w.heap.size ≤ ab5)); have di9 := Aside0.mk ((g67_ : w.heap.size ≤ ab5)); replace HB := Aside0.mk (below_step (sw) hb); clear hb hbox hg; obtain ⟨rs, rt, vc, ru⟩ := blk2_ rj) | ((with_reducible refine gate_callee (f := 73) rfl ?_); refine goesL_ (some 4) rfl rfl Try.func73 k_ rfl #[.agg #[.slice af ab.length ae, .slice ah aa.length ag]] rfl (g3_) ?_; (with_reducible refine (impl_isBook.calls k _ _ ab _ _ aa true _ ?side1 ?side2 ?side3 ?side4 A2.out).mono ?_); (case side1 => exact uf2_ b7); (case side2 => exact cn.out); (case side3 => exact uf2_ bz); (case side4 => exact cr.out); rintro e w7 ⟨rfl, hb⟩; refine ⟨_, rfl, ?_⟩; replace rj := bb_ rj hb; replace HB := Aside0.mk (below_step (sw) hb); (try clear hb); (try clear hk hi); obtain ⟨ko, kr, ks, kt⟩ := blk2_ rj) | ((with_reducible refine gate_callee (f := 96) rfl ?_); refine goesL_ (some 7) rfl rfl Try.func96 k_ rfl #[.agg #[.slice af ab.length ae, .slice ah aa.length ag]] rfl (g3_) ?_; (with_reducible refine (impl_circles.calls k _ _ ab _ _ aa at8 _ ?side1 ?side2 ?side3 ?side4 A4.out).mono ?_); (case side1 => exact uf2_ b7); (case side2 => exact cn.out); (case side3 => exact uf2_ bz); (case side4 => exact cr.out); rintro e w9 ⟨ge1, rfl, ac, hb⟩; refine ⟨_, rfl, ?_⟩; have ey3 := Aside0.mk (Kd.N_lower (Kd.N_mono (ok' := fun k_ => (w.heap.size ≤ k_) ∧ k_ ≠ ab5) ac (fun k_ hk_ => ⟨(Nat.le_trans (below_size (sw)) hk_), (Kd.freshB (g := ab5) (o := .cells #[.slice af ab.length ae, .slice ah aa.length ag] 25 (0, 0)) (uf0_ rj) k_ hk_)⟩)) (below_size (sw))); replace rj := bb_ rj hb; replace HB := Aside0.mk (below_step (sw) hb); (try clear hb); (try clear hk hi); (try clear ac)))
  go_ret
  exact ⟨_, g4_, by (with_reducible repeat (first | apply Kd.N_alloc | apply Kd.N_drewN | apply Kd.N_drew)); exact Kd.N_mono ey3.out (fun _ hk => hk.1), sw⟩
 ·replace c3 := Bool.eq_false_iff.mpr c3
  subst c3
  replace H := ifn_ H
  obtain rfl := Option.some.inj H
  go_enter Try.func50, Try.ntmps50
  go_wp2_with (first | ((with_reducible refine gate_dst (N := 1) rfl ?_); refine bx_ (N := 1) #[.slice af ab.length ae, .slice ah aa.length ag] 25 ?_; intro ab5 hg o6 hbox hb; have rj := Aside0.mk (hbox); have ey2 := Aside0.mk ((g67_ : w.heap.size ≤ ab5)); have di9 := Aside0.mk ((g67_ : w.heap.size ≤ ab5)); replace HB := Aside0.mk (below_step (sw) hb); clear hb hbox hg; obtain ⟨yt, yu, yv, yw⟩ := blk2_ rj) | ((with_reducible refine gate_callee (f := 73) rfl ?_); refine goesL_ (some 4) rfl rfl Try.func73 k_ rfl #[.agg #[.slice af ab.length ae, .slice ah aa.length ag]] rfl (g3_) ?_; (with_reducible refine (impl_isBook.calls k _ _ ab _ _ aa false _ ?side1 ?side2 ?side3 ?side4 A2.out).mono ?_); (case side1 => exact uf2_ b7); (case side2 => exact cn.out); (case side3 => exact uf2_ bz); (case side4 => exact cr.out); rintro e o4 ⟨rfl, hb⟩; refine ⟨_, rfl, ?_⟩; replace rj := bb_ rj hb; replace HB := Aside0.mk (below_step (sw) hb); (try clear hb); (try clear hk hi)))
  go_ret
  exact ⟨_, g4_, g20_, sw⟩
def IsS112 (w0 W : World) (g : Nat) (f0 : List Int) (f1 : Int) : Prop := ∃ A0 c0, W.heap[g]? = some (.cells #[.slice A0 f0.length c0, .int .i64 f1] 112 (0, 0)) ∧ w0.heap.size ≤ g ∧ Kd.C (Kd.int .u8) w0 A0 f0.length f0
theorem IsS112.grown {w0 W : World} {g : Nat} {f0 : List Int} {f1 : Int} {W1 : World} {row : Option Nat} (h : IsS112 w0 W g f0 f1) (hw : W.grownBy W1 row) (hne : some g ≠ row) : IsS112 w0 W1 g f0 f1 := by
 obtain ⟨A0, c0, hb, hg, ct⟩ := h
 exact ⟨A0, c0, blk_grown hb hw hne, hg, ct⟩
theorem IsS112.own_neN {w0 W : World} {g : Nat} {f0 : List Int} {f1 : Int} {α : Type} {d : Kd α} {e : Nat} {base : Nat} {ok : Nat → Prop} {v : Value} {xs : List α} (h : IsS112 w0 W g f0 f1) (ho : Kd.N d e W base ok v xs) (ht : e ≠ 112) : some g ≠ v.ownBlock := by
 obtain ⟨A0, c0, hb, hg, ct⟩ := h
 exact Kd.N_ne ho hb ht
theorem IsS112.fresh {w0 W : World} {g : Nat} {f0 : List Int} {f1 : Int} (h : IsS112 w0 W g f0 f1) : ∀ k, W.heap.size ≤ k → k ≠ g := by
 obtain ⟨A0, c0, hb, hg, ct⟩ := h
 exact Kd.freshB hb
theorem IsS112.kept {w0 W : World} {g : Nat} {f0 : List Int} {f1 : Int} {W1 : World} {S : Nat → Prop} (h : IsS112 w0 W g f0 f1) (hk : Kept W W1 S) (hne : ¬ S g) : IsS112 w0 W1 g f0 f1 := by
 obtain ⟨A0, c0, hb, hg, ct⟩ := h
 exact ⟨A0, c0, blk_kept hb hk hne, hg, ct⟩
theorem IsS112.below {w0 W : World} {g : Nat} {f0 : List Int} {f1 : Int} {W1 : World} (h : IsS112 w0 W g f0 f1) (hw : Below W.heap.size W W1) : IsS112 w0 W1 g f0 f1 := h.grown (grown_of_below hw none) (by simp)
theorem IsS112.alloc {w0 W : World} {g : Nat} {f0 : List Int} {f1 : Int} (h : IsS112 w0 W g f0 f1) (o : Obj) : IsS112 w0 (W.alloc o) g f0 f1 := h.below (below_alloc (Below.refl _ _) o)
theorem IsS112.drewN {w0 W : World} {g : Nat} {f0 : List Int} {f1 : Int} (h : IsS112 w0 W g f0 f1) (m : Nat) : IsS112 w0 (W.drewN m) g f0 f1 := h
theorem IsS112.drew {w0 W : World} {g : Nat} {f0 : List Int} {f1 : Int} (h : IsS112 w0 W g f0 f1) : IsS112 w0 W.drew g f0 f1 := h
theorem IsS112.at_ {w0 W : World} {g : Nat} {f0 : List Int} {f1 : Int} {w' : World} {m : Nat} (hq : W.drewN m = w') (h : IsS112 w0 W g f0 f1) : IsS112 w0 w' g f0 f1 := by subst hq; exact IsS112.drewN h m
theorem IsS112.apart {w0 W : World} {g : Nat} {f0 : List Int} {f1 : Int} {α : Type} {d : Kd α} {e : Nat} {base : Nat} {ok : Nat → Prop} {v : Value} {xs : List α} (h : IsS112 w0 W g f0 f1) (ho : d.R e W base ok v xs) (ht : ∀ q, q ∈ e :: d.E → q ≠ 112) : d.R e W base (fun k => ok k ∧ k ≠ g) v xs := by
 obtain ⟨A0, c0, hb, hg, ct⟩ := h
 exact Kd.R_types ho hb ht
theorem IsS112.own_ne {w0 W : World} {g : Nat} {f0 : List Int} {f1 : Int} {α : Type} {d : Kd α} {e : Nat} {base : Nat} {ok : Nat → Prop} {v : Value} {xs : List α} (h : IsS112 w0 W g f0 f1) (ho : d.R e W base ok v xs) (ht : e ≠ 112) : some g ≠ v.ownBlock := by
 obtain ⟨A0, c0, hb, hg, ct⟩ := h
 exact Kd.R_ne ho hb ht
theorem IsS112.apartQ {w0 W : World} {g : Nat} {f0 : List Int} {f1 : Int} {α : Type} {d : Kd α} {e : Nat} {base : Nat} {ok : Nat → Prop} {v : Value} {xs : List α} (h : IsS112 w0 W g f0 f1) (ho : d.Q e W base ok v xs) (ht : ∀ q, q ∈ e :: d.E → q ≠ 112) : d.Q e W base (fun k => ok k ∧ k ≠ g) v xs := by
 obtain ⟨A0, c0, hb, hg, ct⟩ := h
 exact Kd.Q_types ho hb ht
theorem IsS112.own_neQ {w0 W : World} {g : Nat} {f0 : List Int} {f1 : Int} {α : Type} {d : Kd α} {e : Nat} {base : Nat} {ok : Nat → Prop} {v : Value} {xs : List α} (h : IsS112 w0 W g f0 f1) (ho : d.Q e W base ok v xs) (ht : e ≠ 112) : some g ≠ v.ownBlock := by
 obtain ⟨A0, c0, hb, hg, ct⟩ := h
 exact Kd.Q_ne ho hb ht
theorem IsS112.apartS {w0 W : World} {g : Nat} {f0 : List Int} {f1 : Int} {α : Type} {d : Kd α} {e : Nat} {base : Nat} {ok : Nat → Prop} {v : Value} {xs : List α} (h : IsS112 w0 W g f0 f1) (ho : d.S e W base ok v xs) (ht : ∀ q, q ∈ e :: d.E → q ≠ 112) : d.S e W base (fun k => ok k ∧ k ≠ g) v xs := by
 obtain ⟨A0, c0, hb, hg, ct⟩ := h
 exact Kd.S_types ho hb ht
theorem IsS112.own_neS {w0 W : World} {g : Nat} {f0 : List Int} {f1 : Int} {α : Type} {d : Kd α} {e : Nat} {base : Nat} {ok : Nat → Prop} {v : Value} {xs : List α} (h : IsS112 w0 W g f0 f1) (ho : d.S e W base ok v xs) (ht : e ≠ 112) : some g ≠ v.ownBlock := by
 obtain ⟨A0, c0, hb, hg, ct⟩ := h
 exact Kd.S_ne ho hb ht
theorem IsS112.lt {w0 W : World} {g : Nat} {f0 : List Int} {f1 : Int} (h : IsS112 w0 W g f0 f1) : g < W.heap.size := by
 obtain ⟨A0, c0, hb, hg, ct⟩ := h
 exact blk_lt hb
theorem IsS112.ge {w0 W : World} {g : Nat} {f0 : List Int} {f1 : Int} (h : IsS112 w0 W g f0 f1) : w0.heap.size ≤ g := by
 obtain ⟨A0, c0, hb, hg, ct⟩ := h
 exact hg
theorem IsS112.ne_blk {w0 W : World} {g : Nat} {f0 : List Int} {f1 : Int} {a : Nat} {cs : Array Value} {t : TypeId} {fr : Nat × Nat} (h : IsS112 w0 W g f0 f1) (hb2 : W.heap[a]? = some (.cells cs t fr)) (ht : t ≠ 112) : g ≠ a := by
 obtain ⟨A0, c0, hb, hg, ct⟩ := h
 rintro rfl
 rw [hb] at hb2
 injection hb2 with hb2
 injection hb2 with _ ht2
 exact ht ht2.symm
theorem IsS112.far {w0 W : World} {g : Nat} {f0 : List Int} {f1 : Int} {p : Addr} (h : IsS112 w0 W g f0 f1) (hne : g ≠ p.block) (u : Value) : IsS112 w0 (W.setCell p u) g f0 f1 := by
 obtain ⟨A0, c0, hb, hg, ct⟩ := h
 exact ⟨A0, c0, blk_far hb hne u, hg, ct⟩
theorem cellS112_0 {W : World} {g : Nat} {A0 : Option Addr} {c0 : Nat} {f0 : List Int} {f1 : Int} (h : W.heap[g]? = some (.cells #[.slice A0 f0.length c0, .int .i64 f1] 112 (0, 0))) : W.cell? ⟨g, 0, none⟩ = some (.slice A0 f0.length c0) := (blk_cell h 0).trans rfl
theorem cellS112_1 {W : World} {g : Nat} {A0 : Option Addr} {c0 : Nat} {f0 : List Int} {f1 : Int} (h : W.heap[g]? = some (.cells #[.slice A0 f0.length c0, .int .i64 f1] 112 (0, 0))) : W.cell? ⟨g, 1, none⟩ = some (.int .i64 f1) := (blk_cell h 1).trans rfl
theorem IsS112.set_1 {w0 W : World} {g : Nat} {f0 : List Int} {f1 : Int} (h : IsS112 w0 W g f0 f1) (x : Int) : IsS112 w0 (W.setCell ⟨g, 1, none⟩ (.int .i64 x)) g f0 x := by
 obtain ⟨A0, c0, hb, hg, ct⟩ := h
 exact ⟨A0, c0, by simpa using blk_set hb 1 (.int .i64 x), hg, ct⟩
theorem IsS112.new (w0 W : World) (A0 : Option Addr) (c0 : Nat) (f0 : List Int) (f1 : Int) (hB : Below w0.heap.size w0 W) (ct : Kd.C (Kd.int .u8) w0 A0 f0.length f0) : IsS112 w0 (W.alloc (.cells #[.slice A0 f0.length c0, .int .i64 f1] 112)) W.heap.size f0 f1 := ⟨A0, c0, by simpa using heap_alloc_new W _, hB.size, ct⟩
def spec_l20Open.f (l0 : List Int) : Option (List Int × Int) := if (l0.length : Int) > 2000 then (if 2000 ≤ (l0.length : Int) then (some (l0.take 2000, 0)) else (none)) else (some (l0, 0))
theorem bq5 {p : Prop} (h : p := by repeat (first | (with_reducible first | exact HB.out | apply below_alloc | apply pw_below_drewN | apply below_drew1 | refine below_set ?_ cr2.out | refine below_set ?_ cr3.out) | exact HB.out)) : p := h
theorem cm7 {p : Prop} (h : p := by repeat (first | (with_reducible first | exact HBW.out | apply below_alloc | apply pw_below_drewN | apply below_drew1 | refine below_set ?_ dy6.out | refine below_set ?_ dy7.out) | exact HBW.out)) : p := h
set_option maxHeartbeats 8000000 in
set_option maxRecDepth 100000 in
theorem spec_l20Open.calls (A0 : Option Addr) (c0 : Nat) (l0 : List Int) (r1 : List Int) (r2 : Int) (w0 w : World) (hB : Below w0.heap.size w0 w) (ct : Kd.C (Kd.int .u8) w0 A0 l0.length l0) (dq : l0.length ≤ c0) (h : spec_l20Open.f l0 = some (r1, r2)) :
  Calls Try.prog 69 #[.slice A0 l0.length c0] w fun e w' => ∃ g_ : Nat, e = .returned (.pointer (some ⟨g_, 0, none⟩)) ∧ IsS112 w0 w' g_ r1 r2 ∧ Below w0.heap.size w0 w' ∧ Below w.heap.size w w' := by
 have hu112 := Try.underlying112
 have eg := Aside0.mk ct
 have jo := Aside0.mk dq
 clear ct dq
 have HBW := Aside0.mk (Below.refl w.heap.size w)
 have HW0 := Aside0.mk hB.size
 have HB := Aside0.mk hB
 clear hB
 have H : (if (l0.length : Int) > 2000 then (if 2000 ≤ (l0.length : Int) then (some (l0.take 2000, 0)) else (none)) else (some (l0, 0))) = some (r1, r2) := h
 clear h
 by_cases c2 : (l0.length : Int) > 2000
 ·rw [if_pos c2] at H
  have iu := decide_eq_true c2
  have km : decide (2000 < l0.length) = true := decide_eq_true (by omega)
  clear c2
  obtain ⟨c3, H⟩ := pos_ H
  have ft := eq_true c3
  have kn := decide_eq_true c3
  clear c3
  simp only [Option.some.injEq, Prod.mk.injEq] at H
  obtain ⟨rfl, rfl⟩ := H
  obtain ⟨i04, cr4, _, hsz4, _⟩ := info_parts info5
  obtain ⟨hcut4, hA4, hC4⟩ := print_take_of (P := Try.prog) (Value.int .u8) 0 33 5 .i64 Try.underlying33 cr4 hsz4 A0 c0 l0 2000 (by omega) (of_decide_eq_true (g0_)) jo.out
  have dy8 := Aside0.mk (Kd.C_of_reads (h1 := fun _ => rfl) (hA4 _ (Kd.reads_of_C eg.out)))
  have fj9 := Aside0.mk hC4
  clear hA4 hC4 cr4 hsz4
  go_enter Try.func69, Try.ntmps69
  go_wp2_with (first | ((with_reducible refine gate_dst (N := 10) rfl ?_); refine bx_ (N := 10) #[.slice A0 (l0.take 2000).length c0, .int .i64 0] 112 ?_; intro bb9 hg w5 hbox hb; replace HB := Aside0.mk (below_step (bq5) hb); have dy9 := Aside0.mk (hbox); have dy6 := Aside0.mk ((g58_ : w.heap.size ≤ bb9)); have cr2 := Aside0.mk ((Nat.le_trans HW0.out (g58_ : w.heap.size ≤ bb9) : w0.heap.size ≤ bb9)); replace HBW := Aside0.mk (below_step HBW.out hb); clear hb hbox hg))
  go_ret
  exact ⟨_, rfl, (show IsS112 w0 _ bb9 (l0.take 2000) 0 from ⟨_, _, uf0_ dy9, cr2.out, dy8.out⟩), bq5, cm7⟩
 ·rw [if_neg c2] at H
  have iu := decide_eq_false c2
  have km : decide (2000 < l0.length) = false := decide_eq_false (by omega)
  clear c2
  simp only [Option.some.injEq, Prod.mk.injEq] at H
  obtain ⟨rfl, rfl⟩ := H
  go_enter Try.func69, Try.ntmps69
  go_wp2_with (first | ((with_reducible refine gate_dst (N := 10) rfl ?_); refine bx_ (N := 10) #[.slice A0 l0.length c0, .int .i64 0] 112 ?_; intro bc0 hg w6 hbox hb; replace HB := Aside0.mk (below_step (bq5) hb); have dz0 := Aside0.mk (hbox); have dy7 := Aside0.mk ((g58_ : w.heap.size ≤ bc0)); have cr3 := Aside0.mk ((Nat.le_trans HW0.out (g58_ : w.heap.size ≤ bc0) : w0.heap.size ≤ bc0)); replace HBW := Aside0.mk (below_step HBW.out hb); clear hb hbox hg))
  go_ret
  exact ⟨_, rfl, (show IsS112 w0 _ bc0 l0 0 from ⟨_, _, uf0_ dz0, cr3.out, eg.out⟩), bq5, cm7⟩
def spec_l20Rd_pick.j0 : Nat → Int → Bool → List Int → Int → Option (Int × Int)
 | 0, _, _, _, _ => none
 | k + 1, x1, x24, e6, gl => if x24 = true then (some (0, gl)) else (if (wrap64 (gl - 1)) < (e6.length : Int) then (if 0 ≤ (wrap64 (gl - 1)) then (if x1 = 0 then (none) else (some (Int.tmod (wrap64 (rd e6 (wrap64 (gl - 1)))) x1, gl))) else (none)) else (if (e6.length : Int) = 0 then (none) else (if 0 ≤ (Int.tmod (wrap64 (gl - 1)) (e6.length : Int)) then (if (Int.tmod (wrap64 (gl - 1)) (e6.length : Int)) < (e6.length : Int) then (if 0 ≤ (Int.tmod (wrap64 ((wrap64 ((wrap64 (gl - 1)) * 7)) + 3)) (e6.length : Int)) then (if (Int.tmod (wrap64 ((wrap64 ((wrap64 (gl - 1)) * 7)) + 3)) (e6.length : Int)) < (e6.length : Int) then (if x1 = 0 then (none) else (some (Int.tmod (Go.bits .xor .i64 (wrap64 ((wrap64 ((wrap64 ((wrap64 ((wrap64 (rd e6 (Int.tmod (wrap64 (gl - 1)) (e6.length : Int)))) * 131)) + (wrap64 ((wrap64 (rd e6 (Int.tmod (wrap64 ((wrap64 ((wrap64 (gl - 1)) * 7)) + 3)) (e6.length : Int)))) * 1117)))) + (wrap64 ((wrap64 (gl - 1)) * 29)))) + (wrap64 ((wrap64 (Int.tdiv (wrap64 (gl - 1)) (e6.length : Int))) * 53)))) (wrap64 (Int.tdiv (wrap64 ((wrap64 ((wrap64 ((wrap64 ((wrap64 (rd e6 (Int.tmod (wrap64 (gl - 1)) (e6.length : Int)))) * 131)) + (wrap64 ((wrap64 (rd e6 (Int.tmod (wrap64 ((wrap64 ((wrap64 (gl - 1)) * 7)) + 3)) (e6.length : Int)))) * 1117)))) + (wrap64 ((wrap64 (gl - 1)) * 29)))) + (wrap64 ((wrap64 (Int.tdiv (wrap64 (gl - 1)) (e6.length : Int))) * 53)))) 64))) x1, gl))) else (none)) else (none)) else (none)) else (none))))
def spec_l20Rd_pick.f (k : Nat) (bb : List Int) (dp : Int) (a1 : Int) : Option (Int × Int) := if a1 < 1 then (spec_l20Rd_pick.j0 k a1 true bb (wrap64 (dp + 1))) else (spec_l20Rd_pick.j0 k a1 ((bb.length : Int) == 0) bb (wrap64 (dp + 1)))
theorem spec_l20Rd_pick.mq {p : Prop} (h : p := by
 repeat' first
 | (with_reducible exact ih0 _ _ _ _)
 | (with_reducible exact LeO.refl _)
 | (with_reducible exact LeO.none _)
 | (with_reducible refine LeO.ite ?_ ?_)
 | (with_reducible refine LeO.bind ?_ (fun _ => ?_))
 | exact ih0 _ _ _ _
 | exact LeO.none _
 | refine LeO.ite ?_ ?_
 | refine LeO.bind ?_ (fun _ => ?_)) : p := h
theorem spec_l20Rd_pick.mono_l : ∀ k, (∀ y0 y1 y2 y3, LeO (spec_l20Rd_pick.j0 k y0 y1 y2 y3) (spec_l20Rd_pick.j0 (k + 1) y0 y1 y2 y3))
 | 0 => fun _ _ _ _ r h => by simp [spec_l20Rd_pick.j0] at h
 | k + 1 => by
  have ih0 := spec_l20Rd_pick.mono_l k
  ·intro y0 y1 y2 y3
   unfold spec_l20Rd_pick.j0
   exact spec_l20Rd_pick.mq
theorem spec_l20Rd_pick.mono : ∀ a0 a1 a2 k, LeO (spec_l20Rd_pick.f k a0 a1 a2) (spec_l20Rd_pick.f (k + 1) a0 a1 a2) := by
 intro a0 a1 a2 k
 have ih0 := spec_l20Rd_pick.mono_l k
 unfold spec_l20Rd_pick.f
 exact spec_l20Rd_pick.mq
theorem az7 {p : Prop} (h : p := by repeat (first | (with_reducible first | exact HI0.out | apply IsS112.alloc | apply IsS112.drewN | apply IsS112.drew | apply IsS112.set_1) | exact HI0.out)) : p := h
theorem az8 {p : Prop} (h : p := by repeat (first | (with_reducible first | exact HK.out | apply KeepBut.set_ | apply keep_drewN | apply keep_drew | apply keep_alloc) | exact HK.out)) : p := h
theorem az9 {p : Prop} (h : p := by repeat (first | (with_reducible first | exact HB.out | apply below_alloc | apply pw_below_drewN | apply below_drew1 | refine below_set ?_ (IsS112.ge HI0.out)) | exact HB.out)) : p := h
set_option maxHeartbeats 8000000 in
set_option maxRecDepth 100000 in
theorem spec_l20Rd_pick.calls (k : Nat) (g : Nat) (bb : List Int) (dp : Int) (a1 : Int) (r1 : Int) (r2 : Int) (w0 w : World) (hI : IsS112 w0 w g bb dp) (hB : Below w0.heap.size w0 w) (h : spec_l20Rd_pick.f k bb dp a1 = some (r1, r2)) :
  Calls Try.prog 70 #[.pointer (some ⟨g, 0, none⟩), .int .i64 a1] w fun e w' => e = .returned (.int .i64 r1) ∧ IsS112 w0 w' g bb r2 ∧ Below w0.heap.size w0 w' ∧ KeepBut w w' g none := by
 have HI0 := Aside0.mk hI
 have HK := Aside0.mk (KeepBut.refl w g none)
 have HL := Aside0.mk hB.size
 clear hI
 have HW0 := Aside0.mk hB.size
 have HB := Aside0.mk hB
 clear hB
 have H : (if a1 < 1 then (spec_l20Rd_pick.j0 k a1 true bb (wrap64 (dp + 1))) else (spec_l20Rd_pick.j0 k a1 ((bb.length : Int) == 0) bb (wrap64 (dp + 1)))) = some (r1, r2) := h
 clear h
 have HC3 := Aside0.mk H
 clear H
 obtain ⟨ASz4_0, cSz4_0, HGz4, hgz4, HSz4_0⟩ := HI0.out
 have s7 := cellS112_0 HGz4
 have s8 := cellS112_1 HGz4
 have s9 := blk_frozen HGz4 1
 clear HGz4 hgz4
 go_enter Try.func70, Try.ntmps70
 go_upto_region 2 with (fail)
 repeat (go_quiet (fail); go_upto_region 2 with (fail))
 go_cut [24] (fun v24 wc => ∃ (kq : Nat) (bc1 : Bool), v24 = .bool bc1 ∧ Aside0 (spec_l20Rd_pick.j0 kq a1 bc1 bb (wrap64 (dp + 1)) = some (r1, r2)) ∧ Aside0 (kq ≤ k) ∧ Aside0 (IsS112 w0 wc g bb (wrap64 (dp + 1))) ∧ Aside0 (KeepBut w wc g none) ∧ Aside0 (Below w0.heap.size w0 wc))
 case first =>
  have H := HC3.out
  clear HC3
  by_cases c5 : a1 < 1
  ·rw [if_pos c5] at H
   have ev := decide_eq_true c5
   clear c5
   (first | rw [ev] | (simp only [i64_w, i32_w]; rw [ev]) | skip)
   have H' := Aside0.mk H
   clear H
   go_wp2
   repeat (go_quiet (fail); try go_wp2)
   go_meet
   case rel => exact ⟨_, (true), (g2_), H', ⟨g12_⟩, ⟨az7⟩, ⟨az8⟩, ⟨az9⟩⟩
  ·rw [if_neg c5] at H
   have ev := decide_eq_false c5
   clear c5
   (first | rw [ev] | (simp only [i64_w, i32_w]; rw [ev]) | skip)
   have H' := Aside0.mk H
   clear H
   obtain ⟨ASz6_0, cSz6_0, HGz6, hgz6, HSz6_0⟩ := HI0.out
   have rs := cellS112_0 HGz6
   have rt := cellS112_1 HGz6
   have ru := blk_frozen HGz6 1
   clear HGz6 hgz6
   go_wp2
   repeat (go_quiet (fail); try go_wp2)
   go_meet
   case rel => exact ⟨_, (((bb.length : Int) == 0)), (g2_), H', ⟨g12_⟩, ⟨az7⟩, ⟨az8⟩, ⟨az9⟩⟩
 case rest =>
  clear HC3
  try clear p2
  try clear c5
  try clear ev
  try clear p6
  try clear s7
  try clear s8
  try clear rs
  try clear rt
  try clear s9
  try clear ru
  obtain ⟨kq, bc1, rfl, HA, HJ2, HI0, HK, HB⟩ := hcut
  cases kq with
  | zero => exact absurd HA.out (by simp [spec_l20Rd_pick.j0])
  | succ kj2 =>
   have H := HA.out
   clear HA
   simp only [spec_l20Rd_pick.j0] at H
   by_cases c7 : bc1 = true
   ·subst c7
    replace H := ifp_ H
    simp only [Option.some.injEq, Prod.mk.injEq] at H
    obtain ⟨rfl, rfl⟩ := H
    go_wp2
    repeat (go_quiet (fail); try go_wp2)
    go_ret
    exact ⟨g4_, az7, az9, az8⟩
   ·replace c7 := Bool.eq_false_iff.mpr c7
    subst c7
    replace H := ifn_ H
    by_cases c8 : (wrap64 ((wrap64 (dp + 1)) - 1)) < (bb.length : Int)
    ·rw [if_pos c8] at H
     have bb4 := decide_eq_true c8
     clear c8
     obtain ⟨ji9, hji9⟩ : ∃ j_ : Int, (wrap64 ((wrap64 (dp + 1)) - 1)) = j_ := ⟨_, rfl⟩
     replace H : (if 0 ≤ (ji9) then (if a1 = 0 then (none) else (some (Int.tmod (wrap64 (rd bb (ji9))) a1, (wrap64 (dp + 1))))) else (none)) = some (r1, r2) := by first | (rw [hji9] at H; exact H) | (simp only [hji9] at H ⊢; exact H)
     (try rw [hji9] at bb4)
     have hji9w : (IntKind.i64.wrap ((wrap64 (dp + 1)) - 1)) = ji9 := (i64_w _).trans hji9
     obtain ⟨db, H⟩ := pos_ H
     have ia := decide_eq_true db
     clear db
     by_cases d5 : a1 = 0
     ·rw [if_pos d5] at H
      exact absurd H (by simp)
     ·rw [if_neg d5] at H
      have mb : (a1 == 0) = false := beq_eq_false_iff_ne.mpr d5
      have fk0 : (a1 != 0) = true := bne_iff_ne.mpr d5
      simp only [Option.some.injEq, Prod.mk.injEq] at H
      obtain ⟨rfl, rfl⟩ := H
      obtain ⟨ASz12_0, cSz12_0, HGz12, hgz12, HSz12_0⟩ := HI0.out
      have bc2 := cellS112_0 HGz12
      have bc3 := cellS112_1 HGz12
      have bc4 := blk_frozen HGz12 1
      clear HGz12 hgz12
      have bu2 : 0 ≤ ((ji9) : Int) := of_decide_eq_true (g0_)
      have bu3 : (ji9) < (bb.length : Int) := of_decide_eq_true (g0_)
      obtain ⟨fk1, dz1, cr5⟩ := Kd.at_int HSz12_0 (ji9) bu2 bu3
      cases dz1
      replace cr5 := pw_cell_below HB.out cr5
      replace bu2 := eq_true bu2
      replace bu3 := eq_true bu3
      go_wp2
      repeat (go_quiet (fail); try go_wp2)
      go_ret
      exact ⟨by first | rfl | (simp [errW_none, errW_some] <;> rfl) | (simp only [← hji9]; first | rfl | (simp [errW_none, errW_some] <;> rfl)) | (simp [*, errW_none, errW_some] <;> rfl), az7, az9, az8⟩
    ·rw [if_neg c8] at H
     have bb4 := decide_eq_false c8
     clear c8
     by_cases fu : (bb.length : Int) = 0
     ·rw [if_pos fu] at H
      exact absurd H (by simp)
     ·rw [if_neg fu] at H
      have ta : ((bb.length : Int) == 0) = false := beq_eq_false_iff_ne.mpr fu
      have am5 : ((bb.length : Int) != 0) = true := bne_iff_ne.mpr fu
      have fk2 : ¬ (bb = []) := fun h_ => fu (g26_)
      obtain ⟨ji14, hji14⟩ : ∃ j_ : Int, (Int.tmod (wrap64 ((wrap64 (dp + 1)) - 1)) (bb.length : Int)) = j_ := ⟨_, rfl⟩
      replace H : (if 0 ≤ (ji14) then (if (ji14) < (bb.length : Int) then (if 0 ≤ (Int.tmod (wrap64 ((wrap64 ((wrap64 ((wrap64 (dp + 1)) - 1)) * 7)) + 3)) (bb.length : Int)) then (if (Int.tmod (wrap64 ((wrap64 ((wrap64 ((wrap64 (dp + 1)) - 1)) * 7)) + 3)) (bb.length : Int)) < (bb.length : Int) then (if a1 = 0 then (none) else (some (Int.tmod (Go.bits .xor .i64 (wrap64 ((wrap64 ((wrap64 ((wrap64 ((wrap64 (rd bb (ji14))) * 131)) + (wrap64 ((wrap64 (rd bb (Int.tmod (wrap64 ((wrap64 ((wrap64 ((wrap64 (dp + 1)) - 1)) * 7)) + 3)) (bb.length : Int)))) * 1117)))) + (wrap64 ((wrap64 ((wrap64 (dp + 1)) - 1)) * 29)))) + (wrap64 ((wrap64 (Int.tdiv (wrap64 ((wrap64 (dp + 1)) - 1)) (bb.length : Int))) * 53)))) (wrap64 (Int.tdiv (wrap64 ((wrap64 ((wrap64 ((wrap64 ((wrap64 (rd bb (ji14))) * 131)) + (wrap64 ((wrap64 (rd bb (Int.tmod (wrap64 ((wrap64 ((wrap64 ((wrap64 (dp + 1)) - 1)) * 7)) + 3)) (bb.length : Int)))) * 1117)))) + (wrap64 ((wrap64 ((wrap64 (dp + 1)) - 1)) * 29)))) + (wrap64 ((wrap64 (Int.tdiv (wrap64 ((wrap64 (dp + 1)) - 1)) (bb.length : Int))) * 53)))) 64))) a1, (wrap64 (dp + 1))))) else (none)) else (none)) else (none)) else (none)) = some (r1, r2) := by first | (rw [hji14] at H; exact H) | (simp only [hji14] at H ⊢; exact H)
      obtain ⟨cb, H⟩ := pos_ H
      have gv := decide_eq_true cb
      clear cb
      obtain ⟨ed, H⟩ := pos_ H
      have o3 := decide_eq_true ed
      clear ed
      obtain ⟨ji17, hji17⟩ : ∃ j_ : Int, (Int.tmod (wrap64 ((wrap64 ((wrap64 ((wrap64 (dp + 1)) - 1)) * 7)) + 3)) (bb.length : Int)) = j_ := ⟨_, rfl⟩
      replace H : (if 0 ≤ (ji17) then (if (ji17) < (bb.length : Int) then (if a1 = 0 then (none) else (some (Int.tmod (Go.bits .xor .i64 (wrap64 ((wrap64 ((wrap64 ((wrap64 ((wrap64 (rd bb (ji14))) * 131)) + (wrap64 ((wrap64 (rd bb (ji17))) * 1117)))) + (wrap64 ((wrap64 ((wrap64 (dp + 1)) - 1)) * 29)))) + (wrap64 ((wrap64 (Int.tdiv (wrap64 ((wrap64 (dp + 1)) - 1)) (bb.length : Int))) * 53)))) (wrap64 (Int.tdiv (wrap64 ((wrap64 ((wrap64 ((wrap64 ((wrap64 (rd bb (ji14))) * 131)) + (wrap64 ((wrap64 (rd bb (ji17))) * 1117)))) + (wrap64 ((wrap64 ((wrap64 (dp + 1)) - 1)) * 29)))) + (wrap64 ((wrap64 (Int.tdiv (wrap64 ((wrap64 (dp + 1)) - 1)) (bb.length : Int))) * 53)))) 64))) a1, (wrap64 (dp + 1))))) else (none)) else (none)) = some (r1, r2) := by first | (rw [hji17] at H; exact H) | (simp only [hji17] at H ⊢; exact H)
      obtain ⟨lp, H⟩ := pos_ H
      have am6 := decide_eq_true lp
      clear lp
      obtain ⟨dr, H⟩ := pos_ H
      have rq := decide_eq_true dr
      clear dr
      by_cases fk : a1 = 0
      ·rw [if_pos fk] at H
       exact absurd H (by simp)
      ·rw [if_neg fk] at H
       have xq : (a1 == 0) = false := beq_eq_false_iff_ne.mpr fk
       have cr6 : (a1 != 0) = true := bne_iff_ne.mpr fk
       simp only [Option.some.injEq, Prod.mk.injEq] at H
       obtain ⟨rfl, rfl⟩ := H
       obtain ⟨ASz21_0, cSz21_0, HGz21, hgz21, HSz21_0⟩ := HI0.out
       have ak2 := cellS112_0 HGz21
       have ak3 := cellS112_1 HGz21
       have ak4 := blk_frozen HGz21 1
       clear HGz21 hgz21
       have bu4 : 0 ≤ ((ji14) : Int) := of_decide_eq_true (g0_)
       have bu5 : (ji14) < (bb.length : Int) := of_decide_eq_true (g0_)
       obtain ⟨dz2, dz3, cr7⟩ := Kd.at_int HSz21_0 (ji14) bu4 bu5
       cases dz3
       replace cr7 := pw_cell_below HB.out cr7
       replace bu4 := eq_true bu4
       replace bu5 := eq_true bu5
       have bu6 : 0 ≤ ((ji17) : Int) := of_decide_eq_true (g0_)
       have bu7 : (ji17) < (bb.length : Int) := of_decide_eq_true (g0_)
       obtain ⟨dz4, dz5, cr8⟩ := Kd.at_int HSz21_0 (ji17) bu6 bu7
       obtain rfl : dz2 = dz4 := (by injection dz5)
       replace cr8 := pw_cell_below HB.out cr8
       replace bu6 := eq_true bu6
       replace bu7 := eq_true bu7
       go_wp2
       repeat (go_quiet (fail); try go_wp2)
       go_ret
       exact ⟨by first | rfl | (simp [errW_none, errW_some] <;> rfl) | (simp only [← hji14, ← hji17]; first | rfl | (simp [errW_none, errW_some] <;> rfl)) | (simp [*, errW_none, errW_some] <;> rfl), az7, az9, az8⟩
def spec_l20Rd_odd.f (k : Nat) (bb : List Int) (dp : Int) (a1 : Int) : Option (Bool × Int) := if a1 > 0 then ((spec_l20Rd_pick.f k bb dp a1).bind fun bt178 => (some ((bt178.1 == (wrap64 (a1 - 1))), bt178.2))) else (some (false, dp))
theorem spec_l20Rd_odd.mq {p : Prop} (h : p := by
 repeat' first
 | (with_reducible exact spec_l20Rd_pick.mono _ _ _ _)
 | (with_reducible exact LeO.refl _)
 | (with_reducible exact LeO.none _)
 | (with_reducible refine LeO.ite ?_ ?_)
 | (with_reducible refine LeO.bind ?_ (fun _ => ?_))
 | exact spec_l20Rd_pick.mono _ _ _ _
 | exact LeO.none _
 | refine LeO.ite ?_ ?_
 | refine LeO.bind ?_ (fun _ => ?_)) : p := h
theorem spec_l20Rd_odd.mono : ∀ a0 a1 a2 k, LeO (spec_l20Rd_odd.f k a0 a1 a2) (spec_l20Rd_odd.f (k + 1) a0 a1 a2) := by
 intro a0 a1 a2 k
 unfold spec_l20Rd_odd.f
 exact spec_l20Rd_odd.mq
theorem cm8 {p : Prop} (h : p := by repeat (first | (with_reducible first | exact HI0.out | apply IsS112.alloc | apply IsS112.drewN | apply IsS112.drew | apply IsS112.set_1) | exact HI0.out)) : p := h
theorem cm9 {p : Prop} (h : p := by repeat (first | (with_reducible first | exact HB.out | apply below_alloc | apply pw_below_drewN | apply below_drew1 | refine below_set ?_ (IsS112.ge HI0.out)) | exact HB.out)) : p := h
theorem cn0 {p : Prop} (h : p := by repeat (first | (with_reducible first | exact HK.out | apply KeepBut.set_ | apply keep_drewN | apply keep_drew | apply keep_alloc) | exact HK.out)) : p := h
set_option maxHeartbeats 8000000 in
set_option maxRecDepth 100000 in
theorem spec_l20Rd_odd.calls (k : Nat) (g : Nat) (bb : List Int) (dp : Int) (a1 : Int) (r1 : Bool) (r2 : Int) (w0 w : World) (hI : IsS112 w0 w g bb dp) (hB : Below w0.heap.size w0 w) (h : spec_l20Rd_odd.f k bb dp a1 = some (r1, r2)) :
  Calls Try.prog 106 #[.pointer (some ⟨g, 0, none⟩), .int .i64 a1] w fun e w' => e = .returned (.bool r1) ∧ IsS112 w0 w' g bb r2 ∧ Below w0.heap.size w0 w' ∧ KeepBut w w' g none := by
 have HI0 := Aside0.mk hI
 have HK := Aside0.mk (KeepBut.refl w g none)
 have HL := Aside0.mk hB.size
 clear hI
 have HW0 := Aside0.mk hB.size
 have HB := Aside0.mk hB
 clear hB
 have H : (if a1 > 0 then ((spec_l20Rd_pick.f k bb dp a1).bind fun bt178 => (some ((bt178.1 == (wrap64 (a1 - 1))), bt178.2))) else (some (false, dp))) = some (r1, r2) := h
 clear h
 by_cases c3 : a1 > 0
 ·rw [if_pos c3] at H
  have ft := decide_eq_true c3
  clear c3
  replace H := Option.bind_eq_some_iff.mp H
  obtain ⟨⟨dz6, dz7⟩, lq, H⟩ := H
  try dsimp only at H
  have A4 := Aside0.mk lq
  clear lq
  simp only [Option.some.injEq, Prod.mk.injEq] at H
  obtain ⟨rfl, rfl⟩ := H
  go_enter Try.func106, Try.ntmps106
  go_wp2_with (first | (go_at_call 70; (with_reducible refine (spec_l20Rd_pick.calls k g bb dp a1 dz6 dz7 w0 _ ?side1 ?side2 A4.out).mono ?_); (case side1 => exact cm8); (case side2 => exact cm9); rintro e w5 ⟨rfl, hi, hb, hk⟩; replace HK := Aside0.mk (KeepBut.trans (cn0) hk (.inl rfl)); replace HB := Aside0.mk (hb); replace HI0 := Aside0.mk (hi); (try clear hb); (try clear hk hi)))
  go_ret
  exact ⟨g4_, cm8, cm9, cn0⟩
 ·rw [if_neg c3] at H
  have ft := decide_eq_false c3
  clear c3
  simp only [Option.some.injEq, Prod.mk.injEq] at H
  obtain ⟨rfl, rfl⟩ := H
  go_enter Try.func106, Try.ntmps106
  go_wp2
  go_ret
  exact ⟨g4_, cm8, cm9, cn0⟩
end Go.Proofs.Ytfooakkhkehpiaa.PU
