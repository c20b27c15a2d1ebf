/- FnStruckOut: for every input the law holds. No condition. -/
import Derived.Test.YtfooakkhkehpiaaZFnStruckOut1
namespace Go.Proofs.Ytfooakkhkehpiaa.PU
open Go.RowKit Go.Proofs.YtfooakkhkehpiaaW.PrintWords Go.Proofs.YtfooakkhkehpiaaW.PrintLast Go.Proofs.YtfooakkhkehpiaaW.PrintMore Go.Proofs.Ytfooakkhkehpiaa.Qd
attribute [local go_sem] max2_int min2_int max_two min_two max_three min_three max_four min_four
set_option linter.unusedVariables false
set_option linter.unusedSimpArgs false
mutual
def impl_owes.l0 : Nat → List Int → List (List Int) → Int → Int → Option (List Int)
 | 0, _, _, _, _ => none
 | k + 1, x3, fb, f6, dt => if dt < f6 then (if 0 ≤ dt then (if dt < (fb.length : Int) then (impl_owes.l1 k x3 dt fb f6 dt (rd_L1 fb dt) ((rd_L1 fb dt).length : Int) 0) else (none)) else (none)) else (some x3)
def impl_owes.l1 : Nat → List Int → Int → List (List Int) → Int → Int → List Int → Int → Int → Option (List Int)
 | 0, _, _, _, _, _, _, _, _ => none
 | k + 1, x3, x4, fb, f6, dt, uw, mj, xm => if xm < mj then (if 0 ≤ xm then (if xm < (uw.length : Int) then (if 0 ≤ x4 then (if x4 < (x3.length : Int) then (impl_owes.l1 k (x3.set (x4 : Int).toNat (wrap64 ((rd x3 x4) + (rd uw xm)))) x4 fb f6 dt uw mj (wrap64 (xm + 1))) else (none)) else (none)) else (none)) else (none)) else (impl_owes.l0 k x3 fb f6 (wrap64 (dt + 1)))
end
def impl_owes.f (k : Nat) (ab : List Int) (aa : List (List Int)) : Option (List Int) := if 0 ≤ (ab.length : Int) then (if ((ab.length : Int) : Int).toNat ≤ 35184372088832 then (impl_owes.l0 k (List.replicate ((ab.length : Int) : Int).toNat 0) aa (aa.length : Int) 0) else (none)) else (none)
theorem impl_owes.mq {p : Prop} (h : p := by
 repeat' first
 | (with_reducible exact ih0 _ _ _ _)
 | (with_reducible exact ih1 _ _ _ _ _ _ _ _)
 | (with_reducible exact LeO.refl _)
 | (with_reducible exact LeO.none _)
 | (with_reducible refine LeO.ite ?_ ?_)
 | (with_reducible refine LeO.bind ?_ (fun _ => ?_))
 | exact ih0 _ _ _ _
 | exact ih1 _ _ _ _ _ _ _ _
 | exact LeO.none _
 | refine LeO.ite ?_ ?_
 | refine LeO.bind ?_ (fun _ => ?_)) : p := h
theorem impl_owes.mono_l : ∀ k, (∀ y0 y1 y2 y3, LeO (impl_owes.l0 k y0 y1 y2 y3) (impl_owes.l0 (k + 1) y0 y1 y2 y3)) ∧ (∀ y0 y1 y2 y3 y4 y5 y6 y7, LeO (impl_owes.l1 k y0 y1 y2 y3 y4 y5 y6 y7) (impl_owes.l1 (k + 1) y0 y1 y2 y3 y4 y5 y6 y7))
 | 0 => ⟨fun _ _ _ _ r h => by simp [impl_owes.l0] at h, fun _ _ _ _ _ _ _ _ r h => by simp [impl_owes.l1] at h⟩
 | k + 1 => by
  obtain ⟨ih0, ih1⟩ := impl_owes.mono_l k
  refine ⟨?_, ?_⟩
  ·intro y0 y1 y2 y3
   unfold impl_owes.l0
   exact impl_owes.mq
  ·intro y0 y1 y2 y3 y4 y5 y6 y7
   unfold impl_owes.l1
   exact impl_owes.mq
theorem impl_owes.mono : ∀ a0 a1 k, LeO (impl_owes.f k a0 a1) (impl_owes.f (k + 1) a0 a1) := by
 intro a0 a1 k
 obtain ⟨ih0, ih1⟩ := impl_owes.mono_l k
 unfold impl_owes.f
 exact impl_owes.mq
theorem ow {p : Prop} (h : p := by repeat (first | (with_reducible first | exact HB.out | apply below_alloc | apply pw_below_drewN | apply below_drew1 | refine below_set ?_ ck6.out) | exact HB.out)) : p := h
set_option maxHeartbeats 8000000 in
set_option maxRecDepth 100000 in
theorem impl_owes.calls (k : Nat) (ae : Option Addr) (ac : Nat) (ab : List Int) (ag : Option Addr) (af : Nat) (aa : List (List Int)) (r : List Int) (w : World) (bo : Kd.C (Kd.int .i64) w ae ab.length ab) (bs : ab.length ≤ ac) (bp : Kd.C (Kd.slice 3 (Kd.int .i64)) w ag aa.length aa) (bt : aa.length ≤ af) (h : impl_owes.f k ab aa = some r) :
  Calls Try.prog 74 #[.agg #[.slice ae ab.length ac, .slice ag aa.length af]] w fun e w' => ∃ v0_ : Value, e = .returned (v0_) ∧ Kd.R (Kd.int .i64) 3 w' w.heap.size (fun _ => True) v0_ r ∧ Below w.heap.size w w' := by
 have hu25 := Try.underlying25
 have bg := Aside0.mk bo
 have bx := Aside0.mk bs
 clear bo bs
 have bb := Aside0.mk bp
 have b2 := Aside0.mk bt
 clear bp bt
 have HB := Aside0.mk (Below.refl w.heap.size w)
 have H : (if 0 ≤ (ab.length : Int) then (if ((ab.length : Int) : Int).toNat ≤ 35184372088832 then (impl_owes.l0 k (List.replicate ((ab.length : Int) : Int).toNat 0) aa (aa.length : Int) 0) else (none)) else (none)) = some r := h
 clear h
 obtain ⟨c2, H⟩ := pos_ H
 have jx := eq_true c2
 have nw := decide_eq_true c2
 clear c2
 obtain ⟨c3, H⟩ := pos_ H
 have d8 := eq_true c3
 have go := decide_eq_true c3
 clear c3
 obtain ⟨bm9, hy123⟩ : ∃ y_ : List Int, y_ = (List.replicate ((ab.length : Int) : Int).toNat 0) := ⟨_, rfl⟩
 replace H : (impl_owes.l0 k bm9 aa (aa.length : Int) 0) = some r := by first | (rw [hy123]; with_reducible exact H) | (have H2_ := (Option.bind_some _ _).symm.trans H; rw [hy123]; with_reducible exact H2_) | (have H2_ := (Option.bind_some _ _).symm.trans H; with_reducible exact H2_) | with_reducible exact H | (rw [hy123]; exact H) | exact H
 have bn0 := Aside0.mk hy123
 clear hy123
 have H' := Aside0.mk H
 clear H
 go_enter Try.func74, Try.ntmps74
 go_wp2_with (first | ((with_reducible refine gate_dst (N := 1) rfl ?_); refine bx_ (N := 1) #[.slice ae ab.length ac, .slice ag aa.length af] 25 ?_; intro xn hg w4 hbox hb; have kr := Aside0.mk (hbox); have dr1 := Aside0.mk ((by rw [hg]; exact (below_size (ow)) : w.heap.size ≤ xn)); have ck6 := Aside0.mk ((by rw [hg]; exact (below_size (ow)) : w.heap.size ≤ xn)); replace HB := Aside0.mk (below_step (ow) hb); clear hb hbox hg; obtain ⟨r8, r9, sa, sb⟩ := blk2_ kr) | ((with_reducible refine gate_dst (N := 11) rfl ?_); refine Kd.R_make (Kd.int .i64) _ 3 rfl (N := 11) rfl 22 _ _ rfl (ab.length : Int) rfl rfl Try.underlying22 (.int .i64 0) 8 info3 rfl (by decide) (by omega) 0 (ok := fun _ => True) (okp := fun _ => True) rfl (fun _ hk => hk) trivial (of_decide_eq_true (g0_)) (Nat.le_trans (Nat.mul_le_mul_right _ (of_decide_eq_true (g0_) : (ab.length : Int).toNat ≤ 35184372088832)) (by omega)) (Below.refl _ _) (Nat.le_refl _) ?_; intro bn1 w6 ml hb hg_ hnew_; clear hg_ hnew_; (first | rw [← bn0.out] at ml | (simp only [Int.reduceToNat] at ml; rw [← bn0.out] at ml)); have ck7 := Aside0.mk (Kd.R_lower ml (below_size (ow))); replace kr := bb_ kr hb; replace HB := Aside0.mk (below_step (ow) hb); clear hb ml; obtain ⟨js, jt, ju, jv⟩ := blk2_ kr))
 go_loopg [15] k (fun kq xo w' => ∃ (cn : List Int) (a7 : Int), xo = .int .i64 a7 ∧ Aside0 (impl_owes.l0 kq cn aa (aa.length : Int) a7 = some r) ∧ Aside0 (kq ≤ k) ∧ Aside0 (Kd.R (Kd.int .i64) 3 w' w.heap.size (fun _ => True) bn1 cn) ∧ Aside0 (w'.heap[xn]? = some (.cells #[(.slice ae ab.length ac), (.slice ag aa.length af)] 25 (0, 0))) ∧ Aside0 (Below w.heap.size w w'))
 case atStart => exact ⟨(bm9), (0), (g2_), H', ⟨Nat.le_refl _⟩, ⟨uf1_ ck7⟩, ⟨uf0_ kr⟩, ⟨ow⟩⟩
 case round =>
  clear H'
  try clear c2
  try clear jx
  try clear nw
  try clear p2
  try clear c3
  try clear d8
  try clear go
  try clear c7
  try clear r8
  try clear r9
  try clear js
  try clear jt
  try clear sa
  try clear sb
  try clear ju
  try clear jv
  obtain ⟨cn, a7, rfl, HA, HK1, ah, kr, HB⟩ := hrel
  cases gk with
  | zero => exact absurd HA.out (by simp [impl_owes.l0])
  | succ k1 =>
   have H := HA.out
   clear HA
   simp only [impl_owes.l0] at H
   by_cases c9 : a7 < (aa.length : Int)
   ·rw [if_pos c9] at H
    have mm := decide_eq_true c9
    clear c9
    obtain ⟨b9, H⟩ := pos_ H
    have fy := decide_eq_true b9
    clear b9
    obtain ⟨da, H⟩ := pos_ H
    have jc := decide_eq_true da
    clear da
    have H' := Aside0.mk H
    clear H
    have ah5 : 0 ≤ (a7 : Int) := of_decide_eq_true (g0_)
    have ah6 : a7 < (aa.length : Int) := of_decide_eq_true (g0_)
    obtain ⟨bn2, dr2, dr3, ck8, at1, bn3, bn4⟩ := at_L1 bb.out a7 ah5 ah6
    cases ck8
    replace at1 := cl_ HB at1
    have ck9 := Aside0.mk bn4
    have dr4 := Aside0.mk bn3
    clear bn4 bn3
    replace ah5 := eq_true ah5
    replace ah6 := eq_true ah6
    go_wp2
    go_loopg [22] k1 (fun kq v22 w' => ∃ (ap : List Int) (lm : Int), v22 = .int .i64 lm ∧ Aside0 (impl_owes.l1 kq ap a7 aa (aa.length : Int) a7 (rd_L1 aa a7) ((rd_L1 aa a7).length : Int) lm = some r) ∧ Aside0 (kq ≤ k1) ∧ Aside0 (Kd.R (Kd.int .i64) 3 w' w.heap.size (fun _ => True) bn1 ap) ∧ Aside0 (w'.heap[xn]? = some (.cells #[(.slice ae ab.length ac), (.slice (some bn2) aa.length af)] 25 (0, 0))) ∧ Aside0 (Below w.heap.size w w'))
    case atStart => exact ⟨(cn), (0), (g2_), H', ⟨Nat.le_refl _⟩, ⟨uf1_ ah⟩, ⟨uf0_ kr⟩, ⟨ow⟩⟩
    case round =>
     clear H'
     try clear c1
     try clear p1
     try clear q1
     try clear mc
     try clear c2
     try clear jx
     try clear nw
     try clear p2
     try clear c3
     try clear d8
     try clear go
     try clear c7
     try clear c9
     try clear mm
     try clear b9
     try clear fy
     try clear da
     try clear jc
     try clear r8
     try clear r9
     try clear js
     try clear jt
     try clear sa
     try clear sb
     try clear ju
     try clear jv
     try clear at1
     try clear ah5
     try clear p2
     try clear ah6
     obtain ⟨ap, lm, rfl, HA, HK2, ah, kr, HB⟩ := hrel
     cases gk with
     | zero => exact absurd HA.out (by simp [impl_owes.l1])
     | succ k2 =>
      have H := HA.out
      clear HA
      simp only [impl_owes.l1] at H
      by_cases cu : lm < ((rd_L1 aa a7).length : Int)
      ·rw [if_pos cu] at H
       have iu := decide_eq_true cu
       clear cu
       obtain ⟨eh, H⟩ := pos_ H
       have o5 := decide_eq_true eh
       clear eh
       obtain ⟨ez, H⟩ := pos_ H
       have mg := decide_eq_true ez
       clear ez
       obtain ⟨bq, H⟩ := pos_ H
       have fz := decide_eq_true bq
       clear bq
       obtain ⟨dh, H⟩ := pos_ H
       have ln := decide_eq_true dh
       clear dh
       obtain ⟨at2, hy129⟩ : ∃ y_ : List Int, y_ = (ap.set (a7 : Int).toNat (wrap64 ((rd ap a7) + (rd (rd_L1 aa a7) lm)))) := ⟨_, rfl⟩
       replace H : (impl_owes.l1 k2 at2 a7 aa (aa.length : Int) a7 (rd_L1 aa a7) ((rd_L1 aa a7).length : Int) (wrap64 (lm + 1))) = some r := by first | (rw [hy129]; with_reducible exact H) | (have H2_ := (Option.bind_some _ _).symm.trans H; rw [hy129]; with_reducible exact H2_) | (have H2_ := (Option.bind_some _ _).symm.trans H; with_reducible exact H2_) | with_reducible exact H | (rw [hy129]; exact H) | exact H
       have cl0 := Aside0.mk hy129
       clear hy129
       have H' := Aside0.mk H
       clear H
       have at3 : 0 ≤ (lm : Int) := of_decide_eq_true (g0_)
       have at5 : lm < ((rd_L1 aa a7).length : Int) := of_decide_eq_true (g0_)
       obtain ⟨dr5, cl1, bn5⟩ := Kd.at_int ck9.out lm at3 at5
       cases cl1
       replace bn5 := cl_ HB bn5
       replace at3 := eq_true at3
       replace at5 := eq_true at5
       obtain ⟨dr6, cl2, cl3⟩ := Kd.R_slice ah.out
       subst cl3
       have at6 : 0 ≤ (a7 : Int) := of_decide_eq_true (g0_)
       have at7 : a7 < (ap.length : Int) := of_decide_eq_true (g0_)
       obtain ⟨dr7, cl4, cl5⟩ := Kd.at_int (Kd.R_reads' ah.out).2.2 a7 at6 at7
       cases cl4
       replace at6 := eq_true at6
       replace at7 := eq_true at7
       have p17 : 0 ≤ (a7 : Int) := of_decide_eq_true (g0_)
       have q17 : (a7 : Int) < ((ap.length : Int) : Int) := of_decide_eq_true (g0_)
       obtain ⟨at8, ca, o6, bn6, gl17, cl17, HG17⟩ := Kd.R_form ah.out (by omega)
       (first | cases o6 | (injection o6 with ea_ en_ ec_; (first | subst ea_ | (injection ea_ with ea_; subst ea_)); subst ec_; clear en_))
       have GB17 := Aside0.mk bn6
       have GG17 := Aside0.mk HG17
       clear bn6 gl17 HG17
       (first | simp only [add_plain] at cl5 | skip)
       obtain ⟨dr8, hf17_0⟩ := Kd.R_celln 0 ah.out (a7 : Int) p17 q17
       replace p17 := eq_true p17
       replace q17 := eq_true q17
       have HP19 := Kd.R_putg ah.out (a7 : Int) (wrap64 ((rd ap a7) + (rd (rd_L1 aa a7) lm)))
       go_wp2_with (first | ((with_reducible refine gate_store (t := 3) (p := 32) rfl ?_); refine store_event (t := 3) (p := 32) (v := ?vo_w20) (w1 := (wr.setCell ⟨at8, (a7 : Int).toNat, none⟩ (.int .i64 (wrap64 ((rd ap a7) + (rd (rd_L1 aa a7) lm)))))) ?hg ?ho ?hn ?hr ?_; (case ho => rfl); (case hg => rfl); (case hn => rfl); (case hr => first | (go_simp; done) | (go_simp; rfl)); intro sc hw; have hg : wr.grownBy sc (some at8) := (by rw [hw]; exact HP19.2); have hp_ : Kd.R (Kd.int .i64) 3 sc w.heap.size (fun _ => True) (.slice (some ⟨at8, 0, none⟩) ap.length cl2) at2 := (by rw [hw, cl0.out]; exact HP19.1); clear HP19; replace kr := Aside0.mk (blk_grown (g := xn) (o := .cells #[.slice ae ab.length ac, .slice (some bn2) aa.length af] 25 (0, 0)) (uf0_ kr) hg (Kd.R_ne ah.out kr.out (by decide))); replace ah := Aside0.mk (hp_); replace HB := Aside0.mk ((by rw [hw]; exact below_set (HB.out) GB17.out : Below w.heap.size w sc)); clear hg hw hp_))
       go_roundg k2
       case measure => have := HK1.out; have := HK2.out; omega
       case rel => exact ⟨(at2), (wrap64 (lm + 1)), (g2_), H', ⟨g10_⟩, ⟨uf1_ ah⟩, ⟨uf0_ kr⟩, ⟨ow⟩⟩
      ·rw [if_neg cu] at H
       have iu := decide_eq_false cu
       clear cu
       have H' := Aside0.mk H
       clear H
       go_wp2
       go_roundg k2
       case measure => have := HK1.out; have := HK2.out; omega
       case rel => exact ⟨(ap), (wrap64 (a7 + 1)), (g2_), H', ⟨g10_⟩, ⟨uf1_ ah⟩, ⟨uf0_ kr⟩, ⟨ow⟩⟩
   ·rw [if_neg c9] at H
    have mm := decide_eq_false c9
    clear c9
    obtain rfl := Option.some.inj H
    go_wp2
    go_ret
    exact ⟨_, g4_, uf1_ ah, ow⟩
def impl_AllDebts.l0 : Nat → Int → List Int → Int → Int → Option (Int)
 | 0, _, _, _, _ => none
 | k + 1, x3, jd, gh, nx => if nx < gh then (if 0 ≤ nx then (if nx < (jd.length : Int) then (impl_AllDebts.l0 k (wrap64 (x3 + (rd jd nx))) jd gh (wrap64 (nx + 1))) else (none)) else (none)) else (some x3)
def impl_AllDebts.f (k : Nat) (ab : List Int) (aa : List (List Int)) : Option (Int) := (impl_isBook.f k ab aa).bind fun xp => (if xp = true then ((impl_owes.f k ab aa).bind fun jy => (impl_AllDebts.l0 k 0 jy (jy.length : Int) 0)) else (some (-1)))
theorem impl_AllDebts.mq {p : Prop} (h : p := by
 repeat' first
 | (with_reducible exact ih0 _ _ _ _)
 | (with_reducible exact impl_isBook.mono _ _ _)
 | (with_reducible exact impl_owes.mono _ _ _)
 | (with_reducible exact LeO.refl _)
 | (with_reducible exact LeO.none _)
 | (with_reducible refine LeO.ite ?_ ?_)
 | (with_reducible refine LeO.bind ?_ (fun _ => ?_))
 | exact ih0 _ _ _ _
 | exact impl_isBook.mono _ _ _
 | exact impl_owes.mono _ _ _
 | exact LeO.none _
 | refine LeO.ite ?_ ?_
 | refine LeO.bind ?_ (fun _ => ?_)) : p := h
theorem impl_AllDebts.mono_l : ∀ k, (∀ y0 y1 y2 y3, LeO (impl_AllDebts.l0 k y0 y1 y2 y3) (impl_AllDebts.l0 (k + 1) y0 y1 y2 y3))
 | 0 => fun _ _ _ _ r h => by simp [impl_AllDebts.l0] at h
 | k + 1 => by
  have ih0 := impl_AllDebts.mono_l k
  ·intro y0 y1 y2 y3
   unfold impl_AllDebts.l0
   exact impl_AllDebts.mq
theorem impl_AllDebts.mono : ∀ a0 a1 k, LeO (impl_AllDebts.f k a0 a1) (impl_AllDebts.f (k + 1) a0 a1) := by
 intro a0 a1 k
 have ih0 := impl_AllDebts.mono_l k
 unfold impl_AllDebts.f
 exact impl_AllDebts.mq
theorem ns {p : Prop} (h : p := by repeat (first | (with_reducible first | exact HB.out | apply below_alloc | apply pw_below_drewN | apply below_drew1 | refine below_set ?_ bn7.out) | exact HB.out)) : p := h
set_option maxHeartbeats 8000000 in
set_option maxRecDepth 100000 in
theorem impl_AllDebts.calls (k : Nat) (ae : Option Addr) (ac : Nat) (ab : List Int) (ag : Option Addr) (af : Nat) (aa : List (List Int)) (r : Int) (w : World) (bo : Kd.C (Kd.int .i64) w ae ab.length ab) (bs : ab.length ≤ ac) (bp : Kd.C (Kd.slice 3 (Kd.int .i64)) w ag aa.length aa) (bt : aa.length ≤ af) (h : impl_AllDebts.f k ab aa = some r) :
  Calls Try.prog 25 #[.agg #[.slice ae ab.length ac, .slice ag aa.length af]] w fun e w' => e = .returned (.int .i64 r) ∧ Below w.heap.size w w' := by
 have hu25 := Try.underlying25
 have bg := Aside0.mk bo
 have bx := Aside0.mk bs
 clear bo bs
 have bb := Aside0.mk bp
 have b2 := Aside0.mk bt
 clear bp bt
 have HB := Aside0.mk (Below.refl w.heap.size w)
 have H : ((impl_isBook.f k ab aa).bind fun xp => (if xp = true then ((impl_owes.f k ab aa).bind fun jy => (impl_AllDebts.l0 k 0 jy (jy.length : Int) 0)) else (some (-1)))) = some r := h
 clear h
 obtain ⟨xp, A2, H⟩ := bind_ H
 by_cases c3 : xp = true
 ·subst c3
  replace H := ifp_ H
  obtain ⟨jy, A4, H⟩ := bind_ H
  have H' := Aside0.mk H
  clear H
  go_enter Try.func25, Try.ntmps25
  go_wp2_with (first | ((with_reducible refine gate_dst (N := 1) rfl ?_); refine bx_ (N := 1) #[.slice ae ab.length ac, .slice ag aa.length af] 25 ?_; intro ux hg w5 hbox hb; have ks := Aside0.mk (hbox); have cl6 := Aside0.mk ((g30_ : w.heap.size ≤ ux)); have bn7 := Aside0.mk ((g30_ : w.heap.size ≤ ux)); replace HB := Aside0.mk (below_step (ns) hb); clear hb hbox hg; obtain ⟨qj, qk, uy, ql⟩ := blk2_ ks) | ((with_reducible refine gate_callee (f := 73) rfl ?_); refine goesL_ (some 7) rfl rfl Try.func73 k_ rfl #[.agg #[.slice ae ab.length ac, .slice ag aa.length af]] rfl (g3_) ?_; (with_reducible refine (impl_isBook.calls k _ _ ab _ _ aa true _ ?side1 ?side2 ?side3 ?side4 A2.out).mono ?_); (case side1 => exact uf2_ bg); (case side2 => exact bx.out); (case side3 => exact uf2_ bb); (case side4 => exact b2.out); rintro e w7 ⟨rfl, hb⟩; refine ⟨_, rfl, ?_⟩; replace ks := bb_ ks hb; replace HB := Aside0.mk (below_step (ns) hb); (try clear hb); (try clear hk hi); obtain ⟨js, jt, ju, jv⟩ := blk2_ ks) | ((with_reducible refine gate_callee (f := 74) rfl ?_); refine goesL_ (some 10) rfl rfl Try.func74 k_ rfl #[.agg #[.slice ae ab.length ac, .slice ag aa.length af]] rfl (g3_) ?_; (with_reducible refine (impl_owes.calls k _ _ ab _ _ aa jy _ ?side1 ?side2 ?side3 ?side4 A4.out).mono ?_); (case side1 => exact uf2_ bg); (case side2 => exact bx.out); (case side3 => exact uf2_ bb); (case side4 => exact b2.out); rintro e w9 ⟨dr9, rfl, aj, hb⟩; refine ⟨_, rfl, ?_⟩; have bn8 := Aside0.mk (Kd.R_lower aj (below_size (ns))); replace ks := bb_ ks hb; replace HB := Aside0.mk (below_step (ns) hb); (try clear hb); (try clear hk hi); (try clear aj); obtain ⟨b4, b5, o7⟩ := Kd.R_slice bn8.out; subst o7))
  go_loopg [3, 12] k (fun kq v3 v12 w' => ∃ (cn : Int) (o8 : Int), v3 = .int .i64 cn ∧ v12 = .int .i64 o8 ∧ Aside0 (impl_AllDebts.l0 kq cn jy (jy.length : Int) o8 = some r) ∧ Aside0 (kq ≤ k) ∧ Aside0 (Kd.R (Kd.int .i64) 3 w' w.heap.size (fun _ => True) (.slice b4 jy.length b5) jy) ∧ Aside0 (w'.heap[ux]? = some (.cells #[(.slice ae ab.length ac), (.slice ag aa.length af)] 25 (0, 0))) ∧ Aside0 (Below w.heap.size w w'))
  case atStart => exact ⟨(0), (0), (g2_), (g2_), H', ⟨Nat.le_refl _⟩, ⟨uf1_ bn8⟩, ⟨uf0_ ks⟩, ⟨ns⟩⟩
  case round =>
   clear H'
   try clear c2
   try clear p2
   try clear c3
   try clear c7
   try clear qj
   try clear qk
   try clear js
   try clear jt
   try clear uy
   try clear ql
   try clear ju
   try clear jv
   obtain ⟨cn, o8, rfl, rfl, HA, HK1, bn9, ks, HB⟩ := hrel
   cases gk with
   | zero => exact absurd HA.out (by simp [impl_AllDebts.l0])
   | succ k1 =>
    have H := HA.out
    clear HA
    simp only [impl_AllDebts.l0] at H
    by_cases da : o8 < (jy.length : Int)
    ·rw [if_pos da] at H
     have jc := decide_eq_true da
     clear da
     obtain ⟨cu, H⟩ := pos_ H
     have iu := decide_eq_true cu
     clear cu
     obtain ⟨eh, H⟩ := pos_ H
     have o5 := decide_eq_true eh
     clear eh
     have H' := Aside0.mk H
     clear H
     have at9 : 0 ≤ (o8 : Int) := of_decide_eq_true (g0_)
     have au0 : o8 < (jy.length : Int) := of_decide_eq_true (g0_)
     obtain ⟨ds0, cl7, ds1⟩ := Kd.at_int (Kd.R_reads' bn9.out).2.2 o8 at9 au0
     cases cl7
     replace at9 := eq_true at9
     replace au0 := eq_true au0
     go_wp2
     go_roundg k1
     case measure => have := HK1.out; omega
     case rel => exact ⟨(wrap64 (cn + (rd jy o8))), (wrap64 (o8 + 1)), (g2_), (g2_), H', ⟨g8_⟩, ⟨uf1_ bn9⟩, ⟨uf0_ ks⟩, ⟨ns⟩⟩
    ·rw [if_neg da] at H
     have jc := decide_eq_false da
     clear da
     obtain rfl := Option.some.inj H
     go_wp2
     go_ret
     exact ⟨g4_, ns⟩
 ·replace c3 := Bool.eq_false_iff.mpr c3
  subst c3
  replace H := ifn_ H
  obtain rfl := Option.some.inj H
  go_enter Try.func25, Try.ntmps25
  go_wp2_with (first | ((with_reducible refine gate_dst (N := 1) rfl ?_); refine bx_ (N := 1) #[.slice ae ab.length ac, .slice ag aa.length af] 25 ?_; intro ux hg w14 hbox hb; have ks := Aside0.mk (hbox); have cl6 := Aside0.mk ((g30_ : w.heap.size ≤ ux)); have bn7 := Aside0.mk ((g30_ : w.heap.size ≤ ux)); replace HB := Aside0.mk (below_step (ns) hb); clear hb hbox hg; obtain ⟨ru, rv, rx, ry⟩ := blk2_ ks) | ((with_reducible refine gate_callee (f := 73) rfl ?_); refine goesL_ (some 7) rfl rfl Try.func73 k_ rfl #[.agg #[.slice ae ab.length ac, .slice ag aa.length af]] rfl (g3_) ?_; (with_reducible refine (impl_isBook.calls k _ _ ab _ _ aa false _ ?side1 ?side2 ?side3 ?side4 A2.out).mono ?_); (case side1 => exact uf2_ bg); (case side2 => exact bx.out); (case side3 => exact uf2_ bb); (case side4 => exact b2.out); rintro e qm ⟨rfl, hb⟩; refine ⟨_, rfl, ?_⟩; replace ks := bb_ ks hb; replace HB := Aside0.mk (below_step (ns) hb); (try clear hb); (try clear hk hi)))
  go_ret
  exact ⟨g4_, ns⟩
def laws_sameInts.l0 : Nat → List Int → List Int → Int → Option (Bool)
 | 0, _, _, _ => none
 | k + 1, x0, x1, x5 => if x5 < (x0.length : Int) then (if 0 ≤ x5 then (if x5 < (x1.length : Int) then (if (rd x0 x5) = (rd x1 x5) then (laws_sameInts.l0 k x0 x1 (wrap64 (x5 + 1))) else (some false)) else (none)) else (none)) else (some true)
def laws_sameInts.f (k : Nat) (l0 : List Int) (l1 : List Int) : Option (Bool) := if (l0.length : Int) = (l1.length : Int) then (laws_sameInts.l0 k l0 l1 0) else (some false)
theorem laws_sameInts.mq {p : Prop} (h : p := by
 repeat' first
 | (with_reducible exact ih0 _ _ _)
 | (with_reducible exact LeO.refl _)
 | (with_reducible exact LeO.none _)
 | (with_reducible refine LeO.ite ?_ ?_)
 | (with_reducible refine LeO.bind ?_ (fun _ => ?_))
 | exact ih0 _ _ _
 | exact LeO.none _
 | refine LeO.ite ?_ ?_
 | refine LeO.bind ?_ (fun _ => ?_)) : p := h
theorem laws_sameInts.mono_l : ∀ k, (∀ y0 y1 y2, LeO (laws_sameInts.l0 k y0 y1 y2) (laws_sameInts.l0 (k + 1) y0 y1 y2))
 | 0 => fun _ _ _ r h => by simp [laws_sameInts.l0] at h
 | k + 1 => by
  have ih0 := laws_sameInts.mono_l k
  ·intro y0 y1 y2
   unfold laws_sameInts.l0
   exact laws_sameInts.mq
theorem laws_sameInts.mono : ∀ a0 a1 k, LeO (laws_sameInts.f k a0 a1) (laws_sameInts.f (k + 1) a0 a1) := by
 intro a0 a1 k
 have ih0 := laws_sameInts.mono_l k
 unfold laws_sameInts.f
 exact laws_sameInts.mq
set_option maxHeartbeats 8000000 in
set_option maxRecDepth 100000 in
theorem laws_sameInts.calls (k : Nat) (A0 : Option Addr) (c0 : Nat) (l0 : List Int) (A1 : Option Addr) (c1 : Nat) (l1 : List Int) (r : Bool) (w : World) (br : Kd.C (Kd.int .i64) w A0 l0.length l0) (cx : l0.length ≤ c0) (er : Kd.C (Kd.int .i64) w A1 l1.length l1) (ey : l1.length ≤ c1) (h : laws_sameInts.f k l0 l1 = some r) :
  Calls Try.prog 45 #[.slice A0 l0.length c0, .slice A1 l1.length c1] w fun e w' => e = .returned (.bool r) ∧ Drawn0 w w' := by
 have dz := Aside0.mk br
 have kt := Aside0.mk cx
 clear br cx
 have dc := Aside0.mk er
 have uz := Aside0.mk ey
 clear er ey
 have H : (if (l0.length : Int) = (l1.length : Int) then (laws_sameInts.l0 k l0 l1 0) else (some false)) = some r := h
 clear h
 by_cases c3 : (l0.length : Int) = (l1.length : Int)
 ·rw [if_pos c3] at H
  have d8 : ((l0.length : Int) == (l1.length : Int)) = true := beq_iff_eq.mpr c3
  have go : ((l0.length : Int) != (l1.length : Int)) = false := bne_eq_false_iff_eq.mpr c3
  have nt : (l0.length == l1.length) = true := by first | simpa using c3 | (simp at c3 ⊢; omega)
  clear c3
  have H' := Aside0.mk H
  clear H
  go_enter Try.func45, Try.ntmps45
  go_wp2
  repeat (go_quiet (fail); try go_wp2)
  go_loopg [5] k (fun kq v5 w' => ∃ (ax : Int), v5 = .int .i64 ax ∧ Aside0 (laws_sameInts.l0 kq l0 l1 ax = some r) ∧ Aside0 (kq ≤ k) ∧ Drawn0 w w')
  case atStart => exact ⟨(0), (g2_), H', ⟨Nat.le_refl _⟩, g5_⟩
  case round =>
   clear H'
   try clear c1
   try clear p2
   try clear c3
   try clear d8
   try clear go
   try clear nt
   obtain ⟨ax, rfl, HA, HK1, ⟨m1, rfl⟩⟩ := hrel
   cases gk with
   | zero => exact absurd HA.out (by simp [laws_sameInts.l0])
   | succ k1 =>
    have H := HA.out
    clear HA
    simp only [laws_sameInts.l0] at H
    by_cases c4 : ax < (l0.length : Int)
    ·rw [if_pos c4] at H
     have fw := decide_eq_true c4
     clear c4
     obtain ⟨c5, H⟩ := pos_ H
     have dv := decide_eq_true c5
     clear c5
     obtain ⟨c6, H⟩ := pos_ H
     have fj := decide_eq_true c6
     clear c6
     by_cases c7 : (rd l0 ax) = (rd l1 ax)
     ·rw [if_pos c7] at H
      have xq : ((rd l0 ax) == (rd l1 ax)) = true := beq_iff_eq.mpr c7
      have au1 : ((rd l0 ax) != (rd l1 ax)) = false := bne_eq_false_iff_eq.mpr c7
      clear c7
      have H' := Aside0.mk H
      clear H
      have sd : 0 ≤ (ax : Int) := of_decide_eq_true (g0_)
      have se : ax < (l0.length : Int) := of_decide_eq_true (g0_)
      obtain ⟨cl8, au2, cl9⟩ := Kd.at_int dz.out ax sd se
      cases au2
      replace sd := eq_true sd
      replace se := eq_true se
      have sf : 0 ≤ (ax : Int) := of_decide_eq_true (g0_)
      have sg : ax < (l1.length : Int) := of_decide_eq_true (g0_)
      obtain ⟨cm0, au3, cm1⟩ := Kd.at_int dc.out ax sf sg
      cases au3
      replace sf := eq_true sf
      replace sg := eq_true sg
      go_wp2
      repeat (go_quiet (fail); try go_wp2)
      go_roundg k1
      case measure => have := HK1.out; omega
      case rel => exact ⟨(wrap64 (ax + 1)), (g2_), H', ⟨g8_⟩, g5_⟩
     ·rw [if_neg c7] at H
      have xq : ((rd l0 ax) == (rd l1 ax)) = false := beq_eq_false_iff_ne.mpr c7
      have au1 : ((rd l0 ax) != (rd l1 ax)) = true := bne_iff_ne.mpr c7
      obtain rfl := Option.some.inj H
      have sd : 0 ≤ (ax : Int) := of_decide_eq_true (g0_)
      have se : ax < (l0.length : Int) := of_decide_eq_true (g0_)
      obtain ⟨cl8, au2, cl9⟩ := Kd.at_int dz.out ax sd se
      cases au2
      replace sd := eq_true sd
      replace se := eq_true se
      have sf : 0 ≤ (ax : Int) := of_decide_eq_true (g0_)
      have sg : ax < (l1.length : Int) := of_decide_eq_true (g0_)
      obtain ⟨cm0, au3, cm1⟩ := Kd.at_int dc.out ax sf sg
      cases au3
      replace sf := eq_true sf
      replace sg := eq_true sg
      go_wp2
      repeat (go_quiet (fail); try go_wp2)
      go_ret
      exact ⟨g2_, g5_⟩
    ·rw [if_neg c4] at H
     have fw := decide_eq_false c4
     clear c4
     obtain rfl := Option.some.inj H
     go_wp2
     repeat (go_quiet (fail); try go_wp2)
     go_ret
     exact ⟨g2_, g5_⟩
 ·rw [if_neg c3] at H
  have d8 : ((l0.length : Int) == (l1.length : Int)) = false := beq_eq_false_iff_ne.mpr c3
  have go : ((l0.length : Int) != (l1.length : Int)) = true := bne_iff_ne.mpr c3
  have nt : (l0.length == l1.length) = false := by first | simpa using c3 | (simp at c3 ⊢; omega)
  obtain rfl := Option.some.inj H
  go_enter Try.func45, Try.ntmps45
  go_wp2
  repeat (go_quiet (fail); try go_wp2)
  go_ret
  exact ⟨g2_, g5_⟩
def laws_sameRows.l0 : Nat → List (List Int) → List (List Int) → Int → Option (Bool)
 | 0, _, _, _ => none
 | k + 1, x0, x1, x5 => if x5 < (x0.length : Int) then (if 0 ≤ x5 then (if x5 < (x1.length : Int) then ((laws_sameInts.f k (rd_L1 x0 x5) (rd_L1 x1 x5)).bind fun au4 => (if au4 = true then (laws_sameRows.l0 k x0 x1 (wrap64 (x5 + 1))) else (some false))) else (none)) else (none)) else (some true)
def laws_sameRows.f (k : Nat) (l0 : List (List Int)) (l1 : List (List Int)) : Option (Bool) := if (l0.length : Int) = (l1.length : Int) then (laws_sameRows.l0 k l0 l1 0) else (some false)
theorem laws_sameRows.mq {p : Prop} (h : p := by
 repeat' first
 | (with_reducible exact ih0 _ _ _)
 | (with_reducible exact laws_sameInts.mono _ _ _)
 | (with_reducible exact LeO.refl _)
 | (with_reducible exact LeO.none _)
 | (with_reducible refine LeO.ite ?_ ?_)
 | (with_reducible refine LeO.bind ?_ (fun _ => ?_))
 | exact ih0 _ _ _
 | exact laws_sameInts.mono _ _ _
 | exact LeO.none _
 | refine LeO.ite ?_ ?_
 | refine LeO.bind ?_ (fun _ => ?_)) : p := h
theorem laws_sameRows.mono_l : ∀ k, (∀ y0 y1 y2, LeO (laws_sameRows.l0 k y0 y1 y2) (laws_sameRows.l0 (k + 1) y0 y1 y2))
 | 0 => fun _ _ _ r h => by simp [laws_sameRows.l0] at h
 | k + 1 => by
  have ih0 := laws_sameRows.mono_l k
  ·intro y0 y1 y2
   unfold laws_sameRows.l0
   exact laws_sameRows.mq
theorem laws_sameRows.mono : ∀ a0 a1 k, LeO (laws_sameRows.f k a0 a1) (laws_sameRows.f (k + 1) a0 a1) := by
 intro a0 a1 k
 have ih0 := laws_sameRows.mono_l k
 unfold laws_sameRows.f
 exact laws_sameRows.mq
set_option maxHeartbeats 8000000 in
set_option maxRecDepth 100000 in
theorem laws_sameRows.calls (k : Nat) (A0 : Option Addr) (c0 : Nat) (l0 : List (List Int)) (A1 : Option Addr) (c1 : Nat) (l1 : List (List Int)) (r : Bool) (w : World) (br : Kd.C (Kd.slice 3 (Kd.int .i64)) w A0 l0.length l0) (cx : l0.length ≤ c0) (er : Kd.C (Kd.slice 3 (Kd.int .i64)) w A1 l1.length l1) (ey : l1.length ≤ c1) (h : laws_sameRows.f k l0 l1 = some r) :
  Calls Try.prog 93 #[.slice A0 l0.length c0, .slice A1 l1.length c1] w fun e w' => e = .returned (.bool r) ∧ Drawn0 w w' := by
 have dz := Aside0.mk br
 have kt := Aside0.mk cx
 clear br cx
 have dc := Aside0.mk er
 have uz := Aside0.mk ey
 clear er ey
 have H : (if (l0.length : Int) = (l1.length : Int) then (laws_sameRows.l0 k l0 l1 0) else (some false)) = some r := h
 clear h
 by_cases c3 : (l0.length : Int) = (l1.length : Int)
 ·rw [if_pos c3] at H
  have d8 : ((l0.length : Int) == (l1.length : Int)) = true := beq_iff_eq.mpr c3
  have go : ((l0.length : Int) != (l1.length : Int)) = false := bne_eq_false_iff_eq.mpr c3
  have nt : (l0.length == l1.length) = true := by first | simpa using c3 | (simp at c3 ⊢; omega)
  clear c3
  have H' := Aside0.mk H
  clear H
  go_enter Try.func93, Try.ntmps93
  go_wp2
  repeat (go_quiet (fail); try go_wp2)
  go_loopg [5] k (fun kq v5 w' => ∃ (ax : Int), v5 = .int .i64 ax ∧ Aside0 (laws_sameRows.l0 kq l0 l1 ax = some r) ∧ Aside0 (kq ≤ k) ∧ Drawn0 w w')
  case atStart => exact ⟨(0), (g2_), H', ⟨Nat.le_refl _⟩, g5_⟩
  case round =>
   clear H'
   try clear c1
   try clear p2
   try clear c3
   try clear d8
   try clear go
   try clear nt
   obtain ⟨ax, rfl, HA, HK1, ⟨m1, rfl⟩⟩ := hrel
   cases gk with
   | zero => exact absurd HA.out (by simp [laws_sameRows.l0])
   | succ k1 =>
    have H := HA.out
    clear HA
    simp only [laws_sameRows.l0] at H
    by_cases c4 : ax < (l0.length : Int)
    ·rw [if_pos c4] at H
     have fw := decide_eq_true c4
     clear c4
     obtain ⟨c5, H⟩ := pos_ H
     have dv := decide_eq_true c5
     clear c5
     obtain ⟨c6, H⟩ := pos_ H
     have fj := decide_eq_true c6
     clear c6
     obtain ⟨au4, A7, H⟩ := bind_ H
     by_cases c8 : au4 = true
     ·subst c8
      replace H := ifp_ H
      have H' := Aside0.mk H
      clear H
      have sh : 0 ≤ (ax : Int) := of_decide_eq_true (g0_)
      have si : ax < (l0.length : Int) := of_decide_eq_true (g0_)
      obtain ⟨cm2, cm3, cm4, au5, cm5, xr, xt⟩ := at_L1 dz.out ax sh si
      cases au5
      have sj := Aside0.mk xt
      have sk := Aside0.mk xr
      clear xt xr
      replace sh := eq_true sh
      replace si := eq_true si
      have sl : 0 ≤ (ax : Int) := of_decide_eq_true (g0_)
      have sm : ax < (l1.length : Int) := of_decide_eq_true (g0_)
      obtain ⟨cm6, cm7, cm8, au6, cm9, xu, xv⟩ := at_L1 dc.out ax sl sm
      cases au6
      have sn := Aside0.mk xv
      have so := Aside0.mk xu
      clear xv xu
      replace sl := eq_true sl
      replace sm := eq_true sm
      go_wp2_with (first | (go_at_call 45; (with_reducible refine (laws_sameInts.calls k1 _ _ (rd_L1 l0 ax) _ _ (rd_L1 l1 ax) true _ ?side1 ?side2 ?side3 ?side4 A7.out).mono ?_); (case side1 => repeat (first | exact sj.out | (with_reducible refine Kd.C_alloc ?_ _) | (with_reducible refine Kd.C_drewN ?_ _) | (with_reducible refine Kd.C_drew ?_))); (case side2 => exact sk.out); (case side3 => repeat (first | exact sn.out | (with_reducible refine Kd.C_alloc ?_ _) | (with_reducible refine Kd.C_drewN ?_ _) | (with_reducible refine Kd.C_drew ?_))); (case side4 => exact so.out); rintro e w' ⟨rfl, ⟨nd, rfl⟩⟩; (try first | exact ⟨rfl, _, World.drewN_drewN _ _ _⟩ | exact ⟨rfl, _, Eq.trans (World.drewN_drewN _ _ _) (congrArg (World.drewN _) (Nat.add_assoc _ _ _))⟩)))
      repeat (go_quiet (first | (go_at_call 45; (with_reducible refine (laws_sameInts.calls k1 _ _ (rd_L1 l0 ax) _ _ (rd_L1 l1 ax) true _ ?side1 ?side2 ?side3 ?side4 A7.out).mono ?_); (case side1 => repeat (first | exact sj.out | (with_reducible refine Kd.C_alloc ?_ _) | (with_reducible refine Kd.C_drewN ?_ _) | (with_reducible refine Kd.C_drew ?_))); (case side2 => exact sk.out); (case side3 => repeat (first | exact sn.out | (with_reducible refine Kd.C_alloc ?_ _) | (with_reducible refine Kd.C_drewN ?_ _) | (with_reducible refine Kd.C_drew ?_))); (case side4 => exact so.out); rintro e w' ⟨rfl, ⟨nd, rfl⟩⟩; (try first | exact ⟨rfl, _, World.drewN_drewN _ _ _⟩ | exact ⟨rfl, _, Eq.trans (World.drewN_drewN _ _ _) (congrArg (World.drewN _) (Nat.add_assoc _ _ _))⟩))); try go_wp2_with (first | (go_at_call 45; (with_reducible refine (laws_sameInts.calls k1 _ _ (rd_L1 l0 ax) _ _ (rd_L1 l1 ax) true _ ?side1 ?side2 ?side3 ?side4 A7.out).mono ?_); (case side1 => repeat (first | exact sj.out | (with_reducible refine Kd.C_alloc ?_ _) | (with_reducible refine Kd.C_drewN ?_ _) | (with_reducible refine Kd.C_drew ?_))); (case side2 => exact sk.out); (case side3 => repeat (first | exact sn.out | (with_reducible refine Kd.C_alloc ?_ _) | (with_reducible refine Kd.C_drewN ?_ _) | (with_reducible refine Kd.C_drew ?_))); (case side4 => exact so.out); rintro e w' ⟨rfl, ⟨nd, rfl⟩⟩; (try first | exact ⟨rfl, _, World.drewN_drewN _ _ _⟩ | exact ⟨rfl, _, Eq.trans (World.drewN_drewN _ _ _) (congrArg (World.drewN _) (Nat.add_assoc _ _ _))⟩))))
      go_roundg k1
      case measure => have := HK1.out; omega
      case rel => exact ⟨(wrap64 (ax + 1)), (g2_), H', ⟨g8_⟩, g5_⟩
     ·replace c8 := Bool.eq_false_iff.mpr c8
      subst c8
      replace H := ifn_ H
      obtain rfl := Option.some.inj H
      have sh : 0 ≤ (ax : Int) := of_decide_eq_true (g0_)
      have si : ax < (l0.length : Int) := of_decide_eq_true (g0_)
      obtain ⟨cm2, cm3, cm4, au5, cm5, xr, xt⟩ := at_L1 dz.out ax sh si
      cases au5
      have sj := Aside0.mk xt
      have sk := Aside0.mk xr
      clear xt xr
      replace sh := eq_true sh
      replace si := eq_true si
      have sl : 0 ≤ (ax : Int) := of_decide_eq_true (g0_)
      have sm : ax < (l1.length : Int) := of_decide_eq_true (g0_)
      obtain ⟨cm6, cm7, cm8, au6, cm9, xu, xv⟩ := at_L1 dc.out ax sl sm
      cases au6
      have sn := Aside0.mk xv
      have so := Aside0.mk xu
      clear xv xu
      replace sl := eq_true sl
      replace sm := eq_true sm
      go_wp2_with (first | (go_at_call 45; (with_reducible refine (laws_sameInts.calls k1 _ _ (rd_L1 l0 ax) _ _ (rd_L1 l1 ax) false _ ?side1 ?side2 ?side3 ?side4 A7.out).mono ?_); (case side1 => repeat (first | exact sj.out | (with_reducible refine Kd.C_alloc ?_ _) | (with_reducible refine Kd.C_drewN ?_ _) | (with_reducible refine Kd.C_drew ?_))); (case side2 => exact sk.out); (case side3 => repeat (first | exact sn.out | (with_reducible refine Kd.C_alloc ?_ _) | (with_reducible refine Kd.C_drewN ?_ _) | (with_reducible refine Kd.C_drew ?_))); (case side4 => exact so.out); rintro e w' ⟨rfl, ⟨nd, rfl⟩⟩; (try first | exact ⟨rfl, _, World.drewN_drewN _ _ _⟩ | exact ⟨rfl, _, Eq.trans (World.drewN_drewN _ _ _) (congrArg (World.drewN _) (Nat.add_assoc _ _ _))⟩)))
      repeat (go_quiet (first | (go_at_call 45; (with_reducible refine (laws_sameInts.calls k1 _ _ (rd_L1 l0 ax) _ _ (rd_L1 l1 ax) false _ ?side1 ?side2 ?side3 ?side4 A7.out).mono ?_); (case side1 => repeat (first | exact sj.out | (with_reducible refine Kd.C_alloc ?_ _) | (with_reducible refine Kd.C_drewN ?_ _) | (with_reducible refine Kd.C_drew ?_))); (case side2 => exact sk.out); (case side3 => repeat (first | exact sn.out | (with_reducible refine Kd.C_alloc ?_ _) | (with_reducible refine Kd.C_drewN ?_ _) | (with_reducible refine Kd.C_drew ?_))); (case side4 => exact so.out); rintro e w' ⟨rfl, ⟨nd, rfl⟩⟩; (try first | exact ⟨rfl, _, World.drewN_drewN _ _ _⟩ | exact ⟨rfl, _, Eq.trans (World.drewN_drewN _ _ _) (congrArg (World.drewN _) (Nat.add_assoc _ _ _))⟩))); try go_wp2_with (first | (go_at_call 45; (with_reducible refine (laws_sameInts.calls k1 _ _ (rd_L1 l0 ax) _ _ (rd_L1 l1 ax) false _ ?side1 ?side2 ?side3 ?side4 A7.out).mono ?_); (case side1 => repeat (first | exact sj.out | (with_reducible refine Kd.C_alloc ?_ _) | (with_reducible refine Kd.C_drewN ?_ _) | (with_reducible refine Kd.C_drew ?_))); (case side2 => exact sk.out); (case side3 => repeat (first | exact sn.out | (with_reducible refine Kd.C_alloc ?_ _) | (with_reducible refine Kd.C_drewN ?_ _) | (with_reducible refine Kd.C_drew ?_))); (case side4 => exact so.out); rintro e w' ⟨rfl, ⟨nd, rfl⟩⟩; (try first | exact ⟨rfl, _, World.drewN_drewN _ _ _⟩ | exact ⟨rfl, _, Eq.trans (World.drewN_drewN _ _ _) (congrArg (World.drewN _) (Nat.add_assoc _ _ _))⟩))))
      go_ret
      exact ⟨g2_, g5_⟩
    ·rw [if_neg c4] at H
     have fw := decide_eq_false c4
     clear c4
     obtain rfl := Option.some.inj H
     go_wp2
     repeat (go_quiet (fail); try go_wp2)
     go_ret
     exact ⟨g2_, g5_⟩
 ·rw [if_neg c3] at H
  have d8 : ((l0.length : Int) == (l1.length : Int)) = false := beq_eq_false_iff_ne.mpr c3
  have go : ((l0.length : Int) != (l1.length : Int)) = true := bne_iff_ne.mpr c3
  have nt : (l0.length == l1.length) = false := by first | simpa using c3 | (simp at c3 ⊢; omega)
  obtain rfl := Option.some.inj H
  go_enter Try.func93, Try.ntmps93
  go_wp2
  repeat (go_quiet (fail); try go_wp2)
  go_ret
  exact ⟨g2_, g5_⟩
def laws_sameBook.f (k : Nat) (ab : List Int) (aa : List (List Int)) (jz : List Int) (mo : List (List Int)) : Option (Bool) := (laws_sameInts.f k ab jz).bind fun xw => (if xw = true then ((laws_sameRows.f k aa mo).bind fun xx => (some xx)) else (some false))
theorem laws_sameBook.mq {p : Prop} (h : p := by
 repeat' first
 | (with_reducible exact laws_sameInts.mono _ _ _)
 | (with_reducible exact laws_sameRows.mono _ _ _)
 | (with_reducible exact LeO.refl _)
 | (with_reducible exact LeO.none _)
 | (with_reducible refine LeO.ite ?_ ?_)
 | (with_reducible refine LeO.bind ?_ (fun _ => ?_))
 | exact laws_sameInts.mono _ _ _
 | exact laws_sameRows.mono _ _ _
 | exact LeO.none _
 | refine LeO.ite ?_ ?_
 | refine LeO.bind ?_ (fun _ => ?_)) : p := h
theorem laws_sameBook.mono : ∀ a0 a1 a2 a3 k, LeO (laws_sameBook.f k a0 a1 a2 a3) (laws_sameBook.f (k + 1) a0 a1 a2 a3) := by
 intro a0 a1 a2 a3 k
 unfold laws_sameBook.f
 exact laws_sameBook.mq
theorem qe {p : Prop} (h : p := by repeat (first | (with_reducible first | exact HB.out | apply below_alloc | apply pw_below_drewN | apply below_drew1 | refine below_set ?_ bo0.out | refine below_set ?_ bo1.out) | exact HB.out)) : p := h
set_option maxHeartbeats 8000000 in
set_option maxRecDepth 100000 in
theorem laws_sameBook.calls (k : Nat) (ae : Option Addr) (ac : Nat) (ab : List Int) (ag : Option Addr) (af : Nat) (aa : List (List Int)) (u0 : Option Addr) (u1 : Nat) (jz : List Int) (ah7 : Option Addr) (ah8 : Nat) (mo : List (List Int)) (r : Bool) (w : World) (bo : Kd.C (Kd.int .i64) w ae ab.length ab) (bs : ab.length ≤ ac) (bp : Kd.C (Kd.slice 3 (Kd.int .i64)) w ag aa.length aa) (bt : aa.length ≤ af) (bo2 : Kd.C (Kd.int .i64) w u0 jz.length jz) (bo3 : jz.length ≤ u1) (bo4 : Kd.C (Kd.slice 3 (Kd.int .i64)) w ah7 mo.length mo) (bo5 : mo.length ≤ ah8) (h : laws_sameBook.f k ab aa jz mo = some r) :
  Calls Try.prog 40 #[.agg #[.slice ae ab.length ac, .slice ag aa.length af], .agg #[.slice u0 jz.length u1, .slice ah7 mo.length ah8]] w fun e w' => e = .returned (.bool r) ∧ Below w.heap.size w w' := by
 have hu25 := Try.underlying25
 have bg := Aside0.mk bo
 have bx := Aside0.mk bs
 clear bo bs
 have bb := Aside0.mk bp
 have b2 := Aside0.mk bt
 clear bp bt
 have bo6 := Aside0.mk bo2
 have bo7 := Aside0.mk bo3
 clear bo2 bo3
 have cn0 := Aside0.mk bo4
 have cn1 := Aside0.mk bo5
 clear bo4 bo5
 have HB := Aside0.mk (Below.refl w.heap.size w)
 have H : ((laws_sameInts.f k ab jz).bind fun xw => (if xw = true then ((laws_sameRows.f k aa mo).bind fun xx => (some xx)) else (some false))) = some r := h
 clear h
 obtain ⟨xw, A3, H⟩ := bind_ H
 by_cases c4 : xw = true
 ·subst c4
  replace H := ifp_ H
  obtain ⟨xx, A5, H⟩ := bind_ H
  obtain rfl := Option.some.inj H
  go_enter Try.func40, Try.ntmps40
  go_wp2_with (first | ((with_reducible refine gate_dst (N := 2) rfl ?_); refine bx_ (N := 2) #[.slice ae ab.length ac, .slice ag aa.length af] 25 ?_; intro ku hg w6 hbox hb; have mr := Aside0.mk (hbox); have cn2 := Aside0.mk ((g12_ : w.heap.size ≤ ku)); have bo0 := Aside0.mk ((g12_ : w.heap.size ≤ ku)); replace HB := Aside0.mk (below_step (qe) hb); clear hb hbox hg) | ((with_reducible refine gate_dst (N := 3) rfl ?_); refine bx_ (N := 3) #[.slice u0 jz.length u1, .slice ah7 mo.length ah8] 25 ?_; intro o9 hg w7 hbox hb; have au7 := Aside0.mk (hbox); have cn3 := Aside0.mk ((g12_ : w.heap.size ≤ o9)); have bo1 := Aside0.mk ((g12_ : w.heap.size ≤ o9)); replace HB := Aside0.mk (below_step (qe) hb); have au8 := Aside0.mk ((by rw [hg]; exact Nat.ne_of_lt (blk_lt (g := ku) (o := .cells #[.slice ae ab.length ac, .slice ag aa.length af] 25 (0, 0)) (uf0_ mr)) : ku ≠ o9)); have au9 := Aside0.mk ((by rw [hg]; exact Nat.ne_of_gt (blk_lt (g := ku) (o := .cells #[.slice ae ab.length ac, .slice ag aa.length af] 25 (0, 0)) (uf0_ mr)) : o9 ≠ ku)); replace mr := bb_ mr hb; clear hb hbox hg; have ds2 := au8.out; have ds3 := au9.out; obtain ⟨af6, af7, af8, af9⟩ := blk2_ mr; obtain ⟨av0, av1, av2, av3⟩ := blk2_ au7) | ((with_reducible refine gate_callee (f := 45) rfl ?_); refine goesL_ (some 9) rfl rfl Try.func45 k_ rfl #[.slice ae ab.length ac, .slice u0 jz.length u1] rfl (g3_) ?_; (with_reducible refine (laws_sameInts.calls k _ _ ab _ _ jz true _ ?side1 ?side2 ?side3 ?side4 A3.out).mono ?_); (case side1 => exact uf2_ bg); (case side2 => exact bx.out); (case side3 => exact uf2_ bo6); (case side4 => exact bo7.out); rintro e w' ⟨rfl, ⟨nd, rfl⟩⟩; refine ⟨_, rfl, ?_⟩) | (go_at_call 93; (with_reducible refine (laws_sameRows.calls k _ _ aa _ _ mo xx _ ?side1 ?side2 ?side3 ?side4 A5.out).mono ?_); (case side1 => repeat (first | exact (Kd.C_below bb.out (qe)) | (with_reducible refine Kd.C_alloc ?_ _) | (with_reducible refine Kd.C_drewN ?_ _) | (with_reducible refine Kd.C_drew ?_))); (case side2 => exact b2.out); (case side3 => repeat (first | exact (Kd.C_below cn0.out (qe)) | (with_reducible refine Kd.C_alloc ?_ _) | (with_reducible refine Kd.C_drewN ?_ _) | (with_reducible refine Kd.C_drew ?_))); (case side4 => exact cn1.out); rintro e w' ⟨rfl, ⟨nd, rfl⟩⟩))
  go_ret
  exact ⟨g4_, qe⟩
 ·replace c4 := Bool.eq_false_iff.mpr c4
  subst c4
  replace H := ifn_ H
  obtain rfl := Option.some.inj H
  go_enter Try.func40, Try.ntmps40
  go_wp2_with (first | ((with_reducible refine gate_dst (N := 2) rfl ?_); refine bx_ (N := 2) #[.slice ae ab.length ac, .slice ag aa.length af] 25 ?_; intro ku hg w11 hbox hb; have mr := Aside0.mk (hbox); have cn2 := Aside0.mk ((g12_ : w.heap.size ≤ ku)); have bo0 := Aside0.mk ((g12_ : w.heap.size ≤ ku)); replace HB := Aside0.mk (below_step (qe) hb); clear hb hbox hg) | ((with_reducible refine gate_dst (N := 3) rfl ?_); refine bx_ (N := 3) #[.slice u0 jz.length u1, .slice ah7 mo.length ah8] 25 ?_; intro o9 hg qg hbox hb; have au7 := Aside0.mk (hbox); have cn3 := Aside0.mk ((g12_ : w.heap.size ≤ o9)); have bo1 := Aside0.mk ((g12_ : w.heap.size ≤ o9)); replace HB := Aside0.mk (below_step (qe) hb); have au8 := Aside0.mk ((by rw [hg]; exact Nat.ne_of_lt (blk_lt (g := ku) (o := .cells #[.slice ae ab.length ac, .slice ag aa.length af] 25 (0, 0)) (uf0_ mr)) : ku ≠ o9)); have au9 := Aside0.mk ((by rw [hg]; exact Nat.ne_of_gt (blk_lt (g := ku) (o := .cells #[.slice ae ab.length ac, .slice ag aa.length af] 25 (0, 0)) (uf0_ mr)) : o9 ≠ ku)); replace mr := bb_ mr hb; clear hb hbox hg; have ah9 := au8.out; have ai0 := au9.out; obtain ⟨u2, u4, u6, u7⟩ := blk2_ mr; obtain ⟨ru, rv, rx, ry⟩ := blk2_ au7) | ((with_reducible refine gate_callee (f := 45) rfl ?_); refine goesL_ (some 9) rfl rfl Try.func45 k_ rfl #[.slice ae ab.length ac, .slice u0 jz.length u1] rfl (g3_) ?_; (with_reducible refine (laws_sameInts.calls k _ _ ab _ _ jz false _ ?side1 ?side2 ?side3 ?side4 A3.out).mono ?_); (case side1 => exact uf2_ bg); (case side2 => exact bx.out); (case side3 => exact uf2_ bo6); (case side4 => exact bo7.out); rintro e w' ⟨rfl, ⟨nd, rfl⟩⟩; refine ⟨_, rfl, ?_⟩))
  go_ret
  exact ⟨g4_, qe⟩
def laws_noBook.f (k : Nat) (ab : List Int) (aa : List (List Int)) : Option (Bool) := (laws_sameBook.f k ab aa ([] : List Int) ([] : List (List Int))).bind fun xy => (some xy)
theorem laws_noBook.mq {p : Prop} (h : p := by
 repeat' first
 | (with_reducible exact laws_sameBook.mono _ _ _ _ _)
 | (with_reducible exact LeO.refl _)
 | (with_reducible exact LeO.none _)
 | (with_reducible refine LeO.ite ?_ ?_)
 | (with_reducible refine LeO.bind ?_ (fun _ => ?_))
 | exact laws_sameBook.mono _ _ _ _ _
 | exact LeO.none _
 | refine LeO.ite ?_ ?_
 | refine LeO.bind ?_ (fun _ => ?_)) : p := h
theorem laws_noBook.mono : ∀ a0 a1 k, LeO (laws_noBook.f k a0 a1) (laws_noBook.f (k + 1) a0 a1) := by
 intro a0 a1 k
 unfold laws_noBook.f
 exact laws_noBook.mq
theorem ae9 {p : Prop} (h : p := by repeat (first | (with_reducible first | exact HB.out | apply below_alloc | apply pw_below_drewN | apply below_drew1 | refine below_set ?_ cn4.out) | exact HB.out)) : p := h
set_option maxHeartbeats 8000000 in
set_option maxRecDepth 100000 in
theorem laws_noBook.calls (k : Nat) (ae : Option Addr) (ac : Nat) (ab : List Int) (ag : Option Addr) (af : Nat) (aa : List (List Int)) (r : Bool) (w : World) (bo : Kd.C (Kd.int .i64) w ae ab.length ab) (bs : ab.length ≤ ac) (bp : Kd.C (Kd.slice 3 (Kd.int .i64)) w ag aa.length aa) (bt : aa.length ≤ af) (h : laws_noBook.f k ab aa = some r) :
  Calls Try.prog 43 #[.agg #[.slice ae ab.length ac, .slice ag aa.length af]] w fun e w' => e = .returned (.bool r) ∧ Below w.heap.size w w' := by
 have hu25 := Try.underlying25
 have bg := Aside0.mk bo
 have bx := Aside0.mk bs
 clear bo bs
 have bb := Aside0.mk bp
 have b2 := Aside0.mk bt
 clear bp bt
 have HB := Aside0.mk (Below.refl w.heap.size w)
 have H : ((laws_sameBook.f k ab aa ([] : List Int) ([] : List (List Int))).bind fun xy => (some xy)) = some r := h
 clear h
 obtain ⟨xy, A2, H⟩ := bind_ H
 obtain rfl := Option.some.inj H
 go_enter Try.func43, Try.ntmps43
 go_wp2_with (first | ((with_reducible refine gate_dst (N := 1) rfl ?_); refine bx_ (N := 1) #[.slice ae ab.length ac, .slice ag aa.length af] 25 ?_; intro bo8 hg w3 hbox hb; have av4 := Aside0.mk (hbox); have ds4 := Aside0.mk ((by rw [hg]; exact (below_size (ae9)) : w.heap.size ≤ bo8)); have cn4 := Aside0.mk ((by rw [hg]; exact (below_size (ae9)) : w.heap.size ≤ bo8)); replace HB := Aside0.mk (below_step (ae9) hb); clear hb hbox hg; obtain ⟨o1, o2, rz, o3⟩ := blk2_ av4) | ((with_reducible refine gate_callee (f := 40) rfl ?_); refine goesL_ (some 5) rfl rfl Try.func40 k_ rfl #[.agg #[.slice ae ab.length ac, .slice ag aa.length af], .agg #[.slice none 0 0, .slice none 0 0]] rfl (g3_) ?_; (refine (laws_sameBook.calls k _ _ ab _ _ aa _ _ ([] : List Int) _ _ ([] : List (List Int)) xy _ ?side1 ?side2 ?side3 ?side4 ?side5 ?side6 ?side7 ?side8 A2.out).mono ?_); (case side1 => exact uf2_ bg); (case side2 => exact bx.out); (case side3 => exact uf2_ bb); (case side4 => exact b2.out); (case side5 => exact Kd.C_nil _ _); (case side6 => exact Nat.le_refl _); (case side7 => exact Kd.C_nil _ _); (case side8 => exact Nat.le_refl _); rintro e w5 ⟨rfl, hb⟩; refine ⟨_, rfl, ?_⟩; replace av4 := bb_ av4 hb; replace HB := Aside0.mk (below_step (ae9) hb); (try clear hb); (try clear hk hi)))
 go_ret
 exact ⟨g4_, ae9⟩
def impl_BookOk.f (k : Nat) (ab : List Int) (aa : List (List Int)) : Option (Bool) := (impl_isBook.f k ab aa).bind fun xz => (some xz)
theorem impl_BookOk.mq {p : Prop} (h : p := by
 repeat' first
 | (with_reducible exact impl_isBook.mono _ _ _)
 | (with_reducible exact LeO.refl _)
 | (with_reducible exact LeO.none _)
 | (with_reducible refine LeO.ite ?_ ?_)
 | (with_reducible refine LeO.bind ?_ (fun _ => ?_))
 | exact impl_isBook.mono _ _ _
 | exact LeO.none _
 | refine LeO.ite ?_ ?_
 | refine LeO.bind ?_ (fun _ => ?_)) : p := h
theorem impl_BookOk.mono : ∀ a0 a1 k, LeO (impl_BookOk.f k a0 a1) (impl_BookOk.f (k + 1) a0 a1) := by
 intro a0 a1 k
 unfold impl_BookOk.f
 exact impl_BookOk.mq
theorem af0 {p : Prop} (h : p := by repeat (first | (with_reducible first | exact HB.out | apply below_alloc | apply pw_below_drewN | apply below_drew1 | refine below_set ?_ cn5.out) | exact HB.out)) : p := h
set_option maxHeartbeats 8000000 in
set_option maxRecDepth 100000 in
theorem impl_BookOk.calls (k : Nat) (ae : Option Addr) (ac : Nat) (ab : List Int) (ag : Option Addr) (af : Nat) (aa : List (List Int)) (r : Bool) (w : World) (bo : Kd.C (Kd.int .i64) w ae ab.length ab) (bs : ab.length ≤ ac) (bp : Kd.C (Kd.slice 3 (Kd.int .i64)) w ag aa.length aa) (bt : aa.length ≤ af) (h : impl_BookOk.f k ab aa = some r) :
  Calls Try.prog 44 #[.agg #[.slice ae ab.length ac, .slice ag aa.length af]] w fun e w' => e = .returned (.bool r) ∧ Below w.heap.size w w' := by
 have hu25 := Try.underlying25
 have bg := Aside0.mk bo
 have bx := Aside0.mk bs
 clear bo bs
 have bb := Aside0.mk bp
 have b2 := Aside0.mk bt
 clear bp bt
 have HB := Aside0.mk (Below.refl w.heap.size w)
 have H : ((impl_isBook.f k ab aa).bind fun xz => (some xz)) = some r := h
 clear h
 obtain ⟨xz, A2, H⟩ := bind_ H
 obtain rfl := Option.some.inj H
 go_enter Try.func44, Try.ntmps44
 go_wp2_with (first | ((with_reducible refine gate_dst (N := 1) rfl ?_); refine bx_ (N := 1) #[.slice ae ab.length ac, .slice ag aa.length af] 25 ?_; intro bo9 hg w3 hbox hb; have av5 := Aside0.mk (hbox); have ds5 := Aside0.mk ((by rw [hg]; exact (below_size (af0)) : w.heap.size ≤ bo9)); have cn5 := Aside0.mk ((by rw [hg]; exact (below_size (af0)) : w.heap.size ≤ bo9)); replace HB := Aside0.mk (below_step (af0) hb); clear hb hbox hg; obtain ⟨o1, o2, rz, o3⟩ := blk2_ av5) | ((with_reducible refine gate_callee (f := 73) rfl ?_); refine goesL_ (some 4) rfl rfl Try.func73 k_ rfl #[.agg #[.slice ae ab.length ac, .slice ag aa.length af]] rfl (g3_) ?_; (with_reducible refine (impl_isBook.calls k _ _ ab _ _ aa xz _ ?side1 ?side2 ?side3 ?side4 A2.out).mono ?_); (case side1 => exact uf2_ bg); (case side2 => exact bx.out); (case side3 => exact uf2_ bb); (case side4 => exact b2.out); rintro e w5 ⟨rfl, hb⟩; refine ⟨_, rfl, ?_⟩; replace av5 := bb_ av5 hb; replace HB := Aside0.mk (below_step (af0) hb); (try clear hb); (try clear hk hi)))
 go_ret
 exact ⟨g4_, af0⟩
mutual
def impl_owed.l0 : Nat → List Int → List (List Int) → Int → Int → Option (List Int)
 | 0, _, _, _, _ => none
 | k + 1, x3, fb, f6, dt => if dt < f6 then (if 0 ≤ dt then (if dt < (fb.length : Int) then (impl_owed.l1 k x3 fb f6 dt (rd_L1 fb dt) ((rd_L1 fb dt).length : Int) 0) else (none)) else (none)) else (some x3)
def impl_owed.l1 : Nat → List Int → List (List Int) → Int → Int → List Int → Int → Int → Option (List Int)
 | 0, _, _, _, _, _, _, _ => none
 | k + 1, x3, fb, f6, dt, x19, uw, mj => if mj < uw then (if 0 ≤ mj then (if mj < (x19.length : Int) then (if mj < (x3.length : Int) then (impl_owed.l1 k (x3.set (mj : Int).toNat (wrap64 ((rd x3 mj) + (rd x19 mj)))) fb f6 dt x19 uw (wrap64 (mj + 1))) else (none)) else (none)) else (none)) else (impl_owed.l0 k x3 fb f6 (wrap64 (dt + 1)))
end
def impl_owed.f (k : Nat) (ab : List Int) (aa : List (List Int)) : Option (List Int) := if 0 ≤ (ab.length : Int) then (if ((ab.length : Int) : Int).toNat ≤ 35184372088832 then (impl_owed.l0 k (List.replicate ((ab.length : Int) : Int).toNat 0) aa (aa.length : Int) 0) else (none)) else (none)
theorem impl_owed.mq {p : Prop} (h : p := by
 repeat' first
 | (with_reducible exact ih0 _ _ _ _)
 | (with_reducible exact ih1 _ _ _ _ _ _ _)
 | (with_reducible exact LeO.refl _)
 | (with_reducible exact LeO.none _)
 | (with_reducible refine LeO.ite ?_ ?_)
 | (with_reducible refine LeO.bind ?_ (fun _ => ?_))
 | exact ih0 _ _ _ _
 | exact ih1 _ _ _ _ _ _ _
 | exact LeO.none _
 | refine LeO.ite ?_ ?_
 | refine LeO.bind ?_ (fun _ => ?_)) : p := h
theorem impl_owed.mono_l : ∀ k, (∀ y0 y1 y2 y3, LeO (impl_owed.l0 k y0 y1 y2 y3) (impl_owed.l0 (k + 1) y0 y1 y2 y3)) ∧ (∀ y0 y1 y2 y3 y4 y5 y6, LeO (impl_owed.l1 k y0 y1 y2 y3 y4 y5 y6) (impl_owed.l1 (k + 1) y0 y1 y2 y3 y4 y5 y6))
 | 0 => ⟨fun _ _ _ _ r h => by simp [impl_owed.l0] at h, fun _ _ _ _ _ _ _ r h => by simp [impl_owed.l1] at h⟩
 | k + 1 => by
  obtain ⟨ih0, ih1⟩ := impl_owed.mono_l k
  refine ⟨?_, ?_⟩
  ·intro y0 y1 y2 y3
   unfold impl_owed.l0
   exact impl_owed.mq
  ·intro y0 y1 y2 y3 y4 y5 y6
   unfold impl_owed.l1
   exact impl_owed.mq
theorem impl_owed.mono : ∀ a0 a1 k, LeO (impl_owed.f k a0 a1) (impl_owed.f (k + 1) a0 a1) := by
 intro a0 a1 k
 obtain ⟨ih0, ih1⟩ := impl_owed.mono_l k
 unfold impl_owed.f
 exact impl_owed.mq
theorem ox {p : Prop} (h : p := by repeat (first | (with_reducible first | exact HB.out | apply below_alloc | apply pw_below_drewN | apply below_drew1 | refine below_set ?_ cn6.out) | exact HB.out)) : p := h
set_option maxHeartbeats 8000000 in
set_option maxRecDepth 100000 in
theorem impl_owed.calls (k : Nat) (ae : Option Addr) (ac : Nat) (ab : List Int) (ag : Option Addr) (af : Nat) (aa : List (List Int)) (r : List Int) (w : World) (bo : Kd.C (Kd.int .i64) w ae ab.length ab) (bs : ab.length ≤ ac) (bp : Kd.C (Kd.slice 3 (Kd.int .i64)) w ag aa.length aa) (bt : aa.length ≤ af) (h : impl_owed.f k ab aa = some r) :
  Calls Try.prog 112 #[.agg #[.slice ae ab.length ac, .slice ag aa.length af]] w fun e w' => ∃ v0_ : Value, e = .returned (v0_) ∧ Kd.R (Kd.int .i64) 3 w' w.heap.size (fun _ => True) v0_ r ∧ Below w.heap.size w w' := by
 have hu25 := Try.underlying25
 have bg := Aside0.mk bo
 have bx := Aside0.mk bs
 clear bo bs
 have bb := Aside0.mk bp
 have b2 := Aside0.mk bt
 clear bp bt
 have HB := Aside0.mk (Below.refl w.heap.size w)
 have H : (if 0 ≤ (ab.length : Int) then (if ((ab.length : Int) : Int).toNat ≤ 35184372088832 then (impl_owed.l0 k (List.replicate ((ab.length : Int) : Int).toNat 0) aa (aa.length : Int) 0) else (none)) else (none)) = some r := h
 clear h
 obtain ⟨c2, H⟩ := pos_ H
 have jx := eq_true c2
 have nw := decide_eq_true c2
 clear c2
 obtain ⟨c3, H⟩ := pos_ H
 have d8 := eq_true c3
 have go := decide_eq_true c3
 clear c3
 obtain ⟨bp0, hy150⟩ : ∃ y_ : List Int, y_ = (List.replicate ((ab.length : Int) : Int).toNat 0) := ⟨_, rfl⟩
 replace H : (impl_owed.l0 k bp0 aa (aa.length : Int) 0) = some r := by first | (rw [hy150]; with_reducible exact H) | (have H2_ := (Option.bind_some _ _).symm.trans H; rw [hy150]; with_reducible exact H2_) | (have H2_ := (Option.bind_some _ _).symm.trans H; with_reducible exact H2_) | with_reducible exact H | (rw [hy150]; exact H) | exact H
 have bp1 := Aside0.mk hy150
 clear hy150
 have H' := Aside0.mk H
 clear H
 go_enter Try.func112, Try.ntmps112
 go_wp2_with (first | ((with_reducible refine gate_dst (N := 1) rfl ?_); refine bx_ (N := 1) #[.slice ae ab.length ac, .slice ag aa.length af] 25 ?_; intro ya hg w4 hbox hb; have kv := Aside0.mk (hbox); have ds6 := Aside0.mk ((by rw [hg]; exact (below_size (ox)) : w.heap.size ≤ ya)); have cn6 := Aside0.mk ((by rw [hg]; exact (below_size (ox)) : w.heap.size ≤ ya)); replace HB := Aside0.mk (below_step (ox) hb); clear hb hbox hg; obtain ⟨r8, r9, sa, sb⟩ := blk2_ kv) | ((with_reducible refine gate_dst (N := 11) rfl ?_); refine Kd.R_make (Kd.int .i64) _ 3 rfl (N := 11) rfl 22 _ _ rfl (ab.length : Int) rfl rfl Try.underlying22 (.int .i64 0) 8 info3 rfl (by decide) (by omega) 0 (ok := fun _ => True) (okp := fun _ => True) rfl (fun _ hk => hk) trivial (of_decide_eq_true (g0_)) (Nat.le_trans (Nat.mul_le_mul_right _ (of_decide_eq_true (g0_) : (ab.length : Int).toNat ≤ 35184372088832)) (by omega)) (Below.refl _ _) (Nat.le_refl _) ?_; intro bp2 w6 ml hb hg_ hnew_; clear hg_ hnew_; (first | rw [← bp1.out] at ml | (simp only [Int.reduceToNat] at ml; rw [← bp1.out] at ml)); have cn7 := Aside0.mk (Kd.R_lower ml (below_size (ox))); replace kv := bb_ kv hb; replace HB := Aside0.mk (below_step (ox) hb); clear hb ml; obtain ⟨js, jt, ju, jv⟩ := blk2_ kv))
 go_loopg [15] k (fun kq xo w' => ∃ (cn : List Int) (a7 : Int), xo = .int .i64 a7 ∧ Aside0 (impl_owed.l0 kq cn aa (aa.length : Int) a7 = some r) ∧ Aside0 (kq ≤ k) ∧ Aside0 (Kd.R (Kd.int .i64) 3 w' w.heap.size (fun _ => True) bp2 cn) ∧ Aside0 (w'.heap[ya]? = some (.cells #[(.slice ae ab.length ac), (.slice ag aa.length af)] 25 (0, 0))) ∧ Aside0 (Below w.heap.size w w'))
 case atStart => exact ⟨(bp0), (0), (g2_), H', ⟨Nat.le_refl _⟩, ⟨uf1_ cn7⟩, ⟨uf0_ kv⟩, ⟨ox⟩⟩
 case round =>
  clear H'
  try clear c1
  try clear c2
  try clear jx
  try clear nw
  try clear p2
  try clear c3
  try clear d8
  try clear go
  try clear r8
  try clear r9
  try clear js
  try clear jt
  try clear sa
  try clear sb
  try clear ju
  try clear jv
  obtain ⟨cn, a7, rfl, HA, HK1, ah, kv, HB⟩ := hrel
  cases gk with
  | zero => exact absurd HA.out (by simp [impl_owed.l0])
  | succ k1 =>
   have H := HA.out
   clear HA
   simp only [impl_owed.l0] at H
   by_cases c9 : a7 < (aa.length : Int)
   ·rw [if_pos c9] at H
    have mm := decide_eq_true c9
    clear c9
    obtain ⟨b9, H⟩ := pos_ H
    have fy := decide_eq_true b9
    clear b9
    obtain ⟨da, H⟩ := pos_ H
    have jc := decide_eq_true da
    clear da
    have H' := Aside0.mk H
    clear H
    have ai1 : 0 ≤ (a7 : Int) := of_decide_eq_true (g0_)
    have ai2 : a7 < (aa.length : Int) := of_decide_eq_true (g0_)
    obtain ⟨bp3, ds7, ds8, cn8, av6, bp4, bp5⟩ := at_L1 bb.out a7 ai1 ai2
    cases cn8
    replace av6 := cl_ HB av6
    have cn9 := Aside0.mk bp5
    have ds9 := Aside0.mk bp4
    clear bp5 bp4
    replace ai1 := eq_true ai1
    replace ai2 := eq_true ai2
    go_wp2
    go_loopg [21] k1 (fun kq v21 w' => ∃ (ap : List Int) (fl : Int), v21 = .int .i64 fl ∧ Aside0 (impl_owed.l1 kq ap aa (aa.length : Int) a7 (rd_L1 aa a7) ((rd_L1 aa a7).length : Int) fl = some r) ∧ Aside0 (kq ≤ k1) ∧ Aside0 (Kd.R (Kd.int .i64) 3 w' w.heap.size (fun _ => True) bp2 ap) ∧ Aside0 (w'.heap[ya]? = some (.cells #[(.slice ae ab.length ac), (.slice (some bp3) aa.length af)] 25 (0, 0))) ∧ Aside0 (Below w.heap.size w w'))
    case atStart => exact ⟨(cn), (0), (g2_), H', ⟨Nat.le_refl _⟩, ⟨uf1_ ah⟩, ⟨uf0_ kv⟩, ⟨ox⟩⟩
    case round =>
     clear H'
     try clear c1
     try clear p1
     try clear q1
     try clear mc
     try clear c2
     try clear jx
     try clear nw
     try clear p2
     try clear c3
     try clear d8
     try clear go
     try clear c9
     try clear mm
     try clear b9
     try clear fy
     try clear da
     try clear jc
     try clear r8
     try clear r9
     try clear js
     try clear jt
     try clear sa
     try clear sb
     try clear ju
     try clear jv
     try clear av6
     try clear ai1
     try clear p2
     try clear ai2
     obtain ⟨ap, fl, rfl, HA, HK2, ah, kv, HB⟩ := hrel
     cases gk with
     | zero => exact absurd HA.out (by simp [impl_owed.l1])
     | succ k2 =>
      have H := HA.out
      clear HA
      simp only [impl_owed.l1] at H
      by_cases cu : fl < ((rd_L1 aa a7).length : Int)
      ·rw [if_pos cu] at H
       have iu := decide_eq_true cu
       clear cu
       obtain ⟨eh, H⟩ := pos_ H
       have o5 := decide_eq_true eh
       clear eh
       obtain ⟨ez, H⟩ := pos_ H
       have mg := decide_eq_true ez
       clear ez
       obtain ⟨bq, H⟩ := pos_ H
       have fz := decide_eq_true bq
       clear bq
       obtain ⟨av7, hy156⟩ : ∃ y_ : List Int, y_ = (ap.set (fl : Int).toNat (wrap64 ((rd ap fl) + (rd (rd_L1 aa a7) fl)))) := ⟨_, rfl⟩
       replace H : (impl_owed.l1 k2 av7 aa (aa.length : Int) a7 (rd_L1 aa a7) ((rd_L1 aa a7).length : Int) (wrap64 (fl + 1))) = some r := by first | (rw [hy156]; with_reducible exact H) | (have H2_ := (Option.bind_some _ _).symm.trans H; rw [hy156]; with_reducible exact H2_) | (have H2_ := (Option.bind_some _ _).symm.trans H; with_reducible exact H2_) | with_reducible exact H | (rw [hy156]; exact H) | exact H
       have co0 := Aside0.mk hy156
       clear hy156
       have H' := Aside0.mk H
       clear H
       have av8 : 0 ≤ (fl : Int) := of_decide_eq_true (g0_)
       have av9 : fl < ((rd_L1 aa a7).length : Int) := of_decide_eq_true (g0_)
       obtain ⟨dt0, co1, bp6⟩ := Kd.at_int cn9.out fl av8 av9
       cases co1
       replace bp6 := cl_ HB bp6
       replace av8 := eq_true av8
       replace av9 := eq_true av9
       obtain ⟨cj, ca, o6⟩ := Kd.R_slice ah.out
       subst o6
       have aw0 : 0 ≤ (fl : Int) := of_decide_eq_true (g0_)
       have aw1 : fl < (ap.length : Int) := of_decide_eq_true (g0_)
       obtain ⟨dt1, co2, co3⟩ := Kd.at_int (Kd.R_reads' ah.out).2.2 fl aw0 aw1
       cases co2
       replace aw0 := eq_true aw0
       replace aw1 := eq_true aw1
       have p16 : 0 ≤ (fl : Int) := of_decide_eq_true (g0_)
       have q16 : (fl : Int) < ((ap.length : Int) : Int) := of_decide_eq_true (g0_)
       obtain ⟨aw2, iw, qn, bp7, gl16, cl16, HG16⟩ := Kd.R_form ah.out (by omega)
       (first | cases qn | (injection qn with ea_ en_ ec_; (first | subst ea_ | (injection ea_ with ea_; subst ea_)); subst ec_; clear en_))
       have GB16 := Aside0.mk bp7
       have GG16 := Aside0.mk HG16
       clear bp7 gl16 HG16
       (first | simp only [add_plain] at co3 | skip)
       obtain ⟨dt2, hf16_0⟩ := Kd.R_celln 0 ah.out (fl : Int) p16 q16
       replace p16 := eq_true p16
       replace q16 := eq_true q16
       have HP18 := Kd.R_putg ah.out (fl : Int) (wrap64 ((rd ap fl) + (rd (rd_L1 aa a7) fl)))
       go_wp2_with (first | ((with_reducible refine gate_store (t := 3) (p := 32) rfl ?_); refine store_event (t := 3) (p := 32) (v := ?vo_w19) (w1 := (wr.setCell ⟨aw2, (fl : Int).toNat, none⟩ (.int .i64 (wrap64 ((rd ap fl) + (rd (rd_L1 aa a7) fl)))))) ?hg ?ho ?hn ?hr ?_; (case ho => rfl); (case hg => rfl); (case hn => rfl); (case hr => first | (go_simp; done) | (go_simp; rfl)); intro yb hw; have hg : wr.grownBy yb (some aw2) := (by rw [hw]; exact HP18.2); have hp_ : Kd.R (Kd.int .i64) 3 yb w.heap.size (fun _ => True) (.slice (some ⟨aw2, 0, none⟩) ap.length ca) av7 := (by rw [hw, co0.out]; exact HP18.1); clear HP18; replace kv := Aside0.mk (blk_grown (g := ya) (o := .cells #[.slice ae ab.length ac, .slice (some bp3) aa.length af] 25 (0, 0)) (uf0_ kv) hg (Kd.R_ne ah.out kv.out (by decide))); replace ah := Aside0.mk (hp_); replace HB := Aside0.mk ((by rw [hw]; exact below_set (HB.out) GB16.out : Below w.heap.size w yb)); clear hg hw hp_))
       go_roundg k2
       case measure => have := HK1.out; have := HK2.out; omega
       case rel => exact ⟨(av7), (wrap64 (fl + 1)), (g2_), H', ⟨g10_⟩, ⟨uf1_ ah⟩, ⟨uf0_ kv⟩, ⟨ox⟩⟩
      ·rw [if_neg cu] at H
       have iu := decide_eq_false cu
       clear cu
       have H' := Aside0.mk H
       clear H
       go_wp2
       go_roundg k2
       case measure => have := HK1.out; have := HK2.out; omega
       case rel => exact ⟨(ap), (wrap64 (a7 + 1)), (g2_), H', ⟨g10_⟩, ⟨uf1_ ah⟩, ⟨uf0_ kv⟩, ⟨ox⟩⟩
   ·rw [if_neg c9] at H
    have mm := decide_eq_false c9
    clear c9
    obtain rfl := Option.some.inj H
    go_wp2
    go_ret
    exact ⟨_, g4_, uf1_ ah, ox⟩
def impl_nets.l0 : Nat → List Int → List Int → Int → Int → Option (List Int)
 | 0, _, _, _, _ => none
 | k + 1, x3, x9, jd, gh => if gh < jd then (if 0 ≤ gh then (if gh < (x9.length : Int) then (if gh < (x3.length : Int) then (impl_nets.l0 k (x3.set (gh : Int).toNat (wrap64 ((rd x3 gh) - (rd x9 gh)))) x9 jd (wrap64 (gh + 1))) else (none)) else (none)) else (none)) else (some x3)
def impl_nets.f (k : Nat) (ab : List Int) (aa : List (List Int)) : Option (List Int) := (impl_owed.f k ab aa).bind fun va => ((impl_owes.f k ab aa).bind fun gi => (impl_nets.l0 k va gi (gi.length : Int) 0))
theorem impl_nets.mq {p : Prop} (h : p := by
 repeat' first
 | (with_reducible exact ih0 _ _ _ _)
 | (with_reducible exact impl_owed.mono _ _ _)
 | (with_reducible exact impl_owes.mono _ _ _)
 | (with_reducible exact LeO.refl _)
 | (with_reducible exact LeO.none _)
 | (with_reducible refine LeO.ite ?_ ?_)
 | (with_reducible refine LeO.bind ?_ (fun _ => ?_))
 | exact ih0 _ _ _ _
 | exact impl_owed.mono _ _ _
 | exact impl_owes.mono _ _ _
 | exact LeO.none _
 | refine LeO.ite ?_ ?_
 | refine LeO.bind ?_ (fun _ => ?_)) : p := h
theorem impl_nets.mono_l : ∀ k, (∀ y0 y1 y2 y3, LeO (impl_nets.l0 k y0 y1 y2 y3) (impl_nets.l0 (k + 1) y0 y1 y2 y3))
 | 0 => fun _ _ _ _ r h => by simp [impl_nets.l0] at h
 | k + 1 => by
  have ih0 := impl_nets.mono_l k
  ·intro y0 y1 y2 y3
   unfold impl_nets.l0
   exact impl_nets.mq
theorem impl_nets.mono : ∀ a0 a1 k, LeO (impl_nets.f k a0 a1) (impl_nets.f (k + 1) a0 a1) := by
 intro a0 a1 k
 have ih0 := impl_nets.mono_l k
 unfold impl_nets.f
 exact impl_nets.mq
theorem oy {p : Prop} (h : p := by repeat (first | (with_reducible first | exact HB.out | apply below_alloc | apply pw_below_drewN | apply below_drew1 | refine below_set ?_ co4.out) | exact HB.out)) : p := h
set_option maxHeartbeats 8000000 in
set_option maxRecDepth 100000 in
theorem impl_nets.calls (k : Nat) (ae : Option Addr) (ac : Nat) (ab : List Int) (ag : Option Addr) (af : Nat) (aa : List (List Int)) (r : List Int) (w : World) (bo : Kd.C (Kd.int .i64) w ae ab.length ab) (bs : ab.length ≤ ac) (bp : Kd.C (Kd.slice 3 (Kd.int .i64)) w ag aa.length aa) (bt : aa.length ≤ af) (h : impl_nets.f k ab aa = some r) :
  Calls Try.prog 94 #[.agg #[.slice ae ab.length ac, .slice ag aa.length af]] w fun e w' => ∃ v0_ : Value, e = .returned (v0_) ∧ Kd.R (Kd.int .i64) 3 w' w.heap.size (fun _ => True) v0_ r ∧ Below w.heap.size w w' := by
 have hu25 := Try.underlying25
 have bg := Aside0.mk bo
 have bx := Aside0.mk bs
 clear bo bs
 have bb := Aside0.mk bp
 have b2 := Aside0.mk bt
 clear bp bt
 have HB := Aside0.mk (Below.refl w.heap.size w)
 have H : ((impl_owed.f k ab aa).bind fun va => ((impl_owes.f k ab aa).bind fun gi => (impl_nets.l0 k va gi (gi.length : Int) 0))) = some r := h
 clear h
 obtain ⟨va, A2, H⟩ := bind_ H
 obtain ⟨gi, A3, H⟩ := bind_ H
 have H' := Aside0.mk H
 clear H
 go_enter Try.func94, Try.ntmps94
 go_wp2_with (first | ((with_reducible refine gate_dst (N := 1) rfl ?_); refine bx_ (N := 1) #[.slice ae ab.length ac, .slice ag aa.length af] 25 ?_; intro ai3 hg w4 hbox hb; have lo := Aside0.mk (hbox); have dt3 := Aside0.mk ((by rw [hg]; exact (below_size (oy)) : w.heap.size ≤ ai3)); have co4 := Aside0.mk ((by rw [hg]; exact (below_size (oy)) : w.heap.size ≤ ai3)); replace HB := Aside0.mk (below_step (oy) hb); clear hb hbox hg; obtain ⟨r8, r9, sa, sb⟩ := blk2_ lo) | ((with_reducible refine gate_callee (f := 112) rfl ?_); refine goesL_ (some 7) rfl rfl Try.func112 k_ rfl #[.agg #[.slice ae ab.length ac, .slice ag aa.length af]] rfl (g3_) ?_; (with_reducible refine (impl_owed.calls k _ _ ab _ _ aa va _ ?side1 ?side2 ?side3 ?side4 A2.out).mono ?_); (case side1 => exact uf2_ bg); (case side2 => exact bx.out); (case side3 => exact uf2_ bb); (case side4 => exact b2.out); rintro e w6 ⟨bp8, rfl, aj, hb⟩; refine ⟨_, rfl, ?_⟩; have ai4 := Aside0.mk (Kd.R_lower aj (below_size (oy))); replace lo := bb_ lo hb; replace HB := Aside0.mk (below_step (oy) hb); (try clear hb); (try clear hk hi); (try clear aj); obtain ⟨i8, i9, ja, jb⟩ := blk2_ lo) | ((with_reducible refine gate_callee (f := 74) rfl ?_); refine goesL_ (some 9) rfl rfl Try.func74 k_ rfl #[.agg #[.slice ae ab.length ac, .slice ag aa.length af]] rfl (g3_) ?_; (with_reducible refine (impl_owes.calls k _ _ ab _ _ aa gi _ ?side1 ?side2 ?side3 ?side4 A3.out).mono ?_); (case side1 => exact uf2_ bg); (case side2 => exact bx.out); (case side3 => exact uf2_ bb); (case side4 => exact b2.out); rintro e w8 ⟨dt4, rfl, aj, hb⟩; refine ⟨_, rfl, ?_⟩; have bp9 := Aside0.mk (Kd.R_lower (Kd.R_new' aj (Kd.R_lt (uf1_ ai4))) (below_size (oy))); replace ai4 := Aside0.mk (Kd.R_elder' (uf1_ ai4) (Kd.R_base aj) hb); replace lo := bb_ lo hb; replace HB := Aside0.mk (below_step (oy) hb); (try clear hb); (try clear hk hi); (try clear aj); obtain ⟨cb, b6, eo9⟩ := Kd.R_slice bp9.out; subst eo9))
 go_loopg [11] k (fun kq yc w' => ∃ (cn : List Int) (b8 : Int), yc = .int .i64 b8 ∧ Aside0 (impl_nets.l0 kq cn gi (gi.length : Int) b8 = some r) ∧ Aside0 (kq ≤ k) ∧ Aside0 (Kd.R (Kd.int .i64) 3 w' w.heap.size (fun k_ => some k_ ≠ ((.slice cb gi.length b6) : Value).ownBlock) bp8 cn) ∧ Aside0 (Kd.R (Kd.int .i64) 3 w' w.heap.size (fun k_ => some k_ ≠ (bp8 : Value).ownBlock) (.slice cb gi.length b6) gi) ∧ Aside0 (w'.heap[ai3]? = some (.cells #[(.slice ae ab.length ac), (.slice ag aa.length af)] 25 (0, 0))) ∧ Aside0 (Below w.heap.size w w'))
 case atStart => exact ⟨(va), (0), (g2_), H', ⟨Nat.le_refl _⟩, ⟨by (with_reducible repeat (first | apply Kd.R_alloc | apply Kd.R_drewN | apply Kd.R_drew)); exact Kd.R_mono ai4.out (fun _ hk => hk.2)⟩, ⟨by (with_reducible repeat (first | apply Kd.R_alloc | apply Kd.R_drewN | apply Kd.R_drew)); exact Kd.R_mono bp9.out (fun _ hk => hk.2)⟩, ⟨uf0_ lo⟩, ⟨oy⟩⟩
 case round =>
  clear H'
  try clear c1
  try clear p2
  try clear c7
  try clear c9
  try clear r8
  try clear r9
  try clear i8
  try clear i9
  try clear sa
  try clear sb
  try clear ja
  try clear jb
  obtain ⟨cn, b8, rfl, HA, HK1, ah, dw, lo, HB⟩ := hrel
  cases gk with
  | zero => exact absurd HA.out (by simp [impl_nets.l0])
  | succ k1 =>
   have H := HA.out
   clear HA
   simp only [impl_nets.l0] at H
   by_cases b9 : b8 < (gi.length : Int)
   ·rw [if_pos b9] at H
    have fy := decide_eq_true b9
    clear b9
    obtain ⟨da, H⟩ := pos_ H
    have jc := decide_eq_true da
    clear da
    obtain ⟨cu, H⟩ := pos_ H
    have iu := decide_eq_true cu
    clear cu
    obtain ⟨eh, H⟩ := pos_ H
    have o5 := decide_eq_true eh
    clear eh
    obtain ⟨aw3, hy166⟩ : ∃ y_ : List Int, y_ = (cn.set (b8 : Int).toNat (wrap64 ((rd cn b8) - (rd gi b8)))) := ⟨_, rfl⟩
    replace H : (impl_nets.l0 k1 aw3 gi (gi.length : Int) (wrap64 (b8 + 1))) = some r := by first | (rw [hy166]; with_reducible exact H) | (have H2_ := (Option.bind_some _ _).symm.trans H; rw [hy166]; with_reducible exact H2_) | (have H2_ := (Option.bind_some _ _).symm.trans H; with_reducible exact H2_) | with_reducible exact H | (rw [hy166]; exact H) | exact H
    have co5 := Aside0.mk hy166
    clear hy166
    have H' := Aside0.mk H
    clear H
    have aw4 : 0 ≤ (b8 : Int) := of_decide_eq_true (g0_)
    have aw5 : b8 < (gi.length : Int) := of_decide_eq_true (g0_)
    obtain ⟨co6, co7, dt5⟩ := Kd.at_int (Kd.R_reads' dw.out).2.2 b8 aw4 aw5
    cases co7
    replace aw4 := eq_true aw4
    replace aw5 := eq_true aw5
    obtain ⟨gz, f7, aw6⟩ := Kd.R_slice ah.out
    subst aw6
    have aw7 : 0 ≤ (b8 : Int) := of_decide_eq_true (g0_)
    have aw8 : b8 < (cn.length : Int) := of_decide_eq_true (g0_)
    obtain ⟨dt6, co8, cp0⟩ := Kd.at_int (Kd.R_reads' ah.out).2.2 b8 aw7 aw8
    cases co8
    replace aw7 := eq_true aw7
    replace aw8 := eq_true aw8
    have p14 : 0 ≤ (b8 : Int) := of_decide_eq_true (g0_)
    have q14 : (b8 : Int) < ((cn.length : Int) : Int) := of_decide_eq_true (g0_)
    obtain ⟨yd, be, ny, bq0, gl14, cl14, HG14⟩ := Kd.R_form ah.out (by omega)
    (first | cases ny | (injection ny with ea_ en_ ec_; (first | subst ea_ | (injection ea_ with ea_; subst ea_)); subst ec_; clear en_))
    have GB14 := Aside0.mk bq0
    have GG14 := Aside0.mk HG14
    clear bq0 gl14 HG14
    (first | simp only [add_plain] at cp0 | skip)
    obtain ⟨dt7, hf14_0⟩ := Kd.R_celln 0 ah.out (b8 : Int) p14 q14
    replace p14 := eq_true p14
    replace q14 := eq_true q14
    have HP16 := Kd.R_putg ah.out (b8 : Int) (wrap64 ((rd cn b8) - (rd gi b8)))
    go_wp2_with (first | ((with_reducible refine gate_store (t := 3) (p := 22) rfl ?_); refine store_event (t := 3) (p := 22) (v := ?vo_w17) (w1 := (wr.setCell ⟨yd, (b8 : Int).toNat, none⟩ (.int .i64 (wrap64 ((rd cn b8) - (rd gi b8)))))) ?hg ?ho ?hn ?hr ?_; (case ho => rfl); (case hg => rfl); (case hn => rfl); (case hr => first | (go_simp; done) | (go_simp; rfl)); intro pa hw; have hg : wr.grownBy pa (some yd) := (by rw [hw]; exact HP16.2); have hp_ : Kd.R (Kd.int .i64) 3 pa w.heap.size (fun k_ => some k_ ≠ (.slice (some co6) gi.length b6 : Value).ownBlock) (.slice (some ⟨yd, 0, none⟩) cn.length f7) aw3 := (by rw [hw, co5.out]; exact HP16.1); clear HP16; replace dw := Aside0.mk (Kd.R_after (v := (.slice (some ⟨yd, 0, none⟩) cn.length f7)) (v1 := (.slice (some ⟨yd, 0, none⟩) cn.length f7)) (ok := (fun _ => True)) (by (with_reducible repeat (first | apply Kd.R_alloc | apply Kd.R_drewN | apply Kd.R_drew)); exact Kd.R_mono dw.out (fun _ hk => ⟨trivial, hk⟩)) hg (.inl rfl)); replace lo := Aside0.mk (blk_grown (g := ai3) (o := .cells #[.slice ae ab.length ac, .slice ag aa.length af] 25 (0, 0)) (uf0_ lo) hg (Kd.R_ne ah.out lo.out (by decide))); replace ah := Aside0.mk (hp_); replace HB := Aside0.mk ((by rw [hw]; exact below_set (HB.out) GB14.out : Below w.heap.size w pa)); clear hg hw hp_))
    go_roundg k1
    case measure => have := HK1.out; omega
    case rel => exact ⟨(aw3), (wrap64 (b8 + 1)), (g2_), H', ⟨g8_⟩, ⟨uf1_ ah⟩, ⟨by (with_reducible repeat (first | apply Kd.R_alloc | apply Kd.R_drewN | apply Kd.R_drew)); exact Kd.R_mono dw.out (fun _ hk => hk.2)⟩, ⟨uf0_ lo⟩, ⟨oy⟩⟩
   ·rw [if_neg b9] at H
    have fy := decide_eq_false b9
    clear b9
    obtain rfl := Option.some.inj H
    go_wp2
    go_ret
    exact ⟨_, g4_, by (with_reducible repeat (first | apply Kd.R_alloc | apply Kd.R_drewN | apply Kd.R_drew)); exact Kd.R_mono ah.out (fun _ hk => trivial), oy⟩
def impl_NetsOf.f (k : Nat) (ab : List Int) (aa : List (List Int)) : Option (List Int) := (impl_isBook.f k ab aa).bind fun ye => (if ye = true then ((impl_nets.f k ab aa).bind fun yf => (some yf)) else (some ([] : List Int)))
theorem impl_NetsOf.mq {p : Prop} (h : p := by
 repeat' first
 | (with_reducible exact impl_isBook.mono _ _ _)
 | (with_reducible exact impl_nets.mono _ _ _)
 | (with_reducible exact LeO.refl _)
 | (with_reducible exact LeO.none _)
 | (with_reducible refine LeO.ite ?_ ?_)
 | (with_reducible refine LeO.bind ?_ (fun _ => ?_))
 | exact impl_isBook.mono _ _ _
 | exact impl_nets.mono _ _ _
 | exact LeO.none _
 | refine LeO.ite ?_ ?_
 | refine LeO.bind ?_ (fun _ => ?_)) : p := h
theorem impl_NetsOf.mono : ∀ a0 a1 k, LeO (impl_NetsOf.f k a0 a1) (impl_NetsOf.f (k + 1) a0 a1) := by
 intro a0 a1 k
 unfold impl_NetsOf.f
 exact impl_NetsOf.mq
theorem qf {p : Prop} (h : p := by repeat (first | (with_reducible first | exact HB.out | apply below_alloc | apply pw_below_drewN | apply below_drew1 | refine below_set ?_ bq1.out) | exact HB.out)) : p := h
set_option maxHeartbeats 8000000 in
set_option maxRecDepth 100000 in
theorem impl_NetsOf.calls (k : Nat) (ae : Option Addr) (ac : Nat) (ab : List Int) (ag : Option Addr) (af : Nat) (aa : List (List Int)) (r : List Int) (w : World) (bo : Kd.C (Kd.int .i64) w ae ab.length ab) (bs : ab.length ≤ ac) (bp : Kd.C (Kd.slice 3 (Kd.int .i64)) w ag aa.length aa) (bt : aa.length ≤ af) (h : impl_NetsOf.f k ab aa = some r) :
  Calls Try.prog 46 #[.agg #[.slice ae ab.length ac, .slice ag aa.length af]] w fun e w' => ∃ v0_ : Value, e = .returned (v0_) ∧ Kd.R (Kd.int .i64) 3 w' w.heap.size (fun _ => True) v0_ r ∧ Below w.heap.size w w' := by
 have hu25 := Try.underlying25
 have bg := Aside0.mk bo
 have bx := Aside0.mk bs
 clear bo bs
 have bb := Aside0.mk bp
 have b2 := Aside0.mk bt
 clear bp bt
 have HB := Aside0.mk (Below.refl w.heap.size w)
 have H : ((impl_isBook.f k ab aa).bind fun ye => (if ye = true then ((impl_nets.f k ab aa).bind fun yf => (some yf)) else (some ([] : List Int)))) = some r := h
 clear h
 obtain ⟨ye, A2, H⟩ := bind_ H
 by_cases c3 : ye = true
 ·subst c3
  replace H := ifp_ H
  obtain ⟨yf, A4, H⟩ := bind_ H
  obtain rfl := Option.some.inj H
  go_enter Try.func46, Try.ntmps46
  go_wp2_with (first | ((with_reducible refine gate_dst (N := 1) rfl ?_); refine bx_ (N := 1) #[.slice ae ab.length ac, .slice ag aa.length af] 25 ?_; intro yg hg w5 hbox hb; have nz := Aside0.mk (hbox); have cp1 := Aside0.mk ((g31_ : w.heap.size ≤ yg)); have bq1 := Aside0.mk ((g31_ : w.heap.size ≤ yg)); replace HB := Aside0.mk (below_step (qf) hb); clear hb hbox hg; obtain ⟨qj, qk, uy, ql⟩ := blk2_ nz) | ((with_reducible refine gate_callee (f := 73) rfl ?_); refine goesL_ (some 4) rfl rfl Try.func73 k_ rfl #[.agg #[.slice ae ab.length ac, .slice ag aa.length af]] rfl (g3_) ?_; (with_reducible refine (impl_isBook.calls k _ _ ab _ _ aa true _ ?side1 ?side2 ?side3 ?side4 A2.out).mono ?_); (case side1 => exact uf2_ bg); (case side2 => exact bx.out); (case side3 => exact uf2_ bb); (case side4 => exact b2.out); rintro e w7 ⟨rfl, hb⟩; refine ⟨_, rfl, ?_⟩; replace nz := bb_ nz hb; replace HB := Aside0.mk (below_step (qf) hb); (try clear hb); (try clear hk hi); obtain ⟨js, jt, ju, jv⟩ := blk2_ nz) | ((with_reducible refine gate_callee (f := 94) rfl ?_); refine goesL_ (some 7) rfl rfl Try.func94 k_ rfl #[.agg #[.slice ae ab.length ac, .slice ag aa.length af]] rfl (g3_) ?_; (with_reducible refine (impl_nets.calls k _ _ ab _ _ aa yf _ ?side1 ?side2 ?side3 ?side4 A4.out).mono ?_); (case side1 => exact uf2_ bg); (case side2 => exact bx.out); (case side3 => exact uf2_ bb); (case side4 => exact b2.out); rintro e w9 ⟨dt8, rfl, aj, hb⟩; refine ⟨_, rfl, ?_⟩; have cp2 := Aside0.mk (Kd.R_lower aj (below_size (qf))); replace nz := bb_ nz hb; replace HB := Aside0.mk (below_step (qf) hb); (try clear hb); (try clear hk hi); (try clear aj)))
  go_ret
  exact ⟨_, g4_, uf1_ cp2, qf⟩
 ·replace c3 := Bool.eq_false_iff.mpr c3
  subst c3
  replace H := ifn_ H
  obtain rfl := Option.some.inj H
  go_enter Try.func46, Try.ntmps46
  go_wp2_with (first | ((with_reducible refine gate_dst (N := 1) rfl ?_); refine bx_ (N := 1) #[.slice ae ab.length ac, .slice ag aa.length af] 25 ?_; intro yg hg lg hbox hb; have nz := Aside0.mk (hbox); have cp1 := Aside0.mk ((g31_ : w.heap.size ≤ yg)); have bq1 := Aside0.mk ((g31_ : w.heap.size ≤ yg)); replace HB := Aside0.mk (below_step (qf) hb); clear hb hbox hg; obtain ⟨rq, rr, rs, rt⟩ := blk2_ nz) | ((with_reducible refine gate_callee (f := 73) rfl ?_); refine goesL_ (some 4) rfl rfl Try.func73 k_ rfl #[.agg #[.slice ae ab.length ac, .slice ag aa.length af]] rfl (g3_) ?_; (with_reducible refine (impl_isBook.calls k _ _ ab _ _ aa false _ ?side1 ?side2 ?side3 ?side4 A2.out).mono ?_); (case side1 => exact uf2_ bg); (case side2 => exact bx.out); (case side3 => exact uf2_ bb); (case side4 => exact b2.out); rintro e qg ⟨rfl, hb⟩; refine ⟨_, rfl, ?_⟩; replace nz := bb_ nz hb; replace HB := Aside0.mk (below_step (qf) hb); (try clear hb); (try clear hk hi)))
  go_ret
  exact ⟨_, g4_, g17_, qf⟩
def IsS112 (w0 W : World) (g : Nat) (f0 : List Int) (f1 : Int) : Prop := ∃ A0 c0, W.heap[g]? = some (.cells #[.slice A0 f0.length c0, .int .i64 f1] 112 (0, 0)) ∧ w0.heap.size ≤ g ∧ Kd.C (Kd.int .u8) w0 A0 f0.length f0
theorem IsS112.grown {w0 W : World} {g : Nat} {f0 : List Int} {f1 : Int} {W1 : World} {row : Option Nat} (h : IsS112 w0 W g f0 f1) (hw : W.grownBy W1 row) (hne : some g ≠ row) : IsS112 w0 W1 g f0 f1 := by
 obtain ⟨A0, c0, hb, hg, br⟩ := h
 exact ⟨A0, c0, blk_grown hb hw hne, hg, br⟩
theorem IsS112.own_neN {w0 W : World} {g : Nat} {f0 : List Int} {f1 : Int} {α : Type} {d : Kd α} {e : Nat} {base : Nat} {ok : Nat → Prop} {v : Value} {xs : List α} (h : IsS112 w0 W g f0 f1) (ho : Kd.N d e W base ok v xs) (ht : e ≠ 112) : some g ≠ v.ownBlock := by
 obtain ⟨A0, c0, hb, hg, br⟩ := h
 exact Kd.N_ne ho hb ht
theorem IsS112.fresh {w0 W : World} {g : Nat} {f0 : List Int} {f1 : Int} (h : IsS112 w0 W g f0 f1) : ∀ k, W.heap.size ≤ k → k ≠ g := by
 obtain ⟨A0, c0, hb, hg, br⟩ := h
 exact Kd.freshB hb
theorem IsS112.kept {w0 W : World} {g : Nat} {f0 : List Int} {f1 : Int} {W1 : World} {S : Nat → Prop} (h : IsS112 w0 W g f0 f1) (hk : Kept W W1 S) (hne : ¬ S g) : IsS112 w0 W1 g f0 f1 := by
 obtain ⟨A0, c0, hb, hg, br⟩ := h
 exact ⟨A0, c0, blk_kept hb hk hne, hg, br⟩
theorem IsS112.below {w0 W : World} {g : Nat} {f0 : List Int} {f1 : Int} {W1 : World} (h : IsS112 w0 W g f0 f1) (hw : Below W.heap.size W W1) : IsS112 w0 W1 g f0 f1 := h.grown (grown_of_below hw none) (by simp)
theorem IsS112.alloc {w0 W : World} {g : Nat} {f0 : List Int} {f1 : Int} (h : IsS112 w0 W g f0 f1) (o : Obj) : IsS112 w0 (W.alloc o) g f0 f1 := h.below (below_alloc (Below.refl _ _) o)
theorem IsS112.drewN {w0 W : World} {g : Nat} {f0 : List Int} {f1 : Int} (h : IsS112 w0 W g f0 f1) (m : Nat) : IsS112 w0 (W.drewN m) g f0 f1 := h
theorem IsS112.drew {w0 W : World} {g : Nat} {f0 : List Int} {f1 : Int} (h : IsS112 w0 W g f0 f1) : IsS112 w0 W.drew g f0 f1 := h
theorem IsS112.at_ {w0 W : World} {g : Nat} {f0 : List Int} {f1 : Int} {w' : World} {m : Nat} (hq : W.drewN m = w') (h : IsS112 w0 W g f0 f1) : IsS112 w0 w' g f0 f1 := by subst hq; exact IsS112.drewN h m
theorem IsS112.apart {w0 W : World} {g : Nat} {f0 : List Int} {f1 : Int} {α : Type} {d : Kd α} {e : Nat} {base : Nat} {ok : Nat → Prop} {v : Value} {xs : List α} (h : IsS112 w0 W g f0 f1) (ho : d.R e W base ok v xs) (ht : ∀ q, q ∈ e :: d.E → q ≠ 112) : d.R e W base (fun k => ok k ∧ k ≠ g) v xs := by
 obtain ⟨A0, c0, hb, hg, br⟩ := h
 exact Kd.R_types ho hb ht
theorem IsS112.own_ne {w0 W : World} {g : Nat} {f0 : List Int} {f1 : Int} {α : Type} {d : Kd α} {e : Nat} {base : Nat} {ok : Nat → Prop} {v : Value} {xs : List α} (h : IsS112 w0 W g f0 f1) (ho : d.R e W base ok v xs) (ht : e ≠ 112) : some g ≠ v.ownBlock := by
 obtain ⟨A0, c0, hb, hg, br⟩ := h
 exact Kd.R_ne ho hb ht
theorem IsS112.apartQ {w0 W : World} {g : Nat} {f0 : List Int} {f1 : Int} {α : Type} {d : Kd α} {e : Nat} {base : Nat} {ok : Nat → Prop} {v : Value} {xs : List α} (h : IsS112 w0 W g f0 f1) (ho : d.Q e W base ok v xs) (ht : ∀ q, q ∈ e :: d.E → q ≠ 112) : d.Q e W base (fun k => ok k ∧ k ≠ g) v xs := by
 obtain ⟨A0, c0, hb, hg, br⟩ := h
 exact Kd.Q_types ho hb ht
theorem IsS112.own_neQ {w0 W : World} {g : Nat} {f0 : List Int} {f1 : Int} {α : Type} {d : Kd α} {e : Nat} {base : Nat} {ok : Nat → Prop} {v : Value} {xs : List α} (h : IsS112 w0 W g f0 f1) (ho : d.Q e W base ok v xs) (ht : e ≠ 112) : some g ≠ v.ownBlock := by
 obtain ⟨A0, c0, hb, hg, br⟩ := h
 exact Kd.Q_ne ho hb ht
theorem IsS112.apartS {w0 W : World} {g : Nat} {f0 : List Int} {f1 : Int} {α : Type} {d : Kd α} {e : Nat} {base : Nat} {ok : Nat → Prop} {v : Value} {xs : List α} (h : IsS112 w0 W g f0 f1) (ho : d.S e W base ok v xs) (ht : ∀ q, q ∈ e :: d.E → q ≠ 112) : d.S e W base (fun k => ok k ∧ k ≠ g) v xs := by
 obtain ⟨A0, c0, hb, hg, br⟩ := h
 exact Kd.S_types ho hb ht
theorem IsS112.own_neS {w0 W : World} {g : Nat} {f0 : List Int} {f1 : Int} {α : Type} {d : Kd α} {e : Nat} {base : Nat} {ok : Nat → Prop} {v : Value} {xs : List α} (h : IsS112 w0 W g f0 f1) (ho : d.S e W base ok v xs) (ht : e ≠ 112) : some g ≠ v.ownBlock := by
 obtain ⟨A0, c0, hb, hg, br⟩ := h
 exact Kd.S_ne ho hb ht
theorem IsS112.lt {w0 W : World} {g : Nat} {f0 : List Int} {f1 : Int} (h : IsS112 w0 W g f0 f1) : g < W.heap.size := by
 obtain ⟨A0, c0, hb, hg, br⟩ := h
 exact blk_lt hb
theorem IsS112.ge {w0 W : World} {g : Nat} {f0 : List Int} {f1 : Int} (h : IsS112 w0 W g f0 f1) : w0.heap.size ≤ g := by
 obtain ⟨A0, c0, hb, hg, br⟩ := h
 exact hg
theorem IsS112.ne_blk {w0 W : World} {g : Nat} {f0 : List Int} {f1 : Int} {a : Nat} {cs : Array Value} {t : TypeId} {fr : Nat × Nat} (h : IsS112 w0 W g f0 f1) (hb2 : W.heap[a]? = some (.cells cs t fr)) (ht : t ≠ 112) : g ≠ a := by
 obtain ⟨A0, c0, hb, hg, br⟩ := h
 rintro rfl
 rw [hb] at hb2
 injection hb2 with hb2
 injection hb2 with _ ht2
 exact ht ht2.symm
theorem IsS112.far {w0 W : World} {g : Nat} {f0 : List Int} {f1 : Int} {p : Addr} (h : IsS112 w0 W g f0 f1) (hne : g ≠ p.block) (u : Value) : IsS112 w0 (W.setCell p u) g f0 f1 := by
 obtain ⟨A0, c0, hb, hg, br⟩ := h
 exact ⟨A0, c0, blk_far hb hne u, hg, br⟩
theorem cellS112_0 {W : World} {g : Nat} {A0 : Option Addr} {c0 : Nat} {f0 : List Int} {f1 : Int} (h : W.heap[g]? = some (.cells #[.slice A0 f0.length c0, .int .i64 f1] 112 (0, 0))) : W.cell? ⟨g, 0, none⟩ = some (.slice A0 f0.length c0) := (blk_cell h 0).trans rfl
theorem cellS112_1 {W : World} {g : Nat} {A0 : Option Addr} {c0 : Nat} {f0 : List Int} {f1 : Int} (h : W.heap[g]? = some (.cells #[.slice A0 f0.length c0, .int .i64 f1] 112 (0, 0))) : W.cell? ⟨g, 1, none⟩ = some (.int .i64 f1) := (blk_cell h 1).trans rfl
theorem IsS112.set_1 {w0 W : World} {g : Nat} {f0 : List Int} {f1 : Int} (h : IsS112 w0 W g f0 f1) (x : Int) : IsS112 w0 (W.setCell ⟨g, 1, none⟩ (.int .i64 x)) g f0 x := by
 obtain ⟨A0, c0, hb, hg, br⟩ := h
 exact ⟨A0, c0, by simpa using blk_set hb 1 (.int .i64 x), hg, br⟩
theorem IsS112.new (w0 W : World) (A0 : Option Addr) (c0 : Nat) (f0 : List Int) (f1 : Int) (hB : Below w0.heap.size w0 W) (br : Kd.C (Kd.int .u8) w0 A0 f0.length f0) : IsS112 w0 (W.alloc (.cells #[.slice A0 f0.length c0, .int .i64 f1] 112)) W.heap.size f0 f1 := ⟨A0, c0, by simpa using heap_alloc_new W _, hB.size, br⟩
def spec_l20Open.f (l0 : List Int) : Option (List Int × Int) := if (l0.length : Int) > 2000 then (if 2000 ≤ (l0.length : Int) then (some (l0.take 2000, 0)) else (none)) else (some (l0, 0))
theorem as7 {p : Prop} (h : p := by repeat (first | (with_reducible first | exact HB.out | apply below_alloc | apply pw_below_drewN | apply below_drew1 | refine below_set ?_ bq2.out | refine below_set ?_ bq3.out) | exact HB.out)) : p := h
theorem bl8 {p : Prop} (h : p := by repeat (first | (with_reducible first | exact HBW.out | apply below_alloc | apply pw_below_drewN | apply below_drew1 | refine below_set ?_ cp3.out | refine below_set ?_ cp4.out) | exact HBW.out)) : p := h
set_option maxHeartbeats 8000000 in
set_option maxRecDepth 100000 in
theorem spec_l20Open.calls (A0 : Option Addr) (c0 : Nat) (l0 : List Int) (r1 : List Int) (r2 : Int) (w0 w : World) (hB : Below w0.heap.size w0 w) (br : Kd.C (Kd.int .u8) w0 A0 l0.length l0) (cx : l0.length ≤ c0) (h : spec_l20Open.f l0 = some (r1, r2)) :
  Calls Try.prog 69 #[.slice A0 l0.length c0] w fun e w' => ∃ g_ : Nat, e = .returned (.pointer (some ⟨g_, 0, none⟩)) ∧ IsS112 w0 w' g_ r1 r2 ∧ Below w0.heap.size w0 w' ∧ Below w.heap.size w w' := by
 have hu112 := Try.underlying112
 have dz := Aside0.mk br
 have kt := Aside0.mk cx
 clear br cx
 have HBW := Aside0.mk (Below.refl w.heap.size w)
 have HW0 := Aside0.mk hB.size
 have HB := Aside0.mk hB
 clear hB
 have H : (if (l0.length : Int) > 2000 then (if 2000 ≤ (l0.length : Int) then (some (l0.take 2000, 0)) else (none)) else (some (l0, 0))) = some (r1, r2) := h
 clear h
 by_cases c2 : (l0.length : Int) > 2000
 ·rw [if_pos c2] at H
  have jx := decide_eq_true c2
  have nw : decide (2000 < l0.length) = true := decide_eq_true (by omega)
  clear c2
  obtain ⟨c3, H⟩ := pos_ H
  have d8 := eq_true c3
  have go := decide_eq_true c3
  clear c3
  simp only [Option.some.injEq, Prod.mk.injEq] at H
  obtain ⟨rfl, rfl⟩ := H
  obtain ⟨i04, bq4, _, hsz4, _⟩ := info_parts info5
  obtain ⟨hcut4, hA4, hC4⟩ := print_take_of (P := Try.prog) (Value.int .u8) 0 33 5 .i64 Try.underlying33 bq4 hsz4 A0 c0 l0 2000 (by omega) (of_decide_eq_true (g0_)) kt.out
  have cp5 := Aside0.mk (Kd.C_of_reads (h1 := fun _ => rfl) (hA4 _ (Kd.reads_of_C dz.out)))
  have dt9 := Aside0.mk hC4
  clear hA4 hC4 bq4 hsz4
  go_enter Try.func69, Try.ntmps69
  go_wp2_with (first | ((with_reducible refine gate_dst (N := 10) rfl ?_); refine bx_ (N := 10) #[.slice A0 (l0.take 2000).length c0, .int .i64 0] 112 ?_; intro ai5 hg w5 hbox hb; replace HB := Aside0.mk (below_step (as7) hb); have cp6 := Aside0.mk (hbox); have cp3 := Aside0.mk ((g32_ : w.heap.size ≤ ai5)); have bq2 := Aside0.mk ((Nat.le_trans HW0.out (g32_ : w.heap.size ≤ ai5) : w0.heap.size ≤ ai5)); replace HBW := Aside0.mk (below_step HBW.out hb); clear hb hbox hg))
  go_ret
  exact ⟨_, rfl, (show IsS112 w0 _ ai5 (l0.take 2000) 0 from ⟨_, _, uf0_ cp6, bq2.out, cp5.out⟩), as7, bl8⟩
 ·rw [if_neg c2] at H
  have jx := decide_eq_false c2
  have nw : decide (2000 < l0.length) = false := decide_eq_false (by omega)
  clear c2
  simp only [Option.some.injEq, Prod.mk.injEq] at H
  obtain ⟨rfl, rfl⟩ := H
  go_enter Try.func69, Try.ntmps69
  go_wp2_with (first | ((with_reducible refine gate_dst (N := 10) rfl ?_); refine bx_ (N := 10) #[.slice A0 l0.length c0, .int .i64 0] 112 ?_; intro ai6 hg w6 hbox hb; replace HB := Aside0.mk (below_step (as7) hb); have cp7 := Aside0.mk (hbox); have cp4 := Aside0.mk ((g32_ : w.heap.size ≤ ai6)); have bq3 := Aside0.mk ((Nat.le_trans HW0.out (g32_ : w.heap.size ≤ ai6) : w0.heap.size ≤ ai6)); replace HBW := Aside0.mk (below_step HBW.out hb); clear hb hbox hg))
  go_ret
  exact ⟨_, rfl, (show IsS112 w0 _ ai6 l0 0 from ⟨_, _, uf0_ cp7, bq3.out, dz.out⟩), as7, bl8⟩
def spec_l20Rd_pick.j0 : Nat → Int → Bool → List Int → Int → Option (Int × Int)
 | 0, _, _, _, _ => none
 | k + 1, x1, x24, d0, fc => if x24 = true then (some (0, fc)) else (if (wrap64 (fc - 1)) < (d0.length : Int) then (if 0 ≤ (wrap64 (fc - 1)) then (if x1 = 0 then (none) else (some (Int.tmod (wrap64 (rd d0 (wrap64 (fc - 1)))) x1, fc))) else (none)) else (if (d0.length : Int) = 0 then (none) else (if 0 ≤ (Int.tmod (wrap64 (fc - 1)) (d0.length : Int)) then (if (Int.tmod (wrap64 (fc - 1)) (d0.length : Int)) < (d0.length : Int) then (if 0 ≤ (Int.tmod (wrap64 ((wrap64 ((wrap64 (fc - 1)) * 7)) + 3)) (d0.length : Int)) then (if (Int.tmod (wrap64 ((wrap64 ((wrap64 (fc - 1)) * 7)) + 3)) (d0.length : Int)) < (d0.length : Int) then (if x1 = 0 then (none) else (some (Int.tmod (Go.bits .xor .i64 (wrap64 ((wrap64 ((wrap64 ((wrap64 ((wrap64 (rd d0 (Int.tmod (wrap64 (fc - 1)) (d0.length : Int)))) * 131)) + (wrap64 ((wrap64 (rd d0 (Int.tmod (wrap64 ((wrap64 ((wrap64 (fc - 1)) * 7)) + 3)) (d0.length : Int)))) * 1117)))) + (wrap64 ((wrap64 (fc - 1)) * 29)))) + (wrap64 ((wrap64 (Int.tdiv (wrap64 (fc - 1)) (d0.length : Int))) * 53)))) (wrap64 (Int.tdiv (wrap64 ((wrap64 ((wrap64 ((wrap64 ((wrap64 (rd d0 (Int.tmod (wrap64 (fc - 1)) (d0.length : Int)))) * 131)) + (wrap64 ((wrap64 (rd d0 (Int.tmod (wrap64 ((wrap64 ((wrap64 (fc - 1)) * 7)) + 3)) (d0.length : Int)))) * 1117)))) + (wrap64 ((wrap64 (fc - 1)) * 29)))) + (wrap64 ((wrap64 (Int.tdiv (wrap64 (fc - 1)) (d0.length : Int))) * 53)))) 64))) x1, fc))) else (none)) else (none)) else (none)) else (none))))
def spec_l20Rd_pick.f (k : Nat) (ak : List Int) (ci : Int) (a1 : Int) : Option (Int × Int) := if a1 < 1 then (spec_l20Rd_pick.j0 k a1 true ak (wrap64 (ci + 1))) else (spec_l20Rd_pick.j0 k a1 ((ak.length : Int) == 0) ak (wrap64 (ci + 1)))
theorem spec_l20Rd_pick.mq {p : Prop} (h : p := by
 repeat' first
 | (with_reducible exact ih0 _ _ _ _)
 | (with_reducible exact LeO.refl _)
 | (with_reducible exact LeO.none _)
 | (with_reducible refine LeO.ite ?_ ?_)
 | (with_reducible refine LeO.bind ?_ (fun _ => ?_))
 | exact ih0 _ _ _ _
 | exact LeO.none _
 | refine LeO.ite ?_ ?_
 | refine LeO.bind ?_ (fun _ => ?_)) : p := h
theorem spec_l20Rd_pick.mono_l : ∀ k, (∀ y0 y1 y2 y3, LeO (spec_l20Rd_pick.j0 k y0 y1 y2 y3) (spec_l20Rd_pick.j0 (k + 1) y0 y1 y2 y3))
 | 0 => fun _ _ _ _ r h => by simp [spec_l20Rd_pick.j0] at h
 | k + 1 => by
  have ih0 := spec_l20Rd_pick.mono_l k
  ·intro y0 y1 y2 y3
   unfold spec_l20Rd_pick.j0
   exact spec_l20Rd_pick.mq
theorem spec_l20Rd_pick.mono : ∀ a0 a1 a2 k, LeO (spec_l20Rd_pick.f k a0 a1 a2) (spec_l20Rd_pick.f (k + 1) a0 a1 a2) := by
 intro a0 a1 a2 k
 have ih0 := spec_l20Rd_pick.mono_l k
 unfold spec_l20Rd_pick.f
 exact spec_l20Rd_pick.mq
theorem af1 {p : Prop} (h : p := by repeat (first | (with_reducible first | exact HI0.out | apply IsS112.alloc | apply IsS112.drewN | apply IsS112.drew | apply IsS112.set_1) | exact HI0.out)) : p := h
theorem af2 {p : Prop} (h : p := by repeat (first | (with_reducible first | exact HK.out | apply KeepBut.set_ | apply keep_drewN | apply keep_drew | apply keep_alloc) | exact HK.out)) : p := h
theorem af3 {p : Prop} (h : p := by repeat (first | (with_reducible first | exact HB.out | apply below_alloc | apply pw_below_drewN | apply below_drew1 | refine below_set ?_ (IsS112.ge HI0.out)) | exact HB.out)) : p := h
set_option maxHeartbeats 8000000 in
set_option maxRecDepth 100000 in
theorem spec_l20Rd_pick.calls (k : Nat) (g : Nat) (ak : List Int) (ci : Int) (a1 : Int) (r1 : Int) (r2 : Int) (w0 w : World) (hI : IsS112 w0 w g ak ci) (hB : Below w0.heap.size w0 w) (h : spec_l20Rd_pick.f k ak ci a1 = some (r1, r2)) :
  Calls Try.prog 70 #[.pointer (some ⟨g, 0, none⟩), .int .i64 a1] w fun e w' => e = .returned (.int .i64 r1) ∧ IsS112 w0 w' g ak r2 ∧ Below w0.heap.size w0 w' ∧ KeepBut w w' g none := by
 have HI0 := Aside0.mk hI
 have HK := Aside0.mk (KeepBut.refl w g none)
 have HL := Aside0.mk hB.size
 clear hI
 have HW0 := Aside0.mk hB.size
 have HB := Aside0.mk hB
 clear hB
 have H : (if a1 < 1 then (spec_l20Rd_pick.j0 k a1 true ak (wrap64 (ci + 1))) else (spec_l20Rd_pick.j0 k a1 ((ak.length : Int) == 0) ak (wrap64 (ci + 1)))) = some (r1, r2) := h
 clear h
 have HC3 := Aside0.mk H
 clear H
 obtain ⟨ASz4_0, cSz4_0, HGz4, hgz4, HSz4_0⟩ := HI0.out
 have o1 := cellS112_0 HGz4
 have o2 := cellS112_1 HGz4
 have o3 := blk_frozen HGz4 1
 clear HGz4 hgz4
 go_enter Try.func70, Try.ntmps70
 go_upto_region 2 with (fail)
 repeat (go_quiet (fail); go_upto_region 2 with (fail))
 go_cut [24] (fun v24 wc => ∃ (kq : Nat) (ai7 : Bool), v24 = .bool ai7 ∧ Aside0 (spec_l20Rd_pick.j0 kq a1 ai7 ak (wrap64 (ci + 1)) = some (r1, r2)) ∧ Aside0 (kq ≤ k) ∧ Aside0 (IsS112 w0 wc g ak (wrap64 (ci + 1))) ∧ Aside0 (KeepBut w wc g none) ∧ Aside0 (Below w0.heap.size w0 wc))
 case first =>
  have H := HC3.out
  clear HC3
  by_cases c5 : a1 < 1
  ·rw [if_pos c5] at H
   have dv := decide_eq_true c5
   clear c5
   (first | rw [dv] | (simp only [i64_w, i32_w]; rw [dv]) | skip)
   have H' := Aside0.mk H
   clear H
   go_wp2
   repeat (go_quiet (fail); try go_wp2)
   go_meet
   case rel => exact ⟨_, (true), (g2_), H', ⟨g9_⟩, ⟨af1⟩, ⟨af2⟩, ⟨af3⟩⟩
  ·rw [if_neg c5] at H
   have dv := decide_eq_false c5
   clear c5
   (first | rw [dv] | (simp only [i64_w, i32_w]; rw [dv]) | skip)
   have H' := Aside0.mk H
   clear H
   obtain ⟨ASz6_0, cSz6_0, HGz6, hgz6, HSz6_0⟩ := HI0.out
   have qj := cellS112_0 HGz6
   have qk := cellS112_1 HGz6
   have ql := blk_frozen HGz6 1
   clear HGz6 hgz6
   go_wp2
   repeat (go_quiet (fail); try go_wp2)
   go_meet
   case rel => exact ⟨_, (((ak.length : Int) == 0)), (g2_), H', ⟨g9_⟩, ⟨af1⟩, ⟨af2⟩, ⟨af3⟩⟩
 case rest =>
  clear HC3
  try clear p2
  try clear c5
  try clear dv
  try clear p6
  try clear o1
  try clear o2
  try clear qj
  try clear qk
  try clear o3
  try clear ql
  obtain ⟨kq, ai7, rfl, HA, HJ2, HI0, HK, HB⟩ := hcut
  cases kq with
  | zero => exact absurd HA.out (by simp [spec_l20Rd_pick.j0])
  | succ kj2 =>
   have H := HA.out
   clear HA
   simp only [spec_l20Rd_pick.j0] at H
   by_cases c7 : ai7 = true
   ·subst c7
    replace H := ifp_ H
    simp only [Option.some.injEq, Prod.mk.injEq] at H
    obtain ⟨rfl, rfl⟩ := H
    go_wp2
    repeat (go_quiet (fail); try go_wp2)
    go_ret
    exact ⟨g4_, af1, af3, af2⟩
   ·replace c7 := Bool.eq_false_iff.mpr c7
    subst c7
    replace H := ifn_ H
    by_cases c8 : (wrap64 ((wrap64 (ci + 1)) - 1)) < (ak.length : Int)
    ·rw [if_pos c8] at H
     have ai8 := decide_eq_true c8
     clear c8
     obtain ⟨ji9, hji9⟩ : ∃ j_ : Int, (wrap64 ((wrap64 (ci + 1)) - 1)) = j_ := ⟨_, rfl⟩
     replace H : (if 0 ≤ (ji9) then (if a1 = 0 then (none) else (some (Int.tmod (wrap64 (rd ak (ji9))) a1, (wrap64 (ci + 1))))) else (none)) = some (r1, r2) := by first | (rw [hji9] at H; exact H) | (simp only [hji9] at H ⊢; exact H)
     (try rw [hji9] at ai8)
     have hji9w : (IntKind.i64.wrap ((wrap64 (ci + 1)) - 1)) = ji9 := (i64_w _).trans hji9
     obtain ⟨b9, H⟩ := pos_ H
     have fy := decide_eq_true b9
     clear b9
     by_cases da : a1 = 0
     ·rw [if_pos da] at H
      exact absurd H (by simp)
     ·rw [if_neg da] at H
      have jc : (a1 == 0) = false := beq_eq_false_iff_ne.mpr da
      have du0 : (a1 != 0) = true := bne_iff_ne.mpr da
      simp only [Option.some.injEq, Prod.mk.injEq] at H
      obtain ⟨rfl, rfl⟩ := H
      obtain ⟨ASz12_0, cSz12_0, HGz12, hgz12, HSz12_0⟩ := HI0.out
      have bq5 := cellS112_0 HGz12
      have bq6 := cellS112_1 HGz12
      have bq7 := blk_frozen HGz12 1
      clear HGz12 hgz12
      have aw9 : 0 ≤ ((ji9) : Int) := of_decide_eq_true (g0_)
      have ax0 : (ji9) < (ak.length : Int) := of_decide_eq_true (g0_)
      obtain ⟨du1, cp8, bq8⟩ := Kd.at_int HSz12_0 (ji9) aw9 ax0
      cases cp8
      replace bq8 := pw_cell_below HB.out bq8
      replace aw9 := eq_true aw9
      replace ax0 := eq_true ax0
      go_wp2
      repeat (go_quiet (fail); try go_wp2)
      go_ret
      exact ⟨by first | rfl | (simp [errW_none, errW_some] <;> rfl) | (simp only [← hji9]; first | rfl | (simp [errW_none, errW_some] <;> rfl)) | (simp [*, errW_none, errW_some] <;> rfl), af1, af3, af2⟩
    ·rw [if_neg c8] at H
     have ai8 := decide_eq_false c8
     clear c8
     by_cases eh : (ak.length : Int) = 0
     ·rw [if_pos eh] at H
      exact absurd H (by simp)
     ·rw [if_neg eh] at H
      have o5 : ((ak.length : Int) == 0) = false := beq_eq_false_iff_ne.mpr eh
      have yh : ((ak.length : Int) != 0) = true := bne_iff_ne.mpr eh
      have du2 : ¬ (ak = []) := fun h_ => eh (by rw [h_]; rfl)
      obtain ⟨ji14, hji14⟩ : ∃ j_ : Int, (Int.tmod (wrap64 ((wrap64 (ci + 1)) - 1)) (ak.length : Int)) = j_ := ⟨_, rfl⟩
      replace H : (if 0 ≤ (ji14) then (if (ji14) < (ak.length : Int) then (if 0 ≤ (Int.tmod (wrap64 ((wrap64 ((wrap64 ((wrap64 (ci + 1)) - 1)) * 7)) + 3)) (ak.length : Int)) then (if (Int.tmod (wrap64 ((wrap64 ((wrap64 ((wrap64 (ci + 1)) - 1)) * 7)) + 3)) (ak.length : Int)) < (ak.length : Int) then (if a1 = 0 then (none) else (some (Int.tmod (Go.bits .xor .i64 (wrap64 ((wrap64 ((wrap64 ((wrap64 ((wrap64 (rd ak (ji14))) * 131)) + (wrap64 ((wrap64 (rd ak (Int.tmod (wrap64 ((wrap64 ((wrap64 ((wrap64 (ci + 1)) - 1)) * 7)) + 3)) (ak.length : Int)))) * 1117)))) + (wrap64 ((wrap64 ((wrap64 (ci + 1)) - 1)) * 29)))) + (wrap64 ((wrap64 (Int.tdiv (wrap64 ((wrap64 (ci + 1)) - 1)) (ak.length : Int))) * 53)))) (wrap64 (Int.tdiv (wrap64 ((wrap64 ((wrap64 ((wrap64 ((wrap64 (rd ak (ji14))) * 131)) + (wrap64 ((wrap64 (rd ak (Int.tmod (wrap64 ((wrap64 ((wrap64 ((wrap64 (ci + 1)) - 1)) * 7)) + 3)) (ak.length : Int)))) * 1117)))) + (wrap64 ((wrap64 ((wrap64 (ci + 1)) - 1)) * 29)))) + (wrap64 ((wrap64 (Int.tdiv (wrap64 ((wrap64 (ci + 1)) - 1)) (ak.length : Int))) * 53)))) 64))) a1, (wrap64 (ci + 1))))) else (none)) else (none)) else (none)) else (none)) = some (r1, r2) := by first | (rw [hji14] at H; exact H) | (simp only [hji14] at H ⊢; exact H)
      obtain ⟨bq, H⟩ := pos_ H
      have fz := decide_eq_true bq
      clear bq
      obtain ⟨dh, H⟩ := pos_ H
      have ln := decide_eq_true dh
      clear dh
      obtain ⟨ji17, hji17⟩ : ∃ j_ : Int, (Int.tmod (wrap64 ((wrap64 ((wrap64 ((wrap64 (ci + 1)) - 1)) * 7)) + 3)) (ak.length : Int)) = j_ := ⟨_, rfl⟩
      replace H : (if 0 ≤ (ji17) then (if (ji17) < (ak.length : Int) then (if a1 = 0 then (none) else (some (Int.tmod (Go.bits .xor .i64 (wrap64 ((wrap64 ((wrap64 ((wrap64 ((wrap64 (rd ak (ji14))) * 131)) + (wrap64 ((wrap64 (rd ak (ji17))) * 1117)))) + (wrap64 ((wrap64 ((wrap64 (ci + 1)) - 1)) * 29)))) + (wrap64 ((wrap64 (Int.tdiv (wrap64 ((wrap64 (ci + 1)) - 1)) (ak.length : Int))) * 53)))) (wrap64 (Int.tdiv (wrap64 ((wrap64 ((wrap64 ((wrap64 ((wrap64 (rd ak (ji14))) * 131)) + (wrap64 ((wrap64 (rd ak (ji17))) * 1117)))) + (wrap64 ((wrap64 ((wrap64 (ci + 1)) - 1)) * 29)))) + (wrap64 ((wrap64 (Int.tdiv (wrap64 ((wrap64 (ci + 1)) - 1)) (ak.length : Int))) * 53)))) 64))) a1, (wrap64 (ci + 1))))) else (none)) else (none)) = some (r1, r2) := by first | (rw [hji17] at H; exact H) | (simp only [hji17] at H ⊢; exact H)
      obtain ⟨ix, H⟩ := pos_ H
      have yi := decide_eq_true ix
      clear ix
      obtain ⟨dd, H⟩ := pos_ H
      have qh := decide_eq_true dd
      clear dd
      by_cases ed : a1 = 0
      ·rw [if_pos ed] at H
       exact absurd H (by simp)
      ·rw [if_neg ed] at H
       have r6 : (a1 == 0) = false := beq_eq_false_iff_ne.mpr ed
       have bq9 : (a1 != 0) = true := bne_iff_ne.mpr ed
       simp only [Option.some.injEq, Prod.mk.injEq] at H
       obtain ⟨rfl, rfl⟩ := H
       obtain ⟨ASz21_0, cSz21_0, HGz21, hgz21, HSz21_0⟩ := HI0.out
       have xg := cellS112_0 HGz21
       have xh := cellS112_1 HGz21
       have xi := blk_frozen HGz21 1
       clear HGz21 hgz21
       have ax1 : 0 ≤ ((ji14) : Int) := of_decide_eq_true (g0_)
       have ax2 : (ji14) < (ak.length : Int) := of_decide_eq_true (g0_)
       obtain ⟨cp9, cq0, br0⟩ := Kd.at_int HSz21_0 (ji14) ax1 ax2
       cases cq0
       replace br0 := pw_cell_below HB.out br0
       replace ax1 := eq_true ax1
       replace ax2 := eq_true ax2
       have ax3 : 0 ≤ ((ji17) : Int) := of_decide_eq_true (g0_)
       have ax4 : (ji17) < (ak.length : Int) := of_decide_eq_true (g0_)
       obtain ⟨cq1, cq2, br1⟩ := Kd.at_int HSz21_0 (ji17) ax3 ax4
       obtain rfl : cp9 = cq1 := (by injection cq2)
       replace br1 := pw_cell_below HB.out br1
       replace ax3 := eq_true ax3
       replace ax4 := eq_true ax4
       go_wp2
       repeat (go_quiet (fail); try go_wp2)
       go_ret
       exact ⟨by first | rfl | (simp [errW_none, errW_some] <;> rfl) | (simp only [← hji14, ← hji17]; first | rfl | (simp [errW_none, errW_some] <;> rfl)) | (simp [*, errW_none, errW_some] <;> rfl), af1, af3, af2⟩
def spec_l20Rd_odd.f (k : Nat) (ak : List Int) (ci : Int) (a1 : Int) : Option (Bool × Int) := if a1 > 0 then ((spec_l20Rd_pick.f k ak ci a1).bind fun bt178 => (some ((bt178.1 == (wrap64 (a1 - 1))), bt178.2))) else (some (false, ci))
theorem spec_l20Rd_odd.mq {p : Prop} (h : p := by
 repeat' first
 | (with_reducible exact spec_l20Rd_pick.mono _ _ _ _)
 | (with_reducible exact LeO.refl _)
 | (with_reducible exact LeO.none _)
 | (with_reducible refine LeO.ite ?_ ?_)
 | (with_reducible refine LeO.bind ?_ (fun _ => ?_))
 | exact spec_l20Rd_pick.mono _ _ _ _
 | exact LeO.none _
 | refine LeO.ite ?_ ?_
 | refine LeO.bind ?_ (fun _ => ?_)) : p := h
theorem spec_l20Rd_odd.mono : ∀ a0 a1 a2 k, LeO (spec_l20Rd_odd.f k a0 a1 a2) (spec_l20Rd_odd.f (k + 1) a0 a1 a2) := by
 intro a0 a1 a2 k
 unfold spec_l20Rd_odd.f
 exact spec_l20Rd_odd.mq
theorem bl9 {p : Prop} (h : p := by repeat (first | (with_reducible first | exact HI0.out | apply IsS112.alloc | apply IsS112.drewN | apply IsS112.drew | apply IsS112.set_1) | exact HI0.out)) : p := h
theorem bm0 {p : Prop} (h : p := by repeat (first | (with_reducible first | exact HB.out | apply below_alloc | apply pw_below_drewN | apply below_drew1 | refine below_set ?_ (IsS112.ge HI0.out)) | exact HB.out)) : p := h
theorem bm1 {p : Prop} (h : p := by repeat (first | (with_reducible first | exact HK.out | apply KeepBut.set_ | apply keep_drewN | apply keep_drew | apply keep_alloc) | exact HK.out)) : p := h
set_option maxHeartbeats 8000000 in
set_option maxRecDepth 100000 in
theorem spec_l20Rd_odd.calls (k : Nat) (g : Nat) (ak : List Int) (ci : Int) (a1 : Int) (r1 : Bool) (r2 : Int) (w0 w : World) (hI : IsS112 w0 w g ak ci) (hB : Below w0.heap.size w0 w) (h : spec_l20Rd_odd.f k ak ci a1 = some (r1, r2)) :
  Calls Try.prog 106 #[.pointer (some ⟨g, 0, none⟩), .int .i64 a1] w fun e w' => e = .returned (.bool r1) ∧ IsS112 w0 w' g ak r2 ∧ Below w0.heap.size w0 w' ∧ KeepBut w w' g none := by
 have HI0 := Aside0.mk hI
 have HK := Aside0.mk (KeepBut.refl w g none)
 have HL := Aside0.mk hB.size
 clear hI
 have HW0 := Aside0.mk hB.size
 have HB := Aside0.mk hB
 clear hB
 have H : (if a1 > 0 then ((spec_l20Rd_pick.f k ak ci a1).bind fun bt178 => (some ((bt178.1 == (wrap64 (a1 - 1))), bt178.2))) else (some (false, ci))) = some (r1, r2) := h
 clear h
 by_cases c3 : a1 > 0
 ·rw [if_pos c3] at H
  have d8 := decide_eq_true c3
  clear c3
  replace H := Option.bind_eq_some_iff.mp H
  obtain ⟨⟨cq3, cq4⟩, sp, H⟩ := H
  try dsimp only at H
  have A4 := Aside0.mk sp
  clear sp
  simp only [Option.some.injEq, Prod.mk.injEq] at H
  obtain ⟨rfl, rfl⟩ := H
  go_enter Try.func106, Try.ntmps106
  go_wp2_with (first | (go_at_call 70; (with_reducible refine (spec_l20Rd_pick.calls k g ak ci a1 cq3 cq4 w0 _ ?side1 ?side2 A4.out).mono ?_); (case side1 => exact bl9); (case side2 => exact bm0); rintro e w5 ⟨rfl, hi, hb, hk⟩; replace HK := Aside0.mk (KeepBut.trans (bm1) hk (.inl rfl)); replace HB := Aside0.mk (hb); replace HI0 := Aside0.mk (hi); (try clear hb); (try clear hk hi)))
  go_ret
  exact ⟨g4_, bl9, bm0, bm1⟩
 ·rw [if_neg c3] at H
  have d8 := decide_eq_false c3
  clear c3
  simp only [Option.some.injEq, Prod.mk.injEq] at H
  obtain ⟨rfl, rfl⟩ := H
  go_enter Try.func106, Try.ntmps106
  go_wp2
  go_ret
  exact ⟨g4_, bl9, bm0, bm1⟩
mutual
def spec_l20Book.l0 : Nat → Int → Int → Int → Int → List Int → Int → List Int → List (List Int) → Option (List Int × (List (List Int)) × Int)
 | 0, _, _, _, _, _, _, _, _ => none
 | k + 1, x1, x5, x7, x8, d0, fc, lp, h9 => if x8 < x5 then ((spec_l20Rd_pick.f k d0 fc 4).bind fun bt190 => ((spec_l20Rd_pick.f k d0 bt190.2 21).bind fun bt192 => ((some (([0, bt190.1, bt192.1] : List Int) : List Int)).bind fun lq => (if 0 ≤ x7 then (if x7 < (lq.length : Int) then (if lp.length < 17592186044416 then (spec_l20Book.l1 k x1 x5 x7 x8 (([] : List Int)) 0 d0 bt192.2 (lp ++ [rd lq x7]) h9) else (none)) else (none)) else (none))))) else ((spec_l20Rd_odd.f k d0 fc x1).bind fun bt220 => (if bt220.1 = true then ((spec_l20Rd_pick.f k d0 bt220.2 4).bind fun bt222 => (if bt222.1 = 0 then (some (([] : List Int), ([] : List (List Int)), bt222.2)) else (if bt222.1 = 1 then (if 0 < (lp.length : Int) then (some ((lp.set (0 : Int).toNat (-1)), h9, bt222.2)) else (none)) else (if bt222.1 = 2 then (if 0 < (h9.length : Int) then (if 0 < ((rd_L1 h9 0).length : Int) then (some (lp, (h9.set (0 : Int).toNat ((rd_L1 h9 0).set (0 : Int).toNat 1)), bt222.2)) else (none)) else (none)) else (if 0 ≤ (wrap64 (x5 - 1)) then (if (wrap64 (x5 - 1)) < (h9.length : Int) then (if 1 ≤ ((rd_L1 h9 (wrap64 (x5 - 1))).length : Int) then (some (lp, (h9.set ((wrap64 (x5 - 1)) : Int).toNat ((rd_L1 h9 (wrap64 (x5 - 1))).drop 1)), bt222.2)) else (none)) else (none)) else (none)))))) else (some (lp, h9, bt220.2))))
def spec_l20Book.l1 : Nat → Int → Int → Int → Int → List Int → Int → List Int → Int → List Int → List (List Int) → Option (List Int × (List (List Int)) × Int)
 | 0, _, _, _, _, _, _, _, _, _, _ => none
 | k + 1, x1, x5, x7, x8, x9, jd, d0, fc, lp, h9 => if jd < x5 then (if x8 = jd then (if x9.length < 17592186044416 then (spec_l20Book.l1 k x1 x5 x7 x8 (x9 ++ [0]) (wrap64 (jd + 1)) d0 fc lp h9) else (none)) else ((spec_l20Rd_pick.f k d0 fc 3).bind fun bt210 => (if bt210.1 > 0 then ((spec_l20Rd_pick.f k d0 bt210.2 10).bind fun bt212 => (if x9.length < 17592186044416 then (spec_l20Book.l1 k x1 x5 x7 x8 (x9 ++ [bt212.1]) (wrap64 (jd + 1)) d0 bt212.2 lp h9) else (none))) else (if x9.length < 17592186044416 then (spec_l20Book.l1 k x1 x5 x7 x8 (x9 ++ [0]) (wrap64 (jd + 1)) d0 bt210.2 lp h9) else (none))))) else (if h9.length < 5864062014805 then (spec_l20Book.l0 k x1 x5 x7 (wrap64 (x8 + 1)) d0 fc lp (h9 ++ [x9])) else (none))
end
def spec_l20Book.f (k : Nat) (ak : List Int) (ci : Int) (a1 : Int) : Option (List Int × (List (List Int)) × Int) := (some (([1, 2, 3, 3, 4, 4] : List Int) : List Int)).bind fun f2 => ((spec_l20Rd_pick.f k ak ci 6).bind fun bt184 => (if 0 ≤ bt184.1 then (if bt184.1 < (f2.length : Int) then ((spec_l20Rd_pick.f k ak bt184.2 3).bind fun bt188 => (spec_l20Book.l0 k a1 (rd f2 bt184.1) bt188.1 0 ak bt188.2 ([] : List Int) ([] : List (List Int)))) else (none)) else (none)))
theorem spec_l20Book.mq {p : Prop} (h : p := by
 repeat' first
 | (with_reducible exact ih0 _ _ _ _ _ _ _ _)
 | (with_reducible exact ih1 _ _ _ _ _ _ _ _ _ _)
 | (with_reducible exact spec_l20Rd_odd.mono _ _ _ _)
 | (with_reducible exact spec_l20Rd_pick.mono _ _ _ _)
 | (with_reducible exact LeO.refl _)
 | (with_reducible exact LeO.none _)
 | (with_reducible refine LeO.ite ?_ ?_)
 | (with_reducible refine LeO.bind ?_ (fun _ => ?_))
 | exact ih0 _ _ _ _ _ _ _ _
 | exact ih1 _ _ _ _ _ _ _ _ _ _
 | exact spec_l20Rd_odd.mono _ _ _ _
 | exact spec_l20Rd_pick.mono _ _ _ _
 | exact LeO.none _
 | refine LeO.ite ?_ ?_
 | refine LeO.bind ?_ (fun _ => ?_)) : p := h
theorem spec_l20Book.mono_l : ∀ k, (∀ y0 y1 y2 y3 y4 y5 y6 y7, LeO (spec_l20Book.l0 k y0 y1 y2 y3 y4 y5 y6 y7) (spec_l20Book.l0 (k + 1) y0 y1 y2 y3 y4 y5 y6 y7)) ∧ (∀ y0 y1 y2 y3 y4 y5 y6 y7 y8 y9, LeO (spec_l20Book.l1 k y0 y1 y2 y3 y4 y5 y6 y7 y8 y9) (spec_l20Book.l1 (k + 1) y0 y1 y2 y3 y4 y5 y6 y7 y8 y9))
 | 0 => ⟨fun _ _ _ _ _ _ _ _ r h => by simp [spec_l20Book.l0] at h, fun _ _ _ _ _ _ _ _ _ _ r h => by simp [spec_l20Book.l1] at h⟩
 | k + 1 => by
  obtain ⟨ih0, ih1⟩ := spec_l20Book.mono_l k
  refine ⟨?_, ?_⟩
  ·intro y0 y1 y2 y3 y4 y5 y6 y7
   unfold spec_l20Book.l0
   exact spec_l20Book.mq
  ·intro y0 y1 y2 y3 y4 y5 y6 y7 y8 y9
   unfold spec_l20Book.l1
   exact spec_l20Book.mq
theorem spec_l20Book.mono : ∀ a0 a1 a2 k, LeO (spec_l20Book.f k a0 a1 a2) (spec_l20Book.f (k + 1) a0 a1 a2) := by
 intro a0 a1 a2 k
 obtain ⟨ih0, ih1⟩ := spec_l20Book.mono_l k
 unfold spec_l20Book.f
 exact spec_l20Book.mq
def spec_l20Book.T7 : Bool × List (List Nat × List Nat) := (true, [([], []), ([0], [0]), ([], []), ([2], [2]), ([], []), ([4, 3], [4]), ([3, 5], [3, 5]), ([], []), ([6, 7], [6, 7]), ([8], [8]), ([9], [9]), ([1, 10, 5], [1, 10]), ([0, 1, 2, 3, 4, 5, 6, 7, 8, 9, 10, 11], []), ([12, 11, 11, 0, 1, 2, 3, 4, 5, 6, 7, 8, 9, 10, 11], [11, 12])])
def spec_l20Book.B7 : List Nat := [0, 1, 0, 4, 0, 28, 60, 0, 252, 508, 1020, 2047, 4095, 8191]
theorem spec_l20Book.tab7 : rtab .any (opsOf Try.f91 7) = spec_l20Book.T7 := by kernel_rfl
theorem spec_l20Book.bits7 : waitsOk spec_l20Book.T7.2 spec_l20Book.B7 = true := by kernel_rfl
def spec_l20Book.T19 : Bool × List (List Nat × List Nat) := (true, [([], []), ([0], [0]), ([], []), ([2], [2]), ([], []), ([4], [4]), ([], []), ([6], [6]), ([5, 7], [5, 7]), ([8], [8]), ([9], [9]), ([1, 3, 0, 1, 2, 3, 4, 5, 6, 7, 8, 9, 10], [1, 3]), ([11, 10, 0, 1, 2, 3, 4, 5, 6, 7, 8, 9, 10], [10, 11])])
def spec_l20Book.B19 : List Nat := [0, 1, 0, 4, 0, 16, 0, 64, 240, 496, 1008, 2047, 4095]
theorem spec_l20Book.tab19 : rtab .any (opsOf Try.f91 19) = spec_l20Book.T19 := by kernel_rfl
theorem spec_l20Book.bits19 : waitsOk spec_l20Book.T19.2 spec_l20Book.B19 = true := by kernel_rfl
theorem ba {p : Prop} (h : p := by repeat (first | (with_reducible first | exact HI0.out | apply IsS112.alloc | apply IsS112.drewN | apply IsS112.drew | apply IsS112.set_1 | refine IsS112.far ?_ vb.out _ | refine IsS112.far ?_ sr.out _ | refine IsS112.far ?_ HN0_go84.out _) | exact HI0.out)) : p := h
theorem bw {p : Prop} (h : p := by repeat (first | (with_reducible first | exact HK.out | apply KeepBut.set_ | apply keep_drewN | apply keep_drew | apply keep_alloc | refine keep_far ?_ cq5.out _ | refine keep_far ?_ cq6.out _ | refine keep_far ?_ GB84.out _) | exact HK.out)) : p := h
theorem dg {p : Prop} (h : p := by repeat (first | (with_reducible first | exact HB.out | apply below_alloc | apply pw_below_drewN | apply below_drew1 | refine below_set ?_ (IsS112.ge HI0.out) | refine below_set ?_ cq7.out | refine below_set ?_ cq8.out | refine below_set ?_ (Nat.le_trans HL.out GB84.out)) | exact HB.out)) : p := h
set_option maxHeartbeats 8000000 in
set_option maxRecDepth 100000 in
theorem spec_l20Book.calls (k : Nat) (g : Nat) (ak : List Int) (ci : Int) (a1 : Int) (r1 : List Int) (r2 : List (List Int)) (r3 : Int) (w0 w : World) (hI : IsS112 w0 w g ak ci) (hB : Below w0.heap.size w0 w) (h : spec_l20Book.f k ak ci a1 = some (r1, r2, r3)) :
  Calls Try.prog 91 #[.pointer (some ⟨g, 0, none⟩), .int .i64 a1] w fun e w' => ∃ v0_ v1_ : Value, e = .returned (.agg #[v0_, v1_]) ∧ Kd.R (Kd.int .i64) 3 w' w.heap.size (fun k_ => (w.heap.size ≤ k_)) v0_ r1 ∧ Kd.V (Kd.slice 3 (Kd.int .i64)) 22 w' w.heap.size (fun k_ => (w.heap.size ≤ k_) ∧ some k_ ≠ (v0_ : Value).ownBlock) v1_ r2 ∧ IsS112 w0 w' g ak r3 ∧ Below w0.heap.size w0 w' ∧ KeepBut w w' g none := by
 have hu25 := Try.underlying25
 have HI0 := Aside0.mk hI
 have HK := Aside0.mk (KeepBut.refl w g none)
 have HL := Aside0.mk hB.size
 clear hI
 have HW0 := Aside0.mk hB.size
 have HB := Aside0.mk hB
 clear hB
 have H : ((some (([1, 2, 3, 3, 4, 4] : List Int) : List Int)).bind fun f2 => ((spec_l20Rd_pick.f k ak ci 6).bind fun bt184 => (if 0 ≤ bt184.1 then (if bt184.1 < (f2.length : Int) then ((spec_l20Rd_pick.f k ak bt184.2 3).bind fun bt188 => (spec_l20Book.l0 k a1 (rd f2 bt184.1) bt188.1 0 ak bt188.2 ([] : List Int) ([] : List (List Int)))) else (none)) else (none)))) = some (r1, r2, r3) := h
 clear h
 obtain ⟨f2, hy181⟩ : ∃ y_ : List Int, y_ = (([1, 2, 3, 3, 4, 4] : List Int)) := ⟨_, rfl⟩
 replace H : ((spec_l20Rd_pick.f k ak ci 6).bind fun bt184 => (if 0 ≤ bt184.1 then (if bt184.1 < (f2.length : Int) then ((spec_l20Rd_pick.f k ak bt184.2 3).bind fun bt188 => (spec_l20Book.l0 k a1 (rd f2 bt184.1) bt188.1 0 ak bt188.2 ([] : List Int) ([] : List (List Int)))) else (none)) else (none))) = some (r1, r2, r3) := by first | (rw [hy181]; with_reducible exact H) | (have H2_ := (Option.bind_some _ _).symm.trans H; rw [hy181]; with_reducible exact H2_) | (have H2_ := (Option.bind_some _ _).symm.trans H; with_reducible exact H2_) | with_reducible exact H | (rw [hy181]; exact H) | exact H
 have br2 := Aside0.mk hy181
 clear hy181
 replace H := Option.bind_eq_some_iff.mp H
 obtain ⟨⟨ia, yj⟩, j3, H⟩ := H
 try dsimp only at H
 have A3 := Aside0.mk j3
 clear j3
 obtain ⟨c4, H⟩ := pos_ H
 have fw := decide_eq_true c4
 clear c4
 obtain ⟨c5, H⟩ := pos_ H
 have dv := decide_eq_true c5
 clear c5
 replace H := Option.bind_eq_some_iff.mp H
 obtain ⟨⟨f8, br3⟩, yk, H⟩ := H
 try dsimp only at H
 have A6 := Aside0.mk yk
 clear yk
 have H' := Aside0.mk H
 clear H
 go_enter Try.func91, Try.ntmps91
 go_wp2_with (first | ((with_reducible refine gate_dst (N := 4) rfl ?_); refine bx_ (N := 4) #[.slice none 0 0, .slice none 0 0] 25 ?_; intro cc hg w7 hbox hb; replace HB := Aside0.mk (below_step (dg) hb); have au := Aside0.mk (hbox); have cq5 := Aside0.mk ((g33_ : w.heap.size ≤ cc)); have cq7 := Aside0.mk ((Nat.le_trans HW0.out (g33_ : w.heap.size ≤ cc) : w0.heap.size ≤ cc)); replace HK := Aside0.mk (KeepBut.trans (bw) (KeepBut.of_below hb g none) (.inl rfl)); have vb := Aside0.mk ((by rw [hg]; exact Nat.ne_of_lt (IsS112.lt (show IsS112 w0 _ g ak ci from ba)) : g ≠ cc)); have ga := Aside0.mk ((by rw [hg]; exact Nat.ne_of_gt (IsS112.lt (show IsS112 w0 _ g ak ci from ba)) : cc ≠ g)); replace HI0 := Aside0.mk (IsS112.below (ba) hb); clear hb hbox hg) | ((with_reducible refine gate_dst (N := 12) rfl ?_); refine Kd.R_lit (Kd.int .i64) _ 3 ?hg (N := 12) ?hd (xs := ([1, 2, 3, 3, 4, 4] : List Int)) (inner := [.int .i64 1, .int .i64 2, .int .i64 3, .int .i64 3, .int .i64 4, .int .i64 4]) (ok := fun _ => True) (okp := fun _ => True) ?hr ?hp (fun _ hk => hk) trivial (Below.refl _ _) (Nat.le_refl _) (by simp) ?_; (case hd => rfl); (case hg => rfl); (case hr => first | (go_simp; done) | (go_simp; rfl)); (case hp => exact (Reps.one (show Kd.M (Kd.int .i64) _ _ _ 1 [.int .i64 1] from rfl) (Reps.one (show Kd.M (Kd.int .i64) _ _ _ 2 [.int .i64 2] from rfl) (Reps.one (show Kd.M (Kd.int .i64) _ _ _ 3 [.int .i64 3] from rfl) (Reps.one (show Kd.M (Kd.int .i64) _ _ _ 3 [.int .i64 3] from rfl) (Reps.one (show Kd.M (Kd.int .i64) _ _ _ 4 [.int .i64 4] from rfl) (Reps.one (show Kd.M (Kd.int .i64) _ _ _ 4 [.int .i64 4] from rfl) (Reps.none _ _)))))))); intro du3 w8 ib hb hg_ hnew_; clear hg_ hnew_; (first | rw [← br2.out] at ib | (simp only [Int.reduceToNat] at ib; rw [← br2.out] at ib)); have qo := Aside0.mk (Kd.R_lower (Kd.R_newM (M := fun k_ => (w.heap.size ≤ k_)) ib (keep_size (w := w) (g := g) (row := none) (bw)) (fun k_ h_ => h_)) (keep_size (w := w) (g := g) (row := none) (bw))); replace au := bb_ au hb; replace HK := Aside0.mk (KeepBut.trans (bw) (KeepBut.of_below hb g none) (.inl rfl)); replace HB := Aside0.mk (below_step (dg) hb); replace HI0 := Aside0.mk (IsS112.below (ba) hb); clear hb ib) | ((with_reducible refine gate_callee (f := 70) rfl ?_); refine goesL_ (some 14) rfl rfl Try.func70 k_ rfl #[.pointer (some ⟨g, 0, none⟩), .int .i64 6] rfl (g3_) ?_; (with_reducible refine (spec_l20Rd_pick.calls k g ak ci 6 ia yj w0 _ ?side1 ?side2 A3.out).mono ?_); (case side1 => exact ba); (case side2 => exact dg); rintro e lg ⟨rfl, hi, hb, hk⟩; refine ⟨_, rfl, ?_⟩; replace au := kb_ hk au ga; replace qo := Aside0.mk (Kd.R_mono (Kd.R_keep (IsS112.apart (show IsS112 w0 _ g ak ci from ba) (uf1_ qo) (by decide)) hk (fun _ h => h.2)) (fun _ h => h.1)); replace HK := Aside0.mk (KeepBut.trans (bw) hk (.inl rfl)); replace HB := Aside0.mk (hb); replace HI0 := Aside0.mk (hi); (try clear hb); (try clear hk hi); obtain ⟨b7, bv, yl⟩ := Kd.R_slice qo.out; subst yl; have ym : 0 ≤ (ia : Int) := of_decide_eq_true (g0_); have yn : ia < (f2.length : Int) := of_decide_eq_true (g0_); obtain ⟨du4, cq9, br4⟩ := Kd.at_int (Kd.R_reads' qo.out).2.2 ia ym yn; cases cq9; replace ym := eq_true ym; replace yn := eq_true yn) | ((with_reducible refine gate_dst (N := 6) rfl ?_); refine bx_ (N := 6) #[.slice none 0 0, .slice none 0 0] 25 ?_; intro cr hg qg hbox hb; replace qo := Aside0.mk (Kd.R_below (uf1_ qo) hb); replace HB := Aside0.mk (below_step (dg) hb); have aq := Aside0.mk (hbox); have cq6 := Aside0.mk ((g33_ : w.heap.size ≤ cr)); have cq8 := Aside0.mk ((Nat.le_trans HW0.out (g33_ : w.heap.size ≤ cr) : w0.heap.size ≤ cr)); replace HK := Aside0.mk (KeepBut.trans (bw) (KeepBut.of_below hb g none) (.inl rfl)); have lr := Aside0.mk ((by rw [hg]; exact Nat.ne_of_lt (blk_lt (g := cc) (o := .cells #[.slice none 0 0, .slice none 0 0] 25 (0, 0)) (uf0_ au)) : cc ≠ cr)); have qp := Aside0.mk ((by rw [hg]; exact Nat.ne_of_gt (blk_lt (g := cc) (o := .cells #[.slice none 0 0, .slice none 0 0] 25 (0, 0)) (uf0_ au)) : cr ≠ cc)); replace au := bb_ au hb; have sr := Aside0.mk ((by rw [hg]; exact Nat.ne_of_lt (IsS112.lt (show IsS112 w0 _ g ak yj from ba)) : g ≠ cr)); have gb := Aside0.mk ((by rw [hg]; exact Nat.ne_of_gt (IsS112.lt (show IsS112 w0 _ g ak yj from ba)) : cr ≠ g)); replace HI0 := Aside0.mk (IsS112.below (ba) hb); clear hb hbox hg; have ah9 := qp.out; have ai0 := lr.out; have du5 := gb.out; have du6 := sr.out; obtain ⟨ru, rv, rx, ry⟩ := blk2_ aq) | ((with_reducible refine gate_callee (f := 70) rfl ?_); refine goesL_ (some 19) rfl rfl Try.func70 k_ rfl #[.pointer (some ⟨g, 0, none⟩), .int .i64 3] rfl (g3_) ?_; (with_reducible refine (spec_l20Rd_pick.calls k g ak yj 3 f8 br3 w0 _ ?side1 ?side2 A6.out).mono ?_); (case side1 => exact ba); (case side2 => exact dg); rintro e qm ⟨rfl, hi, hb, hk⟩; refine ⟨_, rfl, ?_⟩; replace au := Aside0.mk (KeepBut.blk hk (g' := cc) (o := .cells #[.slice none 0 0, .slice none 0 0] 25 (0, 0)) (by (with_reducible repeat (first | refine blk_drewN ?_ _ | refine blk_drew ?_ | refine blk_alloc ?_ _)); refine blk_far ?_ lr.out _; refine blk_far ?_ lr.out _; exact uf0_ au) ga.out (by simp)); replace qo := Aside0.mk (Kd.R_mono (Kd.R_keep (IsS112.apart (show IsS112 w0 _ g ak yj from ba) (by (with_reducible repeat (first | apply Kd.R_alloc | apply Kd.R_drewN | apply Kd.R_drew)); exact (Kd.R_mono (Kd.R_far (p := ⟨cr, 1, none⟩) (Kd.R_far (p := ⟨cr, 0, none⟩) (Kd.R_types qo.out aq.out (by decide)) (fun _ hk => hk.2) (.slice none 0 0)) (fun _ hk => hk.2) (.slice none 0 0)) (fun _ h_ => h_.1))) (by decide)) hk (fun _ h => h.2)) (fun _ h => h.1)); replace aq := Aside0.mk (KeepBut.blk hk (g' := cr) (o := .cells #[.slice none 0 0, .slice none 0 0] 25 (0, 0)) (by (with_reducible repeat (first | refine blk_drewN ?_ _ | refine blk_drew ?_ | refine blk_alloc ?_ _)); refine blk_put (cs := #[.slice none 0 0, .slice none 0 0]) ?_ 1 _ rfl; refine blk_put (cs := #[.slice none 0 0, .slice none 0 0]) ?_ 0 _ rfl; exact uf0_ aq) gb.out (by simp)); replace HK := Aside0.mk (KeepBut.trans (bw) hk (.inl rfl)); replace HB := Aside0.mk (hb); replace HI0 := Aside0.mk (hi); (try clear hb); (try clear hk hi)))
 go_loopg [8] k (fun kq v8 w' => ∃ (cd : Int) (gj : Int) (di : List Int) (bc : List (List Int)) (fs : Value) (gq : Value), v8 = .int .i64 cd ∧ Aside0 (spec_l20Book.l0 kq a1 (rd f2 ia) f8 cd ak gj di bc = some (r1, r2, r3)) ∧ Aside0 (kq ≤ k) ∧ Aside0 (Kd.R (Kd.int .i64) 3 w' w.heap.size (fun k_ => (w.heap.size ≤ k_)) fs di) ∧ Aside0 (Kd.S (Kd.slice 3 (Kd.int .i64)) 22 w' w.heap.size (fun k_ => (w.heap.size ≤ k_) ∧ some k_ ≠ (fs : Value).ownBlock) gq bc) ∧ Aside0 (w'.heap[cc]? = some (.cells #[(.slice none 0 0), (.slice none 0 0)] 25 (0, 0))) ∧ Aside0 (w'.heap[cr]? = some (.cells #[fs, gq] 25 (0, 0))) ∧ Aside0 (IsS112 w0 w' g ak gj) ∧ Aside0 (KeepBut w w' g none) ∧ Aside0 (Below w0.heap.size w0 w'))
 case atStart => exact ⟨(0), (br3), (([] : List Int)), (([] : List (List Int))), (.slice none 0 0), (.slice none 0 0), (g2_), H', ⟨Nat.le_refl _⟩, ⟨g17_⟩, ⟨g13_⟩, ⟨uf0_ au⟩, ⟨uf0_ aq⟩, ⟨ba⟩, ⟨bw⟩, ⟨dg⟩⟩
 case round =>
  clear H'
  try clear c1
  try clear p1
  try clear q1
  try clear mc
  try clear p2
  try clear c4
  try clear fw
  try clear c5
  try clear dv
  try clear c7
  try clear c9
  try clear eh
  try clear ez
  try clear ru
  try clear rv
  try clear rx
  try clear ry
  try clear br4
  try clear ym
  try clear yn
  obtain ⟨cd, gj, di, bc, fs, gq, rfl, HA, HK1, a5, ay, au, aq, HI0, HK, HB⟩ := hrel
  cases gk with
  | zero => exact absurd HA.out (by simp [spec_l20Book.l0])
  | succ k1 =>
   have H := HA.out
   clear HA
   simp only [spec_l20Book.l0] at H
   by_cases dp : cd < (rd f2 ia)
   ·rw [if_pos dp] at H
    have ll := decide_eq_true dp
    clear dp
    replace H := Option.bind_eq_some_iff.mp H
    obtain ⟨⟨vc, ai9⟩, br5, H⟩ := H
    try dsimp only at H
    have A18 := Aside0.mk br5
    clear br5
    replace H := Option.bind_eq_some_iff.mp H
    obtain ⟨⟨vd, ve⟩, br6, H⟩ := H
    try dsimp only at H
    have A19 := Aside0.mk br6
    clear br6
    obtain ⟨lq, hy194⟩ : ∃ y_ : List Int, y_ = (([0, vc, vd] : List Int)) := ⟨_, rfl⟩
    replace H : (if 0 ≤ f8 then (if f8 < (lq.length : Int) then (if di.length < 17592186044416 then (spec_l20Book.l1 k1 a1 (rd f2 ia) f8 cd (([] : List Int)) 0 ak ve (di ++ [rd lq f8]) bc) else (none)) else (none)) else (none)) = some (r1, r2, r3) := by first | (rw [hy194]; with_reducible exact H) | (have H2_ := (Option.bind_some _ _).symm.trans H; rw [hy194]; with_reducible exact H2_) | (have H2_ := (Option.bind_some _ _).symm.trans H; with_reducible exact H2_) | with_reducible exact H | (rw [hy194]; exact H) | exact H
    have ax5 := Aside0.mk hy194
    clear hy194
    obtain ⟨ed, H⟩ := pos_ H
    have r6 := decide_eq_true ed
    clear ed
    obtain ⟨gr, H⟩ := pos_ H
    have ax6 := decide_eq_true gr
    clear gr
    obtain ⟨je, H⟩ := pos_ H
    have cr0 := Aside0.mk je
    clear je
    obtain ⟨dq, hy198⟩ : ∃ y_ : List Int, y_ = (di ++ [rd lq f8]) := ⟨_, rfl⟩
    replace H : (spec_l20Book.l1 k1 a1 (rd f2 ia) f8 cd (([] : List Int)) 0 ak ve dq bc) = some (r1, r2, r3) := by first | (rw [hy198]; with_reducible exact H) | (have H2_ := (Option.bind_some _ _).symm.trans H; rw [hy198]; with_reducible exact H2_) | (have H2_ := (Option.bind_some _ _).symm.trans H; with_reducible exact H2_) | with_reducible exact H | (rw [hy198]; exact H) | exact H
    have cr1 := Aside0.mk hy198
    clear hy198
    obtain ⟨br7, hy201⟩ : ∃ y_ : List Int, y_ = (([] : List Int)) := ⟨_, rfl⟩
    replace H : (spec_l20Book.l1 k1 a1 (rd f2 ia) f8 cd br7 0 ak ve dq bc) = some (r1, r2, r3) := by first | (rw [hy201]; with_reducible exact H) | (have H2_ := (Option.bind_some _ _).symm.trans H; rw [hy201]; with_reducible exact H2_) | (have H2_ := (Option.bind_some _ _).symm.trans H; with_reducible exact H2_) | with_reducible exact H | (rw [hy201]; exact H) | exact H
    have br8 := Aside0.mk hy201
    clear hy201
    have H' := Aside0.mk H
    clear H
    try go_wp2
    have pi197 : (0 ≤ (f8 : Int)) = True := eq_true (of_decide_eq_true (g0_))
    have qi197 : (f8 < (lq.length : Int)) = True := eq_true (of_decide_eq_true (g0_))
    replace a5 := Aside0.mk (Kd.R_drew a5.out)
    replace ay := Aside0.mk (Kd.S_drew ay.out)
    replace au := Aside0.mk (blk_drew au.out)
    replace aq := Aside0.mk (blk_drew aq.out)
    replace HI0 := Aside0.mk (IsS112.drew HI0.out)
    replace HK := Aside0.mk (keep_drew HK.out)
    replace HB := Aside0.mk (below_drew1 HB.out)
    refine start_ (n := 14) (S := fun w' => w'.cell? ⟨cr, 0, none⟩ = some (fs) ∧ w'.cell? ⟨cr, 1, none⟩ = some (gq)) (ds := [13]) (tl_ 14 0) (g1_) rfl (g1_) ⟨(blk_cell aq.out 0).trans rfl, (blk_cell aq.out 1).trans rfl⟩ (fun hHeld => ?_); refine with_tabW spec_l20Book.tab7 spec_l20Book.bits7 (fun HT_ HW_ => ?_)
    generalize wr.drew = w23 at a5 ay au aq HI0 HK HB hHeld ⊢
    refine pw_ 0 25 (tl_ 14 1) rfl rfl ?_
    refine pw_ 2 27 (tl_ 14 5) rfl rfl ?_
    refine pw_ 4 29 (tl_ 14 21) rfl rfl ?_
    refine pw_ 7 32 (tl_ 14 149) rfl rfl ?_
    refine tk0_ 1 26 (tl_ 14 151) rfl rfl hHeld ?_
    refine one_ (i := 3) (N := some 28) (tl_ 14 159) rfl rfl (one_of HT_.out (g1_)) (by decide) (fun K hK => ?_)
    refine goes_ Try.func70 (g1_) rfl #[.pointer (some ⟨g, 0, none⟩), .int .i64 4] (by rfl) rfl rfl (g3_) ?_
    with_reducible refine (spec_l20Rd_pick.calls k1 g ak gj 4 vc ai9 w0 _ ?side1 ?side2 A18.out).mono ?_
    (case side1 => exact ba)
    (case side2 => exact dg)
    rintro e yo ⟨rfl, hi, hb, hk⟩
    refine ⟨_, rfl, ?_⟩
    replace a5 := Aside0.mk (Kd.R_mono (Kd.R_keep (IsS112.apart (show IsS112 w0 _ g ak gj from ba) (uf1_ a5) (by decide)) hk (fun _ h => h.2)) (fun _ h => h.1))
    replace ay := Aside0.mk (Kd.S_mono (Kd.S_keep (IsS112.apartS (show IsS112 w0 _ g ak gj from ba) (uf3_ ay) (by decide)) hk (fun _ h => h.2)) (fun _ h => h.1))
    replace au := kb_ hk au ga
    replace aq := kb_ hk aq gb
    replace HK := Aside0.mk (KeepBut.trans (bw) hk (.inl rfl))
    replace HB := Aside0.mk (hb)
    replace HI0 := Aside0.mk (hi)
    (try clear hb)
    (try clear hk hi)
    refine hK.out _ _ ⟨(blk_cell aq.out 0).trans rfl, (blk_cell aq.out 1).trans rfl⟩ (fun hHeld => ?_)
    clear hK K
    refine nm_ ?_
    refine one_ (i := 5) (N := some 30) (tl_ 14 191) rfl rfl (one_of HT_.out (g1_)) (by decide) (fun K hK => ?_)
    refine goes_ Try.func70 (g1_) rfl #[.pointer (some ⟨g, 0, none⟩), .int .i64 21] (by rfl) rfl rfl (g3_) ?_
    with_reducible refine (spec_l20Rd_pick.calls k1 g ak ai9 21 vd ve w0 _ ?side1 ?side2 A19.out).mono ?_
    (case side1 => exact ba)
    (case side2 => exact dg)
    rintro e ms ⟨rfl, hi, hb, hk⟩
    refine ⟨_, rfl, ?_⟩
    replace a5 := Aside0.mk (Kd.R_mono (Kd.R_keep (IsS112.apart (show IsS112 w0 _ g ak ai9 from ba) (uf1_ a5) (by decide)) hk (fun _ h => h.2)) (fun _ h => h.1))
    replace ay := Aside0.mk (Kd.S_mono (Kd.S_keep (IsS112.apartS (show IsS112 w0 _ g ak ai9 from ba) (uf3_ ay) (by decide)) hk (fun _ h => h.2)) (fun _ h => h.1))
    replace au := kb_ hk au ga
    replace aq := kb_ hk aq gb
    replace HK := Aside0.mk (KeepBut.trans (bw) hk (.inl rfl))
    replace HB := Aside0.mk (hb)
    replace HI0 := Aside0.mk (hi)
    (try clear hb)
    (try clear hk hi)
    refine hK.out _ _ ⟨(blk_cell aq.out 0).trans rfl, (blk_cell aq.out 1).trans rfl⟩ (fun hHeld => ?_)
    clear hK K
    refine nm_ ?_
    refine one_ (i := 6) (N := some 31) (tl_ 14 255) rfl rfl (one_of HT_.out (g1_)) (by decide) (fun K hK => ?_)
    refine Kd.R_lit_step (Kd.int .i64) _ 3 ?hg (N := 31) ?hd (xs := ([0, vc, vd] : List Int)) (inner := [.int .i64 0, .int .i64 vc, .int .i64 vd]) (ok := fun _ => True) (okp := fun _ => True) ?hr ?hp (fun _ hk => hk) trivial (Below.refl _ _) (Nat.le_refl _) (by simp) ?_; (case hd => rfl); (case hg => rfl); (case hr => first | (go_simp; done) | (go_simp; rfl)); (case hp => exact (Reps.one (show Kd.M (Kd.int .i64) _ _ _ 0 [.int .i64 0] from rfl) (Reps.one (show Kd.M (Kd.int .i64) _ _ _ vc [.int .i64 vc] from rfl) (Reps.one (show Kd.M (Kd.int .i64) _ _ _ vd [.int .i64 vd] from rfl) (Reps.none _ _)))))
    intro du7 yp gc hb hg_ hnew_
    clear hg_ hnew_
    (first | rw [← ax5.out] at gc | (simp only [Int.reduceToNat] at gc; rw [← ax5.out] at gc))
    replace ay := Aside0.mk (Kd.S_elder' (uf3_ ay) (Kd.R_base gc) hb)
    have pb := Aside0.mk (Kd.R_lower (Kd.R_new' (Kd.R_newM (M := fun k_ => (w.heap.size ≤ k_)) gc (keep_size (w := w) (g := g) (row := none) (bw)) (fun k_ h_ => h_)) (Kd.R_lt (uf1_ a5))) (keep_size (w := w) (g := g) (row := none) (bw)))
    replace a5 := Aside0.mk (Kd.R_elder' (uf1_ a5) (Kd.R_base gc) hb)
    replace au := bb_ au hb
    replace aq := bb_ aq hb
    replace HK := Aside0.mk (KeepBut.trans (bw) (KeepBut.of_below hb g none) (.inl rfl))
    replace HB := Aside0.mk (below_step (dg) hb)
    replace HI0 := Aside0.mk (IsS112.below (ba) hb)
    clear hb gc
    obtain ⟨aj0, vf, aj1⟩ := Kd.R_slice pb.out
    subst aj1
    obtain ⟨ado28, cr2, _⟩ := Kd.at_int (Kd.R_reads' pb.out).2.2 0 (by decide) (by rw [ax5.out]; simp)
    cases cr2
    refine hK.out _ _ ⟨(blk_cell aq.out 0).trans rfl, (blk_cell aq.out 1).trans rfl⟩ (fun hHeld => ?_)
    clear hK K
    refine nm_ ?_
    refine pw_ 8 33 (tl_ 14 511) rfl rfl ?_
    refine one_ (i := 9) (N := some 34) (tl_ 14 1023) rfl rfl (one_of HT_.out (g1_)) (by decide) (fun K hK => ?_)
    (have br9 : 0 ≤ (f8 : Int) := of_decide_eq_true (g0_); have bs0 : f8 < (lq.length : Int) := of_decide_eq_true (g0_); obtain ⟨cr3, cr4, bs1⟩ := Kd.at_int (Kd.R_reads' pb.out).2.2 f8 br9 bs0; obtain rfl : ado28 = cr3 := (by injection cr4))
    refine value_ (w1 := ?_) (v := ?_) (by rfl) rfl ?_ ?_
    rotate_left 2
    ·go_simp
     constructor
     ·rfl
     ·rfl
    clear bs1
    refine hK.out _ _ ⟨(blk_cell aq.out 0).trans rfl, (blk_cell aq.out 1).trans rfl⟩ (fun hHeld => ?_)
    clear hK K
    refine nm_ ?_
    refine one_ (i := 10) (N := some 35) (tl_ 14 2047) rfl rfl (one_of HT_.out (g1_)) (by decide) (fun K hK => ?_)
    refine value_ (w1 := ?_) (v := ?_) (by rfl) rfl ?_ ?_
    rotate_left 2
    ·go_simp
     constructor
     ·rfl
     ·rfl
    refine hK.out _ _ ⟨(blk_cell (blk_alloc aq.out _) 0).trans rfl, (blk_cell (blk_alloc aq.out _) 1).trans rfl⟩ (fun hHeld => ?_)
    clear hK K
    refine nm_ ?_
    refine one_ (i := 11) (N := some 36) (tl_ 14 4095) rfl rfl (one_of HT_.out (g1_)) (by decide) (fun K hK => ?_)
    refine Kd.R_append_step (Kd.int .i64) w.heap.size (by rfl) (.tmp 26) (.tmp 35) 22 3 (.int .i64 0) 8 rfl Try.underlying22 info3 rfl (by decide) (by omega) fs di (rd lq f8) [.int .i64 (rd lq f8)] (fun k_ => (w.heap.size ≤ k_) ∧ some k_ ≠ (.slice (some ado28) lq.length vf : Value).ownBlock) (fun _ => False) rfl rfl ?aP (fun _ hk => hk.elim) ?aF ?aO (Below.refl _ _) ?aS ?aL ?_
    (case aP => exact rfl)
    (case aF => exact (fun k_ hk => ⟨(Nat.le_trans (keep_size (w := w) (g := g) (row := none) (bw)) hk), Kd.fresh' (Kd.R_lt (uf1_ pb)) k_ hk⟩))
    (case aO => exact (uf1_ a5))
    (case aS => exact (keep_size (w := w) (g := g) (row := none) (bw)))
    (case aL => have := cr0.out; omega)
    intro du8 w29 ho hb hg hat
    rw [← cr1.out] at ho
    replace ay := Aside0.mk (Kd.S_after (ok := (fun k_ => (w.heap.size ≤ k_) ∧ some k_ ≠ (.slice (some ado28) lq.length vf : Value).ownBlock)) (by (with_reducible repeat (first | apply Kd.S_alloc | apply Kd.S_drewN | apply Kd.S_drew)); exact Kd.S_mono ay.out (fun _ hk => ⟨⟨hk.1.1, hk.2⟩, hk.1.2⟩)) hg hat)
    replace au := Aside0.mk (blk_grown (g := cc) (o := .cells #[.slice none 0 0, .slice none 0 0] 25 (0, 0)) (uf0_ au) hg (Kd.R_ne a5.out au.out (by decide)))
    replace aq := Aside0.mk (blk_grown (g := cr) (o := .cells #[fs, gq] 25 (0, 0)) (uf0_ aq) hg (Kd.R_ne a5.out aq.out (by decide)))
    replace pb := Aside0.mk (Kd.R_after (ok := (fun k_ => (w.heap.size ≤ k_))) (by (with_reducible repeat (first | apply Kd.R_alloc | apply Kd.R_drewN | apply Kd.R_drew)); exact Kd.R_mono pb.out (fun _ hk => ⟨hk.1.1, hk.2⟩)) hg hat)
    replace HB := Aside0.mk (below_weaken (dg) HL.out hb)
    replace HI0 := Aside0.mk (IsS112.grown (ba) hg (IsS112.own_ne HI0.out a5.out (by decide)))
    replace HK := Aside0.mk (KeepBut.trans (bw) (KeepBut.of_grown hg g) (Kd.R_base2 a5.out))
    have yq := Aside0.mk (ho)
    clear a5
    clear ho hb hg hat
    obtain ⟨e6, e7, bs2⟩ := Kd.R_slice yq.out
    (first | subst bs2 | (injection bs2 with f1_ f2_ f3_; have f4_ := f1_.symm; have f5_ := f3_.symm; clear f1_ f2_ f3_; subst f4_; subst f5_))
    refine hK.out _ _ ⟨(blk_cell aq.out 0).trans rfl, (blk_cell aq.out 1).trans rfl⟩ (fun hHeld => ?_)
    clear hK K
    refine nm_ ?_
    refine pw_ 12 37 (tl_ 14 8191) rfl rfl ?_
    refine last_ (i := 13) (N := none) (tl_ 14 16383) rfl rfl (one_of HT_.out (g1_)) (by decide) (fun K hK => ?_)
    have du9 : w29.cell? ⟨cr, 0, none⟩ = some (fs) := (blk_cell aq.out 0).trans rfl
    have dv0 := blk_frozen aq.out 0
    have dv1 := lr.out
    have dv2 := qp.out
    refine skip_ (w1 := ?_) (by rfl) rfl ?_ ?_
    rotate_left
    ·go_simp
     rfl
    refine hK.out _ _ ?_
    clear hK K
    refine done_ (done_of HT_.out (g1_)) ?_
    try go_wp2_with (first | ((with_reducible refine gate_dst (N := 38) rfl ?_); refine Kd.R_lit (Kd.int .i64) _ 3 ?hg (N := 38) ?hd (xs := ([] : List Int)) (inner := []) (ok := fun _ => True) (okp := fun _ => True) ?hr ?hp (fun _ hk => hk) trivial (Below.refl _ _) (Nat.le_refl _) (by simp) ?_; (case hd => rfl); (case hg => rfl); (case hr => first | (go_simp; done) | (go_simp; rfl)); (case hp => exact (Reps.none _ _)); intro dv3 w32 qq hb hg_ hnew_; clear hg_ hnew_; (first | rw [← br8.out] at qq | (simp only [Int.reduceToNat] at qq; rw [← br8.out] at qq)); replace ay := Aside0.mk (Kd.S_elder' (by (with_reducible repeat (first | apply Kd.S_alloc | apply Kd.S_drewN | apply Kd.S_drew)); exact (Kd.S_mono (Kd.S_far (p := ⟨cr, 0, none⟩) (Kd.S_types ay.out aq.out (by decide)) (fun _ hk => hk.2) (.slice e6 dq.length e7)) (fun _ h_ => h_.1))) (Kd.R_base qq) hb); have cr5 := Aside0.mk (Kd.R_lower (Kd.R_new' (Kd.R_new' (Kd.R_newM (M := fun k_ => (w.heap.size ≤ k_)) qq (keep_size (w := w) (g := g) (row := none) (bw)) (fun k_ h_ => h_)) (Kd.R_lt (by (with_reducible repeat (first | apply Kd.R_alloc | apply Kd.R_drewN | apply Kd.R_drew)); exact (Kd.R_mono (Kd.R_far (p := ⟨cr, 0, none⟩) (Kd.R_types pb.out aq.out (by decide)) (fun _ hk => hk.2) (.slice e6 dq.length e7)) (fun _ h_ => h_.1))))) (Kd.R_lt (by (with_reducible repeat (first | apply Kd.R_alloc | apply Kd.R_drewN | apply Kd.R_drew)); exact (Kd.R_mono (Kd.R_far (p := ⟨cr, 0, none⟩) (Kd.R_types yq.out aq.out (by decide)) (fun _ hk => hk.2) (.slice e6 dq.length e7)) (fun _ h_ => h_.1))))) (keep_size (w := w) (g := g) (row := none) (bw))); replace pb := Aside0.mk (Kd.R_elder' (by (with_reducible repeat (first | apply Kd.R_alloc | apply Kd.R_drewN | apply Kd.R_drew)); exact (Kd.R_mono (Kd.R_far (p := ⟨cr, 0, none⟩) (Kd.R_types pb.out aq.out (by decide)) (fun _ hk => hk.2) (.slice e6 dq.length e7)) (fun _ h_ => h_.1))) (Kd.R_base qq) hb); replace yq := Aside0.mk (Kd.R_elder' (by (with_reducible repeat (first | apply Kd.R_alloc | apply Kd.R_drewN | apply Kd.R_drew)); exact (Kd.R_mono (Kd.R_far (p := ⟨cr, 0, none⟩) (Kd.R_types yq.out aq.out (by decide)) (fun _ hk => hk.2) (.slice e6 dq.length e7)) (fun _ h_ => h_.1))) (Kd.R_base qq) hb); replace au := Aside0.mk (blk_below (g := cc) (o := .cells #[.slice none 0 0, .slice none 0 0] 25 (0, 0)) (by (with_reducible repeat (first | refine blk_drewN ?_ _ | refine blk_drew ?_ | refine blk_alloc ?_ _)); refine blk_far ?_ lr.out _; exact uf0_ au) hb); replace aq := Aside0.mk (blk_below (g := cr) (o := .cells #[.slice e6 dq.length e7, gq] 25 (0, 0)) (by (with_reducible repeat (first | refine blk_drewN ?_ _ | refine blk_drew ?_ | refine blk_alloc ?_ _)); refine blk_put (cs := #[fs, gq]) ?_ 0 _ rfl; exact uf0_ aq) hb); replace HK := Aside0.mk (KeepBut.trans (bw) (KeepBut.of_below hb g none) (.inl rfl)); replace HB := Aside0.mk (below_step (dg) hb); replace HI0 := Aside0.mk (IsS112.below (show IsS112 w0 (w29.setCell ⟨cr, 0, none⟩ (.slice e6 dq.length e7)) g ak ve from ba) hb); clear hb qq))
    go_loopg [9, 10] k1 (fun kq v9 v10 w' => ∃ (kw : List Int) (jf : Int) (jg : Int), v10 = .int .i64 jf ∧ Aside0 (spec_l20Book.l1 kq a1 (rd f2 ia) f8 cd kw jf ak jg dq bc = some (r1, r2, r3)) ∧ Aside0 (kq ≤ k1) ∧ Aside0 (Kd.R (Kd.int .i64) 3 w' w.heap.size (fun k_ => (w.heap.size ≤ k_) ∧ some k_ ≠ ((.slice e6 dq.length e7) : Value).ownBlock) v9 kw) ∧ Aside0 (Kd.R (Kd.int .i64) 3 w' w.heap.size (fun k_ => (w.heap.size ≤ k_) ∧ some k_ ≠ (v9 : Value).ownBlock) (.slice e6 dq.length e7) dq) ∧ Aside0 (Kd.S (Kd.slice 3 (Kd.int .i64)) 22 w' w.heap.size (fun k_ => (w.heap.size ≤ k_) ∧ some k_ ≠ (v9 : Value).ownBlock ∧ some k_ ≠ ((.slice e6 dq.length e7) : Value).ownBlock) gq bc) ∧ Aside0 (w'.heap[cc]? = some (.cells #[(.slice none 0 0), (.slice none 0 0)] 25 (0, 0))) ∧ Aside0 (w'.heap[cr]? = some (.cells #[(.slice e6 dq.length e7), gq] 25 (0, 0))) ∧ Aside0 (IsS112 w0 w' g ak jg) ∧ Aside0 (KeepBut w w' g none) ∧ Aside0 (Below w0.heap.size w0 w'))
    case atStart => exact ⟨(br7), (0), (ve), (g2_), H', ⟨Nat.le_refl _⟩, ⟨by (with_reducible repeat (first | apply Kd.R_alloc | apply Kd.R_drewN | apply Kd.R_drew)); exact Kd.R_mono cr5.out (fun _ hk => ⟨hk.1.1.1, hk.2⟩)⟩, ⟨by (with_reducible repeat (first | apply Kd.R_alloc | apply Kd.R_drewN | apply Kd.R_drew)); exact Kd.R_mono yq.out (fun _ hk => ⟨hk.1.1, hk.2⟩)⟩, ⟨by (with_reducible repeat (first | apply Kd.S_alloc | apply Kd.S_drewN | apply Kd.S_drew)); exact Kd.S_mono ay.out (fun _ hk => ⟨hk.1.1.1, ⟨hk.2, hk.1.2⟩⟩)⟩, ⟨uf0_ au⟩, ⟨uf0_ aq⟩, ⟨ba⟩, ⟨bw⟩, ⟨dg⟩⟩
    case round =>
     clear H'
     try clear c1
     try clear p1
     try clear q1
     try clear mc
     try clear qi1
     try clear c2
     try clear p2
     try clear c4
     try clear fw
     try clear c5
     try clear dv
     try clear c7
     try clear c9
     try clear eh
     try clear ez
     try clear dp
     try clear ll
     try clear p18
     try clear q18
     try clear dv4
     try clear p19
     try clear q19
     try clear dv5
     try clear qi19
     try clear ed
     try clear r6
     try clear gr
     try clear ax6
     try clear je
     try clear ru
     try clear rv
     try clear rx
     try clear ry
     try clear br4
     try clear bs1
     try clear p1
     try clear ym
     try clear br9
     try clear p2
     try clear q1
     try clear yn
     try clear bs0
     obtain ⟨kw, jf, jg, rfl, HA, HK2, dw, a5, ay, au, aq, HI0, HK, HB⟩ := hrel
     cases gk with
     | zero => exact absurd HA.out (by simp [spec_l20Book.l1])
     | succ k2 =>
      have H := HA.out
      clear HA
      simp only [spec_l20Book.l1] at H
      by_cases j4 : jf < (rd f2 ia)
      ·rw [if_pos j4] at H
       have aj2 := decide_eq_true j4
       clear j4
       by_cases g2 : cd = jf
       ·rw [if_pos g2] at H
        have yr : (cd == jf) = true := beq_iff_eq.mpr g2
        have cr6 : (cd != jf) = false := bne_eq_false_iff_eq.mpr g2
        clear g2
        obtain ⟨ic, H⟩ := pos_ H
        have cr7 := Aside0.mk ic
        clear ic
        obtain ⟨bs3, hy207⟩ : ∃ y_ : List Int, y_ = (kw ++ [0]) := ⟨_, rfl⟩
        replace H : (spec_l20Book.l1 k2 a1 (rd f2 ia) f8 cd bs3 (wrap64 (jf + 1)) ak jg dq bc) = some (r1, r2, r3) := by first | (rw [hy207]; with_reducible exact H) | (have H2_ := (Option.bind_some _ _).symm.trans H; rw [hy207]; with_reducible exact H2_) | (have H2_ := (Option.bind_some _ _).symm.trans H; with_reducible exact H2_) | with_reducible exact H | (rw [hy207]; exact H) | exact H
        have cr8 := Aside0.mk hy207
        clear hy207
        have H' := Aside0.mk H
        clear H
        go_wp2_with (first | ((with_reducible refine gate_builtin (b := .append) (xs := #[.tmp 54, .tmp 56]) rfl ?_); at_builtin; refine Kd.R_append (Kd.int .i64) w.heap.size rfl (.tmp 54) (.tmp 56) 22 3 (.int .i64 0) 8 rfl Try.underlying22 info3 rfl (by decide) (by omega) u9 kw 0 [.int .i64 0] (fun k_ => (w.heap.size ≤ k_) ∧ some k_ ≠ (.slice e6 dq.length e7 : Value).ownBlock) (fun _ => False) rfl rfl ?aP (fun _ hk => hk.elim) ?aF ?aO (Below.refl _ _) ?aS ?aL ?_; (case aP => exact rfl); (case aF => exact (fun k_ hk => ⟨(Nat.le_trans (keep_size (w := w) (g := g) (row := none) (bw)) hk), Kd.fresh' (Kd.R_lt (uf1_ a5)) k_ hk⟩)); (case aO => exact (uf1_ dw)); (case aS => exact (keep_size (w := w) (g := g) (row := none) (bw))); (case aL => have := cr7.out; omega); intro dv6 w37 ho hb hg hat; rw [← cr8.out] at ho; replace a5 := Aside0.mk (Kd.R_after (ok := (fun k_ => (w.heap.size ≤ k_))) (uf1_ a5) hg hat); replace ay := Aside0.mk (Kd.S_after (ok := (fun k_ => (w.heap.size ≤ k_) ∧ some k_ ≠ (.slice e6 dq.length e7 : Value).ownBlock)) (g49_) hg hat); replace au := Aside0.mk (blk_grown (g := cc) (o := .cells #[.slice none 0 0, .slice none 0 0] 25 (0, 0)) (uf0_ au) hg (Kd.R_ne dw.out au.out (by decide))); replace aq := Aside0.mk (blk_grown (g := cr) (o := .cells #[.slice e6 dq.length e7, gq] 25 (0, 0)) (uf0_ aq) hg (Kd.R_ne dw.out aq.out (by decide))); replace HB := Aside0.mk (below_weaken (dg) HL.out hb); replace HI0 := Aside0.mk (IsS112.grown (ba) hg (IsS112.own_ne HI0.out dw.out (by decide))); replace HK := Aside0.mk (KeepBut.trans (bw) (KeepBut.of_grown hg g) (Kd.R_base2 dw.out)); have cr9 := Aside0.mk (ho); clear dw; clear ho hb hg hat))
        go_roundg k2
        case measure => have := HK1.out; have := HK2.out; omega
        case rel => exact ⟨(bs3), (wrap64 (jf + 1)), (jg), (g2_), H', ⟨g10_⟩, ⟨uf1_ cr9⟩, ⟨uf1_ a5⟩, ⟨g50_⟩, ⟨uf0_ au⟩, ⟨uf0_ aq⟩, ⟨ba⟩, ⟨bw⟩, ⟨dg⟩⟩
       ·rw [if_neg g2] at H
        have yr : (cd == jf) = false := beq_eq_false_iff_ne.mpr g2
        have cr6 : (cd != jf) = true := bne_iff_ne.mpr g2
        replace H := Option.bind_eq_some_iff.mp H
        obtain ⟨⟨ax7, qr⟩, bs4, H⟩ := H
        try dsimp only at H
        have A38 := Aside0.mk bs4
        clear bs4
        by_cases kx : ax7 > 0
        ·rw [if_pos kx] at H
         have ax8 := decide_eq_true kx
         clear kx
         replace H := Option.bind_eq_some_iff.mp H
         obtain ⟨⟨aj3, ax9⟩, bs5, H⟩ := H
         try dsimp only at H
         have sp := Aside0.mk bs5
         clear bs5
         obtain ⟨jh, H⟩ := pos_ H
         have cs0 := Aside0.mk jh
         clear jh
         obtain ⟨bs6, hy214⟩ : ∃ y_ : List Int, y_ = (kw ++ [aj3]) := ⟨_, rfl⟩
         replace H : (spec_l20Book.l1 k2 a1 (rd f2 ia) f8 cd bs6 (wrap64 (jf + 1)) ak ax9 dq bc) = some (r1, r2, r3) := by first | (rw [hy214]; with_reducible exact H) | (have H2_ := (Option.bind_some _ _).symm.trans H; rw [hy214]; with_reducible exact H2_) | (have H2_ := (Option.bind_some _ _).symm.trans H; with_reducible exact H2_) | with_reducible exact H | (rw [hy214]; exact H) | exact H
         have cs1 := Aside0.mk hy214
         clear hy214
         have H' := Aside0.mk H
         clear H
         go_wp2_with (first | (go_at_call 70; (with_reducible refine (spec_l20Rd_pick.calls k2 g ak jg 3 ax7 qr w0 _ ?side1 ?side2 A38.out).mono ?_); (case side1 => exact ba); (case side2 => exact dg); rintro e w42 ⟨rfl, hi, hb, hk⟩; replace dw := Aside0.mk (Kd.R_mono (Kd.R_keep (IsS112.apart (show IsS112 w0 _ g ak jg from ba) (uf1_ dw) (by decide)) hk (fun _ h => h.2)) (fun _ h => h.1)); replace a5 := Aside0.mk (Kd.R_mono (Kd.R_keep (IsS112.apart (show IsS112 w0 _ g ak jg from ba) (uf1_ a5) (by decide)) hk (fun _ h => h.2)) (fun _ h => h.1)); replace ay := Aside0.mk (Kd.S_mono (Kd.S_keep (IsS112.apartS (show IsS112 w0 _ g ak jg from ba) (uf3_ ay) (by decide)) hk (fun _ h => h.2)) (fun _ h => h.1)); replace au := kb_ hk au ga; replace aq := kb_ hk aq gb; replace HK := Aside0.mk (KeepBut.trans (bw) hk (.inl rfl)); replace HB := Aside0.mk (hb); replace HI0 := Aside0.mk (hi); (try clear hb); (try clear hk hi)) | ((with_reducible refine gate_callee (f := 70) rfl ?_); refine goesL_ (some 53) rfl rfl Try.func70 k_ rfl #[.pointer (some ⟨g, 0, none⟩), .int .i64 10] rfl (g3_) ?_; (with_reducible refine (spec_l20Rd_pick.calls k2 g ak qr 10 aj3 ax9 w0 _ ?side1 ?side2 sp.out).mono ?_); (case side1 => exact ba); (case side2 => exact dg); rintro e w43 ⟨rfl, hi, hb, hk⟩; refine ⟨_, rfl, ?_⟩; replace dw := Aside0.mk (Kd.R_mono (Kd.R_keep (IsS112.apart (show IsS112 w0 _ g ak qr from ba) (uf1_ dw) (by decide)) hk (fun _ h => h.2)) (fun _ h => h.1)); replace a5 := Aside0.mk (Kd.R_mono (Kd.R_keep (IsS112.apart (show IsS112 w0 _ g ak qr from ba) (uf1_ a5) (by decide)) hk (fun _ h => h.2)) (fun _ h => h.1)); replace ay := Aside0.mk (Kd.S_mono (Kd.S_keep (IsS112.apartS (show IsS112 w0 _ g ak qr from ba) (uf3_ ay) (by decide)) hk (fun _ h => h.2)) (fun _ h => h.1)); replace au := kb_ hk au ga; replace aq := kb_ hk aq gb; replace HK := Aside0.mk (KeepBut.trans (bw) hk (.inl rfl)); replace HB := Aside0.mk (hb); replace HI0 := Aside0.mk (hi); (try clear hb); (try clear hk hi)) | ((with_reducible refine gate_builtin (b := .append) (xs := #[.tmp 54, .tmp 56]) rfl ?_); at_builtin; refine Kd.R_append (Kd.int .i64) w.heap.size rfl (.tmp 54) (.tmp 56) 22 3 (.int .i64 0) 8 rfl Try.underlying22 info3 rfl (by decide) (by omega) u9 kw aj3 [.int .i64 aj3] (fun k_ => (w.heap.size ≤ k_) ∧ some k_ ≠ (.slice e6 dq.length e7 : Value).ownBlock) (fun _ => False) rfl rfl ?aP (fun _ hk => hk.elim) ?aF ?aO (Below.refl _ _) ?aS ?aL ?_; (case aP => exact rfl); (case aF => exact (fun k_ hk => ⟨(Nat.le_trans (keep_size (w := w) (g := g) (row := none) (bw)) hk), Kd.fresh' (Kd.R_lt (uf1_ a5)) k_ hk⟩)); (case aO => exact (uf1_ dw)); (case aS => exact (keep_size (w := w) (g := g) (row := none) (bw))); (case aL => have := cs0.out; omega); intro dv7 w44 ho hb hg hat; rw [← cs1.out] at ho; replace a5 := Aside0.mk (Kd.R_after (ok := (fun k_ => (w.heap.size ≤ k_))) (uf1_ a5) hg hat); replace ay := Aside0.mk (Kd.S_after (ok := (fun k_ => (w.heap.size ≤ k_) ∧ some k_ ≠ (.slice e6 dq.length e7 : Value).ownBlock)) (g49_) hg hat); replace au := Aside0.mk (blk_grown (g := cc) (o := .cells #[.slice none 0 0, .slice none 0 0] 25 (0, 0)) (uf0_ au) hg (Kd.R_ne dw.out au.out (by decide))); replace aq := Aside0.mk (blk_grown (g := cr) (o := .cells #[.slice e6 dq.length e7, gq] 25 (0, 0)) (uf0_ aq) hg (Kd.R_ne dw.out aq.out (by decide))); replace HB := Aside0.mk (below_weaken (dg) HL.out hb); replace HI0 := Aside0.mk (IsS112.grown (ba) hg (IsS112.own_ne HI0.out dw.out (by decide))); replace HK := Aside0.mk (KeepBut.trans (bw) (KeepBut.of_grown hg g) (Kd.R_base2 dw.out)); have cs2 := Aside0.mk (ho); clear dw; clear ho hb hg hat))
         go_roundg k2
         case measure => have := HK1.out; have := HK2.out; omega
         case rel => exact ⟨(bs6), (wrap64 (jf + 1)), (ax9), (g2_), H', ⟨g10_⟩, ⟨uf1_ cs2⟩, ⟨uf1_ a5⟩, ⟨g50_⟩, ⟨uf0_ au⟩, ⟨uf0_ aq⟩, ⟨ba⟩, ⟨bw⟩, ⟨dg⟩⟩
        ·rw [if_neg kx] at H
         have ax8 := decide_eq_false kx
         clear kx
         obtain ⟨vg, H⟩ := pos_ H
         have ay0 := Aside0.mk vg
         clear vg
         obtain ⟨bs7, hy217⟩ : ∃ y_ : List Int, y_ = (kw ++ [0]) := ⟨_, rfl⟩
         replace H : (spec_l20Book.l1 k2 a1 (rd f2 ia) f8 cd bs7 (wrap64 (jf + 1)) ak qr dq bc) = some (r1, r2, r3) := by first | (rw [hy217]; with_reducible exact H) | (have H2_ := (Option.bind_some _ _).symm.trans H; rw [hy217]; with_reducible exact H2_) | (have H2_ := (Option.bind_some _ _).symm.trans H; with_reducible exact H2_) | with_reducible exact H | (rw [hy217]; exact H) | exact H
         have cs3 := Aside0.mk hy217
         clear hy217
         have H' := Aside0.mk H
         clear H
         go_wp2_with (first | (go_at_call 70; (with_reducible refine (spec_l20Rd_pick.calls k2 g ak jg 3 ax7 qr w0 _ ?side1 ?side2 A38.out).mono ?_); (case side1 => exact ba); (case side2 => exact dg); rintro e w46 ⟨rfl, hi, hb, hk⟩; replace dw := Aside0.mk (Kd.R_mono (Kd.R_keep (IsS112.apart (show IsS112 w0 _ g ak jg from ba) (uf1_ dw) (by decide)) hk (fun _ h => h.2)) (fun _ h => h.1)); replace a5 := Aside0.mk (Kd.R_mono (Kd.R_keep (IsS112.apart (show IsS112 w0 _ g ak jg from ba) (uf1_ a5) (by decide)) hk (fun _ h => h.2)) (fun _ h => h.1)); replace ay := Aside0.mk (Kd.S_mono (Kd.S_keep (IsS112.apartS (show IsS112 w0 _ g ak jg from ba) (uf3_ ay) (by decide)) hk (fun _ h => h.2)) (fun _ h => h.1)); replace au := kb_ hk au ga; replace aq := kb_ hk aq gb; replace HK := Aside0.mk (KeepBut.trans (bw) hk (.inl rfl)); replace HB := Aside0.mk (hb); replace HI0 := Aside0.mk (hi); (try clear hb); (try clear hk hi)) | ((with_reducible refine gate_builtin (b := .append) (xs := #[.tmp 54, .tmp 56]) rfl ?_); at_builtin; refine Kd.R_append (Kd.int .i64) w.heap.size rfl (.tmp 54) (.tmp 56) 22 3 (.int .i64 0) 8 rfl Try.underlying22 info3 rfl (by decide) (by omega) u9 kw 0 [.int .i64 0] (fun k_ => (w.heap.size ≤ k_) ∧ some k_ ≠ (.slice e6 dq.length e7 : Value).ownBlock) (fun _ => False) rfl rfl ?aP (fun _ hk => hk.elim) ?aF ?aO (Below.refl _ _) ?aS ?aL ?_; (case aP => exact rfl); (case aF => exact (fun k_ hk => ⟨(Nat.le_trans (keep_size (w := w) (g := g) (row := none) (bw)) hk), Kd.fresh' (Kd.R_lt (uf1_ a5)) k_ hk⟩)); (case aO => exact (uf1_ dw)); (case aS => exact (keep_size (w := w) (g := g) (row := none) (bw))); (case aL => have := ay0.out; omega); intro dv8 w47 ho hb hg hat; rw [← cs3.out] at ho; replace a5 := Aside0.mk (Kd.R_after (ok := (fun k_ => (w.heap.size ≤ k_))) (uf1_ a5) hg hat); replace ay := Aside0.mk (Kd.S_after (ok := (fun k_ => (w.heap.size ≤ k_) ∧ some k_ ≠ (.slice e6 dq.length e7 : Value).ownBlock)) (g49_) hg hat); replace au := Aside0.mk (blk_grown (g := cc) (o := .cells #[.slice none 0 0, .slice none 0 0] 25 (0, 0)) (uf0_ au) hg (Kd.R_ne dw.out au.out (by decide))); replace aq := Aside0.mk (blk_grown (g := cr) (o := .cells #[.slice e6 dq.length e7, gq] 25 (0, 0)) (uf0_ aq) hg (Kd.R_ne dw.out aq.out (by decide))); replace HB := Aside0.mk (below_weaken (dg) HL.out hb); replace HI0 := Aside0.mk (IsS112.grown (ba) hg (IsS112.own_ne HI0.out dw.out (by decide))); replace HK := Aside0.mk (KeepBut.trans (bw) (KeepBut.of_grown hg g) (Kd.R_base2 dw.out)); have cs4 := Aside0.mk (ho); clear dw; clear ho hb hg hat))
         go_roundg k2
         case measure => have := HK1.out; have := HK2.out; omega
         case rel => exact ⟨(bs7), (wrap64 (jf + 1)), (qr), (g2_), H', ⟨g10_⟩, ⟨uf1_ cs4⟩, ⟨uf1_ a5⟩, ⟨g50_⟩, ⟨uf0_ au⟩, ⟨uf0_ aq⟩, ⟨ba⟩, ⟨bw⟩, ⟨dg⟩⟩
      ·rw [if_neg j4] at H
       have aj2 := decide_eq_false j4
       clear j4
       obtain ⟨c48, H⟩ := pos_ H
       have cs5 := Aside0.mk c48
       clear c48
       obtain ⟨yt, hy204⟩ : ∃ y_ : List (List Int), y_ = (bc ++ [kw]) := ⟨_, rfl⟩
       replace H : (spec_l20Book.l0 k2 a1 (rd f2 ia) f8 (wrap64 (cd + 1)) ak jg dq yt) = some (r1, r2, r3) := by first | (rw [hy204]; with_reducible exact H) | (have H2_ := (Option.bind_some _ _).symm.trans H; rw [hy204]; with_reducible exact H2_) | (have H2_ := (Option.bind_some _ _).symm.trans H; with_reducible exact H2_) | with_reducible exact H | (rw [hy204]; exact H) | exact H
       have cs6 := Aside0.mk hy204
       clear hy204
       have H' := Aside0.mk H
       clear H
       have dv9 := qp.out
       have dw0 := lr.out
       have dw1 := gb.out
       have dw2 := sr.out
       obtain ⟨dw3, dw4, dw5, dw6⟩ := blk2_ aq
       obtain ⟨bs8, bs9, cs7⟩ := Kd.R_slice dw.out
       subst cs7
       go_wp2_with (first | ((with_reducible refine gate_builtin (b := .append) (xs := #[.tmp 59, .tmp 61]) rfl ?_); at_builtin; refine Kd.S_append (Kd.slice 3 (Kd.int .i64)) w.heap.size rfl (.tmp 59) (.tmp 61) 23 22 (.slice none 0 0) 24 rfl Try.underlying23 info22 rfl (by decide) (by omega) gq bc kw [.slice bs8 kw.length bs9] (fun k_ => (w.heap.size ≤ k_) ∧ some k_ ≠ (.slice e6 dq.length e7 : Value).ownBlock) (fun k_ => some k_ = (.slice bs8 kw.length bs9 : Value).ownBlock) rfl rfl ?aP (fun k_ hk_ => ((Kd.R_mono (ok' := fun k_ => ((fun k_ => (w.heap.size ≤ k_) ∧ some k_ ≠ (.slice e6 dq.length e7 : Value).ownBlock)) k_ ∧ some k_ ≠ (gq : Value).ownBlock) (Kd.R_apart' (dw.out) (Kd.S_typed ay.out) (by decide)) (fun k_ hk => ⟨⟨hk.1.1, hk.1.2⟩, hk.2⟩))).1 k_ hk_.symm) ?aF ?aO (Below.refl _ _) ?aS ?aL ?_; (case aP => exact Kd.M_row (Kd.R_mono (Kd.R_tight rfl (Kd.R_mono (ok' := fun k_ => ((fun k_ => (w.heap.size ≤ k_) ∧ some k_ ≠ (.slice e6 dq.length e7 : Value).ownBlock)) k_ ∧ some k_ ≠ (gq : Value).ownBlock) (Kd.R_apart' (dw.out) (Kd.S_typed ay.out) (by decide)) (fun k_ hk => ⟨⟨hk.1.1, hk.1.2⟩, hk.2⟩))) (fun _ h_ => h_))); (case aF => exact (fun k_ hk => ⟨(Nat.le_trans (keep_size (w := w) (g := g) (row := none) (bw)) hk), Kd.fresh' (Kd.R_lt (uf1_ a5)) k_ hk⟩)); (case aO => exact (by (with_reducible repeat (first | apply Kd.S_alloc | apply Kd.S_drewN | apply Kd.S_drew)); exact Kd.S_mono ay.out (fun k_ hk => ⟨⟨hk.1, hk.2.2⟩, fun e_ => hk.2.1 e_⟩))); (case aS => exact (keep_size (w := w) (g := g) (row := none) (bw))); (case aL => have := cs5.out; omega); intro dw7 w52 ho hb hg hat; rw [← cs6.out] at ho; replace a5 := Aside0.mk (Kd.R_over' (uf1_ a5) (Kd.S_typed (uf3_ ay)) (by decide) hg); replace au := Aside0.mk (blk_grown (g := cc) (o := .cells #[.slice none 0 0, .slice none 0 0] 25 (0, 0)) (uf0_ au) hg (Kd.S_ne ay.out au.out (by decide))); replace aq := Aside0.mk (blk_grown (g := cr) (o := .cells #[.slice e6 dq.length e7, gq] 25 (0, 0)) (uf0_ aq) hg (Kd.S_ne ay.out aq.out (by decide))); replace HB := Aside0.mk (below_weaken (dg) HL.out hb); replace HI0 := Aside0.mk (IsS112.grown (ba) hg (IsS112.own_neS HI0.out ay.out (by decide))); replace HK := Aside0.mk (KeepBut.trans (bw) (KeepBut.of_grown hg g) (Kd.S_base2 ay.out)); have bt0 := Aside0.mk (ho); clear ay dw; clear ho hb hg hat; obtain ⟨ay1, ay2, cs8⟩ := Kd.S_slice bt0.out; subst cs8; obtain ⟨dw8, dw9, dx0, dx1⟩ := blk2_ aq))
       go_roundg k2
       case measure => have := HK1.out; have := HK2.out; omega
       case rel => exact ⟨(wrap64 (cd + 1)), (jg), (dq), (yt), (.slice e6 dq.length e7), (.slice ay1 yt.length ay2), (g2_), H', ⟨g10_⟩, ⟨by (with_reducible repeat (first | apply Kd.R_alloc | apply Kd.R_drewN | apply Kd.R_drew)); exact Kd.R_mono (Kd.R_far (p := ⟨cr, 1, none⟩) (Kd.R_types a5.out aq.out (by decide)) (fun _ hk => hk.2) (.slice ay1 yt.length ay2)) (fun _ hk => hk.1.1)⟩, ⟨by (with_reducible repeat (first | apply Kd.S_alloc | apply Kd.S_drewN | apply Kd.S_drew)); exact Kd.S_mono (Kd.S_far (p := ⟨cr, 1, none⟩) (Kd.S_types bt0.out aq.out (by decide)) (fun _ hk => hk.2) (.slice ay1 yt.length ay2)) (fun _ hk => ⟨hk.1.1, hk.1.2⟩)⟩, ⟨by (with_reducible repeat (first | refine blk_drewN ?_ _ | refine blk_drew ?_ | refine blk_alloc ?_ _)); refine blk_far ?_ lr.out _; exact uf0_ au⟩, ⟨by (with_reducible repeat (first | refine blk_drewN ?_ _ | refine blk_drew ?_ | refine blk_alloc ?_ _)); refine blk_put (cs := #[.slice e6 dq.length e7, gq]) ?_ 1 _ rfl; exact uf0_ aq⟩, ⟨ba⟩, ⟨bw⟩, ⟨dg⟩⟩
   ·rw [if_neg dp] at H
    have ll := decide_eq_false dp
    clear dp
    replace H := Option.bind_eq_some_iff.mp H
    obtain ⟨⟨cs9, iy⟩, bt1, H⟩ := H
    try dsimp only at H
    have vh := Aside0.mk bt1
    clear bt1
    by_cases yu : cs9 = true
    ·subst yu
     replace H := ifp_ H
     replace H := Option.bind_eq_some_iff.mp H
     obtain ⟨⟨gs, mt⟩, bt2, H⟩ := H
     try dsimp only at H
     have n0 := Aside0.mk bt2
     clear bt2
     by_cases ss : gs = 0
     ·rw [if_pos ss] at H
      have ct0 : (gs == 0) = true := beq_iff_eq.mpr ss
      have ct1 : (gs != 0) = false := bne_eq_false_iff_eq.mpr ss
      clear ss
      simp only [Option.some.injEq, Prod.mk.injEq] at H
      obtain ⟨rfl, rfl, rfl⟩ := H
      go_wp2_with (first | ((with_reducible refine gate_callee (f := 106) rfl ?_); refine goesL_ (some 66) rfl rfl Try.func106 k_ rfl #[.pointer (some ⟨g, 0, none⟩), .int .i64 a1] rfl (g3_) ?_; (with_reducible refine (spec_l20Rd_odd.calls k1 g ak gj a1 true iy w0 _ ?side1 ?side2 vh.out).mono ?_); (case side1 => exact ba); (case side2 => exact dg); rintro e w60 ⟨rfl, hi, hb, hk⟩; refine ⟨_, rfl, ?_⟩; replace a5 := Aside0.mk (Kd.R_mono (Kd.R_keep (IsS112.apart (show IsS112 w0 _ g ak gj from ba) (uf1_ a5) (by decide)) hk (fun _ h => h.2)) (fun _ h => h.1)); replace ay := Aside0.mk (Kd.S_mono (Kd.S_keep (IsS112.apartS (show IsS112 w0 _ g ak gj from ba) (uf3_ ay) (by decide)) hk (fun _ h => h.2)) (fun _ h => h.1)); replace au := kb_ hk au ga; replace aq := kb_ hk aq gb; replace HK := Aside0.mk (KeepBut.trans (bw) hk (.inl rfl)); replace HB := Aside0.mk (hb); replace HI0 := Aside0.mk (hi); (try clear hb); (try clear hk hi)) | ((with_reducible refine gate_callee (f := 70) rfl ?_); refine goesL_ (some 68) rfl rfl Try.func70 k_ rfl #[.pointer (some ⟨g, 0, none⟩), .int .i64 4] rfl (g3_) ?_; (with_reducible refine (spec_l20Rd_pick.calls k1 g ak iy 4 gs mt w0 _ ?side1 ?side2 n0.out).mono ?_); (case side1 => exact ba); (case side2 => exact dg); rintro e w61 ⟨rfl, hi, hb, hk⟩; refine ⟨_, rfl, ?_⟩; replace a5 := Aside0.mk (Kd.R_mono (Kd.R_keep (IsS112.apart (show IsS112 w0 _ g ak iy from ba) (uf1_ a5) (by decide)) hk (fun _ h => h.2)) (fun _ h => h.1)); replace ay := Aside0.mk (Kd.S_mono (Kd.S_keep (IsS112.apartS (show IsS112 w0 _ g ak iy from ba) (uf3_ ay) (by decide)) hk (fun _ h => h.2)) (fun _ h => h.1)); replace au := kb_ hk au ga; replace aq := kb_ hk aq gb; replace HK := Aside0.mk (KeepBut.trans (bw) hk (.inl rfl)); replace HB := Aside0.mk (hb); replace HI0 := Aside0.mk (hi); (try clear hb); (try clear hk hi); have dx2 := lr.out; have dx3 := qp.out; have dx4 := ga.out; have dx5 := vb.out; obtain ⟨dx6, dx7, dx8, dx9⟩ := blk2_ au))
      refine bodyPost_ret (results_cell_row rfl _ _ cc 25 #[.slice none 0 0, .slice none 0 0] (0, 0) _ rfl (by (with_reducible repeat (first | refine blk_drewN ?_ _ | refine blk_drew ?_ | refine blk_alloc ?_ _)); refine blk_put (cs := #[.slice none 0 0, .slice none 0 0]) ?_ 1 _ rfl; refine blk_put (cs := #[.slice none 0 0, .slice none 0 0]) ?_ 0 _ rfl; exact uf0_ au) Try.underlying25 rfl (g1_)) rfl ?_
      exact ⟨_, _, g4_, g17_, Kd.V_nil _ _ _ _ _, ba, dg, bw⟩
     ·rw [if_neg ss] at H
      have ct0 : (gs == 0) = false := beq_eq_false_iff_ne.mpr ss
      have ct1 : (gs != 0) = true := bne_iff_ne.mpr ss
      by_cases st : gs = 1
      ·rw [if_pos st] at H
       have ct2 : (gs == 1) = true := beq_iff_eq.mpr st
       have ct3 : (gs != 1) = false := bne_eq_false_iff_eq.mpr st
       clear st
       obtain ⟨c66, H⟩ := pos_ H
       have dy0 := decide_eq_true c66
       have dy1 : decide (0 < di.length) = true := decide_eq_true (by omega)
       clear c66
       obtain ⟨bt3, hy224⟩ : ∃ y_ : List Int, y_ = (di.set (0 : Int).toNat (-1)) := ⟨_, rfl⟩
       replace H : (some (bt3, bc, mt)) = some (r1, r2, r3) := by first | (rw [hy224]; with_reducible exact H) | (have H2_ := (Option.bind_some _ _).symm.trans H; rw [hy224]; with_reducible exact H2_) | (have H2_ := (Option.bind_some _ _).symm.trans H; with_reducible exact H2_) | with_reducible exact H | (rw [hy224]; exact H) | exact H
       have ct4 := Aside0.mk hy224
       clear hy224
       simp only [Option.some.injEq, Prod.mk.injEq] at H
       obtain ⟨rfl, rfl, rfl⟩ := H
       go_wp2_with (first | ((with_reducible refine gate_callee (f := 106) rfl ?_); refine goesL_ (some 66) rfl rfl Try.func106 k_ rfl #[.pointer (some ⟨g, 0, none⟩), .int .i64 a1] rfl (g3_) ?_; (with_reducible refine (spec_l20Rd_odd.calls k1 g ak gj a1 true iy w0 _ ?side1 ?side2 vh.out).mono ?_); (case side1 => exact ba); (case side2 => exact dg); rintro e w68 ⟨rfl, hi, hb, hk⟩; refine ⟨_, rfl, ?_⟩; replace a5 := Aside0.mk (Kd.R_mono (Kd.R_keep (IsS112.apart (show IsS112 w0 _ g ak gj from ba) (uf1_ a5) (by decide)) hk (fun _ h => h.2)) (fun _ h => h.1)); replace ay := Aside0.mk (Kd.S_mono (Kd.S_keep (IsS112.apartS (show IsS112 w0 _ g ak gj from ba) (uf3_ ay) (by decide)) hk (fun _ h => h.2)) (fun _ h => h.1)); replace au := kb_ hk au ga; replace aq := kb_ hk aq gb; replace HK := Aside0.mk (KeepBut.trans (bw) hk (.inl rfl)); replace HB := Aside0.mk (hb); replace HI0 := Aside0.mk (hi); (try clear hb); (try clear hk hi)) | ((with_reducible refine gate_callee (f := 70) rfl ?_); refine goesL_ (some 68) rfl rfl Try.func70 k_ rfl #[.pointer (some ⟨g, 0, none⟩), .int .i64 4] rfl (g3_) ?_; (with_reducible refine (spec_l20Rd_pick.calls k1 g ak iy 4 gs mt w0 _ ?side1 ?side2 n0.out).mono ?_); (case side1 => exact ba); (case side2 => exact dg); rintro e w69 ⟨rfl, hi, hb, hk⟩; refine ⟨_, rfl, ?_⟩; replace a5 := Aside0.mk (Kd.R_mono (Kd.R_keep (IsS112.apart (show IsS112 w0 _ g ak iy from ba) (uf1_ a5) (by decide)) hk (fun _ h => h.2)) (fun _ h => h.1)); replace ay := Aside0.mk (Kd.S_mono (Kd.S_keep (IsS112.apartS (show IsS112 w0 _ g ak iy from ba) (uf3_ ay) (by decide)) hk (fun _ h => h.2)) (fun _ h => h.1)); replace au := kb_ hk au ga; replace aq := kb_ hk aq gb; replace HK := Aside0.mk (KeepBut.trans (bw) hk (.inl rfl)); replace HB := Aside0.mk (hb); replace HI0 := Aside0.mk (hi); (try clear hb); (try clear hk hi); have dy2 := qp.out; have dy3 := lr.out; have dy4 := gb.out; have dy5 := sr.out; obtain ⟨dy6, dy7, dy8, dy9⟩ := blk2_ aq; have p67 : 0 ≤ (0 : Int) := (by omega); have q67 : (0 : Int) < ((di.length : Int) : Int) := of_decide_eq_true (g0_); have qi67 : (0 < di.length) = True := eq_true (by omega); obtain ⟨n4, qs, bt4, bt5, gl67, cl67, HG67⟩ := Kd.R_form a5.out (by omega); (first | cases bt4 | (injection bt4 with ea_ en_ ec_; (first | subst ea_ | (injection ea_ with ea_; subst ea_)); subst ec_; clear en_)); have GB67 := Aside0.mk bt5; have GG67 := Aside0.mk HG67; clear bt5 gl67 HG67; obtain ⟨bt6, hf67_0⟩ := Kd.R_celln 0 a5.out (0 : Int) p67 q67; (try rw [show ((0 : Int)).toNat = 0 from rfl] at bt6); (try simp only [Nat.reduceMul, Nat.zero_mul, Nat.zero_add, Nat.reduceAdd] at bt6); (try rw [show ((0 : Int)).toNat = 0 from rfl] at hf67_0); (try simp only [Nat.reduceMul, Nat.zero_mul, Nat.zero_add, Nat.reduceAdd] at hf67_0); replace p67 := eq_true p67; replace q67 := eq_true q67; obtain ⟨hy73_, hz73_⟩ := Kd.R_celln 0 a5.out (0 : Int) (by omega) (of_decide_eq_true (g0_)); (try simp only [Int.reduceToNat, Int.toNat_zero, Int.toNat_ofNat, Nat.reduceMul, Nat.zero_mul, Nat.zero_add] at hy73_ hz73_); (try rw [show ((0 : Int)).toNat = 0 from rfl] at hy73_); (try rw [show ((0 : Int)).toNat = 0 from rfl] at hz73_); have HP73 := Kd.R_putg a5.out (0 : Int) (-1)) | ((with_reducible refine gate_store (t := 3) (p := 88) rfl ?_); refine store_event (t := 3) (p := 88) (v := ?vo_w74) (w1 := (w69.setCell ⟨n4, (0 : Int).toNat, none⟩ (.int .i64 (-1)))) ?hg ?ho ?hn ?hr ?_; (case ho => rfl); (case hg => rfl); (case hn => rfl); (case hr => first | (go_simp; done) | (go_simp; rfl)); intro w74 hw; have hg : w69.grownBy w74 (some n4) := (by rw [hw]; exact HP73.2); have hp_ : Kd.R (Kd.int .i64) 3 w74 w.heap.size (fun k_ => (w.heap.size ≤ k_)) (.slice (some ⟨n4, 0, none⟩) di.length qs) bt3 := (by rw [hw, ct4.out]; exact HP73.1); clear HP73; replace ay := Aside0.mk (Kd.S_after (v := (.slice (some ⟨n4, 0, none⟩) di.length qs)) (v1 := (.slice (some ⟨n4, 0, none⟩) di.length qs)) (ok := (fun k_ => (w.heap.size ≤ k_))) (uf3_ ay) hg (.inl rfl)); replace au := Aside0.mk (blk_grown (g := cc) (o := .cells #[.slice none 0 0, .slice none 0 0] 25 (0, 0)) (uf0_ au) hg (Kd.R_ne a5.out au.out (by decide))); replace aq := Aside0.mk (blk_grown (g := cr) (o := .cells #[.slice (some ⟨n4, 0, none⟩) di.length qs, gq] 25 (0, 0)) (uf0_ aq) hg (Kd.R_ne a5.out aq.out (by decide))); replace HI0 := Aside0.mk (IsS112.grown (ba) hg (IsS112.own_ne HI0.out a5.out (by decide))); replace HB := Aside0.mk ((by rw [hw]; exact below_set (HB.out) (Nat.le_trans HL.out GB67.out) : Below w0.heap.size w0 w74)); replace HK := Aside0.mk (KeepBut.trans (bw) (KeepBut.of_grown hg g) (Kd.R_base2 a5.out)); replace a5 := Aside0.mk (hp_); clear hg hw hp_; obtain ⟨dz0, dz1, dz2, dz3⟩ := blk2_ aq; have dz4 := ga.out; have dz5 := vb.out; obtain ⟨dz6, dz7, dz8, dz9⟩ := blk2_ au; obtain ⟨yv, yw, aj4⟩ := Kd.S_slice ay.out; subst aj4))
       refine bodyPost_ret (results_cell_row rfl _ _ cc 25 #[.slice (some ⟨n4, 0, none⟩) di.length qs, .slice yv bc.length yw] (0, 0) _ rfl (by (with_reducible repeat (first | refine blk_drewN ?_ _ | refine blk_drew ?_ | refine blk_alloc ?_ _)); refine blk_put (cs := #[.slice (some ⟨n4, 0, none⟩) di.length qs, .slice none 0 0]) ?_ 1 _ rfl; refine blk_put (cs := #[.slice none 0 0, .slice none 0 0]) ?_ 0 _ rfl; exact uf0_ au) Try.underlying25 rfl (g1_)) rfl ?_
       exact ⟨_, _, g4_, by (with_reducible repeat (first | apply Kd.R_alloc | apply Kd.R_drewN | apply Kd.R_drew)); exact Kd.R_mono (Kd.R_far (p := ⟨cc, 1, none⟩) (Kd.R_far (p := ⟨cc, 0, none⟩) (Kd.R_types a5.out au.out (by decide)) (fun _ hk => hk.2) (.slice (some ⟨n4, 0, none⟩) di.length qs)) (fun _ hk => hk.2) (.slice yv bc.length yw)) (fun _ hk => hk.1), Kd.S_V (by (with_reducible repeat (first | apply Kd.S_alloc | apply Kd.S_drewN | apply Kd.S_drew)); exact Kd.S_mono (Kd.S_far (p := ⟨cc, 1, none⟩) (Kd.S_far (p := ⟨cc, 0, none⟩) (Kd.S_types ay.out au.out (by decide)) (fun _ hk => hk.2) (.slice (some ⟨n4, 0, none⟩) di.length qs)) (fun _ hk => hk.2) (.slice yv bc.length yw)) (fun _ hk => ⟨hk.1.1, hk.1.2⟩)), ba, dg, bw⟩
      ·rw [if_neg st] at H
       have ct2 : (gs == 1) = false := beq_eq_false_iff_ne.mpr st
       have ct3 : (gs != 1) = true := bne_iff_ne.mpr st
       by_cases su : gs = 2
       ·rw [if_pos su] at H
        have ct5 : (gs == 2) = true := beq_iff_eq.mpr su
        have ct6 : (gs != 2) = false := bne_eq_false_iff_eq.mpr su
        clear su
        obtain ⟨c80, H⟩ := pos_ H
        have ea0 := decide_eq_true c80
        have ea1 : decide (0 < bc.length) = true := decide_eq_true (by omega)
        clear c80
        obtain ⟨yx, H⟩ := pos_ H
        have ct7 := decide_eq_true yx
        have ea2 : decide (0 < (rd_L1 bc 0).length) = true := decide_eq_true (by omega)
        clear yx
        obtain ⟨d9, hy226⟩ : ∃ y_ : List Int, y_ = ((rd_L1 bc 0).set (0 : Int).toNat 1) := ⟨_, rfl⟩
        replace H : (some (di, (bc.set (0 : Int).toNat d9), mt)) = some (r1, r2, r3) := by first | (rw [hy226]; with_reducible exact H) | (have H2_ := (Option.bind_some _ _).symm.trans H; rw [hy226]; with_reducible exact H2_) | (have H2_ := (Option.bind_some _ _).symm.trans H; with_reducible exact H2_) | with_reducible exact H | (rw [hy226]; exact H) | exact H
        have aj5 := Aside0.mk hy226
        clear hy226
        obtain ⟨bt7, hy228⟩ : ∃ y_ : List (List Int), y_ = (bc.set (0 : Int).toNat d9) := ⟨_, rfl⟩
        replace H : (some (di, bt7, mt)) = some (r1, r2, r3) := by first | (rw [hy228]; with_reducible exact H) | (have H2_ := (Option.bind_some _ _).symm.trans H; rw [hy228]; with_reducible exact H2_) | (have H2_ := (Option.bind_some _ _).symm.trans H; with_reducible exact H2_) | with_reducible exact H | (rw [hy228]; exact H) | exact H
        have ct8 := Aside0.mk hy228
        clear hy228
        simp only [Option.some.injEq, Prod.mk.injEq] at H
        obtain ⟨rfl, rfl, rfl⟩ := H
        go_wp2_with (first | ((with_reducible refine gate_callee (f := 106) rfl ?_); refine goesL_ (some 66) rfl rfl Try.func106 k_ rfl #[.pointer (some ⟨g, 0, none⟩), .int .i64 a1] rfl (g3_) ?_; (with_reducible refine (spec_l20Rd_odd.calls k1 g ak gj a1 true iy w0 _ ?side1 ?side2 vh.out).mono ?_); (case side1 => exact ba); (case side2 => exact dg); rintro e w83 ⟨rfl, hi, hb, hk⟩; refine ⟨_, rfl, ?_⟩; replace a5 := Aside0.mk (Kd.R_mono (Kd.R_keep (IsS112.apart (show IsS112 w0 _ g ak gj from ba) (uf1_ a5) (by decide)) hk (fun _ h => h.2)) (fun _ h => h.1)); replace ay := Aside0.mk (Kd.S_mono (Kd.S_keep (IsS112.apartS (show IsS112 w0 _ g ak gj from ba) (uf3_ ay) (by decide)) hk (fun _ h => h.2)) (fun _ h => h.1)); replace au := kb_ hk au ga; replace aq := kb_ hk aq gb; replace HK := Aside0.mk (KeepBut.trans (bw) hk (.inl rfl)); replace HB := Aside0.mk (hb); replace HI0 := Aside0.mk (hi); (try clear hb); (try clear hk hi)) | ((with_reducible refine gate_callee (f := 70) rfl ?_); refine goesL_ (some 68) rfl rfl Try.func70 k_ rfl #[.pointer (some ⟨g, 0, none⟩), .int .i64 4] rfl (g3_) ?_; (with_reducible refine (spec_l20Rd_pick.calls k1 g ak iy 4 gs mt w0 _ ?side1 ?side2 n0.out).mono ?_); (case side1 => exact ba); (case side2 => exact dg); rintro e w84 ⟨rfl, hi, hb, hk⟩; refine ⟨_, rfl, ?_⟩; replace a5 := Aside0.mk (Kd.R_mono (Kd.R_keep (IsS112.apart (show IsS112 w0 _ g ak iy from ba) (uf1_ a5) (by decide)) hk (fun _ h => h.2)) (fun _ h => h.1)); replace ay := Aside0.mk (Kd.S_mono (Kd.S_keep (IsS112.apartS (show IsS112 w0 _ g ak iy from ba) (uf3_ ay) (by decide)) hk (fun _ h => h.2)) (fun _ h => h.1)); replace au := kb_ hk au ga; replace aq := kb_ hk aq gb; replace HK := Aside0.mk (KeepBut.trans (bw) hk (.inl rfl)); replace HB := Aside0.mk (hb); replace HI0 := Aside0.mk (hi); (try clear hb); (try clear hk hi); have ct9 := qp.out; have cu0 := lr.out; have ea3 := gb.out; have ea4 := sr.out; obtain ⟨ea5, ea6, ea7, ea8⟩ := blk2_ aq; obtain ⟨cu1, ji, aj6⟩ := Kd.S_slice ay.out; subst aj6; have pc : 0 ≤ (0 : Int) := (by omega); have pd : 0 < (bc.length : Int) := of_decide_eq_true (g0_); obtain ⟨vi, sv, pe, ay3, pf, yy, yz⟩ := at_L1 (Kd.S_reads' ay.out).2.2 0 pc pd; cases ay3; obtain ⟨ce225, hce225, hMe225, hcc225⟩ := Kd.S_get ay.out [] 0 pc (by first | exact pd | exact of_decide_eq_true (g0_) | (have e_ := (Kd.S_reads' ay.out).1; omega)); obtain ⟨ve225_0, rfl, ge225_0⟩ := hMe225; have hv225_0 := hcc225 0 _ rfl; rw [Nat.add_zero, show ((Kd.slice 3 (Kd.int .i64))).sz = 1 from rfl, Nat.mul_one] at hv225_0; replace hv225_0 := Option.some.inj (hv225_0.symm.trans pf); rw [hv225_0] at ge225_0; have j5 := Aside0.mk (show Kd.R (Kd.int .i64) 3 _ _ _ _ (rd_L1 bc 0) from ge225_0); clear hv225_0 ge225_0; have HX225_0 := Aside0.mk pf; clear hcc225 hce225; have qi225 : (0 < bc.length) = True := eq_true (by omega); (try rw [show ((0 : Int)).toNat = 0 from rfl] at pf); (try rw [Addr.add_zero'] at pf); have bt8 := Aside0.mk yz; have bt9 := Aside0.mk yy; clear yz yy; replace pc := eq_true pc; replace pd := eq_true pd; have p82 : 0 ≤ (0 : Int) := (by omega); have q82 : (0 : Int) < (((rd_L1 bc 0).length : Int) : Int) := of_decide_eq_true (g0_); have qi82 : (0 < (rd_L1 bc 0).length) = True := eq_true (by omega); obtain ⟨ay4, ea9, bu0, bu1, gl82, cl82, HG82⟩ := Kd.R_form j5.out (by omega); (first | cases bu0 | (injection bu0 with ea_ en_ ec_; (first | subst ea_ | (injection ea_ with ea_; subst ea_)); subst ec_; clear en_)); have GB82 := Aside0.mk bu1; have GG82 := Aside0.mk HG82; clear bu1 gl82 HG82; obtain ⟨bu2, hf82_0⟩ := Kd.R_celln 0 j5.out (0 : Int) p82 q82; (try rw [show ((0 : Int)).toNat = 0 from rfl] at bu2); (try simp only [Nat.reduceMul, Nat.zero_mul, Nat.zero_add, Nat.reduceAdd] at bu2); (try rw [show ((0 : Int)).toNat = 0 from rfl] at hf82_0); (try simp only [Nat.reduceMul, Nat.zero_mul, Nat.zero_add, Nat.reduceAdd] at hf82_0); replace p82 := eq_true p82; replace q82 := eq_true q82; have hq89 : (0 : Int) < (bc.length : Int) := (by have h_ : (0 : Int) < ((bc.length : Int) : Int) := of_decide_eq_true (g0_); first | exact h_ | (have e_ := (Kd.S_reads' ay.out).1; omega) | simpa only [List.length_set, List.length_set] using h_); obtain ⟨oki89, ce89, hcl89, hM89, hcc89, hok89, hbk89⟩ := Kd.S_borrow ay.out [] (0 : Int) (by omega) hq89; obtain ⟨ve89_0, rfl, ge89_0⟩ := hM89; have hv89 := hcc89 0 _ rfl; rw [Nat.add_zero, show ((Kd.slice 3 (Kd.int .i64))).sz = 1 from rfl, Nat.mul_one] at hv89; replace hv89 := Option.some.inj (hv89.symm.trans HX225_0.out); subst hv89; clear hcc89 hcl89; replace ge89_0 := (show Kd.R (Kd.int .i64) 3 _ _ _ _ (rd_L1 bc 0) from ge89_0); have HP89 := Kd.R_putg ge89_0 (0 : Int) 1) | ((with_reducible refine gate_store (t := 3) (p := 95) rfl ?_); refine store_event (t := 3) (p := 95) (v := ?vo_w90) (w1 := (w84.setCell ⟨ay4, 0, none⟩ (.int .i64 1))) ?hg ?ho ?hn ?hr ?_; (case ho => rfl); (case hg => rfl); (case hn => rfl); (case hr => first | (go_simp; done) | (go_simp; rfl)); intro w90 hw; have hg : w84.grownBy w90 (some ay4) := (by rw [hw]; exact HP89.2); have hz_ : Kd.R (Kd.int .i64) 3 w90 w.heap.size oki89 (.slice (some ⟨ay4, 0, none⟩) (rd_L1 bc 0).length pe) d9 := (by rw [hw, aj5.out]; exact HP89.1); have hp_ : Kd.S (Kd.slice 3 (Kd.int .i64)) 22 w90 w.heap.size (fun k_ => (w.heap.size ≤ k_) ∧ some k_ ≠ (fs : Value).ownBlock) (.slice (some vi) bc.length ji) bt7 := (by rw [ct8.out]; exact hbk89 hg (fun k_ e_ => by injection e_ with e_; subst e_; exact ge89_0.1 _ rfl) (Kd.M_row hz_)); have hm_ := Kd.R_mono hz_ hok89; clear HP89 hbk89; replace a5 := Aside0.mk (Kd.R_grown1 (uf1_ a5) rfl hg ((j5.out.1 _ rfl).1.2)); replace ay := Aside0.mk (hp_); replace au := Aside0.mk (blk_grown (g := cc) (o := .cells #[.slice none 0 0, .slice none 0 0] 25 (0, 0)) (uf0_ au) hg (Kd.R_ne j5.out au.out (by decide))); replace aq := Aside0.mk (blk_grown (g := cr) (o := .cells #[fs, .slice (some vi) bc.length ji] 25 (0, 0)) (uf0_ aq) hg (Kd.R_ne j5.out aq.out (by decide))); replace HI0 := Aside0.mk (IsS112.grown (ba) hg (IsS112.own_ne HI0.out j5.out (by decide))); replace HB := Aside0.mk ((by rw [hw]; exact below_set (HB.out) (Nat.le_trans HL.out GB82.out) : Below w0.heap.size w0 w90)); replace HK := Aside0.mk (KeepBut.trans (bw) (KeepBut.of_grown hg g) (Kd.R_base2 j5.out)); have eb0 := Aside0.mk (hm_); have eb1 := Aside0.mk ((Kd.R_reads' hm_).2.1); clear j5; clear hg hw hp_ hz_ hm_ hok89; obtain ⟨cu2, cu3, cu4, cu5⟩ := blk2_ aq; obtain ⟨aj7, aj8, cu6⟩ := Kd.R_slice a5.out; subst cu6; have cu7 := ga.out; have cu8 := vb.out; obtain ⟨cu9, cv0, cv1, cv2⟩ := blk2_ au))
        refine bodyPost_ret (results_cell_row rfl _ _ cc 25 #[.slice aj7 di.length aj8, .slice (some vi) bc.length ji] (0, 0) _ rfl (by (with_reducible repeat (first | refine blk_drewN ?_ _ | refine blk_drew ?_ | refine blk_alloc ?_ _)); refine blk_put (cs := #[.slice aj7 di.length aj8, .slice none 0 0]) ?_ 1 _ rfl; refine blk_put (cs := #[.slice none 0 0, .slice none 0 0]) ?_ 0 _ rfl; exact uf0_ au) Try.underlying25 rfl (g1_)) rfl ?_
        exact ⟨_, _, g4_, by (with_reducible repeat (first | apply Kd.R_alloc | apply Kd.R_drewN | apply Kd.R_drew)); exact Kd.R_mono (Kd.R_far (p := ⟨cc, 1, none⟩) (Kd.R_far (p := ⟨cc, 0, none⟩) (Kd.R_types a5.out au.out (by decide)) (fun _ hk => hk.2) (.slice aj7 di.length aj8)) (fun _ hk => hk.2) (.slice (some vi) bc.length ji)) (fun _ hk => hk.1), Kd.S_V (by (with_reducible repeat (first | apply Kd.S_alloc | apply Kd.S_drewN | apply Kd.S_drew)); exact Kd.S_mono (Kd.S_far (p := ⟨cc, 1, none⟩) (Kd.S_far (p := ⟨cc, 0, none⟩) (Kd.S_types ay.out au.out (by decide)) (fun _ hk => hk.2) (.slice aj7 di.length aj8)) (fun _ hk => hk.2) (.slice (some vi) bc.length ji)) (fun _ hk => ⟨hk.1.1, hk.1.2⟩)), ba, dg, bw⟩
       ·rw [if_neg su] at H
        have n_ : Kd.N (Kd.slice 3 (Kd.int .i64)) 22 wr w.heap.size (fun k_ => (w.heap.size ≤ k_) ∧ some k_ ≠ (fs : Value).ownBlock ∧ k_ ≠ cc ∧ k_ ≠ cr ∧ k_ ≠ g) gq bc := Kd.N_mono (Kd.S_N (IsS112.apartS HI0.out (Kd.S_types (Kd.S_types ay.out au.out (by decide)) aq.out (by decide)) (by decide))) (fun k_ hk => ⟨hk.1.1.1.1, hk.1.1.1.2, hk.1.1.2, hk.1.2, hk.2⟩)
        clear ay
        have ay := Aside0.mk n_
        clear n_
        have ct5 : (gs == 2) = false := beq_eq_false_iff_ne.mpr su
        have ct6 : (gs != 2) = true := bne_iff_ne.mpr su
        obtain ⟨ji80, hji80⟩ : ∃ j_ : Int, (wrap64 ((rd f2 ia) - 1)) = j_ := ⟨_, rfl⟩
        replace H : (if 0 ≤ (ji80) then (if (ji80) < (bc.length : Int) then (if 1 ≤ ((rd_L1 bc (ji80)).length : Int) then (some (di, (bc.set ((ji80) : Int).toNat ((rd_L1 bc (ji80)).drop 1)), mt)) else (none)) else (none)) else (none)) = some (r1, r2, r3) := by first | (rw [hji80] at H; exact H) | (simp only [hji80] at H ⊢; exact H)
        (try rw [hji80] at vh)
        (try rw [hji80] at n0)
        have hji80w : (IntKind.i64.wrap ((rd f2 ia) - 1)) = ji80 := (i64_w _).trans hji80
        obtain ⟨yx, H⟩ := pos_ H
        have ct7 := decide_eq_true yx
        clear yx
        obtain ⟨sw, H⟩ := pos_ H
        have eb2 := decide_eq_true sw
        clear sw
        obtain ⟨c83, H⟩ := pos_ H
        have eb3 := eq_true c83
        have eb4 := decide_eq_true c83
        clear c83
        obtain ⟨d9, hy226⟩ : ∃ y_ : List Int, y_ = ((rd_L1 bc (ji80)).drop 1) := ⟨_, rfl⟩
        replace H : (some (di, (bc.set ((ji80) : Int).toNat d9), mt)) = some (r1, r2, r3) := by first | (rw [hy226]; with_reducible exact H) | (have H2_ := (Option.bind_some _ _).symm.trans H; rw [hy226]; with_reducible exact H2_) | (have H2_ := (Option.bind_some _ _).symm.trans H; with_reducible exact H2_) | with_reducible exact H | (rw [hy226]; exact H) | exact H
        have aj5 := Aside0.mk hy226
        clear hy226
        obtain ⟨bu3, hy231⟩ : ∃ y_ : List (List Int), y_ = (bc.set ((ji80) : Int).toNat d9) := ⟨_, rfl⟩
        replace H : (some (di, bu3, mt)) = some (r1, r2, r3) := by first | (rw [hy231]; with_reducible exact H) | (have H2_ := (Option.bind_some _ _).symm.trans H; rw [hy231]; with_reducible exact H2_) | (have H2_ := (Option.bind_some _ _).symm.trans H; with_reducible exact H2_) | with_reducible exact H | (rw [hy231]; exact H) | exact H
        have cv3 := Aside0.mk hy231
        clear hy231
        simp only [Option.some.injEq, Prod.mk.injEq] at H
        obtain ⟨rfl, rfl, rfl⟩ := H
        try go_wp2_with (first | ((with_reducible refine gate_callee (f := 106) rfl ?_); refine goesL_ (some 66) rfl rfl Try.func106 k_ rfl #[.pointer (some ⟨g, 0, none⟩), .int .i64 a1] rfl (g3_) ?_; (with_reducible refine (spec_l20Rd_odd.calls k1 g ak gj a1 true iy w0 _ ?side1 ?side2 vh.out).mono ?_); (case side1 => exact ba); (case side2 => exact dg); rintro e w85 ⟨rfl, hi, hb, hk⟩; refine ⟨_, rfl, ?_⟩; replace a5 := Aside0.mk (Kd.R_mono (Kd.R_keep (IsS112.apart (show IsS112 w0 _ g ak gj from ba) (uf1_ a5) (by decide)) hk (fun _ h => h.2)) (fun _ h => h.1)); replace ay := Aside0.mk (Kd.N_mono (Kd.N_keep (Kd.N_mono (ok := fun k_ => (((w.heap.size ≤ k_)) ∧ (some k_ ≠ (fs : Value).ownBlock ∧ (k_ ≠ cc ∧ (k_ ≠ cr ∧ k_ ≠ g))))) (uf4_ ay) (fun k_ hk_ => (⟨hk_, hk_.2.2.2.2⟩ : _ ∧ k_ ≠ g))) hk (fun _ h => h.2)) (fun _ h => h.1)); replace au := kb_ hk au ga; replace aq := kb_ hk aq gb; replace HK := Aside0.mk (KeepBut.trans (bw) hk (.inl rfl)); replace HB := Aside0.mk (hb); replace HI0 := Aside0.mk (hi); (try clear hb); (try clear hk hi)) | ((with_reducible refine gate_callee (f := 70) rfl ?_); refine goesL_ (some 68) rfl rfl Try.func70 k_ rfl #[.pointer (some ⟨g, 0, none⟩), .int .i64 4] rfl (g3_) ?_; (with_reducible refine (spec_l20Rd_pick.calls k1 g ak iy 4 gs mt w0 _ ?side1 ?side2 n0.out).mono ?_); (case side1 => exact ba); (case side2 => exact dg); rintro e w86 ⟨rfl, hi, hb, hk⟩; refine ⟨_, rfl, ?_⟩; replace a5 := Aside0.mk (Kd.R_mono (Kd.R_keep (IsS112.apart (show IsS112 w0 _ g ak iy from ba) (uf1_ a5) (by decide)) hk (fun _ h => h.2)) (fun _ h => h.1)); replace ay := Aside0.mk (Kd.N_mono (Kd.N_keep (Kd.N_mono (ok := fun k_ => (((w.heap.size ≤ k_)) ∧ (some k_ ≠ (fs : Value).ownBlock ∧ (k_ ≠ cc ∧ (k_ ≠ cr ∧ k_ ≠ g))))) (uf4_ ay) (fun k_ hk_ => (⟨hk_, hk_.2.2.2.2⟩ : _ ∧ k_ ≠ g))) hk (fun _ h => h.2)) (fun _ h => h.1)); replace au := kb_ hk au ga; replace aq := kb_ hk aq gb; replace HK := Aside0.mk (KeepBut.trans (bw) hk (.inl rfl)); replace HB := Aside0.mk (hb); replace HI0 := Aside0.mk (hi); (try clear hb); (try clear hk hi)))
        replace a5 := Aside0.mk (Kd.R_drew a5.out)
        replace ay := Aside0.mk (Kd.N_drew ay.out)
        replace au := Aside0.mk (blk_drew au.out)
        replace aq := Aside0.mk (blk_drew aq.out)
        replace HI0 := Aside0.mk (IsS112.drew HI0.out)
        replace HK := Aside0.mk (keep_drew HK.out)
        replace HB := Aside0.mk (below_drew1 HB.out)
        obtain ⟨cu1, ji, aj6⟩ := Kd.N_slice ay.out
        (first | subst aj6 | (injection aj6 with f1_ f2_ f3_; have f4_ := f1_.symm; have f5_ := f3_.symm; clear f1_ f2_ f3_; subst f4_; subst f5_))
        have pc : 0 ≤ ((ji80) : Int) := of_decide_eq_true (g0_)
        have pd : (ji80) < (bc.length : Int) := of_decide_eq_true (g0_)
        obtain ⟨vi, sv, pe, ay3, pf, yy, yz⟩ := at_L1 (Kd.N_reads' ay.out).2.2 (ji80) pc pd
        cases ay3
        obtain ⟨ce225, hce225, hMe225, hcc225⟩ := Kd.N_get ay.out [] (ji80) pc (by first | exact pd | exact of_decide_eq_true (g0_) | (have e_ := (Kd.N_reads' ay.out).1; omega))
        obtain ⟨ua225_0, uc225_0, rfl, ul225_0, ge225_0⟩ := Kd.FK_slice_open hMe225
        have hv225_0 := hcc225 0 _ rfl
        rw [Nat.add_zero, show ((Kd.slice 3 (Kd.int .i64))).sz = 1 from rfl, Nat.mul_one] at hv225_0
        replace hv225_0 := Option.some.inj (hv225_0.symm.trans pf)
        injection hv225_0 with hva_ hvn_ hvc_
        rw [hva_] at ge225_0
        rw [hvc_] at ul225_0
        have j5 := Aside0.mk (show Kd.V (Kd.int .i64) 3 _ w.heap.size _ _ (rd_L1 bc (ji80)) from Kd.V_mk ul225_0 ge225_0)
        clear hva_ hvn_ hvc_ ge225_0 ul225_0
        clear hcc225 hce225
        have bt8 := Aside0.mk yz
        have bt9 := Aside0.mk yy
        clear yz yy
        replace pc := eq_true pc
        replace pd := eq_true pd
        have q89 : (1 : Int) ≤ (((rd_L1 bc (ji80)).length : Int) : Int) := of_decide_eq_true (g0_)
        obtain ⟨i089, bu4, _, hsz89, _⟩ := info_parts info3
        have hroom89 : (rd_L1 bc (ji80)).length ≤ pe := bt9.out
        have hC89 : Kd.F (Kd.int .i64) _ _ sv (rd_L1 bc (ji80)).length (rd_L1 bc (ji80)) := (Kd.V_at (base := w.heap.size) j5.out).2.2
        have hcut89 := cut_from (P := Try.prog) 22 3 .i64 Try.underlying22 bu4 1 hsz89 sv (rd_L1 bc (ji80)).length pe 1 (by omega) q89
        have za := Kd.F_cut (m := (1 : Int).toNat) (c := pe) hC89 (by omega) hroom89
        obtain ⟨ie, hA89⟩ : ∃ A1, A1 = (if pe = (1 : Int).toNat then sv else (sv : Option Addr).map (·.add ((1 : Int).toNat * 1))) := ⟨_, rfl⟩
        obtain ⟨ig, aj9⟩ : ∃ c1, c1 = pe - (1 : Int).toNat := ⟨_, rfl⟩
        have hy89 : d9.length = (rd_L1 bc (ji80)).length - (1 : Int).toNat := (by rw [aj5.out, List.length_drop] <;> omega)
        rw [show (rd_L1 bc (ji80)).drop (1 : Int).toNat = d9 from aj5.out.symm] at za
        replace za : Kd.F (Kd.int .i64) _ _ ie d9.length d9 := (by rw [hA89]; exact za)
        rw [← hy89, ← hA89, ← aj9] at hcut89
        have vj := Aside0.mk (show Kd.V (Kd.int .i64) 3 _ w.heap.size _ (.slice ie d9.length ig) d9 from Kd.V_mk (by rw [hy89, aj9]; exact Nat.sub_le_sub_right hroom89 _) za)
        have eb5 := Aside0.mk (show d9.length ≤ ig from by rw [hy89, aj9]; exact Nat.sub_le_sub_right hroom89 _)
        clear za hC89 hroom89 bu4 hsz89 aj9
        have KY89 := Aside0.mk hy89
        have KA89 := Aside0.mk hA89
        clear hy89 hA89
        replace q89 := eq_true q89
        have p84 : 0 ≤ ((ji80) : Int) := of_decide_eq_true (g0_)
        have q84 : ((ji80) : Int) < ((bc.length : Int) : Int) := of_decide_eq_true (g0_)
        obtain ⟨ei, eb6, bu5, bu6, gl84, cl84, HG84⟩ := Kd.N_form ay.out (by omega)
        (first | cases bu5 | (injection bu5 with ea_ en_ ec_; (first | subst ea_ | (injection ea_ with ea_; subst ea_)); subst ec_; clear en_))
        have GB84 := Aside0.mk bu6
        have GG84 := Aside0.mk HG84
        clear bu6 gl84 HG84
        (first | simp only [add_plain] at pf | skip)
        obtain ⟨ce84, hcl84, hM84, hcc84, hfr84⟩ := Kd.N_elem ay.out [] ((ji80) : Int) p84 q84
        obtain ⟨ua84_0, uc84_0, rfl, ul84_0, ge84_0⟩ := Kd.FK_slice_open hM84
        have bu7 := hcc84 0 _ rfl
        have hf84_0 := hfr84 0
        (try simp only [show ((Kd.slice 3 (Kd.int .i64))).sz = 1 from rfl, Nat.mul_one, Nat.add_zero] at bu7)
        (try simp only [show ((Kd.slice 3 (Kd.int .i64))).sz = 1 from rfl, Nat.mul_one, Nat.add_zero] at hf84_0)
        clear hcl84 hcc84 hfr84 hM84
        replace p84 := eq_true p84
        replace q84 := eq_true q84
        have HN0_go84 := Aside0.mk (show g ≠ ei from by have h_ := IsS112.own_neN HI0.out ay.out (by decide); intro e_; exact h_ (g6_))
        have HX90 := Aside0.mk (show Kd.N (Kd.slice 3 (Kd.int .i64)) 22 _ w.heap.size (fun k_ => (w.heap.size ≤ k_) ∧ some k_ ≠ (fs : Value).ownBlock ∧ k_ ≠ cc ∧ k_ ≠ cr ∧ k_ ≠ g) (.slice (some ⟨ei, 0, none⟩) bc.length ji) bc from (Kd.N_mono (ay.out) (fun k_ hk => ⟨hk.1, ⟨hk.2.1, ⟨hk.2.2.1, ⟨hk.2.2.2.1, hk.2.2.2.2⟩⟩⟩⟩)))
        obtain ⟨ce90, hcl90, hM90, hcc90, hfr90⟩ := Kd.N_elem HX90.out [] ((ji80) : Int) (of_decide_eq_true (g0_)) (by have h_ : ((ji80) : Int) < ((bc.length : Int) : Int) := of_decide_eq_true (g0_); first | exact h_ | (have e_ := (Kd.N_reads' ay.out).1; omega) | simpa using h_)
        obtain ⟨ua90_0, uc90_0, rfl, ul90_0, ge90_0⟩ := Kd.FK_slice_open hM90
        have HP90 := (Kd.N_seg HX90.out ((ji80) : Int) (of_decide_eq_true (g0_)) (by have h_ : ((ji80) : Int) < ((bc.length : Int) : Int) := of_decide_eq_true (g0_); first | exact h_ | (have e_ := (Kd.N_reads' ay.out).1; omega) | simpa using h_) (seg := [.slice ie d9.length ig]) (j := 0) hcl90 hcc90 (show 1 ≤ 1 from by decide) (x' := d9) (Kd.FK_slice_mk (Kd.V_reads' (Kd.V_mono (ok' := (fun k_ => ((fun k_ => (w.heap.size ≤ k_) ∧ some k_ ≠ (fs : Value).ownBlock ∧ k_ ≠ cc ∧ k_ ≠ cr ∧ k_ ≠ g)) k_ ∧ k_ ≠ ei)) (vj.out) (fun k_ hk => ⟨⟨hk.1.1, ⟨hk.1.2.1, ⟨hk.1.2.2.1, ⟨hk.1.2.2.2.1, hk.1.2.2.2.2⟩⟩⟩⟩, fun e_ => (hk.2) (g6_)⟩))).2.1 (Kd.V_F (Kd.V_mono (ok' := (fun k_ => ((fun k_ => (w.heap.size ≤ k_) ∧ some k_ ≠ (fs : Value).ownBlock ∧ k_ ≠ cc ∧ k_ ≠ cr ∧ k_ ≠ g)) k_ ∧ k_ ≠ ei)) (vj.out) (fun k_ hk => ⟨⟨hk.1.1, ⟨hk.1.2.1, ⟨hk.1.2.2.1, ⟨hk.1.2.2.2.1, hk.1.2.2.2.2⟩⟩⟩⟩, fun e_ => (hk.2) (g6_)⟩)))) (fun _ hk => hk)).1
        (try simp only [show ((Kd.slice 3 (Kd.int .i64))).sz = 1 from rfl, Nat.mul_one, Nat.add_zero] at HP90)
        rw [← cv3.out] at HP90
        have HQ90 := Aside0.mk HP90
        clear hcl90 hcc90 hfr90 hM90 HP90
        refine start_ (n := 13) (S := fun w' => w'.cell? ⟨cr, 0, none⟩ = some (fs) ∧ w'.cell? ⟨cr, 1, none⟩ = some (.slice (some ⟨ei, 0, none⟩) bc.length ji) ∧ w'.cell? ⟨ei, ((ji80)).toNat, none⟩ = some (.slice sv (rd_L1 bc (ji80)).length pe)) (ds := [12]) (tl_ 13 0) (g1_) rfl (g1_) ⟨(blk_cell aq.out 0).trans rfl, (blk_cell aq.out 1).trans rfl, pf⟩ (fun hHeld => ?_); refine with_tabW spec_l20Book.tab19 spec_l20Book.bits19 (fun HT_ HW_ => ?_)
        generalize w86.drew = mu at a5 ay au aq HI0 HK HB GG84 j5 vj HQ90 bt8 hf84_0 pf bu7 hHeld ⊢
        refine pw_ 0 69 (tl_ 13 1) rfl rfl ?_
        refine pw_ 2 71 (tl_ 13 5) rfl rfl ?_
        refine pw_ 3 72 (tl_ 13 13) rfl rfl ?_
        refine pw_ 4 73 (tl_ 13 29) rfl rfl ?_
        refine pw_ 6 75 (tl_ 13 93) rfl rfl ?_
        refine pw_ 7 76 (tl_ 13 221) rfl rfl ?_
        refine tk1_ 1 70 (tl_ 13 223) rfl rfl hHeld ?_
        refine tk1_ 5 74 (tl_ 13 255) rfl rfl hHeld ?_
        refine pw_ 8 77 (tl_ 13 511) rfl rfl ?_
        refine tk1_ 9 78 (tl_ 13 1023) rfl rfl hHeld ?_
        refine pw_ 10 79 (tl_ 13 2047) rfl rfl ?_
        refine pw_ 11 80 (tl_ 13 4095) rfl rfl ?_
        refine last_ (i := 12) (N := none) (tl_ 13 8191) rfl rfl (one_of HT_.out (g1_)) (by decide) (fun K hK => ?_)
        refine skip_ (w1 := ?_) (by rfl) rfl ?_ ?_
        rotate_left
        ·go_simp
         rfl
        refine hK.out _ _ ?_
        clear hK K
        refine done_ (done_of HT_.out (g1_)) ?_
        have n0_ : Aside0 (Kd.R (Kd.int .i64) 3 (mu.setCell ⟨ei, ((ji80) : Int).toNat, none⟩ (.slice ie d9.length ig)) w.heap.size (fun k_ => (w.heap.size ≤ k_)) fs di) := ⟨by (with_reducible repeat (first | apply Kd.R_alloc | apply Kd.R_drewN | apply Kd.R_drew)); exact Kd.R_mono (Kd.R_far (p := ⟨ei, ((ji80) : Int).toNat, none⟩) (Kd.R_types a5.out GG84.out (by decide)) (fun _ hk => hk.2) (.slice ie d9.length ig)) (fun _ hk => hk.1)⟩
        have n1_ : Aside0 (Kd.N (Kd.slice 3 (Kd.int .i64)) 22 (mu.setCell ⟨ei, ((ji80) : Int).toNat, none⟩ (.slice ie d9.length ig)) w.heap.size (fun k_ => (w.heap.size ≤ k_) ∧ some k_ ≠ (fs : Value).ownBlock ∧ k_ ≠ cc ∧ k_ ≠ cr ∧ k_ ≠ g) (.slice (some ⟨ei, 0, none⟩) bc.length ji) bu3) := ⟨uf4_ HQ90⟩
        have n2_ : Aside0 (Kd.V (Kd.int .i64) 3 (mu.setCell ⟨ei, ((ji80) : Int).toNat, none⟩ (.slice ie d9.length ig)) w.heap.size (fun k_ => (w.heap.size ≤ k_) ∧ some k_ ≠ (fs : Value).ownBlock ∧ some k_ ≠ (.slice (some ⟨ei, 0, none⟩) bc.length ji : Value).ownBlock ∧ k_ ≠ cc ∧ k_ ≠ cr ∧ k_ ≠ g) (.slice sv (rd_L1 bc (ji80)).length pe) (rd_L1 bc (ji80))) := ⟨by (with_reducible repeat (first | apply Kd.V_alloc | apply Kd.V_drewN | apply Kd.V_drew)); exact Kd.V_mono (Kd.V_far (p := ⟨ei, ((ji80) : Int).toNat, none⟩) (Kd.V_mono j5.out (fun k_ hk => (⟨hk, fun e_ => hk.2 (g6_)⟩ : _ ∧ k_ ≠ ei))) (fun _ hk => hk.2) (.slice ie d9.length ig)) (fun _ hk => ⟨hk.1.1.1, ⟨hk.1.1.2.1, ⟨hk.1.2, ⟨hk.1.1.2.2.1, ⟨hk.1.1.2.2.2.1, hk.1.1.2.2.2.2⟩⟩⟩⟩⟩)⟩
        have n3_ : Aside0 (Kd.V (Kd.int .i64) 3 (mu.setCell ⟨ei, ((ji80) : Int).toNat, none⟩ (.slice ie d9.length ig)) w.heap.size (fun k_ => (w.heap.size ≤ k_) ∧ some k_ ≠ (fs : Value).ownBlock ∧ some k_ ≠ (.slice (some ⟨ei, 0, none⟩) bc.length ji : Value).ownBlock ∧ k_ ≠ cc ∧ k_ ≠ cr ∧ k_ ≠ g) (.slice ie d9.length ig) d9) := ⟨by (with_reducible repeat (first | apply Kd.V_alloc | apply Kd.V_drewN | apply Kd.V_drew)); exact Kd.V_mono (Kd.V_far (p := ⟨ei, ((ji80) : Int).toNat, none⟩) (Kd.V_mono vj.out (fun k_ hk => (⟨hk, fun e_ => hk.2 (g6_)⟩ : _ ∧ k_ ≠ ei))) (fun _ hk => hk.2) (.slice ie d9.length ig)) (fun _ hk => ⟨hk.1.1.1, ⟨hk.1.1.2.1, ⟨hk.1.2, ⟨hk.1.1.2.2.1, ⟨hk.1.1.2.2.2.1, hk.1.1.2.2.2.2⟩⟩⟩⟩⟩)⟩
        have n4_ : Aside0 ((mu.setCell ⟨ei, ((ji80) : Int).toNat, none⟩ (.slice ie d9.length ig)).heap[cc]? = some (.cells #[.slice none 0 0, .slice none 0 0] 25 (0, 0))) := ⟨by (with_reducible repeat (first | refine blk_drewN ?_ _ | refine blk_drew ?_ | refine blk_alloc ?_ _)); refine blk_far ?_ (by have h_ := Kd.N_away ay.out (fun _ hk => hk.2.2.1); intro e_; exact h_ (g6_)) _; exact uf0_ au⟩
        have n5_ : Aside0 ((mu.setCell ⟨ei, ((ji80) : Int).toNat, none⟩ (.slice ie d9.length ig)).heap[cr]? = some (.cells #[fs, .slice (some ⟨ei, 0, none⟩) bc.length ji] 25 (0, 0))) := ⟨by (with_reducible repeat (first | refine blk_drewN ?_ _ | refine blk_drew ?_ | refine blk_alloc ?_ _)); refine blk_far ?_ (by have h_ := Kd.N_away ay.out (fun _ hk => hk.2.2.2.1); intro e_; exact h_ (g6_)) _; exact uf0_ aq⟩
        have n6_ : Aside0 (IsS112 w0 (mu.setCell ⟨ei, ((ji80) : Int).toNat, none⟩ (.slice ie d9.length ig)) g ak mt) := ⟨ba⟩
        have n7_ : Aside0 (KeepBut w (mu.setCell ⟨ei, ((ji80) : Int).toNat, none⟩ (.slice ie d9.length ig)) g none) := ⟨bw⟩
        have n8_ : Aside0 (Below w0.heap.size w0 (mu.setCell ⟨ei, ((ji80) : Int).toNat, none⟩ (.slice ie d9.length ig))) := ⟨dg⟩
        (try clear a5)
        (try clear ay)
        (try clear j5)
        (try clear vj)
        (try clear au)
        (try clear aq)
        (try clear HI0)
        (try clear HK)
        (try clear HB)
        generalize (mu.setCell ⟨ei, ((ji80) : Int).toNat, none⟩ (.slice ie d9.length ig)) = w91 at n0_ n1_ n2_ n3_ n4_ n5_ n6_ n7_ n8_ ⊢
        have a5 := n0_
        have ay := n1_
        have j5 := n2_
        have vj := n3_
        have au := n4_
        have aq := n5_
        have HI0 := n6_
        have HK := n7_
        have HB := n8_
        clear n0_ n1_ n2_ n3_ n4_ n5_ n6_ n7_ n8_
        have eb7 := qp.out
        have eb8 := lr.out
        have cu7 := gb.out
        have cu8 := sr.out
        obtain ⟨cu9, cv0, cv1, cv2⟩ := blk2_ aq
        obtain ⟨ak0, ak1, cv4⟩ := Kd.R_slice a5.out
        subst cv4
        have cv5 := ga.out
        have cv6 := vb.out
        obtain ⟨eb9, ec0, ec1, ec2⟩ := blk2_ au
        try go_wp2
        refine bodyPost_ret (results_cell_row rfl _ _ cc 25 #[.slice ak0 di.length ak1, .slice (some ⟨ei, 0, none⟩) bc.length ji] (0, 0) _ rfl (by (with_reducible repeat (first | refine blk_drewN ?_ _ | refine blk_drew ?_ | refine blk_alloc ?_ _)); refine blk_put (cs := #[.slice ak0 di.length ak1, .slice none 0 0]) ?_ 1 _ rfl; refine blk_put (cs := #[.slice none 0 0, .slice none 0 0]) ?_ 0 _ rfl; exact uf0_ au) Try.underlying25 rfl (g1_)) rfl ?_
        exact ⟨_, _, by first | rfl | (simp [errW_none, errW_some] <;> rfl) | (simp only [← hji80]; first | rfl | (simp [errW_none, errW_some] <;> rfl)) | (simp [*, errW_none, errW_some] <;> rfl), by (with_reducible repeat (first | apply Kd.R_alloc | apply Kd.R_drewN | apply Kd.R_drew)); exact Kd.R_mono (Kd.R_far (p := ⟨cc, 1, none⟩) (Kd.R_far (p := ⟨cc, 0, none⟩) (Kd.R_types a5.out au.out (by decide)) (fun _ hk => hk.2) (.slice ak0 di.length ak1)) (fun _ hk => hk.2) (.slice (some ⟨ei, 0, none⟩) bc.length ji)) (fun _ hk => hk.1), Kd.N_V (by (with_reducible repeat (first | apply Kd.N_alloc | apply Kd.N_drewN | apply Kd.N_drew)); exact Kd.N_mono (Kd.N_far (p := ⟨cc, 1, none⟩) (Kd.N_far (p := ⟨cc, 0, none⟩) (Kd.N_mono ay.out (fun k_ hk => (⟨hk, hk.2.2.1⟩ : _ ∧ k_ ≠ cc))) (fun _ hk => hk.2) (.slice ak0 di.length ak1)) (fun _ hk => hk.2) (.slice (some ⟨ei, 0, none⟩) bc.length ji)) (fun _ hk => ⟨hk.1.1, hk.1.2.1⟩)), ba, dg, bw⟩
    ·replace yu := Bool.eq_false_iff.mpr yu
     subst yu
     replace H := ifn_ H
     simp only [Option.some.injEq, Prod.mk.injEq] at H
     obtain ⟨rfl, rfl, rfl⟩ := H
     go_wp2_with (first | ((with_reducible refine gate_callee (f := 106) rfl ?_); refine goesL_ (some 66) rfl rfl Try.func106 k_ rfl #[.pointer (some ⟨g, 0, none⟩), .int .i64 a1] rfl (g3_) ?_; (with_reducible refine (spec_l20Rd_odd.calls k1 g ak gj a1 false iy w0 _ ?side1 ?side2 vh.out).mono ?_); (case side1 => exact ba); (case side2 => exact dg); rintro e w95 ⟨rfl, hi, hb, hk⟩; refine ⟨_, rfl, ?_⟩; replace a5 := Aside0.mk (Kd.R_mono (Kd.R_keep (IsS112.apart (show IsS112 w0 _ g ak gj from ba) (uf1_ a5) (by decide)) hk (fun _ h => h.2)) (fun _ h => h.1)); replace ay := Aside0.mk (Kd.S_mono (Kd.S_keep (IsS112.apartS (show IsS112 w0 _ g ak gj from ba) (uf3_ ay) (by decide)) hk (fun _ h => h.2)) (fun _ h => h.1)); replace au := kb_ hk au ga; replace aq := kb_ hk aq gb; replace HK := Aside0.mk (KeepBut.trans (bw) hk (.inl rfl)); replace HB := Aside0.mk (hb); replace HI0 := Aside0.mk (hi); (try clear hb); (try clear hk hi); have cv5 := qp.out; have cv6 := lr.out; have ec3 := gb.out; have ec4 := sr.out; obtain ⟨ec5, ec6, ec7, ec8⟩ := blk2_ aq; obtain ⟨ak2, ak3, cv7⟩ := Kd.R_slice a5.out; subst cv7; have ec9 := ga.out; have ed0 := vb.out; obtain ⟨ed1, ed2, ed3, ed4⟩ := blk2_ au; obtain ⟨ay5, ay6, cv8⟩ := Kd.S_slice ay.out; subst cv8))
     refine bodyPost_ret (results_cell_row rfl _ _ cc 25 #[.slice ak2 di.length ak3, .slice ay5 bc.length ay6] (0, 0) _ rfl (by (with_reducible repeat (first | refine blk_drewN ?_ _ | refine blk_drew ?_ | refine blk_alloc ?_ _)); refine blk_put (cs := #[.slice ak2 di.length ak3, .slice none 0 0]) ?_ 1 _ rfl; refine blk_put (cs := #[.slice none 0 0, .slice none 0 0]) ?_ 0 _ rfl; exact uf0_ au) Try.underlying25 rfl (g1_)) rfl ?_
     exact ⟨_, _, g4_, by (with_reducible repeat (first | apply Kd.R_alloc | apply Kd.R_drewN | apply Kd.R_drew)); exact Kd.R_mono (Kd.R_far (p := ⟨cc, 1, none⟩) (Kd.R_far (p := ⟨cc, 0, none⟩) (Kd.R_types a5.out au.out (by decide)) (fun _ hk => hk.2) (.slice ak2 di.length ak3)) (fun _ hk => hk.2) (.slice ay5 bc.length ay6)) (fun _ hk => hk.1), Kd.S_V (by (with_reducible repeat (first | apply Kd.S_alloc | apply Kd.S_drewN | apply Kd.S_drew)); exact Kd.S_mono (Kd.S_far (p := ⟨cc, 1, none⟩) (Kd.S_far (p := ⟨cc, 0, none⟩) (Kd.S_types ay.out au.out (by decide)) (fun _ hk => hk.2) (.slice ak2 di.length ak3)) (fun _ hk => hk.2) (.slice ay5 bc.length ay6)) (fun _ hk => ⟨hk.1.1, hk.1.2⟩)), ba, dg, bw⟩
def spec_l1In.f (a0 : Int) (a1 : Int) (a2 : Int) : Option (Bool) := if a0 ≥ a1 then (some (decide (a0 ≤ a2))) else (some false)
set_option maxHeartbeats 8000000 in
set_option maxRecDepth 100000 in
theorem spec_l1In.calls (a0 : Int) (a1 : Int) (a2 : Int) (r : Bool) (w : World) (h : spec_l1In.f a0 a1 a2 = some r) :
  Calls Try.prog 65 #[.int .i64 a0, .int .i64 a1, .int .i64 a2] w fun e w' => e = .returned (.bool r) ∧ Drawn0 w w' := by
 have H : (if a0 ≥ a1 then (some (decide (a0 ≤ a2))) else (some false)) = some r := h
 clear h
 by_cases c4 : a0 ≥ a1
 ·rw [if_pos c4] at H
  have fw := decide_eq_true c4
  clear c4
  obtain rfl := Option.some.inj H
  go_enter Try.func65, Try.ntmps65
  go_wp2
  go_ret
  exact ⟨g2_, g5_⟩
 ·rw [if_neg c4] at H
  have fw := decide_eq_false c4
  clear c4
  obtain rfl := Option.some.inj H
  go_enter Try.func65, Try.ntmps65
  go_wp2
  go_ret
  exact ⟨g2_, g5_⟩
mutual
def spec_BookOk.j0 : Nat → Bool → List Int → List (List Int) → Option (Bool)
 | 0, _, _, _ => none
 | k + 1, x18, ky, ii => if x18 = true then (some false) else (spec_BookOk.l0 k 0 ky ii)
def spec_BookOk.l0 : Nat → Int → List Int → List (List Int) → Option (Bool)
 | 0, _, _, _ => none
 | k + 1, x3, ky, ii => if x3 < (ky.length : Int) then (if 0 ≤ x3 then ((spec_l1In.f (rd ky x3) 0 20).bind fun ay7 => (if ay7 = true then (if x3 < (ii.length : Int) then (if ((rd_L1 ii x3).length : Int) = (ky.length : Int) then (if x3 < ((rd_L1 ii x3).length : Int) then (spec_BookOk.j2 k x3 ((rd (rd_L1 ii x3) x3) != 0) ky ii) else (none)) else (spec_BookOk.j2 k x3 true ky ii)) else (none)) else (spec_BookOk.j2 k x3 true ky ii))) else (none)) else (some true)
def spec_BookOk.j2 : Nat → Int → Bool → List Int → List (List Int) → Option (Bool)
 | 0, _, _, _, _ => none
 | k + 1, x3, x55, ky, ii => if x55 = true then (some false) else (spec_BookOk.l1 k x3 0 ky ii)
def spec_BookOk.l1 : Nat → Int → Int → List Int → List (List Int) → Option (Bool)
 | 0, _, _, _, _ => none
 | k + 1, x3, x4, ky, ii => if 0 ≤ x3 then (if x3 < (ii.length : Int) then (if x4 < ((rd_L1 ii x3).length : Int) then (if 0 ≤ x4 then ((spec_l1In.f (rd (rd_L1 ii x3) x4) 0 9).bind fun ay8 => (if ay8 = true then (spec_BookOk.l1 k x3 (wrap64 (x4 + 1)) ky ii) else (some false))) else (none)) else (spec_BookOk.l0 k (wrap64 (x3 + 1)) ky ii)) else (none)) else (none)
end
def spec_BookOk.f (k : Nat) (ab : List Int) (aa : List (List Int)) : Option (Bool) := (spec_l1In.f (ab.length : Int) 1 4).bind fun zb => (if zb = true then (spec_BookOk.j0 k ((aa.length : Int) != (ab.length : Int)) ab aa) else (spec_BookOk.j0 k true ab aa))
theorem spec_BookOk.mq {p : Prop} (h : p := by
 repeat' first
 | (with_reducible exact ih0 _ _ _)
 | (with_reducible exact ih1 _ _ _)
 | (with_reducible exact ih2 _ _ _ _)
 | (with_reducible exact ih3 _ _ _ _)
 | (with_reducible exact LeO.refl _)
 | (with_reducible exact LeO.none _)
 | (with_reducible refine LeO.ite ?_ ?_)
 | (with_reducible refine LeO.bind ?_ (fun _ => ?_))
 | exact ih0 _ _ _
 | exact ih1 _ _ _
 | exact ih2 _ _ _ _
 | exact ih3 _ _ _ _
 | exact LeO.none _
 | refine LeO.ite ?_ ?_
 | refine LeO.bind ?_ (fun _ => ?_)) : p := h
theorem spec_BookOk.mono_l : ∀ k, (∀ y0 y1 y2, LeO (spec_BookOk.j0 k y0 y1 y2) (spec_BookOk.j0 (k + 1) y0 y1 y2)) ∧ (∀ y0 y1 y2, LeO (spec_BookOk.l0 k y0 y1 y2) (spec_BookOk.l0 (k + 1) y0 y1 y2)) ∧ (∀ y0 y1 y2 y3, LeO (spec_BookOk.j2 k y0 y1 y2 y3) (spec_BookOk.j2 (k + 1) y0 y1 y2 y3)) ∧ (∀ y0 y1 y2 y3, LeO (spec_BookOk.l1 k y0 y1 y2 y3) (spec_BookOk.l1 (k + 1) y0 y1 y2 y3))
 | 0 => ⟨fun _ _ _ r h => by simp [spec_BookOk.j0] at h, fun _ _ _ r h => by simp [spec_BookOk.l0] at h, fun _ _ _ _ r h => by simp [spec_BookOk.j2] at h, fun _ _ _ _ r h => by simp [spec_BookOk.l1] at h⟩
 | k + 1 => by
  obtain ⟨ih0, ih1, ih2, ih3⟩ := spec_BookOk.mono_l k
  refine ⟨?_, ?_, ?_, ?_⟩
  ·intro y0 y1 y2
   unfold spec_BookOk.j0
   exact spec_BookOk.mq
  ·intro y0 y1 y2
   unfold spec_BookOk.l0
   exact spec_BookOk.mq
  ·intro y0 y1 y2 y3
   unfold spec_BookOk.j2
   exact spec_BookOk.mq
  ·intro y0 y1 y2 y3
   unfold spec_BookOk.l1
   exact spec_BookOk.mq
theorem spec_BookOk.mono : ∀ a0 a1 k, LeO (spec_BookOk.f k a0 a1) (spec_BookOk.f (k + 1) a0 a1) := by
 intro a0 a1 k
 obtain ⟨ih0, ih1, ih2, ih3⟩ := spec_BookOk.mono_l k
 unfold spec_BookOk.f
 exact spec_BookOk.mq
def spec_BookOk.T6 : Bool × List (List Nat × List Nat) := (true, [([], []), ([0], [0]), ([], []), ([1, 2], [1, 2]), ([3], [3]), ([4], [4]), ([5], [5]), ([6, 5], [6]), ([7], [7]), ([8, 7], [7, 8]), ([7], [7]), ([9, 10, 7], [7, 9, 10]), ([11, 7], [7, 11]), ([12, 7], [7, 12]), ([7], [7]), ([14, 7], [7, 14]), ([15, 7], [7, 15]), ([13, 16, 7], [7, 13, 16]), ([7, 17], [7, 17]), ([18, 7], [18]), ([19], [19]), ([20, 19], [19, 20]), ([19], [19]), ([21, 22, 19], [19, 21, 22]), ([23, 19], [19, 23]), ([19], [19]), ([24, 25, 19], [19, 24, 25]), ([26, 19], [19, 26]), ([27, 19], [19, 27]), ([19, 28], [19, 28])])
def spec_BookOk.B6 : List Nat := [0, 1, 0, 7, 15, 31, 63, 127, 255, 511, 255, 2047, 4095, 8191, 255, 16639, 49407, 131071, 262143, 524287, 1048575, 2097151, 1048575, 8388607, 16777215, 1048575, 67108863, 134217727, 268435455, 536870911]
theorem spec_BookOk.tab6 : rtab .any (opsOf Try.f42 6) = spec_BookOk.T6 := by kernel_rfl
theorem spec_BookOk.bits6 : waitsOk spec_BookOk.T6.2 spec_BookOk.B6 = true := by kernel_rfl
theorem i6 {p : Prop} (h : p := by repeat (first | (with_reducible first | exact HB.out | apply below_alloc | apply pw_below_drewN | apply below_drew1 | refine below_set ?_ cv9.out) | exact HB.out)) : p := h
set_option maxHeartbeats 8000000 in
set_option maxRecDepth 100000 in
theorem spec_BookOk.calls (k : Nat) (ae : Option Addr) (ac : Nat) (ab : List Int) (ag : Option Addr) (af : Nat) (aa : List (List Int)) (r : Bool) (w : World) (bo : Kd.C (Kd.int .i64) w ae ab.length ab) (bs : ab.length ≤ ac) (bp : Kd.C (Kd.slice 3 (Kd.int .i64)) w ag aa.length aa) (bt : aa.length ≤ af) (h : spec_BookOk.f k ab aa = some r) :
  Calls Try.prog 42 #[.agg #[.slice ae ab.length ac, .slice ag aa.length af]] w fun e w' => e = .returned (.bool r) ∧ Below w.heap.size w w' := by
 have hu25 := Try.underlying25
 have bg := Aside0.mk bo
 have bx := Aside0.mk bs
 clear bo bs
 have bb := Aside0.mk bp
 have b2 := Aside0.mk bt
 clear bp bt
 have HB := Aside0.mk (Below.refl w.heap.size w)
 have H : ((spec_l1In.f (ab.length : Int) 1 4).bind fun zb => (if zb = true then (spec_BookOk.j0 k ((aa.length : Int) != (ab.length : Int)) ab aa) else (spec_BookOk.j0 k true ab aa))) = some r := h
 clear h
 have mf := Aside0.mk H
 clear H
 go_enter Try.func42, Try.ntmps42
 go_upto_region 1 with (first | ((with_reducible refine gate_dst (N := 1) rfl ?_); (try (refine gate_guard (by rfl) ?_; dsimp only)); refine bx_ (N := 1) #[.slice ae ab.length ac, .slice ag aa.length af] 25 ?_; intro ls hg w3 hbox hb; have cv := Aside0.mk (hbox); have ed5 := Aside0.mk ((by rw [hg]; exact (below_size (i6)) : w.heap.size ≤ ls)); have cv9 := Aside0.mk ((by rw [hg]; exact (below_size (i6)) : w.heap.size ≤ ls)); replace HB := Aside0.mk (below_step (i6) hb); clear hb hbox hg))
 (try simp only [Act.put, List.setIfInBounds_toArray, List.set_cons_zero, List.set_cons_succ])
 go_cut [18] (fun v18 wc => ∃ (kq : Nat) (ak4 : Bool), v18 = .bool ak4 ∧ Aside0 (spec_BookOk.j0 kq ak4 ab aa = some r) ∧ Aside0 (kq ≤ k) ∧ Aside0 (wc.heap[ls]? = some (.cells #[(.slice ae ab.length ac), (.slice ag aa.length af)] 25 (0, 0))) ∧ Aside0 (Below w.heap.size w wc))
 case first =>
  have H := mf.out
  clear mf
  obtain ⟨zb, A4, H⟩ := bind_ H
  by_cases c5 : zb = true
  ·subst c5
   replace H := ifp_ H
   have H' := Aside0.mk H
   clear H
   obtain ⟨qj, qk, uy, ql⟩ := blk2_ cv
   go_wp2_with (first | ((with_reducible refine gate_callee (f := 65) rfl ?_); refine goesL_ (some 8) rfl rfl Try.func65 k_ rfl #[.int .i64 (ab.length : Int), .int .i64 1, .int .i64 4] rfl (g3_) ?_; (with_reducible refine (spec_l1In.calls (ab.length : Int) 1 4 true _ A4.out).mono ?_); rintro e w' ⟨rfl, ⟨nd, rfl⟩⟩; refine ⟨_, rfl, ?_⟩))
   go_meet
   case rel => exact ⟨_, (((aa.length : Int) != (ab.length : Int))), (g2_), H', ⟨g9_⟩, ⟨uf0_ cv⟩, ⟨i6⟩⟩
  ·replace c5 := Bool.eq_false_iff.mpr c5
   subst c5
   replace H := ifn_ H
   have H' := Aside0.mk H
   clear H
   obtain ⟨i8, i9, ja, jb⟩ := blk2_ cv
   go_wp2_with (first | ((with_reducible refine gate_callee (f := 65) rfl ?_); refine goesL_ (some 8) rfl rfl Try.func65 k_ rfl #[.int .i64 (ab.length : Int), .int .i64 1, .int .i64 4] rfl (g3_) ?_; (with_reducible refine (spec_l1In.calls (ab.length : Int) 1 4 false _ A4.out).mono ?_); rintro e w' ⟨rfl, ⟨nd, rfl⟩⟩; refine ⟨_, rfl, ?_⟩))
   go_meet
   case rel => exact ⟨_, (true), (g2_), H', ⟨g9_⟩, ⟨uf0_ cv⟩, ⟨i6⟩⟩
 case rest =>
  clear mf
  try clear p2
  try clear c4
  try clear c5
  try clear c6
  try clear qj
  try clear qk
  try clear i8
  try clear i9
  try clear uy
  try clear ql
  try clear ja
  try clear jb
  obtain ⟨kq, ak4, rfl, HA, HJ1, cv, HB⟩ := hcut
  cases kq with
  | zero => exact absurd HA.out (by simp [spec_BookOk.j0])
  | succ kj1 =>
   have H := HA.out
   clear HA
   simp only [spec_BookOk.j0] at H
   by_cases c8 : ak4 = true
   ·subst c8
    replace H := ifp_ H
    obtain rfl := Option.some.inj H
    go_wp2
    go_ret
    exact ⟨g4_, i6⟩
   ·replace c8 := Bool.eq_false_iff.mpr c8
    subst c8
    replace H := ifn_ H
    have H' := Aside0.mk H
    clear H
    go_wp2
    go_loopg [3] kj1 (fun kq v3 w' => ∃ (ap : Int), v3 = .int .i64 ap ∧ Aside0 (spec_BookOk.l0 kq ap ab aa = some r) ∧ Aside0 (kq ≤ kj1) ∧ Aside0 (w'.heap[ls]? = some (.cells #[(.slice ae ab.length ac), (.slice ag aa.length af)] 25 (0, 0))) ∧ Aside0 (Below w.heap.size w w'))
    case atStart => exact ⟨(0), (g2_), H', ⟨Nat.le_refl _⟩, ⟨uf0_ cv⟩, ⟨i6⟩⟩
    case round =>
     clear H'
     try clear p2
     try clear c4
     try clear c5
     try clear c6
     try clear c8
     try clear qj
     try clear qk
     try clear i8
     try clear i9
     try clear uy
     try clear ql
     try clear ja
     try clear jb
     try clear p2
     obtain ⟨ap, rfl, HA, HK2, cv, HB⟩ := hrel
     cases gk with
     | zero => exact absurd HA.out (by simp [spec_BookOk.l0])
     | succ k2 =>
      have H := HA.out
      clear HA
      simp only [spec_BookOk.l0] at H
      by_cases c9 : ap < (ab.length : Int)
      ·rw [if_pos c9] at H
       have mm := decide_eq_true c9
       clear c9
       have ay9 := Aside0.mk H
       clear H
       obtain ⟨rq, rr, rs, rt⟩ := blk2_ cv
       go_upto_region 6 with (fail)
       go_cut [55] (fun n5 wc => ∃ (kq : Nat) (ak5 : Bool), n5 = .bool ak5 ∧ Aside0 (spec_BookOk.j2 kq ap ak5 ab aa = some r) ∧ Aside0 (kq ≤ k2) ∧ Aside0 (wc.heap[ls]? = some (.cells #[(.slice ae ab.length ac), (.slice ag aa.length af)] 25 (0, 0))) ∧ Aside0 (Below w.heap.size w wc))
       case first =>
        have H := ay9.out
        clear ay9
        obtain ⟨cu, H⟩ := pos_ H
        have iu := decide_eq_true cu
        clear cu
        (first | rw [iu] | (simp only [i64_w, i32_w]; rw [iu]) | skip)
        obtain ⟨ay7, A13, H⟩ := bind_ H
        by_cases ez : ay7 = true
        ·subst ez
         replace H := ifp_ H
         obtain ⟨bq, H⟩ := pos_ H
         have fz := decide_eq_true bq
         clear bq
         by_cases dh : ((rd_L1 aa ap).length : Int) = (ab.length : Int)
         ·rw [if_pos dh] at H
          have ln : (((rd_L1 aa ap).length : Int) == (ab.length : Int)) = true := beq_iff_eq.mpr dh
          have az0 : (((rd_L1 aa ap).length : Int) != (ab.length : Int)) = false := bne_eq_false_iff_eq.mpr dh
          have az1 : ((rd_L1 aa ap).length == ab.length) = true := by first | simpa using dh | (simp at dh ⊢; omega)
          clear dh
          obtain ⟨dp, H⟩ := pos_ H
          have ll := decide_eq_true dp
          clear dp
          have H' := Aside0.mk H
          clear H
          try go_wp2
          replace cv := Aside0.mk (blk_drew cv.out)
          replace HB := Aside0.mk (below_drew1 HB.out)
          have kz : 0 ≤ (ap : Int) := of_decide_eq_true (g0_)
          have k0 : ap < (ab.length : Int) := of_decide_eq_true (g0_)
          obtain ⟨qt, zc, iz⟩ := Kd.at_int bg.out ap kz k0
          have qu := iz
          cases zc
          replace iz := cl_ HB iz
          replace kz := eq_true kz
          replace k0 := eq_true k0
          have pg : 0 ≤ (ap : Int) := of_decide_eq_true (g0_)
          have ph : ap < (aa.length : Int) := of_decide_eq_true (g0_)
          obtain ⟨sx, bu8, ak6, az2, lu, zd, ze⟩ := at_L1 bb.out ap pg ph
          have zf := lu
          cases az2
          replace lu := cl_ HB lu
          have az3 := Aside0.mk ze
          have cw0 := Aside0.mk zd
          clear ze zd
          replace pg := eq_true pg
          replace ph := eq_true ph
          have az4 : 0 ≤ (ap : Int) := of_decide_eq_true (g0_)
          have az5 : ap < (aa.length : Int) := of_decide_eq_true (g0_)
          obtain ⟨cw1, ed6, ed7, cw2, zg, bu9, bv0⟩ := at_L1 bb.out ap az4 az5
          have bv1 := zg
          obtain rfl : sx = cw1 := (by injection cw2)
          replace zg := cl_ HB zg
          have bv2 := Aside0.mk bv0
          have ed8 := Aside0.mk bu9
          clear bv0 bu9
          replace az4 := eq_true az4
          replace az5 := eq_true az5
          have ea_ := Option.some.inj (lu.symm.trans zg)
          injection ea_ with ea_ en_ ec_
          subst ea_
          subst ec_
          clear en_
          have az6 : 0 ≤ (ap : Int) := of_decide_eq_true (g0_)
          have az7 : ap < ((rd_L1 aa ap).length : Int) := of_decide_eq_true (g0_)
          obtain ⟨az8, cw3, ak7⟩ := Kd.at_int bv2.out ap az6 az7
          have bv3 := ak7
          cases cw3
          replace ak7 := cl_ HB ak7
          replace az6 := eq_true az6
          replace az7 := eq_true az7
          refine start_ (n := 30) (S := fun w' => w'.cell? ⟨ls, 0, none⟩ = some (.slice (some qt) ab.length ac) ∧ w'.cell? ⟨ls, 1, none⟩ = some (.slice (some sx) aa.length af) ∧ w'.cell? (qt.add (ap).toNat) = some (.int .i64 (rd ab ap)) ∧ w'.cell? (sx.add (ap).toNat) = some (.slice (some az8) (rd_L1 aa ap).length ak6) ∧ w'.cell? (sx.add (ap).toNat) = some (.slice (some az8) (rd_L1 aa ap).length ak6) ∧ w'.cell? (az8.add (ap).toNat) = some (.int .i64 (rd (rd_L1 aa ap) ap))) (ds := []) (tl_ 30 0) (g1_) rfl (g1_) ⟨(blk_cell cv.out 0).trans rfl, (blk_cell cv.out 1).trans rfl, ((cl_ HB qu).trans rfl), ((cl_ HB zf).trans rfl), ((cl_ HB bv1).trans rfl), ((cl_ HB bv3).trans rfl)⟩ (fun hHeld => ?_); refine with_tabW spec_BookOk.tab6 spec_BookOk.bits6 (fun HT_ HW_ => ?_)
          generalize wr.drew = w18 at cv HB az3 bv2 iz lu zg ak7 hHeld ⊢
          refine pw_ 0 26 (tl_ 30 1) rfl rfl ?_
          refine pw_ 2 28 (tl_ 30 5) rfl rfl ?_
          refine tk2_ 1 27 (tl_ 30 7) rfl rfl hHeld ?_
          refine pw_ 3 29 (tl_ 30 15) rfl rfl ?_
          refine tk2_ 4 30 (tl_ 30 31) rfl rfl hHeld ?_
          refine one_ (i := 5) (N := some 31) (tl_ 30 63) rfl rfl (one_of HT_.out (g1_)) (by decide) (fun K hK => ?_)
          refine goes_ Try.func65 (g1_) rfl #[.int .i64 (rd ab ap), .int .i64 0, .int .i64 20] (by rfl) rfl rfl (g3_) ?_
          with_reducible refine (spec_l1In.calls (rd ab ap) 0 20 true _ A13.out).mono ?_
          rintro e w' ⟨rfl, ⟨nd, rfl⟩⟩
          refine ⟨_, rfl, ?_⟩
          refine hK.out _ _ ⟨(blk_cell cv.out 0).trans rfl, (blk_cell cv.out 1).trans rfl, ((cl_ HB qu).trans rfl), ((cl_ HB zf).trans rfl), ((cl_ HB bv1).trans rfl), ((cl_ HB bv3).trans rfl)⟩ (fun hHeld => ?_)
          clear hK K
          refine nm_ ?_
          refine pw_ 6 32 (tl_ 30 127) rfl rfl ?_
          refine pw_ 7 33 (tl_ 30 255) rfl rfl ?_
          refine pw_ 8 34 (tl_ 30 511) rfl rfl ?_
          refine pw_ 10 36 (tl_ 30 1535) rfl rfl ?_
          refine pw_ 14 40 (tl_ 30 17919) rfl rfl ?_
          refine tk2_ 9 35 (tl_ 30 18431) rfl rfl hHeld ?_
          refine pw_ 11 37 (tl_ 30 20479) rfl rfl ?_
          refine tk2_ 12 38 (tl_ 30 24575) rfl rfl hHeld ?_
          refine pw_ 13 39 (tl_ 30 32767) rfl rfl ?_
          refine tk2_ 15 41 (tl_ 30 65535) rfl rfl hHeld ?_
          refine pw_ 16 42 (tl_ 30 131071) rfl rfl ?_
          refine pw_ 17 43 (tl_ 30 262143) rfl rfl ?_
          refine pw_ 18 44 (tl_ 30 524287) rfl rfl ?_
          refine pw_ 19 45 (tl_ 30 1048575) rfl rfl ?_
          refine pw_ 20 46 (tl_ 30 2097151) rfl rfl ?_
          refine pw_ 22 48 (tl_ 30 6291455) rfl rfl ?_
          refine pw_ 25 51 (tl_ 30 39845887) rfl rfl ?_
          refine tk2_ 21 47 (tl_ 30 41943039) rfl rfl hHeld ?_
          refine pw_ 23 49 (tl_ 30 50331647) rfl rfl ?_
          refine tk2_ 24 50 (tl_ 30 67108863) rfl rfl hHeld ?_
          refine pw_ 26 52 (tl_ 30 134217727) rfl rfl ?_
          refine tk2_ 27 53 (tl_ 30 268435455) rfl rfl hHeld ?_
          refine pw_ 28 54 (tl_ 30 536870911) rfl rfl ?_
          refine pw_ 29 55 (tl_ 30 1073741823) rfl rfl ?_
          refine done_ (done_of HT_.out (g1_)) ?_
          try go_wp2
          go_meet
          case rel => exact ⟨_, (((rd (rd_L1 aa ap) ap) != 0)), (g2_), H', ⟨g16_⟩, ⟨uf0_ cv⟩, ⟨i6⟩⟩
         ·rw [if_neg dh] at H
          have ln : (((rd_L1 aa ap).length : Int) == (ab.length : Int)) = false := beq_eq_false_iff_ne.mpr dh
          have az0 : (((rd_L1 aa ap).length : Int) != (ab.length : Int)) = true := bne_iff_ne.mpr dh
          have az1 : ((rd_L1 aa ap).length == ab.length) = false := by first | simpa using dh | (simp at dh ⊢; omega)
          have H' := Aside0.mk H
          clear H
          try go_wp2
          replace cv := Aside0.mk (blk_drew cv.out)
          replace HB := Aside0.mk (below_drew1 HB.out)
          have kz : 0 ≤ (ap : Int) := of_decide_eq_true (g0_)
          have k0 : ap < (ab.length : Int) := of_decide_eq_true (g0_)
          obtain ⟨qt, zc, iz⟩ := Kd.at_int bg.out ap kz k0
          have qu := iz
          cases zc
          replace iz := cl_ HB iz
          replace kz := eq_true kz
          replace k0 := eq_true k0
          have pg : 0 ≤ (ap : Int) := of_decide_eq_true (g0_)
          have ph : ap < (aa.length : Int) := of_decide_eq_true (g0_)
          obtain ⟨sx, bu8, ak6, az2, lu, zd, ze⟩ := at_L1 bb.out ap pg ph
          have zf := lu
          cases az2
          replace lu := cl_ HB lu
          have az3 := Aside0.mk ze
          have cw0 := Aside0.mk zd
          clear ze zd
          replace pg := eq_true pg
          replace ph := eq_true ph
          refine start_ (n := 30) (S := fun w' => w'.cell? ⟨ls, 0, none⟩ = some (.slice (some qt) ab.length ac) ∧ w'.cell? ⟨ls, 1, none⟩ = some (.slice (some sx) aa.length af) ∧ w'.cell? (qt.add (ap).toNat) = some (.int .i64 (rd ab ap)) ∧ w'.cell? (sx.add (ap).toNat) = some (.slice bu8 (rd_L1 aa ap).length ak6)) (ds := []) (tl_ 30 0) (g1_) rfl (g1_) ⟨(blk_cell cv.out 0).trans rfl, (blk_cell cv.out 1).trans rfl, ((cl_ HB qu).trans rfl), ((cl_ HB zf).trans rfl)⟩ (fun hHeld => ?_); refine with_tabW spec_BookOk.tab6 spec_BookOk.bits6 (fun HT_ HW_ => ?_)
          generalize wr.drew = yb at cv HB az3 iz lu hHeld ⊢
          refine pw_ 0 26 (tl_ 30 1) rfl rfl ?_
          refine pw_ 2 28 (tl_ 30 5) rfl rfl ?_
          refine tk3_ 1 27 (tl_ 30 7) rfl rfl hHeld ?_
          refine pw_ 3 29 (tl_ 30 15) rfl rfl ?_
          refine tk3_ 4 30 (tl_ 30 31) rfl rfl hHeld ?_
          refine one_ (i := 5) (N := some 31) (tl_ 30 63) rfl rfl (one_of HT_.out (g1_)) (by decide) (fun K hK => ?_)
          refine goes_ Try.func65 (g1_) rfl #[.int .i64 (rd ab ap), .int .i64 0, .int .i64 20] (by rfl) rfl rfl (g3_) ?_
          with_reducible refine (spec_l1In.calls (rd ab ap) 0 20 true _ A13.out).mono ?_
          rintro e w' ⟨rfl, ⟨nd, rfl⟩⟩
          refine ⟨_, rfl, ?_⟩
          refine hK.out _ _ ⟨(blk_cell cv.out 0).trans rfl, (blk_cell cv.out 1).trans rfl, ((cl_ HB qu).trans rfl), ((cl_ HB zf).trans rfl)⟩ (fun hHeld => ?_)
          clear hK K
          refine nm_ ?_
          refine pw_ 6 32 (tl_ 30 127) rfl rfl ?_
          refine pw_ 7 33 (tl_ 30 255) rfl rfl ?_
          refine pw_ 8 34 (tl_ 30 511) rfl rfl ?_
          refine pw_ 10 36 (tl_ 30 1535) rfl rfl ?_
          refine pw_ 14 40 (tl_ 30 17919) rfl rfl ?_
          refine tk3_ 9 35 (tl_ 30 18431) rfl rfl hHeld ?_
          refine pw_ 11 37 (tl_ 30 20479) rfl rfl ?_
          refine tk3_ 12 38 (tl_ 30 24575) rfl rfl hHeld ?_
          refine pw_ 13 39 (tl_ 30 32767) rfl rfl ?_
          refine tk3_ 15 41 (tl_ 30 65535) rfl rfl hHeld ?_
          refine pw_ 16 42 (tl_ 30 131071) rfl rfl ?_
          refine pw_ 17 43 (tl_ 30 262143) rfl rfl ?_
          refine pw_ 18 44 (tl_ 30 524287) rfl rfl ?_
          refine pw_ 19 45 (tl_ 30 1048575) rfl rfl ?_
          refine pu_ 20 46 (tl_ 30 2097151) rfl rfl ?_
          refine pu_ 21 47 (tl_ 30 4194303) rfl rfl ?_
          refine pu_ 22 48 (tl_ 30 8388607) rfl rfl ?_
          refine pu_ 23 49 (tl_ 30 16777215) rfl rfl ?_
          refine pu_ 24 50 (tl_ 30 33554431) rfl rfl ?_
          refine pu_ 25 51 (tl_ 30 67108863) rfl rfl ?_
          refine pu_ 26 52 (tl_ 30 134217727) rfl rfl ?_
          refine pu_ 27 53 (tl_ 30 268435455) rfl rfl ?_
          refine pu_ 28 54 (tl_ 30 536870911) rfl rfl ?_
          refine pw_ 29 55 (tl_ 30 1073741823) rfl rfl ?_
          refine done_ (done_of HT_.out (g1_)) ?_
          try go_wp2
          go_meet
          case rel => exact ⟨_, (true), (g2_), H', ⟨g16_⟩, ⟨uf0_ cv⟩, ⟨i6⟩⟩
        ·replace ez := Bool.eq_false_iff.mpr ez
         subst ez
         replace H := ifn_ H
         have H' := Aside0.mk H
         clear H
         try go_wp2
         replace cv := Aside0.mk (blk_drew cv.out)
         replace HB := Aside0.mk (below_drew1 HB.out)
         have kz : 0 ≤ (ap : Int) := of_decide_eq_true (g0_)
         have k0 : ap < (ab.length : Int) := of_decide_eq_true (g0_)
         obtain ⟨qt, zc, iz⟩ := Kd.at_int bg.out ap kz k0
         have qu := iz
         cases zc
         replace iz := cl_ HB iz
         replace kz := eq_true kz
         replace k0 := eq_true k0
         refine start_ (n := 30) (S := fun w' => w'.cell? ⟨ls, 0, none⟩ = some (.slice (some qt) ab.length ac) ∧ w'.cell? ⟨ls, 1, none⟩ = some (.slice ag aa.length af) ∧ w'.cell? (qt.add (ap).toNat) = some (.int .i64 (rd ab ap))) (ds := []) (tl_ 30 0) (g1_) rfl (g1_) ⟨(blk_cell cv.out 0).trans rfl, (blk_cell cv.out 1).trans rfl, ((cl_ HB qu).trans rfl)⟩ (fun hHeld => ?_); refine with_tabW spec_BookOk.tab6 spec_BookOk.bits6 (fun HT_ HW_ => ?_)
         generalize wr.drew = sc at cv HB iz hHeld ⊢
         refine pw_ 0 26 (tl_ 30 1) rfl rfl ?_
         refine pw_ 2 28 (tl_ 30 5) rfl rfl ?_
         refine tk1_ 1 27 (tl_ 30 7) rfl rfl hHeld ?_
         refine pw_ 3 29 (tl_ 30 15) rfl rfl ?_
         refine tk1_ 4 30 (tl_ 30 31) rfl rfl hHeld ?_
         refine one_ (i := 5) (N := some 31) (tl_ 30 63) rfl rfl (one_of HT_.out (g1_)) (by decide) (fun K hK => ?_)
         refine goes_ Try.func65 (g1_) rfl #[.int .i64 (rd ab ap), .int .i64 0, .int .i64 20] (by rfl) rfl rfl (g3_) ?_
         with_reducible refine (spec_l1In.calls (rd ab ap) 0 20 false _ A13.out).mono ?_
         rintro e w' ⟨rfl, ⟨nd, rfl⟩⟩
         refine ⟨_, rfl, ?_⟩
         refine hK.out _ _ ⟨(blk_cell cv.out 0).trans rfl, (blk_cell cv.out 1).trans rfl, ((cl_ HB qu).trans rfl)⟩ (fun hHeld => ?_)
         clear hK K
         refine nm_ ?_
         refine pw_ 6 32 (tl_ 30 127) rfl rfl ?_
         refine pw_ 7 33 (tl_ 30 255) rfl rfl ?_
         refine pu_ 8 34 (tl_ 30 511) rfl rfl ?_
         refine pu_ 9 35 (tl_ 30 1023) rfl rfl ?_
         refine pu_ 10 36 (tl_ 30 2047) rfl rfl ?_
         refine pu_ 11 37 (tl_ 30 4095) rfl rfl ?_
         refine pu_ 12 38 (tl_ 30 8191) rfl rfl ?_
         refine pu_ 13 39 (tl_ 30 16383) rfl rfl ?_
         refine pu_ 14 40 (tl_ 30 32767) rfl rfl ?_
         refine pu_ 15 41 (tl_ 30 65535) rfl rfl ?_
         refine pu_ 16 42 (tl_ 30 131071) rfl rfl ?_
         refine pu_ 17 43 (tl_ 30 262143) rfl rfl ?_
         refine pw_ 18 44 (tl_ 30 524287) rfl rfl ?_
         refine pw_ 19 45 (tl_ 30 1048575) rfl rfl ?_
         refine pu_ 20 46 (tl_ 30 2097151) rfl rfl ?_
         refine pu_ 21 47 (tl_ 30 4194303) rfl rfl ?_
         refine pu_ 22 48 (tl_ 30 8388607) rfl rfl ?_
         refine pu_ 23 49 (tl_ 30 16777215) rfl rfl ?_
         refine pu_ 24 50 (tl_ 30 33554431) rfl rfl ?_
         refine pu_ 25 51 (tl_ 30 67108863) rfl rfl ?_
         refine pu_ 26 52 (tl_ 30 134217727) rfl rfl ?_
         refine pu_ 27 53 (tl_ 30 268435455) rfl rfl ?_
         refine pu_ 28 54 (tl_ 30 536870911) rfl rfl ?_
         refine pw_ 29 55 (tl_ 30 1073741823) rfl rfl ?_
         refine done_ (done_of HT_.out (g1_)) ?_
         try go_wp2
         go_meet
         case rel => exact ⟨_, (true), (g2_), H', ⟨g16_⟩, ⟨uf0_ cv⟩, ⟨i6⟩⟩
       case rest =>
        clear ay9
        (try clear c1); (try clear c2); (try clear p2); (try clear q2); (try clear zh); (try clear c6); (try clear cu); (try clear ez); (try clear bq); (try clear dh); (try clear ln); (try clear az0); (try clear az1); (try clear dp); (try clear iz); (try clear lu); (try clear kz); (try clear pg); (try clear k0); try clear ph
        obtain ⟨kq, ak5, rfl, HA, HJ9, cv, HB⟩ := hcut
        cases kq with
        | zero => exact absurd HA.out (by simp [spec_BookOk.j2])
        | succ kj9 =>
         have H := HA.out
         clear HA
         simp only [spec_BookOk.j2] at H
         by_cases gr : ak5 = true
         ·subst gr
          replace H := ifp_ H
          obtain rfl := Option.some.inj H
          go_wp2
          go_ret
          exact ⟨g4_, i6⟩
         ·replace gr := Bool.eq_false_iff.mpr gr
          subst gr
          replace H := ifn_ H
          have H' := Aside0.mk H
          clear H
          go_wp2
          go_loopg [4] kj9 (fun kq v4 w' => ∃ (jj : Int), v4 = .int .i64 jj ∧ Aside0 (spec_BookOk.l1 kq ap jj ab aa = some r) ∧ Aside0 (kq ≤ kj9) ∧ Aside0 (w'.heap[ls]? = some (.cells #[(.slice ae ab.length ac), (.slice ag aa.length af)] 25 (0, 0))) ∧ Aside0 (Below w.heap.size w w'))
          case atStart => exact ⟨(0), (g2_), H', ⟨Nat.le_refl _⟩, ⟨uf0_ cv⟩, ⟨i6⟩⟩
          case round =>
           clear H'
           (try clear c1); (try clear c2); (try clear p2); (try clear q2); (try clear zh); (try clear c6); (try clear cu); (try clear ez); (try clear bq); (try clear dh); (try clear ln); (try clear az0); (try clear az1); (try clear dp); (try clear gr); (try clear iz); (try clear lu); (try clear p2); (try clear kz); (try clear pg); (try clear q2); (try clear k0); try clear ph
           obtain ⟨jj, rfl, HA, HK4, cv, HB⟩ := hrel
           cases gk with
           | zero => exact absurd HA.out (by simp [spec_BookOk.l1])
           | succ k4 =>
            have H := HA.out
            clear HA
            simp only [spec_BookOk.l1] at H
            obtain ⟨je, H⟩ := pos_ H
            have ak8 := decide_eq_true je
            clear je
            obtain ⟨fa, H⟩ := pos_ H
            have sy := decide_eq_true fa
            clear fa
            by_cases fk : jj < ((rd_L1 aa ap).length : Int)
            ·rw [if_pos fk] at H
             have r7 := decide_eq_true fk
             clear fk
             obtain ⟨gp, H⟩ := pos_ H
             have uv := decide_eq_true gp
             clear gp
             obtain ⟨ay8, zi, H⟩ := bind_ H
             by_cases es : ay8 = true
             ·subst es
              replace H := ifp_ H
              have H' := Aside0.mk H
              clear H
              obtain ⟨ed9, ee0, ee1, ee2⟩ := blk2_ cv
              have mv : 0 ≤ (ap : Int) := of_decide_eq_true (g0_)
              have mw : ap < (aa.length : Int) := of_decide_eq_true (g0_)
              obtain ⟨ak9, bv4, bv5, zj, n6, qv, qw⟩ := at_L1 bb.out ap mv mw
              cases zj
              replace n6 := cl_ HB n6
              have bv6 := Aside0.mk qw
              have bv7 := Aside0.mk qv
              clear qw qv
              replace mv := eq_true mv
              replace mw := eq_true mw
              have s7 : 0 ≤ (ap : Int) := of_decide_eq_true (g0_)
              have s8 : ap < (aa.length : Int) := of_decide_eq_true (g0_)
              obtain ⟨az9, cw4, cw5, ba0, s9, zk, zl⟩ := at_L1 bb.out ap s7 s8
              obtain rfl : ak9 = az9 := (by injection ba0)
              replace s9 := cl_ HB s9
              have ba1 := Aside0.mk zl
              have cw6 := Aside0.mk zk
              clear zl zk
              replace s7 := eq_true s7
              replace s8 := eq_true s8
              have ea_ := Option.some.inj (n6.symm.trans s9)
              injection ea_ with ea_ en_ ec_
              subst ea_
              subst ec_
              clear en_
              have ta : 0 ≤ (jj : Int) := of_decide_eq_true (g0_)
              have tb : jj < ((rd_L1 aa ap).length : Int) := of_decide_eq_true (g0_)
              obtain ⟨cw7, ba2, zm⟩ := Kd.at_int ba1.out jj ta tb
              cases ba2
              replace zm := cl_ HB zm
              replace ta := eq_true ta
              replace tb := eq_true tb
              go_wp2_with (first | ((with_reducible refine gate_callee (f := 65) rfl ?_); refine goesL_ (some 74) rfl rfl Try.func65 k_ rfl #[.int .i64 (rd (rd_L1 aa ap) jj), .int .i64 0, .int .i64 9] rfl (g3_) ?_; (with_reducible refine (spec_l1In.calls (rd (rd_L1 aa ap) jj) 0 9 true _ zi.out).mono ?_); rintro e w' ⟨rfl, ⟨nd, rfl⟩⟩; refine ⟨_, rfl, ?_⟩))
              go_roundg k4
              case measure => have := HJ1.out; have := HK2.out; have := HJ9.out; have := HK4.out; omega
              case rel => exact ⟨(wrap64 (jj + 1)), (g2_), H', ⟨by have := HJ1.out; have := HK2.out; have := HJ9.out; have := HK4.out; omega⟩, ⟨uf0_ cv⟩, ⟨i6⟩⟩
             ·replace es := Bool.eq_false_iff.mpr es
              subst es
              replace H := ifn_ H
              obtain rfl := Option.some.inj H
              obtain ⟨ee3, ee4, ee5, ee6⟩ := blk2_ cv
              have mv : 0 ≤ (ap : Int) := of_decide_eq_true (g0_)
              have mw : ap < (aa.length : Int) := of_decide_eq_true (g0_)
              obtain ⟨ak9, bv4, bv5, zj, n6, qv, qw⟩ := at_L1 bb.out ap mv mw
              cases zj
              replace n6 := cl_ HB n6
              have bv6 := Aside0.mk qw
              have bv7 := Aside0.mk qv
              clear qw qv
              replace mv := eq_true mv
              replace mw := eq_true mw
              have s7 : 0 ≤ (ap : Int) := of_decide_eq_true (g0_)
              have s8 : ap < (aa.length : Int) := of_decide_eq_true (g0_)
              obtain ⟨az9, cw4, cw5, ba0, s9, zk, zl⟩ := at_L1 bb.out ap s7 s8
              obtain rfl : ak9 = az9 := (by injection ba0)
              replace s9 := cl_ HB s9
              have ba1 := Aside0.mk zl
              have cw6 := Aside0.mk zk
              clear zl zk
              replace s7 := eq_true s7
              replace s8 := eq_true s8
              have ea_ := Option.some.inj (n6.symm.trans s9)
              injection ea_ with ea_ en_ ec_
              subst ea_
              subst ec_
              clear en_
              have ta : 0 ≤ (jj : Int) := of_decide_eq_true (g0_)
              have tb : jj < ((rd_L1 aa ap).length : Int) := of_decide_eq_true (g0_)
              obtain ⟨cw7, ba2, zm⟩ := Kd.at_int ba1.out jj ta tb
              cases ba2
              replace zm := cl_ HB zm
              replace ta := eq_true ta
              replace tb := eq_true tb
              go_wp2_with (first | ((with_reducible refine gate_callee (f := 65) rfl ?_); refine goesL_ (some 74) rfl rfl Try.func65 k_ rfl #[.int .i64 (rd (rd_L1 aa ap) jj), .int .i64 0, .int .i64 9] rfl (g3_) ?_; (with_reducible refine (spec_l1In.calls (rd (rd_L1 aa ap) jj) 0 9 false _ zi.out).mono ?_); rintro e w' ⟨rfl, ⟨nd, rfl⟩⟩; refine ⟨_, rfl, ?_⟩))
              go_ret
              exact ⟨g4_, i6⟩
            ·rw [if_neg fk] at H
             have r7 := decide_eq_false fk
             clear fk
             have H' := Aside0.mk H
             clear H
             obtain ⟨bv8, bv9, bw0, bw1⟩ := blk2_ cv
             have mv : 0 ≤ (ap : Int) := of_decide_eq_true (g0_)
             have mw : ap < (aa.length : Int) := of_decide_eq_true (g0_)
             obtain ⟨ak9, bv4, bv5, zj, n6, qv, qw⟩ := at_L1 bb.out ap mv mw
             cases zj
             replace n6 := cl_ HB n6
             have bv6 := Aside0.mk qw
             have bv7 := Aside0.mk qv
             clear qw qv
             replace mv := eq_true mv
             replace mw := eq_true mw
             go_wp2
             go_roundg k4
             case measure => have := HJ1.out; have := HK2.out; have := HJ9.out; have := HK4.out; omega
             case rel => exact ⟨(wrap64 (ap + 1)), (g2_), H', ⟨by have := HJ1.out; have := HK2.out; have := HJ9.out; have := HK4.out; omega⟩, ⟨uf0_ cv⟩, ⟨i6⟩⟩
      ·rw [if_neg c9] at H
       have mm := decide_eq_false c9
       clear c9
       obtain rfl := Option.some.inj H
       obtain ⟨bw2, bw3, bw4, bw5⟩ := blk2_ cv
       go_wp2
       go_ret
       exact ⟨g4_, i6⟩
end Go.Proofs.Ytfooakkhkehpiaa.PU
