/- FnDeskOk: for every input the law holds. No condition. -/
import Derived.Test.YtfooakkhkehpiaaZFnDeskOk1
namespace Go.Proofs.Ytfooakkhkehpiaa.PU
open Go.RowKit Go.Proofs.YtfooakkhkehpiaaW.PrintWords Go.Proofs.YtfooakkhkehpiaaW.PrintLast Go.Proofs.YtfooakkhkehpiaaW.PrintMore Go.Proofs.Ytfooakkhkehpiaa.Qd
attribute [local go_sem] max2_int min2_int max_two min_two max_three min_three max_four min_four
set_option linter.unusedVariables false
set_option linter.unusedSimpArgs false
def impl_isFrac.f (k : Nat) (hs : Int) (jg : Int) : Option (Bool) := (impl_isNumber.f hs).bind fun bb7 => (if bb7 = true then (if jg ≥ 1 then (if jg ≤ 1000000000 then ((impl_gcd.f k hs jg).bind fun bb8 => (some (bb8 == 1))) else (some false)) else (some false)) else (some false))
theorem impl_isFrac.mq {p : Prop} (h : p := by
 repeat' first
 | (with_reducible exact impl_gcd.mono _ _ _)
 | (with_reducible exact LeO.refl _)
 | (with_reducible exact LeO.none _)
 | (with_reducible refine LeO.ite ?_ ?_)
 | (with_reducible refine LeO.bind ?_ (fun _ => ?_))
 | exact impl_gcd.mono _ _ _
 | exact LeO.none _
 | refine LeO.ite ?_ ?_
 | refine LeO.bind ?_ (fun _ => ?_)) : p := h
theorem impl_isFrac.mono : ∀ a0 a1 k, LeO (impl_isFrac.f k a0 a1) (impl_isFrac.f (k + 1) a0 a1) := by
 intro a0 a1 k
 unfold impl_isFrac.f
 exact impl_isFrac.mq
theorem um {p : Prop} (h : p := by repeat (first | (with_reducible first | exact HB.out | apply below_alloc | apply pw_below_drewN | apply below_drew1 | refine below_set ?_ br6.out) | exact HB.out)) : p := h
set_option maxHeartbeats 8000000 in
set_option maxRecDepth 100000 in
theorem impl_isFrac.calls (k : Nat) (hs : Int) (jg : Int) (r : Bool) (w : World) (h : impl_isFrac.f k hs jg = some r) :
  Calls Try.prog 108 #[.agg #[.int .i64 hs, .int .i64 jg]] w fun e w' => e = .returned (.bool r) ∧ Below w.heap.size w w' := by
 have hu93 := Try.underlying93
 have HB := Aside0.mk (Below.refl w.heap.size w)
 have H : ((impl_isNumber.f hs).bind fun bb7 => (if bb7 = true then (if jg ≥ 1 then (if jg ≤ 1000000000 then ((impl_gcd.f k hs jg).bind fun bb8 => (some (bb8 == 1))) else (some false)) else (some false)) else (some false))) = some r := h
 clear h
 obtain ⟨bb7, A2, H⟩ := bind_ H
 by_cases c3 : bb7 = true
 ·subst c3
  replace H := ifp_ H
  by_cases c4 : jg ≥ 1
  ·rw [if_pos c4] at H
   have og := decide_eq_true c4
   clear c4
   by_cases c5 : jg ≤ 1000000000
   ·rw [if_pos c5] at H
    have gr := decide_eq_true c5
    clear c5
    obtain ⟨bb8, A6, H⟩ := bind_ H
    obtain rfl := Option.some.inj H
    go_enter Try.func108, Try.ntmps108
    go_wp2_with (first | ((with_reducible refine gate_dst (N := 1) rfl ?_); refine bx_ (N := 1) #[.int .i64 hs, .int .i64 jg] 93 ?_; intro s8 hg w7 hbox hb; have wu := Aside0.mk (hbox); have cm7 := Aside0.mk ((g25_ : w.heap.size ≤ s8)); have br6 := Aside0.mk ((g25_ : w.heap.size ≤ s8)); replace HB := Aside0.mk (below_step (um) hb); clear hb hbox hg; obtain ⟨xh, xi, xj, xk⟩ := blk2_ wu) | ((with_reducible refine gate_callee (f := 125) rfl ?_); refine goesL_ (some 5) rfl rfl Try.func125 k_ rfl #[.int .i64 hs] rfl (g2_) ?_; (with_reducible refine (impl_isNumber.calls hs true _ A2.out).mono ?_); rintro e w' ⟨rfl, ⟨nd, rfl⟩⟩; refine ⟨_, rfl, ?_⟩) | (go_at_call 126; (with_reducible refine (impl_gcd.calls k hs jg bb8 _ A6.out).mono ?_); rintro e w9 ⟨rfl, hb⟩; replace wu := bb_ wu hb; replace HB := Aside0.mk (below_step (um) hb); (try clear hb); (try clear hk hi)))
    go_ret
    exact ⟨g4_, um⟩
   ·rw [if_neg c5] at H
    have gr := decide_eq_false c5
    clear c5
    obtain rfl := Option.some.inj H
    go_enter Try.func108, Try.ntmps108
    go_wp2_with (first | ((with_reducible refine gate_dst (N := 1) rfl ?_); refine bx_ (N := 1) #[.int .i64 hs, .int .i64 jg] 93 ?_; intro s8 hg w10 hbox hb; have wu := Aside0.mk (hbox); have cm7 := Aside0.mk ((g25_ : w.heap.size ≤ s8)); have br6 := Aside0.mk ((g25_ : w.heap.size ≤ s8)); replace HB := Aside0.mk (below_step (um) hb); clear hb hbox hg; obtain ⟨wx, wy, wz, xa⟩ := blk2_ wu) | ((with_reducible refine gate_callee (f := 125) rfl ?_); refine goesL_ (some 5) rfl rfl Try.func125 k_ rfl #[.int .i64 hs] rfl (g2_) ?_; (with_reducible refine (impl_isNumber.calls hs true _ A2.out).mono ?_); rintro e w' ⟨rfl, ⟨nd, rfl⟩⟩; refine ⟨_, rfl, ?_⟩))
    go_ret
    exact ⟨g4_, um⟩
  ·rw [if_neg c4] at H
   have og := decide_eq_false c4
   clear c4
   obtain rfl := Option.some.inj H
   go_enter Try.func108, Try.ntmps108
   go_wp2_with (first | ((with_reducible refine gate_dst (N := 1) rfl ?_); refine bx_ (N := 1) #[.int .i64 hs, .int .i64 jg] 93 ?_; intro s8 hg xy hbox hb; have wu := Aside0.mk (hbox); have cm7 := Aside0.mk ((g25_ : w.heap.size ≤ s8)); have br6 := Aside0.mk ((g25_ : w.heap.size ≤ s8)); replace HB := Aside0.mk (below_step (um) hb); clear hb hbox hg; obtain ⟨qq, qr, qs, qt⟩ := blk2_ wu) | ((with_reducible refine gate_callee (f := 125) rfl ?_); refine goesL_ (some 5) rfl rfl Try.func125 k_ rfl #[.int .i64 hs] rfl (g2_) ?_; (with_reducible refine (impl_isNumber.calls hs true _ A2.out).mono ?_); rintro e w' ⟨rfl, ⟨nd, rfl⟩⟩; refine ⟨_, rfl, ?_⟩))
   go_ret
   exact ⟨g4_, um⟩
 ·replace c3 := Bool.eq_false_iff.mpr c3
  subst c3
  replace H := ifn_ H
  obtain rfl := Option.some.inj H
  go_enter Try.func108, Try.ntmps108
  go_wp2_with (first | ((with_reducible refine gate_dst (N := 1) rfl ?_); refine bx_ (N := 1) #[.int .i64 hs, .int .i64 jg] 93 ?_; intro s8 hg w14 hbox hb; have wu := Aside0.mk (hbox); have cm7 := Aside0.mk ((g25_ : w.heap.size ≤ s8)); have br6 := Aside0.mk ((g25_ : w.heap.size ≤ s8)); replace HB := Aside0.mk (below_step (um) hb); clear hb hbox hg; obtain ⟨ck2, ck3, ck4, ck5⟩ := blk2_ wu) | ((with_reducible refine gate_callee (f := 125) rfl ?_); refine goesL_ (some 5) rfl rfl Try.func125 k_ rfl #[.int .i64 hs] rfl (g2_) ?_; (with_reducible refine (impl_isNumber.calls hs false _ A2.out).mono ?_); rintro e w' ⟨rfl, ⟨nd, rfl⟩⟩; refine ⟨_, rfl, ?_⟩))
  go_ret
  exact ⟨g4_, um⟩
def impl_FracOk.f (k : Nat) (hs : Int) (jg : Int) : Option (Bool) := (impl_isFrac.f k hs jg).bind fun bb9 => (some bb9)
theorem impl_FracOk.mq {p : Prop} (h : p := by
 repeat' first
 | (with_reducible exact impl_isFrac.mono _ _ _)
 | (with_reducible exact LeO.refl _)
 | (with_reducible exact LeO.none _)
 | (with_reducible refine LeO.ite ?_ ?_)
 | (with_reducible refine LeO.bind ?_ (fun _ => ?_))
 | exact impl_isFrac.mono _ _ _
 | exact LeO.none _
 | refine LeO.ite ?_ ?_
 | refine LeO.bind ?_ (fun _ => ?_)) : p := h
theorem impl_FracOk.mono : ∀ a0 a1 k, LeO (impl_FracOk.f k a0 a1) (impl_FracOk.f (k + 1) a0 a1) := by
 intro a0 a1 k
 unfold impl_FracOk.f
 exact impl_FracOk.mq
theorem bd4 {p : Prop} (h : p := by repeat (first | (with_reducible first | exact HB.out | apply below_alloc | apply pw_below_drewN | apply below_drew1 | refine below_set ?_ fn1.out) | exact HB.out)) : p := h
set_option maxHeartbeats 8000000 in
set_option maxRecDepth 100000 in
theorem impl_FracOk.calls (k : Nat) (hs : Int) (jg : Int) (r : Bool) (w : World) (h : impl_FracOk.f k hs jg = some r) :
  Calls Try.prog 71 #[.agg #[.int .i64 hs, .int .i64 jg]] w fun e w' => e = .returned (.bool r) ∧ Below w.heap.size w w' := by
 have hu93 := Try.underlying93
 have HB := Aside0.mk (Below.refl w.heap.size w)
 have H : ((impl_isFrac.f k hs jg).bind fun bb9 => (some bb9)) = some r := h
 clear h
 obtain ⟨bb9, A2, H⟩ := bind_ H
 obtain rfl := Option.some.inj H
 go_enter Try.func71, Try.ntmps71
 go_wp2_with (first | ((with_reducible refine gate_dst (N := 1) rfl ?_); refine bx_ (N := 1) #[.int .i64 hs, .int .i64 jg] 93 ?_; intro dw2 hg w3 hbox hb; have cm8 := Aside0.mk (hbox); have ia3 := Aside0.mk ((by rw [hg]; exact (below_size (bd4)) : w.heap.size ≤ dw2)); have fn1 := Aside0.mk ((by rw [hg]; exact (below_size (bd4)) : w.heap.size ≤ dw2)); replace HB := Aside0.mk (below_step (bd4) hb); clear hb hbox hg; obtain ⟨tc, td, ag4, ww⟩ := blk2_ cm8) | ((with_reducible refine gate_callee (f := 108) rfl ?_); refine goesL_ (some 4) rfl rfl Try.func108 k_ rfl #[.agg #[.int .i64 hs, .int .i64 jg]] rfl (g2_) ?_; (with_reducible refine (impl_isFrac.calls k hs jg bb9 _ A2.out).mono ?_); rintro e w5 ⟨rfl, hb⟩; refine ⟨_, rfl, ?_⟩; replace cm8 := bb_ cm8 hb; replace HB := Aside0.mk (below_step (bd4) hb); (try clear hb); (try clear hk hi)))
 go_ret
 exact ⟨g4_, bd4⟩
def laws_alive.f (k : Nat)  : Option (Bool) := (impl_FracOk.f k 1 2).bind fun bc0 => (if bc0 = true then ((impl_FracOk.f k 2 4).bind fun bc1 => (some (!bc1))) else (some false))
theorem laws_alive.mq {p : Prop} (h : p := by
 repeat' first
 | (with_reducible exact impl_FracOk.mono _ _ _)
 | (with_reducible exact LeO.refl _)
 | (with_reducible exact LeO.none _)
 | (with_reducible refine LeO.ite ?_ ?_)
 | (with_reducible refine LeO.bind ?_ (fun _ => ?_))
 | exact impl_FracOk.mono _ _ _
 | exact LeO.none _
 | refine LeO.ite ?_ ?_
 | refine LeO.bind ?_ (fun _ => ?_)) : p := h
theorem laws_alive.mono : ∀ k, LeO (laws_alive.f k ) (laws_alive.f (k + 1) ) := by
 intro  k
 unfold laws_alive.f
 exact laws_alive.mq
theorem bd5 {p : Prop} (h : p := by repeat (first | (with_reducible first | exact HB.out | apply below_alloc | apply pw_below_drewN | apply below_drew1) | exact HB.out)) : p := h
set_option maxHeartbeats 8000000 in
set_option maxRecDepth 100000 in
theorem laws_alive.calls (k : Nat)  (r : Bool) (w : World) (h : laws_alive.f k  = some r) :
  Calls Try.prog 23 #[] w fun e w' => e = .returned (.bool r) ∧ Below w.heap.size w w' := by
 have hu93 := Try.underlying93
 have HB := Aside0.mk (Below.refl w.heap.size w)
 have H : ((impl_FracOk.f k 1 2).bind fun bc0 => (if bc0 = true then ((impl_FracOk.f k 2 4).bind fun bc1 => (some (!bc1))) else (some false))) = some r := h
 clear h
 obtain ⟨bc0, A1, H⟩ := bind_ H
 by_cases c2 : bc0 = true
 ·subst c2
  replace H := ifp_ H
  obtain ⟨bc1, A3, H⟩ := bind_ H
  obtain rfl := Option.some.inj H
  go_enter Try.func23, Try.ntmps23
  go_wp2_with (first | ((with_reducible refine gate_callee (f := 71) rfl ?_); refine goesL_ (some 2) rfl rfl Try.func71 k_ rfl #[.agg #[.int .i64 1, .int .i64 2]] rfl (g2_) ?_; (with_reducible refine (impl_FracOk.calls k 1 2 true _ A1.out).mono ?_); rintro e w4 ⟨rfl, hb⟩; refine ⟨_, rfl, ?_⟩; replace HB := Aside0.mk (below_step (bd5) hb); (try clear hb); (try clear hk hi)) | (go_at_call 71; (with_reducible refine (impl_FracOk.calls k 2 4 bc1 _ A3.out).mono ?_); rintro e w5 ⟨rfl, hb⟩; replace HB := Aside0.mk (below_step (bd5) hb); (try clear hb); (try clear hk hi)))
  go_ret
  exact ⟨g4_, bd5⟩
 ·replace c2 := Bool.eq_false_iff.mpr c2
  subst c2
  replace H := ifn_ H
  obtain rfl := Option.some.inj H
  go_enter Try.func23, Try.ntmps23
  go_wp2_with (first | ((with_reducible refine gate_callee (f := 71) rfl ?_); refine goesL_ (some 2) rfl rfl Try.func71 k_ rfl #[.agg #[.int .i64 1, .int .i64 2]] rfl (g2_) ?_; (with_reducible refine (impl_FracOk.calls k 1 2 false _ A1.out).mono ?_); rintro e w6 ⟨rfl, hb⟩; refine ⟨_, rfl, ?_⟩; replace HB := Aside0.mk (below_step (bd5) hb); (try clear hb); (try clear hk hi)))
  go_ret
  exact ⟨g4_, bd5⟩
mutual
def impl_isBook.j0 : Nat → Int → Bool → List Int → List (List Int) → Option (Bool)
 | 0, _, _, _, _ => none
 | k + 1, x3, x23, o8, qf => if x23 = true then (some false) else (impl_isBook.l0 k x3 qf (qf.length : Int) 0 o8 qf)
def impl_isBook.l0 : Nat → Int → List (List Int) → Int → Int → List Int → List (List Int) → Option (Bool)
 | 0, _, _, _, _, _, _ => none
 | k + 1, x3, mv, uk, jm, o8, qf => if jm < uk then (if 0 ≤ jm then (if jm < (mv.length : Int) then (if jm < (o8.length : Int) then (if (rd o8 jm) < 0 then (impl_isBook.j2 k x3 (rd_L1 mv jm) mv uk jm true o8 qf) else (if (rd o8 jm) > 20 then (impl_isBook.j2 k x3 (rd_L1 mv jm) mv uk jm true o8 qf) else (if ((rd_L1 mv jm).length : Int) = x3 then (if jm < ((rd_L1 mv jm).length : Int) then (impl_isBook.j2 k x3 (rd_L1 mv jm) mv uk jm ((rd (rd_L1 mv jm) jm) != 0) o8 qf) else (none)) else (impl_isBook.j2 k x3 (rd_L1 mv jm) mv uk jm true o8 qf)))) else (none)) else (none)) else (none)) else (some true)
def impl_isBook.j2 : Nat → Int → List Int → List (List Int) → Int → Int → Bool → List Int → List (List Int) → Option (Bool)
 | 0, _, _, _, _, _, _, _, _ => none
 | k + 1, x3, x5, mv, uk, jm, x58, o8, qf => if x58 = true then (some false) else (impl_isBook.l1 k x3 mv uk jm x5 (x5.length : Int) 0 o8 qf)
def impl_isBook.l1 : Nat → Int → List (List Int) → Int → Int → List Int → Int → Int → List Int → List (List Int) → Option (Bool)
 | 0, _, _, _, _, _, _, _, _, _ => none
 | k + 1, x3, mv, uk, jm, x59, x60, x61, o8, qf => if x61 < x60 then (if 0 ≤ x61 then (if x61 < (x59.length : Int) then (if (rd x59 x61) < 0 then (some false) else (if (rd x59 x61) > 9 then (some false) else (impl_isBook.l1 k x3 mv uk jm x59 x60 (wrap64 (x61 + 1)) o8 qf))) else (none)) else (none)) else (impl_isBook.l0 k x3 mv uk (wrap64 (jm + 1)) o8 qf)
end
def impl_isBook.f (k : Nat) (ab : List Int) (aa : List (List Int)) : Option (Bool) := if (ab.length : Int) < 1 then (impl_isBook.j0 k (ab.length : Int) true ab aa) else (if (ab.length : Int) > 4 then (impl_isBook.j0 k (ab.length : Int) true ab aa) else (impl_isBook.j0 k (ab.length : Int) ((aa.length : Int) != (ab.length : Int)) ab aa))
theorem impl_isBook.mq {p : Prop} (h : p := by
 repeat' first
 | (with_reducible exact ih0 _ _ _ _)
 | (with_reducible exact ih1 _ _ _ _ _ _)
 | (with_reducible exact ih2 _ _ _ _ _ _ _ _)
 | (with_reducible exact ih3 _ _ _ _ _ _ _ _ _)
 | (with_reducible exact LeO.refl _)
 | (with_reducible exact LeO.none _)
 | (with_reducible refine LeO.ite ?_ ?_)
 | (with_reducible refine LeO.bind ?_ (fun _ => ?_))
 | exact ih0 _ _ _ _
 | exact ih1 _ _ _ _ _ _
 | exact ih2 _ _ _ _ _ _ _ _
 | exact ih3 _ _ _ _ _ _ _ _ _
 | exact LeO.none _
 | refine LeO.ite ?_ ?_
 | refine LeO.bind ?_ (fun _ => ?_)) : p := h
theorem impl_isBook.mono_l : ∀ k, (∀ y0 y1 y2 y3, LeO (impl_isBook.j0 k y0 y1 y2 y3) (impl_isBook.j0 (k + 1) y0 y1 y2 y3)) ∧ (∀ y0 y1 y2 y3 y4 y5, LeO (impl_isBook.l0 k y0 y1 y2 y3 y4 y5) (impl_isBook.l0 (k + 1) y0 y1 y2 y3 y4 y5)) ∧ (∀ y0 y1 y2 y3 y4 y5 y6 y7, LeO (impl_isBook.j2 k y0 y1 y2 y3 y4 y5 y6 y7) (impl_isBook.j2 (k + 1) y0 y1 y2 y3 y4 y5 y6 y7)) ∧ (∀ y0 y1 y2 y3 y4 y5 y6 y7 y8, LeO (impl_isBook.l1 k y0 y1 y2 y3 y4 y5 y6 y7 y8) (impl_isBook.l1 (k + 1) y0 y1 y2 y3 y4 y5 y6 y7 y8))
 | 0 => ⟨fun _ _ _ _ r h => by simp [impl_isBook.j0] at h, fun _ _ _ _ _ _ r h => by simp [impl_isBook.l0] at h, fun _ _ _ _ _ _ _ _ r h => by simp [impl_isBook.j2] at h, fun _ _ _ _ _ _ _ _ _ r h => by simp [impl_isBook.l1] at h⟩
 | k + 1 => by
  obtain ⟨ih0, ih1, ih2, ih3⟩ := impl_isBook.mono_l k
  refine ⟨?_, ?_, ?_, ?_⟩
  ·intro y0 y1 y2 y3
   unfold impl_isBook.j0
   exact impl_isBook.mq
  ·intro y0 y1 y2 y3 y4 y5
   unfold impl_isBook.l0
   exact impl_isBook.mq
  ·intro y0 y1 y2 y3 y4 y5 y6 y7
   unfold impl_isBook.j2
   exact impl_isBook.mq
  ·intro y0 y1 y2 y3 y4 y5 y6 y7 y8
   unfold impl_isBook.l1
   exact impl_isBook.mq
theorem impl_isBook.mono : ∀ a0 a1 k, LeO (impl_isBook.f k a0 a1) (impl_isBook.f (k + 1) a0 a1) := by
 intro a0 a1 k
 obtain ⟨ih0, ih1, ih2, ih3⟩ := impl_isBook.mono_l k
 unfold impl_isBook.f
 exact impl_isBook.mq
theorem lk {p : Prop} (h : p := by repeat (first | (with_reducible first | exact HB.out | apply below_alloc | apply pw_below_drewN | apply below_drew1 | refine below_set ?_ fn2.out) | exact HB.out)) : p := h
set_option maxHeartbeats 8000000 in
set_option maxRecDepth 100000 in
theorem impl_isBook.calls (k : Nat) (ag : Option Addr) (ae : Nat) (ab : List Int) (ah : Option Addr) (af : Nat) (aa : List (List Int)) (r : Bool) (w : World) (dx : Kd.C (Kd.int .i64) w ag ab.length ab) (dy : ab.length ≤ ae) (dz : Kd.C (Kd.slice 3 (Kd.int .i64)) w ah aa.length aa) (d2 : aa.length ≤ af) (h : impl_isBook.f k ab aa = some r) :
  Calls Try.prog 73 #[.agg #[.slice ag ab.length ae, .slice ah aa.length af]] w fun e w' => e = .returned (.bool r) ∧ Below w.heap.size w w' := by
 have hu25 := Try.underlying25
 have dd := Aside0.mk dx
 have d6 := Aside0.mk dy
 clear dx dy
 have cq := Aside0.mk dz
 have d7 := Aside0.mk d2
 clear dz d2
 have HB := Aside0.mk (Below.refl w.heap.size w)
 have H : (if (ab.length : Int) < 1 then (impl_isBook.j0 k (ab.length : Int) true ab aa) else (if (ab.length : Int) > 4 then (impl_isBook.j0 k (ab.length : Int) true ab aa) else (impl_isBook.j0 k (ab.length : Int) ((aa.length : Int) != (ab.length : Int)) ab aa))) = some r := h
 clear h
 have nt := Aside0.mk H
 clear H
 go_enter Try.func73, Try.ntmps73
 go_upto_region 2 with (first | ((with_reducible refine gate_dst (N := 1) rfl ?_); (try (refine gate_guard (by rfl) ?_; dsimp only)); refine bx_ (N := 1) #[.slice ag ab.length ae, .slice ah aa.length af] 25 ?_; intro an4 hg w3 hbox hb; have kj := Aside0.mk (hbox); have ia4 := Aside0.mk ((by rw [hg]; exact (below_size (lk)) : w.heap.size ≤ an4)); have fn2 := Aside0.mk ((by rw [hg]; exact (below_size (lk)) : w.heap.size ≤ an4)); replace HB := Aside0.mk (below_step (lk) hb); clear hb hbox hg; obtain ⟨tc, td, ag4, ww⟩ := blk2_ kj))
 (try simp only [Act.put, List.setIfInBounds_toArray, List.set_cons_zero, List.set_cons_succ])
 go_cut [23] (fun v23 wc => ∃ (kq : Nat) (br7 : Bool), v23 = .bool br7 ∧ Aside0 (impl_isBook.j0 kq (ab.length : Int) br7 ab aa = some r) ∧ Aside0 (kq ≤ k) ∧ Aside0 (wc.heap[an4]? = some (.cells #[(.slice ag ab.length ae), (.slice ah aa.length af)] 25 (0, 0))) ∧ Aside0 (Below w.heap.size w wc))
 case first =>
  have H := nt.out
  clear nt
  by_cases c5 : (ab.length : Int) < 1
  ·rw [if_pos c5] at H
   have gr := decide_eq_true c5
   have bc2 : decide (ab.length < 1) = true := decide_eq_true (by omega)
   clear c5
   (first | rw [gr] | (simp only [i64_w, i32_w]; rw [gr]) | skip)
   have H' := Aside0.mk H
   clear H
   go_wp2
   go_meet
   case rel => exact ⟨_, (true), (g3_), H', ⟨g10_⟩, ⟨uf0_ kj⟩, ⟨lk⟩⟩
  ·rw [if_neg c5] at H
   have gr := decide_eq_false c5
   have bc2 : decide (ab.length < 1) = false := decide_eq_false (by omega)
   clear c5
   (first | rw [gr] | (simp only [i64_w, i32_w]; rw [gr]) | skip)
   by_cases c6 : (ab.length : Int) > 4
   ·rw [if_pos c6] at H
    have k9 := decide_eq_true c6
    have ag2 : decide (4 < ab.length) = true := decide_eq_true (by omega)
    clear c6
    have H' := Aside0.mk H
    clear H
    go_wp2
    go_meet
    case rel => exact ⟨_, (true), (g3_), H', ⟨g10_⟩, ⟨uf0_ kj⟩, ⟨lk⟩⟩
   ·rw [if_neg c6] at H
    have k9 := decide_eq_false c6
    have ag2 : decide (4 < ab.length) = false := decide_eq_false (by omega)
    clear c6
    have H' := Aside0.mk H
    clear H
    obtain ⟨te, tf, tg, th⟩ := blk2_ kj
    go_wp2
    go_meet
    case rel => exact ⟨_, (((aa.length : Int) != (ab.length : Int))), (g3_), H', ⟨g10_⟩, ⟨uf0_ kj⟩, ⟨lk⟩⟩
 case rest =>
  clear nt
  try clear p2
  try clear c5
  try clear gr
  try clear bc2
  try clear c6
  try clear k9
  try clear ag2
  try clear c7
  try clear tc
  try clear td
  try clear te
  try clear tf
  try clear ag4
  try clear ww
  try clear tg
  try clear th
  obtain ⟨kq, br7, rfl, HA, HJ1, kj, HB⟩ := hcut
  cases kq with
  | zero => exact absurd HA.out (by simp [impl_isBook.j0])
  | succ kj1 =>
   have H := HA.out
   clear HA
   simp only [impl_isBook.j0] at H
   by_cases c8 : br7 = true
   ·subst c8
    replace H := ifp_ H
    obtain rfl := Option.some.inj H
    go_wp2
    go_ret
    exact ⟨g4_, lk⟩
   ·replace c8 := Bool.eq_false_iff.mpr c8
    subst c8
    replace H := ifn_ H
    have H' := Aside0.mk H
    clear H
    obtain ⟨br2, br3, br4, br5⟩ := blk2_ kj
    go_wp2
    go_loopg [27] kj1 (fun kq v27 w' => ∃ (dv : Int), v27 = .int .i64 dv ∧ Aside0 (impl_isBook.l0 kq (ab.length : Int) aa (aa.length : Int) dv ab aa = some r) ∧ Aside0 (kq ≤ kj1) ∧ Aside0 (w'.heap[an4]? = some (.cells #[(.slice ag ab.length ae), (.slice ah aa.length af)] 25 (0, 0))) ∧ Aside0 (Below w.heap.size w w'))
    case atStart => exact ⟨(0), (g3_), H', ⟨Nat.le_refl _⟩, ⟨uf0_ kj⟩, ⟨lk⟩⟩
    case round =>
     clear H'
     try clear p2
     try clear c5
     try clear gr
     try clear bc2
     try clear c6
     try clear k9
     try clear ag2
     try clear c7
     try clear c8
     try clear tc
     try clear td
     try clear te
     try clear tf
     try clear br2
     try clear br3
     try clear ag4
     try clear ww
     try clear tg
     try clear th
     try clear br4
     try clear br5
     try clear p2
     obtain ⟨dv, rfl, HA, HK2, kj, HB⟩ := hrel
     cases gk with
     | zero => exact absurd HA.out (by simp [impl_isBook.l0])
     | succ k2 =>
      have H := HA.out
      clear HA
      simp only [impl_isBook.l0] at H
      by_cases fv : dv < (aa.length : Int)
      ·rw [if_pos fv] at H
       have ou := decide_eq_true fv
       clear fv
       obtain ⟨kn, H⟩ := pos_ H
       have yh := decide_eq_true kn
       clear kn
       obtain ⟨hx, H⟩ := pos_ H
       have ql := decide_eq_true hx
       clear hx
       have cm9 := Aside0.mk H
       clear H
       have bc3 : 0 ≤ (dv : Int) := of_decide_eq_true (g0_)
       have bc4 : dv < (aa.length : Int) := of_decide_eq_true (g0_)
       obtain ⟨dw3, ia5, ia6, fn3, br8, dw4, dw5⟩ := at_L1 cq.out dv bc3 bc4
       cases fn3
       replace br8 := cl_ HB br8
       have br9 := Aside0.mk dw5
       have ia7 := Aside0.mk dw4
       clear dw5 dw4
       replace bc3 := eq_true bc3
       replace bc4 := eq_true bc4
       go_upto_region 7 with (fail)
       go_cut [58] (fun v58 wc => ∃ (kq : Nat) (bs0 : Bool), v58 = .bool bs0 ∧ Aside0 (impl_isBook.j2 kq (ab.length : Int) (rd_L1 aa dv) aa (aa.length : Int) dv bs0 ab aa = some r) ∧ Aside0 (kq ≤ k2) ∧ Aside0 (wc.heap[an4]? = some (.cells #[(.slice ag ab.length ae), (.slice (some dw3) aa.length af)] 25 (0, 0))) ∧ Aside0 (Below w.heap.size w wc))
       case first =>
        have H := cm9.out
        clear cm9
        obtain ⟨e3, H⟩ := pos_ H
        have oo := decide_eq_true e3
        clear e3
        (first | rw [oo] | (simp only [i64_w, i32_w]; rw [oo]) | skip)
        by_cases ee : (rd ab dv) < 0
        ·rw [if_pos ee] at H
         have l9 := decide_eq_true ee
         clear ee
         have H' := Aside0.mk H
         clear H
         obtain ⟨ab0, ab1, ab2, ab3⟩ := blk2_ kj
         have mw : 0 ≤ (dv : Int) := of_decide_eq_true (g0_)
         have my : dv < (ab.length : Int) := of_decide_eq_true (g0_)
         obtain ⟨an5, ag3, qg⟩ := Kd.at_int dd.out dv mw my
         cases ag3
         replace qg := cl_ HB qg
         replace mw := eq_true mw
         replace my := eq_true my
         go_wp2
         go_meet
         case rel => exact ⟨_, (true), (g3_), H', ⟨g33_⟩, ⟨uf0_ kj⟩, ⟨lk⟩⟩
        ·rw [if_neg ee] at H
         have l9 := decide_eq_false ee
         clear ee
         by_cases fa : (rd ab dv) > 20
         ·rw [if_pos fa] at H
          have ti := decide_eq_true fa
          clear fa
          have H' := Aside0.mk H
          clear H
          obtain ⟨dw6, dw7, dw8, dw9⟩ := blk2_ kj
          have mw : 0 ≤ (dv : Int) := of_decide_eq_true (g0_)
          have my : dv < (ab.length : Int) := of_decide_eq_true (g0_)
          obtain ⟨an5, ag3, qg⟩ := Kd.at_int dd.out dv mw my
          cases ag3
          replace qg := cl_ HB qg
          replace mw := eq_true mw
          replace my := eq_true my
          have qh : 0 ≤ (dv : Int) := of_decide_eq_true (g0_)
          have qi : dv < (ab.length : Int) := of_decide_eq_true (g0_)
          obtain ⟨bc5, bc6, ul⟩ := Kd.at_int dd.out dv qh qi
          obtain rfl : an5 = bc5 := (by injection bc6)
          replace ul := cl_ HB ul
          replace qh := eq_true qh
          replace qi := eq_true qi
          go_wp2
          go_meet
          case rel => exact ⟨_, (true), (g3_), H', ⟨g33_⟩, ⟨uf0_ kj⟩, ⟨lk⟩⟩
         ·rw [if_neg fa] at H
          have ti := decide_eq_false fa
          clear fa
          by_cases dl : ((rd_L1 aa dv).length : Int) = (ab.length : Int)
          ·rw [if_pos dl] at H
           have lr : (((rd_L1 aa dv).length : Int) == (ab.length : Int)) = true := beq_iff_eq.mpr dl
           have pv : (((rd_L1 aa dv).length : Int) != (ab.length : Int)) = false := bne_eq_false_iff_eq.mpr dl
           have ak6 : ((rd_L1 aa dv).length == ab.length) = true := by first | simpa using dl | (simp at dl ⊢; omega)
           clear dl
           obtain ⟨ir, H⟩ := pos_ H
           have ay7 := decide_eq_true ir
           clear ir
           have H' := Aside0.mk H
           clear H
           obtain ⟨rx, ry, tk, rz⟩ := blk2_ kj
           have mw : 0 ≤ (dv : Int) := of_decide_eq_true (g0_)
           have my : dv < (ab.length : Int) := of_decide_eq_true (g0_)
           obtain ⟨an5, ag3, qg⟩ := Kd.at_int dd.out dv mw my
           cases ag3
           replace qg := cl_ HB qg
           replace mw := eq_true mw
           replace my := eq_true my
           have qh : 0 ≤ (dv : Int) := of_decide_eq_true (g0_)
           have qi : dv < (ab.length : Int) := of_decide_eq_true (g0_)
           obtain ⟨bc5, bc6, ul⟩ := Kd.at_int dd.out dv qh qi
           obtain rfl : an5 = bc5 := (by injection bc6)
           replace ul := cl_ HB ul
           replace qh := eq_true qh
           replace qi := eq_true qi
           have bc7 : 0 ≤ (dv : Int) := of_decide_eq_true (g0_)
           have bc8 : dv < ((rd_L1 aa dv).length : Int) := of_decide_eq_true (g0_)
           obtain ⟨ia8, fn4, bs1⟩ := Kd.at_int br9.out dv bc7 bc8
           cases fn4
           replace bs1 := cl_ HB bs1
           replace bc7 := eq_true bc7
           replace bc8 := eq_true bc8
           go_wp2
           go_meet
           case rel => exact ⟨_, (((rd (rd_L1 aa dv) dv) != 0)), (g3_), H', ⟨g33_⟩, ⟨uf0_ kj⟩, ⟨lk⟩⟩
          ·rw [if_neg dl] at H
           have lr : (((rd_L1 aa dv).length : Int) == (ab.length : Int)) = false := beq_eq_false_iff_ne.mpr dl
           have pv : (((rd_L1 aa dv).length : Int) != (ab.length : Int)) = true := bne_iff_ne.mpr dl
           have ak6 : ((rd_L1 aa dv).length == ab.length) = false := by first | simpa using dl | (simp at dl ⊢; omega)
           have H' := Aside0.mk H
           clear H
           obtain ⟨ut, uu, uv, uw⟩ := blk2_ kj
           have mw : 0 ≤ (dv : Int) := of_decide_eq_true (g0_)
           have my : dv < (ab.length : Int) := of_decide_eq_true (g0_)
           obtain ⟨an5, ag3, qg⟩ := Kd.at_int dd.out dv mw my
           cases ag3
           replace qg := cl_ HB qg
           replace mw := eq_true mw
           replace my := eq_true my
           have qh : 0 ≤ (dv : Int) := of_decide_eq_true (g0_)
           have qi : dv < (ab.length : Int) := of_decide_eq_true (g0_)
           obtain ⟨bc5, bc6, ul⟩ := Kd.at_int dd.out dv qh qi
           obtain rfl : an5 = bc5 := (by injection bc6)
           replace ul := cl_ HB ul
           replace qh := eq_true qh
           replace qi := eq_true qi
           go_wp2
           go_meet
           case rel => exact ⟨_, (true), (g3_), H', ⟨g33_⟩, ⟨uf0_ kj⟩, ⟨lk⟩⟩
       case rest =>
        clear cm9
        (try clear c1); (try clear p1); (try clear q1); (try clear pb); (try clear c2); (try clear p2); (try clear c5); (try clear gr); (try clear bc2); (try clear c6); (try clear k9); (try clear ag2); (try clear c7); (try clear c8); (try clear fv); (try clear ou); (try clear p10); (try clear q10); (try clear fn5); (try clear kn); (try clear yh); (try clear p11); (try clear q11); (try clear bt6); (try clear hx); (try clear ql); (try clear e3); (try clear oo); (try clear ee); (try clear l9); (try clear fa); (try clear ti); (try clear dl); (try clear lr); (try clear pv); (try clear ak6); (try clear ir); (try clear ay7); (try clear ab0); (try clear ab1); (try clear dw6); (try clear dw7); (try clear rx); (try clear ry); (try clear ut); (try clear uu); (try clear tc); (try clear td); (try clear te); (try clear tf); (try clear br2); (try clear br3); (try clear ab2); (try clear ab3); (try clear dw8); (try clear dw9); (try clear tk); (try clear rz); (try clear uv); (try clear uw); (try clear ag4); (try clear ww); (try clear tg); (try clear th); (try clear br4); (try clear br5); (try clear br8); (try clear qg); (try clear ul); (try clear bs1); (try clear bc3); (try clear mw); (try clear qh); (try clear bc7); (try clear p2); (try clear bc4); (try clear my); (try clear qi); try clear bc8
        obtain ⟨kq, bs0, rfl, HA, HJ12, kj, HB⟩ := hcut
        cases kq with
        | zero => exact absurd HA.out (by simp [impl_isBook.j2])
        | succ kj12 =>
         have H := HA.out
         clear HA
         simp only [impl_isBook.j2] at H
         by_cases jo : bs0 = true
         ·subst jo
          replace H := ifp_ H
          obtain rfl := Option.some.inj H
          go_wp2
          go_ret
          exact ⟨g4_, lk⟩
         ·replace jo := Bool.eq_false_iff.mpr jo
          subst jo
          replace H := ifn_ H
          have H' := Aside0.mk H
          clear H
          go_wp2
          go_loopg [61] kj12 (fun kq v61 w' => ∃ (np : Int), v61 = .int .i64 np ∧ Aside0 (impl_isBook.l1 kq (ab.length : Int) aa (aa.length : Int) dv (rd_L1 aa dv) ((rd_L1 aa dv).length : Int) np ab aa = some r) ∧ Aside0 (kq ≤ kj12) ∧ Aside0 (w'.heap[an4]? = some (.cells #[(.slice ag ab.length ae), (.slice (some dw3) aa.length af)] 25 (0, 0))) ∧ Aside0 (Below w.heap.size w w'))
          case atStart => exact ⟨(0), (g3_), H', ⟨Nat.le_refl _⟩, ⟨uf0_ kj⟩, ⟨lk⟩⟩
          case round =>
           clear H'
           (try clear c1); (try clear p1); (try clear q1); (try clear pb); (try clear c2); (try clear p2); (try clear c5); (try clear gr); (try clear bc2); (try clear c6); (try clear k9); (try clear ag2); (try clear c7); (try clear c8); (try clear fv); (try clear ou); (try clear p10); (try clear q10); (try clear fn5); (try clear kn); (try clear yh); (try clear p11); (try clear q11); (try clear bt6); (try clear hx); (try clear ql); (try clear e3); (try clear oo); (try clear ee); (try clear l9); (try clear fa); (try clear ti); (try clear dl); (try clear lr); (try clear pv); (try clear ak6); (try clear ir); (try clear ay7); (try clear jo); (try clear ab0); (try clear ab1); (try clear dw6); (try clear dw7); (try clear rx); (try clear ry); (try clear ut); (try clear uu); (try clear tc); (try clear td); (try clear te); (try clear tf); (try clear br2); (try clear br3); (try clear ab2); (try clear ab3); (try clear dw8); (try clear dw9); (try clear tk); (try clear rz); (try clear uv); (try clear uw); (try clear ag4); (try clear ww); (try clear tg); (try clear th); (try clear br4); (try clear br5); (try clear br8); (try clear qg); (try clear ul); (try clear bs1); (try clear p1); (try clear p10); (try clear bc3); (try clear p11); (try clear mw); (try clear qh); (try clear bc7); (try clear p2); (try clear q1); (try clear q10); (try clear bc4); (try clear q11); (try clear my); (try clear qi); try clear bc8
           obtain ⟨np, rfl, HA, HK4, kj, HB⟩ := hrel
           cases gk with
           | zero => exact absurd HA.out (by simp [impl_isBook.l1])
           | succ k4 =>
            have H := HA.out
            clear HA
            simp only [impl_isBook.l1] at H
            by_cases fn : np < ((rd_L1 aa dv).length : Int)
            ·rw [if_pos fn] at H
             have pf := decide_eq_true fn
             clear fn
             obtain ⟨lg, H⟩ := pos_ H
             have be1 := decide_eq_true lg
             clear lg
             obtain ⟨r8, H⟩ := pos_ H
             have cu3 := decide_eq_true r8
             clear r8
             by_cases ij : (rd (rd_L1 aa dv) np) < 0
             ·rw [if_pos ij] at H
              have as2 := decide_eq_true ij
              clear ij
              obtain rfl := Option.some.inj H
              have s9 : 0 ≤ (np : Int) := of_decide_eq_true (g0_)
              have ta : np < ((rd_L1 aa dv).length : Int) := of_decide_eq_true (g0_)
              obtain ⟨dx0, bc9, z2⟩ := Kd.at_int br9.out np s9 ta
              cases bc9
              replace z2 := cl_ HB z2
              replace s9 := eq_true s9
              replace ta := eq_true ta
              go_wp2
              go_ret
              exact ⟨g4_, lk⟩
             ·rw [if_neg ij] at H
              have as2 := decide_eq_false ij
              clear ij
              by_cases mf : (rd (rd_L1 aa dv) np) > 9
              ·rw [if_pos mf] at H
               have bx8 := decide_eq_true mf
               clear mf
               obtain rfl := Option.some.inj H
               have s9 : 0 ≤ (np : Int) := of_decide_eq_true (g0_)
               have ta : np < ((rd_L1 aa dv).length : Int) := of_decide_eq_true (g0_)
               obtain ⟨dx0, bc9, z2⟩ := Kd.at_int br9.out np s9 ta
               cases bc9
               replace z2 := cl_ HB z2
               replace s9 := eq_true s9
               replace ta := eq_true ta
               go_wp2
               go_ret
               exact ⟨g4_, lk⟩
              ·rw [if_neg mf] at H
               have bx8 := decide_eq_false mf
               clear mf
               have H' := Aside0.mk H
               clear H
               have s9 : 0 ≤ (np : Int) := of_decide_eq_true (g0_)
               have ta : np < ((rd_L1 aa dv).length : Int) := of_decide_eq_true (g0_)
               obtain ⟨dx0, bc9, z2⟩ := Kd.at_int br9.out np s9 ta
               cases bc9
               replace z2 := cl_ HB z2
               replace s9 := eq_true s9
               replace ta := eq_true ta
               go_wp2
               go_roundg k4
               case measure => have := HJ1.out; have := HK2.out; have := HJ12.out; have := HK4.out; omega
               case rel => exact ⟨(wrap64 (np + 1)), (g3_), H', ⟨by have := HJ1.out; have := HK2.out; have := HJ12.out; have := HK4.out; omega⟩, ⟨uf0_ kj⟩, ⟨lk⟩⟩
            ·rw [if_neg fn] at H
             have pf := decide_eq_false fn
             clear fn
             have H' := Aside0.mk H
             clear H
             go_wp2
             go_roundg k4
             case measure => have := HJ1.out; have := HK2.out; have := HJ12.out; have := HK4.out; omega
             case rel => exact ⟨(wrap64 (dv + 1)), (g3_), H', ⟨by have := HJ1.out; have := HK2.out; have := HJ12.out; have := HK4.out; omega⟩, ⟨uf0_ kj⟩, ⟨lk⟩⟩
      ·rw [if_neg fv] at H
       have ou := decide_eq_false fv
       clear fv
       obtain rfl := Option.some.inj H
       go_wp2
       go_ret
       exact ⟨g4_, lk⟩
def impl_isDesk.bad (k : Nat) (n : Int) : List S25 → Nat → Option Int
 | [], _ => some (-1)
 | x :: r, i => (impl_isBook.f k x.f0 x.f1).bind fun t => if t = true then (if (x.f0.length : Int) = n then impl_isDesk.bad k n r (i + 1) else some (i : Int)) else some (i : Int)
def impl_isDesk.f (k : Nat) (l0 : List Int) (l1 : List (List Int)) (l2 : List S25) : Option Bool := (impl_isBook.f k l0 l1).bind fun t => if t = true then (if (l2.length : Int) ≤ 8 then (impl_isDesk.bad k (l0.length : Int) l2 0).bind fun q => some (!decide (q ≥ 0)) else some false) else some false
theorem impl_isDesk.bad_mono (k : Nat) (n : Int) : ∀ (l : List S25) (i : Nat), LeO (impl_isDesk.bad k n l i) (impl_isDesk.bad (k + 1) n l i)
 | [], _ => LeO.refl _
 | x :: r, i => by
  unfold impl_isDesk.bad
  refine LeO.bind (impl_isBook.mono _ _ _) (fun _ => ?_)
  refine LeO.ite ?_ (LeO.refl _)
  exact LeO.ite (impl_isDesk.bad_mono k n r (i + 1)) (LeO.refl _)
theorem impl_isDesk.mono : ∀ a0 a1 a2 k, LeO (impl_isDesk.f k a0 a1 a2) (impl_isDesk.f (k + 1) a0 a1 a2) := by
 intro a0 a1 a2 k
 unfold impl_isDesk.f
 refine LeO.bind (impl_isBook.mono _ _ _) (fun _ => ?_)
 refine LeO.ite ?_ (LeO.refl _)
 refine LeO.ite ?_ (LeO.refl _)
 exact LeO.bind (impl_isDesk.bad_mono _ _ _ _) (fun _ => LeO.refl _)
set_option maxHeartbeats 8000000 in
set_option maxRecDepth 100000 in
theorem impl_isDesk.lit (k : Nat) (A0 : Option Addr) (c0 : Nat) (l0 : List Int) (A1 : Option Addr) (c1 : Nat) (l1 : List (List Int)) (gb : Nat) (AN : Option Addr) (nN cN : Nat) (vD vP : Value) (t : Bool) (w : World) (e8 : Kd.C (Kd.int .i64) w A0 l0.length l0) (go : l0.length ≤ c0) (nr : Kd.C (Kd.slice 3 (Kd.int .i64)) w A1 l1.length l1) (ns : l1.length ≤ c1) (hbk : w.heap[gb]? = some (.cells #[.slice AN nN cN, vD, vP] 28 (0, 0))) (h : impl_isBook.f k l0 l1 = some t) :
  Calls Try.prog 110 #[.agg #[.slice A0 l0.length c0, .slice A1 l1.length c1], .pointer (some ⟨gb, 0, none⟩)] w fun e w' => e = .returned (.bool (if t = true then ((l0.length : Int) != (nN : Int)) else true)) ∧ Below w.heap.size w w' := by
 have hu := Try.underlying25
 have hu2 := Try.underlying28
 have jw := Aside0.mk e8
 have ig := Aside0.mk nr
 have BKD := Aside0.mk hbk
 have HB := Aside0.mk (Below.refl w.heap.size w)
 have HT := Aside0.mk h
 have ll := Aside0.mk go
 have un := Aside0.mk ns
 clear e8 nr hbk h go ns
 by_cases ht : t = true
 ·subst ht
  go_enter Try.func110, Try.ntmps110
  go_wp2_with (first | ((with_reducible refine gate_dst (N := 2) rfl ?_); refine box_event ?hg (N := 2) ?hd (cs := #[.slice A0 l0.length c0, .slice A1 l1.length c1]) (t := 25) ?hr ?_; (case hd => rfl); (case hg => rfl); (case hr => first | (go_simp; done) | (go_simp; rfl)); intro g2 hg w2 hbox hb; have n0_ := Aside0.mk (blk_below BKD.out hb); have n1_ := Aside0.mk (below_step HB.out hb); have BK := Aside0.mk hbox; clear BKD HB hbox hg; have BKD := n0_; have HB := n1_; clear n0_ n1_ hb; have hcz_0 : w2.cell? ⟨g2, 0, none⟩ = some (.slice A0 l0.length c0) := (blk_cell BK.out 0).trans rfl; have hcz_1 : w2.cell? ⟨g2, 1, none⟩ = some (.slice A1 l1.length c1) := (blk_cell BK.out 1).trans rfl) | ((with_reducible refine gate_callee (f := 73) rfl ?_); refine goesL_ (some 5) rfl rfl Try.func73 (g1_) rfl #[.agg #[.slice A0 l0.length c0, .slice A1 l1.length c1]] rfl (g59_) ?_; (with_reducible refine (impl_isBook.calls k _ _ l0 _ _ l1 true _ ?side1 ?side2 ?side3 ?side4 HT.out).mono ?_); (case side1 => repeat (first | exact (Kd.C_below jw.out HB.out) | (with_reducible refine Kd.C_alloc ?_ _) | (with_reducible refine Kd.C_drewN ?_ _) | (with_reducible refine Kd.C_drew ?_))); (case side2 => exact ll.out); (case side3 => repeat (first | exact (Kd.C_below ig.out HB.out) | (with_reducible refine Kd.C_alloc ?_ _) | (with_reducible refine Kd.C_drewN ?_ _) | (with_reducible refine Kd.C_drew ?_))); (case side4 => exact un.out); rintro e w3 ⟨rfl, hb⟩; refine ⟨_, rfl, ?_⟩; have n0_ := Aside0.mk (blk_below (by exact uf0_ BKD) hb); have n1_ := Aside0.mk (blk_below (by (with_reducible repeat (first | refine blk_drewN ?_ _ | refine blk_drew ?_ | refine blk_alloc ?_ _)); exact BK.out) hb); have n2_ := Aside0.mk (below_step (g7_) hb); clear BKD BK HB hb; have BKD := n0_; have BK := n1_; have HB := n2_; clear n0_ n1_ n2_; have hcy_0 : w3.cell? ⟨g2, 0, none⟩ = some (.slice A0 l0.length c0) := (blk_cell BK.out 0).trans rfl; have hcd_0 : w3.cell? ⟨gb, 0, none⟩ = some (.slice AN nN cN) := (blk_cell BKD.out 0).trans rfl))
  go_ret
  exact ⟨g3_, g7_⟩
 ·obtain rfl : t = false := by simpa using ht
  clear ht
  go_enter Try.func110, Try.ntmps110
  go_wp2_with (first | ((with_reducible refine gate_dst (N := 2) rfl ?_); refine box_event ?hg (N := 2) ?hd (cs := #[.slice A0 l0.length c0, .slice A1 l1.length c1]) (t := 25) ?hr ?_; (case hd => rfl); (case hg => rfl); (case hr => first | (go_simp; done) | (go_simp; rfl)); intro g2 hg w2 hbox hb; have n1_ := Aside0.mk (below_step HB.out hb); have BK := Aside0.mk hbox; clear HB hbox hg; have HB := n1_; clear n1_ hb; have hcz_0 : w2.cell? ⟨g2, 0, none⟩ = some (.slice A0 l0.length c0) := (blk_cell BK.out 0).trans rfl; have hcz_1 : w2.cell? ⟨g2, 1, none⟩ = some (.slice A1 l1.length c1) := (blk_cell BK.out 1).trans rfl) | ((with_reducible refine gate_callee (f := 73) rfl ?_); refine goesL_ (some 5) rfl rfl Try.func73 (g1_) rfl #[.agg #[.slice A0 l0.length c0, .slice A1 l1.length c1]] rfl (g59_) ?_; (with_reducible refine (impl_isBook.calls k _ _ l0 _ _ l1 false _ ?side1 ?side2 ?side3 ?side4 HT.out).mono ?_); (case side1 => repeat (first | exact (Kd.C_below jw.out HB.out) | (with_reducible refine Kd.C_alloc ?_ _) | (with_reducible refine Kd.C_drewN ?_ _) | (with_reducible refine Kd.C_drew ?_))); (case side2 => exact ll.out); (case side3 => repeat (first | exact (Kd.C_below ig.out HB.out) | (with_reducible refine Kd.C_alloc ?_ _) | (with_reducible refine Kd.C_drewN ?_ _) | (with_reducible refine Kd.C_drew ?_))); (case side4 => exact un.out); rintro e w3 ⟨rfl, hb⟩; refine ⟨_, rfl, ?_⟩; have n2_ := Aside0.mk (below_step (g7_) hb); clear HB hb; have HB := n2_; clear n2_))
  go_ret
  exact ⟨g3_, g7_⟩
set_option maxHeartbeats 8000000 in
set_option maxRecDepth 100000 in
theorem impl_isDesk.index (k : Nat) (A2 : Option Addr) (c2 : Nat) (l2 : List S25) (gb : Nat) (AN : Option Addr) (nN cN : Nat) (vD vP : Value) (r : Int) (w : World) (qj : Kd.C k25 w A2 l2.length l2) (hc2 : l2.length ≤ c2) (hbk : w.heap[gb]? = some (.cells #[.slice AN nN cN, vD, vP] 28 (0, 0))) (h : impl_isDesk.bad k (nN : Int) l2 0 = some r) :
  Calls Try.prog 127 #[.slice A2 l2.length c2, .func (.func 110) #[] #[.pointer (some ⟨gb, 0, none⟩)]] w fun e w' => e = .returned (.int .i64 r) ∧ Below w.heap.size w w' := by
 have hn : l2.length ≤ 9223372036854775807 := qj.2.1
 have HR2 := Aside0.mk qj
 have BKD := Aside0.mk hbk
 have HB := Aside0.mk (Below.refl w.heap.size w)
 have H := Aside0.mk h
 clear qj hbk h
 generalize hN : l2.length = n at *
 have HN := Aside0.mk hN
 clear hN
 go_enter Try.func127, Try.ntmps127
 go_wp2_with fail
 go_loopg [5, 8] n (fun kq v5 v8 w' => ∃ j : Nat, kq + j = n ∧ v8 = .int .i64 j ∧ Aside0 (impl_isDesk.bad k (nN : Int) (l2.drop j) j = some r) ∧ Aside0 (Below w.heap.size w w'))
 case atStart => exact ⟨0, rfl, rfl, ⟨H.out⟩, ⟨g7_⟩⟩
 case round =>
  clear HB H
  obtain ⟨j, hj, rfl, HA, HB⟩ := hrel
  by_cases hlt : j < n
  ·obtain ⟨k1, rfl⟩ : ∃ k1, gk = k1 + 1 := ⟨gk - 1, by omega⟩
   have hlt2 : j < l2.length := by rw [HN.out]; exact hlt
   have hd : l2.drop j = rd_T25 l2 (j : Int) :: l2.drop (j + 1) := by
    rw [List.drop_eq_getElem_cons hlt2]; simp [rd_T25, List.getD_eq_getElem?_getD, List.getElem?_eq_getElem hlt2]
   have HX := HA.out
   rw [hd] at HX
   simp only [impl_isDesk.bad] at HX
   clear HA
   obtain ⟨ad, B0, d0, B1, d1, e, hx0, pb, hl0, hi0, hl1, hi1⟩ := at_T25 HR2.out (j : Int) (by omega) (by omega)
   cases e
   have hx0' := (HB.out.cell (World.block_lt_of_cell? w _ hx0)).trans hx0
   have hx1' := (HB.out.cell (World.block_lt_of_cell? w _ pb)).trans pb
   rw [Int.toNat_natCast] at hx0' hx1'
   have HI0 := Aside0.mk hi0
   have HI1 := Aside0.mk hi1
   have z4 := Aside0.mk hl0
   have z5 := Aside0.mk hl1
   have p5 : (0 ≤ (j : Int)) = True := eq_true (by omega)
   have q5 : ((j : Int) < (n : Int)) = True := eq_true (by omega)
   have rr : decide ((j : Int) < (n : Int)) = true := decide_eq_true (by omega)
   clear hx0 pb hi0 hi1 hl0 hl1 hd hlt2
   generalize rd_T25 l2 (j : Int) = y at hx0' hx1' HI0 HI1 z4 z5 HX
   obtain ⟨t, hT, HX⟩ := Option.bind_eq_some_iff.mp HX
   have HT := Aside0.mk hT
   clear hT
   by_cases hb2 : (if t = true then ((y.f0.length : Int) != (nN : Int)) else true) = true
   ·have hr : Aside0 ((j : Int) = r) := ⟨by
     by_cases ht : t = true
     ·rw [if_pos ht] at hb2 HX
      rw [if_neg (by simpa using hb2)] at HX
      exact Option.some.inj HX
     ·rw [if_neg ht] at HX; exact Option.some.inj HX⟩
    have HV := Aside0.mk hb2
    clear hb2 HX
    go_wp2_with (go_at_call 110; refine (impl_isDesk.lit k _ _ y.f0 _ _ y.f1 gb AN nN cN vD vP t _ ?s1 ?s2 ?s3 ?s4 ?s5 HT.out).mono ?_; (case s1 => exact Kd.C_below HI0.out (g7_)); (case s2 => exact z4.out); (case s3 => exact Kd.C_below HI1.out (g7_)); (case s4 => exact z5.out); (case s5 => exact blk_below BKD.out (g7_)); rintro e w9 ⟨rfl, hb⟩; rw [HV.out]; have n0_ := Aside0.mk (below_step (g7_) hb); clear HB hb; have HB := n0_; clear n0_)
    go_ret
    exact ⟨by rw [← hr.out]; rfl, g7_⟩
   ·have hr : Aside0 (impl_isDesk.bad k (nN : Int) (l2.drop (j + 1)) (j + 1) = some r) := ⟨by
     by_cases ht : t = true
     ·rw [if_pos ht] at hb2 HX
      rw [if_pos (by simpa using hb2)] at HX
      exact HX
     ·rw [if_neg ht] at hb2; exact absurd rfl hb2⟩
    have HV : Aside0 ((if t = true then ((y.f0.length : Int) != (nN : Int)) else true) = false) := ⟨by simpa using hb2⟩
    clear hb2 HX
    go_wp2_with (go_at_call 110; refine (impl_isDesk.lit k _ _ y.f0 _ _ y.f1 gb AN nN cN vD vP t _ ?s1 ?s2 ?s3 ?s4 ?s5 HT.out).mono ?_; (case s1 => exact Kd.C_below HI0.out (g7_)); (case s2 => exact z4.out); (case s3 => exact Kd.C_below HI1.out (g7_)); (case s4 => exact z5.out); (case s5 => exact blk_below BKD.out (g7_)); rintro e w9 ⟨rfl, hb⟩; rw [HV.out]; have n0_ := Aside0.mk (below_step (g7_) hb); clear HB hb; have HB := n0_; clear n0_)
    go_roundg k1
    case measure => omega
    case rel => exact ⟨j + 1, by omega, by go_num, hr, ⟨g7_⟩⟩
  ·obtain rfl : j = n := by omega
   have hr : Aside0 ((-1 : Int) = r) := ⟨by have := HA.out; rw [List.drop_of_length_le (by rw [HN.out]; exact Nat.le_refl _)] at this; exact Option.some.inj this⟩
   have rr : decide ((j : Int) < (j : Int)) = false := decide_eq_false (by omega)
   clear HA
   go_wp2_with fail
   go_ret
   exact ⟨by rw [← hr.out]; rfl, g7_⟩
theorem impl_isDesk.contains (k : Nat) (A2 : Option Addr) (c2 : Nat) (l2 : List S25) (gb : Nat) (AN : Option Addr) (nN cN : Nat) (vD vP : Value) (q : Int) (w : World) (qj : Kd.C k25 w A2 l2.length l2) (hc2 : l2.length ≤ c2) (hbk : w.heap[gb]? = some (.cells #[.slice AN nN cN, vD, vP] 28 (0, 0))) (h : impl_isDesk.bad k (nN : Int) l2 0 = some q) :
  Calls Try.prog 109 #[.slice A2 l2.length c2, .func (.func 110) #[] #[.pointer (some ⟨gb, 0, none⟩)]] w fun e w' => e = .returned (.bool (decide (q ≥ 0))) ∧ Below w.heap.size w w' := by
 have HR2 := Aside0.mk qj
 have BKD := Aside0.mk hbk
 have HB := Aside0.mk (Below.refl w.heap.size w)
 have H := Aside0.mk h
 have nt := Aside0.mk hc2
 clear qj hbk h hc2
 go_enter Try.func109, Try.ntmps109
 go_wp2_with (go_at_call 127; refine (impl_isDesk.index k A2 c2 l2 gb AN nN cN vD vP q _ ?s1 nt.out ?s2 H.out).mono ?_; (case s1 => exact Kd.C_below HR2.out (g7_)); (case s2 => exact blk_below BKD.out (g7_)); rintro e w9 ⟨rfl, hb⟩; have n0_ := Aside0.mk (below_step (g7_) hb); clear HB hb; have HB := n0_; clear n0_)
 go_ret
 exact ⟨by rfl, g7_⟩
theorem z3 {p : Prop} (h : p := by repeat (first | (with_reducible first | exact HB.out | apply below_alloc | apply pw_below_drewN | apply below_drew1) | exact HB.out)) : p := h
set_option maxHeartbeats 8000000 in
set_option maxRecDepth 100000 in
theorem impl_isDesk.calls (k : Nat) (A0 : Option Addr) (c0 : Nat) (l0 : List Int) (A1 : Option Addr) (c1 : Nat) (l1 : List (List Int)) (A2 : Option Addr) (c2 : Nat) (l2 : List S25) (r : Bool) (w : World) (e8 : Kd.C (Kd.int .i64) w A0 l0.length l0) (go : l0.length ≤ c0) (nr : Kd.C (Kd.slice 3 (Kd.int .i64)) w A1 l1.length l1) (ns : l1.length ≤ c1) (qj : Kd.C k25 w A2 l2.length l2) (hc2 : l2.length ≤ c2) (h : impl_isDesk.f k l0 l1 l2 = some r) :
  Calls Try.prog 72 #[.agg #[.slice A0 l0.length c0, .slice A1 l1.length c1, .slice A2 l2.length c2]] w fun e w' => e = .returned (.bool r) ∧ Below w.heap.size w w' := by
 have hu := Try.underlying25
 have hu2 := Try.underlying28
 have jw := Aside0.mk e8
 have ig := Aside0.mk nr
 have HR2 := Aside0.mk qj
 have ll := Aside0.mk go
 have un := Aside0.mk ns
 have nt := Aside0.mk hc2
 have HB := Aside0.mk (Below.refl w.heap.size w)
 obtain ⟨t, h1, h2⟩ := Option.bind_eq_some_iff.mp (show (impl_isBook.f k l0 l1).bind (fun t => if t = true then (if (l2.length : Int) ≤ 8 then (impl_isDesk.bad k (l0.length : Int) l2 0).bind (fun q => some (!decide (q ≥ 0))) else some false) else some false) = some r from h)
 have HT := Aside0.mk h1
 clear e8 nr qj go ns hc2 h h1
 by_cases ht : t = true
 ·subst ht
  rw [if_pos rfl] at h2
  by_cases h8 : (l2.length : Int) ≤ 8
  ·rw [if_pos h8] at h2
   obtain ⟨q, h3, h4⟩ := Option.bind_eq_some_iff.mp h2
   have HQ := Aside0.mk h3
   have hr : Aside0 ((!decide (q ≥ 0)) = r) := ⟨Option.some.inj h4⟩
   have c8 : decide ((l2.length : Int) ≤ 8) = true := decide_eq_true h8
   clear h2 h3 h4 h8
   go_enter Try.func72, Try.ntmps72
   go_wp2_with (first | ((with_reducible refine gate_dst (N := 1) rfl ?_); refine bx_ (N := 1) #[.slice A0 l0.length c0, .slice A1 l1.length c1, .slice A2 l2.length c2] 28 ?_; intro gb hg w2 hbox hb; have n1_ := Aside0.mk (below_step HB.out hb); have BK := Aside0.mk hbox; clear HB hbox hg; have HB := n1_; clear n1_ hb; have hcz_0 : w2.cell? ⟨gb, 0, none⟩ = some (.slice A0 l0.length c0) := (blk_cell BK.out 0).trans rfl; have hcz_1 : w2.cell? ⟨gb, 1, none⟩ = some (.slice A1 l1.length c1) := (blk_cell BK.out 1).trans rfl) | ((with_reducible refine gate_callee (f := 73) rfl ?_); refine goesL_ (some 5) rfl rfl Try.func73 k_ rfl #[.agg #[.slice A0 l0.length c0, .slice A1 l1.length c1]] rfl (g59_) ?_; (with_reducible refine (impl_isBook.calls k _ _ l0 _ _ l1 true _ ?side1 ?side2 ?side3 ?side4 HT.out).mono ?_); (case side1 => exact uf1_ jw); (case side2 => exact ll.out); (case side3 => exact uf1_ ig); (case side4 => exact un.out); rintro e w3 ⟨rfl, hb⟩; refine ⟨_, rfl, ?_⟩; have n1_ := Aside0.mk (blk_below (uf0_ BK) hb); have n2_ := Aside0.mk (below_step (z3) hb); clear BK HB hb; have BK := n1_; have HB := n2_; clear n1_ n2_; have hcy_2 : w3.cell? ⟨gb, 2, none⟩ = some (.slice A2 l2.length c2) := (blk_cell BK.out 2).trans rfl) | (go_at_call 109; refine (impl_isDesk.contains k A2 c2 l2 gb A0 l0.length c0 (.slice A1 l1.length c1) (.slice A2 l2.length c2) q _ ?s1 nt.out ?s2 HQ.out).mono ?_; (case s1 => exact Kd.C_below HR2.out (z3)); (case s2 => (with_reducible repeat (first | refine blk_drewN ?_ _ | refine blk_drew ?_ | refine blk_alloc ?_ _)); exact BK.out); rintro e w9 ⟨rfl, hb⟩; replace HB := Aside0.mk (below_step (z3) hb); clear hb))
   go_ret
   exact ⟨by rw [← hr.out]; rfl, z3⟩
  ·rw [if_neg h8] at h2
   obtain rfl := Option.some.inj h2
   have c8 : decide ((l2.length : Int) ≤ 8) = false := decide_eq_false h8
   clear h2 h8
   go_enter Try.func72, Try.ntmps72
   go_wp2_with (first | ((with_reducible refine gate_dst (N := 1) rfl ?_); refine bx_ (N := 1) #[.slice A0 l0.length c0, .slice A1 l1.length c1, .slice A2 l2.length c2] 28 ?_; intro gb hg w2 hbox hb; have n1_ := Aside0.mk (below_step HB.out hb); have BK := Aside0.mk hbox; clear HB hbox hg; have HB := n1_; clear n1_ hb; have hcz_0 : w2.cell? ⟨gb, 0, none⟩ = some (.slice A0 l0.length c0) := (blk_cell BK.out 0).trans rfl; have hcz_1 : w2.cell? ⟨gb, 1, none⟩ = some (.slice A1 l1.length c1) := (blk_cell BK.out 1).trans rfl) | ((with_reducible refine gate_callee (f := 73) rfl ?_); refine goesL_ (some 5) rfl rfl Try.func73 k_ rfl #[.agg #[.slice A0 l0.length c0, .slice A1 l1.length c1]] rfl (g59_) ?_; (with_reducible refine (impl_isBook.calls k _ _ l0 _ _ l1 true _ ?side1 ?side2 ?side3 ?side4 HT.out).mono ?_); (case side1 => exact uf1_ jw); (case side2 => exact ll.out); (case side3 => exact uf1_ ig); (case side4 => exact un.out); rintro e w3 ⟨rfl, hb⟩; refine ⟨_, rfl, ?_⟩; have n1_ := Aside0.mk (blk_below (uf0_ BK) hb); have n2_ := Aside0.mk (below_step (z3) hb); clear BK HB hb; have BK := n1_; have HB := n2_; clear n1_ n2_; have hcy_2 : w3.cell? ⟨gb, 2, none⟩ = some (.slice A2 l2.length c2) := (blk_cell BK.out 2).trans rfl))
   go_ret
   exact ⟨rfl, z3⟩
 ·obtain rfl : t = false := by simpa using ht
  rw [if_neg (by decide)] at h2
  obtain rfl := Option.some.inj h2
  clear h2 ht
  go_enter Try.func72, Try.ntmps72
  go_wp2_with (first | ((with_reducible refine gate_dst (N := 1) rfl ?_); refine bx_ (N := 1) #[.slice A0 l0.length c0, .slice A1 l1.length c1, .slice A2 l2.length c2] 28 ?_; intro gb hg w2 hbox hb; have n1_ := Aside0.mk (below_step HB.out hb); have BK := Aside0.mk hbox; clear HB hbox hg; have HB := n1_; clear n1_ hb; have hcz_0 : w2.cell? ⟨gb, 0, none⟩ = some (.slice A0 l0.length c0) := (blk_cell BK.out 0).trans rfl; have hcz_1 : w2.cell? ⟨gb, 1, none⟩ = some (.slice A1 l1.length c1) := (blk_cell BK.out 1).trans rfl) | ((with_reducible refine gate_callee (f := 73) rfl ?_); refine goesL_ (some 5) rfl rfl Try.func73 k_ rfl #[.agg #[.slice A0 l0.length c0, .slice A1 l1.length c1]] rfl (g59_) ?_; (with_reducible refine (impl_isBook.calls k _ _ l0 _ _ l1 false _ ?side1 ?side2 ?side3 ?side4 HT.out).mono ?_); (case side1 => exact uf1_ jw); (case side2 => exact ll.out); (case side3 => exact uf1_ ig); (case side4 => exact un.out); rintro e w3 ⟨rfl, hb⟩; refine ⟨_, rfl, ?_⟩; have n1_ := Aside0.mk (blk_below (uf0_ BK) hb); have n2_ := Aside0.mk (below_step (z3) hb); clear BK HB hb; have BK := n1_; have HB := n2_; clear n1_ n2_; have hcy_2 : w3.cell? ⟨gb, 2, none⟩ = some (.slice A2 l2.length c2) := (blk_cell BK.out 2).trans rfl))
  go_ret
  exact ⟨rfl, z3⟩
def impl_DeskOk.f (k : Nat) (ab : List Int) (aa : List (List Int)) (ak : List (S25)) : Option (Bool) := (impl_isDesk.f k ab aa ak).bind fun an6 => (some an6)
theorem impl_DeskOk.mq {p : Prop} (h : p := by
 repeat' first
 | (with_reducible exact impl_isDesk.mono _ _ _ _)
 | (with_reducible exact LeO.refl _)
 | (with_reducible exact LeO.none _)
 | (with_reducible refine LeO.ite ?_ ?_)
 | (with_reducible refine LeO.bind ?_ (fun _ => ?_))
 | exact impl_isDesk.mono _ _ _ _
 | exact LeO.none _
 | refine LeO.ite ?_ ?_
 | refine LeO.bind ?_ (fun _ => ?_)) : p := h
theorem impl_DeskOk.mono : ∀ a0 a1 a2 k, LeO (impl_DeskOk.f k a0 a1 a2) (impl_DeskOk.f (k + 1) a0 a1 a2) := by
 intro a0 a1 a2 k
 unfold impl_DeskOk.f
 exact impl_DeskOk.mq
theorem bd0 {p : Prop} (h : p := by repeat (first | (with_reducible first | exact HB.out | apply below_alloc | apply pw_below_drewN | apply below_drew1 | refine below_set ?_ dx1.out) | exact HB.out)) : p := h
set_option maxHeartbeats 8000000 in
set_option maxRecDepth 100000 in
theorem impl_DeskOk.calls (k : Nat) (ag : Option Addr) (ae : Nat) (ab : List Int) (ah : Option Addr) (af : Nat) (aa : List (List Int)) (di : Option Addr) (db : Nat) (ak : List (S25)) (r : Bool) (w : World) (dx : Kd.C (Kd.int .i64) w ag ab.length ab) (dy : ab.length ≤ ae) (dz : Kd.C (Kd.slice 3 (Kd.int .i64)) w ah aa.length aa) (d2 : aa.length ≤ af) (k5 : Kd.C k25 w di ak.length ak) (k6 : ak.length ≤ db) (h : impl_DeskOk.f k ab aa ak = some r) :
  Calls Try.prog 24 #[.agg #[.slice ag ab.length ae, .slice ah aa.length af, .slice di ak.length db]] w fun e w' => e = .returned (.bool r) ∧ Below w.heap.size w w' := by
 have hu28 := Try.underlying28
 have dd := Aside0.mk dx
 have d6 := Aside0.mk dy
 clear dx dy
 have cq := Aside0.mk dz
 have d7 := Aside0.mk d2
 clear dz d2
 have m0 := Aside0.mk k5
 have tb := Aside0.mk k6
 clear k5 k6
 have HB := Aside0.mk (Below.refl w.heap.size w)
 have H : ((impl_isDesk.f k ab aa ak).bind fun an6 => (some an6)) = some r := h
 clear h
 obtain ⟨an6, A2, H⟩ := bind_ H
 obtain rfl := Option.some.inj H
 go_enter Try.func24, Try.ntmps24
 go_wp2_with (first | ((with_reducible refine gate_dst (N := 1) rfl ?_); refine bx_ (N := 1) #[.slice ag ab.length ae, .slice ah aa.length af, .slice di ak.length db] 28 ?_; intro cn5 hg w3 hbox hb; have bs3 := Aside0.mk (hbox); have fn7 := Aside0.mk ((by rw [hg]; exact (below_size (bd0)) : w.heap.size ≤ cn5)); have dx1 := Aside0.mk ((by rw [hg]; exact (below_size (bd0)) : w.heap.size ≤ cn5)); replace HB := Aside0.mk (below_step (bd0) hb); clear hb hbox hg; obtain ⟨tc, td, cn6, ag4, ww, fn8⟩ := blk3_ bs3) | ((with_reducible refine gate_callee (f := 72) rfl ?_); refine goesL_ (some 4) rfl rfl Try.func72 k_ rfl #[.agg #[.slice ag ab.length ae, .slice ah aa.length af, .slice di ak.length db]] rfl (g2_) ?_; (with_reducible refine (impl_isDesk.calls k _ _ ab _ _ aa _ _ ak an6 _ ?side1 ?side2 ?side3 ?side4 ?side5 ?side6 A2.out).mono ?_); (case side1 => exact uf1_ dd); (case side2 => exact d6.out); (case side3 => exact uf1_ cq); (case side4 => exact d7.out); (case side5 => exact uf1_ m0); (case side6 => exact tb.out); rintro e w5 ⟨rfl, hb⟩; refine ⟨_, rfl, ?_⟩; replace bs3 := bb_ bs3 hb; replace HB := Aside0.mk (below_step (bd0) hb); (try clear hb); (try clear hk hi)))
 go_ret
 exact ⟨g4_, bd0⟩
def spec_l1In.f (a0 : Int) (a1 : Int) (a2 : Int) : Option (Bool) := if a0 ≥ a1 then (some (decide (a0 ≤ a2))) else (some false)
set_option maxHeartbeats 8000000 in
set_option maxRecDepth 100000 in
theorem spec_l1In.calls (a0 : Int) (a1 : Int) (a2 : Int) (r : Bool) (w : World) (h : spec_l1In.f a0 a1 a2 = some r) :
  Calls Try.prog 65 #[.int .i64 a0, .int .i64 a1, .int .i64 a2] w fun e w' => e = .returned (.bool r) ∧ Drawn0 w w' := by
 have H : (if a0 ≥ a1 then (some (decide (a0 ≤ a2))) else (some false)) = some r := h
 clear h
 by_cases c4 : a0 ≥ a1
 ·rw [if_pos c4] at H
  have og := decide_eq_true c4
  clear c4
  obtain rfl := Option.some.inj H
  go_enter Try.func65, Try.ntmps65
  go_wp2
  go_ret
  exact ⟨g3_, g19_⟩
 ·rw [if_neg c4] at H
  have og := decide_eq_false c4
  clear c4
  obtain rfl := Option.some.inj H
  go_enter Try.func65, Try.ntmps65
  go_wp2
  go_ret
  exact ⟨g3_, g19_⟩
mutual
def spec_BookOk.j0 : Nat → Bool → List Int → List (List Int) → Option (Bool)
 | 0, _, _, _ => none
 | k + 1, x18, pc, l8 => if x18 = true then (some false) else (spec_BookOk.l0 k 0 pc l8)
def spec_BookOk.l0 : Nat → Int → List Int → List (List Int) → Option (Bool)
 | 0, _, _, _ => none
 | k + 1, x3, pc, l8 => if x3 < (pc.length : Int) then (if 0 ≤ x3 then ((spec_l1In.f (rd pc x3) 0 20).bind fun bs4 => (if bs4 = true then (if x3 < (l8.length : Int) then (if ((rd_L1 l8 x3).length : Int) = (pc.length : Int) then (if x3 < ((rd_L1 l8 x3).length : Int) then (spec_BookOk.j2 k x3 ((rd (rd_L1 l8 x3) x3) != 0) pc l8) else (none)) else (spec_BookOk.j2 k x3 true pc l8)) else (none)) else (spec_BookOk.j2 k x3 true pc l8))) else (none)) else (some true)
def spec_BookOk.j2 : Nat → Int → Bool → List Int → List (List Int) → Option (Bool)
 | 0, _, _, _, _ => none
 | k + 1, x3, x55, pc, l8 => if x55 = true then (some false) else (spec_BookOk.l1 k x3 0 pc l8)
def spec_BookOk.l1 : Nat → Int → Int → List Int → List (List Int) → Option (Bool)
 | 0, _, _, _, _ => none
 | k + 1, x3, x4, pc, l8 => if 0 ≤ x3 then (if x3 < (l8.length : Int) then (if x4 < ((rd_L1 l8 x3).length : Int) then (if 0 ≤ x4 then ((spec_l1In.f (rd (rd_L1 l8 x3) x4) 0 9).bind fun bs5 => (if bs5 = true then (spec_BookOk.l1 k x3 (wrap64 (x4 + 1)) pc l8) else (some false))) else (none)) else (spec_BookOk.l0 k (wrap64 (x3 + 1)) pc l8)) else (none)) else (none)
end
def spec_BookOk.f (k : Nat) (ab : List Int) (aa : List (List Int)) : Option (Bool) := (spec_l1In.f (ab.length : Int) 1 4).bind fun an7 => (if an7 = true then (spec_BookOk.j0 k ((aa.length : Int) != (ab.length : Int)) ab aa) else (spec_BookOk.j0 k true ab aa))
theorem spec_BookOk.mq {p : Prop} (h : p := by
 repeat' first
 | (with_reducible exact ih0 _ _ _)
 | (with_reducible exact ih1 _ _ _)
 | (with_reducible exact ih2 _ _ _ _)
 | (with_reducible exact ih3 _ _ _ _)
 | (with_reducible exact LeO.refl _)
 | (with_reducible exact LeO.none _)
 | (with_reducible refine LeO.ite ?_ ?_)
 | (with_reducible refine LeO.bind ?_ (fun _ => ?_))
 | exact ih0 _ _ _
 | exact ih1 _ _ _
 | exact ih2 _ _ _ _
 | exact ih3 _ _ _ _
 | exact LeO.none _
 | refine LeO.ite ?_ ?_
 | refine LeO.bind ?_ (fun _ => ?_)) : p := h
theorem spec_BookOk.mono_l : ∀ k, (∀ y0 y1 y2, LeO (spec_BookOk.j0 k y0 y1 y2) (spec_BookOk.j0 (k + 1) y0 y1 y2)) ∧ (∀ y0 y1 y2, LeO (spec_BookOk.l0 k y0 y1 y2) (spec_BookOk.l0 (k + 1) y0 y1 y2)) ∧ (∀ y0 y1 y2 y3, LeO (spec_BookOk.j2 k y0 y1 y2 y3) (spec_BookOk.j2 (k + 1) y0 y1 y2 y3)) ∧ (∀ y0 y1 y2 y3, LeO (spec_BookOk.l1 k y0 y1 y2 y3) (spec_BookOk.l1 (k + 1) y0 y1 y2 y3))
 | 0 => ⟨fun _ _ _ r h => by simp [spec_BookOk.j0] at h, fun _ _ _ r h => by simp [spec_BookOk.l0] at h, fun _ _ _ _ r h => by simp [spec_BookOk.j2] at h, fun _ _ _ _ r h => by simp [spec_BookOk.l1] at h⟩
 | k + 1 => by
  obtain ⟨ih0, ih1, ih2, ih3⟩ := spec_BookOk.mono_l k
  refine ⟨?_, ?_, ?_, ?_⟩
  ·intro y0 y1 y2
   unfold spec_BookOk.j0
   exact spec_BookOk.mq
  ·intro y0 y1 y2
   unfold spec_BookOk.l0
   exact spec_BookOk.mq
  ·intro y0 y1 y2 y3
   unfold spec_BookOk.j2
   exact spec_BookOk.mq
  ·intro y0 y1 y2 y3
   unfold spec_BookOk.l1
   exact spec_BookOk.mq
theorem spec_BookOk.mono : ∀ a0 a1 k, LeO (spec_BookOk.f k a0 a1) (spec_BookOk.f (k + 1) a0 a1) := by
 intro a0 a1 k
 obtain ⟨ih0, ih1, ih2, ih3⟩ := spec_BookOk.mono_l k
 unfold spec_BookOk.f
 exact spec_BookOk.mq
def spec_BookOk.T6 : Bool × List (List Nat × List Nat) := (true, [([], []), ([0], [0]), ([], []), ([1, 2], [1, 2]), ([3], [3]), ([4], [4]), ([5], [5]), ([6, 5], [6]), ([7], [7]), ([8, 7], [7, 8]), ([7], [7]), ([9, 10, 7], [7, 9, 10]), ([11, 7], [7, 11]), ([12, 7], [7, 12]), ([7], [7]), ([14, 7], [7, 14]), ([15, 7], [7, 15]), ([13, 16, 7], [7, 13, 16]), ([7, 17], [7, 17]), ([18, 7], [18]), ([19], [19]), ([20, 19], [19, 20]), ([19], [19]), ([21, 22, 19], [19, 21, 22]), ([23, 19], [19, 23]), ([19], [19]), ([24, 25, 19], [19, 24, 25]), ([26, 19], [19, 26]), ([27, 19], [19, 27]), ([19, 28], [19, 28])])
def spec_BookOk.B6 : List Nat := [0, 1, 0, 7, 15, 31, 63, 127, 255, 511, 255, 2047, 4095, 8191, 255, 16639, 49407, 131071, 262143, 524287, 1048575, 2097151, 1048575, 8388607, 16777215, 1048575, 67108863, 134217727, 268435455, 536870911]
theorem spec_BookOk.tab6 : rtab .any (opsOf Try.f42 6) = spec_BookOk.T6 := by kernel_rfl
theorem spec_BookOk.bits6 : waitsOk spec_BookOk.T6.2 spec_BookOk.B6 = true := by kernel_rfl
theorem nq {p : Prop} (h : p := by repeat (first | (with_reducible first | exact HB.out | apply below_alloc | apply pw_below_drewN | apply below_drew1 | refine below_set ?_ dx2.out) | exact HB.out)) : p := h
set_option maxHeartbeats 8000000 in
set_option maxRecDepth 100000 in
theorem spec_BookOk.calls (k : Nat) (ag : Option Addr) (ae : Nat) (ab : List Int) (ah : Option Addr) (af : Nat) (aa : List (List Int)) (r : Bool) (w : World) (dx : Kd.C (Kd.int .i64) w ag ab.length ab) (dy : ab.length ≤ ae) (dz : Kd.C (Kd.slice 3 (Kd.int .i64)) w ah aa.length aa) (d2 : aa.length ≤ af) (h : spec_BookOk.f k ab aa = some r) :
  Calls Try.prog 42 #[.agg #[.slice ag ab.length ae, .slice ah aa.length af]] w fun e w' => e = .returned (.bool r) ∧ Below w.heap.size w w' := by
 have hu25 := Try.underlying25
 have dd := Aside0.mk dx
 have d6 := Aside0.mk dy
 clear dx dy
 have cq := Aside0.mk dz
 have d7 := Aside0.mk d2
 clear dz d2
 have HB := Aside0.mk (Below.refl w.heap.size w)
 have H : ((spec_l1In.f (ab.length : Int) 1 4).bind fun an7 => (if an7 = true then (spec_BookOk.j0 k ((aa.length : Int) != (ab.length : Int)) ab aa) else (spec_BookOk.j0 k true ab aa))) = some r := h
 clear h
 have nt := Aside0.mk H
 clear H
 go_enter Try.func42, Try.ntmps42
 go_upto_region 1 with (first | ((with_reducible refine gate_dst (N := 1) rfl ?_); (try (refine gate_guard (by rfl) ?_; dsimp only)); refine bx_ (N := 1) #[.slice ag ab.length ae, .slice ah aa.length af] 25 ?_; intro qk hg w3 hbox hb; have e7 := Aside0.mk (hbox); have fn9 := Aside0.mk ((by rw [hg]; exact (below_size (nq)) : w.heap.size ≤ qk)); have dx2 := Aside0.mk ((by rw [hg]; exact (below_size (nq)) : w.heap.size ≤ qk)); replace HB := Aside0.mk (below_step (nq) hb); clear hb hbox hg))
 (try simp only [Act.put, List.setIfInBounds_toArray, List.set_cons_zero, List.set_cons_succ])
 go_cut [18] (fun v18 wc => ∃ (kq : Nat) (bd6 : Bool), v18 = .bool bd6 ∧ Aside0 (spec_BookOk.j0 kq bd6 ab aa = some r) ∧ Aside0 (kq ≤ k) ∧ Aside0 (wc.heap[qk]? = some (.cells #[(.slice ag ab.length ae), (.slice ah aa.length af)] 25 (0, 0))) ∧ Aside0 (Below w.heap.size w wc))
 case first =>
  have H := nt.out
  clear nt
  obtain ⟨an7, A4, H⟩ := bind_ H
  by_cases c5 : an7 = true
  ·subst c5
   replace H := ifp_ H
   have H' := Aside0.mk H
   clear H
   obtain ⟨ag5, ag6, bd7, ag7⟩ := blk2_ e7
   go_wp2_with (first | ((with_reducible refine gate_callee (f := 65) rfl ?_); refine goesL_ (some 8) rfl rfl Try.func65 k_ rfl #[.int .i64 (ab.length : Int), .int .i64 1, .int .i64 4] rfl (g2_) ?_; (with_reducible refine (spec_l1In.calls (ab.length : Int) 1 4 true _ A4.out).mono ?_); rintro e w' ⟨rfl, ⟨nd, rfl⟩⟩; refine ⟨_, rfl, ?_⟩))
   go_meet
   case rel => exact ⟨_, (((aa.length : Int) != (ab.length : Int))), (g3_), H', ⟨g10_⟩, ⟨uf0_ e7⟩, ⟨nq⟩⟩
  ·replace c5 := Bool.eq_false_iff.mpr c5
   subst c5
   replace H := ifn_ H
   have H' := Aside0.mk H
   clear H
   obtain ⟨te, tf, tg, th⟩ := blk2_ e7
   go_wp2_with (first | ((with_reducible refine gate_callee (f := 65) rfl ?_); refine goesL_ (some 8) rfl rfl Try.func65 k_ rfl #[.int .i64 (ab.length : Int), .int .i64 1, .int .i64 4] rfl (g2_) ?_; (with_reducible refine (spec_l1In.calls (ab.length : Int) 1 4 false _ A4.out).mono ?_); rintro e w' ⟨rfl, ⟨nd, rfl⟩⟩; refine ⟨_, rfl, ?_⟩))
   go_meet
   case rel => exact ⟨_, (true), (g3_), H', ⟨g10_⟩, ⟨uf0_ e7⟩, ⟨nq⟩⟩
 case rest =>
  clear nt
  try clear p2
  try clear c4
  try clear c5
  try clear c6
  try clear ag5
  try clear ag6
  try clear te
  try clear tf
  try clear bd7
  try clear ag7
  try clear tg
  try clear th
  obtain ⟨kq, bd6, rfl, HA, HJ1, e7, HB⟩ := hcut
  cases kq with
  | zero => exact absurd HA.out (by simp [spec_BookOk.j0])
  | succ kj1 =>
   have H := HA.out
   clear HA
   simp only [spec_BookOk.j0] at H
   by_cases c8 : bd6 = true
   ·subst c8
    replace H := ifp_ H
    obtain rfl := Option.some.inj H
    go_wp2
    go_ret
    exact ⟨g4_, nq⟩
   ·replace c8 := Bool.eq_false_iff.mpr c8
    subst c8
    replace H := ifn_ H
    have H' := Aside0.mk H
    clear H
    go_wp2
    go_loopg [3] kj1 (fun kq v3 w' => ∃ (bx : Int), v3 = .int .i64 bx ∧ Aside0 (spec_BookOk.l0 kq bx ab aa = some r) ∧ Aside0 (kq ≤ kj1) ∧ Aside0 (w'.heap[qk]? = some (.cells #[(.slice ag ab.length ae), (.slice ah aa.length af)] 25 (0, 0))) ∧ Aside0 (Below w.heap.size w w'))
    case atStart => exact ⟨(0), (g3_), H', ⟨Nat.le_refl _⟩, ⟨uf0_ e7⟩, ⟨nq⟩⟩
    case round =>
     clear H'
     try clear p2
     try clear c4
     try clear c5
     try clear c6
     try clear c8
     try clear ag5
     try clear ag6
     try clear te
     try clear tf
     try clear bd7
     try clear ag7
     try clear tg
     try clear th
     try clear p2
     obtain ⟨bx, rfl, HA, HK2, e7, HB⟩ := hrel
     cases gk with
     | zero => exact absurd HA.out (by simp [spec_BookOk.l0])
     | succ k2 =>
      have H := HA.out
      clear HA
      simp only [spec_BookOk.l0] at H
      by_cases c9 : bx < (ab.length : Int)
      ·rw [if_pos c9] at H
       have dx3 := decide_eq_true c9
       clear c9
       have bs6 := Aside0.mk H
       clear H
       obtain ⟨wx, wy, wz, xa⟩ := blk2_ e7
       go_upto_region 6 with (fail)
       go_cut [55] (fun v55 wc => ∃ (kq : Nat) (bd8 : Bool), v55 = .bool bd8 ∧ Aside0 (spec_BookOk.j2 kq bx bd8 ab aa = some r) ∧ Aside0 (kq ≤ k2) ∧ Aside0 (wc.heap[qk]? = some (.cells #[(.slice ag ab.length ae), (.slice ah aa.length af)] 25 (0, 0))) ∧ Aside0 (Below w.heap.size w wc))
       case first =>
        have H := bs6.out
        clear bs6
        obtain ⟨hx, H⟩ := pos_ H
        have ql := decide_eq_true hx
        clear hx
        (first | rw [ql] | (simp only [i64_w, i32_w]; rw [ql]) | skip)
        obtain ⟨bs4, A13, H⟩ := bind_ H
        by_cases e3 : bs4 = true
        ·subst e3
         replace H := ifp_ H
         obtain ⟨ee, H⟩ := pos_ H
         have l9 := decide_eq_true ee
         clear ee
         by_cases f7 : ((rd_L1 aa bx).length : Int) = (ab.length : Int)
         ·rw [if_pos f7] at H
          have xb : (((rd_L1 aa bx).length : Int) == (ab.length : Int)) = true := beq_iff_eq.mpr f7
          have bs7 : (((rd_L1 aa bx).length : Int) != (ab.length : Int)) = false := bne_eq_false_iff_eq.mpr f7
          have bs8 : ((rd_L1 aa bx).length == ab.length) = true := by first | simpa using f7 | (simp at f7 ⊢; omega)
          clear f7
          obtain ⟨fa, H⟩ := pos_ H
          have ti := decide_eq_true fa
          clear fa
          have H' := Aside0.mk H
          clear H
          try go_wp2
          replace e7 := Aside0.mk (blk_drew e7.out)
          replace HB := Aside0.mk (below_drew1 HB.out)
          have pd : 0 ≤ (bx : Int) := of_decide_eq_true (g0_)
          have pe : bx < (ab.length : Int) := of_decide_eq_true (g0_)
          obtain ⟨xc, an8, m2⟩ := Kd.at_int dd.out bx pd pe
          have xd := m2
          cases an8
          replace m2 := cl_ HB m2
          replace pd := eq_true pd
          replace pe := eq_true pe
          have uo : 0 ≤ (bx : Int) := of_decide_eq_true (g0_)
          have uq : bx < (aa.length : Int) := of_decide_eq_true (g0_)
          obtain ⟨z6, cn7, bd9, bs9, qm, an9, ao0⟩ := at_L1 cq.out bx uo uq
          have ao1 := qm
          cases bs9
          replace qm := cl_ HB qm
          have bt0 := Aside0.mk ao0
          have dx4 := Aside0.mk an9
          clear ao0 an9
          replace uo := eq_true uo
          replace uq := eq_true uq
          have bt1 : 0 ≤ (bx : Int) := of_decide_eq_true (g0_)
          have bt2 : bx < (aa.length : Int) := of_decide_eq_true (g0_)
          obtain ⟨dx5, fo0, fo1, dx6, ao2, cn8, cn9⟩ := at_L1 cq.out bx bt1 bt2
          have co0 := ao2
          obtain rfl : z6 = dx5 := (by injection dx6)
          replace ao2 := cl_ HB ao2
          have co1 := Aside0.mk cn9
          have fo2 := Aside0.mk cn8
          clear cn9 cn8
          replace bt1 := eq_true bt1
          replace bt2 := eq_true bt2
          have ea_ := Option.some.inj (qm.symm.trans ao2)
          injection ea_ with ea_ en_ ec_
          subst ea_
          subst ec_
          clear en_
          have bt3 : 0 ≤ (bx : Int) := of_decide_eq_true (g0_)
          have bt4 : bx < ((rd_L1 aa bx).length : Int) := of_decide_eq_true (g0_)
          obtain ⟨bt5, dx7, be0⟩ := Kd.at_int co1.out bx bt3 bt4
          have co2 := be0
          cases dx7
          replace be0 := cl_ HB be0
          replace bt3 := eq_true bt3
          replace bt4 := eq_true bt4
          refine start_ (n := 30) (S := fun w' => w'.cell? ⟨qk, 0, none⟩ = some (.slice (some xc) ab.length ae) ∧ w'.cell? ⟨qk, 1, none⟩ = some (.slice (some z6) aa.length af) ∧ w'.cell? (xc.add (bx).toNat) = some (.int .i64 (rd ab bx)) ∧ w'.cell? (z6.add (bx).toNat) = some (.slice (some bt5) (rd_L1 aa bx).length bd9) ∧ w'.cell? (z6.add (bx).toNat) = some (.slice (some bt5) (rd_L1 aa bx).length bd9) ∧ w'.cell? (bt5.add (bx).toNat) = some (.int .i64 (rd (rd_L1 aa bx) bx))) (ds := []) (tl_ 30 0) (g1_) rfl (g1_) ⟨(blk_cell e7.out 0).trans rfl, (blk_cell e7.out 1).trans rfl, ((cl_ HB xd).trans rfl), ((cl_ HB ao1).trans rfl), ((cl_ HB co0).trans rfl), ((cl_ HB co2).trans rfl)⟩ (fun hHeld => ?_); refine with_tabW spec_BookOk.tab6 spec_BookOk.bits6 (fun HT_ HW_ => ?_)
          generalize wr.drew = kk at e7 HB bt0 co1 m2 qm ao2 be0 hHeld ⊢
          refine pw_ 0 26 (tl_ 30 1) rfl rfl ?_
          refine pw_ 2 28 (tl_ 30 5) rfl rfl ?_
          refine tk0_ 1 27 (tl_ 30 7) rfl rfl hHeld ?_
          refine pw_ 3 29 (tl_ 30 15) rfl rfl ?_
          refine tk0_ 4 30 (tl_ 30 31) rfl rfl hHeld ?_
          refine one_ (i := 5) (N := some 31) (tl_ 30 63) rfl rfl (one_of HT_.out (g1_)) (by decide) (fun K hK => ?_)
          refine goes_ Try.func65 (g1_) rfl #[.int .i64 (rd ab bx), .int .i64 0, .int .i64 20] (by rfl) rfl rfl (g2_) ?_
          with_reducible refine (spec_l1In.calls (rd ab bx) 0 20 true _ A13.out).mono ?_
          rintro e w' ⟨rfl, ⟨nd, rfl⟩⟩
          refine ⟨_, rfl, ?_⟩
          refine hK.out _ _ ⟨(blk_cell e7.out 0).trans rfl, (blk_cell e7.out 1).trans rfl, ((cl_ HB xd).trans rfl), ((cl_ HB ao1).trans rfl), ((cl_ HB co0).trans rfl), ((cl_ HB co2).trans rfl)⟩ (fun hHeld => ?_)
          clear hK K
          refine nm_ ?_
          refine pw_ 6 32 (tl_ 30 127) rfl rfl ?_
          refine pw_ 7 33 (tl_ 30 255) rfl rfl ?_
          refine pw_ 8 34 (tl_ 30 511) rfl rfl ?_
          refine pw_ 10 36 (tl_ 30 1535) rfl rfl ?_
          refine pw_ 14 40 (tl_ 30 17919) rfl rfl ?_
          refine tk0_ 9 35 (tl_ 30 18431) rfl rfl hHeld ?_
          refine pw_ 11 37 (tl_ 30 20479) rfl rfl ?_
          refine tk0_ 12 38 (tl_ 30 24575) rfl rfl hHeld ?_
          refine pw_ 13 39 (tl_ 30 32767) rfl rfl ?_
          refine tk0_ 15 41 (tl_ 30 65535) rfl rfl hHeld ?_
          refine pw_ 16 42 (tl_ 30 131071) rfl rfl ?_
          refine pw_ 17 43 (tl_ 30 262143) rfl rfl ?_
          refine pw_ 18 44 (tl_ 30 524287) rfl rfl ?_
          refine pw_ 19 45 (tl_ 30 1048575) rfl rfl ?_
          refine pw_ 20 46 (tl_ 30 2097151) rfl rfl ?_
          refine pw_ 22 48 (tl_ 30 6291455) rfl rfl ?_
          refine pw_ 25 51 (tl_ 30 39845887) rfl rfl ?_
          refine tk0_ 21 47 (tl_ 30 41943039) rfl rfl hHeld ?_
          refine pw_ 23 49 (tl_ 30 50331647) rfl rfl ?_
          refine tk0_ 24 50 (tl_ 30 67108863) rfl rfl hHeld ?_
          refine pw_ 26 52 (tl_ 30 134217727) rfl rfl ?_
          refine tk0_ 27 53 (tl_ 30 268435455) rfl rfl hHeld ?_
          refine pw_ 28 54 (tl_ 30 536870911) rfl rfl ?_
          refine pw_ 29 55 (tl_ 30 1073741823) rfl rfl ?_
          refine done_ (done_of HT_.out (g1_)) ?_
          try go_wp2
          go_meet
          case rel => exact ⟨_, (((rd (rd_L1 aa bx) bx) != 0)), (g3_), H', ⟨g33_⟩, ⟨uf0_ e7⟩, ⟨nq⟩⟩
         ·rw [if_neg f7] at H
          have xb : (((rd_L1 aa bx).length : Int) == (ab.length : Int)) = false := beq_eq_false_iff_ne.mpr f7
          have bs7 : (((rd_L1 aa bx).length : Int) != (ab.length : Int)) = true := bne_iff_ne.mpr f7
          have bs8 : ((rd_L1 aa bx).length == ab.length) = false := by first | simpa using f7 | (simp at f7 ⊢; omega)
          have H' := Aside0.mk H
          clear H
          try go_wp2
          replace e7 := Aside0.mk (blk_drew e7.out)
          replace HB := Aside0.mk (below_drew1 HB.out)
          have pd : 0 ≤ (bx : Int) := of_decide_eq_true (g0_)
          have pe : bx < (ab.length : Int) := of_decide_eq_true (g0_)
          obtain ⟨xc, an8, m2⟩ := Kd.at_int dd.out bx pd pe
          have xd := m2
          cases an8
          replace m2 := cl_ HB m2
          replace pd := eq_true pd
          replace pe := eq_true pe
          have uo : 0 ≤ (bx : Int) := of_decide_eq_true (g0_)
          have uq : bx < (aa.length : Int) := of_decide_eq_true (g0_)
          obtain ⟨z6, cn7, bd9, bs9, qm, an9, ao0⟩ := at_L1 cq.out bx uo uq
          have ao1 := qm
          cases bs9
          replace qm := cl_ HB qm
          have bt0 := Aside0.mk ao0
          have dx4 := Aside0.mk an9
          clear ao0 an9
          replace uo := eq_true uo
          replace uq := eq_true uq
          refine start_ (n := 30) (S := fun w' => w'.cell? ⟨qk, 0, none⟩ = some (.slice (some xc) ab.length ae) ∧ w'.cell? ⟨qk, 1, none⟩ = some (.slice (some z6) aa.length af) ∧ w'.cell? (xc.add (bx).toNat) = some (.int .i64 (rd ab bx)) ∧ w'.cell? (z6.add (bx).toNat) = some (.slice cn7 (rd_L1 aa bx).length bd9)) (ds := []) (tl_ 30 0) (g1_) rfl (g1_) ⟨(blk_cell e7.out 0).trans rfl, (blk_cell e7.out 1).trans rfl, ((cl_ HB xd).trans rfl), ((cl_ HB ao1).trans rfl)⟩ (fun hHeld => ?_); refine with_tabW spec_BookOk.tab6 spec_BookOk.bits6 (fun HT_ HW_ => ?_)
          generalize wr.drew = jn at e7 HB bt0 m2 qm hHeld ⊢
          refine pw_ 0 26 (tl_ 30 1) rfl rfl ?_
          refine pw_ 2 28 (tl_ 30 5) rfl rfl ?_
          refine tk1_ 1 27 (tl_ 30 7) rfl rfl hHeld ?_
          refine pw_ 3 29 (tl_ 30 15) rfl rfl ?_
          refine tk1_ 4 30 (tl_ 30 31) rfl rfl hHeld ?_
          refine one_ (i := 5) (N := some 31) (tl_ 30 63) rfl rfl (one_of HT_.out (g1_)) (by decide) (fun K hK => ?_)
          refine goes_ Try.func65 (g1_) rfl #[.int .i64 (rd ab bx), .int .i64 0, .int .i64 20] (by rfl) rfl rfl (g2_) ?_
          with_reducible refine (spec_l1In.calls (rd ab bx) 0 20 true _ A13.out).mono ?_
          rintro e w' ⟨rfl, ⟨nd, rfl⟩⟩
          refine ⟨_, rfl, ?_⟩
          refine hK.out _ _ ⟨(blk_cell e7.out 0).trans rfl, (blk_cell e7.out 1).trans rfl, ((cl_ HB xd).trans rfl), ((cl_ HB ao1).trans rfl)⟩ (fun hHeld => ?_)
          clear hK K
          refine nm_ ?_
          refine pw_ 6 32 (tl_ 30 127) rfl rfl ?_
          refine pw_ 7 33 (tl_ 30 255) rfl rfl ?_
          refine pw_ 8 34 (tl_ 30 511) rfl rfl ?_
          refine pw_ 10 36 (tl_ 30 1535) rfl rfl ?_
          refine pw_ 14 40 (tl_ 30 17919) rfl rfl ?_
          refine tk1_ 9 35 (tl_ 30 18431) rfl rfl hHeld ?_
          refine pw_ 11 37 (tl_ 30 20479) rfl rfl ?_
          refine tk1_ 12 38 (tl_ 30 24575) rfl rfl hHeld ?_
          refine pw_ 13 39 (tl_ 30 32767) rfl rfl ?_
          refine tk1_ 15 41 (tl_ 30 65535) rfl rfl hHeld ?_
          refine pw_ 16 42 (tl_ 30 131071) rfl rfl ?_
          refine pw_ 17 43 (tl_ 30 262143) rfl rfl ?_
          refine pw_ 18 44 (tl_ 30 524287) rfl rfl ?_
          refine pw_ 19 45 (tl_ 30 1048575) rfl rfl ?_
          refine pu_ 20 46 (tl_ 30 2097151) rfl rfl ?_
          refine pu_ 21 47 (tl_ 30 4194303) rfl rfl ?_
          refine pu_ 22 48 (tl_ 30 8388607) rfl rfl ?_
          refine pu_ 23 49 (tl_ 30 16777215) rfl rfl ?_
          refine pu_ 24 50 (tl_ 30 33554431) rfl rfl ?_
          refine pu_ 25 51 (tl_ 30 67108863) rfl rfl ?_
          refine pu_ 26 52 (tl_ 30 134217727) rfl rfl ?_
          refine pu_ 27 53 (tl_ 30 268435455) rfl rfl ?_
          refine pu_ 28 54 (tl_ 30 536870911) rfl rfl ?_
          refine pw_ 29 55 (tl_ 30 1073741823) rfl rfl ?_
          refine done_ (done_of HT_.out (g1_)) ?_
          try go_wp2
          go_meet
          case rel => exact ⟨_, (true), (g3_), H', ⟨g33_⟩, ⟨uf0_ e7⟩, ⟨nq⟩⟩
        ·replace e3 := Bool.eq_false_iff.mpr e3
         subst e3
         replace H := ifn_ H
         have H' := Aside0.mk H
         clear H
         try go_wp2
         replace e7 := Aside0.mk (blk_drew e7.out)
         replace HB := Aside0.mk (below_drew1 HB.out)
         have pd : 0 ≤ (bx : Int) := of_decide_eq_true (g0_)
         have pe : bx < (ab.length : Int) := of_decide_eq_true (g0_)
         obtain ⟨xc, an8, m2⟩ := Kd.at_int dd.out bx pd pe
         have xd := m2
         cases an8
         replace m2 := cl_ HB m2
         replace pd := eq_true pd
         replace pe := eq_true pe
         refine start_ (n := 30) (S := fun w' => w'.cell? ⟨qk, 0, none⟩ = some (.slice (some xc) ab.length ae) ∧ w'.cell? ⟨qk, 1, none⟩ = some (.slice ah aa.length af) ∧ w'.cell? (xc.add (bx).toNat) = some (.int .i64 (rd ab bx))) (ds := []) (tl_ 30 0) (g1_) rfl (g1_) ⟨(blk_cell e7.out 0).trans rfl, (blk_cell e7.out 1).trans rfl, ((cl_ HB xd).trans rfl)⟩ (fun hHeld => ?_); refine with_tabW spec_BookOk.tab6 spec_BookOk.bits6 (fun HT_ HW_ => ?_)
         generalize wr.drew = f8 at e7 HB m2 hHeld ⊢
         refine pw_ 0 26 (tl_ 30 1) rfl rfl ?_
         refine pw_ 2 28 (tl_ 30 5) rfl rfl ?_
         refine tk2_ 1 27 (tl_ 30 7) rfl rfl hHeld ?_
         refine pw_ 3 29 (tl_ 30 15) rfl rfl ?_
         refine tk2_ 4 30 (tl_ 30 31) rfl rfl hHeld ?_
         refine one_ (i := 5) (N := some 31) (tl_ 30 63) rfl rfl (one_of HT_.out (g1_)) (by decide) (fun K hK => ?_)
         refine goes_ Try.func65 (g1_) rfl #[.int .i64 (rd ab bx), .int .i64 0, .int .i64 20] (by rfl) rfl rfl (g2_) ?_
         with_reducible refine (spec_l1In.calls (rd ab bx) 0 20 false _ A13.out).mono ?_
         rintro e w' ⟨rfl, ⟨nd, rfl⟩⟩
         refine ⟨_, rfl, ?_⟩
         refine hK.out _ _ ⟨(blk_cell e7.out 0).trans rfl, (blk_cell e7.out 1).trans rfl, ((cl_ HB xd).trans rfl)⟩ (fun hHeld => ?_)
         clear hK K
         refine nm_ ?_
         refine pw_ 6 32 (tl_ 30 127) rfl rfl ?_
         refine pw_ 7 33 (tl_ 30 255) rfl rfl ?_
         refine pu_ 8 34 (tl_ 30 511) rfl rfl ?_
         refine pu_ 9 35 (tl_ 30 1023) rfl rfl ?_
         refine pu_ 10 36 (tl_ 30 2047) rfl rfl ?_
         refine pu_ 11 37 (tl_ 30 4095) rfl rfl ?_
         refine pu_ 12 38 (tl_ 30 8191) rfl rfl ?_
         refine pu_ 13 39 (tl_ 30 16383) rfl rfl ?_
         refine pu_ 14 40 (tl_ 30 32767) rfl rfl ?_
         refine pu_ 15 41 (tl_ 30 65535) rfl rfl ?_
         refine pu_ 16 42 (tl_ 30 131071) rfl rfl ?_
         refine pu_ 17 43 (tl_ 30 262143) rfl rfl ?_
         refine pw_ 18 44 (tl_ 30 524287) rfl rfl ?_
         refine pw_ 19 45 (tl_ 30 1048575) rfl rfl ?_
         refine pu_ 20 46 (tl_ 30 2097151) rfl rfl ?_
         refine pu_ 21 47 (tl_ 30 4194303) rfl rfl ?_
         refine pu_ 22 48 (tl_ 30 8388607) rfl rfl ?_
         refine pu_ 23 49 (tl_ 30 16777215) rfl rfl ?_
         refine pu_ 24 50 (tl_ 30 33554431) rfl rfl ?_
         refine pu_ 25 51 (tl_ 30 67108863) rfl rfl ?_
         refine pu_ 26 52 (tl_ 30 134217727) rfl rfl ?_
         refine pu_ 27 53 (tl_ 30 268435455) rfl rfl ?_
         refine pu_ 28 54 (tl_ 30 536870911) rfl rfl ?_
         refine pw_ 29 55 (tl_ 30 1073741823) rfl rfl ?_
         refine done_ (done_of HT_.out (g1_)) ?_
         try go_wp2
         go_meet
         case rel => exact ⟨_, (true), (g3_), H', ⟨g33_⟩, ⟨uf0_ e7⟩, ⟨nq⟩⟩
       case rest =>
        clear bs6
        (try clear c1); (try clear p1); (try clear q1); (try clear pb); (try clear p2); (try clear c6); (try clear p11); (try clear q11); (try clear bt6); (try clear hx); (try clear p12); (try clear q12); (try clear dx8); (try clear e3); (try clear ee); (try clear f7); (try clear xb); (try clear bs7); (try clear bs8); (try clear fa); (try clear m2); (try clear qm); (try clear pd); (try clear uo); (try clear pe); try clear uq
        obtain ⟨kq, bd8, rfl, HA, HJ9, e7, HB⟩ := hcut
        cases kq with
        | zero => exact absurd HA.out (by simp [spec_BookOk.j2])
        | succ kj9 =>
         have H := HA.out
         clear HA
         simp only [spec_BookOk.j2] at H
         by_cases ip : bd8 = true
         ·subst ip
          replace H := ifp_ H
          obtain rfl := Option.some.inj H
          go_wp2
          go_ret
          exact ⟨g4_, nq⟩
         ·replace ip := Bool.eq_false_iff.mpr ip
          subst ip
          replace H := ifn_ H
          have H' := Aside0.mk H
          clear H
          go_wp2
          go_loopg [4] kj9 (fun kq v4 w' => ∃ (nu : Int), v4 = .int .i64 nu ∧ Aside0 (spec_BookOk.l1 kq bx nu ab aa = some r) ∧ Aside0 (kq ≤ kj9) ∧ Aside0 (w'.heap[qk]? = some (.cells #[(.slice ag ab.length ae), (.slice ah aa.length af)] 25 (0, 0))) ∧ Aside0 (Below w.heap.size w w'))
          case atStart => exact ⟨(0), (g3_), H', ⟨Nat.le_refl _⟩, ⟨uf0_ e7⟩, ⟨nq⟩⟩
          case round =>
           clear H'
           (try clear c1); (try clear p1); (try clear q1); (try clear pb); (try clear c2); (try clear p2); (try clear c6); (try clear p11); (try clear q11); (try clear bt6); (try clear hx); (try clear p12); (try clear q12); (try clear dx8); (try clear e3); (try clear ee); (try clear f7); (try clear xb); (try clear bs7); (try clear bs8); (try clear fa); (try clear ip); (try clear m2); (try clear qm); (try clear p1); (try clear p11); (try clear pd); (try clear p12); (try clear uo); (try clear p2); (try clear q1); (try clear q11); (try clear pe); (try clear q12); try clear uq
           obtain ⟨nu, rfl, HA, HK4, e7, HB⟩ := hrel
           cases gk with
           | zero => exact absurd HA.out (by simp [spec_BookOk.l1])
           | succ k4 =>
            have H := HA.out
            clear HA
            simp only [spec_BookOk.l1] at H
            obtain ⟨ii, H⟩ := pos_ H
            have xe := decide_eq_true ii
            clear ii
            obtain ⟨jo, H⟩ := pos_ H
            have ag8 := decide_eq_true jo
            clear jo
            by_cases fn : nu < ((rd_L1 aa bx).length : Int)
            ·rw [if_pos fn] at H
             have pf := decide_eq_true fn
             clear fn
             obtain ⟨lg, H⟩ := pos_ H
             have be1 := decide_eq_true lg
             clear lg
             obtain ⟨bs5, A26, H⟩ := bind_ H
             by_cases ij : bs5 = true
             ·subst ij
              replace H := ifp_ H
              have H' := Aside0.mk H
              clear H
              obtain ⟨bt7, bt8, bt9, bu0⟩ := blk2_ e7
              have rs : 0 ≤ (bx : Int) := of_decide_eq_true (g0_)
              have rt : bx < (aa.length : Int) := of_decide_eq_true (g0_)
              obtain ⟨be2, co3, co4, ao3, tj, xf, xg⟩ := at_L1 cq.out bx rs rt
              cases ao3
              replace tj := cl_ HB tj
              have co5 := Aside0.mk xg
              have co6 := Aside0.mk xf
              clear xg xf
              replace rs := eq_true rs
              replace rt := eq_true rt
              have z7 : 0 ≤ (bx : Int) := of_decide_eq_true (g0_)
              have z8 : bx < (aa.length : Int) := of_decide_eq_true (g0_)
              obtain ⟨bu1, dx9, dy0, bu2, z9, ao4, ao5⟩ := at_L1 cq.out bx z7 z8
              obtain rfl : be2 = bu1 := (by injection bu2)
              replace z9 := cl_ HB z9
              have bu3 := Aside0.mk ao5
              have dy1 := Aside0.mk ao4
              clear ao5 ao4
              replace z7 := eq_true z7
              replace z8 := eq_true z8
              have ea_ := Option.some.inj (tj.symm.trans z9)
              injection ea_ with ea_ en_ ec_
              subst ea_
              subst ec_
              clear en_
              have aa0 : 0 ≤ (nu : Int) := of_decide_eq_true (g0_)
              have aa1 : nu < ((rd_L1 aa bx).length : Int) := of_decide_eq_true (g0_)
              obtain ⟨dy2, bu4, ao6⟩ := Kd.at_int bu3.out nu aa0 aa1
              cases bu4
              replace ao6 := cl_ HB ao6
              replace aa0 := eq_true aa0
              replace aa1 := eq_true aa1
              go_wp2_with (first | ((with_reducible refine gate_callee (f := 65) rfl ?_); refine goesL_ (some 74) rfl rfl Try.func65 k_ rfl #[.int .i64 (rd (rd_L1 aa bx) nu), .int .i64 0, .int .i64 9] rfl (g2_) ?_; (with_reducible refine (spec_l1In.calls (rd (rd_L1 aa bx) nu) 0 9 true _ A26.out).mono ?_); rintro e w' ⟨rfl, ⟨nd, rfl⟩⟩; refine ⟨_, rfl, ?_⟩))
              go_roundg k4
              case measure => have := HJ1.out; have := HK2.out; have := HJ9.out; have := HK4.out; omega
              case rel => exact ⟨(wrap64 (nu + 1)), (g3_), H', ⟨by have := HJ1.out; have := HK2.out; have := HJ9.out; have := HK4.out; omega⟩, ⟨uf0_ e7⟩, ⟨nq⟩⟩
             ·replace ij := Bool.eq_false_iff.mpr ij
              subst ij
              replace H := ifn_ H
              obtain rfl := Option.some.inj H
              obtain ⟨cp0, cp1, cp2, cp3⟩ := blk2_ e7
              have rs : 0 ≤ (bx : Int) := of_decide_eq_true (g0_)
              have rt : bx < (aa.length : Int) := of_decide_eq_true (g0_)
              obtain ⟨be2, co3, co4, ao3, tj, xf, xg⟩ := at_L1 cq.out bx rs rt
              cases ao3
              replace tj := cl_ HB tj
              have co5 := Aside0.mk xg
              have co6 := Aside0.mk xf
              clear xg xf
              replace rs := eq_true rs
              replace rt := eq_true rt
              have z7 : 0 ≤ (bx : Int) := of_decide_eq_true (g0_)
              have z8 : bx < (aa.length : Int) := of_decide_eq_true (g0_)
              obtain ⟨bu1, dx9, dy0, bu2, z9, ao4, ao5⟩ := at_L1 cq.out bx z7 z8
              obtain rfl : be2 = bu1 := (by injection bu2)
              replace z9 := cl_ HB z9
              have bu3 := Aside0.mk ao5
              have dy1 := Aside0.mk ao4
              clear ao5 ao4
              replace z7 := eq_true z7
              replace z8 := eq_true z8
              have ea_ := Option.some.inj (tj.symm.trans z9)
              injection ea_ with ea_ en_ ec_
              subst ea_
              subst ec_
              clear en_
              have aa0 : 0 ≤ (nu : Int) := of_decide_eq_true (g0_)
              have aa1 : nu < ((rd_L1 aa bx).length : Int) := of_decide_eq_true (g0_)
              obtain ⟨dy2, bu4, ao6⟩ := Kd.at_int bu3.out nu aa0 aa1
              cases bu4
              replace ao6 := cl_ HB ao6
              replace aa0 := eq_true aa0
              replace aa1 := eq_true aa1
              go_wp2_with (first | ((with_reducible refine gate_callee (f := 65) rfl ?_); refine goesL_ (some 74) rfl rfl Try.func65 k_ rfl #[.int .i64 (rd (rd_L1 aa bx) nu), .int .i64 0, .int .i64 9] rfl (g2_) ?_; (with_reducible refine (spec_l1In.calls (rd (rd_L1 aa bx) nu) 0 9 false _ A26.out).mono ?_); rintro e w' ⟨rfl, ⟨nd, rfl⟩⟩; refine ⟨_, rfl, ?_⟩))
              go_ret
              exact ⟨g4_, nq⟩
            ·rw [if_neg fn] at H
             have pf := decide_eq_false fn
             clear fn
             have H' := Aside0.mk H
             clear H
             obtain ⟨ag9, ah0, ah1, ah2⟩ := blk2_ e7
             have rs : 0 ≤ (bx : Int) := of_decide_eq_true (g0_)
             have rt : bx < (aa.length : Int) := of_decide_eq_true (g0_)
             obtain ⟨be2, co3, co4, ao3, tj, xf, xg⟩ := at_L1 cq.out bx rs rt
             cases ao3
             replace tj := cl_ HB tj
             have co5 := Aside0.mk xg
             have co6 := Aside0.mk xf
             clear xg xf
             replace rs := eq_true rs
             replace rt := eq_true rt
             go_wp2
             go_roundg k4
             case measure => have := HJ1.out; have := HK2.out; have := HJ9.out; have := HK4.out; omega
             case rel => exact ⟨(wrap64 (bx + 1)), (g3_), H', ⟨by have := HJ1.out; have := HK2.out; have := HJ9.out; have := HK4.out; omega⟩, ⟨uf0_ e7⟩, ⟨nq⟩⟩
      ·rw [if_neg c9] at H
       have dx3 := decide_eq_false c9
       clear c9
       obtain rfl := Option.some.inj H
       obtain ⟨ao7, ao8, ao9, ap0⟩ := blk2_ e7
       go_wp2
       go_ret
       exact ⟨g4_, nq⟩
def spec_DeskOk.l0 : Nat → Int → List Int → List (List Int) → List (S25) → Option (Bool)
 | 0, _, _, _, _ => none
 | k + 1, x3, bu5, cp4, ah3 => if x3 < (ah3.length : Int) then (if 0 ≤ x3 then ((spec_BookOk.f k ((rd_T25 ah3 x3).f0) ((rd_T25 ah3 x3).f1)).bind fun bu6 => (if bu6 = true then (if (((rd_T25 ah3 x3).f0).length : Int) = (bu5.length : Int) then (spec_DeskOk.l0 k (wrap64 (x3 + 1)) bu5 cp4 ah3) else (some false)) else (some false))) else (none)) else ((spec_BookOk.f k bu5 cp4).bind fun bu7 => (if bu7 = true then (some (decide ((ah3.length : Int) ≤ 8))) else (some false)))
def spec_DeskOk.f (k : Nat) (ab : List Int) (aa : List (List Int)) (ak : List (S25)) : Option (Bool) := spec_DeskOk.l0 k 0 ab aa ak
theorem spec_DeskOk.mq {p : Prop} (h : p := by
 repeat' first
 | (with_reducible exact ih0 _ _ _ _)
 | (with_reducible exact spec_BookOk.mono _ _ _)
 | (with_reducible exact LeO.refl _)
 | (with_reducible exact LeO.none _)
 | (with_reducible refine LeO.ite ?_ ?_)
 | (with_reducible refine LeO.bind ?_ (fun _ => ?_))
 | exact ih0 _ _ _ _
 | exact spec_BookOk.mono _ _ _
 | exact LeO.none _
 | refine LeO.ite ?_ ?_
 | refine LeO.bind ?_ (fun _ => ?_)) : p := h
theorem spec_DeskOk.mono_l : ∀ k, (∀ y0 y1 y2 y3, LeO (spec_DeskOk.l0 k y0 y1 y2 y3) (spec_DeskOk.l0 (k + 1) y0 y1 y2 y3))
 | 0 => fun _ _ _ _ r h => by simp [spec_DeskOk.l0] at h
 | k + 1 => by
  have ih0 := spec_DeskOk.mono_l k
  ·intro y0 y1 y2 y3
   unfold spec_DeskOk.l0
   exact spec_DeskOk.mq
theorem spec_DeskOk.mono : ∀ a0 a1 a2 k, LeO (spec_DeskOk.f k a0 a1 a2) (spec_DeskOk.f (k + 1) a0 a1 a2) := by
 intro a0 a1 a2 k
 have ih0 := spec_DeskOk.mono_l k
 unfold spec_DeskOk.f
 exact spec_DeskOk.mq
def spec_DeskOk.T4 : Bool × List (List Nat × List Nat) := (true, [([], []), ([0], [0]), ([], []), ([1, 2], [1, 2]), ([3], [3]), ([4], [4]), ([5], [5]), ([6, 5], [6]), ([7], [7]), ([8, 7], [7, 8]), ([7], [7]), ([9, 10, 7], [7, 9, 10]), ([11, 7], [7, 11]), ([12, 7], [7, 12]), ([13, 7], [7, 13]), ([7], [7]), ([15, 7], [7, 15]), ([16, 7], [7, 16]), ([17, 7], [7, 17]), ([14, 18, 7], [7, 14, 18]), ([7, 19], [7, 19])])
def spec_DeskOk.B4 : List Nat := [0, 1, 0, 7, 15, 31, 63, 127, 255, 511, 255, 2047, 4095, 8191, 16383, 255, 33023, 98559, 229631, 524287, 1048575]
theorem spec_DeskOk.tab4 : rtab .any (opsOf Try.f28 4) = spec_DeskOk.T4 := by kernel_rfl
theorem spec_DeskOk.bits4 : waitsOk spec_DeskOk.T4.2 spec_DeskOk.B4 = true := by kernel_rfl
theorem o9 {p : Prop} (h : p := by repeat (first | (with_reducible first | exact HB.out | apply below_alloc | apply pw_below_drewN | apply below_drew1 | refine below_set ?_ dy3.out) | exact HB.out)) : p := h
set_option maxHeartbeats 8000000 in
set_option maxRecDepth 100000 in
theorem spec_DeskOk.calls (k : Nat) (ag : Option Addr) (ae : Nat) (ab : List Int) (ah : Option Addr) (af : Nat) (aa : List (List Int)) (di : Option Addr) (db : Nat) (ak : List (S25)) (r : Bool) (w : World) (dx : Kd.C (Kd.int .i64) w ag ab.length ab) (dy : ab.length ≤ ae) (dz : Kd.C (Kd.slice 3 (Kd.int .i64)) w ah aa.length aa) (d2 : aa.length ≤ af) (k5 : Kd.C k25 w di ak.length ak) (k6 : ak.length ≤ db) (h : spec_DeskOk.f k ab aa ak = some r) :
  Calls Try.prog 28 #[.agg #[.slice ag ab.length ae, .slice ah aa.length af, .slice di ak.length db]] w fun e w' => e = .returned (.bool r) ∧ Below w.heap.size w w' := by
 have hu28 := Try.underlying28
 have hu25 := Try.underlying25
 have dd := Aside0.mk dx
 have d6 := Aside0.mk dy
 clear dx dy
 have cq := Aside0.mk dz
 have d7 := Aside0.mk d2
 clear dz d2
 have m0 := Aside0.mk k5
 have tb := Aside0.mk k6
 clear k5 k6
 have HB := Aside0.mk (Below.refl w.heap.size w)
 have H : (spec_DeskOk.l0 k 0 ab aa ak) = some r := h
 clear h
 have H' := Aside0.mk H
 clear H
 go_enter Try.func28, Try.ntmps28
 go_wp2_with (first | ((with_reducible refine gate_dst (N := 1) rfl ?_); (try (refine gate_guard (by rfl) ?_; dsimp only)); refine bx_ (N := 1) #[.slice ag ab.length ae, .slice ah aa.length af, .slice di ak.length db] 28 ?_; intro qn hg w2 hbox hb; have el := Aside0.mk (hbox); have fo3 := Aside0.mk ((by rw [hg]; exact (below_size (o9)) : w.heap.size ≤ qn)); have dy3 := Aside0.mk ((by rw [hg]; exact (below_size (o9)) : w.heap.size ≤ qn)); replace HB := Aside0.mk (below_step (o9) hb); clear hb hbox hg))
 go_loopg [3] k (fun kq v3 w' => ∃ (ca : Int), v3 = .int .i64 ca ∧ Aside0 (spec_DeskOk.l0 kq ca ab aa ak = some r) ∧ Aside0 (kq ≤ k) ∧ Aside0 (w'.heap[qn]? = some (.cells #[(.slice ag ab.length ae), (.slice ah aa.length af), (.slice di ak.length db)] 28 (0, 0))) ∧ Aside0 (Below w.heap.size w w'))
 case atStart => exact ⟨(0), (g3_), H', ⟨Nat.le_refl _⟩, ⟨uf0_ el⟩, ⟨o9⟩⟩
 case round =>
  clear H'
  try clear c2
  try clear p2
  obtain ⟨ca, rfl, HA, HK1, el, HB⟩ := hrel
  cases gk with
  | zero => exact absurd HA.out (by simp [spec_DeskOk.l0])
  | succ k1 =>
   have H := HA.out
   clear HA
   simp only [spec_DeskOk.l0] at H
   by_cases c3 : ca < (ak.length : Int)
   ·rw [if_pos c3] at H
    have rr := decide_eq_true c3
    clear c3
    obtain ⟨c4, H⟩ := pos_ H
    have og := decide_eq_true c4
    clear c4
    obtain ⟨bu6, A5, H⟩ := bind_ H
    by_cases c6 : bu6 = true
    ·subst c6
     replace H := ifp_ H
     by_cases c7 : (((rd_T25 ak ca).f0).length : Int) = (ab.length : Int)
     ·rw [if_pos c7] at H
      have ap1 : ((((rd_T25 ak ca).f0).length : Int) == (ab.length : Int)) = true := beq_iff_eq.mpr c7
      have bu8 : ((((rd_T25 ak ca).f0).length : Int) != (ab.length : Int)) = false := bne_eq_false_iff_eq.mpr c7
      have dy4 : (((rd_T25 ak ca).f0).length == ab.length) = true := by first | simpa using c7 | (simp at c7 ⊢; omega)
      clear c7
      have H' := Aside0.mk H
      clear H
      obtain ⟨xh, xi, fo4, xj, xk, fo5⟩ := blk3_ el
      try go_wp2
      replace el := Aside0.mk (blk_drew el.out)
      replace HB := Aside0.mk (below_drew1 HB.out)
      have ru : 0 ≤ (ca : Int) := of_decide_eq_true (g0_)
      have rv : ca < (ak.length : Int) := of_decide_eq_true (g0_)
      obtain ⟨jx, xl, xm, xn, xo, ap2, oh, oj, xp, xq, xr, xt⟩ := at_T25 m0.out ca ru rv
      have xu := oj
      have xv := oh
      cases ap2
      replace oh := cl_ HB oh
      replace oj := cl_ HB oj
      have xw := Aside0.mk xq
      have ap3 := Aside0.mk xp
      clear xq xp
      have xx := Aside0.mk xt
      have ap4 := Aside0.mk xr
      clear xt xr
      replace ru := eq_true ru
      replace rv := eq_true rv
      have aa2 : 0 ≤ (ca : Int) := of_decide_eq_true (g0_)
      have aa3 : ca < (ak.length : Int) := of_decide_eq_true (g0_)
      obtain ⟨bu9, bv0, bv1, bv2, bv3, bv4, ur, us, ap5, ap6, ap7, ap8⟩ := at_T25 m0.out ca aa2 aa3
      have ap9 := us
      have aq0 := ur
      obtain rfl : jx = bu9 := (by injection bv4)
      replace ur := cl_ HB ur
      replace us := cl_ HB us
      have bv5 := Aside0.mk ap6
      have dy5 := Aside0.mk ap5
      clear ap6 ap5
      have bv6 := Aside0.mk ap8
      have dy6 := Aside0.mk ap7
      clear ap8 ap7
      replace aa2 := eq_true aa2
      replace aa3 := eq_true aa3
      refine start_ (n := 21) (S := fun w' => w'.cell? ⟨qn, 0, none⟩ = some (.slice ag ab.length ae) ∧ w'.cell? ⟨qn, 1, none⟩ = some (.slice ah aa.length af) ∧ w'.cell? ⟨qn, 2, none⟩ = some (.slice (some jx) ak.length db) ∧ w'.cell? (jx.add ((ca).toNat * 2)) = some (.slice xl ((rd_T25 ak ca).f0).length xm) ∧ w'.cell? ⟨(jx.add ((ca).toNat * 2)).block, (jx.add ((ca).toNat * 2)).off + 1, none⟩ = some (.slice xn ((rd_T25 ak ca).f1).length xo) ∧ w'.cell? (jx.add ((ca).toNat * 2)) = some (.slice bv0 ((rd_T25 ak ca).f0).length bv1) ∧ w'.cell? ⟨(jx.add ((ca).toNat * 2)).block, (jx.add ((ca).toNat * 2)).off + 1, none⟩ = some (.slice bv2 ((rd_T25 ak ca).f1).length bv3)) (ds := []) (tl_ 21 0) (g1_) rfl (g1_) ⟨(blk_cell el.out 0).trans rfl, (blk_cell el.out 1).trans rfl, (blk_cell el.out 2).trans rfl, ((cl_ HB xv).trans rfl), ((cl_ HB xu).trans rfl), ((cl_ HB aq0).trans rfl), ((cl_ HB ap9).trans rfl)⟩ (fun hHeld => ?_); refine with_tabW spec_DeskOk.tab4 spec_DeskOk.bits4 (fun HT_ HW_ => ?_)
      generalize wr.drew = w9 at el HB xw xx bv5 bv6 oh oj ur us hHeld ⊢
      refine pw_ 0 11 (tl_ 21 1) rfl rfl ?_
      refine pw_ 2 13 (tl_ 21 5) rfl rfl ?_
      refine tk3_ 1 12 (tl_ 21 7) rfl rfl hHeld ?_
      refine pw_ 3 14 (tl_ 21 15) rfl rfl ?_
      refine tk3_ 4 15 (tl_ 21 31) rfl rfl hHeld ?_
      refine one_ (i := 5) (N := some 16) (tl_ 21 63) rfl rfl (one_of HT_.out (g1_)) (by decide) (fun K hK => ?_)
      refine goes_ Try.func42 (g1_) rfl #[.agg #[.slice xl ((rd_T25 ak ca).f0).length xm, .slice xn ((rd_T25 ak ca).f1).length xo]] (by rfl) rfl rfl (g2_) ?_
      with_reducible refine (spec_BookOk.calls k1 _ _ ((rd_T25 ak ca).f0) _ _ ((rd_T25 ak ca).f1) true _ ?side1 ?side2 ?side3 ?side4 A5.out).mono ?_
      (case side1 => exact uf1_ xw)
      (case side2 => exact ap3.out)
      (case side3 => exact uf1_ xx)
      (case side4 => exact ap4.out)
      rintro e w10 ⟨rfl, hb⟩
      refine ⟨_, rfl, ?_⟩
      replace el := bb_ el hb
      replace HB := Aside0.mk (below_step (o9) hb)
      (try clear hb)
      (try clear hk hi)
      refine hK.out _ _ ⟨(blk_cell el.out 0).trans rfl, (blk_cell el.out 1).trans rfl, (blk_cell el.out 2).trans rfl, ((cl_ HB xv).trans rfl), ((cl_ HB xu).trans rfl), ((cl_ HB aq0).trans rfl), ((cl_ HB ap9).trans rfl)⟩ (fun hHeld => ?_)
      clear hK K
      refine nm_ ?_
      refine pw_ 6 17 (tl_ 21 127) rfl rfl ?_
      refine pw_ 7 18 (tl_ 21 255) rfl rfl ?_
      refine pw_ 8 19 (tl_ 21 511) rfl rfl ?_
      refine pw_ 10 21 (tl_ 21 1535) rfl rfl ?_
      refine pw_ 15 26 (tl_ 21 34303) rfl rfl ?_
      refine pw_ 16 27 (tl_ 21 99839) rfl rfl ?_
      refine tk3_ 9 20 (tl_ 21 100351) rfl rfl hHeld ?_
      refine pw_ 11 22 (tl_ 21 102399) rfl rfl ?_
      refine pw_ 12 23 (tl_ 21 106495) rfl rfl ?_
      refine tk3_ 13 24 (tl_ 21 114687) rfl rfl hHeld ?_
      refine pw_ 14 25 (tl_ 21 131071) rfl rfl ?_
      refine tk3_ 17 28 (tl_ 21 262143) rfl rfl hHeld ?_
      refine pw_ 18 29 (tl_ 21 524287) rfl rfl ?_
      refine pw_ 19 30 (tl_ 21 1048575) rfl rfl ?_
      refine pw_ 20 31 (tl_ 21 2097151) rfl rfl ?_
      refine done_ (done_of HT_.out (g1_)) ?_
      try go_wp2
      go_roundg k1
      case measure => have := HK1.out; omega
      case rel => exact ⟨(wrap64 (ca + 1)), (g3_), H', ⟨g15_⟩, ⟨uf0_ el⟩, ⟨o9⟩⟩
     ·rw [if_neg c7] at H
      have ap1 : ((((rd_T25 ak ca).f0).length : Int) == (ab.length : Int)) = false := beq_eq_false_iff_ne.mpr c7
      have bu8 : ((((rd_T25 ak ca).f0).length : Int) != (ab.length : Int)) = true := bne_iff_ne.mpr c7
      have dy4 : (((rd_T25 ak ca).f0).length == ab.length) = false := by first | simpa using c7 | (simp at c7 ⊢; omega)
      obtain rfl := Option.some.inj H
      obtain ⟨wx, wy, fo6, wz, xa, fo7⟩ := blk3_ el
      try go_wp2
      replace el := Aside0.mk (blk_drew el.out)
      replace HB := Aside0.mk (below_drew1 HB.out)
      have ru : 0 ≤ (ca : Int) := of_decide_eq_true (g0_)
      have rv : ca < (ak.length : Int) := of_decide_eq_true (g0_)
      obtain ⟨jx, xl, xm, xn, xo, ap2, oh, oj, xp, xq, xr, xt⟩ := at_T25 m0.out ca ru rv
      have xu := oj
      have xv := oh
      cases ap2
      replace oh := cl_ HB oh
      replace oj := cl_ HB oj
      have xw := Aside0.mk xq
      have ap3 := Aside0.mk xp
      clear xq xp
      have xx := Aside0.mk xt
      have ap4 := Aside0.mk xr
      clear xt xr
      replace ru := eq_true ru
      replace rv := eq_true rv
      have aa2 : 0 ≤ (ca : Int) := of_decide_eq_true (g0_)
      have aa3 : ca < (ak.length : Int) := of_decide_eq_true (g0_)
      obtain ⟨bu9, bv0, bv1, bv2, bv3, bv4, ur, us, ap5, ap6, ap7, ap8⟩ := at_T25 m0.out ca aa2 aa3
      have ap9 := us
      have aq0 := ur
      obtain rfl : jx = bu9 := (by injection bv4)
      replace ur := cl_ HB ur
      replace us := cl_ HB us
      have bv5 := Aside0.mk ap6
      have dy5 := Aside0.mk ap5
      clear ap6 ap5
      have bv6 := Aside0.mk ap8
      have dy6 := Aside0.mk ap7
      clear ap8 ap7
      replace aa2 := eq_true aa2
      replace aa3 := eq_true aa3
      refine start_ (n := 21) (S := fun w' => w'.cell? ⟨qn, 0, none⟩ = some (.slice ag ab.length ae) ∧ w'.cell? ⟨qn, 1, none⟩ = some (.slice ah aa.length af) ∧ w'.cell? ⟨qn, 2, none⟩ = some (.slice (some jx) ak.length db) ∧ w'.cell? (jx.add ((ca).toNat * 2)) = some (.slice xl ((rd_T25 ak ca).f0).length xm) ∧ w'.cell? ⟨(jx.add ((ca).toNat * 2)).block, (jx.add ((ca).toNat * 2)).off + 1, none⟩ = some (.slice xn ((rd_T25 ak ca).f1).length xo) ∧ w'.cell? (jx.add ((ca).toNat * 2)) = some (.slice bv0 ((rd_T25 ak ca).f0).length bv1) ∧ w'.cell? ⟨(jx.add ((ca).toNat * 2)).block, (jx.add ((ca).toNat * 2)).off + 1, none⟩ = some (.slice bv2 ((rd_T25 ak ca).f1).length bv3)) (ds := []) (tl_ 21 0) (g1_) rfl (g1_) ⟨(blk_cell el.out 0).trans rfl, (blk_cell el.out 1).trans rfl, (blk_cell el.out 2).trans rfl, ((cl_ HB xv).trans rfl), ((cl_ HB xu).trans rfl), ((cl_ HB aq0).trans rfl), ((cl_ HB ap9).trans rfl)⟩ (fun hHeld => ?_); refine with_tabW spec_DeskOk.tab4 spec_DeskOk.bits4 (fun HT_ HW_ => ?_)
      generalize wr.drew = xy at el HB xw xx bv5 bv6 oh oj ur us hHeld ⊢
      refine pw_ 0 11 (tl_ 21 1) rfl rfl ?_
      refine pw_ 2 13 (tl_ 21 5) rfl rfl ?_
      refine tk3_ 1 12 (tl_ 21 7) rfl rfl hHeld ?_
      refine pw_ 3 14 (tl_ 21 15) rfl rfl ?_
      refine tk3_ 4 15 (tl_ 21 31) rfl rfl hHeld ?_
      refine one_ (i := 5) (N := some 16) (tl_ 21 63) rfl rfl (one_of HT_.out (g1_)) (by decide) (fun K hK => ?_)
      refine goes_ Try.func42 (g1_) rfl #[.agg #[.slice xl ((rd_T25 ak ca).f0).length xm, .slice xn ((rd_T25 ak ca).f1).length xo]] (by rfl) rfl rfl (g2_) ?_
      with_reducible refine (spec_BookOk.calls k1 _ _ ((rd_T25 ak ca).f0) _ _ ((rd_T25 ak ca).f1) true _ ?side1 ?side2 ?side3 ?side4 A5.out).mono ?_
      (case side1 => exact uf1_ xw)
      (case side2 => exact ap3.out)
      (case side3 => exact uf1_ xx)
      (case side4 => exact ap4.out)
      rintro e w13 ⟨rfl, hb⟩
      refine ⟨_, rfl, ?_⟩
      replace el := bb_ el hb
      replace HB := Aside0.mk (below_step (o9) hb)
      (try clear hb)
      (try clear hk hi)
      refine hK.out _ _ ⟨(blk_cell el.out 0).trans rfl, (blk_cell el.out 1).trans rfl, (blk_cell el.out 2).trans rfl, ((cl_ HB xv).trans rfl), ((cl_ HB xu).trans rfl), ((cl_ HB aq0).trans rfl), ((cl_ HB ap9).trans rfl)⟩ (fun hHeld => ?_)
      clear hK K
      refine nm_ ?_
      refine pw_ 6 17 (tl_ 21 127) rfl rfl ?_
      refine pw_ 7 18 (tl_ 21 255) rfl rfl ?_
      refine pw_ 8 19 (tl_ 21 511) rfl rfl ?_
      refine pw_ 10 21 (tl_ 21 1535) rfl rfl ?_
      refine pw_ 15 26 (tl_ 21 34303) rfl rfl ?_
      refine pw_ 16 27 (tl_ 21 99839) rfl rfl ?_
      refine tk3_ 9 20 (tl_ 21 100351) rfl rfl hHeld ?_
      refine pw_ 11 22 (tl_ 21 102399) rfl rfl ?_
      refine pw_ 12 23 (tl_ 21 106495) rfl rfl ?_
      refine tk3_ 13 24 (tl_ 21 114687) rfl rfl hHeld ?_
      refine pw_ 14 25 (tl_ 21 131071) rfl rfl ?_
      refine tk3_ 17 28 (tl_ 21 262143) rfl rfl hHeld ?_
      refine pw_ 18 29 (tl_ 21 524287) rfl rfl ?_
      refine pw_ 19 30 (tl_ 21 1048575) rfl rfl ?_
      refine pw_ 20 31 (tl_ 21 2097151) rfl rfl ?_
      refine done_ (done_of HT_.out (g1_)) ?_
      try go_wp2
      go_ret
      exact ⟨g4_, o9⟩
    ·replace c6 := Bool.eq_false_iff.mpr c6
     subst c6
     replace H := ifn_ H
     obtain rfl := Option.some.inj H
     obtain ⟨ah4, ah5, be3, ah6, ah7, be4⟩ := blk3_ el
     try go_wp2
     replace el := Aside0.mk (blk_drew el.out)
     replace HB := Aside0.mk (below_drew1 HB.out)
     have ru : 0 ≤ (ca : Int) := of_decide_eq_true (g0_)
     have rv : ca < (ak.length : Int) := of_decide_eq_true (g0_)
     obtain ⟨jx, xl, xm, xn, xo, ap2, oh, oj, xp, xq, xr, xt⟩ := at_T25 m0.out ca ru rv
     have xu := oj
     have xv := oh
     cases ap2
     replace oh := cl_ HB oh
     replace oj := cl_ HB oj
     have xw := Aside0.mk xq
     have ap3 := Aside0.mk xp
     clear xq xp
     have xx := Aside0.mk xt
     have ap4 := Aside0.mk xr
     clear xt xr
     replace ru := eq_true ru
     replace rv := eq_true rv
     refine start_ (n := 21) (S := fun w' => w'.cell? ⟨qn, 0, none⟩ = some (.slice ag ab.length ae) ∧ w'.cell? ⟨qn, 1, none⟩ = some (.slice ah aa.length af) ∧ w'.cell? ⟨qn, 2, none⟩ = some (.slice (some jx) ak.length db) ∧ w'.cell? (jx.add ((ca).toNat * 2)) = some (.slice xl ((rd_T25 ak ca).f0).length xm) ∧ w'.cell? ⟨(jx.add ((ca).toNat * 2)).block, (jx.add ((ca).toNat * 2)).off + 1, none⟩ = some (.slice xn ((rd_T25 ak ca).f1).length xo)) (ds := []) (tl_ 21 0) (g1_) rfl (g1_) ⟨(blk_cell el.out 0).trans rfl, (blk_cell el.out 1).trans rfl, (blk_cell el.out 2).trans rfl, ((cl_ HB xv).trans rfl), ((cl_ HB xu).trans rfl)⟩ (fun hHeld => ?_); refine with_tabW spec_DeskOk.tab4 spec_DeskOk.bits4 (fun HT_ HW_ => ?_)
     generalize wr.drew = w15 at el HB xw xx oh oj hHeld ⊢
     refine pw_ 0 11 (tl_ 21 1) rfl rfl ?_
     refine pw_ 2 13 (tl_ 21 5) rfl rfl ?_
     refine tk4_ 1 12 (tl_ 21 7) rfl rfl hHeld ?_
     refine pw_ 3 14 (tl_ 21 15) rfl rfl ?_
     refine tk4_ 4 15 (tl_ 21 31) rfl rfl hHeld ?_
     refine one_ (i := 5) (N := some 16) (tl_ 21 63) rfl rfl (one_of HT_.out (g1_)) (by decide) (fun K hK => ?_)
     refine goes_ Try.func42 (g1_) rfl #[.agg #[.slice xl ((rd_T25 ak ca).f0).length xm, .slice xn ((rd_T25 ak ca).f1).length xo]] (by rfl) rfl rfl (g2_) ?_
     with_reducible refine (spec_BookOk.calls k1 _ _ ((rd_T25 ak ca).f0) _ _ ((rd_T25 ak ca).f1) false _ ?side1 ?side2 ?side3 ?side4 A5.out).mono ?_
     (case side1 => exact uf1_ xw)
     (case side2 => exact ap3.out)
     (case side3 => exact uf1_ xx)
     (case side4 => exact ap4.out)
     rintro e fo ⟨rfl, hb⟩
     refine ⟨_, rfl, ?_⟩
     replace el := bb_ el hb
     replace HB := Aside0.mk (below_step (o9) hb)
     (try clear hb)
     (try clear hk hi)
     refine hK.out _ _ ⟨(blk_cell el.out 0).trans rfl, (blk_cell el.out 1).trans rfl, (blk_cell el.out 2).trans rfl, ((cl_ HB xv).trans rfl), ((cl_ HB xu).trans rfl)⟩ (fun hHeld => ?_)
     clear hK K
     refine nm_ ?_
     refine pw_ 6 17 (tl_ 21 127) rfl rfl ?_
     refine pw_ 7 18 (tl_ 21 255) rfl rfl ?_
     refine pu_ 8 19 (tl_ 21 511) rfl rfl ?_
     refine pu_ 9 20 (tl_ 21 1023) rfl rfl ?_
     refine pu_ 10 21 (tl_ 21 2047) rfl rfl ?_
     refine pu_ 11 22 (tl_ 21 4095) rfl rfl ?_
     refine pu_ 12 23 (tl_ 21 8191) rfl rfl ?_
     refine pu_ 13 24 (tl_ 21 16383) rfl rfl ?_
     refine pu_ 14 25 (tl_ 21 32767) rfl rfl ?_
     refine pu_ 15 26 (tl_ 21 65535) rfl rfl ?_
     refine pu_ 16 27 (tl_ 21 131071) rfl rfl ?_
     refine pu_ 17 28 (tl_ 21 262143) rfl rfl ?_
     refine pu_ 18 29 (tl_ 21 524287) rfl rfl ?_
     refine pu_ 19 30 (tl_ 21 1048575) rfl rfl ?_
     refine pw_ 20 31 (tl_ 21 2097151) rfl rfl ?_
     refine done_ (done_of HT_.out (g1_)) ?_
     try go_wp2
     go_ret
     exact ⟨g4_, o9⟩
   ·rw [if_neg c3] at H
    have rr := decide_eq_false c3
    clear c3
    obtain ⟨bu7, A17, H⟩ := bind_ H
    by_cases fu : bu7 = true
    ·subst fu
     replace H := ifp_ H
     obtain rfl := Option.some.inj H
     obtain ⟨fo8, fo9, fp0, fp1, fp2, fp3⟩ := blk3_ el
     go_wp2_with (first | ((with_reducible refine gate_callee (f := 42) rfl ?_); refine goesL_ (some 34) rfl rfl Try.func42 k_ rfl #[.agg #[.slice ag ab.length ae, .slice ah aa.length af]] rfl (g2_) ?_; (with_reducible refine (spec_BookOk.calls k1 _ _ ab _ _ aa true _ ?side1 ?side2 ?side3 ?side4 A17.out).mono ?_); (case side1 => exact uf1_ dd); (case side2 => exact d6.out); (case side3 => exact uf1_ cq); (case side4 => exact d7.out); rintro e f8 ⟨rfl, hb⟩; refine ⟨_, rfl, ?_⟩; replace el := bb_ el hb; replace HB := Aside0.mk (below_step (o9) hb); (try clear hb); (try clear hk hi); obtain ⟨rx, ry, bv7, tk, rz, bv8⟩ := blk3_ el))
     go_ret
     exact ⟨g4_, o9⟩
    ·replace fu := Bool.eq_false_iff.mpr fu
     subst fu
     replace H := ifn_ H
     obtain rfl := Option.some.inj H
     obtain ⟨ut, uu, fp4, uv, uw, fp5⟩ := blk3_ el
     go_wp2_with (first | ((with_reducible refine gate_callee (f := 42) rfl ?_); refine goesL_ (some 34) rfl rfl Try.func42 k_ rfl #[.agg #[.slice ag ab.length ae, .slice ah aa.length af]] rfl (g2_) ?_; (with_reducible refine (spec_BookOk.calls k1 _ _ ab _ _ aa false _ ?side1 ?side2 ?side3 ?side4 A17.out).mono ?_); (case side1 => exact uf1_ dd); (case side2 => exact d6.out); (case side3 => exact uf1_ cq); (case side4 => exact d7.out); rintro e w23 ⟨rfl, hb⟩; refine ⟨_, rfl, ?_⟩; replace el := bb_ el hb; replace HB := Aside0.mk (below_step (o9) hb); (try clear hb); (try clear hk hi)))
     go_ret
     exact ⟨g4_, o9⟩
def IsS112 (w0 W : World) (g : Nat) (f0 : List Int) (f1 : Int) : Prop := ∃ A0 c0, W.heap[g]? = some (.cells #[.slice A0 f0.length c0, .int .i64 f1] 112 (0, 0)) ∧ w0.heap.size ≤ g ∧ Kd.C (Kd.int .u8) w0 A0 f0.length f0
theorem IsS112.grown {w0 W : World} {g : Nat} {f0 : List Int} {f1 : Int} {W1 : World} {row : Option Nat} (h : IsS112 w0 W g f0 f1) (hw : W.grownBy W1 row) (hne : some g ≠ row) : IsS112 w0 W1 g f0 f1 := by
 obtain ⟨A0, c0, hb, hg, e8⟩ := h
 exact ⟨A0, c0, blk_grown hb hw hne, hg, e8⟩
theorem IsS112.own_neN {w0 W : World} {g : Nat} {f0 : List Int} {f1 : Int} {α : Type} {d : Kd α} {e : Nat} {base : Nat} {ok : Nat → Prop} {v : Value} {xs : List α} (h : IsS112 w0 W g f0 f1) (ho : Kd.N d e W base ok v xs) (ht : e ≠ 112) : some g ≠ v.ownBlock := by
 obtain ⟨A0, c0, hb, hg, e8⟩ := h
 exact Kd.N_ne ho hb ht
theorem IsS112.fresh {w0 W : World} {g : Nat} {f0 : List Int} {f1 : Int} (h : IsS112 w0 W g f0 f1) : ∀ k, W.heap.size ≤ k → k ≠ g := by
 obtain ⟨A0, c0, hb, hg, e8⟩ := h
 exact Kd.freshB hb
theorem IsS112.kept {w0 W : World} {g : Nat} {f0 : List Int} {f1 : Int} {W1 : World} {S : Nat → Prop} (h : IsS112 w0 W g f0 f1) (hk : Kept W W1 S) (hne : ¬ S g) : IsS112 w0 W1 g f0 f1 := by
 obtain ⟨A0, c0, hb, hg, e8⟩ := h
 exact ⟨A0, c0, blk_kept hb hk hne, hg, e8⟩
theorem IsS112.below {w0 W : World} {g : Nat} {f0 : List Int} {f1 : Int} {W1 : World} (h : IsS112 w0 W g f0 f1) (hw : Below W.heap.size W W1) : IsS112 w0 W1 g f0 f1 := h.grown (grown_of_below hw none) (by simp)
theorem IsS112.alloc {w0 W : World} {g : Nat} {f0 : List Int} {f1 : Int} (h : IsS112 w0 W g f0 f1) (o : Obj) : IsS112 w0 (W.alloc o) g f0 f1 := h.below (below_alloc (Below.refl _ _) o)
theorem IsS112.drewN {w0 W : World} {g : Nat} {f0 : List Int} {f1 : Int} (h : IsS112 w0 W g f0 f1) (m : Nat) : IsS112 w0 (W.drewN m) g f0 f1 := h
theorem IsS112.drew {w0 W : World} {g : Nat} {f0 : List Int} {f1 : Int} (h : IsS112 w0 W g f0 f1) : IsS112 w0 W.drew g f0 f1 := h
theorem IsS112.at_ {w0 W : World} {g : Nat} {f0 : List Int} {f1 : Int} {w' : World} {m : Nat} (hq : W.drewN m = w') (h : IsS112 w0 W g f0 f1) : IsS112 w0 w' g f0 f1 := by subst hq; exact IsS112.drewN h m
theorem IsS112.apart {w0 W : World} {g : Nat} {f0 : List Int} {f1 : Int} {α : Type} {d : Kd α} {e : Nat} {base : Nat} {ok : Nat → Prop} {v : Value} {xs : List α} (h : IsS112 w0 W g f0 f1) (ho : d.R e W base ok v xs) (ht : ∀ q, q ∈ e :: d.E → q ≠ 112) : d.R e W base (fun k => ok k ∧ k ≠ g) v xs := by
 obtain ⟨A0, c0, hb, hg, e8⟩ := h
 exact Kd.R_types ho hb ht
theorem IsS112.own_ne {w0 W : World} {g : Nat} {f0 : List Int} {f1 : Int} {α : Type} {d : Kd α} {e : Nat} {base : Nat} {ok : Nat → Prop} {v : Value} {xs : List α} (h : IsS112 w0 W g f0 f1) (ho : d.R e W base ok v xs) (ht : e ≠ 112) : some g ≠ v.ownBlock := by
 obtain ⟨A0, c0, hb, hg, e8⟩ := h
 exact Kd.R_ne ho hb ht
theorem IsS112.apartQ {w0 W : World} {g : Nat} {f0 : List Int} {f1 : Int} {α : Type} {d : Kd α} {e : Nat} {base : Nat} {ok : Nat → Prop} {v : Value} {xs : List α} (h : IsS112 w0 W g f0 f1) (ho : d.Q e W base ok v xs) (ht : ∀ q, q ∈ e :: d.E → q ≠ 112) : d.Q e W base (fun k => ok k ∧ k ≠ g) v xs := by
 obtain ⟨A0, c0, hb, hg, e8⟩ := h
 exact Kd.Q_types ho hb ht
theorem IsS112.own_neQ {w0 W : World} {g : Nat} {f0 : List Int} {f1 : Int} {α : Type} {d : Kd α} {e : Nat} {base : Nat} {ok : Nat → Prop} {v : Value} {xs : List α} (h : IsS112 w0 W g f0 f1) (ho : d.Q e W base ok v xs) (ht : e ≠ 112) : some g ≠ v.ownBlock := by
 obtain ⟨A0, c0, hb, hg, e8⟩ := h
 exact Kd.Q_ne ho hb ht
theorem IsS112.apartS {w0 W : World} {g : Nat} {f0 : List Int} {f1 : Int} {α : Type} {d : Kd α} {e : Nat} {base : Nat} {ok : Nat → Prop} {v : Value} {xs : List α} (h : IsS112 w0 W g f0 f1) (ho : d.S e W base ok v xs) (ht : ∀ q, q ∈ e :: d.E → q ≠ 112) : d.S e W base (fun k => ok k ∧ k ≠ g) v xs := by
 obtain ⟨A0, c0, hb, hg, e8⟩ := h
 exact Kd.S_types ho hb ht
theorem IsS112.own_neS {w0 W : World} {g : Nat} {f0 : List Int} {f1 : Int} {α : Type} {d : Kd α} {e : Nat} {base : Nat} {ok : Nat → Prop} {v : Value} {xs : List α} (h : IsS112 w0 W g f0 f1) (ho : d.S e W base ok v xs) (ht : e ≠ 112) : some g ≠ v.ownBlock := by
 obtain ⟨A0, c0, hb, hg, e8⟩ := h
 exact Kd.S_ne ho hb ht
theorem IsS112.lt {w0 W : World} {g : Nat} {f0 : List Int} {f1 : Int} (h : IsS112 w0 W g f0 f1) : g < W.heap.size := by
 obtain ⟨A0, c0, hb, hg, e8⟩ := h
 exact blk_lt hb
theorem IsS112.ge {w0 W : World} {g : Nat} {f0 : List Int} {f1 : Int} (h : IsS112 w0 W g f0 f1) : w0.heap.size ≤ g := by
 obtain ⟨A0, c0, hb, hg, e8⟩ := h
 exact hg
theorem IsS112.ne_blk {w0 W : World} {g : Nat} {f0 : List Int} {f1 : Int} {a : Nat} {cs : Array Value} {t : TypeId} {fr : Nat × Nat} (h : IsS112 w0 W g f0 f1) (hb2 : W.heap[a]? = some (.cells cs t fr)) (ht : t ≠ 112) : g ≠ a := by
 obtain ⟨A0, c0, hb, hg, e8⟩ := h
 rintro rfl
 rw [hb] at hb2
 injection hb2 with hb2
 injection hb2 with _ ht2
 exact ht ht2.symm
theorem IsS112.far {w0 W : World} {g : Nat} {f0 : List Int} {f1 : Int} {p : Addr} (h : IsS112 w0 W g f0 f1) (hne : g ≠ p.block) (u : Value) : IsS112 w0 (W.setCell p u) g f0 f1 := by
 obtain ⟨A0, c0, hb, hg, e8⟩ := h
 exact ⟨A0, c0, blk_far hb hne u, hg, e8⟩
theorem cellS112_0 {W : World} {g : Nat} {A0 : Option Addr} {c0 : Nat} {f0 : List Int} {f1 : Int} (h : W.heap[g]? = some (.cells #[.slice A0 f0.length c0, .int .i64 f1] 112 (0, 0))) : W.cell? ⟨g, 0, none⟩ = some (.slice A0 f0.length c0) := (blk_cell h 0).trans rfl
theorem cellS112_1 {W : World} {g : Nat} {A0 : Option Addr} {c0 : Nat} {f0 : List Int} {f1 : Int} (h : W.heap[g]? = some (.cells #[.slice A0 f0.length c0, .int .i64 f1] 112 (0, 0))) : W.cell? ⟨g, 1, none⟩ = some (.int .i64 f1) := (blk_cell h 1).trans rfl
theorem IsS112.set_1 {w0 W : World} {g : Nat} {f0 : List Int} {f1 : Int} (h : IsS112 w0 W g f0 f1) (x : Int) : IsS112 w0 (W.setCell ⟨g, 1, none⟩ (.int .i64 x)) g f0 x := by
 obtain ⟨A0, c0, hb, hg, e8⟩ := h
 exact ⟨A0, c0, by simpa using blk_set hb 1 (.int .i64 x), hg, e8⟩
theorem IsS112.new (w0 W : World) (A0 : Option Addr) (c0 : Nat) (f0 : List Int) (f1 : Int) (hB : Below w0.heap.size w0 W) (e8 : Kd.C (Kd.int .u8) w0 A0 f0.length f0) : IsS112 w0 (W.alloc (.cells #[.slice A0 f0.length c0, .int .i64 f1] 112)) W.heap.size f0 f1 := ⟨A0, c0, by simpa using heap_alloc_new W _, hB.size, e8⟩
def spec_l20Open.f (l0 : List Int) : Option (List Int × Int) := if (l0.length : Int) > 2000 then (if 2000 ≤ (l0.length : Int) then (some (l0.take 2000, 0)) else (none)) else (some (l0, 0))
theorem bs2 {p : Prop} (h : p := by repeat (first | (with_reducible first | exact HB.out | apply below_alloc | apply pw_below_drewN | apply below_drew1 | refine below_set ?_ cp5.out | refine below_set ?_ cp6.out) | exact HB.out)) : p := h
theorem cn0 {p : Prop} (h : p := by repeat (first | (with_reducible first | exact HBW.out | apply below_alloc | apply pw_below_drewN | apply below_drew1 | refine below_set ?_ dy7.out | refine below_set ?_ dy8.out) | exact HBW.out)) : p := h
set_option maxHeartbeats 8000000 in
set_option maxRecDepth 100000 in
theorem spec_l20Open.calls (A0 : Option Addr) (c0 : Nat) (l0 : List Int) (r1 : List Int) (r2 : Int) (w0 w : World) (hB : Below w0.heap.size w0 w) (e8 : Kd.C (Kd.int .u8) w0 A0 l0.length l0) (go : l0.length ≤ c0) (h : spec_l20Open.f l0 = some (r1, r2)) :
  Calls Try.prog 69 #[.slice A0 l0.length c0] w fun e w' => ∃ g_ : Nat, e = .returned (.pointer (some ⟨g_, 0, none⟩)) ∧ IsS112 w0 w' g_ r1 r2 ∧ Below w0.heap.size w0 w' ∧ Below w.heap.size w w' := by
 have hu112 := Try.underlying112
 have jw := Aside0.mk e8
 have ll := Aside0.mk go
 clear e8 go
 have HBW := Aside0.mk (Below.refl w.heap.size w)
 have HW0 := Aside0.mk hB.size
 have HB := Aside0.mk hB
 clear hB
 have H : (if (l0.length : Int) > 2000 then (if 2000 ≤ (l0.length : Int) then (some (l0.take 2000, 0)) else (none)) else (some (l0, 0))) = some (r1, r2) := h
 clear h
 by_cases c2 : (l0.length : Int) > 2000
 ·rw [if_pos c2] at H
  have aq1 := decide_eq_true c2
  have bv9 : decide (2000 < l0.length) = true := decide_eq_true (by omega)
  clear c2
  obtain ⟨c3, H⟩ := pos_ H
  have rr := eq_true c3
  have aq2 := decide_eq_true c3
  clear c3
  simp only [Option.some.injEq, Prod.mk.injEq] at H
  obtain ⟨rfl, rfl⟩ := H
  obtain ⟨i04, cp7, _, hsz4, _⟩ := info_parts info5
  obtain ⟨hcut4, hA4, hC4⟩ := print_take_of (P := Try.prog) (Value.int .u8) 0 33 5 .i64 Try.underlying33 cp7 hsz4 A0 c0 l0 2000 (by omega) (of_decide_eq_true (g0_)) ll.out
  have dy9 := Aside0.mk (Kd.C_of_reads (h1 := fun _ => rfl) (hA4 _ (Kd.reads_of_C jw.out)))
  have fp6 := Aside0.mk hC4
  clear hA4 hC4 cp7 hsz4
  go_enter Try.func69, Try.ntmps69
  go_wp2_with (first | ((with_reducible refine gate_dst (N := 10) rfl ?_); refine bx_ (N := 10) #[.slice A0 (l0.take 2000).length c0, .int .i64 0] 112 ?_; intro be5 hg w5 hbox hb; replace HB := Aside0.mk (below_step (bs2) hb); have dz0 := Aside0.mk (hbox); have dy7 := Aside0.mk ((g62_ : w.heap.size ≤ be5)); have cp5 := Aside0.mk ((Nat.le_trans HW0.out (g62_ : w.heap.size ≤ be5) : w0.heap.size ≤ be5)); replace HBW := Aside0.mk (below_step HBW.out hb); clear hb hbox hg))
  go_ret
  exact ⟨_, rfl, (show IsS112 w0 _ be5 (l0.take 2000) 0 from ⟨_, _, uf0_ dz0, cp5.out, dy9.out⟩), bs2, cn0⟩
 ·rw [if_neg c2] at H
  have aq1 := decide_eq_false c2
  have bv9 : decide (2000 < l0.length) = false := decide_eq_false (by omega)
  clear c2
  simp only [Option.some.injEq, Prod.mk.injEq] at H
  obtain ⟨rfl, rfl⟩ := H
  go_enter Try.func69, Try.ntmps69
  go_wp2_with (first | ((with_reducible refine gate_dst (N := 10) rfl ?_); refine bx_ (N := 10) #[.slice A0 l0.length c0, .int .i64 0] 112 ?_; intro be6 hg w6 hbox hb; replace HB := Aside0.mk (below_step (bs2) hb); have dz1 := Aside0.mk (hbox); have dy8 := Aside0.mk ((g62_ : w.heap.size ≤ be6)); have cp6 := Aside0.mk ((Nat.le_trans HW0.out (g62_ : w.heap.size ≤ be6) : w0.heap.size ≤ be6)); replace HBW := Aside0.mk (below_step HBW.out hb); clear hb hbox hg))
  go_ret
  exact ⟨_, rfl, (show IsS112 w0 _ be6 l0 0 from ⟨_, _, uf0_ dz1, cp6.out, jw.out⟩), bs2, cn0⟩
theorem eqA69 (d : Nat) (w : World) (x0 y0 : Int) (x1 y1 : Int) (x2 y2 : Int) (x3 y3 : Int) :
  (Op.equalIn (d + 2) 69 (.agg #[.int .i64 x0, .int .i64 x1, .int .i64 x2, .int .i64 x3]) (.agg #[.int .i64 y0, .int .i64 y1, .int .i64 y2, .int .i64 y3])).run Try.prog w = .ok (x0 == y0 && (x1 == y1 && (x2 == y2 && (x3 == y3)))) w := by
 refine eqA_of Try.underlying69 (g1_) ?_
 refine eqf_cons (by rfl) (g24_) (g24_) (by go_simp) ?_
 refine eqf_cons (by rfl) (g24_) (g24_) (by go_simp) ?_
 refine eqf_cons (by rfl) (g24_) (g24_) (by go_simp) ?_
 exact eqf_last (by rfl) (g24_) (g24_) (by go_simp)
def spec_l2Copy.l0 : Nat → Int → List Int → List (List Int) → List Int → List (List Int) → Option (List Int × (List (List Int)))
 | 0, _, _, _, _, _ => none
 | k + 1, x4, dz2, be7, cp8, bw0 => if x4 < (be7.length : Int) then ((some (([] : List Int) : List Int)).bind fun aa4 => (if 0 ≤ x4 then (if aa4.length + (rd_L1 be7 x4).length < 17592186044416 then (if bw0.length < 5864062014805 then (spec_l2Copy.l0 k (wrap64 (x4 + 1)) dz2 be7 cp8 (bw0 ++ [(aa4 ++ (rd_L1 be7 x4))])) else (none)) else (none)) else (none))) else (some (cp8, bw0))
def spec_l2Copy.f (k : Nat) (ab : List Int) (aa : List (List Int)) : Option (List Int × (List (List Int))) := (some (([] : List Int) : List Int)).bind fun tl => (if tl.length + ab.length < 17592186044416 then (spec_l2Copy.l0 k 0 ab aa (tl ++ ab) ([] : List (List Int))) else (none))
theorem spec_l2Copy.mq {p : Prop} (h : p := by
 repeat' first
 | (with_reducible exact ih0 _ _ _ _ _)
 | (with_reducible exact LeO.refl _)
 | (with_reducible exact LeO.none _)
 | (with_reducible refine LeO.ite ?_ ?_)
 | (with_reducible refine LeO.bind ?_ (fun _ => ?_))
 | exact ih0 _ _ _ _ _
 | exact LeO.none _
 | refine LeO.ite ?_ ?_
 | refine LeO.bind ?_ (fun _ => ?_)) : p := h
theorem spec_l2Copy.mono_l : ∀ k, (∀ y0 y1 y2 y3 y4, LeO (spec_l2Copy.l0 k y0 y1 y2 y3 y4) (spec_l2Copy.l0 (k + 1) y0 y1 y2 y3 y4))
 | 0 => fun _ _ _ _ _ r h => by simp [spec_l2Copy.l0] at h
 | k + 1 => by
  have ih0 := spec_l2Copy.mono_l k
  ·intro y0 y1 y2 y3 y4
   unfold spec_l2Copy.l0
   exact spec_l2Copy.mq
theorem spec_l2Copy.mono : ∀ a0 a1 k, LeO (spec_l2Copy.f k a0 a1) (spec_l2Copy.f (k + 1) a0 a1) := by
 intro a0 a1 k
 have ih0 := spec_l2Copy.mono_l k
 unfold spec_l2Copy.f
 exact spec_l2Copy.mq
def spec_l2Copy.T5 : Bool × List (List Nat × List Nat) := (true, [([], []), ([0], [0]), ([], []), ([], []), ([3], [3]), ([], []), ([4, 5], [4, 5]), ([6], [6]), ([2, 7], [2, 7]), ([8], [8]), ([1, 9, 8], [1, 9]), ([0, 1, 2, 3, 4, 5, 6, 7, 8, 9, 10], []), ([11, 10, 10, 0, 1, 2, 3, 4, 5, 6, 7, 8, 9, 10], [10, 11])])
def spec_l2Copy.B5 : List Nat := [0, 1, 0, 0, 8, 0, 56, 120, 252, 508, 1023, 2047, 4095]
theorem spec_l2Copy.tab5 : rtab .any (opsOf Try.f80 5) = spec_l2Copy.T5 := by kernel_rfl
theorem spec_l2Copy.bits5 : waitsOk spec_l2Copy.T5.2 spec_l2Copy.B5 = true := by kernel_rfl
theorem mz {p : Prop} (h : p := by repeat (first | (with_reducible first | exact HB.out | apply below_alloc | apply pw_below_drewN | apply below_drew1 | refine below_set ?_ dz3.out | refine below_set ?_ dz4.out | refine below_set ?_ dz5.out) | exact HB.out)) : p := h
set_option maxHeartbeats 8000000 in
set_option maxRecDepth 100000 in
theorem spec_l2Copy.calls (k : Nat) (ag : Option Addr) (ae : Nat) (ab : List Int) (ah : Option Addr) (af : Nat) (aa : List (List Int)) (r1 : List Int) (r2 : List (List Int)) (w : World) (dx : Kd.C (Kd.int .i64) w ag ab.length ab) (dy : ab.length ≤ ae) (dz : Kd.C (Kd.slice 3 (Kd.int .i64)) w ah aa.length aa) (d2 : aa.length ≤ af) (h : spec_l2Copy.f k ab aa = some (r1, r2)) :
  Calls Try.prog 80 #[.agg #[.slice ag ab.length ae, .slice ah aa.length af]] w fun e w' => ∃ v0_ v1_ : Value, e = .returned (.agg #[v0_, v1_]) ∧ Kd.R (Kd.int .i64) 3 w' w.heap.size (fun _ => True) v0_ r1 ∧ Kd.S (Kd.slice 3 (Kd.int .i64)) 22 w' w.heap.size (fun k_ => some k_ ≠ (v0_ : Value).ownBlock) v1_ r2 ∧ Below w.heap.size w w' := by
 have hu25 := Try.underlying25
 have dd := Aside0.mk dx
 have d6 := Aside0.mk dy
 clear dx dy
 have cq := Aside0.mk dz
 have d7 := Aside0.mk d2
 clear dz d2
 have HB := Aside0.mk (Below.refl w.heap.size w)
 have H : ((some (([] : List Int) : List Int)).bind fun tl => (if tl.length + ab.length < 17592186044416 then (spec_l2Copy.l0 k 0 ab aa (tl ++ ab) ([] : List (List Int))) else (none))) = some (r1, r2) := h
 clear h
 obtain ⟨tl, hy137⟩ : ∃ y_ : List Int, y_ = (([] : List Int)) := ⟨_, rfl⟩
 replace H : (if tl.length + ab.length < 17592186044416 then (spec_l2Copy.l0 k 0 ab aa (tl ++ ab) ([] : List (List Int))) else (none)) = some (r1, r2) := by first | (rw [hy137]; with_reducible exact H) | (have H2_ := (Option.bind_some _ _).symm.trans H; rw [hy137]; with_reducible exact H2_) | (have H2_ := (Option.bind_some _ _).symm.trans H; with_reducible exact H2_) | with_reducible exact H | (rw [hy137]; exact H) | exact H
 have cp9 := Aside0.mk hy137
 clear hy137
 obtain ⟨c2, H⟩ := pos_ H
 have dz6 := Aside0.mk c2
 clear c2
 obtain ⟨ji, hy140⟩ : ∃ y_ : List Int, y_ = (tl ++ ab) := ⟨_, rfl⟩
 replace H : (spec_l2Copy.l0 k 0 ab aa ji ([] : List (List Int))) = some (r1, r2) := by first | (rw [hy140]; with_reducible exact H) | (have H2_ := (Option.bind_some _ _).symm.trans H; rw [hy140]; with_reducible exact H2_) | (have H2_ := (Option.bind_some _ _).symm.trans H; with_reducible exact H2_) | with_reducible exact H | (rw [hy140]; exact H) | exact H
 have dz7 := Aside0.mk hy140
 clear hy140
 have H' := Aside0.mk H
 clear H
 go_enter Try.func80, Try.ntmps80
 go_wp2_with (first | ((with_reducible refine gate_dst (N := 1) rfl ?_); refine bx_ (N := 1) #[.slice ag ab.length ae, .slice ah aa.length af] 25 ?_; intro m3 hg w3 hbox hb; have e9 := Aside0.mk (hbox); have fp7 := Aside0.mk ((g38_ : w.heap.size ≤ m3)); have dz3 := Aside0.mk ((g38_ : w.heap.size ≤ m3)); replace HB := Aside0.mk (below_step (mz) hb); clear hb hbox hg) | ((with_reducible refine gate_dst (N := 2) rfl ?_); refine bx_ (N := 2) #[.slice none 0 0, .slice none 0 0] 25 ?_; intro ma hg w4 hbox hb; have ik := Aside0.mk (hbox); have fp8 := Aside0.mk ((g38_ : w.heap.size ≤ ma)); have dz4 := Aside0.mk ((g38_ : w.heap.size ≤ ma)); replace HB := Aside0.mk (below_step (mz) hb); have bw1 := Aside0.mk ((by rw [hg]; exact Nat.ne_of_lt (blk_lt (g := m3) (o := .cells #[.slice ag ab.length ae, .slice ah aa.length af] 25 (0, 0)) (uf0_ e9)) : m3 ≠ ma)); have bw2 := Aside0.mk ((by rw [hg]; exact Nat.ne_of_gt (blk_lt (g := m3) (o := .cells #[.slice ag ab.length ae, .slice ah aa.length af] 25 (0, 0)) (uf0_ e9)) : ma ≠ m3)); replace e9 := bb_ e9 hb; clear hb hbox hg) | ((with_reducible refine gate_dst (N := 5) rfl ?_); refine Kd.R_lit (Kd.int .i64) _ 3 ?hg (N := 5) ?hd (xs := ([] : List Int)) (inner := []) (ok := fun _ => True) (okp := fun _ => True) ?hr ?hp (fun _ hk => hk) trivial (Below.refl _ _) (Nat.le_refl _) (by simp) ?_; (case hd => rfl); (case hg => rfl); (case hr => first | (go_simp; done) | (go_simp; rfl)); (case hp => exact (Reps.none _ _)); intro dz8 w5 ho6 hb hg_ hnew_; clear hg_ hnew_; (first | rw [← cp9.out] at ho6 | (simp only [Int.reduceToNat] at ho6; rw [← cp9.out] at ho6)); have be8 := Aside0.mk (Kd.R_lower ho6 (below_size (mz))); replace e9 := bb_ e9 hb; replace ik := bb_ ik hb; replace HB := Aside0.mk (below_step (mz) hb); clear hb ho6; have cq0 := bw1.out; have cq1 := bw2.out; obtain ⟨xh, xi, xj, xk⟩ := blk2_ e9) | ((with_reducible refine gate_builtin (b := .append) (xs := #[.tmp 5, .tmp 7]) rfl ?_); at_builtin; refine Kd.R_append_rows (Kd.int .i64) (w0 := w) w.heap.size rfl (.tmp 5) (.tmp 7) 22 3 (.int .i64 0) 8 rfl Try.underlying22 info3 rfl (by decide) (by omega) dz8 tl ab _ _ _ (fun _ => True) (fun _ => False) rfl rfl ?aO ?aR (fun _ _ h => h) (fun _ h => h.elim) ?aF ?aB ?aS ?aL ?_; (case aR => exact uf1_ dd); (case aB => exact (mz)); (case aF => exact (fun _ _ => trivial)); (case aO => exact (uf2_ be8)); (case aS => exact (below_size (mz))); (case aL => have := dz6.out; omega); intro fp9 w9 ho hb hg hat; rw [← dz7.out] at ho; replace e9 := Aside0.mk (blk_grown (g := m3) (o := .cells #[.slice ag ab.length ae, .slice ah aa.length af] 25 (0, 0)) (uf0_ e9) hg (Kd.R_ne be8.out e9.out (by decide))); replace ik := Aside0.mk (blk_grown (g := ma) (o := .cells #[.slice none 0 0, .slice none 0 0] 25 (0, 0)) (uf0_ ik) hg (Kd.R_ne be8.out ik.out (by decide))); replace HB := Aside0.mk (hb); have be9 := Aside0.mk (ho); clear be8; clear ho hb hg hat; obtain ⟨gd, gf, aq3⟩ := Kd.R_slice be9.out; subst aq3) | ((with_reducible refine gate_dst (N := 3) rfl ?_); refine bx_ (N := 3) #[.slice none 0 0, .slice none 0 0] 25 ?_; intro m4 hg w11 hbox hb; replace be9 := Aside0.mk (Kd.R_below (uf2_ be9) hb); have gp := Aside0.mk (hbox); have fq0 := Aside0.mk ((g38_ : w.heap.size ≤ m4)); have dz5 := Aside0.mk ((g38_ : w.heap.size ≤ m4)); replace HB := Aside0.mk (below_step (mz) hb); have aa5 := Aside0.mk ((by rw [hg]; exact Nat.ne_of_lt (blk_lt (g := m3) (o := .cells #[.slice ag ab.length ae, .slice ah aa.length af] 25 (0, 0)) (uf0_ e9)) : m3 ≠ m4)); have bf0 := Aside0.mk ((by rw [hg]; exact Nat.ne_of_gt (blk_lt (g := m3) (o := .cells #[.slice ag ab.length ae, .slice ah aa.length af] 25 (0, 0)) (uf0_ e9)) : m4 ≠ m3)); replace e9 := bb_ e9 hb; have ah8 := Aside0.mk ((by rw [hg]; exact Nat.ne_of_lt (blk_lt (g := ma) (o := .cells #[.slice none 0 0, .slice none 0 0] 25 (0, 0)) (uf0_ ik)) : ma ≠ m4)); have bw3 := Aside0.mk ((by rw [hg]; exact Nat.ne_of_gt (blk_lt (g := ma) (o := .cells #[.slice none 0 0, .slice none 0 0] 25 (0, 0)) (uf0_ ik)) : m4 ≠ ma)); replace ik := bb_ ik hb; clear hb hbox hg; have bw4 := bf0.out; have bw5 := aa5.out; have dz9 := bw3.out; have ea0 := ah8.out; obtain ⟨ah4, ah5, ah6, ah7⟩ := blk2_ gp))
 go_loopg [4] k (fun kq v4 w' => ∃ (an : Int) (qo : List (List Int)) (r0 : Value), v4 = .int .i64 an ∧ Aside0 (spec_l2Copy.l0 kq an ab aa ji qo = some (r1, r2)) ∧ Aside0 (kq ≤ k) ∧ Aside0 (Kd.R (Kd.int .i64) 3 w' w.heap.size (fun _ => True) (.slice gd ji.length gf) ji) ∧ Aside0 (Kd.S (Kd.slice 3 (Kd.int .i64)) 22 w' w.heap.size (fun k_ => some k_ ≠ ((.slice gd ji.length gf) : Value).ownBlock) r0 qo) ∧ Aside0 (w'.heap[m3]? = some (.cells #[(.slice ag ab.length ae), (.slice ah aa.length af)] 25 (0, 0))) ∧ Aside0 (w'.heap[ma]? = some (.cells #[(.slice none 0 0), (.slice none 0 0)] 25 (0, 0))) ∧ Aside0 (w'.heap[m4]? = some (.cells #[(.slice gd ji.length gf), r0] 25 (0, 0))) ∧ Aside0 (Below w.heap.size w w'))
 case atStart => exact ⟨(0), (([] : List (List Int))), (.slice none 0 0), (g3_), H', ⟨Nat.le_refl _⟩, ⟨by (with_reducible repeat (first | apply Kd.R_alloc | apply Kd.R_drewN | apply Kd.R_drew)); exact Kd.R_mono (Kd.R_far (p := ⟨m4, 1, none⟩) (Kd.R_far (p := ⟨m4, 0, none⟩) (Kd.R_types be9.out gp.out (by decide)) (fun _ hk => hk.2) (.slice gd ji.length gf)) (fun _ hk => hk.2) (.slice none 0 0)) (fun _ hk => trivial)⟩, ⟨g34_⟩, ⟨by (with_reducible repeat (first | refine blk_drewN ?_ _ | refine blk_drew ?_ | refine blk_alloc ?_ _)); refine blk_far ?_ aa5.out _; refine blk_far ?_ aa5.out _; exact uf0_ e9⟩, ⟨by (with_reducible repeat (first | refine blk_drewN ?_ _ | refine blk_drew ?_ | refine blk_alloc ?_ _)); refine blk_far ?_ ah8.out _; refine blk_far ?_ ah8.out _; exact uf0_ ik⟩, ⟨by (with_reducible repeat (first | refine blk_drewN ?_ _ | refine blk_drew ?_ | refine blk_alloc ?_ _)); refine blk_put (cs := #[.slice gd ji.length gf, .slice none 0 0]) ?_ 1 _ rfl; refine blk_put (cs := #[.slice none 0 0, .slice none 0 0]) ?_ 0 _ rfl; exact uf0_ gp⟩, ⟨mz⟩⟩
 case round =>
  clear H'
  try clear c1
  try clear c2
  try clear p2
  try clear c7
  try clear c8
  try clear hx
  try clear lm
  try clear ah4
  try clear ah5
  try clear xh
  try clear xi
  try clear ah6
  try clear ah7
  try clear xj
  try clear xk
  obtain ⟨an, qo, r0, rfl, HA, HK1, ol, mb, e9, ik, gp, HB⟩ := hrel
  cases gk with
  | zero => exact absurd HA.out (by simp [spec_l2Copy.l0])
  | succ k1 =>
   have H := HA.out
   clear HA
   simp only [spec_l2Copy.l0] at H
   by_cases ee : an < (aa.length : Int)
   ·rw [if_pos ee] at H
    have l9 := decide_eq_true ee
    clear ee
    obtain ⟨aa4, hy144⟩ : ∃ y_ : List Int, y_ = (([] : List Int)) := ⟨_, rfl⟩
    replace H : (if 0 ≤ an then (if aa4.length + (rd_L1 aa an).length < 17592186044416 then (if qo.length < 5864062014805 then (spec_l2Copy.l0 k1 (wrap64 (an + 1)) ab aa ji (qo ++ [(aa4 ++ (rd_L1 aa an))])) else (none)) else (none)) else (none)) = some (r1, r2) := by first | (rw [hy144]; with_reducible exact H) | (have H2_ := (Option.bind_some _ _).symm.trans H; rw [hy144]; with_reducible exact H2_) | (have H2_ := (Option.bind_some _ _).symm.trans H; with_reducible exact H2_) | with_reducible exact H | (rw [hy144]; exact H) | exact H
    have cq2 := Aside0.mk hy144
    clear hy144
    obtain ⟨f7, H⟩ := pos_ H
    have xb := decide_eq_true f7
    clear f7
    obtain ⟨fa, H⟩ := pos_ H
    have bw6 := Aside0.mk fa
    clear fa
    obtain ⟨aq4, hy148⟩ : ∃ y_ : List Int, y_ = (aa4 ++ (rd_L1 aa an)) := ⟨_, rfl⟩
    replace H : (if qo.length < 5864062014805 then (spec_l2Copy.l0 k1 (wrap64 (an + 1)) ab aa ji (qo ++ [aq4])) else (none)) = some (r1, r2) := by first | (rw [hy148]; with_reducible exact H) | (have H2_ := (Option.bind_some _ _).symm.trans H; rw [hy148]; with_reducible exact H2_) | (have H2_ := (Option.bind_some _ _).symm.trans H; with_reducible exact H2_) | with_reducible exact H | (rw [hy148]; exact H) | exact H
    have ea1 := Aside0.mk hy148
    clear hy148
    obtain ⟨fu, H⟩ := pos_ H
    have ea2 := Aside0.mk fu
    clear fu
    obtain ⟨aq5, hy151⟩ : ∃ y_ : List (List Int), y_ = (qo ++ [aq4]) := ⟨_, rfl⟩
    replace H : (spec_l2Copy.l0 k1 (wrap64 (an + 1)) ab aa ji aq5) = some (r1, r2) := by first | (rw [hy151]; with_reducible exact H) | (have H2_ := (Option.bind_some _ _).symm.trans H; rw [hy151]; with_reducible exact H2_) | (have H2_ := (Option.bind_some _ _).symm.trans H; with_reducible exact H2_) | with_reducible exact H | (rw [hy151]; exact H) | exact H
    have ea3 := Aside0.mk hy151
    clear hy151
    have H' := Aside0.mk H
    clear H
    have bf1 := bw1.out
    have bf2 := bw2.out
    have aq6 := aa5.out
    have aq7 := bf0.out
    obtain ⟨rx, ry, tk, rz⟩ := blk2_ e9
    try go_wp2
    replace ol := Aside0.mk (Kd.R_drew ol.out)
    replace mb := Aside0.mk (Kd.S_drew mb.out)
    replace e9 := Aside0.mk (blk_drew e9.out)
    replace ik := Aside0.mk (blk_drew ik.out)
    replace gp := Aside0.mk (blk_drew gp.out)
    replace HB := Aside0.mk (below_drew1 HB.out)
    have bw7 : 0 ≤ (an : Int) := of_decide_eq_true (g0_)
    have bw8 : an < (aa.length : Int) := of_decide_eq_true (g0_)
    obtain ⟨bf3, ea4, ea5, ea6, bf4, cq3, cq4⟩ := at_L1 cq.out an bw7 bw8
    have ah9 := bf4
    cases ea6
    replace bf4 := cl_ HB bf4
    have cq5 := Aside0.mk cq4
    have fq1 := Aside0.mk cq3
    clear cq4 cq3
    replace bw7 := eq_true bw7
    replace bw8 := eq_true bw8
    refine start_ (n := 13) (S := fun w' => w'.cell? ⟨m4, 0, none⟩ = some (.slice gd ji.length gf) ∧ w'.cell? ⟨m4, 1, none⟩ = some (r0) ∧ w'.cell? ⟨m3, 0, none⟩ = some (.slice ag ab.length ae) ∧ w'.cell? ⟨m3, 1, none⟩ = some (.slice (some bf3) aa.length af) ∧ w'.cell? (bf3.add (an).toNat) = some (.slice ea4 (rd_L1 aa an).length ea5)) (ds := [12]) (tl_ 13 0) (g1_) rfl (g1_) ⟨(blk_cell gp.out 0).trans rfl, (blk_cell gp.out 1).trans rfl, (blk_cell e9.out 0).trans rfl, (blk_cell e9.out 1).trans rfl, ((cl_ HB ah9).trans rfl)⟩ (fun hHeld => ?_); refine with_tabW spec_l2Copy.tab5 spec_l2Copy.bits5 (fun HT_ HW_ => ?_)
    generalize wr.drew = qp at ol mb e9 ik gp HB cq5 bf4 hHeld ⊢
    refine pw_ 0 17 (tl_ 13 1) rfl rfl ?_
    refine pw_ 3 20 (tl_ 13 9) rfl rfl ?_
    refine pw_ 5 22 (tl_ 13 41) rfl rfl ?_
    refine tk4_ 1 18 (tl_ 13 43) rfl rfl hHeld ?_
    refine tk4_ 4 21 (tl_ 13 59) rfl rfl hHeld ?_
    refine pw_ 6 23 (tl_ 13 123) rfl rfl ?_
    refine tk4_ 7 24 (tl_ 13 251) rfl rfl hHeld ?_
    refine one_ (i := 2) (N := some 19) (tl_ 13 255) rfl rfl (one_of HT_.out (g1_)) (by decide) (fun K hK => ?_)
    refine Kd.R_lit_step (Kd.int .i64) _ 3 ?hg (N := 19) ?hd (xs := ([] : List Int)) (inner := []) (ok := fun _ => True) (okp := fun _ => True) ?hr ?hp (fun _ hk => hk) trivial (Below.refl _ _) (Nat.le_refl _) (by simp) ?_; (case hd => rfl); (case hg => rfl); (case hr => first | (go_simp; done) | (go_simp; rfl)); (case hp => exact (Reps.none _ _))
    intro ea7 w23 aa6 hb hg_ hnew_
    clear hg_ hnew_
    (first | rw [← cq2.out] at aa6 | (simp only [Int.reduceToNat] at aa6; rw [← cq2.out] at aa6))
    replace mb := Aside0.mk (Kd.S_elder' (uf3_ mb) (Kd.R_base aa6) hb)
    have aq8 := Aside0.mk (Kd.R_lower (Kd.R_new' aa6 (Kd.R_lt (uf2_ ol))) (below_size (mz)))
    replace ol := Aside0.mk (Kd.R_elder' (uf2_ ol) (Kd.R_base aa6) hb)
    replace e9 := bb_ e9 hb
    replace ik := bb_ ik hb
    replace gp := bb_ gp hb
    replace HB := Aside0.mk (below_step (mz) hb)
    clear hb aa6
    refine hK.out _ _ ⟨(blk_cell gp.out 0).trans rfl, (blk_cell gp.out 1).trans rfl, (blk_cell e9.out 0).trans rfl, (blk_cell e9.out 1).trans rfl, ((cl_ HB ah9).trans rfl)⟩ (fun hHeld => ?_)
    clear hK K
    refine nm_ ?_
    refine one_ (i := 8) (N := some 25) (tl_ 13 511) rfl rfl (one_of HT_.out (g1_)) (by decide) (fun K hK => ?_)
    refine Kd.R_append_rows_step (Kd.int .i64) (w0 := w) w.heap.size (by rfl) (.tmp 19) (.tmp 24) 22 3 (.int .i64 0) 8 rfl Try.underlying22 info3 rfl (by decide) (by omega) ea7 aa4 (rd_L1 aa an) _ _ _ (fun k_ => some k_ ≠ (.slice gd ji.length gf : Value).ownBlock) (fun _ => False) rfl rfl ?aO ?aR (fun _ _ h => h) (fun _ h => h.elim) ?aF ?aB ?aS ?aL ?_
    (case aR => exact uf1_ cq5)
    (case aB => exact (mz))
    (case aF => exact (fun k_ hk => Kd.fresh' (Kd.R_lt (uf2_ ol)) k_ hk))
    (case aO => exact (by (with_reducible repeat (first | apply Kd.R_alloc | apply Kd.R_drewN | apply Kd.R_drew)); exact Kd.R_mono aq8.out (fun _ hk => hk.2)))
    (case aS => exact (below_size (mz)))
    (case aL => have := bw6.out; omega)
    intro fq2 kl ho hb hg hat
    rw [← ea1.out] at ho
    replace ol := Aside0.mk (Kd.R_after (ok := (fun _ => True)) (uf2_ ol) hg hat)
    replace mb := Aside0.mk (Kd.S_after (ok := (fun k_ => some k_ ≠ (.slice gd ji.length gf : Value).ownBlock)) (uf3_ mb) hg hat)
    replace e9 := Aside0.mk (blk_grown (g := m3) (o := .cells #[.slice ag ab.length ae, .slice (some bf3) aa.length af] 25 (0, 0)) (uf0_ e9) hg (Kd.R_ne aq8.out e9.out (by decide)))
    replace ik := Aside0.mk (blk_grown (g := ma) (o := .cells #[.slice none 0 0, .slice none 0 0] 25 (0, 0)) (uf0_ ik) hg (Kd.R_ne aq8.out ik.out (by decide)))
    replace gp := Aside0.mk (blk_grown (g := m4) (o := .cells #[.slice gd ji.length gf, r0] 25 (0, 0)) (uf0_ gp) hg (Kd.R_ne aq8.out gp.out (by decide)))
    replace HB := Aside0.mk (hb)
    have bf5 := Aside0.mk (ho)
    clear aq8
    clear ho hb hg hat
    obtain ⟨cq6, cq7, cq8⟩ := Kd.R_slice bf5.out
    (first | subst cq8 | (injection cq8 with f1_ f2_ f3_; have f4_ := f1_.symm; have f5_ := f3_.symm; clear f1_ f2_ f3_; subst f4_; subst f5_))
    refine hK.out _ _ ⟨(blk_cell gp.out 0).trans rfl, (blk_cell gp.out 1).trans rfl, (blk_cell e9.out 0).trans rfl, (blk_cell e9.out 1).trans rfl, ((cl_ HB ah9).trans rfl)⟩ (fun hHeld => ?_)
    clear hK K
    refine nm_ ?_
    refine one_ (i := 9) (N := some 26) (tl_ 13 1023) rfl rfl (one_of HT_.out (g1_)) (by decide) (fun K hK => ?_)
    refine value_ (w1 := ?_) (v := ?_) (by rfl) rfl ?_ ?_
    rotate_left 2
    ·go_simp
     constructor
     ·rfl
     ·rfl
    refine hK.out _ _ ⟨(blk_cell (blk_alloc gp.out _) 0).trans rfl, (blk_cell (blk_alloc gp.out _) 1).trans rfl, (blk_cell (blk_alloc e9.out _) 0).trans rfl, (blk_cell (blk_alloc e9.out _) 1).trans rfl, (World.cell?_alloc_lt _ _ _ (World.block_lt_of_cell? _ _ (((cl_ HB ah9).trans rfl)))).trans (((cl_ HB ah9).trans rfl))⟩ (fun hHeld => ?_)
    clear hK K
    refine nm_ ?_
    refine one_ (i := 10) (N := some 27) (tl_ 13 2047) rfl rfl (one_of HT_.out (g1_)) (by decide) (fun K hK => ?_)
    refine Kd.S_append_step (Kd.slice 3 (Kd.int .i64)) (w0 := w) w.heap.size (by rfl) (.tmp 18) (.tmp 26) 23 22 (.slice none 0 0) 24 rfl Try.underlying23 info22 rfl (by decide) (by omega) r0 qo aq4 [.slice cq6 aq4.length cq7] (fun k_ => some k_ ≠ (.slice gd ji.length gf : Value).ownBlock) (fun k_ => some k_ = (.slice cq6 aq4.length cq7 : Value).ownBlock) rfl rfl ?aP (fun k_ hk_ => ((Kd.R_mono (ok' := fun k_ => ((fun k_ => some k_ ≠ (.slice gd ji.length gf : Value).ownBlock)) k_ ∧ some k_ ≠ (r0 : Value).ownBlock) (Kd.R_apart' (bf5.out) (Kd.S_typed mb.out) (by decide)) (fun k_ hk => ⟨hk.1, hk.2⟩))).1 k_ hk_.symm) ?aF ?aO ?aB ?aS ?aL ?_
    (case aP => exact Kd.M_row (Kd.R_mono (Kd.R_tight rfl (Kd.R_mono (ok' := fun k_ => ((fun k_ => some k_ ≠ (.slice gd ji.length gf : Value).ownBlock)) k_ ∧ some k_ ≠ (r0 : Value).ownBlock) (Kd.R_apart' (bf5.out) (Kd.S_typed mb.out) (by decide)) (fun k_ hk => ⟨hk.1, hk.2⟩))) (fun _ h_ => h_)))
    (case aB => exact (mz))
    (case aF => exact (fun k_ hk => Kd.fresh' (Kd.R_lt (uf2_ ol)) k_ hk))
    (case aO => exact (by (with_reducible repeat (first | apply Kd.S_alloc | apply Kd.S_drewN | apply Kd.S_drew)); exact Kd.S_mono mb.out (fun k_ hk => ⟨hk.1, fun e_ => hk.2 e_⟩)))
    (case aS => exact (below_size (mz)))
    (case aL => have := ea2.out; omega)
    intro fq3 w26 ho hb hg hat
    rw [← ea3.out] at ho
    replace ol := Aside0.mk (Kd.R_over' (uf2_ ol) (Kd.S_typed (uf3_ mb)) (by decide) hg)
    replace e9 := Aside0.mk (blk_grown (g := m3) (o := .cells #[.slice ag ab.length ae, .slice (some bf3) aa.length af] 25 (0, 0)) (uf0_ e9) hg (Kd.S_ne mb.out e9.out (by decide)))
    replace ik := Aside0.mk (blk_grown (g := ma) (o := .cells #[.slice none 0 0, .slice none 0 0] 25 (0, 0)) (uf0_ ik) hg (Kd.S_ne mb.out ik.out (by decide)))
    replace gp := Aside0.mk (blk_grown (g := m4) (o := .cells #[.slice gd ji.length gf, r0] 25 (0, 0)) (uf0_ gp) hg (Kd.S_ne mb.out gp.out (by decide)))
    replace HB := Aside0.mk (hb)
    have cq9 := Aside0.mk (ho)
    clear mb bf5
    clear ho hb hg hat
    obtain ⟨pg, nv, aa7⟩ := Kd.S_slice cq9.out
    (first | subst aa7 | (injection aa7 with f1_ f2_ f3_; have f4_ := f1_.symm; have f5_ := f3_.symm; clear f1_ f2_ f3_; subst f4_; subst f5_))
    refine hK.out _ _ ⟨(blk_cell gp.out 0).trans rfl, (blk_cell gp.out 1).trans rfl, (blk_cell e9.out 0).trans rfl, (blk_cell e9.out 1).trans rfl, ((cl_ HB ah9).trans rfl)⟩ (fun hHeld => ?_)
    clear hK K
    refine nm_ ?_
    refine pw_ 11 28 (tl_ 13 4095) rfl rfl ?_
    refine last_ (i := 12) (N := none) (tl_ 13 8191) rfl rfl (one_of HT_.out (g1_)) (by decide) (fun K hK => ?_)
    have ea8 : w26.cell? ⟨m4, 1, none⟩ = some (r0) := (blk_cell gp.out 1).trans rfl
    have ea9 := blk_frozen gp.out 1
    have eb0 := aa5.out
    have eb1 := ah8.out
    have eb2 := bf0.out
    have eb3 := bw3.out
    refine skip_ (w1 := ?_) (by rfl) rfl ?_ ?_
    rotate_left
    ·go_simp
     rfl
    refine hK.out _ _ ?_
    clear hK K
    refine done_ (done_of HT_.out (g1_)) ?_
    try go_wp2
    go_roundg k1
    case measure => have := HK1.out; omega
    case rel => exact ⟨(wrap64 (an + 1)), (aq5), (.slice pg aq5.length nv), (g3_), H', ⟨g15_⟩, ⟨by (with_reducible repeat (first | apply Kd.R_alloc | apply Kd.R_drewN | apply Kd.R_drew)); exact Kd.R_mono (Kd.R_far (p := ⟨m4, 1, none⟩) (Kd.R_types ol.out gp.out (by decide)) (fun _ hk => hk.2) (.slice pg aq5.length nv)) (fun _ hk => trivial)⟩, ⟨by (with_reducible repeat (first | apply Kd.S_alloc | apply Kd.S_drewN | apply Kd.S_drew)); exact Kd.S_mono (Kd.S_far (p := ⟨m4, 1, none⟩) (Kd.S_types cq9.out gp.out (by decide)) (fun _ hk => hk.2) (.slice pg aq5.length nv)) (fun _ hk => hk.1)⟩, ⟨by (with_reducible repeat (first | refine blk_drewN ?_ _ | refine blk_drew ?_ | refine blk_alloc ?_ _)); refine blk_far ?_ aa5.out _; exact uf0_ e9⟩, ⟨by (with_reducible repeat (first | refine blk_drewN ?_ _ | refine blk_drew ?_ | refine blk_alloc ?_ _)); refine blk_far ?_ ah8.out _; exact uf0_ ik⟩, ⟨by (with_reducible repeat (first | refine blk_drewN ?_ _ | refine blk_drew ?_ | refine blk_alloc ?_ _)); refine blk_put (cs := #[.slice gd ji.length gf, r0]) ?_ 1 _ rfl; exact uf0_ gp⟩, ⟨mz⟩⟩
   ·rw [if_neg ee] at H
    have l9 := decide_eq_false ee
    clear ee
    simp only [Option.some.injEq, Prod.mk.injEq] at H
    obtain ⟨rfl, rfl⟩ := H
    have cr0 := bw1.out
    have cr1 := bw2.out
    have cr2 := aa5.out
    have cr3 := bf0.out
    obtain ⟨cr4, cr5, cr6, cr7⟩ := blk2_ e9
    have bf6 := bw3.out
    have bf7 := ah8.out
    obtain ⟨eb4, eb5, eb6, eb7⟩ := blk2_ gp
    obtain ⟨ai0, ai1, ai2, ai3⟩ := blk2_ ik
    obtain ⟨hz, gz, aq9⟩ := Kd.S_slice mb.out
    subst aq9
    go_wp2
    refine bodyPost_ret (results_cell_row rfl _ _ ma 25 #[.slice gd ji.length gf, .slice hz qo.length gz] (0, 0) _ rfl (by (with_reducible repeat (first | refine blk_drewN ?_ _ | refine blk_drew ?_ | refine blk_alloc ?_ _)); refine blk_put (cs := #[.slice gd ji.length gf, .slice none 0 0]) ?_ 1 _ rfl; refine blk_put (cs := #[.slice none 0 0, .slice none 0 0]) ?_ 0 _ rfl; exact uf0_ ik) Try.underlying25 rfl (g1_)) rfl ?_
    exact ⟨_, _, g4_, by (with_reducible repeat (first | apply Kd.R_alloc | apply Kd.R_drewN | apply Kd.R_drew)); exact Kd.R_mono (Kd.R_far (p := ⟨ma, 1, none⟩) (Kd.R_far (p := ⟨ma, 0, none⟩) (Kd.R_types ol.out ik.out (by decide)) (fun _ hk => hk.2) (.slice gd ji.length gf)) (fun _ hk => hk.2) (.slice hz qo.length gz)) (fun _ hk => trivial), by (with_reducible repeat (first | apply Kd.S_alloc | apply Kd.S_drewN | apply Kd.S_drew)); exact Kd.S_mono (Kd.S_far (p := ⟨ma, 1, none⟩) (Kd.S_far (p := ⟨ma, 0, none⟩) (Kd.S_types mb.out ik.out (by decide)) (fun _ hk => hk.2) (.slice gd ji.length gf)) (fun _ hk => hk.2) (.slice hz qo.length gz)) (fun _ hk => hk.1), mz⟩
def k25s : Kd S25 where
 sz := k25.sz
 E := k25.E
 K := k25.K
 M := fun w base ok x cs => ∃ v0 v1, cs = [v0, v1] ∧ (Kd.int .i64).R 3 w base ok v0 x.f0 ∧ Kd.S (Kd.slice 3 (Kd.int .i64)) 22 w base (fun k => ok k ∧ some k ≠ v0.ownBlock) v1 x.f1
 K_len := k25.K_len
 K_one := k25.K_one
 K_below := k25.K_below
 K_of_M := fun h => by
  obtain ⟨v0, v1, rfl, h0, h1⟩ := h
  exact k25.K_of_M (k25_mkM _ _ _ _ h0 (Kd.R_mono (Kd.S_R h1) (fun _ hk => hk.1)))
 M_mono := fun hok h => by
  obtain ⟨v0, v1, rfl, h0, h1⟩ := h
  exact ⟨v0, v1, rfl, Kd.R_mono h0 hok, Kd.S_mono h1 (fun _ hk => ⟨hok _ hk.1, hk.2⟩)⟩
 M_bound := fun h => by
  obtain ⟨v0, v1, rfl, h0, h1⟩ := h
  refine ⟨v0, v1, rfl, Kd.R_mono (Kd.R_bound h0) (fun _ hk => ⟨hk.1, hk.2.1, hk.2.2.1, ?_⟩), Kd.S_mono (Kd.S_bound h1) (fun _ hk => ⟨⟨hk.1.1, hk.2.1, hk.2.2.1, ?_⟩, hk.1.2⟩)⟩
  ·obtain ⟨q, hq, c, hc⟩ := hk.2.2.2
   exact ⟨q, (List.mem_cons.1 hq).elim (fun e_ => by rw [e_]; decide) (fun h_ => absurd h_ (by simp [Kd.int, Kd.scalar])), c, hc⟩
  ·obtain ⟨q, hq, c, hc⟩ := hk.2.2.2
   refine ⟨q, ?_, c, hc⟩
   have h2 : q = 22 ∨ q = 3 := by simpa [Kd.slice, Kd.int, Kd.scalar] using hq
   rcases h2 with rfl | rfl <;> decide
 M_move := fun hm h => by
  obtain ⟨v0, v1, rfl, h0, h1⟩ := h
  exact ⟨v0, v1, rfl, Kd.R_move h0 hm, Kd.S_move h1 (fun _ hk => hm _ hk.1)⟩
 M_lower := fun hb h => by
  obtain ⟨v0, v1, rfl, h0, h1⟩ := h
  exact ⟨v0, v1, rfl, Kd.R_lower h0 hb, Kd.S_lower h1 hb⟩
theorem k25s_mkM (w : World) (base : Nat) (ok : Nat → Prop) (x : S25) {v0 : Value} (g0 : (Kd.int .i64).R 3 w base ok v0 x.f0) {v1 : Value} (g1 : Kd.S (Kd.slice 3 (Kd.int .i64)) 22 w base (fun k => ok k ∧ some k ≠ v0.ownBlock) v1 x.f1) : k25s.M w base ok x [v0, v1] := ⟨v0, v1, rfl, g0, g1⟩
theorem k25s_M {w : World} {base : Nat} {ok : Nat → Prop} {x : S25} {cs : List Value} (h : k25s.M w base ok x cs) : k25.M w base ok x cs := by
 obtain ⟨v0, v1, rfl, h0, h1⟩ := h
 exact k25_mkM _ _ _ _ h0 (Kd.R_mono (Kd.S_R h1) (fun _ hk => hk.1))
theorem k25s_R {e : Nat} {w : World} {base : Nat} {ok : Nat → Prop} {v : Value} {xs : List S25} (h : Kd.S k25s e w base ok v xs) : k25.R e w base ok v xs := by
 obtain ⟨h0, inner, ho, hr⟩ := Kd.S_R h
 exact ⟨h0, inner, ho, hr.imp_ (fun _ _ hp => k25s_M hp)⟩
def spec_l9Copy.l0 : Nat → Int → List Int → List (List Int) → List (S25) → List Int → List (List Int) → List (S25) → Option (List Int × (List (List Int)) × (List (S25)))
 | 0, _, _, _, _, _, _, _ => none
 | k + 1, x4, aa8, m5, bf8, cr8, cr9, bw9 => if x4 < (bf8.length : Int) then (if 0 ≤ x4 then ((spec_l2Copy.f k ((rd_T25 bf8 x4).f0) ((rd_T25 bf8 x4).f1)).bind fun bt164 => (if bw9.length < 2932031007402 then (spec_l9Copy.l0 k (wrap64 (x4 + 1)) aa8 m5 bf8 cr8 cr9 (bw9 ++ [(⟨bt164.1, bt164.2⟩ : S25)])) else (none))) else (none)) else (some (cr8, cr9, bw9))
def spec_l9Copy.f (k : Nat) (ab : List Int) (aa : List (List Int)) (ak : List (S25)) : Option (List Int × (List (List Int)) × (List (S25))) := (spec_l2Copy.f k ab aa).bind fun bt156 => (spec_l9Copy.l0 k 0 ab aa ak bt156.1 bt156.2 ([] : List (S25)))
theorem spec_l9Copy.mq {p : Prop} (h : p := by
 repeat' first
 | (with_reducible exact ih0 _ _ _ _ _ _ _)
 | (with_reducible exact spec_l2Copy.mono _ _ _)
 | (with_reducible exact LeO.refl _)
 | (with_reducible exact LeO.none _)
 | (with_reducible refine LeO.ite ?_ ?_)
 | (with_reducible refine LeO.bind ?_ (fun _ => ?_))
 | exact ih0 _ _ _ _ _ _ _
 | exact spec_l2Copy.mono _ _ _
 | exact LeO.none _
 | refine LeO.ite ?_ ?_
 | refine LeO.bind ?_ (fun _ => ?_)) : p := h
theorem spec_l9Copy.mono_l : ∀ k, (∀ y0 y1 y2 y3 y4 y5 y6, LeO (spec_l9Copy.l0 k y0 y1 y2 y3 y4 y5 y6) (spec_l9Copy.l0 (k + 1) y0 y1 y2 y3 y4 y5 y6))
 | 0 => fun _ _ _ _ _ _ _ r h => by simp [spec_l9Copy.l0] at h
 | k + 1 => by
  have ih0 := spec_l9Copy.mono_l k
  ·intro y0 y1 y2 y3 y4 y5 y6
   unfold spec_l9Copy.l0
   exact spec_l9Copy.mq
theorem spec_l9Copy.mono : ∀ a0 a1 a2 k, LeO (spec_l9Copy.f k a0 a1 a2) (spec_l9Copy.f (k + 1) a0 a1 a2) := by
 intro a0 a1 a2 k
 have ih0 := spec_l9Copy.mono_l k
 unfold spec_l9Copy.f
 exact spec_l9Copy.mq
def spec_l9Copy.T5 : Bool × List (List Nat × List Nat) := (true, [([], []), ([0], [0]), ([], []), ([2], [2]), ([], []), ([3, 4], [3, 4]), ([5], [5]), ([6], [6]), ([7], [7]), ([1, 8, 7], [1, 8]), ([0, 1, 2, 3, 4, 5, 6, 7, 8, 9], []), ([10, 9, 9, 0, 1, 2, 3, 4, 5, 6, 7, 8, 9], [9, 10])])
def spec_l9Copy.B5 : List Nat := [0, 1, 0, 4, 0, 28, 60, 124, 252, 511, 1023, 2047]
theorem spec_l9Copy.tab5 : rtab .any (opsOf Try.f100 5) = spec_l9Copy.T5 := by kernel_rfl
theorem spec_l9Copy.bits5 : waitsOk spec_l9Copy.T5.2 spec_l9Copy.B5 = true := by kernel_rfl
theorem spec_l9Copy.calls_s_q0 {p : Prop} (h : p := by repeat (first | (with_reducible first | exact HB.out | apply below_alloc | apply pw_below_drewN | apply below_drew1 | refine below_set ?_ bf9.out | refine below_set ?_ bg0.out | refine below_set ?_ eb8.out) | exact HB.out)) : p := h
set_option maxHeartbeats 8000000 in
set_option maxRecDepth 100000 in
theorem spec_l9Copy.calls_s (k : Nat) (ag : Option Addr) (ae : Nat) (ab : List Int) (ah : Option Addr) (af : Nat) (aa : List (List Int)) (di : Option Addr) (db : Nat) (ak : List (S25)) (r1 : List Int) (r2 : List (List Int)) (r3 : List (S25)) (w : World) (dx : Kd.C (Kd.int .i64) w ag ab.length ab) (dy : ab.length ≤ ae) (dz : Kd.C (Kd.slice 3 (Kd.int .i64)) w ah aa.length aa) (d2 : aa.length ≤ af) (k5 : Kd.C k25 w di ak.length ak) (k6 : ak.length ≤ db) (h : spec_l9Copy.f k ab aa ak = some (r1, r2, r3)) :
  Calls Try.prog 100 #[.agg #[.slice ag ab.length ae, .slice ah aa.length af, .slice di ak.length db]] w fun e w' => ∃ v0_ v1_ v2_ : Value, e = .returned (.agg #[v0_, v1_, v2_]) ∧ Kd.R (Kd.int .i64) 3 w' w.heap.size (fun _ => True) v0_ r1 ∧ Kd.S (Kd.slice 3 (Kd.int .i64)) 22 w' w.heap.size (fun k_ => some k_ ≠ (v0_ : Value).ownBlock) v1_ r2 ∧ Kd.S k25s 25 w' w.heap.size (fun k_ => some k_ ≠ (v0_ : Value).ownBlock ∧ some k_ ≠ (v1_ : Value).ownBlock) v2_ r3 ∧ Below w.heap.size w w' := by
 have hu28 := Try.underlying28
 have hu25 := Try.underlying25
 have dd := Aside0.mk dx
 have d6 := Aside0.mk dy
 clear dx dy
 have cq := Aside0.mk dz
 have d7 := Aside0.mk d2
 clear dz d2
 have m0 := Aside0.mk k5
 have tb := Aside0.mk k6
 clear k5 k6
 have HB := Aside0.mk (Below.refl w.heap.size w)
 have H : ((spec_l2Copy.f k ab aa).bind fun bt156 => (spec_l9Copy.l0 k 0 ab aa ak bt156.1 bt156.2 ([] : List (S25)))) = some (r1, r2, r3) := h
 clear h
 replace H := Option.bind_eq_some_iff.mp H
 obtain ⟨⟨gq, jy⟩, ux, H⟩ := H
 try dsimp only at H
 have A2 := Aside0.mk ux
 clear ux
 have H' := Aside0.mk H
 clear H
 go_enter Try.func100, Try.ntmps100
 go_wp2_with (first | ((with_reducible refine gate_dst (N := 1) rfl ?_); refine bx_ (N := 1) #[.slice ag ab.length ae, .slice ah aa.length af, .slice di ak.length db] 28 ?_; intro ff hg w3 hbox hb; have b7 := Aside0.mk (hbox); have cs0 := Aside0.mk ((g39_ : w.heap.size ≤ ff)); have bf9 := Aside0.mk ((g39_ : w.heap.size ≤ ff)); replace HB := Aside0.mk (below_step (spec_l9Copy.calls_s_q0) hb); clear hb hbox hg) | ((with_reducible refine gate_dst (N := 2) rfl ?_); refine bx_ (N := 2) #[.slice none 0 0, .slice none 0 0, .slice none 0 0] 28 ?_; intro ez hg w4 hbox hb; have dj := Aside0.mk (hbox); have cs1 := Aside0.mk ((g39_ : w.heap.size ≤ ez)); have bg0 := Aside0.mk ((g39_ : w.heap.size ≤ ez)); replace HB := Aside0.mk (below_step (spec_l9Copy.calls_s_q0) hb); have uy := Aside0.mk ((by rw [hg]; exact Nat.ne_of_lt (blk_lt (g := ff) (o := .cells #[.slice ag ab.length ae, .slice ah aa.length af, .slice di ak.length db] 28 (0, 0)) (uf0_ b7)) : ff ≠ ez)); have uz := Aside0.mk ((by rw [hg]; exact Nat.ne_of_gt (blk_lt (g := ff) (o := .cells #[.slice ag ab.length ae, .slice ah aa.length af, .slice di ak.length db] 28 (0, 0)) (uf0_ b7)) : ez ≠ ff)); replace b7 := bb_ b7 hb; clear hb hbox hg; have fq4 := uy.out; have fq5 := uz.out; obtain ⟨ag5, ag6, eb9, bd7, ag7, ec0⟩ := blk3_ b7) | ((with_reducible refine gate_callee (f := 80) rfl ?_); refine goesL_ (some 7) rfl rfl Try.func80 k_ rfl #[.agg #[.slice ag ab.length ae, .slice ah aa.length af]] rfl (g2_) ?_; (with_reducible refine (spec_l2Copy.calls k _ _ ab _ _ aa gq jy _ ?side1 ?side2 ?side3 ?side4 A2.out).mono ?_); (case side1 => exact uf1_ dd); (case side2 => exact d6.out); (case side3 => exact uf1_ cq); (case side4 => exact d7.out); rintro e w7 ⟨fq6, fq7, rfl, am, ba, hb⟩; refine ⟨_, rfl, ?_⟩; have bg1 := Aside0.mk (Kd.R_lower am (below_size (spec_l9Copy.calls_s_q0))); have bg2 := Aside0.mk (Kd.S_lower ba (below_size (spec_l9Copy.calls_s_q0))); replace b7 := bb_ b7 hb; replace dj := bb_ dj hb; replace HB := Aside0.mk (below_step (spec_l9Copy.calls_s_q0) hb); (try clear hb); (try clear hk hi); (try clear am); (try clear ba); obtain ⟨i4, i5, eo8⟩ := Kd.S_slice bg2.out; subst eo8; obtain ⟨fp, fl, eo9⟩ := Kd.R_slice bg1.out; subst eo9) | ((with_reducible refine gate_dst (N := 3) rfl ?_); refine bx_ (N := 3) #[.slice none 0 0, .slice none 0 0, .slice none 0 0] 28 ?_; intro km hg w10 hbox hb; replace bg1 := Aside0.mk (Kd.R_below (uf2_ bg1) hb); replace bg2 := Aside0.mk (Kd.S_below (uf3_ bg2) hb); have gg := Aside0.mk (hbox); have fq8 := Aside0.mk ((g39_ : w.heap.size ≤ km)); have eb8 := Aside0.mk ((g39_ : w.heap.size ≤ km)); replace HB := Aside0.mk (below_step (spec_l9Copy.calls_s_q0) hb); have xz := Aside0.mk ((by rw [hg]; exact Nat.ne_of_lt (blk_lt (g := ff) (o := .cells #[.slice ag ab.length ae, .slice ah aa.length af, .slice di ak.length db] 28 (0, 0)) (uf0_ b7)) : ff ≠ km)); have bg3 := Aside0.mk ((by rw [hg]; exact Nat.ne_of_gt (blk_lt (g := ff) (o := .cells #[.slice ag ab.length ae, .slice ah aa.length af, .slice di ak.length db] 28 (0, 0)) (uf0_ b7)) : km ≠ ff)); replace b7 := bb_ b7 hb; have aa9 := Aside0.mk ((by rw [hg]; exact Nat.ne_of_lt (blk_lt (g := ez) (o := .cells #[.slice none 0 0, .slice none 0 0, .slice none 0 0] 28 (0, 0)) (uf0_ dj)) : ez ≠ km)); have bx0 := Aside0.mk ((by rw [hg]; exact Nat.ne_of_gt (blk_lt (g := ez) (o := .cells #[.slice none 0 0, .slice none 0 0, .slice none 0 0] 28 (0, 0)) (uf0_ dj)) : km ≠ ez)); replace dj := bb_ dj hb; clear hb hbox hg; have ar0 := bg3.out; have ar1 := xz.out; have bw4 := bx0.out; have bw5 := aa9.out; obtain ⟨qq, qr, cs2, qs, qt, cs3⟩ := blk3_ gg))
 go_loopg [4] k (fun kq v4 w' => ∃ (an : Int) (u2 : List (S25)) (r6 : Value), v4 = .int .i64 an ∧ Aside0 (spec_l9Copy.l0 kq an ab aa ak gq jy u2 = some (r1, r2, r3)) ∧ Aside0 (kq ≤ k) ∧ Aside0 (Kd.R (Kd.int .i64) 3 w' w.heap.size (fun _ => True) (.slice fp gq.length fl) gq) ∧ Aside0 (Kd.S (Kd.slice 3 (Kd.int .i64)) 22 w' w.heap.size (fun k_ => some k_ ≠ ((.slice fp gq.length fl) : Value).ownBlock) (.slice i4 jy.length i5) jy) ∧ Aside0 (Kd.S k25s 25 w' w.heap.size (fun k_ => some k_ ≠ ((.slice fp gq.length fl) : Value).ownBlock ∧ some k_ ≠ ((.slice i4 jy.length i5) : Value).ownBlock) r6 u2) ∧ Aside0 (w'.heap[ff]? = some (.cells #[(.slice ag ab.length ae), (.slice ah aa.length af), (.slice di ak.length db)] 28 (0, 0))) ∧ Aside0 (w'.heap[ez]? = some (.cells #[(.slice none 0 0), (.slice none 0 0), (.slice none 0 0)] 28 (0, 0))) ∧ Aside0 (w'.heap[km]? = some (.cells #[(.slice fp gq.length fl), (.slice i4 jy.length i5), r6] 28 (0, 0))) ∧ Aside0 (Below w.heap.size w w'))
 case atStart => exact ⟨(0), (([] : List (S25))), (.slice none 0 0), (g3_), H', ⟨Nat.le_refl _⟩, ⟨by (with_reducible repeat (first | apply Kd.R_alloc | apply Kd.R_drewN | apply Kd.R_drew)); exact Kd.R_mono (Kd.R_far (p := ⟨km, 2, none⟩) (Kd.R_far (p := ⟨km, 1, none⟩) (Kd.R_far (p := ⟨km, 0, none⟩) (Kd.R_types bg1.out gg.out (by decide)) (fun _ hk => hk.2) (.slice fp gq.length fl)) (fun _ hk => hk.2) (.slice i4 jy.length i5)) (fun _ hk => hk.2) (.slice none 0 0)) (fun _ hk => trivial)⟩, ⟨by (with_reducible repeat (first | apply Kd.S_alloc | apply Kd.S_drewN | apply Kd.S_drew)); exact Kd.S_mono (Kd.S_far (p := ⟨km, 2, none⟩) (Kd.S_far (p := ⟨km, 1, none⟩) (Kd.S_far (p := ⟨km, 0, none⟩) (Kd.S_types bg2.out gg.out (by decide)) (fun _ hk => hk.2) (.slice fp gq.length fl)) (fun _ hk => hk.2) (.slice i4 jy.length i5)) (fun _ hk => hk.2) (.slice none 0 0)) (fun _ hk => hk.1)⟩, ⟨g16_⟩, ⟨by (with_reducible repeat (first | refine blk_drewN ?_ _ | refine blk_drew ?_ | refine blk_alloc ?_ _)); refine blk_far ?_ xz.out _; refine blk_far ?_ xz.out _; refine blk_far ?_ xz.out _; exact uf0_ b7⟩, ⟨by (with_reducible repeat (first | refine blk_drewN ?_ _ | refine blk_drew ?_ | refine blk_alloc ?_ _)); refine blk_far ?_ aa9.out _; refine blk_far ?_ aa9.out _; refine blk_far ?_ aa9.out _; exact uf0_ dj⟩, ⟨by (with_reducible repeat (first | refine blk_drewN ?_ _ | refine blk_drew ?_ | refine blk_alloc ?_ _)); refine blk_put (cs := #[.slice fp gq.length fl, .slice i4 jy.length i5, .slice none 0 0]) ?_ 2 _ rfl; refine blk_put (cs := #[.slice fp gq.length fl, .slice none 0 0, .slice none 0 0]) ?_ 1 _ rfl; refine blk_put (cs := #[.slice none 0 0, .slice none 0 0, .slice none 0 0]) ?_ 0 _ rfl; exact uf0_ gg⟩, ⟨spec_l9Copy.calls_s_q0⟩⟩
 case round =>
  clear H'
  try clear c1
  try clear p2
  try clear c5
  try clear c8
  try clear fv
  try clear kn
  try clear hx
  try clear qq
  try clear qr
  try clear cs2
  try clear ag5
  try clear ag6
  try clear eb9
  try clear qs
  try clear qt
  try clear cs3
  try clear bd7
  try clear ag7
  try clear ec0
  obtain ⟨an, u2, r6, rfl, HA, HK1, om, ph, m6, b7, dj, gg, HB⟩ := hrel
  cases gk with
  | zero => exact absurd HA.out (by simp [spec_l9Copy.l0])
  | succ k1 =>
   have H := HA.out
   clear HA
   simp only [spec_l9Copy.l0] at H
   by_cases e3 : an < (ak.length : Int)
   ·rw [if_pos e3] at H
    have oo := decide_eq_true e3
    clear e3
    obtain ⟨ee, H⟩ := pos_ H
    have l9 := decide_eq_true ee
    clear ee
    replace H := Option.bind_eq_some_iff.mp H
    obtain ⟨⟨ar2, ar3⟩, ar4, H⟩ := H
    try dsimp only at H
    have ya := Aside0.mk ar4
    clear ar4
    obtain ⟨fa, H⟩ := pos_ H
    have bw6 := Aside0.mk fa
    clear fa
    obtain ⟨ai4, hy170⟩ : ∃ y_ : List (S25), y_ = (u2 ++ [(⟨ar2, ar3⟩ : S25)]) := ⟨_, rfl⟩
    replace H : (spec_l9Copy.l0 k1 (wrap64 (an + 1)) ab aa ak gq jy ai4) = some (r1, r2, r3) := by first | (rw [hy170]; with_reducible exact H) | (have H2_ := (Option.bind_some _ _).symm.trans H; rw [hy170]; with_reducible exact H2_) | (have H2_ := (Option.bind_some _ _).symm.trans H; with_reducible exact H2_) | with_reducible exact H | (rw [hy170]; exact H) | exact H
    have ec1 := Aside0.mk hy170
    clear hy170
    have H' := Aside0.mk H
    clear H
    have cs4 := uy.out
    have cs5 := uz.out
    have bf1 := xz.out
    have bf2 := bg3.out
    obtain ⟨bg4, bg5, fq9, bg6, bg7, fr0⟩ := blk3_ b7
    try go_wp2
    replace om := Aside0.mk (Kd.R_drew om.out)
    replace ph := Aside0.mk (Kd.S_drew ph.out)
    replace m6 := Aside0.mk (Kd.S_drew m6.out)
    replace b7 := Aside0.mk (blk_drew b7.out)
    replace dj := Aside0.mk (blk_drew dj.out)
    replace gg := Aside0.mk (blk_drew gg.out)
    replace HB := Aside0.mk (below_drew1 HB.out)
    have bx1 : 0 ≤ (an : Int) := of_decide_eq_true (g0_)
    have bx2 : an < (ak.length : Int) := of_decide_eq_true (g0_)
    obtain ⟨ar5, cs6, cs7, cs8, cs9, ec2, bg8, bg9, ct0, ct1, ct2, ct3⟩ := at_T25 m0.out an bx1 bx2
    have ar6 := bg9
    have ar7 := bg8
    cases ec2
    replace bg8 := cl_ HB bg8
    replace bg9 := cl_ HB bg9
    have ct4 := Aside0.mk ct1
    have ec3 := Aside0.mk ct0
    clear ct1 ct0
    have ct5 := Aside0.mk ct3
    have ec4 := Aside0.mk ct2
    clear ct3 ct2
    replace bx1 := eq_true bx1
    replace bx2 := eq_true bx2
    refine start_ (n := 12) (S := fun w' => w'.cell? ⟨km, 0, none⟩ = some (.slice fp gq.length fl) ∧ w'.cell? ⟨km, 1, none⟩ = some (.slice i4 jy.length i5) ∧ w'.cell? ⟨km, 2, none⟩ = some (r6) ∧ w'.cell? ⟨ff, 0, none⟩ = some (.slice ag ab.length ae) ∧ w'.cell? ⟨ff, 1, none⟩ = some (.slice ah aa.length af) ∧ w'.cell? ⟨ff, 2, none⟩ = some (.slice (some ar5) ak.length db) ∧ w'.cell? (ar5.add ((an).toNat * 2)) = some (.slice cs6 ((rd_T25 ak an).f0).length cs7) ∧ w'.cell? ⟨(ar5.add ((an).toNat * 2)).block, (ar5.add ((an).toNat * 2)).off + 1, none⟩ = some (.slice cs8 ((rd_T25 ak an).f1).length cs9)) (ds := [11]) (tl_ 12 0) (g1_) rfl (g1_) ⟨(blk_cell gg.out 0).trans rfl, (blk_cell gg.out 1).trans rfl, (blk_cell gg.out 2).trans rfl, (blk_cell b7.out 0).trans rfl, (blk_cell b7.out 1).trans rfl, (blk_cell b7.out 2).trans rfl, ((cl_ HB ar7).trans rfl), ((cl_ HB ar6).trans rfl)⟩ (fun hHeld => ?_); refine with_tabW spec_l9Copy.tab5 spec_l9Copy.bits5 (fun HT_ HW_ => ?_)
    generalize wr.drew = f9 at om ph m6 b7 dj gg HB ct4 ct5 bg8 bg9 hHeld ⊢
    refine pw_ 0 16 (tl_ 12 1) rfl rfl ?_
    refine pw_ 2 18 (tl_ 12 5) rfl rfl ?_
    refine pw_ 4 20 (tl_ 12 21) rfl rfl ?_
    refine tk5_ 1 17 (tl_ 12 23) rfl rfl hHeld ?_
    refine tk5_ 3 19 (tl_ 12 31) rfl rfl hHeld ?_
    refine pw_ 5 21 (tl_ 12 63) rfl rfl ?_
    refine tk5_ 6 22 (tl_ 12 127) rfl rfl hHeld ?_
    refine one_ (i := 7) (N := some 23) (tl_ 12 255) rfl rfl (one_of HT_.out (g1_)) (by decide) (fun K hK => ?_)
    refine goes_ Try.func80 (g1_) rfl #[.agg #[.slice cs6 ((rd_T25 ak an).f0).length cs7, .slice cs8 ((rd_T25 ak an).f1).length cs9]] (by rfl) rfl rfl (g2_) ?_
    with_reducible refine (spec_l2Copy.calls k1 _ _ ((rd_T25 ak an).f0) _ _ ((rd_T25 ak an).f1) ar2 ar3 _ ?side1 ?side2 ?side3 ?side4 ya.out).mono ?_
    (case side1 => exact uf1_ ct4)
    (case side2 => exact ec3.out)
    (case side3 => exact uf1_ ct5)
    (case side4 => exact ec4.out)
    rintro e qp ⟨ct6, ec5, rfl, am, ba, hb⟩
    refine ⟨_, rfl, ?_⟩
    have HP1 : Aside0 (Kd.R (Kd.int .i64) 3 qp w.heap.size (fun k_ => f9.heap.size ≤ k_ ∧ (fun k_ => some k_ ≠ (.slice fp gq.length fl : Value).ownBlock ∧ some k_ ≠ (.slice i4 jy.length i5 : Value).ownBlock) k_ ∧ some k_ ≠ (r6 : Value).ownBlock) ct6 _) := Aside0.mk (Kd.R_lower (Kd.R_mono (Kd.R_bound am) (fun _ hk => ⟨hk.2.1, ⟨Kd.fresh' (Kd.R_lt om.out) _ hk.2.1, Kd.fresh' (Kd.S_lt ph.out) _ hk.2.1⟩, Kd.fresh' (Kd.S_lt m6.out) _ hk.2.1⟩)) (below_size (spec_l9Copy.calls_s_q0)))
    have HP2 : Aside0 (Kd.S (Kd.slice 3 (Kd.int .i64)) 22 qp w.heap.size (fun k_ => (fun k_ => f9.heap.size ≤ k_ ∧ (fun k_ => some k_ ≠ (.slice fp gq.length fl : Value).ownBlock ∧ some k_ ≠ (.slice i4 jy.length i5 : Value).ownBlock) k_ ∧ some k_ ≠ (r6 : Value).ownBlock) k_ ∧ some k_ ≠ (ct6 : Value).ownBlock) ec5 _) := Aside0.mk (Kd.S_lower (Kd.S_mono (Kd.S_bound ba) (fun _ hk => ⟨⟨hk.2.1, ⟨Kd.fresh' (Kd.R_lt om.out) _ hk.2.1, Kd.fresh' (Kd.S_lt ph.out) _ hk.2.1⟩, Kd.fresh' (Kd.S_lt m6.out) _ hk.2.1⟩, hk.1⟩)) (below_size (spec_l9Copy.calls_s_q0)))
    have HP3 := Aside0.mk (Kd.S_old (uf3_ m6) hb)
    replace m6 := Aside0.mk (Kd.S_mono (Kd.S_told (Kd.S_told (Kd.S_old (uf3_ m6) hb) (Kd.R_base am)) (Kd.S_base ba)) (fun _ h_ => h_.1))
    have ct7 := Aside0.mk (Kd.R_lower (Kd.R_new' am (Kd.R_lt (uf2_ om))) (below_size (spec_l9Copy.calls_s_q0)))
    have ct8 := Aside0.mk (Kd.S_lower (Kd.S_new' (Kd.S_new' ba (Kd.R_lt (uf2_ om))) (Kd.S_lt (uf3_ ph))) (below_size (spec_l9Copy.calls_s_q0)))
    replace om := Aside0.mk (Kd.R_elder' (uf2_ om) (Kd.R_base am) hb)
    replace ph := Aside0.mk (Kd.S_mono (Kd.S_told (Kd.S_told (Kd.S_old (uf3_ ph) hb) (Kd.R_base am)) (Kd.S_base ba)) (fun _ h_ => h_.1))
    replace b7 := bb_ b7 hb
    replace dj := bb_ dj hb
    replace gg := bb_ gg hb
    replace HB := Aside0.mk (below_step (spec_l9Copy.calls_s_q0) hb)
    (try clear hb)
    (try clear hk hi)
    (try clear am)
    (try clear ba)
    obtain ⟨tm, ck, ai5⟩ := Kd.R_slice ct7.out
    (first | subst ai5 | (injection ai5 with f1_ f2_ f3_; have f4_ := f1_.symm; have f5_ := f3_.symm; clear f1_ f2_ f3_; subst f4_; subst f5_))
    obtain ⟨lh, k7, yb⟩ := Kd.S_slice ct8.out
    (first | subst yb | (injection yb with f1_ f2_ f3_; have f4_ := f1_.symm; have f5_ := f3_.symm; clear f1_ f2_ f3_; subst f4_; subst f5_))
    refine hK.out _ _ ⟨(blk_cell gg.out 0).trans rfl, (blk_cell gg.out 1).trans rfl, (blk_cell gg.out 2).trans rfl, (blk_cell b7.out 0).trans rfl, (blk_cell b7.out 1).trans rfl, (blk_cell b7.out 2).trans rfl, ((cl_ HB ar7).trans rfl), ((cl_ HB ar6).trans rfl)⟩ (fun hHeld => ?_)
    clear hK K
    refine nm_ ?_
    refine one_ (i := 8) (N := some 24) (tl_ 12 511) rfl rfl (one_of HT_.out (g1_)) (by decide) (fun K hK => ?_)
    refine value_ (w1 := ?_) (v := ?_) (by rfl) rfl ?_ ?_
    rotate_left 2
    ·go_simp
     constructor
     ·rfl
     ·rfl
    refine hK.out _ _ ⟨(blk_cell (blk_alloc gg.out _) 0).trans rfl, (blk_cell (blk_alloc gg.out _) 1).trans rfl, (blk_cell (blk_alloc gg.out _) 2).trans rfl, (blk_cell (blk_alloc b7.out _) 0).trans rfl, (blk_cell (blk_alloc b7.out _) 1).trans rfl, (blk_cell (blk_alloc b7.out _) 2).trans rfl, (World.cell?_alloc_lt _ _ _ (World.block_lt_of_cell? _ _ (((cl_ HB ar7).trans rfl)))).trans (((cl_ HB ar7).trans rfl)), (World.cell?_alloc_lt _ _ _ (World.block_lt_of_cell? _ _ (((cl_ HB ar6).trans rfl)))).trans (((cl_ HB ar6).trans rfl))⟩ (fun hHeld => ?_)
    clear hK K
    refine nm_ ?_
    refine one_ (i := 9) (N := some 25) (tl_ 12 1023) rfl rfl (one_of HT_.out (g1_)) (by decide) (fun K hK => ?_)
    refine Kd.S_append_step k25s (w0 := w) w.heap.size (by rfl) (.tmp 17) (.tmp 24) 26 25 (.agg #[(.slice none 0 0), (.slice none 0 0)]) 48 rfl Try.underlying26 info25 rfl (by decide) (by omega) r6 u2 (⟨ar2, ar3⟩ : S25) [.slice tm ar2.length ck, .slice lh ar3.length k7] (fun k_ => some k_ ≠ (.slice fp gq.length fl : Value).ownBlock ∧ some k_ ≠ (.slice i4 jy.length i5 : Value).ownBlock) (fun k_ => f9.heap.size ≤ k_ ∧ (fun k_ => some k_ ≠ (.slice fp gq.length fl : Value).ownBlock ∧ some k_ ≠ (.slice i4 jy.length i5 : Value).ownBlock) k_ ∧ some k_ ≠ (r6 : Value).ownBlock) rfl rfl ?aP (fun _ hk => hk.2) ?aF ?aO ?aB ?aS ?aL ?_
    (case aP => exact k25s_mkM _ _ _ (⟨ar2, ar3⟩ : S25) HP1.out HP2.out)
    (case aB => exact (spec_l9Copy.calls_s_q0))
    (case aF => exact (fun k_ hk => ⟨Kd.fresh' (Kd.R_lt (uf2_ om)) k_ hk, Kd.fresh' (Kd.S_lt (uf3_ ph)) k_ hk⟩))
    (case aO => exact Kd.S_mono HP3.out (fun _ hk => ⟨hk.1, fun h_ => Nat.not_le.2 hk.2 h_.1⟩))
    (case aS => exact (below_size (spec_l9Copy.calls_s_q0)))
    (case aL => have := bw6.out; omega)
    intro fr1 w23 ho hb hg hat
    rw [← ec1.out] at ho
    replace om := Aside0.mk (Kd.R_over' (uf2_ om) (Kd.S_typed (uf3_ m6)) (by decide) hg)
    replace ph := Aside0.mk (Kd.S_over' (uf3_ ph) (Kd.S_typed (uf3_ m6)) (by decide) hg)
    replace b7 := Aside0.mk (blk_grown (g := ff) (o := .cells #[.slice ag ab.length ae, .slice ah aa.length af, .slice (some ar5) ak.length db] 28 (0, 0)) (uf0_ b7) hg (Kd.S_ne m6.out b7.out (by decide)))
    replace dj := Aside0.mk (blk_grown (g := ez) (o := .cells #[.slice none 0 0, .slice none 0 0, .slice none 0 0] 28 (0, 0)) (uf0_ dj) hg (Kd.S_ne m6.out dj.out (by decide)))
    replace gg := Aside0.mk (blk_grown (g := km) (o := .cells #[.slice fp gq.length fl, .slice i4 jy.length i5, r6] 28 (0, 0)) (uf0_ gg) hg (Kd.S_ne m6.out gg.out (by decide)))
    replace HB := Aside0.mk (hb)
    have ct9 := Aside0.mk (ho)
    clear m6 ct7 ct8
    clear ho hb hg hat
    obtain ⟨i6, iq, u4⟩ := Kd.S_slice ct9.out
    (first | subst u4 | (injection u4 with f1_ f2_ f3_; have f4_ := f1_.symm; have f5_ := f3_.symm; clear f1_ f2_ f3_; subst f4_; subst f5_))
    refine hK.out _ _ ⟨(blk_cell gg.out 0).trans rfl, (blk_cell gg.out 1).trans rfl, (blk_cell gg.out 2).trans rfl, (blk_cell b7.out 0).trans rfl, (blk_cell b7.out 1).trans rfl, (blk_cell b7.out 2).trans rfl, ((cl_ HB ar7).trans rfl), ((cl_ HB ar6).trans rfl)⟩ (fun hHeld => ?_)
    clear hK K
    refine nm_ ?_
    refine pw_ 10 26 (tl_ 12 2047) rfl rfl ?_
    refine last_ (i := 11) (N := none) (tl_ 12 4095) rfl rfl (one_of HT_.out (g1_)) (by decide) (fun K hK => ?_)
    have ec6 : w23.cell? ⟨km, 2, none⟩ = some (r6) := (blk_cell gg.out 2).trans rfl
    have ec7 := blk_frozen gg.out 2
    have ec8 := xz.out
    have ec9 := aa9.out
    have ed0 := bg3.out
    have ed1 := bx0.out
    refine skip_ (w1 := ?_) (by rfl) rfl ?_ ?_
    rotate_left
    ·go_simp
     rfl
    refine hK.out _ _ ?_
    clear hK K
    refine done_ (done_of HT_.out (g1_)) ?_
    try go_wp2
    go_roundg k1
    case measure => have := HK1.out; omega
    case rel => exact ⟨(wrap64 (an + 1)), (ai4), (.slice i6 ai4.length iq), (g3_), H', ⟨g15_⟩, ⟨by (with_reducible repeat (first | apply Kd.R_alloc | apply Kd.R_drewN | apply Kd.R_drew)); exact Kd.R_mono (Kd.R_far (p := ⟨km, 2, none⟩) (Kd.R_types om.out gg.out (by decide)) (fun _ hk => hk.2) (.slice i6 ai4.length iq)) (fun _ hk => trivial)⟩, ⟨by (with_reducible repeat (first | apply Kd.S_alloc | apply Kd.S_drewN | apply Kd.S_drew)); exact Kd.S_mono (Kd.S_far (p := ⟨km, 2, none⟩) (Kd.S_types ph.out gg.out (by decide)) (fun _ hk => hk.2) (.slice i6 ai4.length iq)) (fun _ hk => hk.1.1.1)⟩, ⟨by (with_reducible repeat (first | apply Kd.S_alloc | apply Kd.S_drewN | apply Kd.S_drew)); exact Kd.S_mono (Kd.S_far (p := ⟨km, 2, none⟩) (Kd.S_types ct9.out gg.out (by decide)) (fun _ hk => hk.2) (.slice i6 ai4.length iq)) (fun _ hk => ⟨hk.1.1, hk.1.2⟩)⟩, ⟨by (with_reducible repeat (first | refine blk_drewN ?_ _ | refine blk_drew ?_ | refine blk_alloc ?_ _)); refine blk_far ?_ xz.out _; exact uf0_ b7⟩, ⟨by (with_reducible repeat (first | refine blk_drewN ?_ _ | refine blk_drew ?_ | refine blk_alloc ?_ _)); refine blk_far ?_ aa9.out _; exact uf0_ dj⟩, ⟨by (with_reducible repeat (first | refine blk_drewN ?_ _ | refine blk_drew ?_ | refine blk_alloc ?_ _)); refine blk_put (cs := #[.slice fp gq.length fl, .slice i4 jy.length i5, r6]) ?_ 2 _ rfl; exact uf0_ gg⟩, ⟨spec_l9Copy.calls_s_q0⟩⟩
   ·rw [if_neg e3] at H
    have oo := decide_eq_false e3
    clear e3
    simp only [Option.some.injEq, Prod.mk.injEq] at H
    obtain ⟨rfl, rfl, rfl⟩ := H
    have bh0 := uy.out
    have bh1 := uz.out
    have bx3 := xz.out
    have bx4 := bg3.out
    obtain ⟨ag9, ah0, bh2, ah1, ah2, bh3⟩ := blk3_ b7
    have cr2 := bx0.out
    have cr3 := aa9.out
    obtain ⟨cr4, cr5, fr2, cr6, cr7, fr3⟩ := blk3_ gg
    obtain ⟨fr4, fr5, fr6, fr7, fr8, fr9⟩ := blk3_ dj
    obtain ⟨bh4, bh5, ed2⟩ := Kd.S_slice m6.out
    subst ed2
    go_wp2
    refine bodyPost_ret (results_cell_row rfl _ _ ez 28 #[.slice fp gq.length fl, .slice i4 jy.length i5, .slice bh4 u2.length bh5] (0, 0) _ rfl (by (with_reducible repeat (first | refine blk_drewN ?_ _ | refine blk_drew ?_ | refine blk_alloc ?_ _)); refine blk_put (cs := #[.slice fp gq.length fl, .slice i4 jy.length i5, .slice none 0 0]) ?_ 2 _ rfl; refine blk_put (cs := #[.slice fp gq.length fl, .slice none 0 0, .slice none 0 0]) ?_ 1 _ rfl; refine blk_put (cs := #[.slice none 0 0, .slice none 0 0, .slice none 0 0]) ?_ 0 _ rfl; exact uf0_ dj) Try.underlying28 rfl (g1_)) rfl ?_
    exact ⟨_, _, _, g4_, by (with_reducible repeat (first | apply Kd.R_alloc | apply Kd.R_drewN | apply Kd.R_drew)); exact Kd.R_mono (Kd.R_far (p := ⟨ez, 2, none⟩) (Kd.R_far (p := ⟨ez, 1, none⟩) (Kd.R_far (p := ⟨ez, 0, none⟩) (Kd.R_types om.out dj.out (by decide)) (fun _ hk => hk.2) (.slice fp gq.length fl)) (fun _ hk => hk.2) (.slice i4 jy.length i5)) (fun _ hk => hk.2) (.slice bh4 u2.length bh5)) (fun _ hk => trivial), by (with_reducible repeat (first | apply Kd.S_alloc | apply Kd.S_drewN | apply Kd.S_drew)); exact Kd.S_mono (Kd.S_far (p := ⟨ez, 2, none⟩) (Kd.S_far (p := ⟨ez, 1, none⟩) (Kd.S_far (p := ⟨ez, 0, none⟩) (Kd.S_types ph.out dj.out (by decide)) (fun _ hk => hk.2) (.slice fp gq.length fl)) (fun _ hk => hk.2) (.slice i4 jy.length i5)) (fun _ hk => hk.2) (.slice bh4 u2.length bh5)) (fun _ hk => hk.1), by (with_reducible repeat (first | apply Kd.S_alloc | apply Kd.S_drewN | apply Kd.S_drew)); exact Kd.S_mono (Kd.S_far (p := ⟨ez, 2, none⟩) (Kd.S_far (p := ⟨ez, 1, none⟩) (Kd.S_far (p := ⟨ez, 0, none⟩) (Kd.S_types m6.out dj.out (by decide)) (fun _ hk => hk.2) (.slice fp gq.length fl)) (fun _ hk => hk.2) (.slice i4 jy.length i5)) (fun _ hk => hk.2) (.slice bh4 u2.length bh5)) (fun _ hk => ⟨hk.1.1, hk.1.2⟩), spec_l9Copy.calls_s_q0⟩
theorem spec_l9Copy.calls (k : Nat) (ag : Option Addr) (ae : Nat) (ab : List Int) (ah : Option Addr) (af : Nat) (aa : List (List Int)) (di : Option Addr) (db : Nat) (ak : List (S25)) (r1 : List Int) (r2 : List (List Int)) (r3 : List (S25)) (w : World) (dx : Kd.C (Kd.int .i64) w ag ab.length ab) (dy : ab.length ≤ ae) (dz : Kd.C (Kd.slice 3 (Kd.int .i64)) w ah aa.length aa) (d2 : aa.length ≤ af) (k5 : Kd.C k25 w di ak.length ak) (k6 : ak.length ≤ db) (h : spec_l9Copy.f k ab aa ak = some (r1, r2, r3)) :
  Calls Try.prog 100 #[.agg #[.slice ag ab.length ae, .slice ah aa.length af, .slice di ak.length db]] w fun e w' => ∃ v0_ v1_ v2_ : Value, e = .returned (.agg #[v0_, v1_, v2_]) ∧ Kd.R (Kd.int .i64) 3 w' w.heap.size (fun _ => True) v0_ r1 ∧ Kd.S (Kd.slice 3 (Kd.int .i64)) 22 w' w.heap.size (fun k_ => some k_ ≠ (v0_ : Value).ownBlock) v1_ r2 ∧ Kd.R k25 25 w' w.heap.size (fun k_ => some k_ ≠ (v0_ : Value).ownBlock ∧ some k_ ≠ (v1_ : Value).ownBlock) v2_ r3 ∧ Below w.heap.size w w' := by
 refine (spec_l9Copy.calls_s k ag ae ab ah af aa di db ak r1 r2 r3 w dx dy dz d2 k5 k6 h).mono ?_
 rintro e w' ⟨v0_, v1_, v2_, he, h0, h1, h2, hb⟩
 exact ⟨v0_, v1_, v2_, he, h0, h1, k25s_R h2, hb⟩
mutual
def spec_Netted.l0 : Nat → Int → List Int → List (List Int) → List Int → List (List Int) → Option (List Int × (List (List Int)))
 | 0, _, _, _, _, _ => none
 | k + 1, x4, aa8, m5, ar8, u6 => if x4 < (aa8.length : Int) then (spec_Netted.l1 k x4 0 aa8 m5 ar8 u6) else (some (ar8, u6))
def spec_Netted.l1 : Nat → Int → Int → List Int → List (List Int) → List Int → List (List Int) → Option (List Int × (List (List Int)))
 | 0, _, _, _, _, _, _ => none
 | k + 1, x4, x5, aa8, m5, ar8, u6 => if x5 < x4 then (if 0 ≤ x4 then (if x4 < (m5.length : Int) then (if 0 ≤ x5 then (if x5 < ((rd_L1 m5 x4).length : Int) then (if x5 < (m5.length : Int) then (if x4 < ((rd_L1 m5 x5).length : Int) then (if x4 < (u6.length : Int) then (if x5 < ((rd_L1 u6 x4).length : Int) then ((some (u6.set (x4 : Int).toNat ((rd_L1 u6 x4).set (x5 : Int).toNat (wrap64 ((rd (rd_L1 m5 x4) x5) - (mn (rd (rd_L1 m5 x4) x5) (rd (rd_L1 m5 x5) x4))))) : List (List Int))).bind fun i7 => (if x5 < (u6.length : Int) then (if x4 < ((rd_L1 i7 x5).length : Int) then (spec_Netted.l1 k x4 (wrap64 (x5 + 1)) aa8 m5 ar8 (i7.set (x5 : Int).toNat ((rd_L1 i7 x5).set (x4 : Int).toNat (wrap64 ((rd (rd_L1 m5 x5) x4) - (mn (rd (rd_L1 m5 x4) x5) (rd (rd_L1 m5 x5) x4))))))) else (none)) else (none))) else (none)) else (none)) else (none)) else (none)) else (none)) else (none)) else (none)) else (none)) else (spec_Netted.l0 k (wrap64 (x4 + 1)) aa8 m5 ar8 u6)
end
def spec_Netted.f (k : Nat) (ab : List Int) (aa : List (List Int)) : Option (List Int × (List (List Int))) := (spec_BookOk.f k ab aa).bind fun gq => (if gq = true then ((spec_l2Copy.f k ab aa).bind fun bt157 => (spec_Netted.l0 k 0 ab aa bt157.1 bt157.2)) else (some (([] : List Int), ([] : List (List Int)))))
theorem spec_Netted.mq {p : Prop} (h : p := by
 repeat' first
 | (with_reducible exact ih0 _ _ _ _ _)
 | (with_reducible exact ih1 _ _ _ _ _ _)
 | (with_reducible exact spec_BookOk.mono _ _ _)
 | (with_reducible exact spec_l2Copy.mono _ _ _)
 | (with_reducible exact LeO.refl _)
 | (with_reducible exact LeO.none _)
 | (with_reducible refine LeO.ite ?_ ?_)
 | (with_reducible refine LeO.bind ?_ (fun _ => ?_))
 | exact ih0 _ _ _ _ _
 | exact ih1 _ _ _ _ _ _
 | exact spec_BookOk.mono _ _ _
 | exact spec_l2Copy.mono _ _ _
 | exact LeO.none _
 | refine LeO.ite ?_ ?_
 | refine LeO.bind ?_ (fun _ => ?_)) : p := h
theorem spec_Netted.mono_l : ∀ k, (∀ y0 y1 y2 y3 y4, LeO (spec_Netted.l0 k y0 y1 y2 y3 y4) (spec_Netted.l0 (k + 1) y0 y1 y2 y3 y4)) ∧ (∀ y0 y1 y2 y3 y4 y5, LeO (spec_Netted.l1 k y0 y1 y2 y3 y4 y5) (spec_Netted.l1 (k + 1) y0 y1 y2 y3 y4 y5))
 | 0 => ⟨fun _ _ _ _ _ r h => by simp [spec_Netted.l0] at h, fun _ _ _ _ _ _ r h => by simp [spec_Netted.l1] at h⟩
 | k + 1 => by
  obtain ⟨ih0, ih1⟩ := spec_Netted.mono_l k
  refine ⟨?_, ?_⟩
  ·intro y0 y1 y2 y3 y4
   unfold spec_Netted.l0
   exact spec_Netted.mq
  ·intro y0 y1 y2 y3 y4 y5
   unfold spec_Netted.l1
   exact spec_Netted.mq
theorem spec_Netted.mono : ∀ a0 a1 k, LeO (spec_Netted.f k a0 a1) (spec_Netted.f (k + 1) a0 a1) := by
 intro a0 a1 k
 obtain ⟨ih0, ih1⟩ := spec_Netted.mono_l k
 unfold spec_Netted.f
 exact spec_Netted.mq
def spec_Netted.T10 : Bool × List (List Nat × List Nat) := (true, [([], []), ([0], [0]), ([], []), ([1, 2], [1, 2]), ([3], [3]), ([], []), ([4, 5], [4, 5]), ([6], [6]), ([], []), ([8], [8]), ([], []), ([9, 10], [9, 10]), ([11], [11]), ([], []), ([12, 13], [12, 13]), ([14], [14]), ([7, 15], [7, 15]), ([16, 0, 1, 2, 3, 4, 5, 6, 7, 8, 9, 10, 11, 12, 13, 14, 15, 16], [16])])
def spec_Netted.B10 : List Nat := [0, 1, 0, 7, 15, 0, 63, 127, 0, 256, 0, 1792, 3840, 0, 16128, 32512, 65535, 131071]
theorem spec_Netted.tab10 : rtab .any (opsOf Try.f41 10) = spec_Netted.T10 := by kernel_rfl
theorem spec_Netted.bits10 : waitsOk spec_Netted.T10.2 spec_Netted.B10 = true := by kernel_rfl
def spec_Netted.T11 : Bool × List (List Nat × List Nat) := (true, [([], []), ([0], [0]), ([], []), ([1, 2], [1, 2]), ([3], [3]), ([], []), ([], []), ([6], [6]), ([], []), ([7, 8], [7, 8]), ([9], [9]), ([], []), ([10, 11], [10, 11]), ([12], [12]), ([], []), ([13, 14], [13, 14]), ([4, 5, 0, 1, 2, 3, 4, 5, 6, 7, 8, 9, 10, 11, 12, 13, 14, 15], [4, 5]), ([16, 15, 0, 1, 2, 3, 4, 5, 6, 7, 8, 9, 10, 11, 12, 13, 14, 15], [15, 16])])
def spec_Netted.B11 : List Nat := [0, 1, 0, 7, 15, 0, 0, 64, 0, 448, 960, 0, 4032, 8128, 0, 32704, 65535, 131071]
theorem spec_Netted.tab11 : rtab .any (opsOf Try.f41 11) = spec_Netted.T11 := by kernel_rfl
theorem spec_Netted.bits11 : waitsOk spec_Netted.T11.2 spec_Netted.B11 = true := by kernel_rfl
def spec_Netted.T12 : Bool × List (List Nat × List Nat) := (true, [([], []), ([0], [0]), ([], []), ([1, 2], [1, 2]), ([3], [3]), ([], []), ([], []), ([6], [6]), ([], []), ([7, 8], [7, 8]), ([9], [9]), ([], []), ([10, 11], [10, 11]), ([12], [12]), ([], []), ([13, 14], [13, 14]), ([4, 5, 0, 1, 2, 3, 4, 5, 6, 7, 8, 9, 10, 11, 12, 13, 14, 15], [4, 5]), ([16, 15, 0, 1, 2, 3, 4, 5, 6, 7, 8, 9, 10, 11, 12, 13, 14, 15], [15, 16])])
def spec_Netted.B12 : List Nat := [0, 1, 0, 7, 15, 0, 0, 64, 0, 448, 960, 0, 4032, 8128, 0, 32704, 65535, 131071]
theorem spec_Netted.tab12 : rtab .any (opsOf Try.f41 12) = spec_Netted.T12 := by kernel_rfl
theorem spec_Netted.bits12 : waitsOk spec_Netted.T12.2 spec_Netted.B12 = true := by kernel_rfl
theorem l7 {p : Prop} (h : p := by repeat (first | (with_reducible first | exact HB.out | apply below_alloc | apply pw_below_drewN | apply below_drew1 | refine below_set ?_ bf9.out | refine below_set ?_ bg0.out | refine below_set ?_ ed3.out | refine below_set ?_ GB32.out | refine below_set ?_ GB35.out) | exact HB.out)) : p := h
set_option maxHeartbeats 8000000 in
set_option maxRecDepth 100000 in
theorem spec_Netted.calls (k : Nat) (ag : Option Addr) (ae : Nat) (ab : List Int) (ah : Option Addr) (af : Nat) (aa : List (List Int)) (r1 : List Int) (r2 : List (List Int)) (w : World) (dx : Kd.C (Kd.int .i64) w ag ab.length ab) (dy : ab.length ≤ ae) (dz : Kd.C (Kd.slice 3 (Kd.int .i64)) w ah aa.length aa) (d2 : aa.length ≤ af) (h : spec_Netted.f k ab aa = some (r1, r2)) :
  Calls Try.prog 41 #[.agg #[.slice ag ab.length ae, .slice ah aa.length af]] w fun e w' => ∃ v0_ v1_ : Value, e = .returned (.agg #[v0_, v1_]) ∧ Kd.R (Kd.int .i64) 3 w' w.heap.size (fun _ => True) v0_ r1 ∧ Kd.S (Kd.slice 3 (Kd.int .i64)) 22 w' w.heap.size (fun k_ => some k_ ≠ (v0_ : Value).ownBlock) v1_ r2 ∧ Below w.heap.size w w' := by
 have hu25 := Try.underlying25
 have dd := Aside0.mk dx
 have d6 := Aside0.mk dy
 clear dx dy
 have cq := Aside0.mk dz
 have d7 := Aside0.mk d2
 clear dz d2
 have HB := Aside0.mk (Below.refl w.heap.size w)
 have H : ((spec_BookOk.f k ab aa).bind fun gq => (if gq = true then ((spec_l2Copy.f k ab aa).bind fun bt157 => (spec_Netted.l0 k 0 ab aa bt157.1 bt157.2)) else (some (([] : List Int), ([] : List (List Int)))))) = some (r1, r2) := h
 clear h
 obtain ⟨gq, A2, H⟩ := bind_ H
 by_cases c3 : gq = true
 ·subst c3
  replace H := ifp_ H
  replace H := Option.bind_eq_some_iff.mp H
  obtain ⟨⟨ai6, ar9⟩, m7, H⟩ := H
  try dsimp only at H
  have A4 := Aside0.mk m7
  clear m7
  have H' := Aside0.mk H
  clear H
  go_enter Try.func41, Try.ntmps41
  go_wp2_with (first | ((with_reducible refine gate_dst (N := 1) rfl ?_); refine bx_ (N := 1) #[.slice ag ab.length ae, .slice ah aa.length af] 25 ?_; intro ff hg w5 hbox hb; have b7 := Aside0.mk (hbox); have cs0 := Aside0.mk ((g17_ : w.heap.size ≤ ff)); have bf9 := Aside0.mk ((g17_ : w.heap.size ≤ ff)); replace HB := Aside0.mk (below_step (l7) hb); clear hb hbox hg) | ((with_reducible refine gate_dst (N := 2) rfl ?_); refine bx_ (N := 2) #[.slice none 0 0, .slice none 0 0] 25 ?_; intro ez hg w6 hbox hb; have dj := Aside0.mk (hbox); have cs1 := Aside0.mk ((g17_ : w.heap.size ≤ ez)); have bg0 := Aside0.mk ((g17_ : w.heap.size ≤ ez)); replace HB := Aside0.mk (below_step (l7) hb); have uy := Aside0.mk ((g73_ : ff ≠ ez)); have uz := Aside0.mk ((g74_ : ez ≠ ff)); replace b7 := bb_ b7 hb; clear hb hbox hg; have cq0 := uy.out; have cq1 := uz.out; obtain ⟨xh, xi, xj, xk⟩ := blk2_ b7) | ((with_reducible refine gate_callee (f := 42) rfl ?_); refine goesL_ (some 8) rfl rfl Try.func42 k_ rfl #[.agg #[.slice ag ab.length ae, .slice ah aa.length af]] rfl (g2_) ?_; (with_reducible refine (spec_BookOk.calls k _ _ ab _ _ aa true _ ?side1 ?side2 ?side3 ?side4 A2.out).mono ?_); (case side1 => exact uf1_ dd); (case side2 => exact d6.out); (case side3 => exact uf1_ cq); (case side4 => exact d7.out); rintro e w9 ⟨rfl, hb⟩; refine ⟨_, rfl, ?_⟩; replace b7 := bb_ b7 hb; replace dj := bb_ dj hb; replace HB := Aside0.mk (below_step (l7) hb); (try clear hb); (try clear hk hi); obtain ⟨tn, tp, tq, tr⟩ := blk2_ b7) | ((with_reducible refine gate_callee (f := 80) rfl ?_); refine goesL_ (some 12) rfl rfl Try.func80 k_ rfl #[.agg #[.slice ag ab.length ae, .slice ah aa.length af]] rfl (g2_) ?_; (with_reducible refine (spec_l2Copy.calls k _ _ ab _ _ aa ai6 ar9 _ ?side1 ?side2 ?side3 ?side4 A4.out).mono ?_); (case side1 => exact uf1_ dd); (case side2 => exact d6.out); (case side3 => exact uf1_ cq); (case side4 => exact d7.out); rintro e w11 ⟨fs0, fs1, rfl, am, ba, hb⟩; refine ⟨_, rfl, ?_⟩; have bh6 := Aside0.mk (Kd.R_lower am (below_size (l7))); have bh7 := Aside0.mk (Kd.S_lower ba (below_size (l7))); replace b7 := bb_ b7 hb; replace dj := bb_ dj hb; replace HB := Aside0.mk (below_step (l7) hb); (try clear hb); (try clear hk hi); (try clear am); (try clear ba)) | ((with_reducible refine gate_dst (N := 3) rfl ?_); refine bx_ (N := 3) #[.slice none 0 0, .slice none 0 0] 25 ?_; intro mc hg xy hbox hb; replace bh6 := Aside0.mk (Kd.R_below (uf2_ bh6) hb); replace bh7 := Aside0.mk (Kd.S_below (uf3_ bh7) hb); have h6 := Aside0.mk (hbox); have fs2 := Aside0.mk ((g17_ : w.heap.size ≤ mc)); have ed3 := Aside0.mk ((g17_ : w.heap.size ≤ mc)); replace HB := Aside0.mk (below_step (l7) hb); have as0 := Aside0.mk ((g73_ : ff ≠ mc)); have bx5 := Aside0.mk ((g74_ : mc ≠ ff)); replace b7 := bb_ b7 hb; have bh8 := Aside0.mk ((by rw [hg]; exact Nat.ne_of_lt (blk_lt (g := ez) (o := .cells #[.slice none 0 0, .slice none 0 0] 25 (0, 0)) (uf0_ dj)) : ez ≠ mc)); have cu0 := Aside0.mk ((by rw [hg]; exact Nat.ne_of_gt (blk_lt (g := ez) (o := .cells #[.slice none 0 0, .slice none 0 0] 25 (0, 0)) (uf0_ dj)) : mc ≠ ez)); replace dj := bb_ dj hb; clear hb hbox hg; obtain ⟨fb, ef, as1⟩ := Kd.R_slice bh6.out; subst as1; have bx6 := bx5.out; have bx7 := as0.out; have cu1 := cu0.out; have cu2 := bh8.out; obtain ⟨ab0, ab1, ab2, ab3⟩ := blk2_ h6; obtain ⟨dk, dh, u7⟩ := Kd.S_slice bh7.out; subst u7))
  go_loopg [4] k (fun kq v4 w' => ∃ (an : Int) (yc : List Int) (ab4 : List (List Int)) (me : Value) (va : Value), v4 = .int .i64 an ∧ Aside0 (spec_Netted.l0 kq an ab aa yc ab4 = some (r1, r2)) ∧ Aside0 (kq ≤ k) ∧ Aside0 (Kd.R (Kd.int .i64) 3 w' w.heap.size (fun _ => True) me yc) ∧ Aside0 (Kd.S (Kd.slice 3 (Kd.int .i64)) 22 w' w.heap.size (fun k_ => some k_ ≠ (me : Value).ownBlock) va ab4) ∧ Aside0 (w'.heap[ff]? = some (.cells #[(.slice ag ab.length ae), (.slice ah aa.length af)] 25 (0, 0))) ∧ Aside0 (w'.heap[ez]? = some (.cells #[(.slice none 0 0), (.slice none 0 0)] 25 (0, 0))) ∧ Aside0 (w'.heap[mc]? = some (.cells #[me, va] 25 (0, 0))) ∧ Aside0 (Below w.heap.size w w'))
  case atStart => exact ⟨(0), (ai6), (ar9), (.slice fb ai6.length ef), (.slice dk ar9.length dh), (g3_), H', ⟨Nat.le_refl _⟩, ⟨by (with_reducible repeat (first | apply Kd.R_alloc | apply Kd.R_drewN | apply Kd.R_drew)); exact Kd.R_mono (Kd.R_far (p := ⟨mc, 1, none⟩) (Kd.R_far (p := ⟨mc, 0, none⟩) (Kd.R_types bh6.out h6.out (by decide)) (fun _ hk => hk.2) (.slice fb ai6.length ef)) (fun _ hk => hk.2) (.slice dk ar9.length dh)) (fun _ hk => trivial)⟩, ⟨by (with_reducible repeat (first | apply Kd.S_alloc | apply Kd.S_drewN | apply Kd.S_drew)); exact Kd.S_mono (Kd.S_far (p := ⟨mc, 1, none⟩) (Kd.S_far (p := ⟨mc, 0, none⟩) (Kd.S_types bh7.out h6.out (by decide)) (fun _ hk => hk.2) (.slice fb ai6.length ef)) (fun _ hk => hk.2) (.slice dk ar9.length dh)) (fun _ hk => hk.1)⟩, ⟨by (with_reducible repeat (first | refine blk_drewN ?_ _ | refine blk_drew ?_ | refine blk_alloc ?_ _)); refine blk_far ?_ as0.out _; refine blk_far ?_ as0.out _; exact uf0_ b7⟩, ⟨by (with_reducible repeat (first | refine blk_drewN ?_ _ | refine blk_drew ?_ | refine blk_alloc ?_ _)); refine blk_far ?_ bh8.out _; refine blk_far ?_ bh8.out _; exact uf0_ dj⟩, ⟨by (with_reducible repeat (first | refine blk_drewN ?_ _ | refine blk_drew ?_ | refine blk_alloc ?_ _)); refine blk_put (cs := #[.slice fb ai6.length ef, .slice none 0 0]) ?_ 1 _ rfl; refine blk_put (cs := #[.slice none 0 0, .slice none 0 0]) ?_ 0 _ rfl; exact uf0_ h6⟩, ⟨l7⟩⟩
  case round =>
   clear H'
   try clear c1
   try clear p2
   try clear c3
   try clear c4
   try clear c7
   try clear c8
   try clear e3
   try clear ee
   try clear tn
   try clear tp
   try clear ab0
   try clear ab1
   try clear xh
   try clear xi
   try clear tq
   try clear tr
   try clear ab2
   try clear ab3
   try clear xj
   try clear xk
   obtain ⟨an, yc, ab4, me, va, rfl, HA, HK1, ln, gu, b7, dj, h6, HB⟩ := hrel
   cases gk with
   | zero => exact absurd HA.out (by simp [spec_Netted.l0])
   | succ k1 =>
    have H := HA.out
    clear HA
    simp only [spec_Netted.l0] at H
    by_cases fu : an < (ab.length : Int)
    ·rw [if_pos fu] at H
     have ai7 := decide_eq_true fu
     clear fu
     have H' := Aside0.mk H
     clear H
     have bf1 := uy.out
     have bf2 := uz.out
     have aq6 := as0.out
     have aq7 := bx5.out
     obtain ⟨rx, ry, tk, rz⟩ := blk2_ b7
     go_wp2
     go_loopg [5] k1 (fun kq v5 w' => ∃ (a8 : Int) (r7 : List Int) (g3 : List (List Int)) (me : Value) (va : Value), v5 = .int .i64 a8 ∧ Aside0 (spec_Netted.l1 kq an a8 ab aa r7 g3 = some (r1, r2)) ∧ Aside0 (kq ≤ k1) ∧ Aside0 (Kd.R (Kd.int .i64) 3 w' w.heap.size (fun _ => True) me r7) ∧ Aside0 (Kd.S (Kd.slice 3 (Kd.int .i64)) 22 w' w.heap.size (fun k_ => some k_ ≠ (me : Value).ownBlock) va g3) ∧ Aside0 (w'.heap[ff]? = some (.cells #[(.slice ag ab.length ae), (.slice ah aa.length af)] 25 (0, 0))) ∧ Aside0 (w'.heap[ez]? = some (.cells #[(.slice none 0 0), (.slice none 0 0)] 25 (0, 0))) ∧ Aside0 (w'.heap[mc]? = some (.cells #[me, va] 25 (0, 0))) ∧ Aside0 (Below w.heap.size w w'))
     case atStart => exact ⟨(0), (yc), (ab4), (me), (va), (g3_), H', ⟨Nat.le_refl _⟩, ⟨uf2_ ln⟩, ⟨uf3_ gu⟩, ⟨uf0_ b7⟩, ⟨uf0_ dj⟩, ⟨uf0_ h6⟩, ⟨l7⟩⟩
     case round =>
      clear H'
      try clear c1
      try clear c2
      try clear p2
      try clear c3
      try clear c4
      try clear c7
      try clear c8
      try clear e3
      try clear ee
      try clear fu
      try clear ai7
      try clear dl
      try clear ir
      try clear tn
      try clear tp
      try clear ab0
      try clear ab1
      try clear rx
      try clear ry
      try clear xh
      try clear xi
      try clear tq
      try clear tr
      try clear ab2
      try clear ab3
      try clear tk
      try clear rz
      try clear xj
      try clear xk
      try clear p2
      obtain ⟨a8, r7, g3, me, va, rfl, HA, HK2, ln, gu, b7, dj, h6, HB⟩ := hrel
      cases gk with
      | zero => exact absurd HA.out (by simp [spec_Netted.l1])
      | succ k2 =>
       have H := HA.out
       clear HA
       simp only [spec_Netted.l1] at H
       by_cases ii : a8 < an
       ·rw [if_pos ii] at H
        have xe := decide_eq_true ii
        clear ii
        obtain ⟨jo, H⟩ := pos_ H
        have ag8 := decide_eq_true jo
        clear jo
        obtain ⟨fn, H⟩ := pos_ H
        have pf := decide_eq_true fn
        clear fn
        obtain ⟨lg, H⟩ := pos_ H
        have be1 := decide_eq_true lg
        clear lg
        obtain ⟨r8, H⟩ := pos_ H
        have cu3 := decide_eq_true r8
        clear r8
        obtain ⟨ij, H⟩ := pos_ H
        have as2 := decide_eq_true ij
        clear ij
        obtain ⟨mf, H⟩ := pos_ H
        have bx8 := decide_eq_true mf
        clear mf
        obtain ⟨ji29, hji29⟩ : ∃ j_ : Int, (mn (rd (rd_L1 aa an) a8) (rd (rd_L1 aa a8) an)) = j_ := ⟨_, rfl⟩
        replace H : (if an < (g3.length : Int) then (if a8 < ((rd_L1 g3 an).length : Int) then ((some (g3.set (an : Int).toNat ((rd_L1 g3 an).set (a8 : Int).toNat (wrap64 ((rd (rd_L1 aa an) a8) - (ji29)))) : List (List Int))).bind fun i7 => (if a8 < (g3.length : Int) then (if an < ((rd_L1 i7 a8).length : Int) then (spec_Netted.l1 k2 an (wrap64 (a8 + 1)) ab aa r7 (i7.set (a8 : Int).toNat ((rd_L1 i7 a8).set (an : Int).toNat (wrap64 ((rd (rd_L1 aa a8) an) - (ji29)))))) else (none)) else (none))) else (none)) else (none)) = some (r1, r2) := by first | (rw [hji29] at H; exact H) | (simp only [hji29] at H ⊢; exact H)
        have hji29_ : (if (rd (rd_L1 aa a8) an) < (rd (rd_L1 aa an) a8) then (rd (rd_L1 aa a8) an) else (rd (rd_L1 aa an) a8)) = ji29 := hji29
        obtain ⟨m8, H⟩ := pos_ H
        have as3 := decide_eq_true m8
        clear m8
        obtain ⟨jp, H⟩ := pos_ H
        have qu := decide_eq_true jp
        clear jp
        obtain ⟨bx9, hy171⟩ : ∃ y_ : List Int, y_ = ((rd_L1 g3 an).set (a8 : Int).toNat (wrap64 ((rd (rd_L1 aa an) a8) - (ji29)))) := ⟨_, rfl⟩
        replace H : ((some (g3.set (an : Int).toNat bx9 : List (List Int))).bind fun i7 => (if a8 < (g3.length : Int) then (if an < ((rd_L1 i7 a8).length : Int) then (spec_Netted.l1 k2 an (wrap64 (a8 + 1)) ab aa r7 (i7.set (a8 : Int).toNat ((rd_L1 i7 a8).set (an : Int).toNat (wrap64 ((rd (rd_L1 aa a8) an) - (ji29)))))) else (none)) else (none))) = some (r1, r2) := by first | (rw [hy171]; with_reducible exact H) | (have H2_ := (Option.bind_some _ _).symm.trans H; rw [hy171]; with_reducible exact H2_) | (have H2_ := (Option.bind_some _ _).symm.trans H; with_reducible exact H2_) | with_reducible exact H | (rw [hy171]; exact H) | exact H
        have ed4 := Aside0.mk hy171
        clear hy171
        obtain ⟨i7, hy173⟩ : ∃ y_ : List (List Int), y_ = (g3.set (an : Int).toNat bx9) := ⟨_, rfl⟩
        replace H : (if a8 < (g3.length : Int) then (if an < ((rd_L1 i7 a8).length : Int) then (spec_Netted.l1 k2 an (wrap64 (a8 + 1)) ab aa r7 (i7.set (a8 : Int).toNat ((rd_L1 i7 a8).set (an : Int).toNat (wrap64 ((rd (rd_L1 aa a8) an) - (ji29)))))) else (none)) else (none)) = some (r1, r2) := by first | (rw [hy173]; with_reducible exact H) | (have H2_ := (Option.bind_some _ _).symm.trans H; rw [hy173]; with_reducible exact H2_) | (have H2_ := (Option.bind_some _ _).symm.trans H; with_reducible exact H2_) | with_reducible exact H | (rw [hy173]; exact H) | exact H
        have by0 := Aside0.mk hy173
        clear hy173
        obtain ⟨qv, H⟩ := pos_ H
        have by1 := decide_eq_true qv
        clear qv
        obtain ⟨li, H⟩ := pos_ H
        have as4 := decide_eq_true li
        clear li
        obtain ⟨by2, hy177⟩ : ∃ y_ : List Int, y_ = ((rd_L1 i7 a8).set (an : Int).toNat (wrap64 ((rd (rd_L1 aa a8) an) - (ji29)))) := ⟨_, rfl⟩
        replace H : (spec_Netted.l1 k2 an (wrap64 (a8 + 1)) ab aa r7 (i7.set (a8 : Int).toNat by2)) = some (r1, r2) := by first | (rw [hy177]; with_reducible exact H) | (have H2_ := (Option.bind_some _ _).symm.trans H; rw [hy177]; with_reducible exact H2_) | (have H2_ := (Option.bind_some _ _).symm.trans H; with_reducible exact H2_) | with_reducible exact H | (rw [hy177]; exact H) | exact H
        have ed5 := Aside0.mk hy177
        clear hy177
        obtain ⟨cu4, hy179⟩ : ∃ y_ : List (List Int), y_ = (i7.set (a8 : Int).toNat by2) := ⟨_, rfl⟩
        replace H : (spec_Netted.l1 k2 an (wrap64 (a8 + 1)) ab aa r7 cu4) = some (r1, r2) := by first | (rw [hy179]; with_reducible exact H) | (have H2_ := (Option.bind_some _ _).symm.trans H; rw [hy179]; with_reducible exact H2_) | (have H2_ := (Option.bind_some _ _).symm.trans H; with_reducible exact H2_) | with_reducible exact H | (rw [hy179]; exact H) | exact H
        have ed6 := Aside0.mk hy179
        clear hy179
        have H' := Aside0.mk H
        clear H
        try go_wp2
        replace ln := Aside0.mk (Kd.R_drew ln.out)
        replace gu := Aside0.mk (Kd.S_drew gu.out)
        replace b7 := Aside0.mk (blk_drew b7.out)
        replace dj := Aside0.mk (blk_drew dj.out)
        replace h6 := Aside0.mk (blk_drew h6.out)
        replace HB := Aside0.mk (below_drew1 HB.out)
        have by3 : 0 ≤ (an : Int) := of_decide_eq_true (g0_)
        have by4 : an < (aa.length : Int) := of_decide_eq_true (g0_)
        obtain ⟨r9, fs3, ed7, ed8, bh9, cu5, cu6⟩ := at_L1 cq.out an by3 by4
        have ed9 := bh9
        cases ed8
        replace bh9 := cl_ HB bh9
        have cu7 := Aside0.mk cu6
        have fs4 := Aside0.mk cu5
        clear cu6 cu5
        replace by3 := eq_true by3
        replace by4 := eq_true by4
        have by5 : 0 ≤ (a8 : Int) := of_decide_eq_true (g0_)
        have by6 : a8 < ((rd_L1 aa an).length : Int) := of_decide_eq_true (g0_)
        obtain ⟨cu8, ee0, bi0⟩ := Kd.at_int cu7.out a8 by5 by6
        have ee1 := bi0
        cases ee0
        replace bi0 := cl_ HB bi0
        replace by5 := eq_true by5
        replace by6 := eq_true by6
        have by7 : 0 ≤ (a8 : Int) := of_decide_eq_true (g0_)
        have by8 : a8 < (aa.length : Int) := of_decide_eq_true (g0_)
        obtain ⟨ee2, fs5, ee3, ee4, bi1, cu9, cv0⟩ := at_L1 cq.out a8 by7 by8
        have ee5 := bi1
        obtain rfl : r9 = ee2 := (by injection ee4)
        replace bi1 := cl_ HB bi1
        have cv1 := Aside0.mk cv0
        have fs6 := Aside0.mk cu9
        clear cv0 cu9
        replace by7 := eq_true by7
        replace by8 := eq_true by8
        have by9 : 0 ≤ (an : Int) := of_decide_eq_true (g0_)
        have bz0 : an < ((rd_L1 aa a8).length : Int) := of_decide_eq_true (g0_)
        obtain ⟨cv2, ee6, bi2⟩ := Kd.at_int cv1.out an by9 bz0
        have ee7 := bi2
        cases ee6
        replace bi2 := cl_ HB bi2
        replace by9 := eq_true by9
        replace bz0 := eq_true bz0
        refine start_ (n := 18) (S := fun w' => w'.cell? ⟨ff, 0, none⟩ = some (.slice ag ab.length ae) ∧ w'.cell? ⟨ff, 1, none⟩ = some (.slice (some r9) aa.length af) ∧ w'.cell? (r9.add (an).toNat) = some (.slice (some cu8) (rd_L1 aa an).length ed7) ∧ w'.cell? (cu8.add (a8).toNat) = some (.int .i64 (rd (rd_L1 aa an) a8)) ∧ w'.cell? (r9.add (a8).toNat) = some (.slice (some cv2) (rd_L1 aa a8).length ee3) ∧ w'.cell? (cv2.add (an).toNat) = some (.int .i64 (rd (rd_L1 aa a8) an))) (ds := []) (tl_ 18 0) (g1_) rfl (g1_) ⟨(blk_cell b7.out 0).trans rfl, (blk_cell b7.out 1).trans rfl, ((cl_ HB ed9).trans rfl), ((cl_ HB ee1).trans rfl), ((cl_ HB ee5).trans rfl), ((cl_ HB ee7).trans rfl)⟩ (fun hHeld => ?_); refine with_tabW spec_Netted.tab10 spec_Netted.bits10 (fun HT_ HW_ => ?_)
        generalize wr.drew = fw at ln gu b7 dj h6 HB cu7 cv1 bh9 bi0 bi1 bi2 hHeld ⊢
        refine pw_ 0 25 (tl_ 18 1) rfl rfl ?_
        refine pw_ 2 27 (tl_ 18 5) rfl rfl ?_
        refine pw_ 5 30 (tl_ 18 37) rfl rfl ?_
        refine pw_ 8 33 (tl_ 18 293) rfl rfl ?_
        refine pw_ 10 35 (tl_ 18 1317) rfl rfl ?_
        refine pw_ 13 38 (tl_ 18 9509) rfl rfl ?_
        refine tk0_ 1 26 (tl_ 18 9511) rfl rfl hHeld ?_
        refine pw_ 3 28 (tl_ 18 9519) rfl rfl ?_
        refine tk0_ 4 29 (tl_ 18 9535) rfl rfl hHeld ?_
        refine pw_ 6 31 (tl_ 18 9599) rfl rfl ?_
        refine tk0_ 7 32 (tl_ 18 9727) rfl rfl hHeld ?_
        refine tk0_ 9 34 (tl_ 18 10239) rfl rfl hHeld ?_
        refine pw_ 11 36 (tl_ 18 12287) rfl rfl ?_
        refine tk0_ 12 37 (tl_ 18 16383) rfl rfl hHeld ?_
        refine pw_ 14 39 (tl_ 18 32767) rfl rfl ?_
        refine tk0_ 15 40 (tl_ 18 65535) rfl rfl hHeld ?_
        refine pw_ 16 41 (tl_ 18 131071) rfl rfl ?_
        refine pw_ 17 6 (tl_ 18 262143) rfl rfl ?_
        refine done_ (done_of HT_.out (g1_)) ?_
        try go_wp2
        replace ln := Aside0.mk (Kd.R_drew ln.out)
        replace gu := Aside0.mk (Kd.S_drew gu.out)
        replace b7 := Aside0.mk (blk_drew b7.out)
        replace dj := Aside0.mk (blk_drew dj.out)
        replace h6 := Aside0.mk (blk_drew h6.out)
        replace HB := Aside0.mk (below_drew1 HB.out)
        obtain ⟨pi, k8, ai8⟩ := Kd.S_slice gu.out
        (first | subst ai8 | (injection ai8 with f1_ f2_ f3_; have f4_ := f1_.symm; have f5_ := f3_.symm; clear f1_ f2_ f3_; subst f4_; subst f5_))
        have bi3 : 0 ≤ (an : Int) := of_decide_eq_true (g0_)
        have bi4 : an < (g3.length : Int) := of_decide_eq_true (g0_)
        obtain ⟨yd, fs7, ee8, ee9, bi5, cv3, cv4⟩ := at_L1 (Kd.S_reads' gu.out).2.2 an bi3 bi4
        cases ee9
        obtain ⟨ce168, hce168, hMe168, hcc168⟩ := Kd.S_get gu.out [] an bi3 (by first | exact bi4 | exact of_decide_eq_true (g0_) | (have e_ := (Kd.S_reads' gu.out).1; omega))
        obtain ⟨ve168_0, rfl, ge168_0⟩ := hMe168
        have hv168_0 := hcc168 0 _ rfl
        rw [Nat.add_zero, show ((Kd.slice 3 (Kd.int .i64))).sz = 1 from rfl, Nat.mul_one] at hv168_0
        replace hv168_0 := Option.some.inj (hv168_0.symm.trans bi5)
        rw [hv168_0] at ge168_0
        have ab5 := Aside0.mk (show Kd.R (Kd.int .i64) 3 _ _ _ _ (rd_L1 g3 an) from ge168_0)
        clear hv168_0 ge168_0
        have HX168_0 := Aside0.mk bi5
        clear hcc168 hce168
        have ef0 := Aside0.mk cv4
        have fs8 := Aside0.mk cv3
        clear cv4 cv3
        replace bi3 := eq_true bi3
        replace bi4 := eq_true bi4
        have bz1 : 0 ≤ (an : Int) := of_decide_eq_true (g0_)
        have bz2 : an < (aa.length : Int) := of_decide_eq_true (g0_)
        obtain ⟨ef1, fs9, ef2, ef3, bi6, cv5, cv6⟩ := at_L1 cq.out an bz1 bz2
        have ef4 := bi6
        obtain rfl : r9 = ef1 := (by injection ef3)
        replace bi6 := cl_ HB bi6
        have cv7 := Aside0.mk cv6
        have ft0 := Aside0.mk cv5
        clear cv6 cv5
        replace bz1 := eq_true bz1
        replace bz2 := eq_true bz2
        have bz3 : 0 ≤ (a8 : Int) := of_decide_eq_true (g0_)
        have bz4 : a8 < ((rd_L1 aa an).length : Int) := of_decide_eq_true (g0_)
        obtain ⟨cv8, ef5, bi7⟩ := Kd.at_int cv7.out a8 bz3 bz4
        have ef6 := bi7
        cases ef5
        replace bi7 := cl_ HB bi7
        replace bz3 := eq_true bz3
        replace bz4 := eq_true bz4
        have p32 : 0 ≤ (a8 : Int) := of_decide_eq_true (g0_)
        have q32 : (a8 : Int) < (((rd_L1 g3 an).length : Int) : Int) := of_decide_eq_true (g0_)
        obtain ⟨vb, ft1, cv9, cw0, gl32, cl32, HG32⟩ := Kd.R_form ab5.out (by omega)
        (first | cases cv9 | (injection cv9 with ea_ en_ ec_; (first | subst ea_ | (injection ea_ with ea_; subst ea_)); subst ec_; clear en_))
        have GB32 := Aside0.mk cw0
        have GG32 := Aside0.mk HG32
        clear cw0 gl32 HG32
        obtain ⟨ef7, hf32_0⟩ := Kd.R_celln 0 ab5.out (a8 : Int) p32 q32
        replace p32 := eq_true p32
        replace q32 := eq_true q32
        have hq39 : (an : Int) < (g3.length : Int) := (by have h_ : (an : Int) < ((g3.length : Int) : Int) := of_decide_eq_true (g0_); first | exact h_ | (have e_ := (Kd.S_reads' gu.out).1; omega) | simpa only [List.length_set, List.length_set] using h_)
        obtain ⟨oki39, ce39, hcl39, hM39, hcc39, hok39, hbk39⟩ := Kd.S_borrow gu.out [] (an : Int) (of_decide_eq_true (g0_)) (by first | exact hq39 | exact of_decide_eq_true (g0_) | (have e_ := (Kd.S_reads' gu.out).1; omega))
        obtain ⟨ve39_0, rfl, ge39_0⟩ := hM39
        have hv39 := hcc39 0 _ rfl
        rw [Nat.add_zero, show ((Kd.slice 3 (Kd.int .i64))).sz = 1 from rfl, Nat.mul_one] at hv39
        replace hv39 := Option.some.inj (hv39.symm.trans HX168_0.out)
        subst hv39
        clear hcc39 hcl39
        replace ge39_0 := (show Kd.R (Kd.int .i64) 3 _ _ _ _ (rd_L1 g3 an) from ge39_0)
        have HP39 := Kd.R_putg ge39_0 (a8 : Int) (wrap64 ((rd (rd_L1 aa an) a8) - (ji29)))
        rw [← ed4.out] at HP39
        have HS39 := hbk39 HP39.2 (fun k_ e_ => by injection e_ with e_; subst e_; exact ge39_0.1 _ rfl) (x' := bx9) (Kd.M_row HP39.1)
        rw [← by0.out] at HS39
        have HQ39 := Aside0.mk HS39
        clear HP39 HS39 hbk39 hok39
        refine start_ (n := 18) (S := fun w' => w'.cell? ⟨mc, 0, none⟩ = some (me) ∧ w'.cell? ⟨mc, 1, none⟩ = some (.slice (some yd) g3.length k8) ∧ w'.cell? ⟨ff, 0, none⟩ = some (.slice ag ab.length ae) ∧ w'.cell? ⟨ff, 1, none⟩ = some (.slice (some r9) aa.length af) ∧ w'.cell? (yd.add (an).toNat) = some (.slice (some ⟨vb, 0, none⟩) (rd_L1 g3 an).length ee8) ∧ w'.cell? (r9.add (an).toNat) = some (.slice (some cv8) (rd_L1 aa an).length ef2) ∧ w'.cell? (cv8.add (a8).toNat) = some (.int .i64 (rd (rd_L1 aa an) a8))) (ds := [17]) (tl_ 18 0) (g1_) rfl (g1_) ⟨(blk_cell h6.out 0).trans rfl, (blk_cell h6.out 1).trans rfl, (blk_cell b7.out 0).trans rfl, (blk_cell b7.out 1).trans rfl, bi5, ((cl_ HB ef4).trans rfl), ((cl_ HB ef6).trans rfl)⟩ (fun hHeld => ?_); refine with_tabW spec_Netted.tab11 spec_Netted.bits11 (fun HT_ HW_ => ?_)
        generalize fw.drew = ts at ln gu b7 dj h6 HB GG32 ab5 HQ39 ef0 cv7 HX168_0 hf32_0 bi5 bi6 bi7 ef7 hHeld ⊢
        refine pw_ 0 42 (tl_ 18 1) rfl rfl ?_
        refine pw_ 2 44 (tl_ 18 5) rfl rfl ?_
        refine pw_ 5 47 (tl_ 18 37) rfl rfl ?_
        refine pw_ 6 48 (tl_ 18 101) rfl rfl ?_
        refine pw_ 8 50 (tl_ 18 357) rfl rfl ?_
        refine pw_ 11 53 (tl_ 18 2405) rfl rfl ?_
        refine pw_ 14 56 (tl_ 18 18789) rfl rfl ?_
        refine tk3_ 1 43 (tl_ 18 18791) rfl rfl hHeld ?_
        refine pw_ 3 45 (tl_ 18 18799) rfl rfl ?_
        refine tk3_ 4 46 (tl_ 18 18815) rfl rfl hHeld ?_
        refine tk3_ 7 49 (tl_ 18 18943) rfl rfl hHeld ?_
        refine pw_ 9 51 (tl_ 18 19455) rfl rfl ?_
        refine tk3_ 10 52 (tl_ 18 20479) rfl rfl hHeld ?_
        refine pw_ 12 54 (tl_ 18 24575) rfl rfl ?_
        refine tk3_ 13 55 (tl_ 18 32767) rfl rfl hHeld ?_
        refine pw_ 15 57 (tl_ 18 65535) rfl rfl ?_
        refine pw_ 16 58 (tl_ 18 131071) rfl rfl ?_
        refine last_ (i := 17) (N := none) (tl_ 18 262143) rfl rfl (one_of HT_.out (g1_)) (by decide) (fun K hK => ?_)
        refine skip_ (w1 := ?_) (by rfl) rfl ?_ ?_
        rotate_left
        ·go_simp
         rfl
        refine hK.out _ _ ?_
        clear hK K
        refine done_ (done_of HT_.out (g1_)) ?_
        try go_wp2
        have n0_ : Aside0 (Kd.R (Kd.int .i64) 3 (ts.setCell ⟨vb, (a8 : Int).toNat, none⟩ (.int .i64 (wrap64 ((rd (rd_L1 aa an) a8) - (ji29))))) w.heap.size (fun _ => True) me r7) := ⟨by (with_reducible repeat (first | apply Kd.R_alloc | apply Kd.R_drewN | apply Kd.R_drew)); exact Kd.R_mono (Kd.R_far (p := ⟨vb, (a8 : Int).toNat, none⟩) (Kd.R_far1 ln.out rfl ((ab5.out.1 _ rfl).1)) (fun _ hk => hk.2) (.int .i64 (wrap64 ((rd (rd_L1 aa an) a8) - (ji29))))) (fun _ hk => trivial)⟩
        have n1_ : Aside0 (Kd.S (Kd.slice 3 (Kd.int .i64)) 22 (ts.setCell ⟨vb, (a8 : Int).toNat, none⟩ (.int .i64 (wrap64 ((rd (rd_L1 aa an) a8) - (ji29))))) w.heap.size (fun k_ => some k_ ≠ (me : Value).ownBlock) (.slice (some yd) g3.length k8) i7) := ⟨uf3_ HQ39⟩
        have n2_ : Aside0 ((ts.setCell ⟨vb, (a8 : Int).toNat, none⟩ (.int .i64 (wrap64 ((rd (rd_L1 aa an) a8) - (ji29))))).heap[ff]? = some (.cells #[.slice ag ab.length ae, .slice (some r9) aa.length af] 25 (0, 0))) := ⟨by (with_reducible repeat (first | refine blk_drewN ?_ _ | refine blk_drew ?_ | refine blk_alloc ?_ _)); refine blk_far ?_ (by have h_ := Kd.R_ne ab5.out b7.out (by decide); intro e_; exact h_ (g5_)) _; exact uf0_ b7⟩
        have n3_ : Aside0 ((ts.setCell ⟨vb, (a8 : Int).toNat, none⟩ (.int .i64 (wrap64 ((rd (rd_L1 aa an) a8) - (ji29))))).heap[ez]? = some (.cells #[.slice none 0 0, .slice none 0 0] 25 (0, 0))) := ⟨by (with_reducible repeat (first | refine blk_drewN ?_ _ | refine blk_drew ?_ | refine blk_alloc ?_ _)); refine blk_far ?_ (by have h_ := Kd.R_ne ab5.out dj.out (by decide); intro e_; exact h_ (g5_)) _; exact uf0_ dj⟩
        have n4_ : Aside0 ((ts.setCell ⟨vb, (a8 : Int).toNat, none⟩ (.int .i64 (wrap64 ((rd (rd_L1 aa an) a8) - (ji29))))).heap[mc]? = some (.cells #[me, .slice (some yd) g3.length k8] 25 (0, 0))) := ⟨by (with_reducible repeat (first | refine blk_drewN ?_ _ | refine blk_drew ?_ | refine blk_alloc ?_ _)); refine blk_far ?_ (by have h_ := Kd.R_ne ab5.out h6.out (by decide); intro e_; exact h_ (g5_)) _; exact uf0_ h6⟩
        have n5_ : Aside0 (Below w.heap.size w (ts.setCell ⟨vb, (a8 : Int).toNat, none⟩ (.int .i64 (wrap64 ((rd (rd_L1 aa an) a8) - (ji29)))))) := ⟨l7⟩
        (try clear ln)
        (try clear gu)
        (try clear b7)
        (try clear dj)
        (try clear h6)
        (try clear HB)
        generalize (ts.setCell ⟨vb, (a8 : Int).toNat, none⟩ (.int .i64 (wrap64 ((rd (rd_L1 aa an) a8) - (ji29))))) = w41 at n0_ n1_ n2_ n3_ n4_ n5_ ⊢
        have ln := n0_
        have gu := n1_
        have b7 := n2_
        have dj := n3_
        have h6 := n4_
        have HB := n5_
        clear n0_ n1_ n2_ n3_ n4_ n5_
        replace ln := Aside0.mk (Kd.R_drew ln.out)
        replace gu := Aside0.mk (Kd.S_drew gu.out)
        replace b7 := Aside0.mk (blk_drew b7.out)
        replace dj := Aside0.mk (blk_drew dj.out)
        replace h6 := Aside0.mk (blk_drew h6.out)
        replace HB := Aside0.mk (below_drew1 HB.out)
        have bi8 : 0 ≤ (a8 : Int) := of_decide_eq_true (g0_)
        have bi9 : a8 < (i7.length : Int) := (by have h_ : (a8 : Int) < ((g3.length : Int) : Int) := of_decide_eq_true (g0_); first | (have e_ := (Kd.S_reads' gu.out).1; omega) | simpa only [by0.out, List.length_set] using h_)
        have ql174 : ((a8 : Int) < ((g3.length : Int) : Int)) = True := eq_true (of_decide_eq_true (g0_))
        obtain ⟨ef8, ft2, ef9, eg0, bj0, cw1, cw2⟩ := at_L1 (Kd.S_reads' gu.out).2.2 a8 bi8 bi9
        obtain rfl : yd = ef8 := (by injection eg0)
        obtain ⟨ce174, hce174, hMe174, hcc174⟩ := Kd.S_get gu.out [] a8 bi8 (by first | exact bi9 | exact of_decide_eq_true (g0_) | (have e_ := (Kd.S_reads' gu.out).1; omega))
        obtain ⟨ve174_0, rfl, ge174_0⟩ := hMe174
        have hv174_0 := hcc174 0 _ rfl
        rw [Nat.add_zero, show ((Kd.slice 3 (Kd.int .i64))).sz = 1 from rfl, Nat.mul_one] at hv174_0
        replace hv174_0 := Option.some.inj (hv174_0.symm.trans bj0)
        rw [hv174_0] at ge174_0
        have ab6 := Aside0.mk (show Kd.R (Kd.int .i64) 3 _ _ _ _ (rd_L1 i7 a8) from ge174_0)
        clear hv174_0 ge174_0
        have HX174_0 := Aside0.mk bj0
        clear hcc174 hce174
        have eg1 := Aside0.mk cw2
        have ft3 := Aside0.mk cw1
        clear cw2 cw1
        replace bi8 := eq_true bi8
        replace bi9 := eq_true bi9
        have bz5 : 0 ≤ (a8 : Int) := of_decide_eq_true (g0_)
        have bz6 : a8 < (aa.length : Int) := of_decide_eq_true (g0_)
        obtain ⟨eg2, ft4, eg3, eg4, bj1, cw3, cw4⟩ := at_L1 cq.out a8 bz5 bz6
        have eg5 := bj1
        obtain rfl : r9 = eg2 := (by injection eg4)
        replace bj1 := cl_ HB bj1
        have cw5 := Aside0.mk cw4
        have ft5 := Aside0.mk cw3
        clear cw4 cw3
        replace bz5 := eq_true bz5
        replace bz6 := eq_true bz6
        have bz7 : 0 ≤ (an : Int) := of_decide_eq_true (g0_)
        have bz8 : an < ((rd_L1 aa a8).length : Int) := of_decide_eq_true (g0_)
        obtain ⟨cw6, eg6, bj2⟩ := Kd.at_int cw5.out an bz7 bz8
        have eg7 := bj2
        cases eg6
        replace bj2 := cl_ HB bj2
        replace bz7 := eq_true bz7
        replace bz8 := eq_true bz8
        have p35 : 0 ≤ (an : Int) := of_decide_eq_true (g0_)
        have q35 : (an : Int) < (((rd_L1 i7 a8).length : Int) : Int) := of_decide_eq_true (g0_)
        obtain ⟨cw7, tt, bj3, cw8, gl35, cl35, HG35⟩ := Kd.R_form ab6.out (by omega)
        (first | cases bj3 | (injection bj3 with ea_ en_ ec_; (first | subst ea_ | (injection ea_ with ea_; subst ea_)); subst ec_; clear en_))
        have GB35 := Aside0.mk cw8
        have GG35 := Aside0.mk HG35
        clear cw8 gl35 HG35
        obtain ⟨pj, hf35_0⟩ := Kd.R_celln 0 ab6.out (an : Int) p35 q35
        replace p35 := eq_true p35
        replace q35 := eq_true q35
        have hq43 : (a8 : Int) < (i7.length : Int) := (by have h_ : (a8 : Int) < ((g3.length : Int) : Int) := of_decide_eq_true (g0_); first | exact h_ | (have e_ := (Kd.S_reads' gu.out).1; omega) | simpa only [by0.out, List.length_set] using h_)
        obtain ⟨oki43, ce43, hcl43, hM43, hcc43, hok43, hbk43⟩ := Kd.S_borrow gu.out [] (a8 : Int) (of_decide_eq_true (g0_)) (by first | exact hq43 | exact of_decide_eq_true (g0_) | (have e_ := (Kd.S_reads' gu.out).1; omega))
        obtain ⟨ve43_0, rfl, ge43_0⟩ := hM43
        have hv43 := hcc43 0 _ rfl
        rw [Nat.add_zero, show ((Kd.slice 3 (Kd.int .i64))).sz = 1 from rfl, Nat.mul_one] at hv43
        replace hv43 := Option.some.inj (hv43.symm.trans HX174_0.out)
        subst hv43
        clear hcc43 hcl43
        replace ge43_0 := (show Kd.R (Kd.int .i64) 3 _ _ _ _ (rd_L1 i7 a8) from ge43_0)
        have HP43 := Kd.R_putg ge43_0 (an : Int) (wrap64 ((rd (rd_L1 aa a8) an) - (ji29)))
        rw [← ed5.out] at HP43
        have HS43 := hbk43 HP43.2 (fun k_ e_ => by injection e_ with e_; subst e_; exact ge43_0.1 _ rfl) (x' := by2) (Kd.M_row HP43.1)
        rw [← ed6.out] at HS43
        have HQ43 := Aside0.mk HS43
        clear HP43 HS43 hbk43 hok43
        refine start_ (n := 18) (S := fun w' => w'.cell? ⟨mc, 0, none⟩ = some (me) ∧ w'.cell? ⟨mc, 1, none⟩ = some (.slice (some yd) g3.length k8) ∧ w'.cell? ⟨ff, 0, none⟩ = some (.slice ag ab.length ae) ∧ w'.cell? ⟨ff, 1, none⟩ = some (.slice (some r9) aa.length af) ∧ w'.cell? (yd.add (a8).toNat) = some (.slice (some ⟨cw7, 0, none⟩) (rd_L1 i7 a8).length ef9) ∧ w'.cell? (r9.add (a8).toNat) = some (.slice (some cw6) (rd_L1 aa a8).length eg3) ∧ w'.cell? (cw6.add (an).toNat) = some (.int .i64 (rd (rd_L1 aa a8) an))) (ds := [17]) (tl_ 18 0) (g1_) rfl (g1_) ⟨(blk_cell h6.out 0).trans rfl, (blk_cell h6.out 1).trans rfl, (blk_cell b7.out 0).trans rfl, (blk_cell b7.out 1).trans rfl, bj0, ((cl_ HB eg5).trans rfl), ((cl_ HB eg7).trans rfl)⟩ (fun hHeld => ?_); refine with_tabW spec_Netted.tab12 spec_Netted.bits12 (fun HT_ HW_ => ?_)
        generalize w41.drew = w42 at ln gu b7 dj h6 HB GG35 ab6 HQ39 HQ43 eg1 cw5 HX174_0 hf35_0 bj0 bj1 bj2 pj hHeld ⊢
        refine pw_ 0 59 (tl_ 18 1) rfl rfl ?_
        refine pw_ 2 61 (tl_ 18 5) rfl rfl ?_
        refine pw_ 5 64 (tl_ 18 37) rfl rfl ?_
        refine pw_ 6 65 (tl_ 18 101) rfl rfl ?_
        refine pw_ 8 67 (tl_ 18 357) rfl rfl ?_
        refine pw_ 11 70 (tl_ 18 2405) rfl rfl ?_
        refine pw_ 14 73 (tl_ 18 18789) rfl rfl ?_
        refine tk3_ 1 60 (tl_ 18 18791) rfl rfl hHeld ?_
        refine pw_ 3 62 (tl_ 18 18799) rfl rfl ?_
        refine tk3_ 4 63 (tl_ 18 18815) rfl rfl hHeld ?_
        refine tk3_ 7 66 (tl_ 18 18943) rfl rfl hHeld ?_
        refine pw_ 9 68 (tl_ 18 19455) rfl rfl ?_
        refine tk3_ 10 69 (tl_ 18 20479) rfl rfl hHeld ?_
        refine pw_ 12 71 (tl_ 18 24575) rfl rfl ?_
        refine tk3_ 13 72 (tl_ 18 32767) rfl rfl hHeld ?_
        refine pw_ 15 74 (tl_ 18 65535) rfl rfl ?_
        refine pw_ 16 75 (tl_ 18 131071) rfl rfl ?_
        refine last_ (i := 17) (N := none) (tl_ 18 262143) rfl rfl (one_of HT_.out (g1_)) (by decide) (fun K hK => ?_)
        refine skip_ (w1 := ?_) (by rfl) rfl ?_ ?_
        rotate_left
        ·go_simp
         rfl
        refine hK.out _ _ ?_
        clear hK K
        refine done_ (done_of HT_.out (g1_)) ?_
        try go_wp2
        go_roundg k2
        case measure => have := HK1.out; have := HK2.out; omega
        case rel => exact ⟨(wrap64 (a8 + 1)), (r7), (cu4), (me), (.slice (some yd) g3.length k8), (g3_), H', ⟨g20_⟩, ⟨by (with_reducible repeat (first | apply Kd.R_alloc | apply Kd.R_drewN | apply Kd.R_drew)); exact Kd.R_mono (Kd.R_far (p := ⟨cw7, (an : Int).toNat, none⟩) (Kd.R_far1 ln.out rfl ((ab6.out.1 _ rfl).1)) (fun _ hk => hk.2) (.int .i64 (wrap64 ((rd (rd_L1 aa a8) an) - (ji29))))) (fun _ hk => trivial)⟩, ⟨uf3_ HQ43⟩, ⟨by (with_reducible repeat (first | refine blk_drewN ?_ _ | refine blk_drew ?_ | refine blk_alloc ?_ _)); refine blk_far ?_ (by have h_ := Kd.R_ne ab6.out b7.out (by decide); intro e_; exact h_ (g5_)) _; exact uf0_ b7⟩, ⟨by (with_reducible repeat (first | refine blk_drewN ?_ _ | refine blk_drew ?_ | refine blk_alloc ?_ _)); refine blk_far ?_ (by have h_ := Kd.R_ne ab6.out dj.out (by decide); intro e_; exact h_ (g5_)) _; exact uf0_ dj⟩, ⟨by (with_reducible repeat (first | refine blk_drewN ?_ _ | refine blk_drew ?_ | refine blk_alloc ?_ _)); refine blk_far ?_ (by have h_ := Kd.R_ne ab6.out h6.out (by decide); intro e_; exact h_ (g5_)) _; exact uf0_ h6⟩, ⟨l7⟩⟩
       ·rw [if_neg ii] at H
        have xe := decide_eq_false ii
        clear ii
        have H' := Aside0.mk H
        clear H
        go_wp2
        go_roundg k2
        case measure => have := HK1.out; have := HK2.out; omega
        case rel => exact ⟨(wrap64 (an + 1)), (r7), (g3), (me), (va), (g3_), H', ⟨g20_⟩, ⟨uf2_ ln⟩, ⟨uf3_ gu⟩, ⟨uf0_ b7⟩, ⟨uf0_ dj⟩, ⟨uf0_ h6⟩, ⟨l7⟩⟩
    ·rw [if_neg fu] at H
     have ai7 := decide_eq_false fu
     clear fu
     simp only [Option.some.injEq, Prod.mk.injEq] at H
     obtain ⟨rfl, rfl⟩ := H
     have cw9 := uy.out
     have cx0 := uz.out
     have bz9 := as0.out
     have ca0 := bx5.out
     obtain ⟨ft6, ft7, ft8, ft9⟩ := blk2_ b7
     have cx1 := cu0.out
     have cx2 := bh8.out
     obtain ⟨bj4, bj5, bj6, bj7⟩ := blk2_ h6
     obtain ⟨ye, yf, ca1⟩ := Kd.R_slice ln.out
     subst ca1
     obtain ⟨ai9, aj0, aj1, aj2⟩ := blk2_ dj
     obtain ⟨pk, op, ca2⟩ := Kd.S_slice gu.out
     subst ca2
     go_wp2
     refine bodyPost_ret (results_cell_row rfl _ _ ez 25 #[.slice ye yc.length yf, .slice pk ab4.length op] (0, 0) _ rfl (by (with_reducible repeat (first | refine blk_drewN ?_ _ | refine blk_drew ?_ | refine blk_alloc ?_ _)); refine blk_put (cs := #[.slice ye yc.length yf, .slice none 0 0]) ?_ 1 _ rfl; refine blk_put (cs := #[.slice none 0 0, .slice none 0 0]) ?_ 0 _ rfl; exact uf0_ dj) Try.underlying25 rfl (g1_)) rfl ?_
     exact ⟨_, _, g4_, by (with_reducible repeat (first | apply Kd.R_alloc | apply Kd.R_drewN | apply Kd.R_drew)); exact Kd.R_mono (Kd.R_far (p := ⟨ez, 1, none⟩) (Kd.R_far (p := ⟨ez, 0, none⟩) (Kd.R_types ln.out dj.out (by decide)) (fun _ hk => hk.2) (.slice ye yc.length yf)) (fun _ hk => hk.2) (.slice pk ab4.length op)) (fun _ hk => trivial), by (with_reducible repeat (first | apply Kd.S_alloc | apply Kd.S_drewN | apply Kd.S_drew)); exact Kd.S_mono (Kd.S_far (p := ⟨ez, 1, none⟩) (Kd.S_far (p := ⟨ez, 0, none⟩) (Kd.S_types gu.out dj.out (by decide)) (fun _ hk => hk.2) (.slice ye yc.length yf)) (fun _ hk => hk.2) (.slice pk ab4.length op)) (fun _ hk => hk.1), l7⟩
 ·replace c3 := Bool.eq_false_iff.mpr c3
  subst c3
  replace H := ifn_ H
  simp only [Option.some.injEq, Prod.mk.injEq] at H
  obtain ⟨rfl, rfl⟩ := H
  go_enter Try.func41, Try.ntmps41
  go_wp2_with (first | ((with_reducible refine gate_dst (N := 1) rfl ?_); refine bx_ (N := 1) #[.slice ag ab.length ae, .slice ah aa.length af] 25 ?_; intro ff hg oq hbox hb; have b7 := Aside0.mk (hbox); have cs0 := Aside0.mk ((g17_ : w.heap.size ≤ ff)); have bf9 := Aside0.mk ((g17_ : w.heap.size ≤ ff)); replace HB := Aside0.mk (below_step (l7) hb); clear hb hbox hg) | ((with_reducible refine gate_dst (N := 2) rfl ?_); refine bx_ (N := 2) #[.slice none 0 0, .slice none 0 0] 25 ?_; intro ez hg w54 hbox hb; have dj := Aside0.mk (hbox); have cs1 := Aside0.mk ((g17_ : w.heap.size ≤ ez)); have bg0 := Aside0.mk ((g17_ : w.heap.size ≤ ez)); replace HB := Aside0.mk (below_step (l7) hb); have uy := Aside0.mk ((g73_ : ff ≠ ez)); have uz := Aside0.mk ((g74_ : ez ≠ ff)); replace b7 := bb_ b7 hb; clear hb hbox hg; have eg8 := uy.out; have eg9 := uz.out; obtain ⟨cx3, cx4, cx5, cx6⟩ := blk2_ b7) | ((with_reducible refine gate_callee (f := 42) rfl ?_); refine goesL_ (some 8) rfl rfl Try.func42 k_ rfl #[.agg #[.slice ag ab.length ae, .slice ah aa.length af]] rfl (g2_) ?_; (with_reducible refine (spec_BookOk.calls k _ _ ab _ _ aa false _ ?side1 ?side2 ?side3 ?side4 A2.out).mono ?_); (case side1 => exact uf1_ dd); (case side2 => exact d6.out); (case side3 => exact uf1_ cq); (case side4 => exact d7.out); rintro e w57 ⟨rfl, hb⟩; refine ⟨_, rfl, ?_⟩; replace b7 := bb_ b7 hb; replace dj := bb_ dj hb; replace HB := Aside0.mk (below_step (l7) hb); (try clear hb); (try clear hk hi); obtain ⟨fu0, fu1, fu2, fu3⟩ := blk2_ dj))
  refine bodyPost_ret (results_cell_row rfl _ _ ez 25 #[.slice none 0 0, .slice none 0 0] (0, 0) _ rfl (by (with_reducible repeat (first | refine blk_drewN ?_ _ | refine blk_drew ?_ | refine blk_alloc ?_ _)); refine blk_put (cs := #[.slice none 0 0, .slice none 0 0]) ?_ 1 _ rfl; refine blk_put (cs := #[.slice none 0 0, .slice none 0 0]) ?_ 0 _ rfl; exact uf0_ dj) Try.underlying25 rfl (g1_)) rfl ?_
  exact ⟨_, _, g4_, g16_, g34_, l7⟩
end Go.Proofs.Ytfooakkhkehpiaa.PU
