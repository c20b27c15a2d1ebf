/- FnLotOk: for every input the law holds. No condition. -/
import Derived.Test.YtbnkiikpolcpkaaZFnLotOk1
import Derived.Test.YtbnkiikpolcpkaaZFnLotOk2
import Derived.Test.YtbnkiikpolcpkaaZFnLotOk3
import Derived.SizedLaws
import Derived.ChangeSlices
import Derived.Test.YtbnkiikpolcpkaaRows
import Derived.WalkKit
import Derived.ProofKit
import Derived.OpenShut
import Derived.ShutString
import Derived.ChangeOld
import Derived.Below
namespace Go.Proofs.Ytbnkiikpolcpkaa.PU
open Go.RowKit Go.Proofs.YtbnkiikpolcpkaaW.PrintWords Go.Proofs.YtbnkiikpolcpkaaW.PrintLast Go.Proofs.YtbnkiikpolcpkaaW.PrintMore
attribute [local go_sem] max2_int min2_int max_two min_two max_three min_three max_four min_four   -- for this text's walks alone
set_option linter.unusedVariables false
set_option linter.unusedSimpArgs false
def spec_l20Lot.l0 : Nat → Int → List Int → Int → List Int → Int → Option (List Int × Int)
  | 0, _, _, _, _, _ => none
  | k + 1, x1, x5, x6, x1000, x1001 => if x6 < x1 then ((some (([1, 1, 0] : List Int) : List Int)).bind fun y375 => ((spec_l20Rd_pick.f k x1000 x1001 3).bind fun bt378 => (if 0 ≤ bt378.1 then (if bt378.1 < (y375.length : Int) then (if x5.length < 17592186044416 then (spec_l20Lot.l0 k x1 (x5 ++ [rd y375 bt378.1]) (wrap64 (x6 + 1)) x1000 bt378.2) else (none)) else (none)) else (none)))) else (some (x5, x1001))
def spec_l20Lot.f (k : Nat) (s0_0 : List Int) (s0_1 : Int) (a1 : Int) : Option (List Int × Int) := spec_l20Lot.l0 k a1 (([] : List Int)) 0 s0_0 s0_1
theorem spec_l20Lot.mono_l : ∀ k, (∀ y0 y1 y2 y3 y4, LeO (spec_l20Lot.l0 k y0 y1 y2 y3 y4) (spec_l20Lot.l0 (k + 1) y0 y1 y2 y3 y4))
  | 0 => fun _ _ _ _ _ r h => by simp [spec_l20Lot.l0] at h
  | k + 1 => by
    have ih0 := spec_l20Lot.mono_l k
    · intro y0 y1 y2 y3 y4
      unfold spec_l20Lot.l0
      repeat' first
      | (with_reducible exact ih0 _ _ _ _ _)
      | (with_reducible exact spec_l20Rd_pick.mono _ _ _ _)
      | (with_reducible exact LeO.refl _)
      | (with_reducible exact LeO.none _)
      | (with_reducible refine LeO.ite ?_ ?_)
      | (with_reducible refine LeO.bind ?_ (fun _ => ?_))
      | exact ih0 _ _ _ _ _
      | exact spec_l20Rd_pick.mono _ _ _ _
      | exact LeO.none _
      | refine LeO.ite ?_ ?_
      | refine LeO.bind ?_ (fun _ => ?_)
theorem spec_l20Lot.mono : ∀ a0 a1 a2 k, LeO (spec_l20Lot.f k a0 a1 a2) (spec_l20Lot.f (k + 1) a0 a1 a2) := by
  intro a0 a1 a2 k
  have ih0 := spec_l20Lot.mono_l k
  unfold spec_l20Lot.f
  repeat' first
      | (with_reducible exact ih0 _ _ _ _ _)
      | (with_reducible exact spec_l20Rd_pick.mono _ _ _ _)
      | (with_reducible exact LeO.refl _)
      | (with_reducible exact LeO.none _)
      | (with_reducible refine LeO.ite ?_ ?_)
      | (with_reducible refine LeO.bind ?_ (fun _ => ?_))
      | exact ih0 _ _ _ _ _
      | exact spec_l20Rd_pick.mono _ _ _ _
      | exact LeO.none _
      | refine LeO.ite ?_ ?_
      | refine LeO.bind ?_ (fun _ => ?_)
set_option maxHeartbeats 8000000 in
set_option maxRecDepth 100000 in
theorem spec_l20Lot.calls (k : Nat) (g : Nat) (s0_0 : List Int) (s0_1 : Int) (a1 : Int) (r1 : List Int) (r2 : Int) (w0 w : World) (hI : IsS65 w0 w g s0_0 s0_1) (hB : Below w0.heap.size w0 w) (h : spec_l20Lot.f k s0_0 s0_1 a1 = some (r1, r2)) :
    Calls Try.prog 55 #[.pointer (some ⟨g, 0, none⟩), .int .i64 a1] w fun e w' => ∃ v0_ : Value, e = .returned (v0_) ∧ Kd.R (Kd.int .i64) 3 w' w.heap.size (fun _ => True) v0_ r1 ∧ IsS65 w0 w' g s0_0 r2 ∧ Below w0.heap.size w0 w' ∧ KeepBut w w' g none := by
  have HI0 := Aside0.mk hI
  have HK := Aside0.mk (KeepBut.refl w g none)
  have HL := Aside0.mk hB.size
  clear hI
  have HW0 := Aside0.mk hB.size
  have HB := Aside0.mk hB
  clear hB
  have H : (spec_l20Lot.l0 k a1 (([] : List Int)) 0 s0_0 s0_1) = some (r1, r2) := h
  clear h
  obtain ⟨y372, hy372⟩ : ∃ y_ : List Int, y_ = (([] : List Int)) := ⟨_, rfl⟩
  replace H : (spec_l20Lot.l0 k a1 y372 0 s0_0 s0_1) = some (r1, r2) := by first | (rw [hy372]; with_reducible exact H) | (have H2_ := (Option.bind_some _ _).symm.trans H; rw [hy372]; with_reducible exact H2_) | (have H2_ := (Option.bind_some _ _).symm.trans H; with_reducible exact H2_) | with_reducible exact H | (rw [hy372]; exact H) | exact H
  have Ny372 := Aside0.mk hy372
  clear hy372
  have H' := Aside0.mk H
  clear H
  go_enter Try.func55, Try.ntmps55
  go_wp2_with (first | ((with_reducible refine gate_dst (N := 7) rfl ?_); refine Kd.R_lit (Kd.int .i64) _ 3 ?hg (N := 7) ?hd (xs := ([] : List Int)) (inner := []) (ok := fun _ => True) (okp := fun _ => True) ?hr ?hp (fun _ hk => hk) trivial (Below.refl _ _) (Nat.le_refl _) (by simp) ?_; (case hd => rfl); (case hg => rfl); (case hr => first | (go_simp; done) | (go_simp; rfl)); (case hp => exact (Reps.none _ _)); intro v373 w3 ho4 hb hg_ hnew_; clear hg_ hnew_; (first | rw [← Ny372.out] at ho4 | (simp only [Int.reduceToNat] at ho4; rw [← Ny372.out] at ho4)); have n0_ := Aside0.mk (Kd.R_lower ho4 (keep_size (w := w) (g := g) (row := none) (by repeat (first | (with_reducible first | exact HK.out | apply KeepBut.set_ | apply keep_drewN | apply keep_drew | apply keep_alloc) | exact HK.out)))); have n1_ := Aside0.mk (IsS65.below (by repeat (first | (with_reducible first | exact HI0.out | apply IsS65.alloc | apply IsS65.drewN | apply IsS65.drew | apply IsS65.set_1) | exact HI0.out)) hb); have n2_ := Aside0.mk (KeepBut.trans (by repeat (first | (with_reducible first | exact HK.out | apply KeepBut.set_ | apply keep_drewN | apply keep_drew | apply keep_alloc) | exact HK.out)) (KeepBut.of_below hb g none) (.inl rfl)); have n3_ := Aside0.mk (below_step (by repeat (first | (with_reducible first | exact HB.out | apply below_alloc | apply pw_below_drewN | apply below_drew1 | refine below_set ?_ (IsS65.ge HI0.out)) | exact HB.out)) hb); clear HI0; clear HK; clear HB; have HO374 := n0_; have HI0 := n1_; have HK := n2_; have HB := n3_; clear n0_ n1_ n2_ n3_; clear hb ho4))
  go_loopg [5, 6] k (fun kq v5 v6 w' => ∃ (x5_1 : List Int) (x6_1 : Int) (x1001_1 : Int), v6 = .int .i64 x6_1 ∧ Aside0 (spec_l20Lot.l0 kq a1 x5_1 x6_1 s0_0 x1001_1 = some (r1, r2)) ∧ Aside0 (kq ≤ k) ∧ Aside0 (Kd.R (Kd.int .i64) 3 w' w.heap.size (fun _ => True) v5 x5_1) ∧ Aside0 (IsS65 w0 w' g s0_0 x1001_1) ∧ Aside0 (KeepBut w w' g none) ∧ Aside0 (Below w0.heap.size w0 w'))
  case atStart => exact ⟨(y372), (0), (s0_1), (by first | rfl | (simp; done) | (simp [*]; done)), H', ⟨Nat.le_refl _⟩, ⟨by (with_reducible repeat (first | apply Kd.R_alloc | apply Kd.R_drewN | apply Kd.R_drew)); exact HO374.out⟩, ⟨by repeat (first | (with_reducible first | exact HI0.out | apply IsS65.alloc | apply IsS65.drewN | apply IsS65.drew | apply IsS65.set_1) | exact HI0.out)⟩, ⟨by repeat (first | (with_reducible first | exact HK.out | apply KeepBut.set_ | apply keep_drewN | apply keep_drew | apply keep_alloc) | exact HK.out)⟩, ⟨by repeat (first | (with_reducible first | exact HB.out | apply below_alloc | apply pw_below_drewN | apply below_drew1 | refine below_set ?_ (IsS65.ge HI0.out)) | exact HB.out)⟩⟩
  case round =>
    clear H'
    try clear p2
    obtain ⟨x5_1, x6_1, x1001_1, rfl, HA, HK1, HO_5, HI0, HK, HB⟩ := hrel
    cases gk with
    | zero => exact absurd HA.out (by simp [spec_l20Lot.l0])
    | succ k1 =>
      have H := HA.out
      clear HA
      simp only [spec_l20Lot.l0] at H
      by_cases c5 : x6_1 < a1
      · rw [if_pos c5] at H
        have c5b0 : decide (x6_1 < a1) = true := decide_eq_true c5
        clear c5
        obtain ⟨y375, hy375⟩ : ∃ y_ : List Int, y_ = (([1, 1, 0] : List Int)) := ⟨_, rfl⟩
        replace H : ((spec_l20Rd_pick.f k1 s0_0 x1001_1 3).bind fun bt378 => (if 0 ≤ bt378.1 then (if bt378.1 < (y375.length : Int) then (if x5_1.length < 17592186044416 then (spec_l20Lot.l0 k1 a1 (x5_1 ++ [rd y375 bt378.1]) (wrap64 (x6_1 + 1)) s0_0 bt378.2) else (none)) else (none)) else (none))) = some (r1, r2) := by first | (rw [hy375]; with_reducible exact H) | (have H2_ := (Option.bind_some _ _).symm.trans H; rw [hy375]; with_reducible exact H2_) | (have H2_ := (Option.bind_some _ _).symm.trans H; with_reducible exact H2_) | with_reducible exact H | (rw [hy375]; exact H) | exact H
        have Ny375 := Aside0.mk hy375
        clear hy375
        replace H := Option.bind_eq_some_iff.mp H
        obtain ⟨⟨t378, t379⟩, A60, H⟩ := H
        replace H : (if 0 ≤ t378 then (if t378 < (y375.length : Int) then (if x5_1.length < 17592186044416 then (spec_l20Lot.l0 k1 a1 (x5_1 ++ [rd y375 t378]) (wrap64 (x6_1 + 1)) s0_0 t379) else (none)) else (none)) else (none)) = some (r1, r2) := H
        have A6 := Aside0.mk A60
        clear A60
        by_cases c7 : 0 ≤ t378
        · rw [if_pos c7] at H
          have c7b0 : decide (0 ≤ t378) = true := decide_eq_true c7
          clear c7
          by_cases c8 : t378 < (y375.length : Int)
          · rw [if_pos c8] at H
            have c8b0 : decide (t378 < (y375.length : Int)) = true := decide_eq_true c8
            clear c8
            by_cases c9 : x5_1.length < 17592186044416
            · rw [if_pos c9] at H
              have LMc9 := Aside0.mk c9
              clear c9
              obtain ⟨y381, hy381⟩ : ∃ y_ : List Int, y_ = (x5_1 ++ [rd y375 t378]) := ⟨_, rfl⟩
              replace H : (spec_l20Lot.l0 k1 a1 y381 (wrap64 (x6_1 + 1)) s0_0 t379) = some (r1, r2) := by first | (rw [hy381]; with_reducible exact H) | (have H2_ := (Option.bind_some _ _).symm.trans H; rw [hy381]; with_reducible exact H2_) | (have H2_ := (Option.bind_some _ _).symm.trans H; with_reducible exact H2_) | with_reducible exact H | (rw [hy381]; exact H) | exact H
              have Ny381 := Aside0.mk hy381
              clear hy381
              have H' := Aside0.mk H
              clear H
              go_wp2_with (first | ((with_reducible refine gate_dst (N := 14) rfl ?_); refine Kd.R_lit (Kd.int .i64) _ 3 ?hg (N := 14) ?hd (xs := ([1, 1, 0] : List Int)) (inner := [.int .i64 1, .int .i64 1, .int .i64 0]) (ok := fun _ => True) (okp := fun _ => True) ?hr ?hp (fun _ hk => hk) trivial (Below.refl _ _) (Nat.le_refl _) (by simp) ?_; (case hd => rfl); (case hg => rfl); (case hr => first | (go_simp; done) | (go_simp; rfl)); (case hp => exact (Reps.one (show Kd.M (Kd.int .i64) _ _ _ 1 [.int .i64 1] from rfl) (Reps.one (show Kd.M (Kd.int .i64) _ _ _ 1 [.int .i64 1] from rfl) (Reps.one (show Kd.M (Kd.int .i64) _ _ _ 0 [.int .i64 0] from rfl) (Reps.none _ _))))); intro v376 w10 ho11 hb hg_ hnew_; clear hg_ hnew_; (first | rw [← Ny375.out] at ho11 | (simp only [Int.reduceToNat] at ho11; rw [← Ny375.out] at ho11)); have n0_ := Aside0.mk (Kd.R_elder' (by (with_reducible repeat (first | apply Kd.R_alloc | apply Kd.R_drewN | apply Kd.R_drew)); exact HO_5.out) (Kd.R_base ho11) hb); have n1_ := Aside0.mk (Kd.R_lower (Kd.R_new' ho11 (Kd.R_lt (by (with_reducible repeat (first | apply Kd.R_alloc | apply Kd.R_drewN | apply Kd.R_drew)); exact HO_5.out))) (keep_size (w := w) (g := g) (row := none) (by repeat (first | (with_reducible first | exact HK.out | apply KeepBut.set_ | apply keep_drewN | apply keep_drew | apply keep_alloc) | exact HK.out)))); have n2_ := Aside0.mk (IsS65.below (by repeat (first | (with_reducible first | exact HI0.out | apply IsS65.alloc | apply IsS65.drewN | apply IsS65.drew | apply IsS65.set_1) | exact HI0.out)) hb); have n3_ := Aside0.mk (KeepBut.trans (by repeat (first | (with_reducible first | exact HK.out | apply KeepBut.set_ | apply keep_drewN | apply keep_drew | apply keep_alloc) | exact HK.out)) (KeepBut.of_below hb g none) (.inl rfl)); have n4_ := Aside0.mk (below_step (by repeat (first | (with_reducible first | exact HB.out | apply below_alloc | apply pw_below_drewN | apply below_drew1 | refine below_set ?_ (IsS65.ge HI0.out)) | exact HB.out)) hb); clear HO_5; clear HI0; clear HK; clear HB; have HO_5 := n0_; have HO377 := n1_; have HI0 := n2_; have HK := n3_; have HB := n4_; clear n0_ n1_ n2_ n3_ n4_; clear hb ho11) | ((with_reducible refine gate_callee (f := 56) rfl ?_); refine goesL_ (some 16) rfl rfl Try.func56 (by kernel_rfl) rfl #[.pointer (some ⟨g, 0, none⟩), .int .i64 3] rfl (by (try simp only [List.map_toArray, List.map_cons, List.map_nil]); first | done | rfl | (simp only [List.length_drop, List.length_take]; rfl)) ?_; (with_reducible refine (spec_l20Rd_pick.calls k1 g s0_0 x1001_1 3 t378 t379 w0 _ ?side1 ?side2 A6.out).mono ?_); (case side1 => repeat (first | (with_reducible first | exact HI0.out | apply IsS65.alloc | apply IsS65.drewN | apply IsS65.drew | apply IsS65.set_1) | exact HI0.out)); (case side2 => repeat (first | (with_reducible first | exact HB.out | apply below_alloc | apply pw_below_drewN | apply below_drew1 | refine below_set ?_ (IsS65.ge HI0.out)) | exact HB.out)); rintro e w12 ⟨rfl, hi, hb, hk⟩; refine ⟨_, rfl, ?_⟩; have n0_ := Aside0.mk (Kd.R_mono (Kd.R_keep (IsS65.apart (show IsS65 w0 _ g s0_0 x1001_1 from by repeat (first | (with_reducible first | exact HI0.out | apply IsS65.alloc | apply IsS65.drewN | apply IsS65.drew | apply IsS65.set_1) | exact HI0.out)) (by (with_reducible repeat (first | apply Kd.R_alloc | apply Kd.R_drewN | apply Kd.R_drew)); exact HO_5.out) (by decide)) hk (fun _ h => h.2)) (fun _ h => h.1)); have n1_ := Aside0.mk (Kd.R_mono (Kd.R_keep (IsS65.apart (show IsS65 w0 _ g s0_0 x1001_1 from by repeat (first | (with_reducible first | exact HI0.out | apply IsS65.alloc | apply IsS65.drewN | apply IsS65.drew | apply IsS65.set_1) | exact HI0.out)) (by (with_reducible repeat (first | apply Kd.R_alloc | apply Kd.R_drewN | apply Kd.R_drew)); exact HO377.out) (by decide)) hk (fun _ h => h.2)) (fun _ h => h.1)); have n2_ := Aside0.mk (KeepBut.trans (by repeat (first | (with_reducible first | exact HK.out | apply KeepBut.set_ | apply keep_drewN | apply keep_drew | apply keep_alloc) | exact HK.out)) hk (.inl rfl)); have n3_ := Aside0.mk (hb); have n4_ := Aside0.mk (hi); clear HO_5; clear HO377; clear HK; clear HB; clear HI0; have HO_5 := n0_; have HO377 := n1_; have HK := n2_; have HB := n3_; have HI0 := n4_; clear n0_ n1_ n2_ n3_ n4_; (try clear hb); (try clear hb2); (try clear hk); (try clear hi); obtain ⟨Ao13, co13, eo13⟩ := Kd.R_slice HO377.out; subst eo13; have p380 : 0 ≤ (t378 : Int) := of_decide_eq_true (by first | (with_reducible assumption) | assumption); have q380 : t378 < (y375.length : Int) := of_decide_eq_true (by first | (with_reducible assumption) | assumption); obtain ⟨ad380, e380, hx380_0⟩ := Kd.at_int (Kd.R_reads' HO377.out).2.2 t378 p380 q380; cases e380; replace p380 := eq_true p380; replace q380 := eq_true q380) | ((with_reducible refine gate_builtin (b := .append) (xs := #[.tmp 13, .tmp 19]) rfl ?_); at_builtin; refine Kd.R_append (Kd.int .i64) w.heap.size rfl (.tmp 13) (.tmp 19) 22 3 (.int .i64 0) 8 rfl Try.underlying22 info3 rfl (by decide) (by omega) u5 x5_1 (rd y375 t378) [.int .i64 (rd y375 t378)] (fun k_ => some k_ ≠ (.slice (some ad380) y375.length co13 : Value).ownBlock) (fun _ => False) rfl rfl ?aP (fun _ hk => hk.elim) ?aF ?aO (Below.refl _ _) ?aS ?aL ?_; (case aP => exact rfl); (case aF => exact (fun k_ hk => Kd.fresh' (Kd.R_lt (by (with_reducible repeat (first | apply Kd.R_alloc | apply Kd.R_drewN | apply Kd.R_drew)); exact HO377.out)) k_ hk)); (case aO => exact (by (with_reducible repeat (first | apply Kd.R_alloc | apply Kd.R_drewN | apply Kd.R_drew)); exact Kd.R_mono HO_5.out (fun _ hk => hk.2))); (case aS => exact (keep_size (w := w) (g := g) (row := none) (by repeat (first | (with_reducible first | exact HK.out | apply KeepBut.set_ | apply keep_drewN | apply keep_drew | apply keep_alloc) | exact HK.out)))); (case aL => have := LMc9.out; omega); intro v382 w14 ho hb hg hat; rw [← Ny381.out] at ho; have n0_ := Aside0.mk (IsS65.grown (by repeat (first | (with_reducible first | exact HI0.out | apply IsS65.alloc | apply IsS65.drewN | apply IsS65.drew | apply IsS65.set_1) | exact HI0.out)) hg (IsS65.own_ne HI0.out HO_5.out (by decide))); have n1_ := Aside0.mk (Kd.R_after (ok := (fun _ => True)) (by (with_reducible repeat (first | apply Kd.R_alloc | apply Kd.R_drewN | apply Kd.R_drew)); exact HO377.out) hg hat); have n2_ := Aside0.mk (below_weaken (by repeat (first | (with_reducible first | exact HB.out | apply below_alloc | apply pw_below_drewN | apply below_drew1 | refine below_set ?_ (IsS65.ge HI0.out)) | exact HB.out)) HL.out hb); have n3_ := Aside0.mk (KeepBut.trans (by repeat (first | (with_reducible first | exact HK.out | apply KeepBut.set_ | apply keep_drewN | apply keep_drew | apply keep_alloc) | exact HK.out)) (KeepBut.of_grown hg g) (Kd.R_base2 HO_5.out)); have n4_ := Aside0.mk (ho); clear HI0; clear HO377; clear HB; clear HK; clear HO_5; have HI0 := n0_; have HO377 := n1_; have HB := n2_; have HK := n3_; have HO383 := n4_; clear n0_ n1_ n2_ n3_ n4_; clear ho hb hg hat))
              go_roundg k1
              case measure => have := HK1.out; omega
              case rel => exact ⟨(y381), (wrap64 (x6_1 + 1)), (t379), (by first | rfl | (simp; done) | (simp [*]; done)), H', ⟨by have := HK1.out; omega⟩, ⟨by (with_reducible repeat (first | apply Kd.R_alloc | apply Kd.R_drewN | apply Kd.R_drew)); exact Kd.R_mono HO383.out (fun _ hk => trivial)⟩, ⟨by repeat (first | (with_reducible first | exact HI0.out | apply IsS65.alloc | apply IsS65.drewN | apply IsS65.drew | apply IsS65.set_1) | exact HI0.out)⟩, ⟨by repeat (first | (with_reducible first | exact HK.out | apply KeepBut.set_ | apply keep_drewN | apply keep_drew | apply keep_alloc) | exact HK.out)⟩, ⟨by repeat (first | (with_reducible first | exact HB.out | apply below_alloc | apply pw_below_drewN | apply below_drew1 | refine below_set ?_ (IsS65.ge HI0.out)) | exact HB.out)⟩⟩
            · rw [if_neg c9] at H
              exact absurd H (by simp)
          · rw [if_neg c8] at H
            exact absurd H (by simp)
        · rw [if_neg c7] at H
          exact absurd H (by simp)
      · rw [if_neg c5] at H
        have c5b0 : decide (x6_1 < a1) = false := decide_eq_false c5
        clear c5
        simp only [Option.some.injEq, Prod.mk.injEq] at H
        obtain ⟨rfl, rfl⟩ := H
        go_wp2
        go_ret
        exact ⟨_, by first | rfl | (simp [errW_none, errW_some] <;> rfl) | (simp [*, errW_none, errW_some] <;> rfl), by (with_reducible repeat (first | apply Kd.R_alloc | apply Kd.R_drewN | apply Kd.R_drew)); exact HO_5.out, by repeat (first | (with_reducible first | exact HI0.out | apply IsS65.alloc | apply IsS65.drewN | apply IsS65.drew | apply IsS65.set_1) | exact HI0.out), by repeat (first | (with_reducible first | exact HB.out | apply below_alloc | apply pw_below_drewN | apply below_drew1 | refine below_set ?_ (IsS65.ge HI0.out)) | exact HB.out), by repeat (first | (with_reducible first | exact HK.out | apply KeepBut.set_ | apply keep_drewN | apply keep_drew | apply keep_alloc) | exact HK.out)⟩
end Go.Proofs.Ytbnkiikpolcpkaa.PU

namespace Go.Proofs.Ytbnkiikpolcpkaa.PU
open Go.RowKit Go.Proofs.YtbnkiikpolcpkaaW.PrintWords Go.Proofs.YtbnkiikpolcpkaaW.PrintLast Go.Proofs.YtbnkiikpolcpkaaW.PrintMore
attribute [local go_sem] max2_int min2_int max_two min_two max_three min_three max_four min_four   -- for this text's walks alone
set_option linter.unusedVariables false
set_option linter.unusedSimpArgs false
def spec_DrawAfterLot.f (k : Nat) (l0 : List Int) : Option (List Int × (List (S47)) × List Int) := (spec_l20Open.f l0).bind fun bt384 => ((spec_l20Waits.f k bt384.1 bt384.2 14).bind fun bt387 => ((spec_l20Rd_pick.f k bt384.1 bt387.2.2 20).bind fun bt394 => ((spec_l20Lot.f k bt384.1 bt394.2 (wrap64 ((bt387.2.1.length : Int) + (wrap64 (Int.tdiv bt394.1 19))))).bind fun bt396 => (some (bt387.1, bt387.2.1, bt396.1)))))
end Go.Proofs.Ytbnkiikpolcpkaa.PU

namespace Go.Proofs.Ytbnkiikpolcpkaa.PU
open Go.RowKit Go.Proofs.YtbnkiikpolcpkaaW.PrintWords Go.Proofs.YtbnkiikpolcpkaaW.PrintLast Go.Proofs.YtbnkiikpolcpkaaW.PrintMore
attribute [local go_sem] max2_int min2_int max_two min_two max_three min_three max_four min_four   -- for this text's walks alone
set_option linter.unusedVariables false
set_option linter.unusedSimpArgs false
def laws_FnAfterLot.f (k : Nat) (l0 : List Int) : Option (Bool) := if (l0.length : Int) > 1048576 then (some true) else ((spec_DrawAfterLot.f k l0).bind fun bt403 => ((impl_AfterLot.f k bt403.1 bt403.2.1 bt403.2.2).bind fun t412 => ((spec_AfterLot.f k bt403.1 bt403.2.1 bt403.2.2).bind fun t415 => ((laws_sameInts.f k t412 t415).bind fun t418 => (if t418 = true then (if (t412.length : Int) = 0 then ((laws_alive.f k).bind fun t419 => (some t419)) else ((laws_sumOf.f k t412).bind fun t420 => ((laws_sumOf.f k bt403.1).bind fun t421 => (if t420 = t421 then (some ((t412.length : Int) == (bt403.1.length : Int))) else (some false))))) else (some false))))))
def laws_FnAfterLot.Pure : Prop := ∀ (l0 : List Int), l0.length ≤ maxLen → l0.length * 1 ≤ 140737488351232 → (∀ x ∈ l0, (Lit.int .u8 x).wf = true) → ∃ k, laws_FnAfterLot.f k l0 = some true
end Go.Proofs.Ytbnkiikpolcpkaa.PU

namespace Go.Proofs.Ytbnkiikpolcpkaa.PU
open Go.RowKit Go.Proofs.YtbnkiikpolcpkaaW.PrintWords Go.Proofs.YtbnkiikpolcpkaaW.PrintLast Go.Proofs.YtbnkiikpolcpkaaW.PrintMore
attribute [local go_sem] max2_int min2_int max_two min_two max_three min_three max_four min_four   -- for this text's walks alone
set_option linter.unusedVariables false
set_option linter.unusedSimpArgs false
def IndexFunc_greatestLot1.idx (p : Int → Bool) : List Int → Nat → Int
  | [], _ => -1
  | x :: r, i => if p x = true then (i : Int) else IndexFunc_greatestLot1.idx p r (i + 1)
def IndexFunc_greatestLot1.f (l0 : List Int) : Option (Int) := some (IndexFunc_greatestLot1.idx (fun x => decide (x < 0)) l0 0)
end Go.Proofs.Ytbnkiikpolcpkaa.PU

namespace Go.Proofs.Ytbnkiikpolcpkaa.PU
open Go.RowKit Go.Proofs.YtbnkiikpolcpkaaW.PrintWords Go.Proofs.YtbnkiikpolcpkaaW.PrintLast Go.Proofs.YtbnkiikpolcpkaaW.PrintMore
attribute [local go_sem] max2_int min2_int max_two min_two max_three min_three max_four min_four   -- for this text's walks alone
set_option linter.unusedVariables false
set_option linter.unusedSimpArgs false
mutual
def impl_greatestLot.l0 : Nat → List Int → List (S47) → List Int → Int → Int → Option (List Int)
  | 0, _, _, _, _, _ => none
  | k + 1, x0, x1, x5, x10, x11 => if x11 < x10 then (if x5.length < 17592186044416 then (impl_greatestLot.l0 k x0 x1 (x5 ++ [1]) x10 (wrap64 (x11 + 1))) else (none)) else (impl_greatestLot.l1 k x0 x1 x5)
def impl_greatestLot.l1 : Nat → List Int → List (S47) → List Int → Option (List Int)
  | 0, _, _, _ => none
  | k + 1, x0, x1, x5 => (impl_afterLot.f k x0 x1 x5).bind fun t545 => ((IndexFunc_greatestLot1.f t545).bind fun t548 => (if t548 < 0 then (some x5) else (impl_greatestLot.l2 k x0 x1 x5 t548 (wrap64 ((x1.length : Int) - 1)))))
def impl_greatestLot.l2 : Nat → List Int → List (S47) → List Int → Int → Int → Option (List Int)
  | 0, _, _, _, _, _ => none
  | k + 1, x0, x1, x5, x6, x7 => if x7 ≥ 0 then (if 0 ≤ x7 then (if x7 < (x1.length : Int) then (if ((rd_T47 x1 x7).f0) = x6 then (if x7 < (x5.length : Int) then (if (rd x5 x7) = 1 then (impl_greatestLot.l1 k x0 x1 (x5.set (x7 : Int).toNat 0)) else (impl_greatestLot.l2 k x0 x1 x5 x6 (wrap64 (x7 - 1)))) else (none)) else (impl_greatestLot.l2 k x0 x1 x5 x6 (wrap64 (x7 - 1)))) else (none)) else (none)) else (impl_greatestLot.l1 k x0 x1 x5)
end
def impl_greatestLot.f (k : Nat) (l0 : List Int) (l1 : List (S47)) : Option (List Int) := impl_greatestLot.l0 k l0 l1 (([] : List Int)) (l1.length : Int) 0
end Go.Proofs.Ytbnkiikpolcpkaa.PU

namespace Go.Proofs.Ytbnkiikpolcpkaa.PU
open Go.RowKit Go.Proofs.YtbnkiikpolcpkaaW.PrintWords Go.Proofs.YtbnkiikpolcpkaaW.PrintLast Go.Proofs.YtbnkiikpolcpkaaW.PrintMore
attribute [local go_sem] max2_int min2_int max_two min_two max_three min_three max_four min_four   -- for this text's walks alone
set_option linter.unusedVariables false
set_option linter.unusedSimpArgs false
def impl_GreatestLot.f (k : Nat) (l0 : List Int) (l1 : List (S47)) : Option (List Int) := (impl_areWaits.f k l0 l1).bind fun t552 => (if t552 = true then ((impl_greatestLot.f k l0 l1).bind fun t553 => (some t553)) else (some ([] : List Int)))
end Go.Proofs.Ytbnkiikpolcpkaa.PU

namespace Go.Proofs.Ytbnkiikpolcpkaa.PU
open Go.RowKit Go.Proofs.YtbnkiikpolcpkaaW.PrintWords Go.Proofs.YtbnkiikpolcpkaaW.PrintLast Go.Proofs.YtbnkiikpolcpkaaW.PrintMore
attribute [local go_sem] max2_int min2_int max_two min_two max_three min_three max_four min_four   -- for this text's walks alone
set_option linter.unusedVariables false
set_option linter.unusedSimpArgs false
mutual
def spec_GreatestLot.l0 : Nat → List Int → List (S47) → List Int → Int → Option (List Int)
  | 0, _, _, _, _ => none
  | k + 1, x0, x1, x5, x6 => if x6 < (x1.length : Int) then (if x5.length < 17592186044416 then (spec_GreatestLot.l0 k x0 x1 (x5 ++ [1]) (wrap64 (x6 + 1))) else (none)) else (spec_GreatestLot.l1 k x0 x1 x5)
def spec_GreatestLot.l1 : Nat → List Int → List (S47) → List Int → Option (List Int)
  | 0, _, _, _ => none
  | k + 1, x0, x1, x5 => (spec_l8After.f k x0 x1 x5).bind fun t490 => (spec_GreatestLot.l2 k x0 x1 x5 t490 (-1) 0)
def spec_GreatestLot.l2 : Nat → List Int → List (S47) → List Int → List Int → Int → Int → Option (List Int)
  | 0, _, _, _, _, _, _ => none
  | k + 1, x0, x1, x5, x7, x8, x9 => if x9 < (x7.length : Int) then (spec_GreatestLot.j3 k x0 x1 x5 x7 x8 x9 (decide (x8 < 0))) else (spec_GreatestLot.j3 k x0 x1 x5 x7 x8 x9 false)
def spec_GreatestLot.j3 : Nat → List Int → List (S47) → List Int → List Int → Int → Int → Bool → Option (List Int)
  | 0, _, _, _, _, _, _, _ => none
  | k + 1, x0, x1, x5, x7, x8, x9, x38 => if x38 = true then (if 0 ≤ x9 then (if x9 < (x7.length : Int) then (if (rd x7 x9) < 0 then (spec_GreatestLot.l2 k x0 x1 x5 x7 x9 (wrap64 (x9 + 1))) else (spec_GreatestLot.l2 k x0 x1 x5 x7 x8 (wrap64 (x9 + 1)))) else (none)) else (none)) else (if x8 < 0 then (some x5) else (spec_GreatestLot.l3 k x0 x1 x5 x8 (-1) 0))
def spec_GreatestLot.l3 : Nat → List Int → List (S47) → List Int → Int → Int → Int → Option (List Int)
  | 0, _, _, _, _, _, _ => none
  | k + 1, x0, x1, x5, x8, x10, x11 => if x11 < (x1.length : Int) then (if 0 ≤ x11 then (if x11 < (x5.length : Int) then (if (rd x5 x11) = 1 then (if ((rd_T47 x1 x11).f0) = x8 then (spec_GreatestLot.l3 k x0 x1 x5 x8 x11 (wrap64 (x11 + 1))) else (spec_GreatestLot.l3 k x0 x1 x5 x8 x10 (wrap64 (x11 + 1)))) else (spec_GreatestLot.l3 k x0 x1 x5 x8 x10 (wrap64 (x11 + 1)))) else (none)) else (none)) else (if 0 ≤ x10 then (if x10 < (x5.length : Int) then (spec_GreatestLot.l1 k x0 x1 (x5.set (x10 : Int).toNat 0)) else (none)) else (none))
end
def spec_GreatestLot.f (k : Nat) (l0 : List Int) (l1 : List (S47)) : Option (List Int) := (some (([] : List Int) : List Int)).bind fun y483 => ((spec_WaitsOk.f k l0 l1).bind fun t486 => (if t486 = true then (spec_GreatestLot.l0 k l0 l1 y483 0) else (some y483)))
theorem spec_GreatestLot.mono_l : ∀ k, (∀ y0 y1 y2 y3, LeO (spec_GreatestLot.l0 k y0 y1 y2 y3) (spec_GreatestLot.l0 (k + 1) y0 y1 y2 y3)) ∧ (∀ y0 y1 y2, LeO (spec_GreatestLot.l1 k y0 y1 y2) (spec_GreatestLot.l1 (k + 1) y0 y1 y2)) ∧ (∀ y0 y1 y2 y3 y4 y5, LeO (spec_GreatestLot.l2 k y0 y1 y2 y3 y4 y5) (spec_GreatestLot.l2 (k + 1) y0 y1 y2 y3 y4 y5)) ∧ (∀ y0 y1 y2 y3 y4 y5 y6, LeO (spec_GreatestLot.j3 k y0 y1 y2 y3 y4 y5 y6) (spec_GreatestLot.j3 (k + 1) y0 y1 y2 y3 y4 y5 y6)) ∧ (∀ y0 y1 y2 y3 y4 y5, LeO (spec_GreatestLot.l3 k y0 y1 y2 y3 y4 y5) (spec_GreatestLot.l3 (k + 1) y0 y1 y2 y3 y4 y5))
  | 0 => ⟨fun _ _ _ _ r h => by simp [spec_GreatestLot.l0] at h, fun _ _ _ r h => by simp [spec_GreatestLot.l1] at h, fun _ _ _ _ _ _ r h => by simp [spec_GreatestLot.l2] at h, fun _ _ _ _ _ _ _ r h => by simp [spec_GreatestLot.j3] at h, fun _ _ _ _ _ _ r h => by simp [spec_GreatestLot.l3] at h⟩
  | k + 1 => by
    obtain ⟨ih0, ih1, ih2, ih3, ih4⟩ := spec_GreatestLot.mono_l k
    refine ⟨?_, ?_, ?_, ?_, ?_⟩
    · intro y0 y1 y2 y3
      unfold spec_GreatestLot.l0
      repeat' first
      | (with_reducible exact ih0 _ _ _ _)
      | (with_reducible exact ih1 _ _ _)
      | (with_reducible exact ih2 _ _ _ _ _ _)
      | (with_reducible exact ih3 _ _ _ _ _ _ _)
      | (with_reducible exact ih4 _ _ _ _ _ _)
      | (with_reducible exact spec_WaitsOk.mono _ _ _)
      | (with_reducible exact spec_l8After.mono _ _ _ _)
      | (with_reducible exact LeO.refl _)
      | (with_reducible exact LeO.none _)
      | (with_reducible refine LeO.ite ?_ ?_)
      | (with_reducible refine LeO.bind ?_ (fun _ => ?_))
      | exact ih0 _ _ _ _
      | exact ih1 _ _ _
      | exact ih2 _ _ _ _ _ _
      | exact ih3 _ _ _ _ _ _ _
      | exact ih4 _ _ _ _ _ _
      | exact spec_WaitsOk.mono _ _ _
      | exact spec_l8After.mono _ _ _ _
      | exact LeO.none _
      | refine LeO.ite ?_ ?_
      | refine LeO.bind ?_ (fun _ => ?_)
    · intro y0 y1 y2
      unfold spec_GreatestLot.l1
      repeat' first
      | (with_reducible exact ih0 _ _ _ _)
      | (with_reducible exact ih1 _ _ _)
      | (with_reducible exact ih2 _ _ _ _ _ _)
      | (with_reducible exact ih3 _ _ _ _ _ _ _)
      | (with_reducible exact ih4 _ _ _ _ _ _)
      | (with_reducible exact spec_WaitsOk.mono _ _ _)
      | (with_reducible exact spec_l8After.mono _ _ _ _)
      | (with_reducible exact LeO.refl _)
      | (with_reducible exact LeO.none _)
      | (with_reducible refine LeO.ite ?_ ?_)
      | (with_reducible refine LeO.bind ?_ (fun _ => ?_))
      | exact ih0 _ _ _ _
      | exact ih1 _ _ _
      | exact ih2 _ _ _ _ _ _
      | exact ih3 _ _ _ _ _ _ _
      | exact ih4 _ _ _ _ _ _
      | exact spec_WaitsOk.mono _ _ _
      | exact spec_l8After.mono _ _ _ _
      | exact LeO.none _
      | refine LeO.ite ?_ ?_
      | refine LeO.bind ?_ (fun _ => ?_)
    · intro y0 y1 y2 y3 y4 y5
      unfold spec_GreatestLot.l2
      repeat' first
      | (with_reducible exact ih0 _ _ _ _)
      | (with_reducible exact ih1 _ _ _)
      | (with_reducible exact ih2 _ _ _ _ _ _)
      | (with_reducible exact ih3 _ _ _ _ _ _ _)
      | (with_reducible exact ih4 _ _ _ _ _ _)
      | (with_reducible exact spec_WaitsOk.mono _ _ _)
      | (with_reducible exact spec_l8After.mono _ _ _ _)
      | (with_reducible exact LeO.refl _)
      | (with_reducible exact LeO.none _)
      | (with_reducible refine LeO.ite ?_ ?_)
      | (with_reducible refine LeO.bind ?_ (fun _ => ?_))
      | exact ih0 _ _ _ _
      | exact ih1 _ _ _
      | exact ih2 _ _ _ _ _ _
      | exact ih3 _ _ _ _ _ _ _
      | exact ih4 _ _ _ _ _ _
      | exact spec_WaitsOk.mono _ _ _
      | exact spec_l8After.mono _ _ _ _
      | exact LeO.none _
      | refine LeO.ite ?_ ?_
      | refine LeO.bind ?_ (fun _ => ?_)
    · intro y0 y1 y2 y3 y4 y5 y6
      unfold spec_GreatestLot.j3
      repeat' first
      | (with_reducible exact ih0 _ _ _ _)
      | (with_reducible exact ih1 _ _ _)
      | (with_reducible exact ih2 _ _ _ _ _ _)
      | (with_reducible exact ih3 _ _ _ _ _ _ _)
      | (with_reducible exact ih4 _ _ _ _ _ _)
      | (with_reducible exact spec_WaitsOk.mono _ _ _)
      | (with_reducible exact spec_l8After.mono _ _ _ _)
      | (with_reducible exact LeO.refl _)
      | (with_reducible exact LeO.none _)
      | (with_reducible refine LeO.ite ?_ ?_)
      | (with_reducible refine LeO.bind ?_ (fun _ => ?_))
      | exact ih0 _ _ _ _
      | exact ih1 _ _ _
      | exact ih2 _ _ _ _ _ _
      | exact ih3 _ _ _ _ _ _ _
      | exact ih4 _ _ _ _ _ _
      | exact spec_WaitsOk.mono _ _ _
      | exact spec_l8After.mono _ _ _ _
      | exact LeO.none _
      | refine LeO.ite ?_ ?_
      | refine LeO.bind ?_ (fun _ => ?_)
    · intro y0 y1 y2 y3 y4 y5
      unfold spec_GreatestLot.l3
      repeat' first
      | (with_reducible exact ih0 _ _ _ _)
      | (with_reducible exact ih1 _ _ _)
      | (with_reducible exact ih2 _ _ _ _ _ _)
      | (with_reducible exact ih3 _ _ _ _ _ _ _)
      | (with_reducible exact ih4 _ _ _ _ _ _)
      | (with_reducible exact spec_WaitsOk.mono _ _ _)
      | (with_reducible exact spec_l8After.mono _ _ _ _)
      | (with_reducible exact LeO.refl _)
      | (with_reducible exact LeO.none _)
      | (with_reducible refine LeO.ite ?_ ?_)
      | (with_reducible refine LeO.bind ?_ (fun _ => ?_))
      | exact ih0 _ _ _ _
      | exact ih1 _ _ _
      | exact ih2 _ _ _ _ _ _
      | exact ih3 _ _ _ _ _ _ _
      | exact ih4 _ _ _ _ _ _
      | exact spec_WaitsOk.mono _ _ _
      | exact spec_l8After.mono _ _ _ _
      | exact LeO.none _
      | refine LeO.ite ?_ ?_
      | refine LeO.bind ?_ (fun _ => ?_)
theorem spec_GreatestLot.mono : ∀ a0 a1 k, LeO (spec_GreatestLot.f k a0 a1) (spec_GreatestLot.f (k + 1) a0 a1) := by
  intro a0 a1 k
  obtain ⟨ih0, ih1, ih2, ih3, ih4⟩ := spec_GreatestLot.mono_l k
  unfold spec_GreatestLot.f
  repeat' first
      | (with_reducible exact ih0 _ _ _ _)
      | (with_reducible exact ih1 _ _ _)
      | (with_reducible exact ih2 _ _ _ _ _ _)
      | (with_reducible exact ih3 _ _ _ _ _ _ _)
      | (with_reducible exact ih4 _ _ _ _ _ _)
      | (with_reducible exact spec_WaitsOk.mono _ _ _)
      | (with_reducible exact spec_l8After.mono _ _ _ _)
      | (with_reducible exact LeO.refl _)
      | (with_reducible exact LeO.none _)
      | (with_reducible refine LeO.ite ?_ ?_)
      | (with_reducible refine LeO.bind ?_ (fun _ => ?_))
      | exact ih0 _ _ _ _
      | exact ih1 _ _ _
      | exact ih2 _ _ _ _ _ _
      | exact ih3 _ _ _ _ _ _ _
      | exact ih4 _ _ _ _ _ _
      | exact spec_WaitsOk.mono _ _ _
      | exact spec_l8After.mono _ _ _ _
      | exact LeO.none _
      | refine LeO.ite ?_ ?_
      | refine LeO.bind ?_ (fun _ => ?_)
set_option maxHeartbeats 8000000 in
set_option maxRecDepth 100000 in
theorem spec_GreatestLot.calls (k : Nat) (A0 : Option Addr) (c0 : Nat) (l0 : List Int) (A1 : Option Addr) (c1 : Nat) (l1 : List (S47)) (r : List Int) (w : World) (hr0 : Kd.C (Kd.int .i64) w A0 l0.length l0) (hc0 : l0.length ≤ c0) (hr1 : Kd.C k47 w A1 l1.length l1) (hc1 : l1.length ≤ c1) (h : spec_GreatestLot.f k l0 l1 = some r) :
    Calls Try.prog 35 #[.slice A0 l0.length c0, .slice A1 l1.length c1] w fun e w' => ∃ v0_ : Value, e = .returned (v0_) ∧ Kd.R (Kd.int .i64) 3 w' w.heap.size (fun _ => True) v0_ r ∧ Below w.heap.size w w' := by
  have HR0 := Aside0.mk hr0
  have HC0 := Aside0.mk hc0
  clear hr0 hc0
  have HR1 := Aside0.mk hr1
  have HC1 := Aside0.mk hc1
  clear hr1 hc1
  have HB := Aside0.mk (Below.refl w.heap.size w)
  have H : ((some (([] : List Int) : List Int)).bind fun y483 => ((spec_WaitsOk.f k l0 l1).bind fun t486 => (if t486 = true then (spec_GreatestLot.l0 k l0 l1 y483 0) else (some y483)))) = some r := h
  clear h
  obtain ⟨y483, hy483⟩ : ∃ y_ : List Int, y_ = (([] : List Int)) := ⟨_, rfl⟩
  replace H : ((spec_WaitsOk.f k l0 l1).bind fun t486 => (if t486 = true then (spec_GreatestLot.l0 k l0 l1 y483 0) else (some y483))) = some r := by first | (rw [hy483]; with_reducible exact H) | (have H2_ := (Option.bind_some _ _).symm.trans H; rw [hy483]; with_reducible exact H2_) | (have H2_ := (Option.bind_some _ _).symm.trans H; with_reducible exact H2_) | with_reducible exact H | (rw [hy483]; exact H) | exact H
  have Ny483 := Aside0.mk hy483
  clear hy483
  replace H := Option.bind_eq_some_iff.mp H
  obtain ⟨t486, A30, H⟩ := H
  replace H : (if t486 = true then (spec_GreatestLot.l0 k l0 l1 y483 0) else (some y483)) = some r := H
  have A3 := Aside0.mk A30
  clear A30
  by_cases c4 : t486 = true
  · subst c4
    have H1 : (spec_GreatestLot.l0 k l0 l1 y483 0) = some r := by rw [if_pos rfl] at H; exact H
    clear H
    have H := H1
    clear H1
    have H' := Aside0.mk H
    clear H
    go_enter Try.func35, Try.ntmps35
    go_wp2_with (first | ((with_reducible refine gate_dst (N := 12) rfl ?_); refine Kd.R_lit (Kd.int .i64) _ 3 ?hg (N := 12) ?hd (xs := ([] : List Int)) (inner := []) (ok := fun _ => True) (okp := fun _ => True) ?hr ?hp (fun _ hk => hk) trivial (Below.refl _ _) (Nat.le_refl _) (by simp) ?_; (case hd => rfl); (case hg => rfl); (case hr => first | (go_simp; done) | (go_simp; rfl)); (case hp => exact (Reps.none _ _)); intro v484 w5 ho6 hb hg_ hnew_; clear hg_ hnew_; (first | rw [← Ny483.out] at ho6 | (simp only [Int.reduceToNat] at ho6; rw [← Ny483.out] at ho6)); have n0_ := Aside0.mk (Kd.R_lower ho6 (below_size (by repeat (first | (with_reducible first | exact HB.out | apply below_alloc | apply pw_below_drewN | apply below_drew1) | exact HB.out)))); have n1_ := Aside0.mk (below_step (by repeat (first | (with_reducible first | exact HB.out | apply below_alloc | apply pw_below_drewN | apply below_drew1) | exact HB.out)) hb); clear HB; have HO485 := n0_; have HB := n1_; clear n0_ n1_; clear hb ho6) | ((with_reducible refine gate_callee (f := 16) rfl ?_); refine goesL_ (some 15) rfl rfl Try.func16 (by kernel_rfl) rfl #[.slice A0 l0.length c0, .slice A1 l1.length c1] rfl (by (try simp only [List.map_toArray, List.map_cons, List.map_nil]); first | done | rfl | (simp only [List.length_drop, List.length_take]; rfl)) ?_; (with_reducible refine (spec_WaitsOk.calls k _ _ l0 _ _ l1 true _ ?side1 ?side2 ?side3 ?side4 A3.out).mono ?_); (case side1 => repeat (first | exact (Kd.C_below HR0.out HB.out) | (with_reducible refine Kd.C_alloc ?_ _) | (with_reducible refine Kd.C_drewN ?_ _) | (with_reducible refine Kd.C_drew ?_))); (case side2 => exact HC0.out); (case side3 => repeat (first | exact (Kd.C_below HR1.out HB.out) | (with_reducible refine Kd.C_alloc ?_ _) | (with_reducible refine Kd.C_drewN ?_ _) | (with_reducible refine Kd.C_drew ?_))); (case side4 => exact HC1.out); rintro e w7 ⟨rfl, hb⟩; refine ⟨_, rfl, ?_⟩; have n0_ := Aside0.mk (Kd.R_below (by (with_reducible repeat (first | apply Kd.R_alloc | apply Kd.R_drewN | apply Kd.R_drew)); exact HO485.out) hb); have n1_ := Aside0.mk (below_step (by repeat (first | (with_reducible first | exact HB.out | apply below_alloc | apply pw_below_drewN | apply below_drew1) | exact HB.out)) hb); clear HO485; clear HB; have HO485 := n0_; have HB := n1_; clear n0_ n1_; (try clear hb); (try clear hb2); (try clear hk); (try clear hi)))
    go_loopg [5, 6] k (fun kq v5 v6 w' => ∃ (x5_1 : List Int) (x6_1 : Int), v6 = .int .i64 x6_1 ∧ Aside0 (spec_GreatestLot.l0 kq l0 l1 x5_1 x6_1 = some r) ∧ Aside0 (kq ≤ k) ∧ Aside0 (Kd.R (Kd.int .i64) 3 w' w.heap.size (fun _ => True) v5 x5_1) ∧ Aside0 (Below w.heap.size w w'))
    case atStart => exact ⟨(y483), (0), (by first | rfl | (simp; done) | (simp [*]; done)), H', ⟨Nat.le_refl _⟩, ⟨by (with_reducible repeat (first | apply Kd.R_alloc | apply Kd.R_drewN | apply Kd.R_drew)); exact HO485.out⟩, ⟨by repeat (first | (with_reducible first | exact HB.out | apply below_alloc | apply pw_below_drewN | apply below_drew1) | exact HB.out)⟩⟩
    case round =>
      clear H'
      try clear c1
      try clear p2
      try clear c3
      try clear c4
      obtain ⟨x5_1, x6_1, rfl, HA, HK1, HO_5, HB⟩ := hrel
      cases gk with
      | zero => exact absurd HA.out (by simp [spec_GreatestLot.l0])
      | succ k1 =>
        have H := HA.out
        clear HA
        simp only [spec_GreatestLot.l0] at H
        by_cases c8 : x6_1 < (l1.length : Int)
        · rw [if_pos c8] at H
          have c8b0 : decide (x6_1 < (l1.length : Int)) = true := decide_eq_true c8
          clear c8
          by_cases c9 : x5_1.length < 17592186044416
          · rw [if_pos c9] at H
            have LMc9 := Aside0.mk c9
            clear c9
            obtain ⟨y487, hy487⟩ : ∃ y_ : List Int, y_ = (x5_1 ++ [1]) := ⟨_, rfl⟩
            replace H : (spec_GreatestLot.l0 k1 l0 l1 y487 (wrap64 (x6_1 + 1))) = some r := by first | (rw [hy487]; with_reducible exact H) | (have H2_ := (Option.bind_some _ _).symm.trans H; rw [hy487]; with_reducible exact H2_) | (have H2_ := (Option.bind_some _ _).symm.trans H; with_reducible exact H2_) | with_reducible exact H | (rw [hy487]; exact H) | exact H
            have Ny487 := Aside0.mk hy487
            clear hy487
            have H' := Aside0.mk H
            clear H
            go_wp2_with (first | ((with_reducible refine gate_builtin (b := .append) (xs := #[.tmp 24, .tmp 25]) rfl ?_); at_builtin; refine Kd.R_append (Kd.int .i64) (w0 := w) w.heap.size rfl (.tmp 24) (.tmp 25) 22 3 (.int .i64 0) 8 rfl Try.underlying22 info3 rfl (by decide) (by omega) u5 x5_1 1 [.int .i64 1] (fun _ => True) (fun _ => False) rfl rfl ?aP (fun _ hk => hk.elim) ?aF ?aO ?aB ?aS ?aL ?_; (case aP => exact rfl); (case aB => exact (by repeat (first | (with_reducible first | exact HB.out | apply below_alloc | apply pw_below_drewN | apply below_drew1) | exact HB.out))); (case aF => exact (fun _ _ => trivial)); (case aO => exact (by (with_reducible repeat (first | apply Kd.R_alloc | apply Kd.R_drewN | apply Kd.R_drew)); exact HO_5.out)); (case aS => exact (below_size (by repeat (first | (with_reducible first | exact HB.out | apply below_alloc | apply pw_below_drewN | apply below_drew1) | exact HB.out)))); (case aL => have := LMc9.out; omega); intro v488 w10 ho hb hg hat; rw [← Ny487.out] at ho; have n0_ := Aside0.mk (hb); have n1_ := Aside0.mk (ho); clear HB; clear HO_5; have HB := n0_; have HO489 := n1_; clear n0_ n1_; clear ho hb hg hat))
            go_roundg k1
            case measure => have := HK1.out; omega
            case rel => exact ⟨(y487), (wrap64 (x6_1 + 1)), (by first | rfl | (simp; done) | (simp [*]; done)), H', ⟨by have := HK1.out; omega⟩, ⟨by (with_reducible repeat (first | apply Kd.R_alloc | apply Kd.R_drewN | apply Kd.R_drew)); exact HO489.out⟩, ⟨by repeat (first | (with_reducible first | exact HB.out | apply below_alloc | apply pw_below_drewN | apply below_drew1) | exact HB.out)⟩⟩
          · rw [if_neg c9] at H
            exact absurd H (by simp)
        · rw [if_neg c8] at H
          have c8b0 : decide (x6_1 < (l1.length : Int)) = false := decide_eq_false c8
          clear c8
          have H' := Aside0.mk H
          clear H
          go_wp2
          go_loopg [] k1 (fun kq w' => ∃ (x5_2 : List Int), Aside0 (spec_GreatestLot.l1 kq l0 l1 x5_2 = some r) ∧ Aside0 (kq ≤ k1) ∧ Aside0 (Kd.R (Kd.int .i64) 3 w' w.heap.size (fun _ => True) u5 x5_2) ∧ Aside0 (Below w.heap.size w w'))
          case atStart => exact ⟨(x5_1), H', ⟨Nat.le_refl _⟩, ⟨by (with_reducible repeat (first | apply Kd.R_alloc | apply Kd.R_drewN | apply Kd.R_drew)); exact HO_5.out⟩, ⟨by repeat (first | (with_reducible first | exact HB.out | apply below_alloc | apply pw_below_drewN | apply below_drew1) | exact HB.out)⟩⟩
          case round =>
            clear H'
            try clear c1
            try clear p2
            try clear c3
            try clear c4
            try clear p6
            try clear c8
            try clear c8b0
            try clear c9
            try clear p2
            obtain ⟨x5_2, HA, HK2, HO_5, HB⟩ := hrel
            cases gk with
            | zero => exact absurd HA.out (by simp [spec_GreatestLot.l1])
            | succ k2 =>
              have H := HA.out
              clear HA
              simp only [spec_GreatestLot.l1] at H
              replace H := Option.bind_eq_some_iff.mp H
              obtain ⟨t490, A110, H⟩ := H
              replace H : (spec_GreatestLot.l2 k2 l0 l1 x5_2 t490 (-1) 0) = some r := H
              have A11 := Aside0.mk A110
              clear A110
              have H' := Aside0.mk H
              clear H
              obtain ⟨Ao12, co12, eo12⟩ := Kd.R_slice HO_5.out
              subst eo12
              go_wp2_with (first | ((with_reducible refine gate_callee (f := 52) rfl ?_); refine goesL_ (some 30) rfl rfl Try.func52 (by kernel_rfl) rfl #[.slice A0 l0.length c0, .slice A1 l1.length c1, .slice Ao12 x5_2.length co12] rfl (by (try simp only [List.map_toArray, List.map_cons, List.map_nil]); first | done | rfl | (simp only [List.length_drop, List.length_take]; rfl)) ?_; (with_reducible refine (spec_l8After.calls k2 _ _ l0 _ _ l1 _ _ x5_2 t490 _ ?side1 ?side2 ?side3 ?side4 ?side5 ?side6 A11.out).mono ?_); (case side1 => repeat (first | exact (Kd.C_below HR0.out HB.out) | (with_reducible refine Kd.C_alloc ?_ _) | (with_reducible refine Kd.C_drewN ?_ _) | (with_reducible refine Kd.C_drew ?_))); (case side2 => exact HC0.out); (case side3 => repeat (first | exact (Kd.C_below HR1.out HB.out) | (with_reducible refine Kd.C_alloc ?_ _) | (with_reducible refine Kd.C_drewN ?_ _) | (with_reducible refine Kd.C_drew ?_))); (case side4 => exact HC1.out); (case side5 => repeat (first | exact (Kd.R_reads' HO_5.out).2.2 | (with_reducible refine Kd.C_alloc ?_ _) | (with_reducible refine Kd.C_drewN ?_ _) | (with_reducible refine Kd.C_drew ?_))); (case side6 => exact (Kd.R_reads' HO_5.out).2.1); rintro e w13 ⟨v491, rfl, ho0, hb⟩; refine ⟨_, rfl, ?_⟩; have n0_ := Aside0.mk (Kd.R_elder' (by (with_reducible repeat (first | apply Kd.R_alloc | apply Kd.R_drewN | apply Kd.R_drew)); exact HO_5.out) (Kd.R_base ho0) hb); have n1_ := Aside0.mk (Kd.R_lower (Kd.R_new' ho0 (Kd.R_lt (by (with_reducible repeat (first | apply Kd.R_alloc | apply Kd.R_drewN | apply Kd.R_drew)); exact HO_5.out))) (below_size (by repeat (first | (with_reducible first | exact HB.out | apply below_alloc | apply pw_below_drewN | apply below_drew1) | exact HB.out)))); have n2_ := Aside0.mk (below_step (by repeat (first | (with_reducible first | exact HB.out | apply below_alloc | apply pw_below_drewN | apply below_drew1) | exact HB.out)) hb); clear HO_5; clear HB; have HO_5 := n0_; have HO492 := n1_; have HB := n2_; clear n0_ n1_ n2_; (try clear hb); (try clear hb2); (try clear hk); (try clear hi); (try clear ho0)))
              go_loopg [8, 9] k2 (fun kq v8 v9 w' => ∃ (x8_3 : Int) (x9_3 : Int), v8 = .int .i64 x8_3 ∧ v9 = .int .i64 x9_3 ∧ Aside0 (spec_GreatestLot.l2 kq l0 l1 x5_2 t490 x8_3 x9_3 = some r) ∧ Aside0 (kq ≤ k2) ∧ Aside0 (Kd.R (Kd.int .i64) 3 w' w.heap.size (fun k_ => some k_ ≠ (v491 : Value).ownBlock) (.slice Ao12 x5_2.length co12) x5_2) ∧ Aside0 (Kd.R (Kd.int .i64) 3 w' w.heap.size (fun k_ => some k_ ≠ ((.slice Ao12 x5_2.length co12) : Value).ownBlock) v491 t490) ∧ Aside0 (Below w.heap.size w w'))
              case atStart => exact ⟨((-1)), (0), (by first | rfl | (simp; done) | (simp [*]; done)), (by first | rfl | (simp; done) | (simp [*]; done)), H', ⟨Nat.le_refl _⟩, ⟨by (with_reducible repeat (first | apply Kd.R_alloc | apply Kd.R_drewN | apply Kd.R_drew)); exact Kd.R_mono HO_5.out (fun _ hk => hk.2)⟩, ⟨by (with_reducible repeat (first | apply Kd.R_alloc | apply Kd.R_drewN | apply Kd.R_drew)); exact Kd.R_mono HO492.out (fun _ hk => hk.2)⟩, ⟨by repeat (first | (with_reducible first | exact HB.out | apply below_alloc | apply pw_below_drewN | apply below_drew1) | exact HB.out)⟩⟩
              case round =>
                clear H'
                try clear c1
                try clear p2
                try clear c3
                try clear c4
                try clear c5
                try clear p6
                try clear c8
                try clear c8b0
                try clear c9
                try clear p2
                try clear p6
                obtain ⟨x8_3, x9_3, rfl, rfl, HA, HK3, HO_5, HO_7, HB⟩ := hrel
                cases gk with
                | zero => exact absurd HA.out (by simp [spec_GreatestLot.l2])
                | succ k3 =>
                  have H := HA.out
                  clear HA
                  simp only [spec_GreatestLot.l2] at H
                  have HC14 := Aside0.mk H
                  clear H
                  go_upto_region 11 with (fail)
                  go_cut [38] (fun v38 wc => ∃ (kq : Nat) (x38_13 : Bool), v38 = .bool x38_13 ∧ Aside0 (spec_GreatestLot.j3 kq l0 l1 x5_2 t490 x8_3 x9_3 x38_13 = some r) ∧ Aside0 (kq ≤ k3) ∧ Aside0 (Kd.R (Kd.int .i64) 3 wc w.heap.size (fun k_ => some k_ ≠ (v491 : Value).ownBlock) (.slice Ao12 x5_2.length co12) x5_2) ∧ Aside0 (Kd.R (Kd.int .i64) 3 wc w.heap.size (fun k_ => some k_ ≠ ((.slice Ao12 x5_2.length co12) : Value).ownBlock) v491 t490) ∧ Aside0 (Below w.heap.size w wc))
                  case first =>
                    have H := HC14.out
                    clear HC14
                    by_cases c15 : x9_3 < (t490.length : Int)
                    · rw [if_pos c15] at H
                      have c15b0 : decide (x9_3 < (t490.length : Int)) = true := decide_eq_true c15
                      clear c15
                      (first | rw [c15b0] | (simp only [i64_w, i32_w]; rw [c15b0]) | skip)
                      have H' := Aside0.mk H
                      clear H
                      obtain ⟨Ao16, co16, eo16⟩ := Kd.R_slice HO_7.out
                      subst eo16
                      go_wp2
                      go_meet
                      case rel => exact ⟨_, (decide (x8_3 < 0)), (by first | rfl | (simp; done) | (simp [*]; done)), H', ⟨by have := HK1.out; have := HK2.out; have := HK3.out; first | omega | exact Nat.le_refl _⟩, ⟨by (with_reducible repeat (first | apply Kd.R_alloc | apply Kd.R_drewN | apply Kd.R_drew)); exact HO_5.out⟩, ⟨by (with_reducible repeat (first | apply Kd.R_alloc | apply Kd.R_drewN | apply Kd.R_drew)); exact HO_7.out⟩, ⟨by repeat (first | (with_reducible first | exact HB.out | apply below_alloc | apply pw_below_drewN | apply below_drew1) | exact HB.out)⟩⟩
                    · rw [if_neg c15] at H
                      have c15b0 : decide (x9_3 < (t490.length : Int)) = false := decide_eq_false c15
                      clear c15
                      (first | rw [c15b0] | (simp only [i64_w, i32_w]; rw [c15b0]) | skip)
                      have H' := Aside0.mk H
                      clear H
                      obtain ⟨Ao17, co17, eo17⟩ := Kd.R_slice HO_7.out
                      subst eo17
                      go_wp2
                      go_meet
                      case rel => exact ⟨_, (false), (by first | rfl | (simp; done) | (simp [*]; done)), H', ⟨by have := HK1.out; have := HK2.out; have := HK3.out; first | omega | exact Nat.le_refl _⟩, ⟨by (with_reducible repeat (first | apply Kd.R_alloc | apply Kd.R_drewN | apply Kd.R_drew)); exact HO_5.out⟩, ⟨by (with_reducible repeat (first | apply Kd.R_alloc | apply Kd.R_drewN | apply Kd.R_drew)); exact HO_7.out⟩, ⟨by repeat (first | (with_reducible first | exact HB.out | apply below_alloc | apply pw_below_drewN | apply below_drew1) | exact HB.out)⟩⟩
                  case rest =>
                    clear HC14
                    try clear c1
                    try clear p2
                    try clear c3
                    try clear c4
                    try clear c5
                    try clear p6
                    try clear c8
                    try clear c8b0
                    try clear c9
                    try clear c15
                    try clear c15b0
                    try clear c16
                    try clear p2
                    try clear p6
                    obtain ⟨kq, x38_13, rfl, HA, HJ13, HO_5, HO_7, HB⟩ := hcut
                    cases kq with
                    | zero => exact absurd HA.out (by simp [spec_GreatestLot.j3])
                    | succ kj13 =>
                      have H := HA.out
                      clear HA
                      simp only [spec_GreatestLot.j3] at H
                      by_cases c18 : x38_13 = true
                      · subst c18
                        have H1 : (if 0 ≤ x9_3 then (if x9_3 < (t490.length : Int) then (if (rd t490 x9_3) < 0 then (spec_GreatestLot.l2 kj13 l0 l1 x5_2 t490 x9_3 (wrap64 (x9_3 + 1))) else (spec_GreatestLot.l2 kj13 l0 l1 x5_2 t490 x8_3 (wrap64 (x9_3 + 1)))) else (none)) else (none)) = some r := by rw [if_pos rfl] at H; exact H
                        clear H
                        have H := H1
                        clear H1
                        by_cases c19 : 0 ≤ x9_3
                        · rw [if_pos c19] at H
                          have c19b0 : decide (0 ≤ x9_3) = true := decide_eq_true c19
                          clear c19
                          by_cases c20 : x9_3 < (t490.length : Int)
                          · rw [if_pos c20] at H
                            have c20b0 : decide (x9_3 < (t490.length : Int)) = true := decide_eq_true c20
                            clear c20
                            by_cases c21 : (rd t490 x9_3) < 0
                            · rw [if_pos c21] at H
                              have c21b0 : decide ((rd t490 x9_3) < 0) = true := decide_eq_true c21
                              clear c21
                              have H' := Aside0.mk H
                              clear H
                              obtain ⟨Ao22, co22, eo22⟩ := Kd.R_slice HO_7.out
                              subst eo22
                              have p493 : 0 ≤ (x9_3 : Int) := of_decide_eq_true (by first | (with_reducible assumption) | assumption)
                              have q493 : x9_3 < (t490.length : Int) := of_decide_eq_true (by first | (with_reducible assumption) | assumption)
                              obtain ⟨ad493, e493, hx493_0⟩ := Kd.at_int (Kd.R_reads' HO_7.out).2.2 x9_3 p493 q493
                              cases e493
                              replace p493 := eq_true p493
                              replace q493 := eq_true q493
                              go_wp2
                              go_roundg kj13
                              case measure => have := HK1.out; have := HK2.out; have := HK3.out; have := HJ13.out; omega
                              case rel => exact ⟨(x9_3), (wrap64 (x9_3 + 1)), (by first | rfl | (simp; done) | (simp [*]; done)), (by first | rfl | (simp; done) | (simp [*]; done)), H', ⟨by have := HK1.out; have := HK2.out; have := HK3.out; have := HJ13.out; omega⟩, ⟨by (with_reducible repeat (first | apply Kd.R_alloc | apply Kd.R_drewN | apply Kd.R_drew)); exact HO_5.out⟩, ⟨by (with_reducible repeat (first | apply Kd.R_alloc | apply Kd.R_drewN | apply Kd.R_drew)); exact HO_7.out⟩, ⟨by repeat (first | (with_reducible first | exact HB.out | apply below_alloc | apply pw_below_drewN | apply below_drew1) | exact HB.out)⟩⟩
                            · rw [if_neg c21] at H
                              have c21b0 : decide ((rd t490 x9_3) < 0) = false := decide_eq_false c21
                              clear c21
                              have H' := Aside0.mk H
                              clear H
                              obtain ⟨Ao23, co23, eo23⟩ := Kd.R_slice HO_7.out
                              subst eo23
                              have p493 : 0 ≤ (x9_3 : Int) := of_decide_eq_true (by first | (with_reducible assumption) | assumption)
                              have q493 : x9_3 < (t490.length : Int) := of_decide_eq_true (by first | (with_reducible assumption) | assumption)
                              obtain ⟨ad493, e493, hx493_0⟩ := Kd.at_int (Kd.R_reads' HO_7.out).2.2 x9_3 p493 q493
                              cases e493
                              replace p493 := eq_true p493
                              replace q493 := eq_true q493
                              go_wp2
                              go_roundg kj13
                              case measure => have := HK1.out; have := HK2.out; have := HK3.out; have := HJ13.out; omega
                              case rel => exact ⟨(x8_3), (wrap64 (x9_3 + 1)), (by first | rfl | (simp; done) | (simp [*]; done)), (by first | rfl | (simp; done) | (simp [*]; done)), H', ⟨by have := HK1.out; have := HK2.out; have := HK3.out; have := HJ13.out; omega⟩, ⟨by (with_reducible repeat (first | apply Kd.R_alloc | apply Kd.R_drewN | apply Kd.R_drew)); exact HO_5.out⟩, ⟨by (with_reducible repeat (first | apply Kd.R_alloc | apply Kd.R_drewN | apply Kd.R_drew)); exact HO_7.out⟩, ⟨by repeat (first | (with_reducible first | exact HB.out | apply below_alloc | apply pw_below_drewN | apply below_drew1) | exact HB.out)⟩⟩
                          · rw [if_neg c20] at H
                            exact absurd H (by simp)
                        · rw [if_neg c19] at H
                          exact absurd H (by simp)
                      · replace c18 := Bool.eq_false_iff.mpr c18
                        subst c18
                        have H1 : (if x8_3 < 0 then (some x5_2) else (spec_GreatestLot.l3 kj13 l0 l1 x5_2 x8_3 (-1) 0)) = some r := by rw [if_neg (show ¬ (false = true) by decide)] at H; exact H
                        clear H
                        have H := H1
                        clear H1
                        by_cases c24 : x8_3 < 0
                        · rw [if_pos c24] at H
                          have c24b0 : decide (x8_3 < 0) = true := decide_eq_true c24
                          clear c24
                          obtain rfl := Option.some.inj H
                          go_wp2
                          go_ret
                          exact ⟨_, by first | rfl | (simp [errW_none, errW_some] <;> rfl) | (simp [*, errW_none, errW_some] <;> rfl), by (with_reducible repeat (first | apply Kd.R_alloc | apply Kd.R_drewN | apply Kd.R_drew)); exact Kd.R_mono HO_5.out (fun _ hk => trivial), by repeat (first | (with_reducible first | exact HB.out | apply below_alloc | apply pw_below_drewN | apply below_drew1) | exact HB.out)⟩
                        · rw [if_neg c24] at H
                          have c24b0 : decide (x8_3 < 0) = false := decide_eq_false c24
                          clear c24
                          have H' := Aside0.mk H
                          clear H
                          go_wp2
                          go_loopg [10, 11] kj13 (fun kq v10 v11 w' => ∃ (x10_5 : Int) (x11_5 : Int), v10 = .int .i64 x10_5 ∧ v11 = .int .i64 x11_5 ∧ Aside0 (spec_GreatestLot.l3 kq l0 l1 x5_2 x8_3 x10_5 x11_5 = some r) ∧ Aside0 (kq ≤ kj13) ∧ Aside0 (Kd.R (Kd.int .i64) 3 w' w.heap.size (fun _ => True) (.slice Ao12 x5_2.length co12) x5_2) ∧ Aside0 (Below w.heap.size w w'))
                          case atStart => exact ⟨((-1)), (0), (by first | rfl | (simp; done) | (simp [*]; done)), (by first | rfl | (simp; done) | (simp [*]; done)), H', ⟨Nat.le_refl _⟩, ⟨by (with_reducible repeat (first | apply Kd.R_alloc | apply Kd.R_drewN | apply Kd.R_drew)); exact Kd.R_mono HO_5.out (fun _ hk => trivial)⟩, ⟨by repeat (first | (with_reducible first | exact HB.out | apply below_alloc | apply pw_below_drewN | apply below_drew1) | exact HB.out)⟩⟩
                          case round =>
                            clear H'
                            try clear c1
                            try clear c2
                            try clear p2
                            try clear c3
                            try clear c4
                            try clear p4
                            try clear q4
                            try clear hx4
                            try clear c5
                            try clear p6
                            try clear c8
                            try clear c8b0
                            try clear c9
                            try clear c15
                            try clear c15b0
                            try clear c16
                            try clear c18
                            try clear c19
                            try clear c19b0
                            try clear c20
                            try clear c20b0
                            try clear c21
                            try clear c21b0
                            try clear c24
                            try clear c24b0
                            try clear hx493_0
                            try clear p2
                            try clear p493
                            try clear p6
                            try clear q493
                            obtain ⟨x10_5, x11_5, rfl, rfl, HA, HK5, HO_5, HB⟩ := hrel
                            cases gk with
                            | zero => exact absurd HA.out (by simp [spec_GreatestLot.l3])
                            | succ k5 =>
                              have H := HA.out
                              clear HA
                              simp only [spec_GreatestLot.l3] at H
                              by_cases c25 : x11_5 < (l1.length : Int)
                              · rw [if_pos c25] at H
                                have c25b0 : decide (x11_5 < (l1.length : Int)) = true := decide_eq_true c25
                                clear c25
                                by_cases c26 : 0 ≤ x11_5
                                · rw [if_pos c26] at H
                                  have c26b0 : decide (0 ≤ x11_5) = true := decide_eq_true c26
                                  clear c26
                                  by_cases c27 : x11_5 < (x5_2.length : Int)
                                  · rw [if_pos c27] at H
                                    have c27b0 : decide (x11_5 < (x5_2.length : Int)) = true := decide_eq_true c27
                                    clear c27
                                    by_cases c28 : (rd x5_2 x11_5) = 1
                                    · rw [if_pos c28] at H
                                      have c28b0 : ((rd x5_2 x11_5) == 1) = true := beq_iff_eq.mpr c28
                                      have c28b1 : ((rd x5_2 x11_5) != 1) = false := bne_eq_false_iff_eq.mpr c28
                                      clear c28
                                      by_cases c29 : ((rd_T47 l1 x11_5).f0) = x8_3
                                      · rw [if_pos c29] at H
                                        have c29b0 : (((rd_T47 l1 x11_5).f0) == x8_3) = true := beq_iff_eq.mpr c29
                                        have c29b1 : (((rd_T47 l1 x11_5).f0) != x8_3) = false := bne_eq_false_iff_eq.mpr c29
                                        clear c29
                                        have H' := Aside0.mk H
                                        clear H
                                        have p494 : 0 ≤ (x11_5 : Int) := of_decide_eq_true (by first | (with_reducible assumption) | assumption)
                                        have q494 : x11_5 < (x5_2.length : Int) := of_decide_eq_true (by first | (with_reducible assumption) | assumption)
                                        obtain ⟨ad494, e494, hx494_0⟩ := Kd.at_int (Kd.R_reads' HO_5.out).2.2 x11_5 p494 q494
                                        cases e494
                                        replace p494 := eq_true p494
                                        replace q494 := eq_true q494
                                        have p495 : 0 ≤ (x11_5 : Int) := of_decide_eq_true (by first | (with_reducible assumption) | assumption)
                                        have q495 : x11_5 < (l1.length : Int) := of_decide_eq_true (by first | (with_reducible assumption) | assumption)
                                        obtain ⟨ad495, e495, hx495_0, hx495_1, hx495_2⟩ := at_T47 HR1.out x11_5 p495 q495
                                        cases e495
                                        replace hx495_0 := (HB.out.cell (World.block_lt_of_cell? w _ hx495_0)).trans hx495_0
                                        replace hx495_1 := (HB.out.cell (World.block_lt_of_cell? w _ hx495_1)).trans hx495_1
                                        replace hx495_2 := (HB.out.cell (World.block_lt_of_cell? w _ hx495_2)).trans hx495_2
                                        replace p495 := eq_true p495
                                        replace q495 := eq_true q495
                                        go_wp2
                                        go_roundg k5
                                        case measure => have := HK1.out; have := HK2.out; have := HK3.out; have := HJ13.out; have := HK5.out; omega
                                        case rel => exact ⟨(x11_5), (wrap64 (x11_5 + 1)), (by first | rfl | (simp; done) | (simp [*]; done)), (by first | rfl | (simp; done) | (simp [*]; done)), H', ⟨by have := HK1.out; have := HK2.out; have := HK3.out; have := HJ13.out; have := HK5.out; omega⟩, ⟨by (with_reducible repeat (first | apply Kd.R_alloc | apply Kd.R_drewN | apply Kd.R_drew)); exact HO_5.out⟩, ⟨by repeat (first | (with_reducible first | exact HB.out | apply below_alloc | apply pw_below_drewN | apply below_drew1) | exact HB.out)⟩⟩
                                      · rw [if_neg c29] at H
                                        have c29b0 : (((rd_T47 l1 x11_5).f0) == x8_3) = false := beq_eq_false_iff_ne.mpr c29
                                        have c29b1 : (((rd_T47 l1 x11_5).f0) != x8_3) = true := bne_iff_ne.mpr c29
                                        have H' := Aside0.mk H
                                        clear H
                                        have p494 : 0 ≤ (x11_5 : Int) := of_decide_eq_true (by first | (with_reducible assumption) | assumption)
                                        have q494 : x11_5 < (x5_2.length : Int) := of_decide_eq_true (by first | (with_reducible assumption) | assumption)
                                        obtain ⟨ad494, e494, hx494_0⟩ := Kd.at_int (Kd.R_reads' HO_5.out).2.2 x11_5 p494 q494
                                        cases e494
                                        replace p494 := eq_true p494
                                        replace q494 := eq_true q494
                                        have p495 : 0 ≤ (x11_5 : Int) := of_decide_eq_true (by first | (with_reducible assumption) | assumption)
                                        have q495 : x11_5 < (l1.length : Int) := of_decide_eq_true (by first | (with_reducible assumption) | assumption)
                                        obtain ⟨ad495, e495, hx495_0, hx495_1, hx495_2⟩ := at_T47 HR1.out x11_5 p495 q495
                                        cases e495
                                        replace hx495_0 := (HB.out.cell (World.block_lt_of_cell? w _ hx495_0)).trans hx495_0
                                        replace hx495_1 := (HB.out.cell (World.block_lt_of_cell? w _ hx495_1)).trans hx495_1
                                        replace hx495_2 := (HB.out.cell (World.block_lt_of_cell? w _ hx495_2)).trans hx495_2
                                        replace p495 := eq_true p495
                                        replace q495 := eq_true q495
                                        go_wp2
                                        go_roundg k5
                                        case measure => have := HK1.out; have := HK2.out; have := HK3.out; have := HJ13.out; have := HK5.out; omega
                                        case rel => exact ⟨(x10_5), (wrap64 (x11_5 + 1)), (by first | rfl | (simp; done) | (simp [*]; done)), (by first | rfl | (simp; done) | (simp [*]; done)), H', ⟨by have := HK1.out; have := HK2.out; have := HK3.out; have := HJ13.out; have := HK5.out; omega⟩, ⟨by (with_reducible repeat (first | apply Kd.R_alloc | apply Kd.R_drewN | apply Kd.R_drew)); exact HO_5.out⟩, ⟨by repeat (first | (with_reducible first | exact HB.out | apply below_alloc | apply pw_below_drewN | apply below_drew1) | exact HB.out)⟩⟩
                                    · rw [if_neg c28] at H
                                      have c28b0 : ((rd x5_2 x11_5) == 1) = false := beq_eq_false_iff_ne.mpr c28
                                      have c28b1 : ((rd x5_2 x11_5) != 1) = true := bne_iff_ne.mpr c28
                                      have H' := Aside0.mk H
                                      clear H
                                      have p494 : 0 ≤ (x11_5 : Int) := of_decide_eq_true (by first | (with_reducible assumption) | assumption)
                                      have q494 : x11_5 < (x5_2.length : Int) := of_decide_eq_true (by first | (with_reducible assumption) | assumption)
                                      obtain ⟨ad494, e494, hx494_0⟩ := Kd.at_int (Kd.R_reads' HO_5.out).2.2 x11_5 p494 q494
                                      cases e494
                                      replace p494 := eq_true p494
                                      replace q494 := eq_true q494
                                      go_wp2
                                      go_roundg k5
                                      case measure => have := HK1.out; have := HK2.out; have := HK3.out; have := HJ13.out; have := HK5.out; omega
                                      case rel => exact ⟨(x10_5), (wrap64 (x11_5 + 1)), (by first | rfl | (simp; done) | (simp [*]; done)), (by first | rfl | (simp; done) | (simp [*]; done)), H', ⟨by have := HK1.out; have := HK2.out; have := HK3.out; have := HJ13.out; have := HK5.out; omega⟩, ⟨by (with_reducible repeat (first | apply Kd.R_alloc | apply Kd.R_drewN | apply Kd.R_drew)); exact HO_5.out⟩, ⟨by repeat (first | (with_reducible first | exact HB.out | apply below_alloc | apply pw_below_drewN | apply below_drew1) | exact HB.out)⟩⟩
                                  · rw [if_neg c27] at H
                                    exact absurd H (by simp)
                                · rw [if_neg c26] at H
                                  exact absurd H (by simp)
                              · rw [if_neg c25] at H
                                have c25b0 : decide (x11_5 < (l1.length : Int)) = false := decide_eq_false c25
                                clear c25
                                by_cases c30 : 0 ≤ x10_5
                                · rw [if_pos c30] at H
                                  have c30b0 : decide (0 ≤ x10_5) = true := decide_eq_true c30
                                  clear c30
                                  by_cases c31 : x10_5 < (x5_2.length : Int)
                                  · rw [if_pos c31] at H
                                    have c31b0 : decide (x10_5 < (x5_2.length : Int)) = true := decide_eq_true c31
                                    clear c31
                                    obtain ⟨y496, hy496⟩ : ∃ y_ : List Int, y_ = (x5_2.set (x10_5 : Int).toNat 0) := ⟨_, rfl⟩
                                    replace H : (spec_GreatestLot.l1 k5 l0 l1 y496) = some r := by first | (rw [hy496]; with_reducible exact H) | (have H2_ := (Option.bind_some _ _).symm.trans H; rw [hy496]; with_reducible exact H2_) | (have H2_ := (Option.bind_some _ _).symm.trans H; with_reducible exact H2_) | with_reducible exact H | (rw [hy496]; exact H) | exact H
                                    have Ny496 := Aside0.mk hy496
                                    clear hy496
                                    have H' := Aside0.mk H
                                    clear H
                                    have p32 : 0 ≤ (x10_5 : Int) := of_decide_eq_true (by first | (with_reducible assumption) | assumption)
                                    have q32 : (x10_5 : Int) < ((x5_2.length : Int) : Int) := of_decide_eq_true (by first | (with_reducible assumption) | assumption)
                                    obtain ⟨go32, co32, eo32, gb32, gl32, cl32, HG32⟩ := Kd.R_form HO_5.out (by omega)
                                    (first | cases eo32 | (injection eo32 with ea_ en_ ec_; (first | subst ea_ | (injection ea_ with ea_; subst ea_)); subst ec_; clear en_))
                                    have GB32 := Aside0.mk gb32
                                    have GG32 := Aside0.mk HG32
                                    clear gb32 gl32 HG32
                                    obtain ⟨hx32_0, hf32_0⟩ := Kd.R_celln 0 HO_5.out (x10_5 : Int) p32 q32
                                    replace p32 := eq_true p32
                                    replace q32 := eq_true q32
                                    have HP33 := Kd.R_putg HO_5.out (x10_5 : Int) 0
                                    go_wp2_with (first | ((with_reducible refine gate_store (t := 3) (p := 73) rfl ?_); refine store_event (t := 3) (p := 73) (v := ?vo_w34) (w1 := (wr.setCell ⟨go32, (x10_5 : Int).toNat, none⟩ (.int .i64 0))) ?hg ?ho ?hn ?hr ?_; (case ho => rfl); (case hg => rfl); (case hn => rfl); (case hr => first | (go_simp; done) | (go_simp; rfl)); intro w34 hw; have hg : wr.grownBy w34 (some go32) := (by rw [hw]; exact HP33.2); have hp_ : Kd.R (Kd.int .i64) 3 w34 w.heap.size (fun _ => True) (.slice (some ⟨go32, 0, none⟩) x5_2.length co12) y496 := (by rw [hw, Ny496.out]; exact HP33.1); clear HP33; have n0_ := Aside0.mk (hp_); have n1_ := Aside0.mk ((by rw [hw]; exact below_set (HB.out) GB32.out : Below w.heap.size w w34)); clear HO_5; clear HB; have HO_5 := n0_; have HB := n1_; clear n0_ n1_; clear hg hw hp_))
                                    go_roundg k5
                                    case measure => have := HK1.out; have := HK2.out; have := HK3.out; have := HJ13.out; have := HK5.out; omega
                                    case rel => exact ⟨(y496), H', ⟨by have := HK1.out; have := HK2.out; have := HK3.out; have := HJ13.out; have := HK5.out; omega⟩, ⟨by (with_reducible repeat (first | apply Kd.R_alloc | apply Kd.R_drewN | apply Kd.R_drew)); exact HO_5.out⟩, ⟨by repeat (first | (with_reducible first | exact HB.out | apply below_alloc | apply pw_below_drewN | apply below_drew1) | exact HB.out)⟩⟩
                                  · rw [if_neg c31] at H
                                    exact absurd H (by simp)
                                · rw [if_neg c30] at H
                                  exact absurd H (by simp)
  · replace c4 := Bool.eq_false_iff.mpr c4
    subst c4
    have H1 : (some y483) = some r := by rw [if_neg (show ¬ (false = true) by decide)] at H; exact H
    clear H
    have H := H1
    clear H1
    obtain rfl := Option.some.inj H
    go_enter Try.func35, Try.ntmps35
    go_wp2_with (first | ((with_reducible refine gate_dst (N := 12) rfl ?_); refine Kd.R_lit (Kd.int .i64) _ 3 ?hg (N := 12) ?hd (xs := ([] : List Int)) (inner := []) (ok := fun _ => True) (okp := fun _ => True) ?hr ?hp (fun _ hk => hk) trivial (Below.refl _ _) (Nat.le_refl _) (by simp) ?_; (case hd => rfl); (case hg => rfl); (case hr => first | (go_simp; done) | (go_simp; rfl)); (case hp => exact (Reps.none _ _)); intro v484 w35 ho36 hb hg_ hnew_; clear hg_ hnew_; (first | rw [← Ny483.out] at ho36 | (simp only [Int.reduceToNat] at ho36; rw [← Ny483.out] at ho36)); have n0_ := Aside0.mk (Kd.R_lower ho36 (below_size (by repeat (first | (with_reducible first | exact HB.out | apply below_alloc | apply pw_below_drewN | apply below_drew1) | exact HB.out)))); have n1_ := Aside0.mk (below_step (by repeat (first | (with_reducible first | exact HB.out | apply below_alloc | apply pw_below_drewN | apply below_drew1) | exact HB.out)) hb); clear HB; have HO485 := n0_; have HB := n1_; clear n0_ n1_; clear hb ho36) | ((with_reducible refine gate_callee (f := 16) rfl ?_); refine goesL_ (some 15) rfl rfl Try.func16 (by kernel_rfl) rfl #[.slice A0 l0.length c0, .slice A1 l1.length c1] rfl (by (try simp only [List.map_toArray, List.map_cons, List.map_nil]); first | done | rfl | (simp only [List.length_drop, List.length_take]; rfl)) ?_; (with_reducible refine (spec_WaitsOk.calls k _ _ l0 _ _ l1 false _ ?side1 ?side2 ?side3 ?side4 A3.out).mono ?_); (case side1 => repeat (first | exact (Kd.C_below HR0.out HB.out) | (with_reducible refine Kd.C_alloc ?_ _) | (with_reducible refine Kd.C_drewN ?_ _) | (with_reducible refine Kd.C_drew ?_))); (case side2 => exact HC0.out); (case side3 => repeat (first | exact (Kd.C_below HR1.out HB.out) | (with_reducible refine Kd.C_alloc ?_ _) | (with_reducible refine Kd.C_drewN ?_ _) | (with_reducible refine Kd.C_drew ?_))); (case side4 => exact HC1.out); rintro e w37 ⟨rfl, hb⟩; refine ⟨_, rfl, ?_⟩; have n0_ := Aside0.mk (Kd.R_below (by (with_reducible repeat (first | apply Kd.R_alloc | apply Kd.R_drewN | apply Kd.R_drew)); exact HO485.out) hb); have n1_ := Aside0.mk (below_step (by repeat (first | (with_reducible first | exact HB.out | apply below_alloc | apply pw_below_drewN | apply below_drew1) | exact HB.out)) hb); clear HO485; clear HB; have HO485 := n0_; have HB := n1_; clear n0_ n1_; (try clear hb); (try clear hb2); (try clear hk); (try clear hi)))
    go_ret
    exact ⟨_, by first | rfl | (simp [errW_none, errW_some] <;> rfl) | (simp [*, errW_none, errW_some] <;> rfl), by (with_reducible repeat (first | apply Kd.R_alloc | apply Kd.R_drewN | apply Kd.R_drew)); exact HO485.out, by repeat (first | (with_reducible first | exact HB.out | apply below_alloc | apply pw_below_drewN | apply below_drew1) | exact HB.out)⟩
end Go.Proofs.Ytbnkiikpolcpkaa.PU

namespace Go.Proofs.Ytbnkiikpolcpkaa.PU
open Go.RowKit Go.Proofs.YtbnkiikpolcpkaaW.PrintWords Go.Proofs.YtbnkiikpolcpkaaW.PrintLast Go.Proofs.YtbnkiikpolcpkaaW.PrintMore
attribute [local go_sem] max2_int min2_int max_two min_two max_three min_three max_four min_four   -- for this text's walks alone
set_option linter.unusedVariables false
set_option linter.unusedSimpArgs false
def spec_DrawLotOk.f (k : Nat) (l0 : List Int) : Option (List Int × (List (S47)) × List Int) := (spec_l20Open.f l0).bind fun bt497 => ((spec_l20Waits.f k bt497.1 bt497.2 14).bind fun bt500 => ((spec_l20Rd_pick.f k bt497.1 bt500.2.2 3).bind fun bt507 => (if bt507.1 = 0 then ((spec_GreatestLot.f k bt500.1 bt500.2.1).bind fun t509 => (some (bt500.1, bt500.2.1, t509))) else ((spec_l20Rd_pick.f k bt497.1 bt507.2 20).bind fun bt512 => ((spec_l20Lot.f k bt497.1 bt512.2 (wrap64 ((bt500.2.1.length : Int) + (wrap64 (Int.tdiv bt512.1 19))))).bind fun bt514 => (some (bt500.1, bt500.2.1, bt514.1)))))))
theorem spec_DrawLotOk.mono : ∀ a0 k, LeO (spec_DrawLotOk.f k a0) (spec_DrawLotOk.f (k + 1) a0) := by
  intro a0 k
  unfold spec_DrawLotOk.f
  repeat' first
      | (with_reducible exact spec_GreatestLot.mono _ _ _)
      | (with_reducible exact spec_l20Lot.mono _ _ _ _)
      | (with_reducible exact spec_l20Rd_pick.mono _ _ _ _)
      | (with_reducible exact spec_l20Waits.mono _ _ _ _)
      | (with_reducible exact LeO.refl _)
      | (with_reducible exact LeO.none _)
      | (with_reducible refine LeO.ite ?_ ?_)
      | (with_reducible refine LeO.bind ?_ (fun _ => ?_))
      | exact spec_GreatestLot.mono _ _ _
      | exact spec_l20Lot.mono _ _ _ _
      | exact spec_l20Rd_pick.mono _ _ _ _
      | exact spec_l20Waits.mono _ _ _ _
      | exact LeO.none _
      | refine LeO.ite ?_ ?_
      | refine LeO.bind ?_ (fun _ => ?_)
set_option maxHeartbeats 8000000 in
set_option maxRecDepth 100000 in
theorem spec_DrawLotOk.calls (k : Nat) (A0 : Option Addr) (c0 : Nat) (l0 : List Int) (r1 : List Int) (r2 : List (S47)) (r3 : List Int) (w : World) (hr0 : Kd.C (Kd.int .u8) w A0 l0.length l0) (hc0 : l0.length ≤ c0) (h : spec_DrawLotOk.f k l0 = some (r1, r2, r3)) :
    Calls Try.prog 34 #[.slice A0 l0.length c0] w fun e w' => ∃ v0_ v1_ v2_ : Value, e = .returned (.tuple #[v0_, v1_, v2_]) ∧ Kd.R (Kd.int .i64) 3 w' w.heap.size (fun k_ => some k_ ≠ (v2_ : Value).ownBlock) v0_ r1 ∧ Kd.R k47 47 w' w.heap.size (fun _ => True) v1_ r2 ∧ Kd.R (Kd.int .i64) 3 w' w.heap.size (fun k_ => some k_ ≠ (v0_ : Value).ownBlock) v2_ r3 ∧ Below w.heap.size w w' := by
  have HR0 := Aside0.mk hr0
  have HC0 := Aside0.mk hc0
  clear hr0 hc0
  have HB := Aside0.mk (Below.refl w.heap.size w)
  have H : ((spec_l20Open.f l0).bind fun bt497 => ((spec_l20Waits.f k bt497.1 bt497.2 14).bind fun bt500 => ((spec_l20Rd_pick.f k bt497.1 bt500.2.2 3).bind fun bt507 => (if bt507.1 = 0 then ((spec_GreatestLot.f k bt500.1 bt500.2.1).bind fun t509 => (some (bt500.1, bt500.2.1, t509))) else ((spec_l20Rd_pick.f k bt497.1 bt507.2 20).bind fun bt512 => ((spec_l20Lot.f k bt497.1 bt512.2 (wrap64 ((bt500.2.1.length : Int) + (wrap64 (Int.tdiv bt512.1 19))))).bind fun bt514 => (some (bt500.1, bt500.2.1, bt514.1)))))))) = some (r1, r2, r3) := h
  clear h
  replace H := Option.bind_eq_some_iff.mp H
  obtain ⟨⟨t497, t498⟩, A20, H⟩ := H
  replace H : ((spec_l20Waits.f k t497 t498 14).bind fun bt500 => ((spec_l20Rd_pick.f k t497 bt500.2.2 3).bind fun bt507 => (if bt507.1 = 0 then ((spec_GreatestLot.f k bt500.1 bt500.2.1).bind fun t509 => (some (bt500.1, bt500.2.1, t509))) else ((spec_l20Rd_pick.f k t497 bt507.2 20).bind fun bt512 => ((spec_l20Lot.f k t497 bt512.2 (wrap64 ((bt500.2.1.length : Int) + (wrap64 (Int.tdiv bt512.1 19))))).bind fun bt514 => (some (bt500.1, bt500.2.1, bt514.1))))))) = some (r1, r2, r3) := H
  have A2 := Aside0.mk A20
  clear A20
  replace H := Option.bind_eq_some_iff.mp H
  obtain ⟨⟨t500, t503, t506⟩, A30, H⟩ := H
  replace H : ((spec_l20Rd_pick.f k t497 t506 3).bind fun bt507 => (if bt507.1 = 0 then ((spec_GreatestLot.f k t500 t503).bind fun t509 => (some (t500, t503, t509))) else ((spec_l20Rd_pick.f k t497 bt507.2 20).bind fun bt512 => ((spec_l20Lot.f k t497 bt512.2 (wrap64 ((t503.length : Int) + (wrap64 (Int.tdiv bt512.1 19))))).bind fun bt514 => (some (t500, t503, bt514.1)))))) = some (r1, r2, r3) := H
  have A3 := Aside0.mk A30
  clear A30
  replace H := Option.bind_eq_some_iff.mp H
  obtain ⟨⟨t507, t508⟩, A40, H⟩ := H
  replace H : (if t507 = 0 then ((spec_GreatestLot.f k t500 t503).bind fun t509 => (some (t500, t503, t509))) else ((spec_l20Rd_pick.f k t497 t508 20).bind fun bt512 => ((spec_l20Lot.f k t497 bt512.2 (wrap64 ((t503.length : Int) + (wrap64 (Int.tdiv bt512.1 19))))).bind fun bt514 => (some (t500, t503, bt514.1))))) = some (r1, r2, r3) := H
  have A4 := Aside0.mk A40
  clear A40
  by_cases c5 : t507 = 0
  · rw [if_pos c5] at H
    have c5b0 : (t507 == 0) = true := beq_iff_eq.mpr c5
    have c5b1 : (t507 != 0) = false := bne_eq_false_iff_eq.mpr c5
    clear c5
    replace H := Option.bind_eq_some_iff.mp H
    obtain ⟨t509, A60, H⟩ := H
    replace H : (some (t500, t503, t509)) = some (r1, r2, r3) := H
    have A6 := Aside0.mk A60
    clear A60
    simp only [Option.some.injEq, Prod.mk.injEq] at H
    obtain ⟨rfl, rfl, rfl⟩ := H
    go_enter Try.func34, Try.ntmps34
    go_wp2_with (first | ((with_reducible refine gate_callee (f := 49) rfl ?_); refine goesL_ (some 9) rfl rfl Try.func49 (by kernel_rfl) rfl #[.slice A0 l0.length c0] rfl (by (try simp only [List.map_toArray, List.map_cons, List.map_nil]); first | done | rfl | (simp only [List.length_drop, List.length_take]; rfl)) ?_; (with_reducible refine (spec_l20Open.calls _ _ l0 t497 t498 w _ ?side1 ?side2 ?side3 A2.out).mono ?_); (case side1 => repeat (first | (with_reducible first | exact HB.out | apply below_alloc | apply pw_below_drewN | apply below_drew1) | exact HB.out)); (case side2 => exact HR0.out); (case side3 => exact HC0.out); rintro e w7 ⟨g499, rfl, hi, hb, hb2⟩; refine ⟨_, rfl, ?_⟩; have n0_ := Aside0.mk (hb); have n1_ := Aside0.mk (hi); clear HB; have HB := n0_; have HI499 := n1_; clear n0_ n1_; (try clear hb); (try clear hb2); (try clear hk); (try clear hi)) | ((with_reducible refine gate_callee (f := 48) rfl ?_); refine goesL_ (some 12) rfl rfl Try.func48 (by kernel_rfl) rfl #[.pointer (some ⟨g499, 0, none⟩), .int .i64 14] rfl (by (try simp only [List.map_toArray, List.map_cons, List.map_nil]); first | done | rfl | (simp only [List.length_drop, List.length_take]; rfl)) ?_; (with_reducible refine (spec_l20Waits.calls k g499 t497 t498 14 t500 t503 t506 w _ ?side1 ?side2 A3.out).mono ?_); (case side1 => repeat (first | (with_reducible first | exact HI499.out | apply IsS65.alloc | apply IsS65.drewN | apply IsS65.drew | apply IsS65.set_1) | exact HI499.out)); (case side2 => repeat (first | (with_reducible first | exact HB.out | apply below_alloc | apply pw_below_drewN | apply below_drew1 | refine below_set ?_ (IsS65.ge HI499.out)) | exact HB.out)); rintro e w8 ⟨v501, v504, rfl, ho0, ho1, hi, hb, hk⟩; refine ⟨_, rfl, ?_⟩; have n0_ := Aside0.mk (Kd.R_lower ho0 (below_size (by repeat (first | (with_reducible first | exact HB.out | apply below_alloc | apply pw_below_drewN | apply below_drew1 | refine below_set ?_ (IsS65.ge HI499.out)) | exact HB.out)))); have n1_ := Aside0.mk (Kd.R_lower ho1 (below_size (by repeat (first | (with_reducible first | exact HB.out | apply below_alloc | apply pw_below_drewN | apply below_drew1 | refine below_set ?_ (IsS65.ge HI499.out)) | exact HB.out)))); have n2_ := Aside0.mk (hb); have n3_ := Aside0.mk (hi); clear HB; clear HI499; have HO502 := n0_; have HO505 := n1_; have HB := n2_; have HI499 := n3_; clear n0_ n1_ n2_ n3_; (try clear hb); (try clear hb2); (try clear hk); (try clear hi); (try clear ho0); (try clear ho1)) | ((with_reducible refine gate_callee (f := 56) rfl ?_); refine goesL_ (some 16) rfl rfl Try.func56 (by kernel_rfl) rfl #[.pointer (some ⟨g499, 0, none⟩), .int .i64 3] rfl (by (try simp only [List.map_toArray, List.map_cons, List.map_nil]); first | done | rfl | (simp only [List.length_drop, List.length_take]; rfl)) ?_; (with_reducible refine (spec_l20Rd_pick.calls k g499 t497 t506 3 t507 t508 w _ ?side1 ?side2 A4.out).mono ?_); (case side1 => repeat (first | (with_reducible first | exact HI499.out | apply IsS65.alloc | apply IsS65.drewN | apply IsS65.drew | apply IsS65.set_1) | exact HI499.out)); (case side2 => repeat (first | (with_reducible first | exact HB.out | apply below_alloc | apply pw_below_drewN | apply below_drew1 | refine below_set ?_ (IsS65.ge HI499.out)) | exact HB.out)); rintro e w9 ⟨rfl, hi, hb, hk⟩; refine ⟨_, rfl, ?_⟩; have n0_ := Aside0.mk (Kd.R_mono (Kd.R_keep (IsS65.apart (show IsS65 w _ g499 t497 t506 from by repeat (first | (with_reducible first | exact HI499.out | apply IsS65.alloc | apply IsS65.drewN | apply IsS65.drew | apply IsS65.set_1) | exact HI499.out)) (by (with_reducible repeat (first | apply Kd.R_alloc | apply Kd.R_drewN | apply Kd.R_drew)); exact HO502.out) (by decide)) hk (fun _ h => h.2)) (fun _ h => h.1)); have n1_ := Aside0.mk (Kd.R_mono (Kd.R_keep (IsS65.apart (show IsS65 w _ g499 t497 t506 from by repeat (first | (with_reducible first | exact HI499.out | apply IsS65.alloc | apply IsS65.drewN | apply IsS65.drew | apply IsS65.set_1) | exact HI499.out)) (by (with_reducible repeat (first | apply Kd.R_alloc | apply Kd.R_drewN | apply Kd.R_drew)); exact HO505.out) (by decide)) hk (fun _ h => h.2)) (fun _ h => h.1)); have n2_ := Aside0.mk (hb); have n3_ := Aside0.mk (hi); clear HO502; clear HO505; clear HB; clear HI499; have HO502 := n0_; have HO505 := n1_; have HB := n2_; have HI499 := n3_; clear n0_ n1_ n2_ n3_; (try clear hb); (try clear hb2); (try clear hk); (try clear hi); obtain ⟨Ao10, co10, eo10⟩ := Kd.R_slice HO502.out; subst eo10; obtain ⟨Ao11, co11, eo11⟩ := Kd.R_slice HO505.out; subst eo11) | ((with_reducible refine gate_callee (f := 35) rfl ?_); refine goesL_ (some 22) rfl rfl Try.func35 (by kernel_rfl) rfl #[.slice Ao10 t500.length co10, .slice Ao11 t503.length co11] rfl (by (try simp only [List.map_toArray, List.map_cons, List.map_nil]); first | done | rfl | (simp only [List.length_drop, List.length_take]; rfl)) ?_; (with_reducible refine (spec_GreatestLot.calls k _ _ t500 _ _ t503 t509 _ ?side1 ?side2 ?side3 ?side4 A6.out).mono ?_); (case side1 => repeat (first | exact (Kd.R_reads' HO502.out).2.2 | (with_reducible refine Kd.C_alloc ?_ _) | (with_reducible refine Kd.C_drewN ?_ _) | (with_reducible refine Kd.C_drew ?_))); (case side2 => exact (Kd.R_reads' HO502.out).2.1); (case side3 => repeat (first | exact (Kd.R_reads' HO505.out).2.2 | (with_reducible refine Kd.C_alloc ?_ _) | (with_reducible refine Kd.C_drewN ?_ _) | (with_reducible refine Kd.C_drew ?_))); (case side4 => exact (Kd.R_reads' HO505.out).2.1); rintro e w12 ⟨v510, rfl, ho0, hb⟩; refine ⟨_, rfl, ?_⟩; have n0_ := Aside0.mk (Kd.R_elder' (by (with_reducible repeat (first | apply Kd.R_alloc | apply Kd.R_drewN | apply Kd.R_drew)); exact HO502.out) (Kd.R_base ho0) hb); have n1_ := Aside0.mk (Kd.R_below (by (with_reducible repeat (first | apply Kd.R_alloc | apply Kd.R_drewN | apply Kd.R_drew)); exact HO505.out) hb); have n2_ := Aside0.mk (Kd.R_lower (Kd.R_new' ho0 (Kd.R_lt (by (with_reducible repeat (first | apply Kd.R_alloc | apply Kd.R_drewN | apply Kd.R_drew)); exact HO502.out))) (below_size (by repeat (first | (with_reducible first | exact HB.out | apply below_alloc | apply pw_below_drewN | apply below_drew1 | refine below_set ?_ (IsS65.ge HI499.out)) | exact HB.out)))); have n3_ := Aside0.mk (IsS65.below (by repeat (first | (with_reducible first | exact HI499.out | apply IsS65.alloc | apply IsS65.drewN | apply IsS65.drew | apply IsS65.set_1) | exact HI499.out)) hb); have n4_ := Aside0.mk (below_step (by repeat (first | (with_reducible first | exact HB.out | apply below_alloc | apply pw_below_drewN | apply below_drew1 | refine below_set ?_ (IsS65.ge HI499.out)) | exact HB.out)) hb); clear HO502; clear HO505; clear HI499; clear HB; have HO502 := n0_; have HO505 := n1_; have HO511 := n2_; have HI499 := n3_; have HB := n4_; clear n0_ n1_ n2_ n3_ n4_; (try clear hb); (try clear hb2); (try clear hk); (try clear hi); (try clear ho0)))
    go_ret3
    exact ⟨_, _, _, by first | rfl | (simp [errW_none, errW_some] <;> rfl) | (simp [*, errW_none, errW_some] <;> rfl), by (with_reducible repeat (first | apply Kd.R_alloc | apply Kd.R_drewN | apply Kd.R_drew)); exact Kd.R_mono HO502.out (fun _ hk => hk.2), by (with_reducible repeat (first | apply Kd.R_alloc | apply Kd.R_drewN | apply Kd.R_drew)); exact HO505.out, by (with_reducible repeat (first | apply Kd.R_alloc | apply Kd.R_drewN | apply Kd.R_drew)); exact Kd.R_mono HO511.out (fun _ hk => hk.2), by repeat (first | (with_reducible first | exact HB.out | apply below_alloc | apply pw_below_drewN | apply below_drew1 | refine below_set ?_ (IsS65.ge HI499.out)) | exact HB.out)⟩
  · rw [if_neg c5] at H
    have c5b0 : (t507 == 0) = false := beq_eq_false_iff_ne.mpr c5
    have c5b1 : (t507 != 0) = true := bne_iff_ne.mpr c5
    replace H := Option.bind_eq_some_iff.mp H
    obtain ⟨⟨t512, t513⟩, A130, H⟩ := H
    replace H : ((spec_l20Lot.f k t497 t513 (wrap64 ((t503.length : Int) + (wrap64 (Int.tdiv t512 19))))).bind fun bt514 => (some (t500, t503, bt514.1))) = some (r1, r2, r3) := H
    have A13 := Aside0.mk A130
    clear A130
    replace H := Option.bind_eq_some_iff.mp H
    obtain ⟨⟨t514, t517⟩, A140, H⟩ := H
    replace H : (some (t500, t503, t514)) = some (r1, r2, r3) := H
    have A14 := Aside0.mk A140
    clear A140
    simp only [Option.some.injEq, Prod.mk.injEq] at H
    obtain ⟨rfl, rfl, rfl⟩ := H
    go_enter Try.func34, Try.ntmps34
    go_wp2_with (first | ((with_reducible refine gate_callee (f := 49) rfl ?_); refine goesL_ (some 9) rfl rfl Try.func49 (by kernel_rfl) rfl #[.slice A0 l0.length c0] rfl (by (try simp only [List.map_toArray, List.map_cons, List.map_nil]); first | done | rfl | (simp only [List.length_drop, List.length_take]; rfl)) ?_; (with_reducible refine (spec_l20Open.calls _ _ l0 t497 t498 w _ ?side1 ?side2 ?side3 A2.out).mono ?_); (case side1 => repeat (first | (with_reducible first | exact HB.out | apply below_alloc | apply pw_below_drewN | apply below_drew1) | exact HB.out)); (case side2 => exact HR0.out); (case side3 => exact HC0.out); rintro e w15 ⟨g499, rfl, hi, hb, hb2⟩; refine ⟨_, rfl, ?_⟩; have n0_ := Aside0.mk (hb); have n1_ := Aside0.mk (hi); clear HB; have HB := n0_; have HI499 := n1_; clear n0_ n1_; (try clear hb); (try clear hb2); (try clear hk); (try clear hi)) | ((with_reducible refine gate_callee (f := 48) rfl ?_); refine goesL_ (some 12) rfl rfl Try.func48 (by kernel_rfl) rfl #[.pointer (some ⟨g499, 0, none⟩), .int .i64 14] rfl (by (try simp only [List.map_toArray, List.map_cons, List.map_nil]); first | done | rfl | (simp only [List.length_drop, List.length_take]; rfl)) ?_; (with_reducible refine (spec_l20Waits.calls k g499 t497 t498 14 t500 t503 t506 w _ ?side1 ?side2 A3.out).mono ?_); (case side1 => repeat (first | (with_reducible first | exact HI499.out | apply IsS65.alloc | apply IsS65.drewN | apply IsS65.drew | apply IsS65.set_1) | exact HI499.out)); (case side2 => repeat (first | (with_reducible first | exact HB.out | apply below_alloc | apply pw_below_drewN | apply below_drew1 | refine below_set ?_ (IsS65.ge HI499.out)) | exact HB.out)); rintro e w16 ⟨v501, v504, rfl, ho0, ho1, hi, hb, hk⟩; refine ⟨_, rfl, ?_⟩; have n0_ := Aside0.mk (Kd.R_lower ho0 (below_size (by repeat (first | (with_reducible first | exact HB.out | apply below_alloc | apply pw_below_drewN | apply below_drew1 | refine below_set ?_ (IsS65.ge HI499.out)) | exact HB.out)))); have n1_ := Aside0.mk (Kd.R_lower ho1 (below_size (by repeat (first | (with_reducible first | exact HB.out | apply below_alloc | apply pw_below_drewN | apply below_drew1 | refine below_set ?_ (IsS65.ge HI499.out)) | exact HB.out)))); have n2_ := Aside0.mk (hb); have n3_ := Aside0.mk (hi); clear HB; clear HI499; have HO502 := n0_; have HO505 := n1_; have HB := n2_; have HI499 := n3_; clear n0_ n1_ n2_ n3_; (try clear hb); (try clear hb2); (try clear hk); (try clear hi); (try clear ho0); (try clear ho1)) | ((with_reducible refine gate_callee (f := 56) rfl ?_); refine goesL_ (some 16) rfl rfl Try.func56 (by kernel_rfl) rfl #[.pointer (some ⟨g499, 0, none⟩), .int .i64 3] rfl (by (try simp only [List.map_toArray, List.map_cons, List.map_nil]); first | done | rfl | (simp only [List.length_drop, List.length_take]; rfl)) ?_; (with_reducible refine (spec_l20Rd_pick.calls k g499 t497 t506 3 t507 t508 w _ ?side1 ?side2 A4.out).mono ?_); (case side1 => repeat (first | (with_reducible first | exact HI499.out | apply IsS65.alloc | apply IsS65.drewN | apply IsS65.drew | apply IsS65.set_1) | exact HI499.out)); (case side2 => repeat (first | (with_reducible first | exact HB.out | apply below_alloc | apply pw_below_drewN | apply below_drew1 | refine below_set ?_ (IsS65.ge HI499.out)) | exact HB.out)); rintro e w17 ⟨rfl, hi, hb, hk⟩; refine ⟨_, rfl, ?_⟩; have n0_ := Aside0.mk (Kd.R_mono (Kd.R_keep (IsS65.apart (show IsS65 w _ g499 t497 t506 from by repeat (first | (with_reducible first | exact HI499.out | apply IsS65.alloc | apply IsS65.drewN | apply IsS65.drew | apply IsS65.set_1) | exact HI499.out)) (by (with_reducible repeat (first | apply Kd.R_alloc | apply Kd.R_drewN | apply Kd.R_drew)); exact HO502.out) (by decide)) hk (fun _ h => h.2)) (fun _ h => h.1)); have n1_ := Aside0.mk (Kd.R_mono (Kd.R_keep (IsS65.apart (show IsS65 w _ g499 t497 t506 from by repeat (first | (with_reducible first | exact HI499.out | apply IsS65.alloc | apply IsS65.drewN | apply IsS65.drew | apply IsS65.set_1) | exact HI499.out)) (by (with_reducible repeat (first | apply Kd.R_alloc | apply Kd.R_drewN | apply Kd.R_drew)); exact HO505.out) (by decide)) hk (fun _ h => h.2)) (fun _ h => h.1)); have n2_ := Aside0.mk (hb); have n3_ := Aside0.mk (hi); clear HO502; clear HO505; clear HB; clear HI499; have HO502 := n0_; have HO505 := n1_; have HB := n2_; have HI499 := n3_; clear n0_ n1_ n2_ n3_; (try clear hb); (try clear hb2); (try clear hk); (try clear hi); obtain ⟨Ao18, co18, eo18⟩ := Kd.R_slice HO505.out; subst eo18) | ((with_reducible refine gate_callee (f := 56) rfl ?_); refine goesL_ (some 29) rfl rfl Try.func56 (by kernel_rfl) rfl #[.pointer (some ⟨g499, 0, none⟩), .int .i64 20] rfl (by (try simp only [List.map_toArray, List.map_cons, List.map_nil]); first | done | rfl | (simp only [List.length_drop, List.length_take]; rfl)) ?_; (with_reducible refine (spec_l20Rd_pick.calls k g499 t497 t508 20 t512 t513 w _ ?side1 ?side2 A13.out).mono ?_); (case side1 => repeat (first | (with_reducible first | exact HI499.out | apply IsS65.alloc | apply IsS65.drewN | apply IsS65.drew | apply IsS65.set_1) | exact HI499.out)); (case side2 => repeat (first | (with_reducible first | exact HB.out | apply below_alloc | apply pw_below_drewN | apply below_drew1 | refine below_set ?_ (IsS65.ge HI499.out)) | exact HB.out)); rintro e w19 ⟨rfl, hi, hb, hk⟩; refine ⟨_, rfl, ?_⟩; have n0_ := Aside0.mk (Kd.R_mono (Kd.R_keep (IsS65.apart (show IsS65 w _ g499 t497 t508 from by repeat (first | (with_reducible first | exact HI499.out | apply IsS65.alloc | apply IsS65.drewN | apply IsS65.drew | apply IsS65.set_1) | exact HI499.out)) (by (with_reducible repeat (first | apply Kd.R_alloc | apply Kd.R_drewN | apply Kd.R_drew)); exact HO502.out) (by decide)) hk (fun _ h => h.2)) (fun _ h => h.1)); have n1_ := Aside0.mk (Kd.R_mono (Kd.R_keep (IsS65.apart (show IsS65 w _ g499 t497 t508 from by repeat (first | (with_reducible first | exact HI499.out | apply IsS65.alloc | apply IsS65.drewN | apply IsS65.drew | apply IsS65.set_1) | exact HI499.out)) (by (with_reducible repeat (first | apply Kd.R_alloc | apply Kd.R_drewN | apply Kd.R_drew)); exact HO505.out) (by decide)) hk (fun _ h => h.2)) (fun _ h => h.1)); have n2_ := Aside0.mk (hb); have n3_ := Aside0.mk (hi); clear HO502; clear HO505; clear HB; clear HI499; have HO502 := n0_; have HO505 := n1_; have HB := n2_; have HI499 := n3_; clear n0_ n1_ n2_ n3_; (try clear hb); (try clear hb2); (try clear hk); (try clear hi)) | ((with_reducible refine gate_callee (f := 55) rfl ?_); refine goesL_ (some 32) rfl rfl Try.func55 (by kernel_rfl) rfl #[.pointer (some ⟨g499, 0, none⟩), .int .i64 (wrap64 ((t503.length : Int) + (wrap64 (Int.tdiv t512 19))))] rfl (by (try simp only [List.map_toArray, List.map_cons, List.map_nil]); first | done | rfl | (simp only [List.length_drop, List.length_take]; rfl)) ?_; (with_reducible refine (spec_l20Lot.calls k g499 t497 t513 (wrap64 ((t503.length : Int) + (wrap64 (Int.tdiv t512 19)))) t514 t517 w _ ?side1 ?side2 A14.out).mono ?_); (case side1 => repeat (first | (with_reducible first | exact HI499.out | apply IsS65.alloc | apply IsS65.drewN | apply IsS65.drew | apply IsS65.set_1) | exact HI499.out)); (case side2 => repeat (first | (with_reducible first | exact HB.out | apply below_alloc | apply pw_below_drewN | apply below_drew1 | refine below_set ?_ (IsS65.ge HI499.out)) | exact HB.out)); rintro e w20 ⟨v515, rfl, ho0, hi, hb, hk⟩; refine ⟨_, rfl, ?_⟩; have n0_ := Aside0.mk (Kd.R_mono (Kd.R_told (Kd.R_oldK (IsS65.apart (show IsS65 w _ g499 t497 t513 from by repeat (first | (with_reducible first | exact HI499.out | apply IsS65.alloc | apply IsS65.drewN | apply IsS65.drew | apply IsS65.set_1) | exact HI499.out)) (by (with_reducible repeat (first | apply Kd.R_alloc | apply Kd.R_drewN | apply Kd.R_drew)); exact HO502.out) (by decide)) hk) (Kd.R_base ho0)) (fun _ h_ => h_.1)); have n1_ := Aside0.mk (Kd.R_mono (Kd.R_keep (IsS65.apart (show IsS65 w _ g499 t497 t513 from by repeat (first | (with_reducible first | exact HI499.out | apply IsS65.alloc | apply IsS65.drewN | apply IsS65.drew | apply IsS65.set_1) | exact HI499.out)) (by (with_reducible repeat (first | apply Kd.R_alloc | apply Kd.R_drewN | apply Kd.R_drew)); exact HO505.out) (by decide)) hk (fun _ h => h.2)) (fun _ h => h.1)); have n2_ := Aside0.mk (Kd.R_lower (Kd.R_new' ho0 (Kd.R_lt (by (with_reducible repeat (first | apply Kd.R_alloc | apply Kd.R_drewN | apply Kd.R_drew)); exact HO502.out))) (below_size (by repeat (first | (with_reducible first | exact HB.out | apply below_alloc | apply pw_below_drewN | apply below_drew1 | refine below_set ?_ (IsS65.ge HI499.out)) | exact HB.out)))); have n3_ := Aside0.mk (hb); have n4_ := Aside0.mk (hi); clear HO502; clear HO505; clear HB; clear HI499; have HO502 := n0_; have HO505 := n1_; have HO516 := n2_; have HB := n3_; have HI499 := n4_; clear n0_ n1_ n2_ n3_ n4_; (try clear hb); (try clear hb2); (try clear hk); (try clear hi); (try clear ho0)))
    go_ret3
    exact ⟨_, _, _, by first | rfl | (simp [errW_none, errW_some] <;> rfl) | (simp [*, errW_none, errW_some] <;> rfl), by (with_reducible repeat (first | apply Kd.R_alloc | apply Kd.R_drewN | apply Kd.R_drew)); exact Kd.R_mono HO502.out (fun _ hk => hk.2), by (with_reducible repeat (first | apply Kd.R_alloc | apply Kd.R_drewN | apply Kd.R_drew)); exact HO505.out, by (with_reducible repeat (first | apply Kd.R_alloc | apply Kd.R_drewN | apply Kd.R_drew)); exact Kd.R_mono HO516.out (fun _ hk => hk.2), by repeat (first | (with_reducible first | exact HB.out | apply below_alloc | apply pw_below_drewN | apply below_drew1 | refine below_set ?_ (IsS65.ge HI499.out)) | exact HB.out)⟩
end Go.Proofs.Ytbnkiikpolcpkaa.PU

namespace Go.Proofs.Ytbnkiikpolcpkaa.PU
open Go.RowKit Go.Proofs.YtbnkiikpolcpkaaW.PrintWords Go.Proofs.YtbnkiikpolcpkaaW.PrintLast Go.Proofs.YtbnkiikpolcpkaaW.PrintMore
attribute [local go_sem] max2_int min2_int max_two min_two max_three min_three max_four min_four   -- for this text's walks alone
set_option linter.unusedVariables false
set_option linter.unusedSimpArgs false
mutual
def laws_FnLotOk.l0 : Nat → List Int → List (S47) → Bool → List Int → Int → Option (Bool)
  | 0, _, _, _, _, _ => none
  | k + 1, x3, x4, x6, x7, x8 => if x8 < (x7.length : Int) then (laws_FnLotOk.j1 k x3 x4 x6 x7 x8 x6) else (laws_FnLotOk.j1 k x3 x4 x6 x7 x8 false)
def laws_FnLotOk.j1 : Nat → List Int → List (S47) → Bool → List Int → Int → Bool → Option (Bool)
  | 0, _, _, _, _, _, _ => none
  | k + 1, x3, x4, x6, x7, x8, x47 => if x47 = true then (if 0 ≤ x8 then (if x8 < (x7.length : Int) then (if (rd x7 x8) < 0 then (some false) else (laws_FnLotOk.l0 k x3 x4 x6 x7 (wrap64 (x8 + 1)))) else (none)) else (none)) else (if 0 ≤ (x4.length : Int) then (if ((x4.length : Int) : Int).toNat ≤ 35184372088832 then ((impl_LotOk.f k x3 x4 (List.replicate ((x4.length : Int) : Int).toNat 0)).bind fun t538 => (some t538)) else (none)) else (none))
end
def laws_FnLotOk.f (k : Nat) (l0 : List Int) : Option (Bool) := if (l0.length : Int) > 1048576 then (some true) else ((spec_DrawLotOk.f k l0).bind fun bt518 => ((impl_LotOk.f k bt518.1 bt518.2.1 bt518.2.2).bind fun t527 => ((spec_LotOk.f k bt518.1 bt518.2.1 bt518.2.2).bind fun t528 => (if (t527 != t528) = true then (some false) else ((spec_WaitsOk.f k bt518.1 bt518.2.1).bind fun t529 => (if t529 = true then ((impl_AfterLot.f k bt518.1 bt518.2.1 bt518.2.2).bind fun t531 => (laws_FnLotOk.l0 k bt518.1 bt518.2.1 t527 t531 0)) else (if t527 = true then (some false) else ((laws_alive.f k).bind fun t530 => (some t530)))))))))
theorem laws_FnLotOk.mono_l : ∀ k, (∀ y0 y1 y2 y3 y4, LeO (laws_FnLotOk.l0 k y0 y1 y2 y3 y4) (laws_FnLotOk.l0 (k + 1) y0 y1 y2 y3 y4)) ∧ (∀ y0 y1 y2 y3 y4 y5, LeO (laws_FnLotOk.j1 k y0 y1 y2 y3 y4 y5) (laws_FnLotOk.j1 (k + 1) y0 y1 y2 y3 y4 y5))
  | 0 => ⟨fun _ _ _ _ _ r h => by simp [laws_FnLotOk.l0] at h, fun _ _ _ _ _ _ r h => by simp [laws_FnLotOk.j1] at h⟩
  | k + 1 => by
    obtain ⟨ih0, ih1⟩ := laws_FnLotOk.mono_l k
    refine ⟨?_, ?_⟩
    · intro y0 y1 y2 y3 y4
      unfold laws_FnLotOk.l0
      repeat' first
      | (with_reducible exact ih0 _ _ _ _ _)
      | (with_reducible exact ih1 _ _ _ _ _ _)
      | (with_reducible exact impl_AfterLot.mono _ _ _ _)
      | (with_reducible exact impl_LotOk.mono _ _ _ _)
      | (with_reducible exact laws_alive.mono _)
      | (with_reducible exact spec_DrawLotOk.mono _ _)
      | (with_reducible exact spec_LotOk.mono _ _ _ _)
      | (with_reducible exact spec_WaitsOk.mono _ _ _)
      | (with_reducible exact LeO.refl _)
      | (with_reducible exact LeO.none _)
      | (with_reducible refine LeO.ite ?_ ?_)
      | (with_reducible refine LeO.bind ?_ (fun _ => ?_))
      | exact ih0 _ _ _ _ _
      | exact ih1 _ _ _ _ _ _
      | exact impl_AfterLot.mono _ _ _ _
      | exact impl_LotOk.mono _ _ _ _
      | exact laws_alive.mono _
      | exact spec_DrawLotOk.mono _ _
      | exact spec_LotOk.mono _ _ _ _
      | exact spec_WaitsOk.mono _ _ _
      | exact LeO.none _
      | refine LeO.ite ?_ ?_
      | refine LeO.bind ?_ (fun _ => ?_)
    · intro y0 y1 y2 y3 y4 y5
      unfold laws_FnLotOk.j1
      repeat' first
      | (with_reducible exact ih0 _ _ _ _ _)
      | (with_reducible exact ih1 _ _ _ _ _ _)
      | (with_reducible exact impl_AfterLot.mono _ _ _ _)
      | (with_reducible exact impl_LotOk.mono _ _ _ _)
      | (with_reducible exact laws_alive.mono _)
      | (with_reducible exact spec_DrawLotOk.mono _ _)
      | (with_reducible exact spec_LotOk.mono _ _ _ _)
      | (with_reducible exact spec_WaitsOk.mono _ _ _)
      | (with_reducible exact LeO.refl _)
      | (with_reducible exact LeO.none _)
      | (with_reducible refine LeO.ite ?_ ?_)
      | (with_reducible refine LeO.bind ?_ (fun _ => ?_))
      | exact ih0 _ _ _ _ _
      | exact ih1 _ _ _ _ _ _
      | exact impl_AfterLot.mono _ _ _ _
      | exact impl_LotOk.mono _ _ _ _
      | exact laws_alive.mono _
      | exact spec_DrawLotOk.mono _ _
      | exact spec_LotOk.mono _ _ _ _
      | exact spec_WaitsOk.mono _ _ _
      | exact LeO.none _
      | refine LeO.ite ?_ ?_
      | refine LeO.bind ?_ (fun _ => ?_)
theorem laws_FnLotOk.mono : ∀ a0 k, LeO (laws_FnLotOk.f k a0) (laws_FnLotOk.f (k + 1) a0) := by
  intro a0 k
  obtain ⟨ih0, ih1⟩ := laws_FnLotOk.mono_l k
  unfold laws_FnLotOk.f
  repeat' first
      | (with_reducible exact ih0 _ _ _ _ _)
      | (with_reducible exact ih1 _ _ _ _ _ _)
      | (with_reducible exact impl_AfterLot.mono _ _ _ _)
      | (with_reducible exact impl_LotOk.mono _ _ _ _)
      | (with_reducible exact laws_alive.mono _)
      | (with_reducible exact spec_DrawLotOk.mono _ _)
      | (with_reducible exact spec_LotOk.mono _ _ _ _)
      | (with_reducible exact spec_WaitsOk.mono _ _ _)
      | (with_reducible exact LeO.refl _)
      | (with_reducible exact LeO.none _)
      | (with_reducible refine LeO.ite ?_ ?_)
      | (with_reducible refine LeO.bind ?_ (fun _ => ?_))
      | exact ih0 _ _ _ _ _
      | exact ih1 _ _ _ _ _ _
      | exact impl_AfterLot.mono _ _ _ _
      | exact impl_LotOk.mono _ _ _ _
      | exact laws_alive.mono _
      | exact spec_DrawLotOk.mono _ _
      | exact spec_LotOk.mono _ _ _ _
      | exact spec_WaitsOk.mono _ _ _
      | exact LeO.none _
      | refine LeO.ite ?_ ?_
      | refine LeO.bind ?_ (fun _ => ?_)
set_option maxHeartbeats 8000000 in
set_option maxRecDepth 100000 in
theorem laws_FnLotOk.calls (k : Nat) (A0 : Option Addr) (c0 : Nat) (l0 : List Int) (r : Bool) (w : World) (hr0 : Kd.C (Kd.int .u8) w A0 l0.length l0) (hc0 : l0.length ≤ c0) (h : laws_FnLotOk.f k l0 = some r) :
    Calls Try.prog 8 #[.slice A0 l0.length c0] w fun e w' => e = .returned (.bool r) ∧ Below w.heap.size w w' := by
  have HR0 := Aside0.mk hr0
  have HC0 := Aside0.mk hc0
  clear hr0 hc0
  have HB := Aside0.mk (Below.refl w.heap.size w)
  have H : (if (l0.length : Int) > 1048576 then (some true) else ((spec_DrawLotOk.f k l0).bind fun bt518 => ((impl_LotOk.f k bt518.1 bt518.2.1 bt518.2.2).bind fun t527 => ((spec_LotOk.f k bt518.1 bt518.2.1 bt518.2.2).bind fun t528 => (if (t527 != t528) = true then (some false) else ((spec_WaitsOk.f k bt518.1 bt518.2.1).bind fun t529 => (if t529 = true then ((impl_AfterLot.f k bt518.1 bt518.2.1 bt518.2.2).bind fun t531 => (laws_FnLotOk.l0 k bt518.1 bt518.2.1 t527 t531 0)) else (if t527 = true then (some false) else ((laws_alive.f k).bind fun t530 => (some t530)))))))))) = some r := h
  clear h
  by_cases c2 : (l0.length : Int) > 1048576
  · rw [if_pos c2] at H
    have c2b0 : decide (1048576 < (l0.length : Int)) = true := decide_eq_true c2
    have c2b1 : decide (1048576 < l0.length) = true := decide_eq_true (by omega)
    clear c2
    obtain rfl := Option.some.inj H
    go_enter Try.func8, Try.ntmps8
    go_wp2
    go_ret
    exact ⟨by first | rfl | (simp [errW_none, errW_some] <;> rfl) | (simp [*, errW_none, errW_some] <;> rfl), by repeat (first | (with_reducible first | exact HB.out | apply below_alloc | apply pw_below_drewN | apply below_drew1) | exact HB.out)⟩
  · rw [if_neg c2] at H
    have c2b0 : decide (1048576 < (l0.length : Int)) = false := decide_eq_false c2
    have c2b1 : decide (1048576 < l0.length) = false := decide_eq_false (by omega)
    clear c2
    replace H := Option.bind_eq_some_iff.mp H
    obtain ⟨⟨t518, t519, t520⟩, A30, H⟩ := H
    replace H : ((impl_LotOk.f k t518 t519 t520).bind fun t527 => ((spec_LotOk.f k t518 t519 t520).bind fun t528 => (if (t527 != t528) = true then (some false) else ((spec_WaitsOk.f k t518 t519).bind fun t529 => (if t529 = true then ((impl_AfterLot.f k t518 t519 t520).bind fun t531 => (laws_FnLotOk.l0 k t518 t519 t527 t531 0)) else (if t527 = true then (some false) else ((laws_alive.f k).bind fun t530 => (some t530)))))))) = some r := H
    have A3 := Aside0.mk A30
    clear A30
    replace H := Option.bind_eq_some_iff.mp H
    obtain ⟨t527, A40, H⟩ := H
    replace H : ((spec_LotOk.f k t518 t519 t520).bind fun t528 => (if (t527 != t528) = true then (some false) else ((spec_WaitsOk.f k t518 t519).bind fun t529 => (if t529 = true then ((impl_AfterLot.f k t518 t519 t520).bind fun t531 => (laws_FnLotOk.l0 k t518 t519 t527 t531 0)) else (if t527 = true then (some false) else ((laws_alive.f k).bind fun t530 => (some t530))))))) = some r := H
    have A4 := Aside0.mk A40
    clear A40
    replace H := Option.bind_eq_some_iff.mp H
    obtain ⟨t528, A50, H⟩ := H
    replace H : (if (t527 != t528) = true then (some false) else ((spec_WaitsOk.f k t518 t519).bind fun t529 => (if t529 = true then ((impl_AfterLot.f k t518 t519 t520).bind fun t531 => (laws_FnLotOk.l0 k t518 t519 t527 t531 0)) else (if t527 = true then (some false) else ((laws_alive.f k).bind fun t530 => (some t530)))))) = some r := H
    have A5 := Aside0.mk A50
    clear A50
    by_cases c6 : (t527 != t528) = true
    · rw [if_pos c6] at H
      have c6b0 : (t527 != t528) = true := c6
      (try (have c6b1 : decide (t527 = t528) = false := by simpa using c6))
      (try (have c6b2 : (t527 == t528) = false := by simpa using c6))
      (try (have c6b3 : ¬ (t527 = t528) := by simpa using c6))
      clear c6
      obtain rfl := Option.some.inj H
      go_enter Try.func8, Try.ntmps8
      go_wp2_with (first | ((with_reducible refine gate_callee (f := 34) rfl ?_); refine goesL_ (some 14) rfl rfl Try.func34 (by kernel_rfl) rfl #[.slice A0 l0.length c0] rfl (by (try simp only [List.map_toArray, List.map_cons, List.map_nil]); first | done | rfl | (simp only [List.length_drop, List.length_take]; rfl)) ?_; (with_reducible refine (spec_DrawLotOk.calls k _ _ l0 t518 t519 t520 _ ?side1 ?side2 A3.out).mono ?_); (case side1 => repeat (first | exact HR0.out | (with_reducible refine Kd.C_alloc ?_ _) | (with_reducible refine Kd.C_drewN ?_ _) | (with_reducible refine Kd.C_drew ?_))); (case side2 => exact HC0.out); rintro e w7 ⟨v521, v523, v525, rfl, ho0, ho1, ho2, hb⟩; refine ⟨_, rfl, ?_⟩; have n0_ := Aside0.mk (Kd.R_lower ho0 (below_size (by repeat (first | (with_reducible first | exact HB.out | apply below_alloc | apply pw_below_drewN | apply below_drew1) | exact HB.out)))); have n1_ := Aside0.mk (Kd.R_lower ho1 (below_size (by repeat (first | (with_reducible first | exact HB.out | apply below_alloc | apply pw_below_drewN | apply below_drew1) | exact HB.out)))); have n2_ := Aside0.mk (Kd.R_lower ho2 (below_size (by repeat (first | (with_reducible first | exact HB.out | apply below_alloc | apply pw_below_drewN | apply below_drew1) | exact HB.out)))); have n3_ := Aside0.mk (below_step (by repeat (first | (with_reducible first | exact HB.out | apply below_alloc | apply pw_below_drewN | apply below_drew1) | exact HB.out)) hb); clear HB; have HO522 := n0_; have HO524 := n1_; have HO526 := n2_; have HB := n3_; clear n0_ n1_ n2_ n3_; (try clear hb); (try clear hb2); (try clear hk); (try clear hi); (try clear ho0); (try clear ho1); (try clear ho2); obtain ⟨Ao8, co8, eo8⟩ := Kd.R_slice HO522.out; subst eo8; obtain ⟨Ao9, co9, eo9⟩ := Kd.R_slice HO524.out; subst eo9; obtain ⟨Ao10, co10, eo10⟩ := Kd.R_slice HO526.out; subst eo10) | ((with_reducible refine gate_callee (f := 33) rfl ?_); refine goesL_ (some 21) rfl rfl Try.func33 (by kernel_rfl) rfl #[.slice Ao8 t518.length co8, .slice Ao9 t519.length co9, .slice Ao10 t520.length co10] rfl (by (try simp only [List.map_toArray, List.map_cons, List.map_nil]); first | done | rfl | (simp only [List.length_drop, List.length_take]; rfl)) ?_; (with_reducible refine (impl_LotOk.calls k _ _ t518 _ _ t519 _ _ t520 t527 _ ?side1 ?side2 ?side3 ?side4 ?side5 ?side6 A4.out).mono ?_); (case side1 => repeat (first | exact (Kd.R_reads' HO522.out).2.2 | (with_reducible refine Kd.C_alloc ?_ _) | (with_reducible refine Kd.C_drewN ?_ _) | (with_reducible refine Kd.C_drew ?_))); (case side2 => exact (Kd.R_reads' HO522.out).2.1); (case side3 => repeat (first | exact (Kd.R_reads' HO524.out).2.2 | (with_reducible refine Kd.C_alloc ?_ _) | (with_reducible refine Kd.C_drewN ?_ _) | (with_reducible refine Kd.C_drew ?_))); (case side4 => exact (Kd.R_reads' HO524.out).2.1); (case side5 => repeat (first | exact (Kd.R_reads' HO526.out).2.2 | (with_reducible refine Kd.C_alloc ?_ _) | (with_reducible refine Kd.C_drewN ?_ _) | (with_reducible refine Kd.C_drew ?_))); (case side6 => exact (Kd.R_reads' HO526.out).2.1); rintro e w11 ⟨rfl, hb⟩; refine ⟨_, rfl, ?_⟩; have n0_ := Aside0.mk (Kd.R_below (by (with_reducible repeat (first | apply Kd.R_alloc | apply Kd.R_drewN | apply Kd.R_drew)); exact HO522.out) hb); have n1_ := Aside0.mk (Kd.R_below (by (with_reducible repeat (first | apply Kd.R_alloc | apply Kd.R_drewN | apply Kd.R_drew)); exact HO524.out) hb); have n2_ := Aside0.mk (Kd.R_below (by (with_reducible repeat (first | apply Kd.R_alloc | apply Kd.R_drewN | apply Kd.R_drew)); exact HO526.out) hb); have n3_ := Aside0.mk (below_step (by repeat (first | (with_reducible first | exact HB.out | apply below_alloc | apply pw_below_drewN | apply below_drew1) | exact HB.out)) hb); clear HO522; clear HO524; clear HO526; clear HB; have HO522 := n0_; have HO524 := n1_; have HO526 := n2_; have HB := n3_; clear n0_ n1_ n2_ n3_; (try clear hb); (try clear hb2); (try clear hk); (try clear hi)) | ((with_reducible refine gate_callee (f := 32) rfl ?_); refine goesL_ (some 26) rfl rfl Try.func32 (by kernel_rfl) rfl #[.slice Ao8 t518.length co8, .slice Ao9 t519.length co9, .slice Ao10 t520.length co10] rfl (by (try simp only [List.map_toArray, List.map_cons, List.map_nil]); first | done | rfl | (simp only [List.length_drop, List.length_take]; rfl)) ?_; (with_reducible refine (spec_LotOk.calls k _ _ t518 _ _ t519 _ _ t520 t528 _ ?side1 ?side2 ?side3 ?side4 ?side5 ?side6 A5.out).mono ?_); (case side1 => repeat (first | exact (Kd.R_reads' HO522.out).2.2 | (with_reducible refine Kd.C_alloc ?_ _) | (with_reducible refine Kd.C_drewN ?_ _) | (with_reducible refine Kd.C_drew ?_))); (case side2 => exact (Kd.R_reads' HO522.out).2.1); (case side3 => repeat (first | exact (Kd.R_reads' HO524.out).2.2 | (with_reducible refine Kd.C_alloc ?_ _) | (with_reducible refine Kd.C_drewN ?_ _) | (with_reducible refine Kd.C_drew ?_))); (case side4 => exact (Kd.R_reads' HO524.out).2.1); (case side5 => repeat (first | exact (Kd.R_reads' HO526.out).2.2 | (with_reducible refine Kd.C_alloc ?_ _) | (with_reducible refine Kd.C_drewN ?_ _) | (with_reducible refine Kd.C_drew ?_))); (case side6 => exact (Kd.R_reads' HO526.out).2.1); rintro e w12 ⟨rfl, hb⟩; refine ⟨_, rfl, ?_⟩; have n0_ := Aside0.mk (Kd.R_below (by (with_reducible repeat (first | apply Kd.R_alloc | apply Kd.R_drewN | apply Kd.R_drew)); exact HO522.out) hb); have n1_ := Aside0.mk (Kd.R_below (by (with_reducible repeat (first | apply Kd.R_alloc | apply Kd.R_drewN | apply Kd.R_drew)); exact HO524.out) hb); have n2_ := Aside0.mk (Kd.R_below (by (with_reducible repeat (first | apply Kd.R_alloc | apply Kd.R_drewN | apply Kd.R_drew)); exact HO526.out) hb); have n3_ := Aside0.mk (below_step (by repeat (first | (with_reducible first | exact HB.out | apply below_alloc | apply pw_below_drewN | apply below_drew1) | exact HB.out)) hb); clear HO522; clear HO524; clear HO526; clear HB; have HO522 := n0_; have HO524 := n1_; have HO526 := n2_; have HB := n3_; clear n0_ n1_ n2_ n3_; (try clear hb); (try clear hb2); (try clear hk); (try clear hi)))
      go_ret
      exact ⟨by first | rfl | (simp [errW_none, errW_some] <;> rfl) | (simp [*, errW_none, errW_some] <;> rfl), by repeat (first | (with_reducible first | exact HB.out | apply below_alloc | apply pw_below_drewN | apply below_drew1) | exact HB.out)⟩
    · rw [if_neg c6] at H
      have c6b0 : (t527 != t528) = false := by simpa using c6
      (try (have c6b1 : decide (t527 = t528) = true := by simpa using c6))
      (try (have c6b2 : (t527 == t528) = true := by simpa using c6))
      clear c6
      replace H := Option.bind_eq_some_iff.mp H
      obtain ⟨t529, A130, H⟩ := H
      replace H : (if t529 = true then ((impl_AfterLot.f k t518 t519 t520).bind fun t531 => (laws_FnLotOk.l0 k t518 t519 t527 t531 0)) else (if t527 = true then (some false) else ((laws_alive.f k).bind fun t530 => (some t530)))) = some r := H
      have A13 := Aside0.mk A130
      clear A130
      by_cases c14 : t529 = true
      · subst c14
        have H1 : ((impl_AfterLot.f k t518 t519 t520).bind fun t531 => (laws_FnLotOk.l0 k t518 t519 t527 t531 0)) = some r := by rw [if_pos rfl] at H; exact H
        clear H
        have H := H1
        clear H1
        replace H := Option.bind_eq_some_iff.mp H
        obtain ⟨t531, A150, H⟩ := H
        replace H : (laws_FnLotOk.l0 k t518 t519 t527 t531 0) = some r := H
        have A15 := Aside0.mk A150
        clear A150
        have H' := Aside0.mk H
        clear H
        go_enter Try.func8, Try.ntmps8
        go_wp2_with (first | ((with_reducible refine gate_callee (f := 34) rfl ?_); refine goesL_ (some 14) rfl rfl Try.func34 (by kernel_rfl) rfl #[.slice A0 l0.length c0] rfl (by (try simp only [List.map_toArray, List.map_cons, List.map_nil]); first | done | rfl | (simp only [List.length_drop, List.length_take]; rfl)) ?_; (with_reducible refine (spec_DrawLotOk.calls k _ _ l0 t518 t519 t520 _ ?side1 ?side2 A3.out).mono ?_); (case side1 => repeat (first | exact HR0.out | (with_reducible refine Kd.C_alloc ?_ _) | (with_reducible refine Kd.C_drewN ?_ _) | (with_reducible refine Kd.C_drew ?_))); (case side2 => exact HC0.out); rintro e w16 ⟨v521, v523, v525, rfl, ho0, ho1, ho2, hb⟩; refine ⟨_, rfl, ?_⟩; have n0_ := Aside0.mk (Kd.R_lower ho0 (below_size (by repeat (first | (with_reducible first | exact HB.out | apply below_alloc | apply pw_below_drewN | apply below_drew1) | exact HB.out)))); have n1_ := Aside0.mk (Kd.R_lower ho1 (below_size (by repeat (first | (with_reducible first | exact HB.out | apply below_alloc | apply pw_below_drewN | apply below_drew1) | exact HB.out)))); have n2_ := Aside0.mk (Kd.R_lower ho2 (below_size (by repeat (first | (with_reducible first | exact HB.out | apply below_alloc | apply pw_below_drewN | apply below_drew1) | exact HB.out)))); have n3_ := Aside0.mk (below_step (by repeat (first | (with_reducible first | exact HB.out | apply below_alloc | apply pw_below_drewN | apply below_drew1) | exact HB.out)) hb); clear HB; have HO522 := n0_; have HO524 := n1_; have HO526 := n2_; have HB := n3_; clear n0_ n1_ n2_ n3_; (try clear hb); (try clear hb2); (try clear hk); (try clear hi); (try clear ho0); (try clear ho1); (try clear ho2); obtain ⟨Ao17, co17, eo17⟩ := Kd.R_slice HO522.out; subst eo17; obtain ⟨Ao18, co18, eo18⟩ := Kd.R_slice HO524.out; subst eo18; obtain ⟨Ao19, co19, eo19⟩ := Kd.R_slice HO526.out; subst eo19) | ((with_reducible refine gate_callee (f := 33) rfl ?_); refine goesL_ (some 21) rfl rfl Try.func33 (by kernel_rfl) rfl #[.slice Ao17 t518.length co17, .slice Ao18 t519.length co18, .slice Ao19 t520.length co19] rfl (by (try simp only [List.map_toArray, List.map_cons, List.map_nil]); first | done | rfl | (simp only [List.length_drop, List.length_take]; rfl)) ?_; (with_reducible refine (impl_LotOk.calls k _ _ t518 _ _ t519 _ _ t520 t527 _ ?side1 ?side2 ?side3 ?side4 ?side5 ?side6 A4.out).mono ?_); (case side1 => repeat (first | exact (Kd.R_reads' HO522.out).2.2 | (with_reducible refine Kd.C_alloc ?_ _) | (with_reducible refine Kd.C_drewN ?_ _) | (with_reducible refine Kd.C_drew ?_))); (case side2 => exact (Kd.R_reads' HO522.out).2.1); (case side3 => repeat (first | exact (Kd.R_reads' HO524.out).2.2 | (with_reducible refine Kd.C_alloc ?_ _) | (with_reducible refine Kd.C_drewN ?_ _) | (with_reducible refine Kd.C_drew ?_))); (case side4 => exact (Kd.R_reads' HO524.out).2.1); (case side5 => repeat (first | exact (Kd.R_reads' HO526.out).2.2 | (with_reducible refine Kd.C_alloc ?_ _) | (with_reducible refine Kd.C_drewN ?_ _) | (with_reducible refine Kd.C_drew ?_))); (case side6 => exact (Kd.R_reads' HO526.out).2.1); rintro e w20 ⟨rfl, hb⟩; refine ⟨_, rfl, ?_⟩; have n0_ := Aside0.mk (Kd.R_below (by (with_reducible repeat (first | apply Kd.R_alloc | apply Kd.R_drewN | apply Kd.R_drew)); exact HO522.out) hb); have n1_ := Aside0.mk (Kd.R_below (by (with_reducible repeat (first | apply Kd.R_alloc | apply Kd.R_drewN | apply Kd.R_drew)); exact HO524.out) hb); have n2_ := Aside0.mk (Kd.R_below (by (with_reducible repeat (first | apply Kd.R_alloc | apply Kd.R_drewN | apply Kd.R_drew)); exact HO526.out) hb); have n3_ := Aside0.mk (below_step (by repeat (first | (with_reducible first | exact HB.out | apply below_alloc | apply pw_below_drewN | apply below_drew1) | exact HB.out)) hb); clear HO522; clear HO524; clear HO526; clear HB; have HO522 := n0_; have HO524 := n1_; have HO526 := n2_; have HB := n3_; clear n0_ n1_ n2_ n3_; (try clear hb); (try clear hb2); (try clear hk); (try clear hi)) | ((with_reducible refine gate_callee (f := 32) rfl ?_); refine goesL_ (some 26) rfl rfl Try.func32 (by kernel_rfl) rfl #[.slice Ao17 t518.length co17, .slice Ao18 t519.length co18, .slice Ao19 t520.length co19] rfl (by (try simp only [List.map_toArray, List.map_cons, List.map_nil]); first | done | rfl | (simp only [List.length_drop, List.length_take]; rfl)) ?_; (with_reducible refine (spec_LotOk.calls k _ _ t518 _ _ t519 _ _ t520 t528 _ ?side1 ?side2 ?side3 ?side4 ?side5 ?side6 A5.out).mono ?_); (case side1 => repeat (first | exact (Kd.R_reads' HO522.out).2.2 | (with_reducible refine Kd.C_alloc ?_ _) | (with_reducible refine Kd.C_drewN ?_ _) | (with_reducible refine Kd.C_drew ?_))); (case side2 => exact (Kd.R_reads' HO522.out).2.1); (case side3 => repeat (first | exact (Kd.R_reads' HO524.out).2.2 | (with_reducible refine Kd.C_alloc ?_ _) | (with_reducible refine Kd.C_drewN ?_ _) | (with_reducible refine Kd.C_drew ?_))); (case side4 => exact (Kd.R_reads' HO524.out).2.1); (case side5 => repeat (first | exact (Kd.R_reads' HO526.out).2.2 | (with_reducible refine Kd.C_alloc ?_ _) | (with_reducible refine Kd.C_drewN ?_ _) | (with_reducible refine Kd.C_drew ?_))); (case side6 => exact (Kd.R_reads' HO526.out).2.1); rintro e w21 ⟨rfl, hb⟩; refine ⟨_, rfl, ?_⟩; have n0_ := Aside0.mk (Kd.R_below (by (with_reducible repeat (first | apply Kd.R_alloc | apply Kd.R_drewN | apply Kd.R_drew)); exact HO522.out) hb); have n1_ := Aside0.mk (Kd.R_below (by (with_reducible repeat (first | apply Kd.R_alloc | apply Kd.R_drewN | apply Kd.R_drew)); exact HO524.out) hb); have n2_ := Aside0.mk (Kd.R_below (by (with_reducible repeat (first | apply Kd.R_alloc | apply Kd.R_drewN | apply Kd.R_drew)); exact HO526.out) hb); have n3_ := Aside0.mk (below_step (by repeat (first | (with_reducible first | exact HB.out | apply below_alloc | apply pw_below_drewN | apply below_drew1) | exact HB.out)) hb); clear HO522; clear HO524; clear HO526; clear HB; have HO522 := n0_; have HO524 := n1_; have HO526 := n2_; have HB := n3_; clear n0_ n1_ n2_ n3_; (try clear hb); (try clear hb2); (try clear hk); (try clear hi)) | ((with_reducible refine gate_callee (f := 16) rfl ?_); refine goesL_ (some 30) rfl rfl Try.func16 (by kernel_rfl) rfl #[.slice Ao17 t518.length co17, .slice Ao18 t519.length co18] rfl (by (try simp only [List.map_toArray, List.map_cons, List.map_nil]); first | done | rfl | (simp only [List.length_drop, List.length_take]; rfl)) ?_; (with_reducible refine (spec_WaitsOk.calls k _ _ t518 _ _ t519 true _ ?side1 ?side2 ?side3 ?side4 A13.out).mono ?_); (case side1 => repeat (first | exact (Kd.R_reads' HO522.out).2.2 | (with_reducible refine Kd.C_alloc ?_ _) | (with_reducible refine Kd.C_drewN ?_ _) | (with_reducible refine Kd.C_drew ?_))); (case side2 => exact (Kd.R_reads' HO522.out).2.1); (case side3 => repeat (first | exact (Kd.R_reads' HO524.out).2.2 | (with_reducible refine Kd.C_alloc ?_ _) | (with_reducible refine Kd.C_drewN ?_ _) | (with_reducible refine Kd.C_drew ?_))); (case side4 => exact (Kd.R_reads' HO524.out).2.1); rintro e w22 ⟨rfl, hb⟩; refine ⟨_, rfl, ?_⟩; have n0_ := Aside0.mk (Kd.R_below (by (with_reducible repeat (first | apply Kd.R_alloc | apply Kd.R_drewN | apply Kd.R_drew)); exact HO522.out) hb); have n1_ := Aside0.mk (Kd.R_below (by (with_reducible repeat (first | apply Kd.R_alloc | apply Kd.R_drewN | apply Kd.R_drew)); exact HO524.out) hb); have n2_ := Aside0.mk (Kd.R_below (by (with_reducible repeat (first | apply Kd.R_alloc | apply Kd.R_drewN | apply Kd.R_drew)); exact HO526.out) hb); have n3_ := Aside0.mk (below_step (by repeat (first | (with_reducible first | exact HB.out | apply below_alloc | apply pw_below_drewN | apply below_drew1) | exact HB.out)) hb); clear HO522; clear HO524; clear HO526; clear HB; have HO522 := n0_; have HO524 := n1_; have HO526 := n2_; have HB := n3_; clear n0_ n1_ n2_ n3_; (try clear hb); (try clear hb2); (try clear hk); (try clear hi)) | ((with_reducible refine gate_callee (f := 25) rfl ?_); refine goesL_ (some 40) rfl rfl Try.func25 (by kernel_rfl) rfl #[.slice Ao17 t518.length co17, .slice Ao18 t519.length co18, .slice Ao19 t520.length co19] rfl (by (try simp only [List.map_toArray, List.map_cons, List.map_nil]); first | done | rfl | (simp only [List.length_drop, List.length_take]; rfl)) ?_; (with_reducible refine (impl_AfterLot.calls k _ _ t518 _ _ t519 _ _ t520 t531 _ ?side1 ?side2 ?side3 ?side4 ?side5 ?side6 A15.out).mono ?_); (case side1 => repeat (first | exact (Kd.R_reads' HO522.out).2.2 | (with_reducible refine Kd.C_alloc ?_ _) | (with_reducible refine Kd.C_drewN ?_ _) | (with_reducible refine Kd.C_drew ?_))); (case side2 => exact (Kd.R_reads' HO522.out).2.1); (case side3 => repeat (first | exact (Kd.R_reads' HO524.out).2.2 | (with_reducible refine Kd.C_alloc ?_ _) | (with_reducible refine Kd.C_drewN ?_ _) | (with_reducible refine Kd.C_drew ?_))); (case side4 => exact (Kd.R_reads' HO524.out).2.1); (case side5 => repeat (first | exact (Kd.R_reads' HO526.out).2.2 | (with_reducible refine Kd.C_alloc ?_ _) | (with_reducible refine Kd.C_drewN ?_ _) | (with_reducible refine Kd.C_drew ?_))); (case side6 => exact (Kd.R_reads' HO526.out).2.1); rintro e w23 ⟨v532, rfl, ho0, hb⟩; refine ⟨_, rfl, ?_⟩; have n0_ := Aside0.mk (Kd.R_elder' (by (with_reducible repeat (first | apply Kd.R_alloc | apply Kd.R_drewN | apply Kd.R_drew)); exact HO522.out) (Kd.R_base ho0) hb); have n1_ := Aside0.mk (Kd.R_below (by (with_reducible repeat (first | apply Kd.R_alloc | apply Kd.R_drewN | apply Kd.R_drew)); exact HO524.out) hb); have n2_ := Aside0.mk (Kd.R_elder' (by (with_reducible repeat (first | apply Kd.R_alloc | apply Kd.R_drewN | apply Kd.R_drew)); exact HO526.out) (Kd.R_base ho0) hb); have n3_ := Aside0.mk (Kd.R_lower (Kd.R_new' (Kd.R_new' ho0 (Kd.R_lt (by (with_reducible repeat (first | apply Kd.R_alloc | apply Kd.R_drewN | apply Kd.R_drew)); exact HO522.out))) (Kd.R_lt (by (with_reducible repeat (first | apply Kd.R_alloc | apply Kd.R_drewN | apply Kd.R_drew)); exact HO526.out))) (below_size (by repeat (first | (with_reducible first | exact HB.out | apply below_alloc | apply pw_below_drewN | apply below_drew1) | exact HB.out)))); have n4_ := Aside0.mk (below_step (by repeat (first | (with_reducible first | exact HB.out | apply below_alloc | apply pw_below_drewN | apply below_drew1) | exact HB.out)) hb); clear HO522; clear HO524; clear HO526; clear HB; have HO522 := n0_; have HO524 := n1_; have HO526 := n2_; have HO533 := n3_; have HB := n4_; clear n0_ n1_ n2_ n3_ n4_; (try clear hb); (try clear hb2); (try clear hk); (try clear hi); (try clear ho0)))
        go_loopg [8] k (fun kq v8 w' => ∃ (x8_1 : Int), v8 = .int .i64 x8_1 ∧ Aside0 (laws_FnLotOk.l0 kq t518 t519 t527 t531 x8_1 = some r) ∧ Aside0 (kq ≤ k) ∧ Aside0 (Kd.R (Kd.int .i64) 3 w' w.heap.size (fun k_ => some k_ ≠ (v532 : Value).ownBlock) (.slice Ao17 t518.length co17) t518) ∧ Aside0 (Kd.R k47 47 w' w.heap.size (fun _ => True) (.slice Ao18 t519.length co18) t519) ∧ Aside0 (Kd.R (Kd.int .i64) 3 w' w.heap.size (fun k_ => some k_ ≠ ((.slice Ao17 t518.length co17) : Value).ownBlock) v532 t531) ∧ Aside0 (Below w.heap.size w w'))
        case atStart => exact ⟨(0), (by first | rfl | (simp; done) | (simp [*]; done)), H', ⟨Nat.le_refl _⟩, ⟨by (with_reducible repeat (first | apply Kd.R_alloc | apply Kd.R_drewN | apply Kd.R_drew)); exact Kd.R_mono HO522.out (fun _ hk => hk.2)⟩, ⟨by (with_reducible repeat (first | apply Kd.R_alloc | apply Kd.R_drewN | apply Kd.R_drew)); exact HO524.out⟩, ⟨by (with_reducible repeat (first | apply Kd.R_alloc | apply Kd.R_drewN | apply Kd.R_drew)); exact Kd.R_mono HO533.out (fun _ hk => hk.1.2)⟩, ⟨by repeat (first | (with_reducible first | exact HB.out | apply below_alloc | apply pw_below_drewN | apply below_drew1) | exact HB.out)⟩⟩
        case round =>
          clear H'
          try clear c1
          try clear c2
          try clear c2b0
          try clear c2b1
          try clear p2
          try clear c3
          try clear c6
          try clear c6b0
          try clear c6b1
          try clear c6b2
          try clear c8
          try clear c14
          try clear c16
          obtain ⟨x8_1, rfl, HA, HK1, HO_3, HO_4, HO_7, HB⟩ := hrel
          cases gk with
          | zero => exact absurd HA.out (by simp [laws_FnLotOk.l0])
          | succ k1 =>
            have H := HA.out
            clear HA
            simp only [laws_FnLotOk.l0] at H
            have HC24 := Aside0.mk H
            clear H
            go_upto_region 11 with (fail)
            go_cut [47] (fun v47 wc => ∃ (kq : Nat) (x47_23 : Bool), v47 = .bool x47_23 ∧ Aside0 (laws_FnLotOk.j1 kq t518 t519 t527 t531 x8_1 x47_23 = some r) ∧ Aside0 (kq ≤ k1) ∧ Aside0 (Kd.R (Kd.int .i64) 3 wc w.heap.size (fun k_ => some k_ ≠ (v532 : Value).ownBlock) (.slice Ao17 t518.length co17) t518) ∧ Aside0 (Kd.R k47 47 wc w.heap.size (fun _ => True) (.slice Ao18 t519.length co18) t519) ∧ Aside0 (Kd.R (Kd.int .i64) 3 wc w.heap.size (fun k_ => some k_ ≠ ((.slice Ao17 t518.length co17) : Value).ownBlock) v532 t531) ∧ Aside0 (Below w.heap.size w wc))
            case first =>
              have H := HC24.out
              clear HC24
              by_cases c25 : x8_1 < (t531.length : Int)
              · rw [if_pos c25] at H
                have c25b0 : decide (x8_1 < (t531.length : Int)) = true := decide_eq_true c25
                clear c25
                (first | rw [c25b0] | (simp only [i64_w, i32_w]; rw [c25b0]) | skip)
                have H' := Aside0.mk H
                clear H
                obtain ⟨Ao26, co26, eo26⟩ := Kd.R_slice HO_7.out
                subst eo26
                go_wp2
                go_meet
                case rel => exact ⟨_, (t527), (by first | rfl | (simp; done) | (simp [*]; done)), H', ⟨by have := HK1.out; first | omega | exact Nat.le_refl _⟩, ⟨by (with_reducible repeat (first | apply Kd.R_alloc | apply Kd.R_drewN | apply Kd.R_drew)); exact HO_3.out⟩, ⟨by (with_reducible repeat (first | apply Kd.R_alloc | apply Kd.R_drewN | apply Kd.R_drew)); exact HO_4.out⟩, ⟨by (with_reducible repeat (first | apply Kd.R_alloc | apply Kd.R_drewN | apply Kd.R_drew)); exact HO_7.out⟩, ⟨by repeat (first | (with_reducible first | exact HB.out | apply below_alloc | apply pw_below_drewN | apply below_drew1) | exact HB.out)⟩⟩
              · rw [if_neg c25] at H
                have c25b0 : decide (x8_1 < (t531.length : Int)) = false := decide_eq_false c25
                clear c25
                (first | rw [c25b0] | (simp only [i64_w, i32_w]; rw [c25b0]) | skip)
                have H' := Aside0.mk H
                clear H
                obtain ⟨Ao27, co27, eo27⟩ := Kd.R_slice HO_7.out
                subst eo27
                go_wp2
                go_meet
                case rel => exact ⟨_, (false), (by first | rfl | (simp; done) | (simp [*]; done)), H', ⟨by have := HK1.out; first | omega | exact Nat.le_refl _⟩, ⟨by (with_reducible repeat (first | apply Kd.R_alloc | apply Kd.R_drewN | apply Kd.R_drew)); exact HO_3.out⟩, ⟨by (with_reducible repeat (first | apply Kd.R_alloc | apply Kd.R_drewN | apply Kd.R_drew)); exact HO_4.out⟩, ⟨by (with_reducible repeat (first | apply Kd.R_alloc | apply Kd.R_drewN | apply Kd.R_drew)); exact HO_7.out⟩, ⟨by repeat (first | (with_reducible first | exact HB.out | apply below_alloc | apply pw_below_drewN | apply below_drew1) | exact HB.out)⟩⟩
            case rest =>
              clear HC24
              try clear c1
              try clear c2
              try clear c2b0
              try clear c2b1
              try clear p2
              try clear c3
              try clear c6
              try clear c6b0
              try clear c6b1
              try clear c6b2
              try clear c8
              try clear c14
              try clear c16
              try clear c25
              try clear c25b0
              try clear p2
              obtain ⟨kq, x47_23, rfl, HA, HJ23, HO_3, HO_4, HO_7, HB⟩ := hcut
              cases kq with
              | zero => exact absurd HA.out (by simp [laws_FnLotOk.j1])
              | succ kj23 =>
                have H := HA.out
                clear HA
                simp only [laws_FnLotOk.j1] at H
                by_cases c28 : x47_23 = true
                · subst c28
                  have H1 : (if 0 ≤ x8_1 then (if x8_1 < (t531.length : Int) then (if (rd t531 x8_1) < 0 then (some false) else (laws_FnLotOk.l0 kj23 t518 t519 t527 t531 (wrap64 (x8_1 + 1)))) else (none)) else (none)) = some r := by rw [if_pos rfl] at H; exact H
                  clear H
                  have H := H1
                  clear H1
                  by_cases c29 : 0 ≤ x8_1
                  · rw [if_pos c29] at H
                    have c29b0 : decide (0 ≤ x8_1) = true := decide_eq_true c29
                    clear c29
                    by_cases c30 : x8_1 < (t531.length : Int)
                    · rw [if_pos c30] at H
                      have c30b0 : decide (x8_1 < (t531.length : Int)) = true := decide_eq_true c30
                      clear c30
                      by_cases c31 : (rd t531 x8_1) < 0
                      · rw [if_pos c31] at H
                        have c31b0 : decide ((rd t531 x8_1) < 0) = true := decide_eq_true c31
                        clear c31
                        obtain rfl := Option.some.inj H
                        obtain ⟨Ao32, co32, eo32⟩ := Kd.R_slice HO_7.out
                        subst eo32
                        have p534 : 0 ≤ (x8_1 : Int) := of_decide_eq_true (by first | (with_reducible assumption) | assumption)
                        have q534 : x8_1 < (t531.length : Int) := of_decide_eq_true (by first | (with_reducible assumption) | assumption)
                        obtain ⟨ad534, e534, hx534_0⟩ := Kd.at_int (Kd.R_reads' HO_7.out).2.2 x8_1 p534 q534
                        cases e534
                        replace p534 := eq_true p534
                        replace q534 := eq_true q534
                        go_wp2
                        go_ret
                        exact ⟨by first | rfl | (simp [errW_none, errW_some] <;> rfl) | (simp [*, errW_none, errW_some] <;> rfl), by repeat (first | (with_reducible first | exact HB.out | apply below_alloc | apply pw_below_drewN | apply below_drew1) | exact HB.out)⟩
                      · rw [if_neg c31] at H
                        have c31b0 : decide ((rd t531 x8_1) < 0) = false := decide_eq_false c31
                        clear c31
                        have H' := Aside0.mk H
                        clear H
                        obtain ⟨Ao33, co33, eo33⟩ := Kd.R_slice HO_7.out
                        subst eo33
                        have p534 : 0 ≤ (x8_1 : Int) := of_decide_eq_true (by first | (with_reducible assumption) | assumption)
                        have q534 : x8_1 < (t531.length : Int) := of_decide_eq_true (by first | (with_reducible assumption) | assumption)
                        obtain ⟨ad534, e534, hx534_0⟩ := Kd.at_int (Kd.R_reads' HO_7.out).2.2 x8_1 p534 q534
                        cases e534
                        replace p534 := eq_true p534
                        replace q534 := eq_true q534
                        go_wp2
                        go_roundg kj23
                        case measure => have := HK1.out; have := HJ23.out; omega
                        case rel => exact ⟨(wrap64 (x8_1 + 1)), (by first | rfl | (simp; done) | (simp [*]; done)), H', ⟨by have := HK1.out; have := HJ23.out; omega⟩, ⟨by (with_reducible repeat (first | apply Kd.R_alloc | apply Kd.R_drewN | apply Kd.R_drew)); exact HO_3.out⟩, ⟨by (with_reducible repeat (first | apply Kd.R_alloc | apply Kd.R_drewN | apply Kd.R_drew)); exact HO_4.out⟩, ⟨by (with_reducible repeat (first | apply Kd.R_alloc | apply Kd.R_drewN | apply Kd.R_drew)); exact HO_7.out⟩, ⟨by repeat (first | (with_reducible first | exact HB.out | apply below_alloc | apply pw_below_drewN | apply below_drew1) | exact HB.out)⟩⟩
                    · rw [if_neg c30] at H
                      exact absurd H (by simp)
                  · rw [if_neg c29] at H
                    exact absurd H (by simp)
                · replace c28 := Bool.eq_false_iff.mpr c28
                  subst c28
                  have H1 : (if 0 ≤ (t519.length : Int) then (if ((t519.length : Int) : Int).toNat ≤ 35184372088832 then ((impl_LotOk.f kj23 t518 t519 (List.replicate ((t519.length : Int) : Int).toNat 0)).bind fun t538 => (some t538)) else (none)) else (none)) = some r := by rw [if_neg (show ¬ (false = true) by decide)] at H; exact H
                  clear H
                  have H := H1
                  clear H1
                  by_cases c34 : 0 ≤ (t519.length : Int)
                  · rw [if_pos c34] at H
                    have c34b0 := eq_true c34
                    have c34b1 : decide (0 ≤ (t519.length : Int)) = true := decide_eq_true c34
                    clear c34
                    by_cases c35 : ((t519.length : Int) : Int).toNat ≤ 35184372088832
                    · rw [if_pos c35] at H
                      have c35b0 := eq_true c35
                      have c35b1 : decide (((t519.length : Int) : Int).toNat ≤ 35184372088832) = true := decide_eq_true c35
                      clear c35
                      obtain ⟨y535, hy535⟩ : ∃ y_ : List Int, y_ = (List.replicate ((t519.length : Int) : Int).toNat 0) := ⟨_, rfl⟩
                      replace H : ((impl_LotOk.f kj23 t518 t519 y535).bind fun t538 => (some t538)) = some r := by first | (rw [hy535]; with_reducible exact H) | (have H2_ := (Option.bind_some _ _).symm.trans H; rw [hy535]; with_reducible exact H2_) | (have H2_ := (Option.bind_some _ _).symm.trans H; with_reducible exact H2_) | with_reducible exact H | (rw [hy535]; exact H) | exact H
                      have Ny535 := Aside0.mk hy535
                      clear hy535
                      replace H := Option.bind_eq_some_iff.mp H
                      obtain ⟨t538, A360, H⟩ := H
                      replace H : (some t538) = some r := H
                      have A36 := Aside0.mk A360
                      clear A360
                      obtain rfl := Option.some.inj H
                      go_wp2_with (first | ((with_reducible refine gate_dst (N := 59) rfl ?_); refine Kd.R_make (Kd.int .i64) _ 3 rfl (N := 59) rfl 22 _ _ rfl (t519.length : Int) rfl rfl Try.underlying22 (.int .i64 0) 8 info3 rfl (by decide) (by omega) 0 (ok := fun _ => True) (okp := fun _ => True) rfl (fun _ hk => hk) trivial (of_decide_eq_true (by first | (with_reducible assumption) | assumption)) (Nat.le_trans (Nat.mul_le_mul_right _ (of_decide_eq_true (by first | (with_reducible assumption) | assumption) : (t519.length : Int).toNat ≤ 35184372088832)) (by omega)) (Below.refl _ _) (Nat.le_refl _) ?_; intro v536 w37 ho38 hb hg_ hnew_; clear hg_ hnew_; (first | rw [← Ny535.out] at ho38 | (simp only [Int.reduceToNat] at ho38; rw [← Ny535.out] at ho38)); have n0_ := Aside0.mk (Kd.R_elder' (by (with_reducible repeat (first | apply Kd.R_alloc | apply Kd.R_drewN | apply Kd.R_drew)); exact HO_3.out) (Kd.R_base ho38) hb); have n1_ := Aside0.mk (Kd.R_below (by (with_reducible repeat (first | apply Kd.R_alloc | apply Kd.R_drewN | apply Kd.R_drew)); exact HO_4.out) hb); have n2_ := Aside0.mk (Kd.R_elder' (by (with_reducible repeat (first | apply Kd.R_alloc | apply Kd.R_drewN | apply Kd.R_drew)); exact HO_7.out) (Kd.R_base ho38) hb); have n3_ := Aside0.mk (Kd.R_lower (Kd.R_new' (Kd.R_new' ho38 (Kd.R_lt (by (with_reducible repeat (first | apply Kd.R_alloc | apply Kd.R_drewN | apply Kd.R_drew)); exact HO_3.out))) (Kd.R_lt (by (with_reducible repeat (first | apply Kd.R_alloc | apply Kd.R_drewN | apply Kd.R_drew)); exact HO_7.out))) (below_size (by repeat (first | (with_reducible first | exact HB.out | apply below_alloc | apply pw_below_drewN | apply below_drew1) | exact HB.out)))); have n4_ := Aside0.mk (below_step (by repeat (first | (with_reducible first | exact HB.out | apply below_alloc | apply pw_below_drewN | apply below_drew1) | exact HB.out)) hb); clear HO_3; clear HO_4; clear HO_7; clear HB; have HO_3 := n0_; have HO_4 := n1_; have HO_7 := n2_; have HO537 := n3_; have HB := n4_; clear n0_ n1_ n2_ n3_ n4_; clear hb ho38; obtain ⟨Ao39, co39, eo39⟩ := Kd.R_slice HO537.out; subst eo39) | ((with_reducible refine gate_callee (f := 33) rfl ?_); refine goesL_ (some 60) rfl rfl Try.func33 (by kernel_rfl) rfl #[.slice Ao17 t518.length co17, .slice Ao18 t519.length co18, .slice Ao39 y535.length co39] rfl (by (try simp only [List.map_toArray, List.map_cons, List.map_nil]); first | done | rfl | (simp only [List.length_drop, List.length_take]; rfl)) ?_; (with_reducible refine (impl_LotOk.calls kj23 _ _ t518 _ _ t519 _ _ y535 t538 _ ?side1 ?side2 ?side3 ?side4 ?side5 ?side6 A36.out).mono ?_); (case side1 => repeat (first | exact (Kd.R_reads' HO_3.out).2.2 | (with_reducible refine Kd.C_alloc ?_ _) | (with_reducible refine Kd.C_drewN ?_ _) | (with_reducible refine Kd.C_drew ?_))); (case side2 => exact (Kd.R_reads' HO_3.out).2.1); (case side3 => repeat (first | exact (Kd.R_reads' HO_4.out).2.2 | (with_reducible refine Kd.C_alloc ?_ _) | (with_reducible refine Kd.C_drewN ?_ _) | (with_reducible refine Kd.C_drew ?_))); (case side4 => exact (Kd.R_reads' HO_4.out).2.1); (case side5 => repeat (first | exact (Kd.R_reads' HO537.out).2.2 | (with_reducible refine Kd.C_alloc ?_ _) | (with_reducible refine Kd.C_drewN ?_ _) | (with_reducible refine Kd.C_drew ?_))); (case side6 => exact (Kd.R_reads' HO537.out).2.1); rintro e w40 ⟨rfl, hb⟩; refine ⟨_, rfl, ?_⟩; have n0_ := Aside0.mk (Kd.R_below (by (with_reducible repeat (first | apply Kd.R_alloc | apply Kd.R_drewN | apply Kd.R_drew)); exact HO_3.out) hb); have n1_ := Aside0.mk (Kd.R_below (by (with_reducible repeat (first | apply Kd.R_alloc | apply Kd.R_drewN | apply Kd.R_drew)); exact HO_4.out) hb); have n2_ := Aside0.mk (Kd.R_below (by (with_reducible repeat (first | apply Kd.R_alloc | apply Kd.R_drewN | apply Kd.R_drew)); exact HO_7.out) hb); have n3_ := Aside0.mk (Kd.R_below (by (with_reducible repeat (first | apply Kd.R_alloc | apply Kd.R_drewN | apply Kd.R_drew)); exact HO537.out) hb); have n4_ := Aside0.mk (below_step (by repeat (first | (with_reducible first | exact HB.out | apply below_alloc | apply pw_below_drewN | apply below_drew1) | exact HB.out)) hb); clear HO_3; clear HO_4; clear HO_7; clear HO537; clear HB; have HO_3 := n0_; have HO_4 := n1_; have HO_7 := n2_; have HO537 := n3_; have HB := n4_; clear n0_ n1_ n2_ n3_ n4_; (try clear hb); (try clear hb2); (try clear hk); (try clear hi)))
                      go_ret
                      exact ⟨by first | rfl | (simp [errW_none, errW_some] <;> rfl) | (simp [*, errW_none, errW_some] <;> rfl), by repeat (first | (with_reducible first | exact HB.out | apply below_alloc | apply pw_below_drewN | apply below_drew1) | exact HB.out)⟩
                    · rw [if_neg c35] at H
                      exact absurd H (by simp)
                  · rw [if_neg c34] at H
                    exact absurd H (by simp)
      · replace c14 := Bool.eq_false_iff.mpr c14
        subst c14
        have H1 : (if t527 = true then (some false) else ((laws_alive.f k).bind fun t530 => (some t530))) = some r := by rw [if_neg (show ¬ (false = true) by decide)] at H; exact H
        clear H
        have H := H1
        clear H1
        by_cases c41 : t527 = true
        · subst c41
          have H1 : (some false) = some r := by rw [if_pos rfl] at H; exact H
          clear H
          have H := H1
          clear H1
          obtain rfl := Option.some.inj H
          go_enter Try.func8, Try.ntmps8
          go_wp2_with (first | ((with_reducible refine gate_callee (f := 34) rfl ?_); refine goesL_ (some 14) rfl rfl Try.func34 (by kernel_rfl) rfl #[.slice A0 l0.length c0] rfl (by (try simp only [List.map_toArray, List.map_cons, List.map_nil]); first | done | rfl | (simp only [List.length_drop, List.length_take]; rfl)) ?_; (with_reducible refine (spec_DrawLotOk.calls k _ _ l0 t518 t519 t520 _ ?side1 ?side2 A3.out).mono ?_); (case side1 => repeat (first | exact HR0.out | (with_reducible refine Kd.C_alloc ?_ _) | (with_reducible refine Kd.C_drewN ?_ _) | (with_reducible refine Kd.C_drew ?_))); (case side2 => exact HC0.out); rintro e w42 ⟨v521, v523, v525, rfl, ho0, ho1, ho2, hb⟩; refine ⟨_, rfl, ?_⟩; have n0_ := Aside0.mk (Kd.R_lower ho0 (below_size (by repeat (first | (with_reducible first | exact HB.out | apply below_alloc | apply pw_below_drewN | apply below_drew1) | exact HB.out)))); have n1_ := Aside0.mk (Kd.R_lower ho1 (below_size (by repeat (first | (with_reducible first | exact HB.out | apply below_alloc | apply pw_below_drewN | apply below_drew1) | exact HB.out)))); have n2_ := Aside0.mk (Kd.R_lower ho2 (below_size (by repeat (first | (with_reducible first | exact HB.out | apply below_alloc | apply pw_below_drewN | apply below_drew1) | exact HB.out)))); have n3_ := Aside0.mk (below_step (by repeat (first | (with_reducible first | exact HB.out | apply below_alloc | apply pw_below_drewN | apply below_drew1) | exact HB.out)) hb); clear HB; have HO522 := n0_; have HO524 := n1_; have HO526 := n2_; have HB := n3_; clear n0_ n1_ n2_ n3_; (try clear hb); (try clear hb2); (try clear hk); (try clear hi); (try clear ho0); (try clear ho1); (try clear ho2); obtain ⟨Ao43, co43, eo43⟩ := Kd.R_slice HO522.out; subst eo43; obtain ⟨Ao44, co44, eo44⟩ := Kd.R_slice HO524.out; subst eo44; obtain ⟨Ao45, co45, eo45⟩ := Kd.R_slice HO526.out; subst eo45) | ((with_reducible refine gate_callee (f := 33) rfl ?_); refine goesL_ (some 21) rfl rfl Try.func33 (by kernel_rfl) rfl #[.slice Ao43 t518.length co43, .slice Ao44 t519.length co44, .slice Ao45 t520.length co45] rfl (by (try simp only [List.map_toArray, List.map_cons, List.map_nil]); first | done | rfl | (simp only [List.length_drop, List.length_take]; rfl)) ?_; (with_reducible refine (impl_LotOk.calls k _ _ t518 _ _ t519 _ _ t520 true _ ?side1 ?side2 ?side3 ?side4 ?side5 ?side6 A4.out).mono ?_); (case side1 => repeat (first | exact (Kd.R_reads' HO522.out).2.2 | (with_reducible refine Kd.C_alloc ?_ _) | (with_reducible refine Kd.C_drewN ?_ _) | (with_reducible refine Kd.C_drew ?_))); (case side2 => exact (Kd.R_reads' HO522.out).2.1); (case side3 => repeat (first | exact (Kd.R_reads' HO524.out).2.2 | (with_reducible refine Kd.C_alloc ?_ _) | (with_reducible refine Kd.C_drewN ?_ _) | (with_reducible refine Kd.C_drew ?_))); (case side4 => exact (Kd.R_reads' HO524.out).2.1); (case side5 => repeat (first | exact (Kd.R_reads' HO526.out).2.2 | (with_reducible refine Kd.C_alloc ?_ _) | (with_reducible refine Kd.C_drewN ?_ _) | (with_reducible refine Kd.C_drew ?_))); (case side6 => exact (Kd.R_reads' HO526.out).2.1); rintro e w46 ⟨rfl, hb⟩; refine ⟨_, rfl, ?_⟩; have n0_ := Aside0.mk (Kd.R_below (by (with_reducible repeat (first | apply Kd.R_alloc | apply Kd.R_drewN | apply Kd.R_drew)); exact HO522.out) hb); have n1_ := Aside0.mk (Kd.R_below (by (with_reducible repeat (first | apply Kd.R_alloc | apply Kd.R_drewN | apply Kd.R_drew)); exact HO524.out) hb); have n2_ := Aside0.mk (Kd.R_below (by (with_reducible repeat (first | apply Kd.R_alloc | apply Kd.R_drewN | apply Kd.R_drew)); exact HO526.out) hb); have n3_ := Aside0.mk (below_step (by repeat (first | (with_reducible first | exact HB.out | apply below_alloc | apply pw_below_drewN | apply below_drew1) | exact HB.out)) hb); clear HO522; clear HO524; clear HO526; clear HB; have HO522 := n0_; have HO524 := n1_; have HO526 := n2_; have HB := n3_; clear n0_ n1_ n2_ n3_; (try clear hb); (try clear hb2); (try clear hk); (try clear hi)) | ((with_reducible refine gate_callee (f := 32) rfl ?_); refine goesL_ (some 26) rfl rfl Try.func32 (by kernel_rfl) rfl #[.slice Ao43 t518.length co43, .slice Ao44 t519.length co44, .slice Ao45 t520.length co45] rfl (by (try simp only [List.map_toArray, List.map_cons, List.map_nil]); first | done | rfl | (simp only [List.length_drop, List.length_take]; rfl)) ?_; (with_reducible refine (spec_LotOk.calls k _ _ t518 _ _ t519 _ _ t520 t528 _ ?side1 ?side2 ?side3 ?side4 ?side5 ?side6 A5.out).mono ?_); (case side1 => repeat (first | exact (Kd.R_reads' HO522.out).2.2 | (with_reducible refine Kd.C_alloc ?_ _) | (with_reducible refine Kd.C_drewN ?_ _) | (with_reducible refine Kd.C_drew ?_))); (case side2 => exact (Kd.R_reads' HO522.out).2.1); (case side3 => repeat (first | exact (Kd.R_reads' HO524.out).2.2 | (with_reducible refine Kd.C_alloc ?_ _) | (with_reducible refine Kd.C_drewN ?_ _) | (with_reducible refine Kd.C_drew ?_))); (case side4 => exact (Kd.R_reads' HO524.out).2.1); (case side5 => repeat (first | exact (Kd.R_reads' HO526.out).2.2 | (with_reducible refine Kd.C_alloc ?_ _) | (with_reducible refine Kd.C_drewN ?_ _) | (with_reducible refine Kd.C_drew ?_))); (case side6 => exact (Kd.R_reads' HO526.out).2.1); rintro e w47 ⟨rfl, hb⟩; refine ⟨_, rfl, ?_⟩; have n0_ := Aside0.mk (Kd.R_below (by (with_reducible repeat (first | apply Kd.R_alloc | apply Kd.R_drewN | apply Kd.R_drew)); exact HO522.out) hb); have n1_ := Aside0.mk (Kd.R_below (by (with_reducible repeat (first | apply Kd.R_alloc | apply Kd.R_drewN | apply Kd.R_drew)); exact HO524.out) hb); have n2_ := Aside0.mk (Kd.R_below (by (with_reducible repeat (first | apply Kd.R_alloc | apply Kd.R_drewN | apply Kd.R_drew)); exact HO526.out) hb); have n3_ := Aside0.mk (below_step (by repeat (first | (with_reducible first | exact HB.out | apply below_alloc | apply pw_below_drewN | apply below_drew1) | exact HB.out)) hb); clear HO522; clear HO524; clear HO526; clear HB; have HO522 := n0_; have HO524 := n1_; have HO526 := n2_; have HB := n3_; clear n0_ n1_ n2_ n3_; (try clear hb); (try clear hb2); (try clear hk); (try clear hi)) | ((with_reducible refine gate_callee (f := 16) rfl ?_); refine goesL_ (some 30) rfl rfl Try.func16 (by kernel_rfl) rfl #[.slice Ao43 t518.length co43, .slice Ao44 t519.length co44] rfl (by (try simp only [List.map_toArray, List.map_cons, List.map_nil]); first | done | rfl | (simp only [List.length_drop, List.length_take]; rfl)) ?_; (with_reducible refine (spec_WaitsOk.calls k _ _ t518 _ _ t519 false _ ?side1 ?side2 ?side3 ?side4 A13.out).mono ?_); (case side1 => repeat (first | exact (Kd.R_reads' HO522.out).2.2 | (with_reducible refine Kd.C_alloc ?_ _) | (with_reducible refine Kd.C_drewN ?_ _) | (with_reducible refine Kd.C_drew ?_))); (case side2 => exact (Kd.R_reads' HO522.out).2.1); (case side3 => repeat (first | exact (Kd.R_reads' HO524.out).2.2 | (with_reducible refine Kd.C_alloc ?_ _) | (with_reducible refine Kd.C_drewN ?_ _) | (with_reducible refine Kd.C_drew ?_))); (case side4 => exact (Kd.R_reads' HO524.out).2.1); rintro e w48 ⟨rfl, hb⟩; refine ⟨_, rfl, ?_⟩; have n0_ := Aside0.mk (Kd.R_below (by (with_reducible repeat (first | apply Kd.R_alloc | apply Kd.R_drewN | apply Kd.R_drew)); exact HO522.out) hb); have n1_ := Aside0.mk (Kd.R_below (by (with_reducible repeat (first | apply Kd.R_alloc | apply Kd.R_drewN | apply Kd.R_drew)); exact HO524.out) hb); have n2_ := Aside0.mk (Kd.R_below (by (with_reducible repeat (first | apply Kd.R_alloc | apply Kd.R_drewN | apply Kd.R_drew)); exact HO526.out) hb); have n3_ := Aside0.mk (below_step (by repeat (first | (with_reducible first | exact HB.out | apply below_alloc | apply pw_below_drewN | apply below_drew1) | exact HB.out)) hb); clear HO522; clear HO524; clear HO526; clear HB; have HO522 := n0_; have HO524 := n1_; have HO526 := n2_; have HB := n3_; clear n0_ n1_ n2_ n3_; (try clear hb); (try clear hb2); (try clear hk); (try clear hi)))
          go_ret
          exact ⟨by first | rfl | (simp [errW_none, errW_some] <;> rfl) | (simp [*, errW_none, errW_some] <;> rfl), by repeat (first | (with_reducible first | exact HB.out | apply below_alloc | apply pw_below_drewN | apply below_drew1) | exact HB.out)⟩
        · replace c41 := Bool.eq_false_iff.mpr c41
          subst c41
          have H1 : ((laws_alive.f k).bind fun t530 => (some t530)) = some r := by rw [if_neg (show ¬ (false = true) by decide)] at H; exact H
          clear H
          have H := H1
          clear H1
          replace H := Option.bind_eq_some_iff.mp H
          obtain ⟨t530, A490, H⟩ := H
          replace H : (some t530) = some r := H
          have A49 := Aside0.mk A490
          clear A490
          obtain rfl := Option.some.inj H
          go_enter Try.func8, Try.ntmps8
          go_wp2_with (first | ((with_reducible refine gate_callee (f := 34) rfl ?_); refine goesL_ (some 14) rfl rfl Try.func34 (by kernel_rfl) rfl #[.slice A0 l0.length c0] rfl (by (try simp only [List.map_toArray, List.map_cons, List.map_nil]); first | done | rfl | (simp only [List.length_drop, List.length_take]; rfl)) ?_; (with_reducible refine (spec_DrawLotOk.calls k _ _ l0 t518 t519 t520 _ ?side1 ?side2 A3.out).mono ?_); (case side1 => repeat (first | exact HR0.out | (with_reducible refine Kd.C_alloc ?_ _) | (with_reducible refine Kd.C_drewN ?_ _) | (with_reducible refine Kd.C_drew ?_))); (case side2 => exact HC0.out); rintro e w50 ⟨v521, v523, v525, rfl, ho0, ho1, ho2, hb⟩; refine ⟨_, rfl, ?_⟩; have n0_ := Aside0.mk (Kd.R_lower ho0 (below_size (by repeat (first | (with_reducible first | exact HB.out | apply below_alloc | apply pw_below_drewN | apply below_drew1) | exact HB.out)))); have n1_ := Aside0.mk (Kd.R_lower ho1 (below_size (by repeat (first | (with_reducible first | exact HB.out | apply below_alloc | apply pw_below_drewN | apply below_drew1) | exact HB.out)))); have n2_ := Aside0.mk (Kd.R_lower ho2 (below_size (by repeat (first | (with_reducible first | exact HB.out | apply below_alloc | apply pw_below_drewN | apply below_drew1) | exact HB.out)))); have n3_ := Aside0.mk (below_step (by repeat (first | (with_reducible first | exact HB.out | apply below_alloc | apply pw_below_drewN | apply below_drew1) | exact HB.out)) hb); clear HB; have HO522 := n0_; have HO524 := n1_; have HO526 := n2_; have HB := n3_; clear n0_ n1_ n2_ n3_; (try clear hb); (try clear hb2); (try clear hk); (try clear hi); (try clear ho0); (try clear ho1); (try clear ho2); obtain ⟨Ao51, co51, eo51⟩ := Kd.R_slice HO522.out; subst eo51; obtain ⟨Ao52, co52, eo52⟩ := Kd.R_slice HO524.out; subst eo52; obtain ⟨Ao53, co53, eo53⟩ := Kd.R_slice HO526.out; subst eo53) | ((with_reducible refine gate_callee (f := 33) rfl ?_); refine goesL_ (some 21) rfl rfl Try.func33 (by kernel_rfl) rfl #[.slice Ao51 t518.length co51, .slice Ao52 t519.length co52, .slice Ao53 t520.length co53] rfl (by (try simp only [List.map_toArray, List.map_cons, List.map_nil]); first | done | rfl | (simp only [List.length_drop, List.length_take]; rfl)) ?_; (with_reducible refine (impl_LotOk.calls k _ _ t518 _ _ t519 _ _ t520 false _ ?side1 ?side2 ?side3 ?side4 ?side5 ?side6 A4.out).mono ?_); (case side1 => repeat (first | exact (Kd.R_reads' HO522.out).2.2 | (with_reducible refine Kd.C_alloc ?_ _) | (with_reducible refine Kd.C_drewN ?_ _) | (with_reducible refine Kd.C_drew ?_))); (case side2 => exact (Kd.R_reads' HO522.out).2.1); (case side3 => repeat (first | exact (Kd.R_reads' HO524.out).2.2 | (with_reducible refine Kd.C_alloc ?_ _) | (with_reducible refine Kd.C_drewN ?_ _) | (with_reducible refine Kd.C_drew ?_))); (case side4 => exact (Kd.R_reads' HO524.out).2.1); (case side5 => repeat (first | exact (Kd.R_reads' HO526.out).2.2 | (with_reducible refine Kd.C_alloc ?_ _) | (with_reducible refine Kd.C_drewN ?_ _) | (with_reducible refine Kd.C_drew ?_))); (case side6 => exact (Kd.R_reads' HO526.out).2.1); rintro e w54 ⟨rfl, hb⟩; refine ⟨_, rfl, ?_⟩; have n0_ := Aside0.mk (Kd.R_below (by (with_reducible repeat (first | apply Kd.R_alloc | apply Kd.R_drewN | apply Kd.R_drew)); exact HO522.out) hb); have n1_ := Aside0.mk (Kd.R_below (by (with_reducible repeat (first | apply Kd.R_alloc | apply Kd.R_drewN | apply Kd.R_drew)); exact HO524.out) hb); have n2_ := Aside0.mk (Kd.R_below (by (with_reducible repeat (first | apply Kd.R_alloc | apply Kd.R_drewN | apply Kd.R_drew)); exact HO526.out) hb); have n3_ := Aside0.mk (below_step (by repeat (first | (with_reducible first | exact HB.out | apply below_alloc | apply pw_below_drewN | apply below_drew1) | exact HB.out)) hb); clear HO522; clear HO524; clear HO526; clear HB; have HO522 := n0_; have HO524 := n1_; have HO526 := n2_; have HB := n3_; clear n0_ n1_ n2_ n3_; (try clear hb); (try clear hb2); (try clear hk); (try clear hi)) | ((with_reducible refine gate_callee (f := 32) rfl ?_); refine goesL_ (some 26) rfl rfl Try.func32 (by kernel_rfl) rfl #[.slice Ao51 t518.length co51, .slice Ao52 t519.length co52, .slice Ao53 t520.length co53] rfl (by (try simp only [List.map_toArray, List.map_cons, List.map_nil]); first | done | rfl | (simp only [List.length_drop, List.length_take]; rfl)) ?_; (with_reducible refine (spec_LotOk.calls k _ _ t518 _ _ t519 _ _ t520 t528 _ ?side1 ?side2 ?side3 ?side4 ?side5 ?side6 A5.out).mono ?_); (case side1 => repeat (first | exact (Kd.R_reads' HO522.out).2.2 | (with_reducible refine Kd.C_alloc ?_ _) | (with_reducible refine Kd.C_drewN ?_ _) | (with_reducible refine Kd.C_drew ?_))); (case side2 => exact (Kd.R_reads' HO522.out).2.1); (case side3 => repeat (first | exact (Kd.R_reads' HO524.out).2.2 | (with_reducible refine Kd.C_alloc ?_ _) | (with_reducible refine Kd.C_drewN ?_ _) | (with_reducible refine Kd.C_drew ?_))); (case side4 => exact (Kd.R_reads' HO524.out).2.1); (case side5 => repeat (first | exact (Kd.R_reads' HO526.out).2.2 | (with_reducible refine Kd.C_alloc ?_ _) | (with_reducible refine Kd.C_drewN ?_ _) | (with_reducible refine Kd.C_drew ?_))); (case side6 => exact (Kd.R_reads' HO526.out).2.1); rintro e w55 ⟨rfl, hb⟩; refine ⟨_, rfl, ?_⟩; have n0_ := Aside0.mk (Kd.R_below (by (with_reducible repeat (first | apply Kd.R_alloc | apply Kd.R_drewN | apply Kd.R_drew)); exact HO522.out) hb); have n1_ := Aside0.mk (Kd.R_below (by (with_reducible repeat (first | apply Kd.R_alloc | apply Kd.R_drewN | apply Kd.R_drew)); exact HO524.out) hb); have n2_ := Aside0.mk (Kd.R_below (by (with_reducible repeat (first | apply Kd.R_alloc | apply Kd.R_drewN | apply Kd.R_drew)); exact HO526.out) hb); have n3_ := Aside0.mk (below_step (by repeat (first | (with_reducible first | exact HB.out | apply below_alloc | apply pw_below_drewN | apply below_drew1) | exact HB.out)) hb); clear HO522; clear HO524; clear HO526; clear HB; have HO522 := n0_; have HO524 := n1_; have HO526 := n2_; have HB := n3_; clear n0_ n1_ n2_ n3_; (try clear hb); (try clear hb2); (try clear hk); (try clear hi)) | ((with_reducible refine gate_callee (f := 16) rfl ?_); refine goesL_ (some 30) rfl rfl Try.func16 (by kernel_rfl) rfl #[.slice Ao51 t518.length co51, .slice Ao52 t519.length co52] rfl (by (try simp only [List.map_toArray, List.map_cons, List.map_nil]); first | done | rfl | (simp only [List.length_drop, List.length_take]; rfl)) ?_; (with_reducible refine (spec_WaitsOk.calls k _ _ t518 _ _ t519 false _ ?side1 ?side2 ?side3 ?side4 A13.out).mono ?_); (case side1 => repeat (first | exact (Kd.R_reads' HO522.out).2.2 | (with_reducible refine Kd.C_alloc ?_ _) | (with_reducible refine Kd.C_drewN ?_ _) | (with_reducible refine Kd.C_drew ?_))); (case side2 => exact (Kd.R_reads' HO522.out).2.1); (case side3 => repeat (first | exact (Kd.R_reads' HO524.out).2.2 | (with_reducible refine Kd.C_alloc ?_ _) | (with_reducible refine Kd.C_drewN ?_ _) | (with_reducible refine Kd.C_drew ?_))); (case side4 => exact (Kd.R_reads' HO524.out).2.1); rintro e w56 ⟨rfl, hb⟩; refine ⟨_, rfl, ?_⟩; have n0_ := Aside0.mk (Kd.R_below (by (with_reducible repeat (first | apply Kd.R_alloc | apply Kd.R_drewN | apply Kd.R_drew)); exact HO522.out) hb); have n1_ := Aside0.mk (Kd.R_below (by (with_reducible repeat (first | apply Kd.R_alloc | apply Kd.R_drewN | apply Kd.R_drew)); exact HO524.out) hb); have n2_ := Aside0.mk (Kd.R_below (by (with_reducible repeat (first | apply Kd.R_alloc | apply Kd.R_drewN | apply Kd.R_drew)); exact HO526.out) hb); have n3_ := Aside0.mk (below_step (by repeat (first | (with_reducible first | exact HB.out | apply below_alloc | apply pw_below_drewN | apply below_drew1) | exact HB.out)) hb); clear HO522; clear HO524; clear HO526; clear HB; have HO522 := n0_; have HO524 := n1_; have HO526 := n2_; have HB := n3_; clear n0_ n1_ n2_ n3_; (try clear hb); (try clear hb2); (try clear hk); (try clear hi)) | (go_at_call 23; (with_reducible refine (laws_alive.calls k  t530 _ A49.out).mono ?_); rintro e w57 ⟨rfl, hb⟩; have n0_ := Aside0.mk (Kd.R_below (by (with_reducible repeat (first | apply Kd.R_alloc | apply Kd.R_drewN | apply Kd.R_drew)); exact HO522.out) hb); have n1_ := Aside0.mk (Kd.R_below (by (with_reducible repeat (first | apply Kd.R_alloc | apply Kd.R_drewN | apply Kd.R_drew)); exact HO524.out) hb); have n2_ := Aside0.mk (Kd.R_below (by (with_reducible repeat (first | apply Kd.R_alloc | apply Kd.R_drewN | apply Kd.R_drew)); exact HO526.out) hb); have n3_ := Aside0.mk (below_step (by repeat (first | (with_reducible first | exact HB.out | apply below_alloc | apply pw_below_drewN | apply below_drew1) | exact HB.out)) hb); clear HO522; clear HO524; clear HO526; clear HB; have HO522 := n0_; have HO524 := n1_; have HO526 := n2_; have HB := n3_; clear n0_ n1_ n2_ n3_; (try clear hb); (try clear hb2); (try clear hk); (try clear hi)))
          go_ret
          exact ⟨by first | rfl | (simp [errW_none, errW_some] <;> rfl) | (simp [*, errW_none, errW_some] <;> rfl), by repeat (first | (with_reducible first | exact HB.out | apply below_alloc | apply pw_below_drewN | apply below_drew1) | exact HB.out)⟩
def laws_FnLotOk.Pure : Prop := ∀ (l0 : List Int), l0.length ≤ maxLen → l0.length * 1 ≤ 140737488351232 → (∀ x ∈ l0, (Lit.int .u8 x).wf = true) → ∃ k, laws_FnLotOk.f k l0 = some true
theorem laws_FnLotOk.walk (P : laws_FnLotOk.Pure) (a0 : Option Addr) (len0 cap0 : Nat) (z0 : List Int) (w : World) (w0 : (a0 = none ∧ len0 = 0 ∧ cap0 = 0 ∧ z0 = []) ∨ ∃ x, a0 = some x ∧ len0 ≤ cap0 ∧ cap0 ≤ maxLen ∧ z0.length = cap0 ∧ (∀ i, i < z0.length → w.cell? (x.add i) = some (.int .u8 (z0.getD i 0))) ∧ ∀ n ∈ z0, (Lit.int .u8 n).wf = true) (y0 : len0 * 1 ≤ 140737488351232) :
    Calls Try.prog 8 #[.slice a0 len0 cap0] w fun e w' => e = .returned (.bool true) ∧ Below w.heap.size w w' := by
  obtain ⟨l0, rfl, hr0, hm0, hw0, hc0⟩ := ReadsInt.ofRowC w0
  obtain ⟨k, h⟩ := P l0 hm0 y0 hw0
  refine (laws_FnLotOk.calls k _ _ l0 true w (Kd.C_of_reads (d := (0 : Int)) (h1 := fun _ => rfl) hr0) hc0 h).mono ?_
  rintro e w' ⟨rfl, hd⟩
  exact ⟨rfl, hd⟩
end Go.Proofs.Ytbnkiikpolcpkaa.PU

namespace Go.Proofs.YtbnkiikpolcpkaaW.PrintWords
open Go.ChangeShapes Go.WideShapes
theorem sized_ints {H : Type} {enc : TypeId × Value → H} {P : Program} {W : World} {base : Nat} {spare : Nat → Bool} {held : Bool} {t e : TypeId} {k : IntKind} {a : Option Addr} {len cap : Nat} {d : DataW H} {ps : List MemPlace} {ts : List TypeId} {ds : List (DataW H)} {j : Nat}
    (hsz : (DataW.weightsEach P ts ds).all (· ≤ reachBytes) = true) (ht : ts[j]? = some t) (hd : ds[j]? = some d) (hu : P.underlying t = some (.slice e)) (he : P.underlying e = some (.int k)) (hc : P.cellsOf e = 1) {B : Nat} (hB : P.bytesOf e = B)
    (h : DataW.Trod enc P W base spare held t (.slice a len cap) d ps) : len * B ≤ 140737488351232 := by
  obtain ⟨fuel, hf⟩ := h
  rcases open_ints hu he hc hf with ⟨hcs, _⟩ | ⟨x, l, c, zs, hcs, _, hl, _, hz, hx, _, _⟩
  · simp [Value.cells] at hcs
    obtain ⟨rfl, rfl, rfl⟩ := hcs
    simp
  · simp [Value.cells] at hcs
    obtain ⟨rfl, rfl, rfl⟩ := hcs
    obtain ⟨hx, _⟩ := Prod.mk.inj hx
    subst hx
    have z := sized_slice hsz ht hd hu
    rw [hB] at z
    have hl2 : len ≤ zs.length := by
      rw [hz]
      split
      · exact hl
      · exact Nat.le_refl _
    have h1 : (lits (H := H) k (zs.take len)).length + (lits (H := H) k (zs.drop len)).length = zs.length := by
      simp [lits]
      omega
    rw [h1] at z
    exact Nat.le_trans (Nat.mul_le_mul_right _ hl2) z
end Go.Proofs.YtbnkiikpolcpkaaW.PrintWords

namespace Go.Proofs.Ytbnkiikpolcpkaa.Qh
open Go.RowKit Go.Proofs.YtbnkiikpolcpkaaW.PrintWords Go.Proofs.YtbnkiikpolcpkaaW.PrintMore
set_option linter.unusedVariables false
set_option linter.unusedSimpArgs false
theorem w64 {n : Int} (h1 : -9223372036854775808 ≤ n) (h2 : n ≤ 9223372036854775807) : wrap64 n = n := by unfold wrap64; omega
theorem wsucc {i n : Nat} (h : i < n) (hn : n ≤ 4611686018427387904) : wrap64 ((i : Int) + 1) = ((i + 1 : Nat) : Int) := by unfold wrap64; omega
section
variable {α β : Type} {r : α}
theorem evPos {c : Prop} [Decidable c] {g f : Nat → Option α} (h : c) (k : Ev g r) : Ev (fun n => if c then g n else f n) r := by
  simp only [if_pos h]; exact k
theorem evNeg {c : Prop} [Decidable c] {g f : Nat → Option α} (h : ¬ c) (k : Ev f r) : Ev (fun n => if c then g n else f n) r := by
  simp only [if_neg h]; exact k
theorem evT {g f : Nat → Option α} {b : Bool} (h : b = true) (k : Ev g r) : Ev (fun n => if b = true then g n else f n) r := evPos h k
theorem evF {g f : Nat → Option α} {b : Bool} (h : b = false) (k : Ev f r) : Ev (fun n => if b = true then g n else f n) r := evNeg (by rw [h]; decide) k
theorem evIte {c : Prop} [Decidable c] {g f : Nat → Option α} (hp : c → Ev g r) (hn : ¬ c → Ev f r) : Ev (fun n => if c then g n else f n) r := by
  by_cases h : c
  · exact evPos h (hp h)
  · exact evNeg h (hn h)
theorem evBind0 {g : Option β} {f : Nat → β → Option α} {a : β} (h : g = some a) (k : Ev (fun n => f n a) r) : Ev (fun n => g.bind (f n)) r := by
  subst h; exact k
theorem evNow {g : Option α} (h : g = some r) : Ev (fun _ => g) r := by subst h; exact Ev.now r
theorem evEq {g : Nat → Option α} {q : α} (h : Ev g q) (e : q = r) : Ev g r := e ▸ h
end
theorem rd_get (xs : List Int) (i : Nat) (h : i < xs.length) : rd xs (i : Int) = xs[i] := by
  simp [rd, List.getD_eq_getElem?_getD, List.getElem?_eq_getElem h]
theorem drop_rd (xs : List Int) (i : Nat) (h : i < xs.length) : xs.drop i = rd xs (i : Int) :: xs.drop (i + 1) := by
  rw [rd_get xs i h, List.drop_eq_getElem_cons h]
theorem drop_of {α : Type} (xs : List α) (d : α) (i : Nat) (h : i < xs.length) : xs.drop i = xs.getD i d :: xs.drop (i + 1) := by
  rw [List.drop_eq_getElem_cons h]; simp [List.getD_eq_getElem?_getD, List.getElem?_eq_getElem h]
theorem getD_set {α : Type} (xs : List α) (d v : α) (i j : Nat) (h : i < xs.length) : (xs.set i v).getD j d = if i = j then v else xs.getD j d := by
  simp only [List.getD_eq_getElem?_getD, List.getElem?_set]
  by_cases e : i = j
  · subst e; simp [h]
  · simp [e]
theorem rd_set (xs : List Int) (v : Int) (i j : Int) (h0 : 0 ≤ i) (h : i < xs.length) (hj : 0 ≤ j) : rd (xs.set i.toNat v) j = if i = j then v else rd xs j := by
  unfold rd
  rw [getD_set xs 0 v i.toNat j.toNat (by omega)]
  by_cases e : i = j
  · subst e; simp
  · rw [if_neg e, if_neg (by omega)]
theorem ext_rd (xs ys : List Int) (hl : xs.length = ys.length) (h : ∀ i : Nat, i < xs.length → rd xs (i : Int) = rd ys (i : Int)) : xs = ys := by
  apply List.ext_getElem hl
  intro i h1 h2
  have := h i h1
  rwa [rd_get xs i h1, rd_get ys i h2] at this
theorem getD_mem {α : Type} (d : α) (xs : List α) (i : Nat) (h : i < xs.length) : xs.getD i d ∈ xs := by
  simp [List.getD_eq_getElem?_getD, List.getElem?_eq_getElem h]
def EvB (g : Nat → Option Bool) (p : Prop) : Prop := ∃ b, (b = true ↔ p) ∧ Ev g b
section
variable {g f : Nat → Option Bool} {p q : Prop}
theorem EvB.congr (h : EvB g p) (e : p ↔ q) : EvB g q := by obtain ⟨b, h1, h2⟩ := h; exact ⟨b, h1.trans e, h2⟩
theorem EvB.tt (h : p) : EvB (fun _ => some true) p := ⟨true, by simp [h], Ev.now _⟩
theorem EvB.ff (h : ¬ p) : EvB (fun _ => some false) p := ⟨false, by simp [h], Ev.now _⟩
theorem EvB.pos {c : Prop} [Decidable c] (h : c) (k : EvB g p) : EvB (fun n => if c then g n else f n) p := by obtain ⟨b, h1, h2⟩ := k; exact ⟨b, h1, evPos h h2⟩
theorem EvB.neg {c : Prop} [Decidable c] (h : ¬ c) (k : EvB f p) : EvB (fun n => if c then g n else f n) p := by obtain ⟨b, h1, h2⟩ := k; exact ⟨b, h1, evNeg h h2⟩
theorem EvB.step {g f : Nat → Option Bool} (h : ∀ k, g (k + 1) = f k) (k : EvB f p) : EvB g p := by obtain ⟨b, h1, h2⟩ := k; exact ⟨b, h1, Ev.step h h2⟩
theorem EvB.bind {β : Type} {g : Nat → Option β} {f : Nat → β → Option Bool} {a : β} (h : Ev g a) (k : EvB (fun n => f n a) p) : EvB (fun n => (g n).bind (f n)) p := by obtain ⟨b, h1, h2⟩ := k; exact ⟨b, h1, Ev.bind h h2⟩
theorem EvB.bind0 {β : Type} {g : Option β} {f : Nat → β → Option Bool} {a : β} (h : g = some a) (k : EvB (fun n => f n a) p) : EvB (fun n => g.bind (f n)) p := by obtain ⟨b, h1, h2⟩ := k; exact ⟨b, h1, evBind0 h h2⟩
theorem EvB.yes (h : EvB g p) (hp : p) : Ev g true := by obtain ⟨b, h1, h2⟩ := h; rw [h1.2 hp] at h2; exact h2
theorem EvB.no (h : EvB g p) (hp : ¬ p) : Ev g false := by
  obtain ⟨b, h1, h2⟩ := h
  have : b = false := by cases b with
    | true => exact absurd (h1.1 rfl) hp
    | false => rfl
  rw [this] at h2; exact h2
end
end Go.Proofs.Ytbnkiikpolcpkaa.Qh
namespace Go.Proofs.Ytbnkiikpolcpkaa.Wo
open Go.RowKit Go.Proofs.Ytbnkiikpolcpkaa.PU Go.Proofs.Ytbnkiikpolcpkaa.Qh Go.Proofs.YtbnkiikpolcpkaaW.PrintWords Go.Proofs.YtbnkiikpolcpkaaW.PrintMore
set_option linter.unusedVariables false
set_option linter.unusedSimpArgs false
abbrev W := S47
def big : Nat := 4611686018427387904
def okM (x : Int) : Bool := decide (0 ≤ x ∧ x ≤ 20)
def okW (n : Nat) (w : W) : Bool := decide (0 ≤ w.f0 ∧ w.f0 < n ∧ 0 ≤ w.f1 ∧ w.f1 < n ∧ w.f0 ≠ w.f1 ∧ 1 ≤ w.f2 ∧ w.f2 ≤ 20)
def szOk (m : List Int) (l : List W) : Bool := decide (1 ≤ m.length ∧ m.length ≤ 4 ∧ l.length ≤ 7)
def wOk (m : List Int) (l : List W) : Bool := szOk m l && (m.all okM && l.all (okW m.length))
theorem l1In (a lo hi : Int) : spec_l1In.f a lo hi = some (decide (lo ≤ a ∧ a ≤ hi)) := by
  unfold spec_l1In.f
  by_cases h : a ≥ lo
  · rw [if_pos h]; have : lo ≤ a := h; simp [this]
  · rw [if_neg h]; have : ¬ lo ≤ a := h; simp [this]
theorem dropW (l : List W) (i : Nat) (h : i < l.length) : l.drop i = rd_T47 l (i : Int) :: l.drop (i + 1) := by
  have := drop_of l z47 i h
  simpa [rd_T47] using this
theorem all_dropW (l : List W) (p : W → Bool) (i : Nat) (h : i < l.length) : (l.drop i).all p = (p (rd_T47 l (i : Int)) && (l.drop (i + 1)).all p) := by
  rw [dropW l i h]; rfl
theorem all_dropI (l : List Int) (p : Int → Bool) (i : Nat) (h : i < l.length) : (l.drop i).all p = (p (rd l (i : Int)) && (l.drop (i + 1)).all p) := by
  rw [drop_rd l i h]; rfl
theorem s1 (m : List Int) (l : List W) (hm : m.length ≤ big) (hl : l.length ≤ big) : ∀ (d i : Nat), l.length - i = d → i ≤ l.length →
    Ev (fun k => spec_WaitsOk.l1 k m l (i : Int)) (szOk m l && (l.drop i).all (okW m.length)) := by
  unfold big at hm hl
  intro d
  induction d with
  | zero =>
    intro i hd hi
    obtain rfl : i = l.length := by omega
    refine Ev.step (fun k => by rw [spec_WaitsOk.l1]) ?_
    refine evNeg (by omega) ?_
    refine evBind0 (l1In _ _ _) ?_
    refine evIte (fun h => ?_) (fun h => ?_)
    · refine evNow ?_
      simp only [decide_eq_true_eq] at h
      have e : szOk m l = decide ((l.length : Int) ≤ 7) := by
        unfold szOk
        by_cases h7 : l.length ≤ 7
        · rw [decide_eq_true (by omega), decide_eq_true (by omega)]
        · rw [decide_eq_false (by omega), decide_eq_false (by omega)]
      simp [e]
    · refine evNow ?_
      simp only [decide_eq_true_eq] at h
      have e : szOk m l = false := by unfold szOk; rw [decide_eq_false (by omega)]
      simp [e]
  | succ d ih =>
    intro i hd hi
    have hlt : i < l.length := by omega
    have hr := ih (i + 1) (by omega) (by omega)
    rw [all_dropW l _ i hlt]
    have hw : wrap64 ((m.length : Int) - 1) = (m.length : Int) - 1 := w64 (by omega) (by omega)
    have hs : wrap64 ((i : Int) + 1) = ((i + 1 : Nat) : Int) := wsucc hlt (by omega)
    refine Ev.step (fun k => by rw [spec_WaitsOk.l1]) ?_
    generalize rd_T47 l (i : Int) = x at *
    refine evPos (by omega) (evPos (by omega) ?_)
    rw [hw, hs]
    repeat' first | refine evBind0 (l1In _ _ _) ?_ | refine evIte (fun h => ?_) (fun h => ?_)
    all_goals simp only [decide_eq_true_eq] at *
    all_goals first
      | exact evEq hr (by rw [show okW m.length x = true from decide_eq_true (by omega), Bool.true_and])
      | exact evNow (by rw [show okW m.length x = false from decide_eq_false (by omega), Bool.false_and, Bool.and_false])
theorem s0 (m : List Int) (l : List W) (hm : m.length ≤ big) (hl : l.length ≤ big) : ∀ (d i : Nat), m.length - i = d → i ≤ m.length →
    Ev (fun k => spec_WaitsOk.l0 k m l (i : Int)) (szOk m l && ((m.drop i).all okM && l.all (okW m.length))) := by
  intro d
  induction d with
  | zero =>
    intro i hd hi
    obtain rfl : i = m.length := by omega
    refine Ev.step (fun k => by rw [spec_WaitsOk.l0]) ?_
    refine evNeg (by omega) ?_
    exact evEq (s1 m l hm hl l.length 0 (by omega) (by omega)) (by simp)
  | succ d ih =>
    intro i hd hi
    have hlt : i < m.length := by omega
    have hr := ih (i + 1) (by omega) (by omega)
    rw [all_dropI m _ i hlt]
    have hs : wrap64 ((i : Int) + 1) = ((i + 1 : Nat) : Int) := wsucc hlt hm
    refine Ev.step (fun k => by rw [spec_WaitsOk.l0]) ?_
    generalize rd m (i : Int) = x at *
    refine evPos (by omega) (evPos (by omega) ?_)
    rw [hs]
    repeat' first | refine evBind0 (l1In _ _ _) ?_ | refine evIte (fun h => ?_) (fun h => ?_)
    all_goals simp only [decide_eq_true_eq] at *
    all_goals first
      | exact evEq hr (by rw [show okM x = true from decide_eq_true (by omega), Bool.true_and])
      | exact evNow (by rw [show okM x = false from decide_eq_false (by omega), Bool.false_and, Bool.false_and, Bool.and_false])
theorem spec (m : List Int) (l : List W) (hm : m.length ≤ big) (hl : l.length ≤ big) : Ev (fun k => spec_WaitsOk.f k m l) (wOk m l) :=
  s0 m l hm hl m.length 0 (by omega) (by omega)
theorem i1 (m : List Int) (l : List W) (hm : m.length ≤ big) (hl : l.length ≤ big) : ∀ (d i : Nat), l.length - i = d → i ≤ l.length →
    Ev (fun k => impl_areWaits.l1 k (m.length : Int) l (l.length : Int) (i : Int)) ((l.drop i).all (okW m.length)) := by
  intro d
  induction d with
  | zero =>
    intro i hd hi
    obtain rfl : i = l.length := by omega
    refine Ev.step (fun k => by rw [impl_areWaits.l1]) ?_
    refine evNeg (by omega) ?_
    exact evNow (by simp)
  | succ d ih =>
    intro i hd hi
    have hlt : i < l.length := by omega
    have hr := ih (i + 1) (by omega) (by omega)
    rw [all_dropW l _ i hlt]
    refine Ev.step (fun k => by rw [impl_areWaits.l1]) ?_
    generalize rd_T47 l (i : Int) = x at *
    have hs : wrap64 ((i : Int) + 1) = ((i + 1 : Nat) : Int) := wsucc hlt hl
    refine evPos (by omega) (evPos (by omega) (evPos (by omega) ?_))
    rw [hs]
    repeat' first | refine evIte (fun h => ?_) (fun h => ?_)
    all_goals first
      | exact evEq hr (by rw [show okW m.length x = true from decide_eq_true (by omega), Bool.true_and])
      | exact evNow (by rw [show okW m.length x = false from decide_eq_false (by omega), Bool.false_and])
theorem i0 (m : List Int) (l : List W) (hm : m.length ≤ big) (hl : l.length ≤ big) : ∀ (d i : Nat), m.length - i = d → i ≤ m.length →
    Ev (fun k => impl_areWaits.l0 k l (m.length : Int) m (m.length : Int) (i : Int)) ((m.drop i).all okM && l.all (okW m.length)) := by
  intro d
  induction d with
  | zero =>
    intro i hd hi
    obtain rfl : i = m.length := by omega
    refine Ev.step (fun k => by rw [impl_areWaits.l0]) ?_
    refine evNeg (by omega) ?_
    exact evEq (i1 m l hm hl l.length 0 (by omega) (by omega)) (by simp)
  | succ d ih =>
    intro i hd hi
    have hlt : i < m.length := by omega
    have hr := ih (i + 1) (by omega) (by omega)
    rw [all_dropI m _ i hlt]
    refine Ev.step (fun k => by rw [impl_areWaits.l0]) ?_
    generalize rd m (i : Int) = x at *
    have hs : wrap64 ((i : Int) + 1) = ((i + 1 : Nat) : Int) := wsucc hlt hm
    refine evPos (by omega) (evPos (by omega) (evPos (by omega) ?_))
    rw [hs]
    repeat' first | refine evIte (fun h => ?_) (fun h => ?_)
    all_goals first
      | exact evEq hr (by rw [show okM x = true from decide_eq_true (by omega), Bool.true_and])
      | exact evNow (by rw [show okM x = false from decide_eq_false (by omega), Bool.false_and, Bool.false_and])
theorem ij (m : List Int) (l : List W) (hm : m.length ≤ big) (hl : l.length ≤ big) (b : Bool) (hb : b = !szOk m l) :
    Ev (fun k => impl_areWaits.j0 k m l (m.length : Int) b) (wOk m l) := by
  refine Ev.step (fun k => by rw [impl_areWaits.j0]) ?_
  subst hb
  unfold wOk
  refine evIte (fun h => evNow ?_) (fun h => ?_)
  · have e : szOk m l = false := by simpa using h
    simp [e]
  · have e : szOk m l = true := by simpa using h
    exact evEq (i0 m l hm hl m.length 0 (by omega) (by omega)) (by simp [e])
theorem areWaits (m : List Int) (l : List W) (hm : m.length ≤ big) (hl : l.length ≤ big) : Ev (fun k => impl_areWaits.f k m l) (wOk m l) := by
  unfold impl_areWaits.f
  refine evIte (fun h => ij m l hm hl _ ?_) (fun h => evIte (fun h' => ij m l hm hl _ ?_) (fun h' => ij m l hm hl _ ?_))
  · rw [show szOk m l = false from decide_eq_false (by omega)]; rfl
  · rw [show szOk m l = false from decide_eq_false (by omega)]; rfl
  · by_cases h7 : l.length ≤ 7
    · rw [show szOk m l = true from decide_eq_true (by omega), decide_eq_false (by omega)]; rfl
    · rw [show szOk m l = false from decide_eq_false (by omega), decide_eq_true (by omega)]; rfl
theorem impl (m : List Int) (l : List W) (hm : m.length ≤ big) (hl : l.length ≤ big) : Ev (fun k => impl_WaitsOk.f k m l) (wOk m l) := by
  unfold impl_WaitsOk.f
  exact Ev.bind (areWaits m l hm hl) (Ev.now _)
end Go.Proofs.Ytbnkiikpolcpkaa.Wo
namespace Go.Proofs.Ytbnkiikpolcpkaa.Af
open Go.RowKit Go.Proofs.Ytbnkiikpolcpkaa.PU Go.Proofs.Ytbnkiikpolcpkaa.Qh Go.Proofs.Ytbnkiikpolcpkaa.Wo Go.Proofs.YtbnkiikpolcpkaaW.PrintWords Go.Proofs.YtbnkiikpolcpkaaW.PrintMore
set_option linter.unusedVariables false
set_option linter.unusedSimpArgs false
def Vw (n : Nat) (w : W) : Prop := 0 ≤ w.f0 ∧ w.f0 < n ∧ 0 ≤ w.f1 ∧ w.f1 < n ∧ w.f0 ≠ w.f1 ∧ 1 ≤ w.f2 ∧ w.f2 ≤ 20
def Lot (t : List Int) : Prop := ∀ x ∈ t, x = 0 ∨ x = 1
def pay (o : List Int) (w : W) (x : Int) : List Int := o.set w.f0.toNat (rd o w.f0 - w.f2 * x)
def stepA (o : List Int) (w : W) (x : Int) : List Int := (pay o w x).set w.f1.toNat (rd (pay o w x) w.f1 + w.f2 * x)
def aft (o : List Int) : List W → List Int → List Int
  | w :: l, x :: t => aft (stepA o w x) l t
  | _, _ => o
def eff (w : W) (x : Int) (j : Int) : Int := (if w.f1 = j then w.f2 * x else 0) - (if w.f0 = j then w.f2 * x else 0)
def effs : List W → List Int → Int → Int
  | w :: l, x :: t, j => eff w x j + effs l t j
  | _, _, _ => 0
theorem pay_len (o : List Int) (w : W) (x : Int) : (pay o w x).length = o.length := by simp [pay]
theorem step_len (o : List Int) (w : W) (x : Int) : (stepA o w x).length = o.length := by simp [stepA, pay]
theorem pay_rd (o : List Int) (w : W) (x : Int) (n : Nat) (hw : Vw n w) (ho : o.length = n) (j : Int) (hj : 0 ≤ j) : rd (pay o w x) j = if w.f0 = j then rd o j - w.f2 * x else rd o j := by
  unfold Vw at hw
  unfold pay
  rw [rd_set _ _ _ _ (by omega) (by omega) hj]
  by_cases e : w.f0 = j
  · rw [if_pos e, if_pos e, e]
  · rw [if_neg e, if_neg e]
theorem step_rd (o : List Int) (w : W) (x : Int) (n : Nat) (hw : Vw n w) (ho : o.length = n) (j : Int) (hj : 0 ≤ j) : rd (stepA o w x) j = rd o j + eff w x j := by
  have hw' := hw
  unfold Vw at hw'
  have hp := pay_len o w x
  unfold stepA
  rw [rd_set _ _ _ _ (by omega) (by omega) hj]
  unfold eff
  by_cases e : w.f1 = j
  · rw [if_pos e, if_pos e, pay_rd o w x n hw ho _ (by omega), if_neg (by omega), if_neg (by omega), e]; omega
  · rw [if_neg e, if_neg e, pay_rd o w x n hw ho _ hj]
    by_cases e2 : w.f0 = j
    · rw [if_pos e2, if_pos e2]; omega
    · rw [if_neg e2, if_neg e2]; omega
theorem step_zero (o : List Int) (w : W) (n : Nat) (hw : Vw n w) (ho : o.length = n) : stepA o w 0 = o := by
  refine ext_rd _ _ (step_len o w 0) (fun i _ => ?_)
  rw [step_rd o w 0 n hw ho _ (by omega)]
  simp [eff]
def Bd (o : List Int) (c : Int) : Prop := ∀ j : Int, 0 ≤ j → -c ≤ rd o j ∧ rd o j ≤ c
theorem eff_bd (w : W) (n : Nat) (hw : Vw n w) (x : Int) (hx : x = 0 ∨ x = 1) (j : Int) : -20 ≤ eff w x j ∧ eff w x j ≤ 20 := by
  unfold Vw at hw
  unfold eff
  rcases hx with rfl | rfl
  · simp
  · by_cases e : w.f1 = j
    · rw [if_pos e, if_neg (by omega)]; omega
    · rw [if_neg e]
      by_cases e2 : w.f0 = j
      · rw [if_pos e2]; omega
      · rw [if_neg e2]; omega
theorem step_bd (o : List Int) (w : W) (x : Int) (n : Nat) (hw : Vw n w) (ho : o.length = n) (hx : x = 0 ∨ x = 1) (c : Int) (h : Bd o c) : Bd (stepA o w x) (c + 20) := by
  intro j hj
  rw [step_rd o w x n hw ho j hj]
  have := h j hj
  have := eff_bd w n hw x hx j
  omega
theorem aft_len : ∀ (l : List W) (t o : List Int), (aft o l t).length = o.length
  | [], t, o => by unfold aft; rfl
  | _ :: _, [], o => rfl
  | w :: l, x :: t, o => by show (aft (stepA o w x) l t).length = _; rw [aft_len l t, step_len]
theorem aft_rd (n : Nat) : ∀ (l : List W) (t o : List Int), (∀ w ∈ l, Vw n w) → o.length = n → ∀ j : Int, 0 ≤ j → rd (aft o l t) j = rd o j + effs l t j
  | [], t, o, _, _, j, _ => by simp [aft, effs]
  | _ :: _, [], o, _, _, j, _ => by simp [aft, effs]
  | w :: l, x :: t, o, hv, ho, j, hj => by
    show rd (aft (stepA o w x) l t) j = _ + (eff w x j + effs l t j)
    rw [aft_rd n l t (stepA o w x) (fun v hv' => hv v (List.mem_cons_of_mem _ hv')) (by rw [step_len, ho]) j hj, step_rd o w x n (hv w List.mem_cons_self) ho j hj]
    omega
theorem mem_rdW (l : List W) (i : Nat) (h : i < l.length) : rd_T47 l (i : Int) ∈ l := getD_mem _ _ _ h
theorem mem_rd (l : List Int) (i : Nat) (h : i < l.length) : rd l (i : Int) ∈ l := getD_mem _ _ _ h
theorem impl_l (n : Nat) (l : List W) (t : List Int) (hv : ∀ w ∈ l, Vw n w) (ht : Lot t) (hlt : t.length = l.length) (h7 : l.length ≤ 8) : ∀ (d i : Nat) (o : List Int), l.length - i = d → i ≤ l.length → o.length = n → Bd o (20 + 20 * (i : Int)) →
    Ev (fun k => impl_afterLot.l0 k t o l (l.length : Int) (i : Int)) (aft o (l.drop i) (t.drop i)) := by
  intro d
  induction d with
  | zero =>
    intro i o hd hi ho hb
    obtain rfl : i = l.length := by omega
    refine Ev.step (fun k => by rw [impl_afterLot.l0]) ?_
    refine evNeg (by omega) (evNow ?_)
    rw [List.drop_length]; unfold aft; rfl
  | succ d ih =>
    intro i o hd hi ho hb
    have hilt : i < l.length := by omega
    have hw := hv _ (mem_rdW l i hilt)
    have hx := ht _ (mem_rd t i (by omega))
    rw [dropW l i hilt, drop_rd t i (by omega)]
    refine Ev.step (fun k => by rw [impl_afterLot.l0]) ?_
    have hs : wrap64 ((i : Int) + 1) = ((i + 1 : Nat) : Int) := wsucc hilt (by omega)
    rw [hs]
    generalize rd_T47 l (i : Int) = w at *
    generalize rd t (i : Int) = x at *
    have hw' := hw
    unfold Vw at hw'
    have b0 := hb w.f0 (by omega)
    have e1 : wrap64 (w.f2 * x) = w.f2 * x := by rcases hx with rfl | rfl <;> exact w64 (by omega) (by omega)
    have e2 : wrap64 (rd o w.f0 - w.f2 * x) = rd o w.f0 - w.f2 * x := by rcases hx with rfl | rfl <;> exact w64 (by omega) (by omega)
    have b1 : -200 ≤ rd (pay o w x) w.f1 ∧ rd (pay o w x) w.f1 ≤ 200 := by
      rw [pay_rd o w x n hw ho _ (by omega), if_neg (by omega)]
      have := hb w.f1 (by omega)
      omega
    have e3 : wrap64 (rd (pay o w x) w.f1 + w.f2 * x) = rd (pay o w x) w.f1 + w.f2 * x := by rcases hx with rfl | rfl <;> exact w64 (by omega) (by omega)
    rw [e1, e2]
    refine evPos (by omega) (evPos (by omega) (evPos (by omega) (evPos (by omega) (evPos (by omega) (evPos (by omega) (evBind0 rfl (evPos (by omega) (evPos (by omega) ?_))))))))
    rw [show o.set w.f0.toNat (rd o w.f0 - w.f2 * x) = pay o w x from rfl, e3]
    exact ih (i + 1) (stepA o w x) (by omega) (by omega) (by rw [step_len, ho]) (fun j hj => by
      have := step_bd o w x n hw ho hx _ hb j hj
      omega)
theorem impl (m : List Int) (l : List W) (t : List Int) (hm : m.length ≤ 4) (hv : ∀ w ∈ l, Vw m.length w) (ht : Lot t) (hlt : t.length = l.length) (h7 : l.length ≤ 8) (hb : Bd m 20) :
    Ev (fun k => impl_afterLot.f k m l t) (aft m l t) := by
  unfold impl_afterLot.f
  refine evBind0 rfl (evPos (by simp; omega) ?_)
  exact impl_l m.length l t hv ht hlt h7 l.length 0 _ (by omega) (by omega) (by simp) (by simpa using hb)
theorem spec_l (n : Nat) (l : List W) (t : List Int) (hv : ∀ w ∈ l, Vw n w) (ht : Lot t) (hlt : t.length = l.length) (h7 : l.length ≤ 8) : ∀ (d i : Nat) (o : List Int), l.length - i = d → i ≤ l.length → o.length = n → Bd o (20 + 20 * (i : Int)) →
    Ev (fun k => spec_l8After.l0 k l t o (i : Int)) (aft o (l.drop i) (t.drop i)) := by
  intro d
  induction d with
  | zero =>
    intro i o hd hi ho hb
    obtain rfl : i = l.length := by omega
    refine Ev.step (fun k => by rw [spec_l8After.l0]) ?_
    refine evNeg (by omega) (evNow ?_)
    rw [List.drop_length]; unfold aft; rfl
  | succ d ih =>
    intro i o hd hi ho hb
    have hilt : i < l.length := by omega
    have hw := hv _ (mem_rdW l i hilt)
    have hx := ht _ (mem_rd t i (by omega))
    rw [dropW l i hilt, drop_rd t i (by omega)]
    refine Ev.step (fun k => by rw [spec_l8After.l0]) ?_
    have hs : wrap64 ((i : Int) + 1) = ((i + 1 : Nat) : Int) := wsucc hilt (by omega)
    rw [hs]
    generalize rd_T47 l (i : Int) = w at *
    generalize rd t (i : Int) = x at *
    have hw' := hw
    unfold Vw at hw'
    have b0 := hb w.f0 (by omega)
    refine evPos (by omega) (evPos (by omega) (evPos (by omega) ?_))
    rcases hx with rfl | rfl
    · refine evNeg (by decide) ?_
      show Ev _ (aft (stepA o w 0) _ _)
      rw [step_zero o w n hw ho]
      exact ih (i + 1) o (by omega) (by omega) ho (fun j hj => by have := hb j hj; omega)
    · have e2 : wrap64 (rd o w.f0 - w.f2) = rd o w.f0 - w.f2 * 1 := by rw [w64 (by omega) (by omega)]; omega
      have b1 : -200 ≤ rd (pay o w 1) w.f1 ∧ rd (pay o w 1) w.f1 ≤ 200 := by
        rw [pay_rd o w 1 n hw ho _ (by omega), if_neg (by omega)]
        have := hb w.f1 (by omega)
        omega
      have e3 : wrap64 (rd (pay o w 1) w.f1 + w.f2) = rd (pay o w 1) w.f1 + w.f2 * 1 := by rw [w64 (by omega) (by omega)]; omega
      rw [e2]
      refine evPos rfl (evPos (by omega) (evPos (by omega) (evBind0 rfl (evPos (by omega) (evPos (by omega) ?_)))))
      rw [show o.set w.f0.toNat (rd o w.f0 - w.f2 * 1) = pay o w 1 from rfl, e3]
      exact ih (i + 1) (stepA o w 1) (by omega) (by omega) (by rw [step_len, ho]) (fun j hj => by
        have := step_bd o w 1 n hw ho (.inr rfl) _ hb j hj
        omega)
theorem spec (m : List Int) (l : List W) (t : List Int) (hm : m.length ≤ 4) (hv : ∀ w ∈ l, Vw m.length w) (ht : Lot t) (hlt : t.length = l.length) (h7 : l.length ≤ 8) (hb : Bd m 20) :
    Ev (fun k => spec_l8After.f k m l t) (aft m l t) := by
  unfold spec_l8After.f
  refine evBind0 rfl (evPos (by simp; omega) ?_)
  exact spec_l m.length l t hv ht hlt h7 l.length 0 _ (by omega) (by omega) (by simp) (by simpa using hb)
theorem of_wOk {m : List Int} {l : List W} (h : wOk m l = true) : 1 ≤ m.length ∧ m.length ≤ 4 ∧ l.length ≤ 7 ∧ (∀ w ∈ l, Vw m.length w) ∧ Bd m 20 ∧ (∀ j : Int, 0 ≤ j → 0 ≤ rd m j) := by
  simp only [wOk, szOk, Bool.and_eq_true, decide_eq_true_eq, List.all_eq_true] at h
  obtain ⟨⟨h1, h2, h3⟩, h4, h5⟩ := h
  have hr : ∀ j : Int, 0 ≤ j → 0 ≤ rd m j ∧ rd m j ≤ 20 := by
    intro j hj
    obtain ⟨i, rfl⟩ := Int.eq_ofNat_of_zero_le hj
    by_cases hi : i < m.length
    · have := h4 _ (mem_rd m i hi)
      simpa [okM] using this
    · have : rd m (i : Int) = 0 := by simp [rd, List.getD_eq_getElem?_getD, List.getElem?_eq_none (by omega : m.length ≤ i)]
      omega
  refine ⟨h1, h2, h3, fun w hw => ?_, fun j hj => by have := hr j hj; omega, fun j hj => (hr j hj).1⟩
  have := h5 w hw
  simpa [okW, Vw] using this
end Go.Proofs.Ytbnkiikpolcpkaa.Af
namespace Go.Proofs.Ytbnkiikpolcpkaa.Lt
open Go.RowKit Go.Proofs.Ytbnkiikpolcpkaa.PU Go.Proofs.Ytbnkiikpolcpkaa.Qh Go.Proofs.Ytbnkiikpolcpkaa.Wo Go.Proofs.Ytbnkiikpolcpkaa.Af Go.Proofs.YtbnkiikpolcpkaaW.PrintWords Go.Proofs.YtbnkiikpolcpkaaW.PrintMore
set_option linter.unusedVariables false
set_option linter.unusedSimpArgs false
abbrev fr (l : List W) (i : Nat) : Int := (rd_T47 l (i : Int)).f0
instance (t : List Int) : Decidable (Lot t) := inferInstanceAs (Decidable (∀ x ∈ t, x = 0 ∨ x = 1))
def PC (l : List W) (t : List Int) : Prop := ∀ i j : Nat, j < i → i < l.length → rd t (i : Int) = 1 → fr l j = fr l i → rd t (j : Int) = 1
def LOk (m : List Int) (l : List W) (t : List Int) : Prop := wOk m l = true ∧ (t.length = l.length ∧ Lot t) ∧ (∀ j : Nat, j < m.length → 0 ≤ rd (aft m l t) (j : Int)) ∧ PC l t
theorem lot01 {t : List Int} (ht : Lot t) (i : Nat) (h : i < t.length) : rd t (i : Int) = 0 ∨ rd t (i : Int) = 1 := ht _ (mem_rd t i h)
theorem idx_neg (p : Int → Bool) : ∀ (l : List Int) (i : Nat), (0 ≤ IndexFunc_isLot1.idx p l i ↔ ∃ x ∈ l, p x = true)
  | [], i => by simp [IndexFunc_isLot1.idx]
  | x :: l, i => by
    unfold IndexFunc_isLot1.idx
    by_cases h : p x = true
    · rw [if_pos h]; simp [h]
    · rw [if_neg h, idx_neg p l (i + 1)]; simp [h]
theorem isLot (l : List W) (t : List Int) : impl_isLot.f l t = some (decide (t.length = l.length ∧ Lot t)) := by
  unfold impl_isLot.f
  by_cases h : (t.length : Int) = (l.length : Int)
  · rw [if_pos h]
    unfold ContainsFunc_isLot1.f IndexFunc_isLot1.f
    simp only [Option.bind_some]
    congr 1
    have hi := idx_neg (fun x => (x != 0 && x != 1)) t 0
    by_cases hl : Lot t
    · have : ¬ (0 ≤ IndexFunc_isLot1.idx (fun x => (x != 0 && x != 1)) t 0) := by
        rw [hi]
        rintro ⟨x, hx, hp⟩
        rcases hl x hx with rfl | rfl <;> simp at hp
      rw [decide_eq_false this, decide_eq_true ⟨by omega, hl⟩]; rfl
    · have : 0 ≤ IndexFunc_isLot1.idx (fun x => (x != 0 && x != 1)) t 0 := by
        rw [hi]
        apply Classical.byContradiction
        intro hn
        apply hl
        intro x hx
        apply Classical.byContradiction
        intro hn2
        apply hn
        refine ⟨x, hx, ?_⟩
        have a : x ≠ 0 := fun e => hn2 (.inl e)
        have b : x ≠ 1 := fun e => hn2 (.inr e)
        simp [a, b]
      rw [decide_eq_true this, decide_eq_false (fun h => hl h.2)]; rfl
  · rw [if_neg h, decide_eq_false (by omega)]
theorem sl_l (l : List W) (t : List Int) (hb : t.length ≤ big) : ∀ (d i : Nat), t.length - i = d → i ≤ t.length → Ev (fun k => spec_l8Lot.l0 k l t (i : Int)) (decide (t.length = l.length ∧ Lot (t.drop i))) := by
  unfold big at hb
  intro d
  induction d with
  | zero =>
    intro i hd hi
    obtain rfl : i = t.length := by omega
    refine Ev.step (fun k => by rw [spec_l8Lot.l0]) ?_
    refine evNeg (by omega) (evNow ?_)
    congr 1
    rw [List.drop_length]
    by_cases e : t.length = l.length
    · rw [decide_eq_true ⟨e, fun x hx => by cases hx⟩, e]; simp
    · rw [decide_eq_false (fun h => e h.1)]; simp; omega
  | succ d ih =>
    intro i hd hi
    have hlt : i < t.length := by omega
    have hr := ih (i + 1) (by omega) (by omega)
    have hs : wrap64 ((i : Int) + 1) = ((i + 1 : Nat) : Int) := wsucc hlt (by omega)
    rw [drop_rd t i hlt]
    refine Ev.step (fun k => by rw [spec_l8Lot.l0]) ?_
    generalize rd t (i : Int) = x at *
    rw [hs]
    refine evPos (by omega) (evPos (by omega) (evBind0 (l1In _ _ _) ?_))
    by_cases hx : 0 ≤ x ∧ x ≤ 1
    · refine evT (decide_eq_true hx) (evEq hr ?_)
      by_cases e : t.length = l.length ∧ Lot (t.drop (i + 1))
      · rw [decide_eq_true e, decide_eq_true ⟨e.1, fun y hy => by
          rcases List.mem_cons.1 hy with rfl | hy
          · omega
          · exact e.2 y hy⟩]
      · rw [decide_eq_false e, decide_eq_false (fun h => e ⟨h.1, fun y hy => h.2 y (List.mem_cons_of_mem _ hy)⟩)]
    · refine evF (decide_eq_false hx) (evNow ?_)
      rw [decide_eq_false (fun h => by have := h.2 x List.mem_cons_self; omega)]
theorem l8Lot (l : List W) (t : List Int) (hb : t.length ≤ big) : Ev (fun k => spec_l8Lot.f k l t) (decide (t.length = l.length ∧ Lot t)) := sl_l l t hb t.length 0 (by omega) (by omega)
def Bad (l : List W) (t : List Int) (i j : Nat) : Prop := rd t (i : Int) = 1 ∧ rd t (j : Int) = 0 ∧ fr l j = fr l i
def Fine (l : List W) (t : List Int) (i : Nat) : Prop := ∀ i', i ≤ i' → i' < l.length → ∀ j, j < i' → ¬ Bad l t i' j
theorem s12 (l : List W) (t : List Int) (h7 : l.length ≤ 8) (hlt : t.length = l.length) : ∀ (d i : Nat), l.length - i = d → i ≤ l.length → EvB (fun k => spec_LotOk.l1 k l t (i : Int)) (Fine l t i) := by
  intro d
  induction d with
  | zero =>
    intro i hd hi
    refine EvB.step (fun k => by rw [spec_LotOk.l1]) ?_
    exact EvB.neg (by omega) (EvB.tt (fun i' h1 h2 => by omega))
  | succ d ih =>
    intro i hd hi
    have hilt : i < l.length := by omega
    have hr := ih (i + 1) (by omega) (by omega)
    have hs : wrap64 ((i : Int) + 1) = ((i + 1 : Nat) : Int) := wsucc hilt (by omega)
    have inner : ∀ (e j : Nat), i - j = e → j ≤ i → EvB (fun k => spec_LotOk.l2 k l t (i : Int) (j : Int)) ((∀ j', j ≤ j' → j' < i → ¬ Bad l t i j') ∧ Fine l t (i + 1)) := by
      intro e
      induction e with
      | zero =>
        intro j he hj
        refine EvB.step (fun k => by rw [spec_LotOk.l2]) ?_
        rw [hs]
        exact EvB.neg (by omega) (hr.congr ⟨fun h => ⟨fun j' h1 h2 => by omega, h⟩, fun h => h.2⟩)
      | succ e ihe =>
        intro j he hj
        have hjs : wrap64 ((j : Int) + 1) = ((j + 1 : Nat) : Int) := wsucc (show j < l.length by omega) (by omega)
        have hn := ihe (j + 1) (by omega) (by omega)
        have hgo : ¬ Bad l t i j → EvB (fun k => spec_LotOk.l2 k l t (i : Int) ((j + 1 : Nat) : Int)) ((∀ j', j ≤ j' → j' < i → ¬ Bad l t i j') ∧ Fine l t (i + 1)) := fun hb =>
          hn.congr ⟨fun h => ⟨fun j' h1 h2 => by
            by_cases ej : j' = j
            · subst ej; exact hb
            · exact h.1 j' (by omega) h2, h.2⟩, fun h => ⟨fun j' h1 h2 => h.1 j' (by omega) h2, h.2⟩⟩
        refine EvB.step (fun k => by rw [spec_LotOk.l2]) ?_
        rw [hjs]
        refine EvB.pos (by omega) (EvB.pos (by omega) (EvB.pos (by omega) ?_))
        by_cases h1 : rd t (i : Int) = 1
        · refine EvB.pos h1 (EvB.pos (by omega) (EvB.pos (by omega) ?_))
          by_cases h0 : rd t (j : Int) = 0
          · refine EvB.pos h0 (EvB.pos (by omega) (EvB.pos (by omega) ?_))
            by_cases hf : (rd_T47 l (j : Int)).f0 = (rd_T47 l (i : Int)).f0
            · exact EvB.pos hf (EvB.ff (fun h => h.1 j (Nat.le_refl _) (by omega) ⟨h1, h0, hf⟩))
            · exact EvB.neg hf (hgo (fun h => hf h.2.2))
          · exact EvB.neg h0 (hgo (fun h => h0 h.2.1))
        · exact EvB.neg h1 (hgo (fun h => h1 h.1))
    refine EvB.step (fun k => by rw [spec_LotOk.l1]) ?_
    refine EvB.pos (by omega) ((inner i 0 (by omega) (by omega)).congr ⟨fun h i' h1 h2 j hj => ?_, fun h => ⟨fun j' _ h2 => h i (Nat.le_refl _) hilt j' h2, fun i' h1 h2 => h i' (by omega) h2⟩⟩)
    by_cases ei : i' = i
    · subst ei; exact h.1 j (by omega) hj
    · exact h.2 i' (by omega) h2 j hj
theorem fine_pc {l : List W} {t : List Int} (ht : Lot t) (hlt : t.length = l.length) : Fine l t 0 ↔ PC l t := by
  constructor
  · intro h i j hj hi h1 hf
    rcases lot01 ht j (by omega) with h0 | h0
    · exact absurd ⟨h1, h0, hf⟩ (h i (Nat.zero_le _) hi j hj)
    · exact h0
  · intro h i _ hi j hj hb
    have := h i j hj hi hb.1 hb.2.2
    have := hb.2.1
    omega
theorem s0 (l : List W) (t o : List Int) (h7 : l.length ≤ 8) (hlt : t.length = l.length) (ho : o.length ≤ 8) : ∀ (d j : Nat), o.length - j = d → j ≤ o.length →
    EvB (fun k => spec_LotOk.l0 k l t o (j : Int)) ((∀ j' : Nat, j ≤ j' → j' < o.length → 0 ≤ rd o (j' : Int)) ∧ Fine l t 0) := by
  intro d
  induction d with
  | zero =>
    intro j hd hj
    refine EvB.step (fun k => by rw [spec_LotOk.l0]) ?_
    exact EvB.neg (by omega) ((s12 l t h7 hlt l.length 0 (by omega) (by omega)).congr ⟨fun h => ⟨fun j' h1 h2 => by omega, h⟩, fun h => h.2⟩)
  | succ d ih =>
    intro j hd hj
    have hjs : wrap64 ((j : Int) + 1) = ((j + 1 : Nat) : Int) := wsucc (show j < o.length by omega) (by omega)
    refine EvB.step (fun k => by rw [spec_LotOk.l0]) ?_
    rw [hjs]
    refine EvB.pos (by omega) (EvB.pos (by omega) ?_)
    by_cases h : rd o (j : Int) < 0
    · exact EvB.pos h (EvB.ff (fun hh => by have := hh.1 j (Nat.le_refl _) (by omega); omega))
    · refine EvB.neg h ((ih (j + 1) (by omega) (by omega)).congr ⟨fun hh => ⟨fun j' h1 h2 => ?_, hh.2⟩, fun hh => ⟨fun j' h1 h2 => hh.1 j' (by omega) h2, hh.2⟩⟩)
      by_cases e : j' = j
      · subst e; omega
      · exact hh.1 j' (by omega) h2
theorem spec (m : List Int) (l : List W) (t : List Int) (hm : m.length ≤ big) (hl : l.length ≤ big) (ht : t.length ≤ big) : EvB (fun k => spec_LotOk.f k m l t) (LOk m l t) := by
  unfold spec_LotOk.f
  refine EvB.bind (Wo.spec m l hm hl) ?_
  cases hw : wOk m l with
  | false =>
    refine EvB.neg (by decide) (EvB.step (fun k => by rw [spec_LotOk.j0]) (EvB.pos rfl (EvB.ff (fun h => ?_))))
    have := h.1; rw [hw] at this; cases this
  | true =>
    obtain ⟨h1, h4, h7, hv, hbd, _⟩ := of_wOk hw
    refine EvB.pos rfl (EvB.bind (l8Lot l t ht) (EvB.step (fun k => by rw [spec_LotOk.j0]) ?_))
    by_cases hL : t.length = l.length ∧ Lot t
    · refine EvB.neg (by rw [decide_eq_true hL]; decide) (EvB.bind (Af.spec m l t h4 hv hL.2 hL.1 (by omega) hbd) ?_)
      refine (s0 l t (aft m l t) (by omega) hL.1 (by rw [aft_len]; omega) _ 0 rfl (by omega)).congr ?_
      rw [fine_pc hL.2 hL.1, aft_len]
      exact ⟨fun h => ⟨hw, hL, fun j hj => h.1 j (Nat.zero_le _) hj, h.2⟩, fun h => ⟨fun j _ hj => h.2.2.1 j hj, h.2.2.2⟩⟩
    · exact EvB.pos (by rw [decide_eq_false hL]; rfl) (EvB.ff (fun h => hL h.2.1))
theorem rdW_take (l : List W) (i j : Nat) (h : j < i) : rd_T47 (l.take i) (j : Int) = rd_T47 l (j : Int) := by
  simp [rd_T47, List.getD_eq_getElem?_getD, List.getElem?_take, h]
def First (l : List W) (t : List Int) (i j : Nat) : Prop := ∀ j', j ≤ j' → j' < i → fr l j' = fr l i → rd t (j' : Int) ≠ 0
theorem first_l (l : List W) (t : List Int) (i : Nat) (h7 : l.length ≤ 8) (hlt : t.length = l.length) (hi : i < l.length) : ∀ (d j : Nat), i - j = d → j ≤ i →
    EvB (fun k => impl_isFirst.l0 k l t (i : Int) (l.take i) ((l.take i).length : Int) (j : Int)) (First l t i j) := by
  have hlen : (l.take i).length = i := by rw [List.length_take]; omega
  rw [hlen]
  intro d
  induction d with
  | zero =>
    intro j hd hj
    refine EvB.step (fun k => by rw [impl_isFirst.l0]) ?_
    exact EvB.neg (by omega) (EvB.tt (fun j' h1 h2 => by omega))
  | succ d ih =>
    intro j hd hj
    have hjs : wrap64 ((j : Int) + 1) = ((j + 1 : Nat) : Int) := wsucc (show j < l.length by omega) (by omega)
    have hn := ih (j + 1) (by omega) (by omega)
    have hgo : (fr l j = fr l i → rd t (j : Int) ≠ 0) → EvB (fun k => impl_isFirst.l0 k l t (i : Int) (l.take i) (i : Int) ((j + 1 : Nat) : Int)) (First l t i j) := fun hb =>
      hn.congr ⟨fun h j' h1 h2 => by
        by_cases e : j' = j
        · subst e; exact hb
        · exact h j' (by omega) h2, fun h j' h1 h2 => h j' (by omega) h2⟩
    refine EvB.step (fun k => by rw [impl_isFirst.l0]) ?_
    rw [hjs, rdW_take l i j (by omega)]
    refine EvB.pos (by omega) (EvB.pos (by omega) (EvB.pos (by omega) (EvB.pos (by omega) (EvB.pos (by omega) ?_))))
    by_cases hf : (rd_T47 l (j : Int)).f0 = (rd_T47 l (i : Int)).f0
    · refine EvB.pos hf (EvB.pos (by omega) ?_)
      by_cases h0 : rd t (j : Int) = 0
      · exact EvB.pos h0 (EvB.ff (fun h => h j (Nat.le_refl _) (by omega) hf h0))
      · exact EvB.neg h0 (hgo (fun _ => h0))
    · exact EvB.neg hf (hgo (fun h => absurd h hf))
theorem first (l : List W) (t : List Int) (i : Nat) (h7 : l.length ≤ 8) (hlt : t.length = l.length) (hi : i < l.length) : EvB (fun k => impl_isFirst.f k l t (i : Int)) (First l t i 0) := by
  unfold impl_isFirst.f
  exact EvB.pos (by omega) (EvB.pos (by omega) (EvB.bind0 rfl (first_l l t i h7 hlt hi i 0 (by omega) (by omega))))
theorem min_l (o : List Int) (ho : o.length ≤ 8) : ∀ (d j : Nat) (v : Int), o.length - j = d → j ≤ o.length → (v < 0 ↔ ∃ j' : Nat, j' < j ∧ rd o (j' : Int) < 0) →
    ∃ v', (v' < 0 ↔ ∃ j' : Nat, j' < o.length ∧ rd o (j' : Int) < 0) ∧ Ev (fun k => slices_Min_int_int.l0 k o v (j : Int)) v' := by
  intro d
  induction d with
  | zero =>
    intro j v hd hj hv
    obtain rfl : j = o.length := by omega
    refine ⟨v, hv, Ev.step (fun k => by rw [slices_Min_int_int.l0]) ?_⟩
    exact evNeg (by omega) (Ev.now _)
  | succ d ih =>
    intro j v hd hj hv
    have hjs : wrap64 ((j : Int) + 1) = ((j + 1 : Nat) : Int) := wsucc (show j < o.length by omega) (by omega)
    obtain ⟨v', h1, h2⟩ := ih (j + 1) (mn v (rd o (j : Int))) (by clear hv; omega) (by clear hv; omega) (by
      constructor
      · intro h
        by_cases h0 : rd o (j : Int) < 0
        · exact ⟨j, by omega, h0⟩
        · obtain ⟨j', a, b⟩ := hv.1 (by clear hv; unfold mn at h; split at h <;> omega)
          exact ⟨j', by omega, b⟩
      · rintro ⟨j', a, b⟩
        unfold mn
        by_cases e : j' = j
        · subst e; split <;> omega
        · have := hv.2 ⟨j', by omega, b⟩
          split <;> omega)
    refine ⟨v', h1, Ev.step (fun k => by rw [slices_Min_int_int.l0]) ?_⟩
    rw [hjs]
    clear hv h1
    exact evPos (by omega) (evPos (by omega) h2)
theorem min (o : List Int) (ho : o.length ≤ 8) (h1 : 1 ≤ o.length) : ∃ v', (v' < 0 ↔ ∃ j' : Nat, j' < o.length ∧ rd o (j' : Int) < 0) ∧ Ev (fun k => slices_Min_int_int.f k o) v' := by
  obtain ⟨v', a, b⟩ := min_l o ho (o.length - 1) 1 (rd o 0) (by omega) h1 (by
    constructor
    · intro h; exact ⟨0, by omega, h⟩
    · rintro ⟨j', a, b⟩
      have : j' = 0 := by omega
      subst this; exact b)
  refine ⟨v', a, ?_⟩
  unfold slices_Min_int_int.f
  exact evNeg (by omega) (evPos (by omega) b)
theorem i0 (l : List W) (t : List Int) (h7 : l.length ≤ 8) (hlt : t.length = l.length) : ∀ (d i : Nat), l.length - i = d → i ≤ l.length →
    EvB (fun k => impl_LotOk.l0 k l t t (t.length : Int) (i : Int)) (∀ i', i ≤ i' → i' < l.length → rd t (i' : Int) = 1 → First l t i' 0) := by
  intro d
  induction d with
  | zero =>
    intro i hd hi
    refine EvB.step (fun k => by rw [impl_LotOk.l0]) ?_
    exact EvB.neg (by omega) (EvB.tt (fun i' h1 h2 => by omega))
  | succ d ih =>
    intro i hd hi
    have hilt : i < l.length := by omega
    have hs : wrap64 ((i : Int) + 1) = ((i + 1 : Nat) : Int) := wsucc hilt (by omega)
    have hn := ih (i + 1) (by omega) (by omega)
    have hgo : (rd t (i : Int) = 1 → First l t i 0) → EvB (fun k => impl_LotOk.l0 k l t t (t.length : Int) ((i + 1 : Nat) : Int)) (∀ i', i ≤ i' → i' < l.length → rd t (i' : Int) = 1 → First l t i' 0) := fun hb =>
      hn.congr ⟨fun h i' h1 h2 => by
        by_cases e : i' = i
        · subst e; exact hb
        · exact h i' (by omega) h2, fun h i' h1 h2 => h i' (by omega) h2⟩
    refine EvB.step (fun k => by rw [impl_LotOk.l0]) ?_
    rw [hs]
    refine EvB.pos (by omega) (EvB.pos (by omega) (EvB.pos (by omega) ?_))
    by_cases h1 : rd t (i : Int) = 1
    · refine EvB.pos h1 ?_
      have hf := first l t i h7 hlt hilt
      by_cases hF : First l t i 0
      · exact EvB.bind (hf.yes hF) (EvB.pos rfl (hgo (fun _ => hF)))
      · exact EvB.bind (hf.no hF) (EvB.neg (by decide) (EvB.ff (fun h => hF (h i (Nat.le_refl _) hilt h1))))
    · exact EvB.neg h1 (hgo (fun h => absurd h h1))
theorem first_pc {l : List W} {t : List Int} (ht : Lot t) (hlt : t.length = l.length) : (∀ i', 0 ≤ i' → i' < l.length → rd t (i' : Int) = 1 → First l t i' 0) ↔ PC l t := by
  constructor
  · intro h i j hj hi h1 hf
    rcases lot01 ht j (by omega) with h0 | h0
    · exact absurd h0 (h i (Nat.zero_le _) hi h1 j (Nat.zero_le _) hj hf)
    · exact h0
  · intro h i _ hi h1 j _ hj hf
    have := h i j hj hi h1 hf
    omega
theorem impl (m : List Int) (l : List W) (t : List Int) (hm : m.length ≤ big) (hl : l.length ≤ big) : EvB (fun k => impl_LotOk.f k m l t) (LOk m l t) := by
  unfold impl_LotOk.f
  refine EvB.bind (Wo.areWaits m l hm hl) ?_
  have bad : ∀ b : Bool, b = true → ¬ LOk m l t → EvB (fun k => impl_LotOk.j0 k l t b) (LOk m l t) := fun b hb hn => by
    subst hb
    exact EvB.step (fun k => by rw [impl_LotOk.j0]) (EvB.pos rfl (EvB.ff hn))
  cases hw : wOk m l with
  | false => exact EvB.neg (by decide) (bad _ rfl (fun h => by have := h.1; rw [hw] at this; cases this))
  | true =>
    obtain ⟨h1, h4, h7, hv, hbd, _⟩ := of_wOk hw
    refine EvB.pos rfl (EvB.bind0 (isLot l t) ?_)
    by_cases hL : t.length = l.length ∧ Lot t
    · refine EvB.pos (decide_eq_true hL) (EvB.bind (Af.impl m l t h4 hv hL.2 hL.1 (by omega) hbd) ?_)
      obtain ⟨v, hv1, hv2⟩ := min (aft m l t) (by rw [aft_len]; omega) (by rw [aft_len]; omega)
      rw [aft_len] at hv1
      refine EvB.bind hv2 ?_
      by_cases hneg : v < 0
      · refine bad _ (decide_eq_true hneg) (fun h => ?_)
        obtain ⟨j, a, b⟩ := hv1.1 hneg
        have := h.2.2.1 j a
        omega
      · refine EvB.step (fun k => by rw [impl_LotOk.j0]) (EvB.neg (by rw [decide_eq_false hneg]; decide) ?_)
        refine (i0 l t (by omega) hL.1 l.length 0 (by omega) (by omega)).congr ?_
        rw [first_pc hL.2 hL.1]
        refine ⟨fun h => ⟨hw, hL, fun j hj => ?_, h⟩, fun h => h.2.2.2⟩
        apply Classical.byContradiction
        intro hn
        exact hneg (hv1.2 ⟨j, hj, by omega⟩)
    · exact EvB.neg (by rw [decide_eq_false hL]; decide) (bad _ rfl (fun h => hL h.2.1))
end Go.Proofs.Ytbnkiikpolcpkaa.Lt
namespace Go.Proofs.Ytbnkiikpolcpkaa.Al2
open Go.RowKit Go.Proofs.Ytbnkiikpolcpkaa.PU Go.Proofs.Ytbnkiikpolcpkaa.Qh Go.Proofs.Ytbnkiikpolcpkaa.Wo Go.Proofs.Ytbnkiikpolcpkaa.Af Go.Proofs.Ytbnkiikpolcpkaa.Lt Go.Proofs.YtbnkiikpolcpkaaW.PrintWords Go.Proofs.YtbnkiikpolcpkaaW.PrintMore
set_option linter.unusedVariables false
set_option linter.unusedSimpArgs false
theorem both (m : List Int) (l : List W) (t : List Int) (hm : m.length ≤ big) (hl : l.length ≤ big) (ht : t.length ≤ big) :
    ∃ r, ((wOk m l = true ∧ t.length = l.length ∧ Lot t) → r = aft m l t) ∧ (¬ (wOk m l = true ∧ t.length = l.length ∧ Lot t) → r = []) ∧ Ev (fun k => impl_AfterLot.f k m l t) r ∧ Ev (fun k => spec_AfterLot.f k m l t) r := by
  have wi := Wo.areWaits m l hm hl
  have ws := Wo.spec m l hm hl
  have li := isLot l t
  have ls := l8Lot l t ht
  unfold impl_AfterLot.f spec_AfterLot.f
  cases hw : wOk m l with
  | false =>
    rw [hw] at wi ws
    exact ⟨[], fun h => by simp at h, fun _ => rfl, Ev.bind wi (evF rfl (Ev.now _)), Ev.bind ws (evF rfl (Ev.now _))⟩
  | true =>
    rw [hw] at wi ws
    obtain ⟨h1, h4, h7, hv, hbd, _⟩ := of_wOk hw
    by_cases hL : t.length = l.length ∧ Lot t
    · refine ⟨aft m l t, fun _ => rfl, fun h => absurd ⟨rfl, hL⟩ h, Ev.bind wi (evT rfl (evBind0 li (evT (decide_eq_true hL) ?_))), Ev.bind ws (evT rfl (Ev.bind ls (evT (decide_eq_true hL) ?_)))⟩
      · exact Ev.bind (Af.impl m l t h4 hv hL.2 hL.1 (by omega) hbd) (Ev.now _)
      · exact Ev.bind (Af.spec m l t h4 hv hL.2 hL.1 (by omega) hbd) (Ev.now _)
    · exact ⟨[], fun h => absurd h.2 hL, fun _ => rfl, Ev.bind wi (evT rfl (evBind0 li (evF (decide_eq_false hL) (Ev.now _)))), Ev.bind ws (evT rfl (Ev.bind ls (evF (decide_eq_false hL) (Ev.now _))))⟩
end Go.Proofs.Ytbnkiikpolcpkaa.Al2
namespace Go.Proofs.Ytbnkiikpolcpkaa.Ob
open Go.RowKit Go.Proofs.Ytbnkiikpolcpkaa.PU Go.Proofs.Ytbnkiikpolcpkaa.Qh Go.Proofs.Ytbnkiikpolcpkaa.Wo Go.Proofs.Ytbnkiikpolcpkaa.Af Go.Proofs.Ytbnkiikpolcpkaa.Lt Go.Proofs.YtbnkiikpolcpkaaW.PrintWords Go.Proofs.YtbnkiikpolcpkaaW.PrintMore
set_option linter.unusedVariables false
set_option linter.unusedSimpArgs false
abbrev am (l : List W) (i : Nat) : Int := (rd_T47 l (i : Int)).f2
theorem aft_bd (n : Nat) : ∀ (l : List W) (t o : List Int) (c : Int), (∀ w ∈ l, Vw n w) → Lot t → o.length = n → Bd o c → Bd (aft o l t) (c + 20 * l.length)
  | [], t, o, c, _, _, _, h => by intro j hj; have := h j hj; unfold aft; simp; omega
  | _ :: l, [], o, c, _, _, _, h => by intro j hj; have := h j hj; simp [aft]; omega
  | w :: l, x :: t, o, c, hv, ht, ho, h => by
    have := aft_bd n l t (stepA o w x) (c + 20) (fun v hv' => hv v (List.mem_cons_of_mem _ hv')) (fun y hy => ht y (List.mem_cons_of_mem _ hy)) (by rw [step_len, ho]) (step_bd o w x n (hv w List.mem_cons_self) ho (ht x List.mem_cons_self) c h)
    intro j hj
    have := this j hj
    show _ ≤ rd (aft (stepA o w x) l t) j ∧ rd (aft (stepA o w x) l t) j ≤ _
    simp only [List.length_cons]
    omega
theorem effs_set (j : Int) : ∀ (l : List W) (t : List Int) (i : Nat), i < l.length → t.length = l.length → rd t (i : Int) = 0 → effs l (t.set i 1) j = effs l t j + eff (rd_T47 l (i : Int)) 1 j
  | [], t, i, h, _, _ => by simp at h
  | w :: l, [], i, _, h, _ => by simp at h
  | w :: l, x :: t, 0, _, _, h0 => by
    have : x = 0 := by simpa [rd] using h0
    subst this
    have e : rd_T47 (w :: l) ((0 : Nat) : Int) = w := by simp [rd_T47]
    rw [e]
    show eff w 1 j + effs l t j = eff w 0 j + effs l t j + eff w 1 j
    have : eff w 0 j = 0 := by simp [eff]
    omega
  | w :: l, x :: t, i + 1, h, hl, h0 => by
    have := effs_set j l t i (by simpa using h) (by simpa using hl) (by simpa [rd] using h0)
    have e : rd_T47 (w :: l) ((i + 1 : Nat) : Int) = rd_T47 l (i : Int) := by simp [rd_T47]
    rw [e]
    show eff w x j + effs l (t.set i 1) j = eff w x j + effs l t j + eff _ 1 j
    omega
theorem count_set : ∀ (t : List Int) (i : Nat), i < t.length → rd t (i : Int) = 0 → (t.set i 1).count 0 + 1 = t.count 0
  | [], i, h, _ => by simp at h
  | x :: t, 0, _, h => by
    have : x = 0 := by simpa [rd] using h
    subst this
    simp
  | x :: t, i + 1, h, h1 => by
    have := count_set t i (by simpa using h) (by simpa [rd] using h1)
    rw [List.set_cons_succ, List.count_cons, List.count_cons]
    omega
theorem set_rd (t : List Int) (v : Int) (i j : Nat) (h : i < t.length) : rd (t.set i v) (j : Int) = if i = j then v else rd t (j : Int) := by
  have := rd_set t v (i : Int) (j : Int) (by omega) (by omega) (by omega)
  rw [Int.toNat_natCast] at this
  rw [this]
  by_cases e : i = j
  · rw [if_pos (by omega), if_pos e]
  · rw [if_neg (by omega), if_neg e]
structure J (m : List Int) (l : List W) (t : List Int) : Prop where
  len : t.length = l.length
  lot : Lot t
  pc : PC l t
  pos : ∀ j : Nat, j < m.length → 0 ≤ rd (aft m l t) (j : Int)
def Feas (m : List Int) (l : List W) (t : List Int) (i : Nat) : Prop := rd t (i : Int) ≠ 1 ∧ am l i ≤ rd (aft m l t) (fr l i) ∧ First l t i 0
def Post (m : List Int) (l : List W) (r : List Int) : Prop := J m l r ∧ ∀ i, i < l.length → ¬ Feas m l r i
theorem next_aft {m : List Int} {l : List W} {t : List Int} (hv : ∀ w ∈ l, Vw m.length w) (h : J m l t) {i : Nat} (hi : i < l.length) (h0 : rd t (i : Int) = 0) : aft m l (t.set i 1) = stepA (aft m l t) (rd_T47 l (i : Int)) 1 := by
  refine ext_rd _ _ (by rw [aft_len, step_len, aft_len]) (fun j _ => ?_)
  rw [step_rd _ _ _ m.length (hv _ (mem_rdW l i hi)) (by rw [aft_len]) _ (by omega), aft_rd m.length l _ m hv rfl _ (by omega), aft_rd m.length l _ m hv rfl _ (by omega), effs_set _ l t i hi h.len h0]
  omega
theorem next_J {m : List Int} {l : List W} {t : List Int} (hv : ∀ w ∈ l, Vw m.length w) (h : J m l t) {i : Nat} (hi : i < l.length) (hf : Feas m l t i) : J m l (t.set i 1) := by
  have hil : i < t.length := by rw [h.len]; exact hi
  have h0 : rd t (i : Int) = 0 := by
    rcases lot01 h.lot i hil with a | a
    · exact a
    · exact absurd a hf.1
  refine ⟨by simp [h.len], ?_, ?_, ?_⟩
  · intro x hx
    rcases List.mem_or_eq_of_mem_set hx with hx | rfl
    · exact h.lot x hx
    · exact .inr rfl
  · intro i' j hj hi' h1' hf'
    rw [set_rd _ _ _ _ hil] at h1' ⊢
    by_cases e2 : i = j
    · rw [if_pos e2]
    · rw [if_neg e2]
      by_cases e : i = i'
      · subst e
        have := hf.2.2 j (Nat.zero_le _) hj hf'
        rcases lot01 h.lot j (by rw [h.len]; omega) with a | a
        · exact absurd a this
        · exact a
      · rw [if_neg e] at h1'
        exact h.pc i' j hj hi' h1' hf'
  · intro j hj
    rw [next_aft hv h hi h0]
    have hvi := hv _ (mem_rdW l i hi)
    rw [step_rd _ _ _ m.length hvi (by rw [aft_len]) _ (by omega)]
    have hp := h.pos j hj
    have hfe := hf.2.1
    unfold am fr at hfe
    generalize rd_T47 l (i : Int) = w at *
    unfold Vw at hvi
    unfold eff
    by_cases e1 : w.f0 = (j : Int)
    · rw [if_neg (show ¬ w.f1 = (j : Int) by omega), if_pos e1]
      rw [e1] at hfe
      omega
    · rw [if_neg e1]
      split <;> omega
theorem sp2 (m : List Int) (l : List W) (t : List Int) (fl : Bool) (i : Nat) (h7 : l.length ≤ 8) (hlen : t.length = l.length) (hi : i < l.length) (r : List Int) (hF : First l t i 0)
    (hr : Ev (fun k => spec_OneByOne.l1 k m l (t.set i 1) true ((i + 1 : Nat) : Int)) r) : ∀ (d j : Nat), i - j = d → j ≤ i → Ev (fun k => spec_OneByOne.l2 k m l t fl (i : Int) (j : Int)) r := by
  have his : wrap64 ((i : Int) + 1) = ((i + 1 : Nat) : Int) := wsucc hi (by omega)
  intro d
  induction d with
  | zero =>
    intro j hd hj
    refine Ev.step (fun k => by rw [spec_OneByOne.l2]) (evNeg (by omega) (evPos (by omega) (evPos (by omega) ?_)))
    rw [his, Int.toNat_natCast]
    exact hr
  | succ d ih =>
    intro j hd hj
    have hjs : wrap64 ((j : Int) + 1) = ((j + 1 : Nat) : Int) := wsucc (show j < l.length by omega) (by omega)
    have hn := ih (j + 1) (by omega) (by omega)
    refine Ev.step (fun k => by rw [spec_OneByOne.l2]) (evPos (by omega) (evPos (by omega) (evPos (by omega) ?_)))
    rw [hjs]
    by_cases h0 : rd t (j : Int) = 0
    · refine evPos h0 (evPos (by omega) (evPos (by omega) (evPos (by omega) (evNeg (fun hf => hF j (Nat.zero_le _) (by omega) hf h0) hn))))
    · exact evNeg h0 hn
theorem sp2_no (m : List Int) (l : List W) (t : List Int) (fl : Bool) (i : Nat) (h7 : l.length ≤ 8) (hlen : t.length = l.length) (hi : i < l.length) (r : List Int)
    (hr : Ev (fun k => spec_OneByOne.l1 k m l t fl ((i + 1 : Nat) : Int)) r) : ∀ (d j : Nat), i - j = d → j ≤ i → ¬ First l t i j → Ev (fun k => spec_OneByOne.l2 k m l t fl (i : Int) (j : Int)) r := by
  have his : wrap64 ((i : Int) + 1) = ((i + 1 : Nat) : Int) := wsucc hi (by omega)
  intro d
  induction d with
  | zero =>
    intro j hd hj hF
    exact absurd (fun j' h1 h2 => by omega) hF
  | succ d ih =>
    intro j hd hj hF
    have hjs : wrap64 ((j : Int) + 1) = ((j + 1 : Nat) : Int) := wsucc (show j < l.length by omega) (by omega)
    refine Ev.step (fun k => by rw [spec_OneByOne.l2]) (evPos (by omega) (evPos (by omega) (evPos (by omega) ?_)))
    rw [hjs, his]
    by_cases hb : rd t (j : Int) = 0 ∧ (rd_T47 l (j : Int)).f0 = (rd_T47 l (i : Int)).f0
    · exact evPos hb.1 (evPos (by omega) (evPos (by omega) (evPos (by omega) (evPos hb.2 hr))))
    · have hn := ih (j + 1) (by omega) (by omega) (fun h => hF (fun j' h1 h2 hf h0 => by
        by_cases e : j' = j
        · subst e; exact hb ⟨h0, hf⟩
        · exact h j' (by omega) h2 hf h0))
      by_cases h0 : rd t (j : Int) = 0
      · exact evPos h0 (evPos (by omega) (evPos (by omega) (evPos (by omega) (evNeg (fun hf => hb ⟨h0, hf⟩) hn))))
      · exact evNeg h0 hn
theorem pass {m : List Int} {l : List W} (hw : wOk m l = true) (C : Nat)
    (H : ∀ t, J m l t → t.count 0 < C → ∃ r, Post m l r ∧ Ev (fun k => impl_oneByOne.l0 k l (aft m l t) t true) r ∧ Ev (fun k => spec_OneByOne.l0 k m l t true) r) :
    ∀ (d i : Nat) (t : List Int) (fl : Bool), l.length - i = d → i ≤ l.length → J m l t → t.count 0 ≤ C → (fl = true → t.count 0 < C) → (fl = false → ∀ i', i' < i → ¬ Feas m l t i') →
      ∃ r, Post m l r ∧ Ev (fun k => impl_oneByOne.l1 k l (aft m l t) t fl l (l.length : Int) (i : Int)) r ∧ Ev (fun k => spec_OneByOne.l1 k m l t fl (i : Int)) r := by
  obtain ⟨h1, h4, h7, hv, hbd, hpos⟩ := of_wOk hw
  intro d
  induction d with
  | zero =>
    intro i t fl hd hi hJ hc hft hff
    obtain rfl : i = l.length := by omega
    cases fl with
    | true =>
      obtain ⟨r, a, b, c⟩ := H t hJ (hft rfl)
      exact ⟨r, a, Ev.step (fun k => by rw [impl_oneByOne.l1]) (evNeg (by omega) b), Ev.step (fun k => by rw [spec_OneByOne.l1]) (evNeg (by omega) c)⟩
    | false =>
      refine ⟨t, ⟨hJ, hff rfl⟩, Ev.step (fun k => by rw [impl_oneByOne.l1]) (evNeg (by omega) ?_), Ev.step (fun k => by rw [spec_OneByOne.l1]) (evNeg (by omega) ?_)⟩
      · exact Ev.step (fun k => by rw [impl_oneByOne.l0]) (evNeg (by decide) (Ev.now _))
      · exact Ev.step (fun k => by rw [spec_OneByOne.l0]) (evNeg (by decide) (Ev.now _))
  | succ d ih =>
    intro i t fl hd hi hJ hc hft hff
    have hilt : i < l.length := by omega
    have hlen := hJ.len
    have his : wrap64 ((i : Int) + 1) = ((i + 1 : Nat) : Int) := wsucc hilt (by omega)
    have hvi := hv _ (mem_rdW l i hilt)
    have hal := aft_len l t m
    have ha := Af.spec m l t h4 hv hJ.lot hJ.len (by omega) hbd
    have hab := aft_bd m.length l t m 20 hv hJ.lot rfl hbd
    have hfirst := first l t i (by omega) hlen hilt
    have hvi' := hvi
    unfold Vw at hvi'
    by_cases hF : Feas m l t i
    · -- it is done
      have h0 : rd t (i : Int) = 0 := by
        rcases lot01 hJ.lot i (by omega) with a | a
        · exact a
        · exact absurd a hF.1
      have hcs := count_set t i (by omega) h0
      obtain ⟨r, hr, e1, e2⟩ := ih (i + 1) (t.set i 1) true (by omega) (by omega) (next_J hv hJ hilt hF) (by omega) (fun _ => by omega) (fun h => by cases h)
      rw [next_aft hv hJ hilt h0] at e1
      refine ⟨r, hr, ?_, ?_⟩
      · refine Ev.step (fun k => by rw [impl_oneByOne.l1]) (evPos (by omega) (evPos (by omega) (evPos (by omega) (evPos (by omega) (evNeg (by omega) (Ev.bind (hfirst.yes hF.2.2) (evT rfl ?_)))))))
        have hfe := hF.2.1
        unfold am fr at hfe
        generalize rd_T47 l (i : Int) = w at *
        have b0 := hab w.f0 (by omega)
        refine evPos (by omega) (evPos (by omega) (evNeg (by omega) (evBind0 rfl ?_)))
        have x0 : wrap64 (rd (aft m l t) w.f0 - w.f2) = rd (aft m l t) w.f0 - w.f2 * 1 := by rw [w64 (by omega) (by omega)]; omega
        rw [x0, show (aft m l t).set w.f0.toNat (rd (aft m l t) w.f0 - w.f2 * 1) = pay (aft m l t) w 1 from rfl]
        have b1 := hab w.f1 (by omega)
        have x1 : wrap64 (rd (pay (aft m l t) w 1) w.f1 + w.f2) = rd (pay (aft m l t) w 1) w.f1 + w.f2 * 1 := by
          rw [pay_rd _ w 1 m.length hvi (by omega) _ (by omega), if_neg (by omega), w64 (by omega) (by omega)]; omega
        rw [x1, his, Int.toNat_natCast]
        exact evPos (by omega) (evPos (by omega) e1)
      · refine Ev.step (fun k => by rw [spec_OneByOne.l1]) (evPos (by omega) (evPos (by omega) (evPos (by omega) (evNeg (by omega) (Ev.bind ha ?_)))))
        have hfe := hF.2.1
        unfold am fr at hfe
        refine evPos (by omega) (evPos (by omega) ?_)
        rw [decide_eq_false (show ¬ rd (aft m l t) (rd_T47 l (i : Int)).f0 < (rd_T47 l (i : Int)).f2 by omega)]
        refine Ev.step (fun k => by rw [spec_OneByOne.j2]) (evNeg (by decide) ?_)
        exact sp2 m l t fl i (by omega) hlen hilt r hF.2.2 e2 i 0 (by omega) (by omega)
    · -- it is passed over
      obtain ⟨r, hr, e1, e2⟩ := ih (i + 1) t fl (by omega) (by omega) hJ hc hft (fun h i' hi' => by
        by_cases e : i' = i
        · subst e; exact hF
        · exact hff h i' (by omega))
      refine ⟨r, hr, ?_, ?_⟩
      · refine Ev.step (fun k => by rw [impl_oneByOne.l1]) (evPos (by omega) (evPos (by omega) (evPos (by omega) (evPos (by omega) ?_))))
        rw [his]
        by_cases h1' : rd t (i : Int) = 1
        · exact evPos h1' e1
        · refine evNeg h1' ?_
          by_cases hFi : First l t i 0
          · refine Ev.bind (hfirst.yes hFi) (evT rfl (evPos (by omega) (evPos (by omega) (evPos ?_ e1))))
            apply Classical.byContradiction
            intro hn
            exact hF ⟨h1', by unfold am fr; omega, hFi⟩
          · exact Ev.bind (hfirst.no hFi) (evF rfl e1)
      · refine Ev.step (fun k => by rw [spec_OneByOne.l1]) (evPos (by omega) (evPos (by omega) (evPos (by omega) ?_)))
        have skip : Ev (fun k => spec_OneByOne.j2 k m l t fl (i : Int) true) r := Ev.step (fun k => by rw [spec_OneByOne.j2]) (evPos rfl (by rw [his]; exact e2))
        by_cases h1' : rd t (i : Int) = 1
        · exact evPos h1' skip
        · refine evNeg h1' (Ev.bind ha (evPos (by omega) (evPos (by omega) ?_)))
          by_cases hlt : rd (aft m l t) (rd_T47 l (i : Int)).f0 < (rd_T47 l (i : Int)).f2
          · rw [decide_eq_true hlt]; exact skip
          · rw [decide_eq_false hlt]
            refine Ev.step (fun k => by rw [spec_OneByOne.j2]) (evNeg (by decide) ?_)
            exact sp2_no m l t fl i (by omega) hlen hilt r e2 i 0 (by omega) (by omega) (fun hFi => hF ⟨h1', by unfold am fr; omega, hFi⟩)
theorem run {m : List Int} {l : List W} (hw : wOk m l = true) : ∀ (C : Nat) (t : List Int), t.count 0 = C → J m l t → ∃ r, Post m l r ∧ Ev (fun k => impl_oneByOne.l0 k l (aft m l t) t true) r ∧ Ev (fun k => spec_OneByOne.l0 k m l t true) r := by
  intro C
  induction C using Nat.strongRecOn with
  | _ C ih =>
    intro t hc hJ
    obtain ⟨r, a, b, c⟩ := pass hw C (fun u hu hcu => ih _ hcu u rfl hu) l.length 0 t false (by omega) (by omega) hJ (by omega) (fun h => by cases h) (fun _ i' h => by omega)
    refine ⟨r, a, ?_, ?_⟩
    · refine Ev.step (fun k => by rw [impl_oneByOne.l0]) (evPos rfl ?_)
      exact b
    · refine Ev.step (fun k => by rw [spec_OneByOne.l0]) (evPos rfl ?_)
      exact c
theorem aft_zero (m : List Int) (l : List W) (hv : ∀ w ∈ l, Vw m.length w) : aft m l (List.replicate l.length 0) = m := by
  refine ext_rd _ _ (aft_len _ _ _) (fun j _ => ?_)
  rw [aft_rd m.length l _ m hv rfl _ (by omega)]
  have : ∀ (l : List W) (n : Nat), effs l (List.replicate n 0) (j : Int) = 0 := by
    intro l
    induction l with
    | nil => intro n; cases n <;> simp [effs]
    | cons w l ih =>
      intro n
      cases n with
      | zero => simp [effs]
      | succ n =>
        show eff w 0 (j : Int) + effs l (List.replicate n 0) (j : Int) = 0
        rw [ih n]; simp [eff]
  rw [this]; omega
theorem rep0 (n k : Nat) : rd (List.replicate n 0) (k : Int) = 0 := by
  unfold rd
  rw [List.getD_eq_getElem?_getD, List.getElem?_replicate]
  split <;> rfl
theorem start {m : List Int} {l : List W} (hw : wOk m l = true) : J m l (List.replicate l.length 0) := by
  obtain ⟨h1, h4, h7, hv, hbd, hpos⟩ := of_wOk hw
  exact ⟨by simp, fun x hx => .inl (List.eq_of_mem_replicate hx), fun i j hj hi h _ => by rw [rep0] at h; omega, fun j hj => by rw [aft_zero m l hv]; exact hpos _ (by omega)⟩
theorem inner {m : List Int} {l : List W} (hw : wOk m l = true) : ∃ r, Post m l r ∧ Ev (fun k => impl_oneByOne.f k m l) r ∧ Ev (fun k => spec_OneByOne.l0 k m l (List.replicate l.length 0) true) r := by
  obtain ⟨h1, h4, h7, hv, hbd, hpos⟩ := of_wOk hw
  obtain ⟨r, a, b, c⟩ := run hw _ _ rfl (start hw)
  rw [aft_zero m l hv] at b
  refine ⟨r, a, ?_, c⟩
  unfold impl_oneByOne.f
  refine evBind0 rfl (evPos (by simp; omega) (evPos (by omega) (evPos (by omega) ?_)))
  simpa using b
theorem both (m : List Int) (l : List W) (hm : m.length ≤ big) (hl : l.length ≤ big) : ∃ r, (wOk m l = true → Post m l r) ∧ (wOk m l = false → r = []) ∧ Ev (fun k => impl_OneByOne.f k m l) r ∧ Ev (fun k => spec_OneByOne.f k m l) r := by
  cases hw : wOk m l with
  | true =>
    obtain ⟨h1, h4, h7, hv, hbd, hpos⟩ := of_wOk hw
    obtain ⟨r, a, b, c⟩ := inner hw
    refine ⟨r, fun _ => a, (fun h => by cases h), ?_, ?_⟩
    · unfold impl_OneByOne.f
      exact Ev.bind (Wo.areWaits m l hm hl) (evT hw (Ev.bind b (Ev.now _)))
    · unfold spec_OneByOne.f
      refine Ev.bind (Wo.spec m l hm hl) (evT hw (evPos (by omega) (evPos (by omega) ?_)))
      simpa using c
  | false =>
    refine ⟨[], (fun h => by cases h), fun _ => rfl, ?_, ?_⟩
    · unfold impl_OneByOne.f
      exact Ev.bind (Wo.areWaits m l hm hl) (evF hw (Ev.now _))
    · unfold spec_OneByOne.f
      exact Ev.bind (Wo.spec m l hm hl) (evF hw (Ev.now _))
end Go.Proofs.Ytbnkiikpolcpkaa.Ob
namespace Go.Proofs.Ytbnkiikpolcpkaa.Al
open Go.RowKit Go.Proofs.Ytbnkiikpolcpkaa.PU Go.Proofs.Ytbnkiikpolcpkaa.Qh Go.Proofs.YtbnkiikpolcpkaaW.PrintWords Go.Proofs.YtbnkiikpolcpkaaW.PrintMore
set_option linter.unusedVariables false
set_option linter.unusedSimpArgs false
theorem alive : Ev (fun k => laws_alive.f k) true := Ev.of (fun k => laws_alive.mono k) (k := 12) (by decide +kernel)
end Go.Proofs.Ytbnkiikpolcpkaa.Al
namespace Go.Proofs.Ytbnkiikpolcpkaa.Dr
open Go.RowKit Go.Proofs.Ytbnkiikpolcpkaa.PU Go.Proofs.Ytbnkiikpolcpkaa.Qh Go.Proofs.YtbnkiikpolcpkaaW.PrintWords Go.Proofs.YtbnkiikpolcpkaaW.PrintMore
set_option linter.unusedVariables false
set_option linter.unusedSimpArgs false
theorem xor_nonneg (a b : Int) (ha : 0 ≤ a) (ha2 : a < 4611686018427387904) (hb : 0 ≤ b) (hb2 : b < 4611686018427387904) : 0 ≤ Go.bits .xor .i64 a b := by
  obtain ⟨m, rfl⟩ := Int.eq_ofNat_of_zero_le ha
  obtain ⟨n, rfl⟩ := Int.eq_ofNat_of_zero_le hb
  have hm : m < 2 ^ 62 := by omega
  have hn : n < 2 ^ 62 := by omega
  have hx : m ^^^ n < 2 ^ 62 := Nat.xor_lt_two_pow hm hn
  have e1 : m % 2 ^ 64 = m := Nat.mod_eq_of_lt (by omega)
  have e2 : n % 2 ^ 64 = n := Nat.mod_eq_of_lt (by omega)
  have : Go.bits .xor .i64 (m : Int) (n : Int) = ((m ^^^ n : Nat) : Int) := by
    simp only [Go.bits, BitVec.ofInt_natCast, BitVec.toNat_xor, BitVec.toNat_ofNat]
    show IntKind.i64.wrap (((m % 2 ^ 64) ^^^ (n % 2 ^ 64) : Nat) : Int) = _
    rw [e1, e2, IntKind.wrap_i64]
    omega
  rw [this]
  omega
def Bytes (b : List Int) : Prop := b.length ≤ 2000 ∧ ∀ x ∈ b, 0 ≤ x ∧ x ≤ 255
theorem rd_byte {b : List Int} (h : Bytes b) (i : Int) : 0 ≤ rd b i ∧ rd b i ≤ 255 := by
  unfold rd
  by_cases hi : i.toNat < b.length
  · exact h.2 _ (getD_mem 0 b _ hi)
  · simp [List.getD_eq_getElem?_getD, List.getElem?_eq_none (by omega : b.length ≤ i.toNat)]
theorem pick {b : List Int} (hb : Bytes b) (p n : Int) (h0 : 0 ≤ p) (h1 : p ≤ 1000000000) :
    ∃ v, 0 ≤ v ∧ (1 ≤ n → v < n) ∧ (n < 1 → v = 0) ∧ Ev (fun k => spec_l20Rd_pick.f k b p n) (v, p + 1) := by
  have hp : wrap64 (p + 1) = p + 1 := w64 (by omega) (by omega)
  have hp1 : wrap64 (p + 1 - 1) = p := by rw [w64 (by omega) (by omega)]; omega
  unfold spec_l20Rd_pick.f
  rw [hp]
  by_cases hn : n < 1
  · refine ⟨0, by omega, by omega, fun _ => rfl, evPos hn ?_⟩
    refine Ev.step (fun k => by rw [spec_l20Rd_pick.j0]) ?_
    exact evPos rfl (Ev.now _)
  by_cases hz : b.length = 0
  · refine ⟨0, by omega, by omega, fun h => absurd h hn, evNeg hn ?_⟩
    refine Ev.step (fun k => by rw [spec_l20Rd_pick.j0]) ?_
    exact evPos (by simp [hz]) (Ev.now _)
  have hlen : 0 < (b.length : Int) := by omega
  by_cases hlt : p < (b.length : Int)
  · have hr := rd_byte hb p
    refine ⟨Int.tmod (rd b p) n, Int.tmod_nonneg _ hr.1, fun _ => Int.tmod_lt_of_pos _ (by omega), fun h => absurd h hn, evNeg hn ?_⟩
    refine Ev.step (fun k => by rw [spec_l20Rd_pick.j0]) ?_
    rw [hp1]
    refine evNeg (fun h => by have := beq_iff_eq.mp h; omega) (evPos hlt (evPos h0 (evNeg (by omega) ?_)))
    rw [w64 (by omega) (by omega)]
    exact Ev.now _
  · have hp7 : wrap64 (p * 7) = p * 7 := w64 (by omega) (by omega)
    have hp73 : wrap64 (p * 7 + 3) = p * 7 + 3 := w64 (by omega) (by omega)
    have hp29 : wrap64 (p * 29) = p * 29 := w64 (by omega) (by omega)
    have i1 := Int.tmod_nonneg (b.length : Int) h0
    have i2 := Int.tmod_lt_of_pos p hlen
    have j1 := Int.tmod_nonneg (b.length : Int) (show 0 ≤ p * 7 + 3 by omega)
    have j2 := Int.tmod_lt_of_pos (p * 7 + 3) hlen
    have d1 : 0 ≤ Int.tdiv p (b.length : Int) := Int.tdiv_nonneg h0 (by omega)
    have d2 : Int.tdiv p (b.length : Int) ≤ p := Int.tdiv_le_self _ h0
    have r1 := rd_byte hb (Int.tmod p (b.length : Int))
    have r2 := rd_byte hb (Int.tmod (p * 7 + 3) (b.length : Int))
    have key : ∃ x, 0 ≤ x ∧ x < 4611686018427387904 ∧ wrap64 ((wrap64 ((wrap64 ((wrap64 ((wrap64 (rd b (Int.tmod p (b.length : Int)))) * 131)) + (wrap64 ((wrap64 (rd b (Int.tmod (p * 7 + 3) (b.length : Int)))) * 1117)))) + (p * 29))) + (wrap64 ((wrap64 (Int.tdiv p (b.length : Int))) * 53))) = x := by
      generalize rd b (Int.tmod p (b.length : Int)) = u at *
      generalize rd b (Int.tmod (p * 7 + 3) (b.length : Int)) = v at *
      generalize Int.tdiv p (b.length : Int) = d at *
      have e1 : wrap64 u = u := w64 (by omega) (by omega)
      have e2 : wrap64 v = v := w64 (by omega) (by omega)
      have e3 : wrap64 d = d := w64 (by omega) (by omega)
      have e4 : wrap64 (u * 131) = u * 131 := w64 (by omega) (by omega)
      have e5 : wrap64 (v * 1117) = v * 1117 := w64 (by omega) (by omega)
      have e6 : wrap64 (d * 53) = d * 53 := w64 (by omega) (by omega)
      have e7 : wrap64 (u * 131 + v * 1117) = u * 131 + v * 1117 := w64 (by omega) (by omega)
      have e8 : wrap64 (u * 131 + v * 1117 + p * 29) = u * 131 + v * 1117 + p * 29 := w64 (by omega) (by omega)
      refine ⟨u * 131 + v * 1117 + p * 29 + d * 53, by omega, by omega, ?_⟩
      rw [e1, e2, e3, e4, e5, e6, e7, e8]
      exact w64 (by omega) (by omega)
    obtain ⟨x, hx0, hx1, hx⟩ := key
    have t0 : 0 ≤ Int.tdiv x 64 := Int.tdiv_nonneg hx0 (by omega)
    have t1 : Int.tdiv x 64 ≤ x := Int.tdiv_le_self _ hx0
    have ht : wrap64 (Int.tdiv x 64) = Int.tdiv x 64 := w64 (by omega) (by omega)
    have hq := xor_nonneg x (Int.tdiv x 64) hx0 hx1 t0 (by omega)
    refine ⟨Int.tmod (Go.bits .xor .i64 x (Int.tdiv x 64)) n, Int.tmod_nonneg _ hq, fun _ => Int.tmod_lt_of_pos _ (by omega), fun h => absurd h hn, evNeg hn ?_⟩
    refine Ev.step (fun k => by rw [spec_l20Rd_pick.j0]) ?_
    rw [hp1, hp7, hp73, hp29, hx, ht]
    refine evNeg (fun h => by have := beq_iff_eq.mp h; omega) (evNeg hlt (evNeg (by omega) (evPos i1 (evPos i2 (evPos j1 (evPos j2 (evNeg (by omega) (Ev.now _))))))))
theorem open_ (l : List Int) (hu : ∀ x ∈ l, (Lit.int .u8 x).wf = true) : ∃ b, Bytes b ∧ spec_l20Open.f l = some (b, 0) := by
  have hb : ∀ x ∈ l, 0 ≤ x ∧ x ≤ 255 := fun x hx => by
    have := hu x hx
    simp [Lit.wf, IntKind.min, IntKind.max, IntKind.bits, IntKind.signed] at this
    omega
  unfold spec_l20Open.f
  by_cases h : (l.length : Int) > 2000
  · exact ⟨l.take 2000, ⟨by rw [List.length_take]; omega, fun x hx => hb x (List.mem_of_mem_take hx)⟩, by rw [if_pos h, if_pos (by omega)]⟩
  · exact ⟨l, ⟨by omega, hb⟩, by rw [if_neg h]⟩
end Go.Proofs.Ytbnkiikpolcpkaa.Dr
namespace Go.Proofs.Ytbnkiikpolcpkaa.Dw
open Go.RowKit Go.Proofs.Ytbnkiikpolcpkaa.PU Go.Proofs.Ytbnkiikpolcpkaa.Qh Go.Proofs.Ytbnkiikpolcpkaa.Dr Go.Proofs.YtbnkiikpolcpkaaW.PrintWords Go.Proofs.YtbnkiikpolcpkaaW.PrintMore
set_option linter.unusedVariables false
set_option linter.unusedSimpArgs false
abbrev W := S47
theorem odd {b : List Int} (hb : Bytes b) (p n : Int) (h0 : 0 ≤ p) (h1 : p ≤ 1000000000) :
    ∃ v q, p ≤ q ∧ q ≤ p + 1 ∧ Ev (fun k => spec_l20Rd_odd.f k b p n) (v, q) := by
  unfold spec_l20Rd_odd.f
  by_cases h : n > 0
  · obtain ⟨v, _, _, _, he⟩ := pick hb p n h0 h1
    exact ⟨_, p + 1, by omega, by omega, evPos h (Ev.bind he (Ev.now _))⟩
  · exact ⟨false, p, by omega, by omega, evNeg h (Ev.now _)⟩
theorem l1 {b : List Int} (hb : Bytes b) (x1 : Int) (m : List Int) (n : Int) (hn : 2 ≤ n ∧ n ≤ 4) (hm : (m.length : Int) = n) : ∀ (c : Nat) (l : List W) (p : Int), l.length + c ≤ 7 → 0 ≤ p → p + 10 * c + 10 ≤ 1000000000 →
    ∃ m' l' q, m'.length ≤ 4 ∧ l'.length ≤ 8 ∧ p ≤ q ∧ q ≤ p + 10 * c + 10 ∧ Ev (fun k => spec_l20Waits.l1 k x1 m n l (c : Int) b p) (m', l', q) := by
  intro c
  induction c with
  | zero =>
    intro l p hl h0 h1
    obtain ⟨v, q, hq0, hq1, ho⟩ := odd hb p x1 h0 (by omega)
    cases v with
    | false =>
      refine ⟨m, l, q, by omega, by omega, hq0, by omega, ?_⟩
      refine Ev.step (fun k => by rw [spec_l20Waits.l1]) ?_
      exact evNeg (by omega) (Ev.bind ho (evF rfl (Ev.now _)))
    | true =>
      obtain ⟨u, _, _, _, hu⟩ := pick hb q 3 (by omega) (by omega)
      by_cases u0 : u = 0
      · refine ⟨[], l, q + 1, by simp, by omega, by omega, by omega, ?_⟩
        refine Ev.step (fun k => by rw [spec_l20Waits.l1]) ?_
        exact evNeg (by omega) (Ev.bind ho (evT rfl (Ev.bind hu (evPos u0 (Ev.now _)))))
      · by_cases u1 : u = 1
        · refine ⟨m, l ++ [(⟨0, 0, 0⟩ : W)], q + 1, by omega, by simp; omega, by omega, by omega, ?_⟩
          refine Ev.step (fun k => by rw [spec_l20Waits.l1]) ?_
          exact evNeg (by omega) (Ev.bind ho (evT rfl (Ev.bind hu (evNeg u0 (evPos u1 (evPos (by omega) (Ev.now _)))))))
        · refine ⟨m.set 0 (-1), l, q + 1, by simp; omega, by omega, by omega, by omega, ?_⟩
          refine Ev.step (fun k => by rw [spec_l20Waits.l1]) ?_
          exact evNeg (by omega) (Ev.bind ho (evT rfl (Ev.bind hu (evNeg u0 (evNeg u1 (evPos (by omega) (Ev.now _)))))))
  | succ c ih =>
    intro l p hl h0 h1
    obtain ⟨v1, _, _, _, h1'⟩ := pick hb p n h0 (by omega)
    obtain ⟨v2, _, _, _, h2'⟩ := pick hb (p + 1) (wrap64 (n - 1)) (by omega) (by omega)
    obtain ⟨v3, a3, b3, _, h3'⟩ := pick hb (p + 1 + 1) 3 (by omega) (by omega)
    have b3' := b3 (by omega)
    obtain ⟨v4, _, _, _, h4'⟩ := pick hb (p + 1 + 1 + 1) (rd [3, 10, 20] v3) (by omega) (by omega)
    obtain ⟨m', l', q, e1, e2, e3, e4, e5⟩ := ih (l ++ [(⟨v1, Int.tmod (wrap64 ((wrap64 (v1 + 1)) + v2)) n, wrap64 (1 + v4)⟩ : W)]) (p + 1 + 1 + 1 + 1) (by simp; omega) (by omega) (by omega)
    refine ⟨m', l', q, e1, e2, by omega, by omega, ?_⟩
    refine Ev.step (fun k => by rw [spec_l20Waits.l1]) ?_
    have hs : wrap64 (((c + 1 : Nat) : Int) - 1) = (c : Int) := by rw [w64 (by omega) (by omega)]; omega
    rw [hs]
    exact evPos (by omega) (Ev.bind h1' (Ev.bind h2' (evNeg (by omega) (evBind0 rfl (Ev.bind h3' (evPos a3 (evPos (by simpa using b3') (Ev.bind h4' (evPos (by omega) e5)))))))))
theorem l0 {b : List Int} (hb : Bytes b) (x1 n x8 : Int) (hn : 2 ≤ n ∧ n ≤ 4) : ∀ (d : Nat) (m : List Int) (p : Int), (m.length : Int) + d = n → 0 ≤ p → p + 10 * d + 100 ≤ 1000000000 →
    ∃ m' l' q, m'.length ≤ 4 ∧ l'.length ≤ 8 ∧ p ≤ q ∧ q ≤ p + 10 * d + 100 ∧ Ev (fun k => spec_l20Waits.l0 k x1 m n x8 (m.length : Int) b p) (m', l', q) := by
  intro d
  induction d with
  | zero =>
    intro m p hm h0 h1
    obtain ⟨v, a1, a2, _, hv⟩ := pick hb p 8 h0 (by omega)
    have a2' := a2 (by omega)
    obtain ⟨c, rfl⟩ := Int.eq_ofNat_of_zero_le a1
    obtain ⟨m', l', q, e1, e2, e3, e4, e5⟩ := l1 hb x1 m n hn (by omega) c [] (p + 1) (by simp; omega) (by omega) (by omega)
    refine ⟨m', l', q, e1, e2, by omega, by omega, ?_⟩
    refine Ev.step (fun k => by rw [spec_l20Waits.l0]) ?_
    exact evNeg (by omega) (Ev.bind hv e5)
  | succ d ih =>
    intro m p hm h0 h1
    obtain ⟨v, _, _, _, hv⟩ := pick hb p (wrap64 (5 + (wrap64 (x8 * 12)))) h0 (by omega)
    obtain ⟨m', l', q, e1, e2, e3, e4, e5⟩ := ih (m ++ [v]) (p + 1) (by simp; omega) (by omega) (by omega)
    refine ⟨m', l', q, e1, e2, by omega, by omega, ?_⟩
    refine Ev.step (fun k => by rw [spec_l20Waits.l0]) ?_
    have hs : wrap64 ((m.length : Int) + 1) = (((m ++ [v]).length : Nat) : Int) := by rw [w64 (by omega) (by omega)]; simp
    rw [hs]
    exact evPos (by omega) (Ev.bind hv (evPos (by omega) e5))
theorem waits {b : List Int} (hb : Bytes b) (p x1 : Int) (h0 : 0 ≤ p) (h1 : p ≤ 1000000) :
    ∃ m l q, m.length ≤ 4 ∧ l.length ≤ 8 ∧ p ≤ q ∧ q ≤ p + 1000 ∧ Ev (fun k => spec_l20Waits.f k b p x1) (m, l, q) := by
  obtain ⟨v, a1, a2, _, hv⟩ := pick hb p 3 h0 (by omega)
  have a2' := a2 (by omega)
  obtain ⟨u, _, _, _, hu⟩ := pick hb (p + 1) 2 (by omega) (by omega)
  have hw : wrap64 (2 + v) = 2 + v := w64 (by omega) (by omega)
  obtain ⟨d, hd⟩ := Int.eq_ofNat_of_zero_le (show 0 ≤ 2 + v by omega)
  obtain ⟨m, l, q, e1, e2, e3, e4, e5⟩ := l0 hb x1 (2 + v) u (by omega) d [] (p + 1 + 1) (by simp; omega) (by omega) (by omega)
  refine ⟨m, l, q, e1, e2, by omega, by omega, ?_⟩
  unfold spec_l20Waits.f
  rw [← hw] at e5
  exact Ev.bind hv (Ev.bind hu e5)
end Go.Proofs.Ytbnkiikpolcpkaa.Dw
namespace Go.Proofs.Ytbnkiikpolcpkaa.Su
open Go.RowKit Go.Proofs.Ytbnkiikpolcpkaa.PU Go.Proofs.Ytbnkiikpolcpkaa.Qh Go.Proofs.YtbnkiikpolcpkaaW.PrintWords Go.Proofs.YtbnkiikpolcpkaaW.PrintMore
set_option linter.unusedVariables false
set_option linter.unusedSimpArgs false
theorem same_l (l : List Int) (hl : l.length ≤ 4611686018427387904) : ∀ (d i : Nat), l.length - i = d → i ≤ l.length → Ev (fun k => laws_sameInts.l0 k l l (i : Int)) true := by
  intro d
  induction d with
  | zero =>
    intro i hd hi
    exact Ev.step (fun k => by rw [laws_sameInts.l0]) (evNeg (by omega) (Ev.now _))
  | succ d ih =>
    intro i hd hi
    have hlt : i < l.length := by omega
    have hs : wrap64 ((i : Int) + 1) = ((i + 1 : Nat) : Int) := wsucc hlt (by omega)
    refine Ev.step (fun k => by rw [laws_sameInts.l0]) (evPos (by omega) (evPos (by omega) (evPos (by omega) (evPos rfl ?_))))
    rw [hs]
    exact ih (i + 1) (by omega) (by omega)
theorem same (l : List Int) (hl : l.length ≤ 4611686018427387904) : Ev (fun k => laws_sameInts.f k l l) true := by
  unfold laws_sameInts.f
  exact evPos rfl (same_l l hl l.length 0 (by omega) (by omega))
def sm (xs : List Int) : Nat → Int
  | 0 => 0
  | i + 1 => sm xs i + rd xs (i : Int)
theorem sum_l (l : List Int) (h8 : l.length ≤ 100) (hb : ∀ j : Nat, -100000 ≤ rd l (j : Int) ∧ rd l (j : Int) ≤ 100000) : ∀ (d i : Nat), l.length - i = d → i ≤ l.length → (-100000 * (i : Int) ≤ sm l i ∧ sm l i ≤ 100000 * i) →
    Ev (fun k => laws_sumOf.l0 k l (sm l i) (i : Int)) (sm l l.length) := by
  intro d
  induction d with
  | zero =>
    intro i hd hi _
    obtain rfl : i = l.length := by omega
    exact Ev.step (fun k => by rw [laws_sumOf.l0]) (evNeg (by omega) (Ev.now _))
  | succ d ih =>
    intro i hd hi hsm
    have hlt : i < l.length := by omega
    have hs : wrap64 ((i : Int) + 1) = ((i + 1 : Nat) : Int) := wsucc hlt (by omega)
    have hx := hb i
    have hw : wrap64 (sm l i + rd l (i : Int)) = sm l (i + 1) := by rw [w64 (by omega) (by omega)]; rfl
    refine Ev.step (fun k => by rw [laws_sumOf.l0]) (evPos (by omega) (evPos (by omega) ?_))
    rw [hs, hw]
    exact ih (i + 1) (by omega) (by omega) (by simp only [sm]; omega)
theorem sum (l : List Int) (h8 : l.length ≤ 100) (hb : ∀ j : Nat, -100000 ≤ rd l (j : Int) ∧ rd l (j : Int) ≤ 100000) : Ev (fun k => laws_sumOf.f k l) (sm l l.length) := by
  unfold laws_sumOf.f
  exact sum_l l h8 hb l.length 0 (by omega) (by omega) (by simp [sm])
theorem sm_set (xs : List Int) (v : Int) (i : Nat) (hi : i < xs.length) : ∀ n, n ≤ xs.length → sm (xs.set i v) n = sm xs n + (if i < n then v - rd xs (i : Int) else 0)
  | 0, _ => by simp [sm]
  | n + 1, hn => by
    have := sm_set xs v i hi n (by omega)
    simp only [sm]
    rw [this]
    have hr := rd_set xs v (i : Int) (n : Int) (by omega) (by omega) (by omega)
    rw [Int.toNat_natCast] at hr
    rw [hr]
    by_cases e : i = n
    · subst e
      simp only [if_pos, Nat.lt_irrefl, if_false, Nat.lt_succ_self]; omega
    · have e' : ¬ (i : Int) = (n : Int) := by omega
      by_cases h : i < n
      · have h' : i < n + 1 := by omega
        simp only [if_neg e', if_pos h, if_pos h']; omega
      · have h' : ¬ i < n + 1 := by omega
        simp only [if_neg e', if_neg h, if_neg h']; omega
end Go.Proofs.Ytbnkiikpolcpkaa.Su
namespace Go.Proofs.Ytbnkiikpolcpkaa.Fal
open Go.RowKit Go.Proofs.Ytbnkiikpolcpkaa.PU Go.Proofs.Ytbnkiikpolcpkaa.Qh Go.Proofs.Ytbnkiikpolcpkaa.Wo Go.Proofs.Ytbnkiikpolcpkaa.Af Go.Proofs.YtbnkiikpolcpkaaW.PrintWords Go.Proofs.YtbnkiikpolcpkaaW.PrintMore
set_option linter.unusedVariables false
set_option linter.unusedSimpArgs false
theorem lot_l {b : List Int} (hb : Dr.Bytes b) (n : Nat) (hn : n ≤ 20) : ∀ (d : Nat) (x : List Int) (p : Int), x.length + d = n → 0 ≤ p → p + d ≤ 1000000 →
    ∃ y q, y.length = n ∧ Ev (fun k => spec_l20Lot.l0 k (n : Int) x (x.length : Int) b p) (y, q) := by
  intro d
  induction d with
  | zero =>
    intro x p hx h0 h1
    exact ⟨x, p, by omega, Ev.step (fun k => by rw [spec_l20Lot.l0]) (evNeg (by omega) (Ev.now _))⟩
  | succ d ih =>
    intro x p hx h0 h1
    obtain ⟨v, a1, a2, _, hv⟩ := Dr.pick hb p 3 h0 (by omega)
    have a2' := a2 (by omega)
    obtain ⟨y, q, hy, he⟩ := ih (x ++ [rd [1, 1, 0] v]) (p + 1) (by simp; omega) (by omega) (by omega)
    refine ⟨y, q, hy, ?_⟩
    refine Ev.step (fun k => by rw [spec_l20Lot.l0]) ?_
    refine evPos (by omega) (evBind0 rfl (Ev.bind hv ?_))
    refine evPos a1 (evPos (by simpa using a2') (evPos (by omega) ?_))
    have hs : wrap64 ((x.length : Int) + 1) = (((x ++ [rd [1, 1, 0] v]).length : Nat) : Int) := by rw [w64 (by omega) (by omega)]; simp
    rw [hs]
    exact he
theorem lot {b : List Int} (hb : Dr.Bytes b) (n : Nat) (hn : n ≤ 20) (p : Int) (h0 : 0 ≤ p) (h1 : p + 20 ≤ 1000000) : ∃ y q, y.length = n ∧ Ev (fun k => spec_l20Lot.f k b p (n : Int)) (y, q) := by
  unfold spec_l20Lot.f
  exact lot_l hb n hn n [] p (by simp) h0 (by omega)
theorem more (n : Nat) (hn : n ≤ 8) (v : Int) (h0 : 0 ≤ v) (h1 : v < 20) : ∃ c : Nat, c ≤ 9 ∧ wrap64 ((n : Int) + wrap64 (Int.tdiv v 19)) = (c : Int) := by
  have e : Int.tdiv v 19 = v / 19 := Int.tdiv_eq_ediv_of_nonneg h0
  have : v / 19 = 0 ∨ v / 19 = 1 := by omega
  rw [e]
  rcases this with h | h
  · exact ⟨n, by omega, by rw [h, show wrap64 (0 : Int) = 0 from w64 (by omega) (by omega), w64 (by omega) (by omega)]; omega⟩
  · exact ⟨n + 1, by omega, by rw [h, show wrap64 (1 : Int) = 1 from w64 (by omega) (by omega), w64 (by omega) (by omega)]; omega⟩
theorem draw (l0 : List Int) (hu : ∀ x ∈ l0, (Lit.int .u8 x).wf = true) : ∃ (m : List Int) (l : List W) (t : List Int), m.length ≤ 8 ∧ l.length ≤ 8 ∧ t.length ≤ 9 ∧ Ev (fun k => spec_DrawAfterLot.f k l0) (m, l, t) := by
  obtain ⟨b, hb, ho⟩ := Dr.open_ l0 hu
  obtain ⟨m, l, q, hm, hl, hq0, hq1, hw⟩ := Dw.waits hb 0 14 (by omega) (by omega)
  obtain ⟨v, a1, a2, _, h1⟩ := Dr.pick hb q 20 (by omega) (by omega)
  obtain ⟨c, hc, hce⟩ := more l.length hl v a1 (a2 (by omega))
  obtain ⟨t, z, ht, he⟩ := lot hb c (by omega) (q + 1) (by omega) (by omega)
  refine ⟨m, l, t, by omega, hl, by omega, ?_⟩
  unfold spec_DrawAfterLot.f
  refine evBind0 ho (Ev.bind hw (Ev.bind h1 ?_))
  dsimp only
  rw [hce]
  exact Ev.bind he (Ev.now _)
theorem sm_step (o : List Int) (w : W) (x : Int) (n : Nat) (hw : Vw n w) (ho : o.length = n) : Su.sm (stepA o w x) n = Su.sm o n := by
  have hw' := hw
  unfold Vw at hw'
  have hp := pay_len o w x
  unfold stepA
  rw [Su.sm_set _ _ _ (by omega) n (by omega), if_pos (by omega)]
  have : (w.f1.toNat : Int) = w.f1 := by omega
  rw [this]
  unfold pay at *
  rw [Su.sm_set _ _ _ (by omega) n (by omega), if_pos (by omega)]
  have : (w.f0.toNat : Int) = w.f0 := by omega
  rw [this]
  omega
theorem sm_aft (n : Nat) : ∀ (l : List W) (t o : List Int), (∀ w ∈ l, Vw n w) → o.length = n → Su.sm (aft o l t) n = Su.sm o n
  | [], t, o, _, _ => by unfold aft; rfl
  | _ :: _, [], o, _, _ => rfl
  | w :: l, x :: t, o, hv, ho => by
    show Su.sm (aft (stepA o w x) l t) n = _
    rw [sm_aft n l t _ (fun v h => hv v (List.mem_cons_of_mem _ h)) (by rw [step_len, ho]), sm_step o w x n (hv w List.mem_cons_self) ho]
theorem holds : laws_FnAfterLot.Pure := by
  intro l0 _ _ hu
  refine Ev.rounds (g := fun k => laws_FnAfterLot.f k l0) ?_
  unfold laws_FnAfterLot.f
  by_cases a : (l0.length : Int) > 1048576
  · exact evPos a (Ev.now _)
  refine evNeg a ?_
  obtain ⟨m, l, t, hm, hl, ht, hd⟩ := draw l0 hu
  obtain ⟨r, hr1, hr2, hi, hs⟩ := Al2.both m l t (by unfold big; omega) (by unfold big; omega) (by unfold big; omega)
  by_cases hok : wOk m l = true ∧ t.length = l.length ∧ Lot t
  · have hr := hr1 hok
    obtain ⟨h1, h4, h7, hv, hbd, hpos⟩ := of_wOk hok.1
    have hal := aft_len l t m
    have hab := Ob.aft_bd m.length l t m 20 hv hok.2.2 rfl hbd
    subst hr
    have s1 := Su.sum (aft m l t) (by omega) (fun j => by have := hab (j : Int) (by omega); omega)
    have s2 := Su.sum m (by omega) (fun j => by have := hbd (j : Int) (by omega); omega)
    rw [hal, sm_aft m.length l t m hv rfl] at s1
    refine Ev.bind hd (Ev.bind hi (Ev.bind hs (Ev.bind (Su.same _ (by omega)) (evT rfl (evNeg (by omega) (Ev.bind s1 (Ev.bind s2 (evPos rfl (evNow ?_)))))))))
    rw [hal]; simp
  · have hr := hr2 hok
    subst hr
    exact Ev.bind hd (Ev.bind hi (Ev.bind hs (Ev.bind (Su.same _ (by simp)) (evT rfl (evPos (by simp) (Ev.bind Al.alive (Ev.now _)))))))
end Go.Proofs.Ytbnkiikpolcpkaa.Fal
namespace Go.Proofs.Ytbnkiikpolcpkaa.Gr
open Go.RowKit Go.Proofs.Ytbnkiikpolcpkaa.PU Go.Proofs.Ytbnkiikpolcpkaa.Qh Go.Proofs.Ytbnkiikpolcpkaa.Wo Go.Proofs.Ytbnkiikpolcpkaa.Af Go.Proofs.Ytbnkiikpolcpkaa.Lt Go.Proofs.YtbnkiikpolcpkaaW.PrintWords Go.Proofs.YtbnkiikpolcpkaaW.PrintMore
set_option linter.unusedVariables false
set_option linter.unusedSimpArgs false
theorem least {P : Nat → Prop} : ∀ n, (∃ b, b < n ∧ P b) → ∃ b, b < n ∧ P b ∧ ∀ c, c < b → ¬ P c
  | 0, ⟨b, h, _⟩ => by omega
  | n + 1, ⟨b, h, hp⟩ => by
    by_cases e : ∃ b, b < n ∧ P b
    · obtain ⟨c, h1, h2, h3⟩ := least n e
      exact ⟨c, by omega, h2, h3⟩
    · have hb : b = n := by
        apply Classical.byContradiction
        intro hne
        exact e ⟨b, by omega, hp⟩
      subst hb
      exact ⟨b, h, hp, fun c hc hpc => e ⟨c, hc, hpc⟩⟩
theorem most {P : Nat → Prop} : ∀ n, (∃ b, b < n ∧ P b) → ∃ b, b < n ∧ P b ∧ ∀ c, b < c → c < n → ¬ P c
  | 0, ⟨b, h, _⟩ => by omega
  | n + 1, ⟨b, h, hp⟩ => by
    by_cases e : P n
    · exact ⟨n, by omega, e, fun c h1 h2 => by omega⟩
    · have hb : b ≠ n := fun he => e (he ▸ hp)
      obtain ⟨c, h1, h2, h3⟩ := most n ⟨b, by omega, hp⟩
      refine ⟨c, by omega, h2, fun x hx hx2 hpx => ?_⟩
      by_cases hxn : x = n
      · subst hxn; exact e hpx
      · exact h3 x hx (by omega) hpx
theorem effs_le (b : Int) : ∀ (l : List W) (o t : List Int), o.length = l.length → t.length = l.length →
    (∀ k, k < l.length → eff (rd_T47 l (k : Int)) (rd o (k : Int)) b ≤ eff (rd_T47 l (k : Int)) (rd t (k : Int)) b) → effs l o b ≤ effs l t b
  | [], o, t, _, _, _ => by simp [effs]
  | w :: l, [], t, h, _, _ => by simp at h
  | w :: l, x :: o, [], _, h, _ => by simp at h
  | w :: l, x :: o, y :: t, h1, h2, h => by
    have h0 := h 0 (by simp)
    have hr := effs_le b l o t (by simpa using h1) (by simpa using h2) (fun k hk => by
      have := h (k + 1) (by simp; omega)
      simpa [rd, rd_T47] using this)
    have h0' : eff w x b ≤ eff w y b := by simpa [rd, rd_T47] using h0
    show eff w x b + effs l o b ≤ eff w y b + effs l t b
    omega
theorem effs_zero (b : Int) : ∀ (l : List W) (n : Nat), effs l (List.replicate n 0) b = 0
  | [], n => by cases n <;> simp [effs]
  | w :: l, 0 => by simp [effs]
  | w :: l, n + 1 => by
    show eff w 0 b + effs l (List.replicate n 0) b = 0
    rw [effs_zero b l n]; simp [eff]
theorem rd_rep (n : Nat) (k : Nat) : rd (List.replicate n 0) (k : Int) = 0 := by
  unfold rd
  rw [List.getD_eq_getElem?_getD, List.getElem?_replicate]
  split <;> rfl
def ShortOf (m : List Int) (l : List W) (t : List Int) (b : Nat) : Prop := b < m.length ∧ rd (aft m l t) (b : Int) < 0
def LastOf (l : List W) (t : List Int) (b : Int) (i : Nat) : Prop := i < l.length ∧ (fr l i = b ∧ rd t (i : Int) = 1) ∧ ∀ j, i < j → j < l.length → ¬ (fr l j = b ∧ rd t (j : Int) = 1)
def Top (m : List Int) (l : List W) (t : List Int) : Prop := ∀ o, LOk m l o → ∀ i : Nat, i < l.length → rd o (i : Int) ≤ rd t (i : Int)
structure Inv (m : List Int) (l : List W) (t : List Int) : Prop where
  len : t.length = l.length
  lot : Lot t
  pc : PC l t
  top : Top m l t
def IsG (m : List Int) (l : List W) (t : List Int) : Prop := LOk m l t ∧ Top m l t
theorem IsG.uniq {m : List Int} {l : List W} {t u : List Int} (h : IsG m l t) (k : IsG m l u) : t = u := by
  refine ext_rd t u (by rw [h.1.2.1.1, k.1.2.1.1]) (fun i hi => ?_)
  have hi' : i < l.length := by rw [← h.1.2.1.1]; exact hi
  have := h.2 u k.1 i hi'
  have := k.2 t h.1 i hi'
  omega
theorem has_last {m : List Int} {l : List W} {t : List Int} (hw : wOk m l = true) (hlen : t.length = l.length) (ht : Lot t) {b : Nat} (h : ShortOf m l t b) : ∃ i, LastOf l t (b : Int) i := by
  obtain ⟨h1, h4, h7, hv, hbd, hpos⟩ := of_wOk hw
  apply Classical.byContradiction
  intro hn
  have none : ∀ k, k < l.length → ¬ (fr l k = (b : Int) ∧ rd t (k : Int) = 1) := fun k hk hp => by
    obtain ⟨i, a, c, d⟩ := most (P := fun k => fr l k = (b : Int) ∧ rd t (k : Int) = 1) l.length ⟨k, hk, hp⟩
    exact hn ⟨i, a, c, d⟩
  have hge := effs_le (b : Int) l (List.replicate l.length 0) t (by simp) hlen (fun k hk => by
    rw [rd_rep]
    have hvk := hv _ (mem_rdW l k hk)
    have hk2 := none k hk
    have hlt := lot01 ht k (by omega)
    unfold fr at hk2
    generalize rd_T47 l (k : Int) = w at *
    generalize rd t (k : Int) = x at *
    unfold Vw at hvk
    unfold eff
    rcases hlt with rfl | rfl
    · omega
    · rw [if_neg (fun e : w.f0 = (b : Int) => hk2 ⟨e, rfl⟩)]
      by_cases e : w.f1 = (b : Int)
      · rw [if_pos e, if_pos e, if_neg (by omega)]; omega
      · rw [if_neg e, if_neg e]; split <;> omega)
  rw [effs_zero] at hge
  have h2 := h.2
  rw [aft_rd m.length l t m hv rfl _ (by omega)] at h2
  have := hpos (b : Int) (by omega)
  omega
theorem inv_step {m : List Int} {l : List W} {t : List Int} (hw : wOk m l = true) (h : Inv m l t) {b i : Nat} (hs : ShortOf m l t b) (hl : LastOf l t (b : Int) i) : Inv m l (t.set i 0) := by
  obtain ⟨h1, h4, h7, hv, hbd, hpos⟩ := of_wOk hw
  obtain ⟨hi, ⟨hf, h1i⟩, hlast⟩ := hl
  have hil : i < t.length := by rw [h.len]; exact hi
  have hset : ∀ j : Nat, rd (t.set i 0) (j : Int) = if i = j then 0 else rd t (j : Int) := fun j => by
    have := rd_set t 0 (i : Int) (j : Int) (by omega) (by omega) (by omega)
    rw [Int.toNat_natCast] at this
    rw [this]
    by_cases e : i = j
    · rw [if_pos (by omega), if_pos e]
    · rw [if_neg (by omega), if_neg e]
  refine ⟨by simp [h.len], ?_, ?_, ?_⟩
  · intro x hx
    rcases List.mem_or_eq_of_mem_set hx with hx | rfl
    · exact h.lot x hx
    · exact .inl rfl
  · intro i' j hj hi' h1' hf'
    rw [hset] at h1'
    by_cases e : i = i'
    · rw [if_pos e] at h1'; omega
    · rw [if_neg e] at h1'
      have := h.pc i' j hj hi' h1' hf'
      rw [hset]
      by_cases e2 : i = j
      · subst e2
        exact absurd ⟨by rw [← hf', hf], h1'⟩ (hlast i' hj hi')
      · rw [if_neg e2]; exact this
  · intro o ho i' hi'
    rw [hset]
    by_cases e : i = i'
    · subst e
      rw [if_pos rfl]
      rcases lot01 ho.2.1.2 i (by rw [ho.2.1.1]; exact hi) with h0 | h0
      · omega
      · exfalso
        have hle := effs_le (b : Int) l o t ho.2.1.1 h.len (fun k hk => by
          have hvk := hv _ (mem_rdW l k hk)
          have ho01 := lot01 ho.2.1.2 k (by rw [ho.2.1.1]; exact hk)
          have ht01 := lot01 h.lot k (by rw [h.len]; exact hk)
          have htop := h.top o ho k hk
          have hfrom : fr l k = (b : Int) → rd t (k : Int) = 1 → rd o (k : Int) = 1 := fun e1 e2 => by
            by_cases ek : k = i
            · subst ek; exact h0
            · have hki : k < i := by
                apply Classical.byContradiction
                intro hn
                exact hlast k (by omega) hk ⟨e1, e2⟩
              exact ho.2.2.2 i k hki hi h0 (by rw [e1, hf])
          unfold fr at hfrom
          generalize rd_T47 l (k : Int) = w at *
          generalize rd t (k : Int) = x at *
          generalize rd o (k : Int) = y at *
          unfold Vw at hvk
          unfold eff
          by_cases e0 : w.f0 = (b : Int)
          · have := hfrom e0
            simp only [if_neg (show ¬ w.f1 = (b : Int) by omega), if_pos e0]
            rcases ho01 with rfl | rfl <;> rcases ht01 with rfl | rfl <;> omega
          · rw [if_neg e0, if_neg e0]
            split
            · rcases ho01 with rfl | rfl <;> rcases ht01 with rfl | rfl <;> omega
            · omega)
        have h2 := hs.2
        rw [aft_rd m.length l t m hv rfl _ (by omega)] at h2
        have h3 := ho.2.2.1 b hs.1
        rw [aft_rd m.length l o m hv rfl _ (by omega)] at h3
        omega
    · rw [if_neg e]; exact h.top o ho i' hi'
theorem inv_end {m : List Int} {l : List W} {t : List Int} (hw : wOk m l = true) (h : Inv m l t) (hn : ∀ b, ¬ ShortOf m l t b) : IsG m l t :=
  ⟨⟨hw, ⟨h.len, h.lot⟩, fun j hj => by
    apply Classical.byContradiction
    intro hc
    exact hn j ⟨hj, by omega⟩, h.pc⟩, h.top⟩
theorem count_set : ∀ (t : List Int) (i : Nat), i < t.length → rd t (i : Int) = 1 → (t.set i 0).count 1 + 1 = t.count 1
  | [], i, h, _ => by simp at h
  | x :: t, 0, _, h => by
    have : x = 1 := by simpa [rd] using h
    subst this
    simp
  | x :: t, i + 1, h, h1 => by
    have := count_set t i (by simpa using h) (by simpa [rd] using h1)
    rw [List.set_cons_succ, List.count_cons, List.count_cons]
    omega
theorem inv_all (m : List Int) (l : List W) : Inv m l (List.replicate l.length 1) := by
  have h1 : ∀ k : Nat, k < l.length → rd (List.replicate l.length 1) (k : Int) = 1 := fun k hk => by
    unfold rd
    rw [List.getD_eq_getElem?_getD, List.getElem?_replicate]
    simp [hk]
  refine ⟨by simp, fun x hx => .inr (List.eq_of_mem_replicate hx), fun i j hj hi _ _ => h1 j (by omega), fun o ho i hi => ?_⟩
  rw [h1 i hi]
  rcases lot01 ho.2.1.2 i (by rw [ho.2.1.1]; exact hi) with h0 | h0 <;> omega
theorem s2_no (m : List Int) (l : List W) (t o : List Int) (ho : o.length ≤ 8) (hn : ∀ b : Nat, b < o.length → ¬ rd o (b : Int) < 0) : ∀ (d j : Nat), o.length - j = d → j ≤ o.length →
    Ev (fun k => spec_GreatestLot.l2 k m l t o (-1) (j : Int)) t := by
  intro d
  induction d with
  | zero =>
    intro j hd hj
    refine Ev.step (fun k => by rw [spec_GreatestLot.l2]) (evNeg (by omega) ?_)
    exact Ev.step (fun k => by rw [spec_GreatestLot.j3]) (evNeg (by decide) (evPos (by decide) (Ev.now _)))
  | succ d ih =>
    intro j hd hj
    have hjs : wrap64 ((j : Int) + 1) = ((j + 1 : Nat) : Int) := wsucc (show j < o.length by omega) (by omega)
    refine Ev.step (fun k => by rw [spec_GreatestLot.l2]) (evPos (by omega) ?_)
    refine Ev.step (fun k => by rw [spec_GreatestLot.j3]) (evPos (by decide) (evPos (by omega) (evPos (by omega) (evNeg (hn j (by omega)) ?_))))
    rw [hjs]
    exact ih (j + 1) (by omega) (by omega)
theorem s2_yes (m : List Int) (l : List W) (t o : List Int) (ho : o.length ≤ 8) (b : Nat) (hb : b < o.length) (hs : rd o (b : Int) < 0) (hf : ∀ c : Nat, c < b → ¬ rd o (c : Int) < 0) (r : List Int)
    (hr : Ev (fun k => spec_GreatestLot.l3 k m l t (b : Int) (-1) 0) r) : ∀ (d j : Nat), b - j = d → j ≤ b → Ev (fun k => spec_GreatestLot.l2 k m l t o (-1) (j : Int)) r := by
  intro d
  induction d with
  | zero =>
    intro j hd hj
    obtain rfl : j = b := by omega
    have hjs : wrap64 ((j : Int) + 1) = ((j + 1 : Nat) : Int) := wsucc hb (by omega)
    refine Ev.step (fun k => by rw [spec_GreatestLot.l2]) (evPos (by omega) ?_)
    refine Ev.step (fun k => by rw [spec_GreatestLot.j3]) (evPos (by decide) (evPos (by omega) (evPos (by omega) (evPos hs ?_))))
    rw [hjs]
    have e : decide ((j : Int) < 0) = false := decide_eq_false (by omega)
    have fin : Ev (fun k => spec_GreatestLot.j3 k m l t o (j : Int) ((j + 1 : Nat) : Int) false) r :=
      Ev.step (fun k => by rw [spec_GreatestLot.j3]) (evNeg (by decide) (evNeg (by omega) hr))
    refine Ev.step (fun k => by rw [spec_GreatestLot.l2]) ?_
    by_cases h : ((j + 1 : Nat) : Int) < (o.length : Int)
    · refine evPos h ?_
      rw [e]
      exact fin
    · exact evNeg h fin
  | succ d ih =>
    intro j hd hj
    have hjs : wrap64 ((j : Int) + 1) = ((j + 1 : Nat) : Int) := wsucc (show j < o.length by omega) (by omega)
    refine Ev.step (fun k => by rw [spec_GreatestLot.l2]) (evPos (by omega) ?_)
    refine Ev.step (fun k => by rw [spec_GreatestLot.j3]) (evPos (by decide) (evPos (by omega) (evPos (by omega) (evNeg (hf j (by omega)) ?_))))
    rw [hjs]
    exact ih (j + 1) (by omega) (by omega)
theorem s3 (m : List Int) (l : List W) (t : List Int) (h7 : l.length ≤ 8) (hlen : t.length = l.length) (b : Int) (i : Nat) (hl : LastOf l t b i) (r : List Int)
    (hr : Ev (fun k => spec_GreatestLot.l1 k m l (t.set i 0)) r) : ∀ (d j : Nat) (x : Int), l.length - j = d → j ≤ l.length → (i < j → x = (i : Int)) → Ev (fun k => spec_GreatestLot.l3 k m l t b x (j : Int)) r := by
  obtain ⟨hi, ⟨hf, h1⟩, hlast⟩ := hl
  intro d
  induction d with
  | zero =>
    intro j x hd hj hx
    obtain rfl := hx (by omega)
    refine Ev.step (fun k => by rw [spec_GreatestLot.l3]) (evNeg (by omega) (evPos (by omega) (evPos (by omega) ?_)))
    rw [Int.toNat_natCast]
    exact hr
  | succ d ih =>
    intro j x hd hj hx
    have hjs : wrap64 ((j : Int) + 1) = ((j + 1 : Nat) : Int) := wsucc (show j < l.length by omega) (by omega)
    refine Ev.step (fun k => by rw [spec_GreatestLot.l3]) (evPos (by omega) (evPos (by omega) (evPos (by omega) ?_)))
    rw [hjs]
    have skip : (i ≠ j) → Ev (fun k => spec_GreatestLot.l3 k m l t b x ((j + 1 : Nat) : Int)) r := fun hne => ih (j + 1) x (by omega) (by omega) (fun h => hx (by omega))
    by_cases hj1 : rd t (j : Int) = 1
    · refine evPos hj1 ?_
      by_cases hjf : (rd_T47 l (j : Int)).f0 = b
      · refine evPos hjf (ih (j + 1) (j : Int) (by omega) (by omega) (fun h => ?_))
        have : ¬ i < j := fun hij => hlast j hij (by omega) ⟨hjf, hj1⟩
        omega
      · exact evNeg hjf (skip (fun e => hjf (by subst e; exact hf)))
    · exact evNeg hj1 (skip (fun e => hj1 (by subst e; exact h1)))
theorem s1 {m : List Int} {l : List W} (hw : wOk m l = true) : ∀ (c : Nat) (t : List Int), t.count 1 = c → Inv m l t → ∃ r, IsG m l r ∧ Ev (fun k => spec_GreatestLot.l1 k m l t) r := by
  obtain ⟨h1, h4, h7, hv, hbd, hpos⟩ := of_wOk hw
  intro c
  induction c using Nat.strongRecOn with
  | _ c ih =>
    intro t hc hI
    have ha := Af.spec m l t h4 hv hI.lot hI.len (by omega) hbd
    have hal := aft_len l t m
    by_cases hs : ∃ b, ShortOf m l t b
    · obtain ⟨b0, hb0⟩ := hs
      obtain ⟨b, hb, hp, hmin⟩ := least (P := fun b => rd (aft m l t) (b : Int) < 0) m.length ⟨b0, hb0.1, hb0.2⟩
      obtain ⟨i, hi⟩ := has_last hw hI.len hI.lot (b := b) ⟨hb, hp⟩
      have hcs := count_set t i (by rw [hI.len]; exact hi.1) hi.2.1.2
      obtain ⟨r, hr, he⟩ := ih _ (by omega) (t.set i 0) rfl (inv_step hw hI ⟨hb, hp⟩ hi)
      refine ⟨r, hr, Ev.step (fun k => by rw [spec_GreatestLot.l1]) (Ev.bind ha ?_)⟩
      refine s2_yes m l t _ (by omega) b (by omega) hp hmin r ?_ b 0 (by omega) (by omega)
      exact s3 m l t (by omega) hI.len (b : Int) i hi r he l.length 0 (-1) (by omega) (by omega) (fun h => by omega)
    · refine ⟨t, inv_end hw hI (fun b hb => hs ⟨b, hb⟩), Ev.step (fun k => by rw [spec_GreatestLot.l1]) (Ev.bind ha ?_)⟩
      exact s2_no m l t _ (by omega) (fun b hb hn => hs ⟨b, by omega, hn⟩) _ 0 rfl (by omega)
theorem s0 {m : List Int} {l : List W} (h7 : l.length ≤ 8) (r : List Int) (hr : Ev (fun k => spec_GreatestLot.l1 k m l (List.replicate l.length 1)) r) : ∀ (d i : Nat), l.length - i = d → i ≤ l.length →
    Ev (fun k => spec_GreatestLot.l0 k m l (List.replicate i 1) (i : Int)) r := by
  intro d
  induction d with
  | zero =>
    intro i hd hi
    obtain rfl : i = l.length := by omega
    exact Ev.step (fun k => by rw [spec_GreatestLot.l0]) (evNeg (by omega) hr)
  | succ d ih =>
    intro i hd hi
    have hs : wrap64 ((i : Int) + 1) = ((i + 1 : Nat) : Int) := wsucc (show i < l.length by omega) (by omega)
    refine Ev.step (fun k => by rw [spec_GreatestLot.l0]) (evPos (by omega) (evPos (by simp; omega) ?_))
    rw [hs, ← List.replicate_succ']
    exact ih (i + 1) (by omega) (by omega)
theorem spec_yes {m : List Int} {l : List W} (hw : wOk m l = true) : ∃ r, IsG m l r ∧ Ev (fun k => spec_GreatestLot.f k m l) r := by
  obtain ⟨h1, h4, h7, _⟩ := of_wOk hw
  obtain ⟨r, hr, he⟩ := s1 hw _ _ rfl (inv_all m l)
  refine ⟨r, hr, ?_⟩
  unfold spec_GreatestLot.f
  refine evBind0 rfl (Ev.bind (Wo.spec m l (by unfold big; omega) (by unfold big; omega)) (evT hw ?_))
  exact s0 (by omega) r he l.length 0 (by omega) (by omega)
theorem spec_no {m : List Int} {l : List W} (hm : m.length ≤ big) (hl : l.length ≤ big) (hw : wOk m l = false) : Ev (fun k => spec_GreatestLot.f k m l) [] := by
  unfold spec_GreatestLot.f
  exact evBind0 rfl (Ev.bind (Wo.spec m l hm hl) (evF hw (Ev.now _)))
theorem idx_no (p : Int → Bool) : ∀ (o : List Int) (i : Nat), (∀ x ∈ o, p x = false) → IndexFunc_greatestLot1.idx p o i = -1
  | [], i, _ => rfl
  | x :: o, i, h => by
    unfold IndexFunc_greatestLot1.idx
    rw [if_neg (by rw [h x List.mem_cons_self]; decide), idx_no p o (i + 1) (fun y hy => h y (List.mem_cons_of_mem _ hy))]
theorem idx_yes (p : Int → Bool) : ∀ (o : List Int) (i b : Nat), b < o.length → p (rd o (b : Int)) = true → (∀ c : Nat, c < b → p (rd o (c : Int)) = false) → IndexFunc_greatestLot1.idx p o i = ((i + b : Nat) : Int)
  | [], i, b, h, _, _ => by simp at h
  | x :: o, i, 0, _, hp, _ => by
    unfold IndexFunc_greatestLot1.idx
    rw [if_pos (by simpa [rd] using hp)]; rfl
  | x :: o, i, b + 1, h, hp, hf => by
    unfold IndexFunc_greatestLot1.idx
    have h0 : p x = false := by have := hf 0 (by omega); simpa [rd] using this
    rw [if_neg (by rw [h0]; decide), idx_yes p o (i + 1) b (by simpa using h) (by simpa [rd] using hp) (fun c hc => by have := hf (c + 1) (by omega); simpa [rd] using this)]
    congr 1; omega
theorem p2 (m : List Int) (l : List W) (t : List Int) (h7 : l.length ≤ 8) (hlen : t.length = l.length) (b : Int) (i : Nat) (hl : LastOf l t b i) (r : List Int)
    (hr : Ev (fun k => impl_greatestLot.l1 k m l (t.set i 0)) r) : ∀ (d j : Nat), j - i = d → i ≤ j → j < l.length → Ev (fun k => impl_greatestLot.l2 k m l t b (j : Int)) r := by
  obtain ⟨hi, ⟨hf, h1⟩, hlast⟩ := hl
  intro d
  induction d with
  | zero =>
    intro j hd hj hjl
    obtain rfl : j = i := by omega
    refine Ev.step (fun k => by rw [impl_greatestLot.l2]) (evPos (by omega) (evPos (by omega) (evPos (by omega) (evPos hf (evPos (by omega) (evPos h1 ?_))))))
    rw [Int.toNat_natCast]
    exact hr
  | succ d ih =>
    intro j hd hj hjl
    have hjs : wrap64 ((j : Int) - 1) = ((j - 1 : Nat) : Int) := by rw [w64 (by omega) (by omega)]; omega
    have hn := ih (j - 1) (by omega) (by omega) (by omega)
    refine Ev.step (fun k => by rw [impl_greatestLot.l2]) (evPos (by omega) (evPos (by omega) (evPos (by omega) ?_)))
    rw [hjs]
    by_cases hjf : (rd_T47 l (j : Int)).f0 = b
    · refine evPos hjf (evPos (by omega) (evNeg (fun e => hlast j (by omega) hjl ⟨hjf, e⟩) hn))
    · exact evNeg hjf hn
theorem p1 {m : List Int} {l : List W} (hw : wOk m l = true) : ∀ (c : Nat) (t : List Int), t.count 1 = c → Inv m l t → ∃ r, IsG m l r ∧ Ev (fun k => impl_greatestLot.l1 k m l t) r := by
  obtain ⟨h1, h4, h7, hv, hbd, hpos⟩ := of_wOk hw
  intro c
  induction c using Nat.strongRecOn with
  | _ c ih =>
    intro t hc hI
    have ha := Af.impl m l t h4 hv hI.lot hI.len (by omega) hbd
    have hal := aft_len l t m
    by_cases hs : ∃ b, ShortOf m l t b
    · obtain ⟨b0, hb0⟩ := hs
      obtain ⟨b, hb, hp, hmin⟩ := least (P := fun b => rd (aft m l t) (b : Int) < 0) m.length ⟨b0, hb0.1, hb0.2⟩
      obtain ⟨i, hi⟩ := has_last hw hI.len hI.lot (b := b) ⟨hb, hp⟩
      have hil := hi.1
      have hcs := count_set t i (by rw [hI.len]; exact hi.1) hi.2.1.2
      obtain ⟨r, hr, he⟩ := ih _ (by omega) (t.set i 0) rfl (inv_step hw hI ⟨hb, hp⟩ hi)
      refine ⟨r, hr, Ev.step (fun k => by rw [impl_greatestLot.l1]) (Ev.bind ha ?_)⟩
      have hidx := idx_yes (fun x => decide (x < 0)) (aft m l t) 0 b (by omega) (decide_eq_true hp) (fun c hc => decide_eq_false (hmin c hc))
      refine evBind0 (a := (b : Int)) (by unfold IndexFunc_greatestLot1.f; rw [hidx, Nat.zero_add]) (evNeg (by omega) ?_)
      have hlw : wrap64 ((l.length : Int) - 1) = ((l.length - 1 : Nat) : Int) := by rw [w64 (by omega) (by omega)]; omega
      rw [hlw]
      exact p2 m l t (by omega) hI.len (b : Int) i hi r he _ (l.length - 1) rfl (by omega) (by omega)
    · refine ⟨t, inv_end hw hI (fun b hb => hs ⟨b, hb⟩), Ev.step (fun k => by rw [impl_greatestLot.l1]) (Ev.bind ha ?_)⟩
      have hidx := idx_no (fun x => decide (x < 0)) (aft m l t) 0 (fun x hx => by
        obtain ⟨j, hj, rfl⟩ := List.getElem_of_mem hx
        refine decide_eq_false (fun hn => hs ⟨j, by omega, ?_⟩)
        rw [rd_get _ j hj]; exact hn)
      exact evBind0 (a := (-1 : Int)) (by unfold IndexFunc_greatestLot1.f; rw [hidx]) (evPos (by decide) (Ev.now _))
theorem p0 {m : List Int} {l : List W} (h7 : l.length ≤ 8) (r : List Int) (hr : Ev (fun k => impl_greatestLot.l1 k m l (List.replicate l.length 1)) r) : ∀ (d i : Nat), l.length - i = d → i ≤ l.length →
    Ev (fun k => impl_greatestLot.l0 k m l (List.replicate i 1) (l.length : Int) (i : Int)) r := by
  intro d
  induction d with
  | zero =>
    intro i hd hi
    obtain rfl : i = l.length := by omega
    exact Ev.step (fun k => by rw [impl_greatestLot.l0]) (evNeg (by omega) hr)
  | succ d ih =>
    intro i hd hi
    have hs : wrap64 ((i : Int) + 1) = ((i + 1 : Nat) : Int) := wsucc (show i < l.length by omega) (by omega)
    refine Ev.step (fun k => by rw [impl_greatestLot.l0]) (evPos (by omega) (evPos (by simp; omega) ?_))
    rw [hs, ← List.replicate_succ']
    exact ih (i + 1) (by omega) (by omega)
theorem greatest {m : List Int} {l : List W} (hw : wOk m l = true) : ∃ r, IsG m l r ∧ Ev (fun k => impl_greatestLot.f k m l) r := by
  obtain ⟨h1, h4, h7, _⟩ := of_wOk hw
  obtain ⟨r, hr, he⟩ := p1 hw _ _ rfl (inv_all m l)
  refine ⟨r, hr, ?_⟩
  unfold impl_greatestLot.f
  exact p0 (by omega) r he l.length 0 (by omega) (by omega)
theorem impl_yes {m : List Int} {l : List W} (hw : wOk m l = true) : ∃ r, IsG m l r ∧ Ev (fun k => impl_GreatestLot.f k m l) r := by
  obtain ⟨h1, h4, h7, _⟩ := of_wOk hw
  obtain ⟨r, hr, he⟩ := greatest hw
  refine ⟨r, hr, ?_⟩
  unfold impl_GreatestLot.f
  exact Ev.bind (Wo.areWaits m l (by unfold big; omega) (by unfold big; omega)) (evT hw (Ev.bind he (Ev.now _)))
theorem impl_no {m : List Int} {l : List W} (hm : m.length ≤ big) (hl : l.length ≤ big) (hw : wOk m l = false) : Ev (fun k => impl_GreatestLot.f k m l) [] := by
  unfold impl_GreatestLot.f
  exact Ev.bind (Wo.areWaits m l hm hl) (evF hw (Ev.now _))
theorem both (m : List Int) (l : List W) (hm : m.length ≤ big) (hl : l.length ≤ big) : ∃ r, (wOk m l = true → IsG m l r) ∧ (wOk m l = false → r = []) ∧ Ev (fun k => impl_GreatestLot.f k m l) r ∧ Ev (fun k => spec_GreatestLot.f k m l) r := by
  cases hw : wOk m l with
  | true =>
    obtain ⟨r, h1, h2⟩ := impl_yes hw
    obtain ⟨u, h3, h4⟩ := spec_yes hw
    obtain rfl := h1.uniq h3
    exact ⟨r, fun _ => h1, (fun h => by cases h), h2, h4⟩
  | false => exact ⟨[], (fun h => by cases h), fun _ => rfl, impl_no hm hl hw, spec_no hm hl hw⟩
end Go.Proofs.Ytbnkiikpolcpkaa.Gr
namespace Go.Proofs.Ytbnkiikpolcpkaa.Flo
open Go.RowKit Go.Proofs.Ytbnkiikpolcpkaa.PU Go.Proofs.Ytbnkiikpolcpkaa.Qh Go.Proofs.Ytbnkiikpolcpkaa.Wo Go.Proofs.Ytbnkiikpolcpkaa.Af Go.Proofs.Ytbnkiikpolcpkaa.Lt Go.Proofs.YtbnkiikpolcpkaaW.PrintWords Go.Proofs.YtbnkiikpolcpkaaW.PrintMore
set_option linter.unusedVariables false
set_option linter.unusedSimpArgs false
theorem draw (l0 : List Int) (hu : ∀ x ∈ l0, (Lit.int .u8 x).wf = true) : ∃ (m : List Int) (l : List W) (t : List Int), m.length ≤ 8 ∧ l.length ≤ 8 ∧ t.length ≤ 9 ∧ Ev (fun k => spec_DrawLotOk.f k l0) (m, l, t) := by
  obtain ⟨b, hb, ho⟩ := Dr.open_ l0 hu
  obtain ⟨m, l, q, hm, hl, hq0, hq1, hw⟩ := Dw.waits hb 0 14 (by omega) (by omega)
  obtain ⟨u, _, _, _, h0⟩ := Dr.pick hb q 3 (by omega) (by omega)
  by_cases hu0 : u = 0
  · obtain ⟨r, hr1, hr2, _, hr⟩ := Gr.both m l (by unfold big; omega) (by unfold big; omega)
    refine ⟨m, l, r, by omega, hl, ?_, ?_⟩
    · cases hwk : wOk m l with
      | true => have := (hr1 hwk).1.2.1.1; omega
      | false => rw [hr2 hwk]; simp
    · unfold spec_DrawLotOk.f
      exact evBind0 ho (Ev.bind hw (Ev.bind h0 (evPos hu0 (Ev.bind hr (Ev.now _)))))
  · obtain ⟨v, a1, a2, _, h1⟩ := Dr.pick hb (q + 1) 20 (by omega) (by omega)
    obtain ⟨c, hc, hce⟩ := Fal.more l.length hl v a1 (a2 (by omega))
    obtain ⟨t, z, ht, he⟩ := Fal.lot hb c (by omega) (q + 1 + 1) (by omega) (by omega)
    refine ⟨m, l, t, by omega, hl, by omega, ?_⟩
    unfold spec_DrawLotOk.f
    refine evBind0 ho (Ev.bind hw (Ev.bind h0 (evNeg hu0 (Ev.bind h1 ?_))))
    dsimp only
    rw [hce]
    exact Ev.bind he (Ev.now _)
theorem none_ok {m : List Int} {l : List W} (hw : wOk m l = true) : LOk m l (List.replicate l.length 0) := by
  have := Ob.start hw
  exact ⟨hw, ⟨this.len, this.lot⟩, this.pos, this.pc⟩
theorem loop {m : List Int} {l : List W} (hw : wOk m l = true) (x : Bool) (a : List Int) (ha : a.length ≤ 8) (hx : x = true → ∀ j : Nat, j < a.length → 0 ≤ rd a (j : Int)) : ∀ (d j : Nat), a.length - j = d → j ≤ a.length →
    Ev (fun k => laws_FnLotOk.l0 k m l x a (j : Int)) true := by
  obtain ⟨h1, h4, h7, hv, hbd, hpos⟩ := of_wOk hw
  have fin : ∀ j : Nat, Ev (fun k => laws_FnLotOk.j1 k m l x a (j : Int) false) true := fun j => by
    refine Ev.step (fun k => by rw [laws_FnLotOk.j1]) ?_
    refine evNeg (by decide) (evPos (by omega) (evPos (by omega) ?_))
    rw [Int.toNat_natCast]
    exact Ev.bind ((Lt.impl m l _ (by unfold big; omega) (by unfold big; omega)).yes (none_ok hw)) (Ev.now _)
  intro d
  induction d with
  | zero =>
    intro j hd hj
    refine Ev.step (fun k => by rw [laws_FnLotOk.l0]) ?_
    exact evNeg (by omega) (fin j)
  | succ d ih =>
    intro j hd hj
    have hjs : wrap64 ((j : Int) + 1) = ((j + 1 : Nat) : Int) := wsucc (show j < a.length by omega) (by omega)
    refine Ev.step (fun k => by rw [laws_FnLotOk.l0]) ?_
    refine evPos (by omega) ?_
    cases x with
    | false => exact fin j
    | true =>
      have hj0 := hx rfl j (by omega)
      refine Ev.step (fun k => by rw [laws_FnLotOk.j1]) ?_
      refine evPos rfl (evPos (by omega) (evPos (by omega) (evNeg (by omega) ?_)))
      rw [hjs]
      exact ih (j + 1) (by omega) (by omega)
theorem holds : laws_FnLotOk.Pure := by
  intro l0 _ _ hu
  refine Ev.rounds (g := fun k => laws_FnLotOk.f k l0) ?_
  unfold laws_FnLotOk.f
  by_cases a : (l0.length : Int) > 1048576
  · exact evPos a (Ev.now _)
  refine evNeg a ?_
  obtain ⟨m, l, t, hm, hl, ht, hd⟩ := draw l0 hu
  obtain ⟨x, hx, hs⟩ := Lt.spec m l t (by unfold big; omega) (by unfold big; omega) (by unfold big; omega)
  obtain ⟨y, hy, hi⟩ := Lt.impl m l t (by unfold big; omega) (by unfold big; omega)
  have exy : y = x := by
    have : y = true ↔ x = true := hy.trans hx.symm
    cases x <;> cases y <;> simp_all
  subst exy
  refine Ev.bind hd (Ev.bind hi (Ev.bind hs (evF (bne_self_eq_false _) ?_)))
  refine Ev.bind (Wo.spec m l (by unfold big; omega) (by unfold big; omega)) ?_
  cases hw : wOk m l with
  | false =>
    refine evF rfl ?_
    have : y = false := by
      cases y with
      | false => rfl
      | true => have := (hx.1 rfl).1; rw [hw] at this; cases this
    exact evF this (Ev.bind Al.alive (Ev.now _))
  | true =>
    refine evT rfl ?_
    obtain ⟨r, hr1, hr2, ha, _⟩ := Al2.both m l t (by unfold big; omega) (by unfold big; omega) (by unfold big; omega)
    refine Ev.bind ha ?_
    obtain ⟨h1, h4, h7, hv, hbd, hpos⟩ := of_wOk hw
    by_cases hok : wOk m l = true ∧ t.length = l.length ∧ Lot t
    · rw [hr1 hok]
      refine loop hw y _ (by rw [aft_len]; omega) (fun hyt j hj => (hx.1 hyt).2.2.1 j (by rwa [aft_len] at hj)) _ 0 rfl (by omega)
    · rw [hr2 hok]
      exact loop hw y [] (by simp) (fun _ j hj => by simp at hj) 0 0 rfl (by omega)
end Go.Proofs.Ytbnkiikpolcpkaa.Flo
namespace Go.Proofs.Ytbnkiikpolcpkaa.Pure
open Go.RowKit Go.Proofs.Ytbnkiikpolcpkaa.PU
theorem FnLotOk : laws_FnLotOk.Pure := Flo.holds
end Go.Proofs.Ytbnkiikpolcpkaa.Pure
namespace Go.Proofs.Ytbnkiikpolcpkaa.fnLotOk
open Go.ChangeShapes Go.WideShapes Go.ChangeAt Go.RowKit
open Go.ChangeMaps (open_string shut_string)
set_option linter.unusedVariables false
theorem own : ownKnob Try.prog.godebug = none := by kernel_rfl
theorem laidOut : laidOutB Try.prog = true := by kernel_rfl
def IsRow (k : IntKind) (w : World) (a : Option Addr) (len cap : Nat) (zs : List Int) : Prop :=
  (a = none ∧ len = 0 ∧ cap = 0 ∧ zs = []) ∨
  ∃ x, a = some x ∧ len ≤ cap ∧ cap ≤ maxLen ∧ zs.length = cap ∧ (∀ i, i < zs.length → w.cell? (x.add i) = some (.int k (zs.getD i 0))) ∧ ∀ n ∈ zs, (Lit.int k n).wf = true
set_option maxRecDepth 100000 in
theorem lifted (os : Os) (started : os.Started) (H : Type) (enc : TypeId × Value → H) :
    ReturnsInHanded {} Try.checked os 8 .any (Rows.fnLotOkSpec.pre6 enc Try.prog Try.f8 Rows.fnLotOkRow.domain false) (Rows.fnLotOkSpec.post enc Try.prog Try.f8 false true false false) := by
  refine returnsInHanded_of_change_sized (C := Try.checked) own started (by kernel_rfl) Try.func8
    (ChangeSpec.witness6 (enc := enc) (C := Try.checked) false ⟨#[], #[.slice none 0 0], []⟩ 8 (by kernel_rfl) (by kernel_rfl) (by kernel_rfl) (by kernel_rfl)) ?_
  intro W base args ds gs before hval0 hW hcnd hsz0 _
  have hsz : (DataW.weightsEach Try.prog (Try.f8.params.toList ++ Rows.fnLotOkSpec.plain.varTypes Try.prog) (ds ++ gs)).all (· ≤ reachBytes) = true := hsz0
  have hval : ∀ (j : Nat) t v, Try.f8.params[j]? = some t → args[j]? = some v → Value.okWide Try.prog W .any base t v := hval0
  have hW' := hW
  obtain ⟨p, q, hA0, hV, rfl, hfz, hnd⟩ := hW
  have hA : DataW.TrodAll enc Try.prog W 0 (fun _ => true) true Try.f8.params.toList args.toList ds p := hA0
  rw [Try.params8] at hA hval hsz
  obtain ⟨v0, vs0, d0, ds0, p0, q0, hargs, rfl, rfl, h0, r0⟩ := trodAll_cons hA
  obtain ⟨rfl, rfl, rfl⟩ := trodAll_nil r0
  obtain rfl : args = #[v0] := by cases args; simp_all
  obtain ⟨rfl, rfl⟩ := trodVars_none hV
  obtain ⟨a0, len0, cap0, rfl⟩ := okWide_slice Try.underlying32 (hval 0 32 v0 rfl rfl)
  have k0 := h0
  have lt0 : ∀ x ∈ p0, x.block < W.heap.size := by obtain ⟨m, hm⟩ := k0; exact DataW.trod_lt m _ _ _ hm
  obtain ⟨z0, w0⟩ : ∃ zs, IsRow .u8 W a0 len0 cap0 zs := by
    obtain ⟨fuel, hf⟩ := h0
    rcases open_ints Try.underlying32 Try.underlying5 (by kernel_rfl) hf with ⟨hcs, _⟩ | ⟨x, l, c, zs, hcs, _, hl, hm, hz, _, hcell, hwz⟩
    · simp [Value.cells] at hcs
      obtain ⟨rfl, rfl, rfl⟩ := hcs
      exact ⟨[], .inl ⟨rfl, rfl, rfl, rfl⟩⟩
    · simp [Value.cells] at hcs
      obtain ⟨rfl, rfl, rfl⟩ := hcs
      exact ⟨zs, .inr ⟨_, rfl, hl, hm, by simpa using hz, hcell, hwz⟩⟩
  have y0 : len0 * 1 ≤ 140737488351232 := Go.Proofs.YtbnkiikpolcpkaaW.PrintWords.sized_ints hsz (j := 0) (t := 32) rfl rfl Try.underlying32 Try.underlying5 (by kernel_rfl) (by kernel_rfl) h0
  clear hA0 hval0 hsz0 hsz
  refine (PU.laws_FnLotOk.walk Pure.FnLotOk a0 len0 cap0 z0 W w0 y0).mono fun e W' ⟨he, bel⟩ => ?_
  subst he
  exact ⟨_, rfl, _, _, _, [], _, [], hW', trodAll_mk1 (shut_bool Try.underlying4 _), (trodAll_cons_mk (Below.trod laidOut (by kernel_rfl) (of_decide_eq_true (by kernel_rfl)) k0 bel lt0) trodAll_mk0), rfl, bel.frame _, fun h => by cases h⟩
theorem over : Rows.fnLotOkRow.holds Try.pinned (OpenSpec.ofChange Rows.fnLotOkSpec) :=
  OpenClaim.holds_of_wide 8 Try.f8 rfl rfl rfl rfl rfl rfl rfl ⟨rfl, rfl, rfl, rfl, rfl⟩ rfl rfl rfl rfl rfl (by kernel_rfl) Try.func8 (by kernel_rfl)
    (of_decide_eq_true (by kernel_rfl)) (by unfold Func.isWrapper; first | (rw [if_pos (by decide +kernel)]; kernel_rfl) | (rw [if_neg (by decide +kernel)]; exact ⟨rfl, rfl⟩))
    (fun os started H enc _ => lifted os started H enc)
theorem proved : Rows.FnLotOkSaid := over
end Go.Proofs.Ytbnkiikpolcpkaa.fnLotOk
namespace Go.Proofs.Ytbnkiikpolcpkaa
theorem fnLotOk_holds : Rows.FnLotOkSaid := fnLotOk.proved
end Go.Proofs.Ytbnkiikpolcpkaa
