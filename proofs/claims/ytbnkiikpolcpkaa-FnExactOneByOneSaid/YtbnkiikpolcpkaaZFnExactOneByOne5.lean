/- FnExactOneByOne: for every input the law holds, and each argument reads as it read before. No condition. -/
import Derived.Test.YtbnkiikpolcpkaaZFnExactOneByOne1
import Derived.Test.YtbnkiikpolcpkaaZFnExactOneByOne2
import Derived.Test.YtbnkiikpolcpkaaZFnExactOneByOne3
import Derived.Test.YtbnkiikpolcpkaaZFnExactOneByOne4
import Derived.Deep.Slices
import Derived.ChangeArms
import Derived.DataReads
import Derived.Test.YtbnkiikpolcpkaaRows
import Derived.WalkKit
import Derived.ProofKit
import Derived.OpenShut
import Derived.ShutString
import Derived.ChangeOld
import Derived.Below
import Derived.SizedLaws
namespace Go.Proofs.Ytbnkiikpolcpkaa.PU
open Go.RowKit Go.Proofs.YtbnkiikpolcpkaaW.PrintWords Go.Proofs.YtbnkiikpolcpkaaW.PrintLast Go.Proofs.YtbnkiikpolcpkaaW.PrintMore
attribute [local go_sem] max2_int min2_int max_two min_two max_three min_three max_four min_four   -- for this text's walks alone
set_option linter.unusedVariables false
set_option linter.unusedSimpArgs false
def laws_markWaitS.l0 : Nat → List (S47) → Int → Int → Option (Int × (List (S47)))
  | 0, _, _, _ => none
  | k + 1, x0, x1, x5 => if x5 < (x0.length : Int) then (if 0 ≤ x5 then ((some (x0.set (x5 : Int).toNat (⟨x1, (rd_T47 x0 x5).f1, (rd_T47 x0 x5).f2⟩ : S47) : List (S47))).bind fun y306 => ((some (y306.set (x5 : Int).toNat (⟨(rd_T47 y306 x5).f0, wrap64 (x1 + 1), (rd_T47 y306 x5).f2⟩ : S47) : List (S47))).bind fun y307 => (laws_markWaitS.l0 k (y307.set (x5 : Int).toNat (⟨(rd_T47 y307 x5).f0, (rd_T47 y307 x5).f1, wrap64 ((wrap64 (x1 + 1)) + 1)⟩ : S47)) (wrap64 ((wrap64 ((wrap64 (x1 + 1)) + 1)) + 1)) (wrap64 (x5 + 1))))) else (none)) else (some (x1, x0))
def laws_markWaitS.f (k : Nat) (l0 : List (S47)) (a1 : Int) : Option (Int × (List (S47))) := laws_markWaitS.l0 k l0 a1 0
theorem laws_markWaitS.mono_l : ∀ k, (∀ y0 y1 y2, LeO (laws_markWaitS.l0 k y0 y1 y2) (laws_markWaitS.l0 (k + 1) y0 y1 y2))
  | 0 => fun _ _ _ r h => by simp [laws_markWaitS.l0] at h
  | k + 1 => by
    have ih0 := laws_markWaitS.mono_l k
    · intro y0 y1 y2
      unfold laws_markWaitS.l0
      repeat' first
      | (with_reducible exact ih0 _ _ _)
      | (with_reducible exact LeO.refl _)
      | (with_reducible exact LeO.none _)
      | (with_reducible refine LeO.ite ?_ ?_)
      | (with_reducible refine LeO.bind ?_ (fun _ => ?_))
      | exact ih0 _ _ _
      | exact LeO.none _
      | refine LeO.ite ?_ ?_
      | refine LeO.bind ?_ (fun _ => ?_)
theorem laws_markWaitS.mono : ∀ a0 a1 k, LeO (laws_markWaitS.f k a0 a1) (laws_markWaitS.f (k + 1) a0 a1) := by
  intro a0 a1 k
  have ih0 := laws_markWaitS.mono_l k
  unfold laws_markWaitS.f
  repeat' first
      | (with_reducible exact ih0 _ _ _)
      | (with_reducible exact LeO.refl _)
      | (with_reducible exact LeO.none _)
      | (with_reducible refine LeO.ite ?_ ?_)
      | (with_reducible refine LeO.bind ?_ (fun _ => ?_))
      | exact ih0 _ _ _
      | exact LeO.none _
      | refine LeO.ite ?_ ?_
      | refine LeO.bind ?_ (fun _ => ?_)
set_option maxHeartbeats 8000000 in
set_option maxRecDepth 100000 in
theorem laws_markWaitS.calls (k : Nat) (P0_ : Nat → Prop) (u9000_ : Value) (l0 : List (S47)) (a1 : Int) (r1 : Int) (r2 : List (S47)) (w0 w : World) (hB : Below w0.heap.size w0 w) (ho0 : Kd.R k47 47 w w0.heap.size P0_ u9000_ l0) (h : laws_markWaitS.f k l0 a1 = some (r1, r2)) :
    Calls Try.prog 27 #[u9000_, .int .i64 a1] w fun e w' => e = .returned (.int .i64 r1) ∧ Kd.R k47 47 w' w0.heap.size (fun k_ => (P0_ k_ ∨ w.heap.size ≤ k_)) u9000_ r2 ∧ Below w0.heap.size w0 w' ∧ Kept w w' (fun k_ => P0_ k_) := by
  have HO0 := Aside0.mk (show Kd.R k47 47 w w0.heap.size (fun k_ => (P0_ k_ ∨ w.heap.size ≤ k_)) u9000_ l0 from Kd.R_mono ho0 (fun k_ hk => (.inl hk)))
  have HK := Aside0.mk (Kept.refl w (fun k_ => P0_ k_))
  have HW0 := Aside0.mk hB.size
  have HB := Aside0.mk hB
  clear hB
  have H : (laws_markWaitS.l0 k l0 a1 0) = some (r1, r2) := h
  clear h
  have H' := Aside0.mk H
  clear H
  go_enter Try.func27, Try.ntmps27
  go_wp2
  go_loopg [1, 5] k (fun kq v1 v5 w' => ∃ (x0_1 : List (S47)) (x1_1 : Int) (x5_1 : Int), v1 = .int .i64 x1_1 ∧ v5 = .int .i64 x5_1 ∧ Aside0 (laws_markWaitS.l0 kq x0_1 x1_1 x5_1 = some (r1, r2)) ∧ Aside0 (kq ≤ k) ∧ Aside0 (Kd.R k47 47 w' w0.heap.size (fun k_ => (P0_ k_ ∨ w.heap.size ≤ k_)) u9000_ x0_1) ∧ Aside0 (Kept w w' (fun k_ => P0_ k_)) ∧ Aside0 (Below w0.heap.size w0 w'))
  case atStart => exact ⟨(l0), (a1), (0), (by first | rfl | (simp; done) | (simp [*]; done)), (by first | rfl | (simp; done) | (simp [*]; done)), H', ⟨Nat.le_refl _⟩, ⟨by (with_reducible repeat (first | apply Kd.R_alloc | apply Kd.R_drewN | apply Kd.R_drew)); exact HO0.out⟩, ⟨by repeat (first | (with_reducible first | exact HK.out | apply Kept.alloc | apply Kept.drewN | apply Kept.drew) | exact HK.out)⟩, ⟨by repeat (first | (with_reducible first | exact HB.out | apply below_alloc | apply pw_below_drewN | apply below_drew1) | exact HB.out)⟩⟩
  case round =>
    clear H'
    try clear c2
    try clear p2
    obtain ⟨x0_1, x1_1, x5_1, rfl, rfl, HA, HK1, HO_0, HK, HB⟩ := hrel
    cases gk with
    | zero => exact absurd HA.out (by simp [laws_markWaitS.l0])
    | succ k1 =>
      have H := HA.out
      clear HA
      simp only [laws_markWaitS.l0] at H
      by_cases c3 : x5_1 < (x0_1.length : Int)
      · rw [if_pos c3] at H
        have c3b0 : decide (x5_1 < (x0_1.length : Int)) = true := decide_eq_true c3
        clear c3
        by_cases c4 : 0 ≤ x5_1
        · rw [if_pos c4] at H
          have c4b0 : decide (0 ≤ x5_1) = true := decide_eq_true c4
          clear c4
          obtain ⟨y306, hy306⟩ : ∃ y_ : List (S47), y_ = (x0_1.set (x5_1 : Int).toNat (⟨x1_1, (rd_T47 x0_1 x5_1).f1, (rd_T47 x0_1 x5_1).f2⟩ : S47)) := ⟨_, rfl⟩
          replace H : ((some (y306.set (x5_1 : Int).toNat (⟨(rd_T47 y306 x5_1).f0, wrap64 (x1_1 + 1), (rd_T47 y306 x5_1).f2⟩ : S47) : List (S47))).bind fun y307 => (laws_markWaitS.l0 k1 (y307.set (x5_1 : Int).toNat (⟨(rd_T47 y307 x5_1).f0, (rd_T47 y307 x5_1).f1, wrap64 ((wrap64 (x1_1 + 1)) + 1)⟩ : S47)) (wrap64 ((wrap64 ((wrap64 (x1_1 + 1)) + 1)) + 1)) (wrap64 (x5_1 + 1)))) = some (r1, r2) := by first | (rw [hy306]; with_reducible exact H) | (have H2_ := (Option.bind_some _ _).symm.trans H; rw [hy306]; with_reducible exact H2_) | (have H2_ := (Option.bind_some _ _).symm.trans H; with_reducible exact H2_) | with_reducible exact H | (rw [hy306]; exact H) | exact H
          have Ny306 := Aside0.mk hy306
          clear hy306
          obtain ⟨y307, hy307⟩ : ∃ y_ : List (S47), y_ = (y306.set (x5_1 : Int).toNat (⟨(rd_T47 y306 x5_1).f0, wrap64 (x1_1 + 1), (rd_T47 y306 x5_1).f2⟩ : S47)) := ⟨_, rfl⟩
          replace H : (laws_markWaitS.l0 k1 (y307.set (x5_1 : Int).toNat (⟨(rd_T47 y307 x5_1).f0, (rd_T47 y307 x5_1).f1, wrap64 ((wrap64 (x1_1 + 1)) + 1)⟩ : S47)) (wrap64 ((wrap64 ((wrap64 (x1_1 + 1)) + 1)) + 1)) (wrap64 (x5_1 + 1))) = some (r1, r2) := by first | (rw [hy307]; with_reducible exact H) | (have H2_ := (Option.bind_some _ _).symm.trans H; rw [hy307]; with_reducible exact H2_) | (have H2_ := (Option.bind_some _ _).symm.trans H; with_reducible exact H2_) | with_reducible exact H | (rw [hy307]; exact H) | exact H
          have Ny307 := Aside0.mk hy307
          clear hy307
          obtain ⟨y308, hy308⟩ : ∃ y_ : List (S47), y_ = (y307.set (x5_1 : Int).toNat (⟨(rd_T47 y307 x5_1).f0, (rd_T47 y307 x5_1).f1, wrap64 ((wrap64 (x1_1 + 1)) + 1)⟩ : S47)) := ⟨_, rfl⟩
          replace H : (laws_markWaitS.l0 k1 y308 (wrap64 ((wrap64 ((wrap64 (x1_1 + 1)) + 1)) + 1)) (wrap64 (x5_1 + 1))) = some (r1, r2) := by first | (rw [hy308]; with_reducible exact H) | (have H2_ := (Option.bind_some _ _).symm.trans H; rw [hy308]; with_reducible exact H2_) | (have H2_ := (Option.bind_some _ _).symm.trans H; with_reducible exact H2_) | with_reducible exact H | (rw [hy308]; exact H) | exact H
          have Ny308 := Aside0.mk hy308
          clear hy308
          have H' := Aside0.mk H
          clear H
          obtain ⟨Ao8, co8, eo8⟩ := Kd.R_slice HO_0.out
          subst eo8
          have p5 : 0 ≤ (x5_1 : Int) := of_decide_eq_true (by first | (with_reducible assumption) | assumption)
          have q5 : (x5_1 : Int) < ((x0_1.length : Int) : Int) := of_decide_eq_true (by first | (with_reducible assumption) | assumption)
          obtain ⟨go5, co5, eo5, gb5, gl5, cl5, HG5⟩ := Kd.R_form HO_0.out (by omega)
          (first | cases eo5 | (injection eo5 with ea_ en_ ec_; (first | subst ea_ | (injection ea_ with ea_; subst ea_)); subst ec_; clear en_))
          have GB5 := Aside0.mk gb5
          have GG5 := Aside0.mk HG5
          clear gb5 gl5 HG5
          have HMgo5 := Aside0.mk (show (P0_ go5 ∨ w.heap.size ≤ go5) from (HO_0.out.1 _ rfl))
          obtain ⟨ce5, hcl5, hM5, hcc5, hfr5⟩ := Kd.R_elem HO_0.out z47 (x5_1 : Int) p5 q5
          obtain rfl := k47_openM hM5
          have hx5_0 : wr.cell? ⟨go5, (x5_1 : Int).toNat * 3, none⟩ = some (.int .i64 ((rd_T47 x0_1 x5_1).f0)) := hcc5 0 _ rfl
          have hx5_1 : wr.cell? ⟨go5, (x5_1 : Int).toNat * 3 + 1, none⟩ = some (.int .i64 ((rd_T47 x0_1 x5_1).f1)) := hcc5 1 _ rfl
          have hx5_2 : wr.cell? ⟨go5, (x5_1 : Int).toNat * 3 + 2, none⟩ = some (.int .i64 ((rd_T47 x0_1 x5_1).f2)) := hcc5 2 _ rfl
          have hf5_0 : wr.frozen? ⟨go5, (x5_1 : Int).toNat * 3, none⟩ = false := hfr5 0
          have hf5_1 : wr.frozen? ⟨go5, (x5_1 : Int).toNat * 3 + 1, none⟩ = false := hfr5 1
          have hf5_2 : wr.frozen? ⟨go5, (x5_1 : Int).toNat * 3 + 2, none⟩ = false := hfr5 2
          clear hcl5 hcc5 hfr5 hM5
          replace p5 := eq_true p5
          replace q5 := eq_true q5
          have HX9 := Aside0.mk (show Kd.R k47 47 wr w0.heap.size (fun k_ => (P0_ k_ ∨ w.heap.size ≤ k_)) (.slice (some ⟨go5, 0, none⟩) x0_1.length co8) x0_1 from (by (with_reducible repeat (first | apply Kd.R_alloc | apply Kd.R_drewN | apply Kd.R_drew)); exact HO_0.out))
          obtain ⟨ce9, hcl9, hM9, hcc9, hfr9⟩ := Kd.R_elem HX9.out z47 (x5_1 : Int) (of_decide_eq_true (by first | (with_reducible assumption) | assumption)) (by have h_ : (x5_1 : Int) < ((x0_1.length : Int) : Int) := of_decide_eq_true (by first | (with_reducible assumption) | assumption); first | exact h_ | (have e_ := (Kd.R_reads' HO_0.out).1; omega) | simpa using h_)
          obtain rfl := k47_openM hM9
          have HP9 := Kd.R_seg HX9.out (x5_1 : Int) (of_decide_eq_true (by first | (with_reducible assumption) | assumption)) (by have h_ : (x5_1 : Int) < ((x0_1.length : Int) : Int) := of_decide_eq_true (by first | (with_reducible assumption) | assumption); first | exact h_ | (have e_ := (Kd.R_reads' HO_0.out).1; omega) | simpa using h_) (seg := [.int .i64 x1_1]) (j := 0) hcl9 hcc9 (show 1 ≤ 3 from by decide) (x' := (⟨x1_1, (rd_T47 x0_1 x5_1).f1, (rd_T47 x0_1 x5_1).f2⟩ : S47)) (k47_mkM _ _ _ (⟨x1_1, (rd_T47 x0_1 x5_1).f1, (rd_T47 x0_1 x5_1).f2⟩ : S47) ) (fun _ hk => hk)
          have hx9_0 := hcc9 0 _ rfl
          (try simp only [show (k47).sz = 3 from rfl, Nat.mul_one, Nat.add_zero] at hx9_0)
          have hf9_0 := hfr9 0
          (try simp only [show (k47).sz = 3 from rfl, Nat.mul_one, Nat.add_zero] at hf9_0)
          clear hcl9 hcc9 hfr9 hM9
          go_wp2_with (first | ((with_reducible refine gate_store (t := 3) (p := 16) rfl ?_); refine store_event (t := 3) (p := 16) (v := ?vo_w10) (w1 := (wr.setCell ⟨go5, (x5_1 : Int).toNat * 3, none⟩ (.int .i64 x1_1))) ?hg ?ho ?hn ?hr ?_; (case ho => rfl); (case hg => rfl); (case hn => rfl); (case hr => first | (go_simp; done) | (go_simp; rfl)); intro w10 hw; have hg : wr.grownBy w10 (some go5) := (by rw [hw]; exact HP9.2); have hp_ : Kd.R k47 47 w10 w0.heap.size (fun k_ => (P0_ k_ ∨ w.heap.size ≤ k_)) (.slice (some ⟨go5, 0, none⟩) x0_1.length co8) y306 := (by rw [hw, Ny306.out]; exact HP9.1); clear HP9; have n0_ := Aside0.mk (hp_); have n1_ := Aside0.mk ((by rw [hw]; exact below_set (HB.out) GB5.out : Below w0.heap.size w0 w10)); have n2_ := Aside0.mk (Kept.of_grown (S := (fun k_ => P0_ k_)) hg (by repeat (first | (with_reducible first | exact HK.out | apply Kept.alloc | apply Kept.drewN | apply Kept.drew) | exact HK.out)) (fun k_ e_ => (HO_0.out.1 k_ e_))); clear HO_0; clear HB; clear HK; have HO_0 := n0_; have HB := n1_; have HK := n2_; clear n0_ n1_ n2_; clear hg hw hp_; have p6 : 0 ≤ (x5_1 : Int) := of_decide_eq_true (by first | (with_reducible assumption) | assumption); have q6 : (x5_1 : Int) < ((x0_1.length : Int) : Int) := of_decide_eq_true (by first | (with_reducible assumption) | assumption); obtain ⟨ce6, hcl6, hM6, hcc6, hfr6⟩ := Kd.R_elem HO_0.out z47 (x5_1 : Int) p6 q6; obtain rfl := k47_openM hM6; have hx6_0 : w10.cell? ⟨go5, (x5_1 : Int).toNat * 3, none⟩ = some (.int .i64 ((rd_T47 y306 x5_1).f0)) := hcc6 0 _ rfl; have hx6_1 : w10.cell? ⟨go5, (x5_1 : Int).toNat * 3 + 1, none⟩ = some (.int .i64 ((rd_T47 y306 x5_1).f1)) := hcc6 1 _ rfl; have hx6_2 : w10.cell? ⟨go5, (x5_1 : Int).toNat * 3 + 2, none⟩ = some (.int .i64 ((rd_T47 y306 x5_1).f2)) := hcc6 2 _ rfl; have hf6_0 : w10.frozen? ⟨go5, (x5_1 : Int).toNat * 3, none⟩ = false := hfr6 0; have hf6_1 : w10.frozen? ⟨go5, (x5_1 : Int).toNat * 3 + 1, none⟩ = false := hfr6 1; have hf6_2 : w10.frozen? ⟨go5, (x5_1 : Int).toNat * 3 + 2, none⟩ = false := hfr6 2; clear hcl6 hcc6 hfr6 hM6; replace p6 := eq_true p6; replace q6 := eq_true q6; have HX11 := Aside0.mk (show Kd.R k47 47 w10 w0.heap.size (fun k_ => (P0_ k_ ∨ w.heap.size ≤ k_)) (.slice (some ⟨go5, 0, none⟩) x0_1.length co8) y306 from (by (with_reducible repeat (first | apply Kd.R_alloc | apply Kd.R_drewN | apply Kd.R_drew)); exact HO_0.out)); obtain ⟨ce11, hcl11, hM11, hcc11, hfr11⟩ := Kd.R_elem HX11.out z47 (x5_1 : Int) (of_decide_eq_true (by first | (with_reducible assumption) | assumption)) (by have h_ : (x5_1 : Int) < ((x0_1.length : Int) : Int) := of_decide_eq_true (by first | (with_reducible assumption) | assumption); first | exact h_ | (have e_ := (Kd.R_reads' HO_0.out).1; omega) | simpa using h_); obtain rfl := k47_openM hM11; have HP11 := Kd.R_seg HX11.out (x5_1 : Int) (of_decide_eq_true (by first | (with_reducible assumption) | assumption)) (by have h_ : (x5_1 : Int) < ((x0_1.length : Int) : Int) := of_decide_eq_true (by first | (with_reducible assumption) | assumption); first | exact h_ | (have e_ := (Kd.R_reads' HO_0.out).1; omega) | simpa using h_) (seg := [.int .i64 (wrap64 (x1_1 + 1))]) (j := 1) hcl11 hcc11 (show 2 ≤ 3 from by decide) (x' := (⟨(rd_T47 y306 x5_1).f0, wrap64 (x1_1 + 1), (rd_T47 y306 x5_1).f2⟩ : S47)) (k47_mkM _ _ _ (⟨(rd_T47 y306 x5_1).f0, wrap64 (x1_1 + 1), (rd_T47 y306 x5_1).f2⟩ : S47) ) (fun _ hk => hk); have hx11_1 := hcc11 1 _ rfl; (try simp only [show (k47).sz = 3 from rfl, Nat.mul_one, Nat.add_zero] at hx11_1); have hf11_1 := hfr11 1; (try simp only [show (k47).sz = 3 from rfl, Nat.mul_one, Nat.add_zero] at hf11_1); clear hcl11 hcc11 hfr11 hM11) | ((with_reducible refine gate_store (t := 3) (p := 23) rfl ?_); refine store_event (t := 3) (p := 23) (v := ?vo_w12) (w1 := (w10.setCell ⟨go5, (x5_1 : Int).toNat * 3 + 1, none⟩ (.int .i64 (wrap64 (x1_1 + 1))))) ?hg ?ho ?hn ?hr ?_; (case ho => rfl); (case hg => rfl); (case hn => rfl); (case hr => first | (go_simp; done) | (go_simp; rfl)); intro w12 hw; have hg : w10.grownBy w12 (some go5) := (by rw [hw]; exact HP11.2); have hp_ : Kd.R k47 47 w12 w0.heap.size (fun k_ => (P0_ k_ ∨ w.heap.size ≤ k_)) (.slice (some ⟨go5, 0, none⟩) x0_1.length co8) y307 := (by rw [hw, Ny307.out]; exact HP11.1); clear HP11; have n0_ := Aside0.mk (hp_); have n1_ := Aside0.mk ((by rw [hw]; exact below_set (HB.out) GB5.out : Below w0.heap.size w0 w12)); have n2_ := Aside0.mk (Kept.of_grown (S := (fun k_ => P0_ k_)) hg (by repeat (first | (with_reducible first | exact HK.out | apply Kept.alloc | apply Kept.drewN | apply Kept.drew) | exact HK.out)) (fun k_ e_ => (HO_0.out.1 k_ e_))); clear HO_0; clear HB; clear HK; have HO_0 := n0_; have HB := n1_; have HK := n2_; clear n0_ n1_ n2_; clear hg hw hp_; have p7 : 0 ≤ (x5_1 : Int) := of_decide_eq_true (by first | (with_reducible assumption) | assumption); have q7 : (x5_1 : Int) < ((x0_1.length : Int) : Int) := of_decide_eq_true (by first | (with_reducible assumption) | assumption); obtain ⟨ce7, hcl7, hM7, hcc7, hfr7⟩ := Kd.R_elem HO_0.out z47 (x5_1 : Int) p7 q7; obtain rfl := k47_openM hM7; have hx7_0 : w12.cell? ⟨go5, (x5_1 : Int).toNat * 3, none⟩ = some (.int .i64 ((rd_T47 y307 x5_1).f0)) := hcc7 0 _ rfl; have hx7_1 : w12.cell? ⟨go5, (x5_1 : Int).toNat * 3 + 1, none⟩ = some (.int .i64 ((rd_T47 y307 x5_1).f1)) := hcc7 1 _ rfl; have hx7_2 : w12.cell? ⟨go5, (x5_1 : Int).toNat * 3 + 2, none⟩ = some (.int .i64 ((rd_T47 y307 x5_1).f2)) := hcc7 2 _ rfl; have hf7_0 : w12.frozen? ⟨go5, (x5_1 : Int).toNat * 3, none⟩ = false := hfr7 0; have hf7_1 : w12.frozen? ⟨go5, (x5_1 : Int).toNat * 3 + 1, none⟩ = false := hfr7 1; have hf7_2 : w12.frozen? ⟨go5, (x5_1 : Int).toNat * 3 + 2, none⟩ = false := hfr7 2; clear hcl7 hcc7 hfr7 hM7; replace p7 := eq_true p7; replace q7 := eq_true q7; have HX13 := Aside0.mk (show Kd.R k47 47 w12 w0.heap.size (fun k_ => (P0_ k_ ∨ w.heap.size ≤ k_)) (.slice (some ⟨go5, 0, none⟩) x0_1.length co8) y307 from (by (with_reducible repeat (first | apply Kd.R_alloc | apply Kd.R_drewN | apply Kd.R_drew)); exact HO_0.out)); obtain ⟨ce13, hcl13, hM13, hcc13, hfr13⟩ := Kd.R_elem HX13.out z47 (x5_1 : Int) (of_decide_eq_true (by first | (with_reducible assumption) | assumption)) (by have h_ : (x5_1 : Int) < ((x0_1.length : Int) : Int) := of_decide_eq_true (by first | (with_reducible assumption) | assumption); first | exact h_ | (have e_ := (Kd.R_reads' HO_0.out).1; omega) | simpa using h_); obtain rfl := k47_openM hM13; have HP13 := Kd.R_seg HX13.out (x5_1 : Int) (of_decide_eq_true (by first | (with_reducible assumption) | assumption)) (by have h_ : (x5_1 : Int) < ((x0_1.length : Int) : Int) := of_decide_eq_true (by first | (with_reducible assumption) | assumption); first | exact h_ | (have e_ := (Kd.R_reads' HO_0.out).1; omega) | simpa using h_) (seg := [.int .i64 (wrap64 ((wrap64 (x1_1 + 1)) + 1))]) (j := 2) hcl13 hcc13 (show 3 ≤ 3 from by decide) (x' := (⟨(rd_T47 y307 x5_1).f0, (rd_T47 y307 x5_1).f1, wrap64 ((wrap64 (x1_1 + 1)) + 1)⟩ : S47)) (k47_mkM _ _ _ (⟨(rd_T47 y307 x5_1).f0, (rd_T47 y307 x5_1).f1, wrap64 ((wrap64 (x1_1 + 1)) + 1)⟩ : S47) ) (fun _ hk => hk); have hx13_2 := hcc13 2 _ rfl; (try simp only [show (k47).sz = 3 from rfl, Nat.mul_one, Nat.add_zero] at hx13_2); have hf13_2 := hfr13 2; (try simp only [show (k47).sz = 3 from rfl, Nat.mul_one, Nat.add_zero] at hf13_2); clear hcl13 hcc13 hfr13 hM13) | ((with_reducible refine gate_store (t := 3) (p := 30) rfl ?_); refine store_event (t := 3) (p := 30) (v := ?vo_w14) (w1 := (w12.setCell ⟨go5, (x5_1 : Int).toNat * 3 + 2, none⟩ (.int .i64 (wrap64 ((wrap64 (x1_1 + 1)) + 1))))) ?hg ?ho ?hn ?hr ?_; (case ho => rfl); (case hg => rfl); (case hn => rfl); (case hr => first | (go_simp; done) | (go_simp; rfl)); intro w14 hw; have hg : w12.grownBy w14 (some go5) := (by rw [hw]; exact HP13.2); have hp_ : Kd.R k47 47 w14 w0.heap.size (fun k_ => (P0_ k_ ∨ w.heap.size ≤ k_)) (.slice (some ⟨go5, 0, none⟩) x0_1.length co8) y308 := (by rw [hw, Ny308.out]; exact HP13.1); clear HP13; have n0_ := Aside0.mk (hp_); have n1_ := Aside0.mk ((by rw [hw]; exact below_set (HB.out) GB5.out : Below w0.heap.size w0 w14)); have n2_ := Aside0.mk (Kept.of_grown (S := (fun k_ => P0_ k_)) hg (by repeat (first | (with_reducible first | exact HK.out | apply Kept.alloc | apply Kept.drewN | apply Kept.drew) | exact HK.out)) (fun k_ e_ => (HO_0.out.1 k_ e_))); clear HO_0; clear HB; clear HK; have HO_0 := n0_; have HB := n1_; have HK := n2_; clear n0_ n1_ n2_; clear hg hw hp_))
          go_roundg k1
          case measure => have := HK1.out; omega
          case rel => exact ⟨(y308), (wrap64 ((wrap64 ((wrap64 (x1_1 + 1)) + 1)) + 1)), (wrap64 (x5_1 + 1)), (by first | rfl | (simp; done) | (simp [*]; done)), (by first | rfl | (simp; done) | (simp [*]; done)), H', ⟨by have := HK1.out; omega⟩, ⟨by (with_reducible repeat (first | apply Kd.R_alloc | apply Kd.R_drewN | apply Kd.R_drew)); exact HO_0.out⟩, ⟨by repeat (first | (with_reducible first | exact HK.out | apply Kept.alloc | apply Kept.drewN | apply Kept.drew) | exact HK.out)⟩, ⟨by repeat (first | (with_reducible first | exact HB.out | apply below_alloc | apply pw_below_drewN | apply below_drew1) | exact HB.out)⟩⟩
        · rw [if_neg c4] at H
          exact absurd H (by simp)
      · rw [if_neg c3] at H
        have c3b0 : decide (x5_1 < (x0_1.length : Int)) = false := decide_eq_false c3
        clear c3
        simp only [Option.some.injEq, Prod.mk.injEq] at H
        obtain ⟨rfl, rfl⟩ := H
        obtain ⟨Ao15, co15, eo15⟩ := Kd.R_slice HO_0.out
        subst eo15
        go_wp2
        go_ret
        exact ⟨by first | rfl | (simp [errW_none, errW_some] <;> rfl) | (simp [*, errW_none, errW_some] <;> rfl), by (with_reducible repeat (first | apply Kd.R_alloc | apply Kd.R_drewN | apply Kd.R_drew)); exact HO_0.out, by repeat (first | (with_reducible first | exact HB.out | apply below_alloc | apply pw_below_drewN | apply below_drew1) | exact HB.out), by repeat (first | (with_reducible first | exact HK.out | apply Kept.alloc | apply Kept.drewN | apply Kept.drew) | exact HK.out)⟩
end Go.Proofs.Ytbnkiikpolcpkaa.PU

namespace Go.Proofs.Ytbnkiikpolcpkaa.PU
open Go.RowKit Go.Proofs.YtbnkiikpolcpkaaW.PrintWords Go.Proofs.YtbnkiikpolcpkaaW.PrintLast Go.Proofs.YtbnkiikpolcpkaaW.PrintMore
attribute [local go_sem] max2_int min2_int max_two min_two max_three min_three max_four min_four   -- for this text's walks alone
set_option linter.unusedVariables false
set_option linter.unusedSimpArgs false
def laws_FnExactOneByOne.j0 : Nat → List Int → List (S51) → List Int → List Int → Bool → Option (Bool)
  | 0, _, _, _, _, _ => none
  | k + 1, x0, x1, x6, x9, x61 => if x61 = true then (some false) else ((laws_markIntS.f k x9 1).bind fun bt712 => ((laws_heldIntS.f k bt712.2 1).bind fun t714 => (if t714 < 0 then (some false) else (if t714 = bt712.1 then ((laws_toIntS.f k x0).bind fun t715 => ((laws_toWaitS.f k x1).bind fun t718 => ((impl_OneByOne.f k t715 t718).bind fun t721 => ((laws_eqIntS.f k t721 x6).bind fun t724 => (if t724 = true then ((laws_heldIntS.f k bt712.2 1).bind fun t725 => (if t725 < 0 then (some false) else (if t725 = bt712.1 then (some true) else (some false)))) else (some false)))))) else (some false)))))
def laws_FnExactOneByOne.f (k : Nat) (l0 : List Int) (l1 : List (S51)) : Option (Bool) := if (l0.length : Int) > 1048576 then (some true) else ((laws_szWaitS.f l1 1048576).bind fun t679 => (if t679 < 0 then (some true) else ((laws_toIntS.f k l0).bind fun t680 => ((laws_toWaitS.f k l1).bind fun t683 => ((spec_OneByOne.f k t680 t683).bind fun t686 => ((laws_toIntS.f k l0).bind fun t689 => ((laws_toWaitS.f k l1).bind fun t692 => ((impl_OneByOne.f k t689 t692).bind fun t695 => ((laws_eqIntS.f k t695 t686).bind fun t698 => (if t698 = true then ((laws_toIntS.f k l0).bind fun t699 => ((laws_eqIntS.f k t689 t699).bind fun t702 => (if t702 = true then ((laws_toWaitS.f k l1).bind fun t703 => ((laws_eqWaitS.f k t692 t703).bind fun t706 => (if t706 = true then ((laws_markIntS.f k t689 1).bind fun bt707 => ((laws_markWaitS.f k t692 bt707.1).bind fun bt709 => (if bt709.1 < 0 then (laws_FnExactOneByOne.j0 k l0 l1 t686 t695 true) else ((laws_eqIntS.f k t695 t686).bind fun t711 => (laws_FnExactOneByOne.j0 k l0 l1 t686 t695 (!t711)))))) else (some false)))) else (some false)))) else (some false)))))))))))
theorem laws_FnExactOneByOne.mono_l : ∀ k, (∀ y0 y1 y2 y3 y4, LeO (laws_FnExactOneByOne.j0 k y0 y1 y2 y3 y4) (laws_FnExactOneByOne.j0 (k + 1) y0 y1 y2 y3 y4))
  | 0 => fun _ _ _ _ _ r h => by simp [laws_FnExactOneByOne.j0] at h
  | k + 1 => by
    have ih0 := laws_FnExactOneByOne.mono_l k
    · intro y0 y1 y2 y3 y4
      unfold laws_FnExactOneByOne.j0
      repeat' first
      | (with_reducible exact ih0 _ _ _ _ _)
      | (with_reducible exact impl_OneByOne.mono _ _ _)
      | (with_reducible exact laws_eqIntS.mono _ _ _)
      | (with_reducible exact laws_eqWaitS.mono _ _ _)
      | (with_reducible exact laws_heldIntS.mono _ _ _)
      | (with_reducible exact laws_markIntS.mono _ _ _)
      | (with_reducible exact laws_markWaitS.mono _ _ _)
      | (with_reducible exact laws_toIntS.mono _ _)
      | (with_reducible exact laws_toWaitS.mono _ _)
      | (with_reducible exact spec_OneByOne.mono _ _ _)
      | (with_reducible exact LeO.refl _)
      | (with_reducible exact LeO.none _)
      | (with_reducible refine LeO.ite ?_ ?_)
      | (with_reducible refine LeO.bind ?_ (fun _ => ?_))
      | exact ih0 _ _ _ _ _
      | exact impl_OneByOne.mono _ _ _
      | exact laws_eqIntS.mono _ _ _
      | exact laws_eqWaitS.mono _ _ _
      | exact laws_heldIntS.mono _ _ _
      | exact laws_markIntS.mono _ _ _
      | exact laws_markWaitS.mono _ _ _
      | exact laws_toIntS.mono _ _
      | exact laws_toWaitS.mono _ _
      | exact spec_OneByOne.mono _ _ _
      | exact LeO.none _
      | refine LeO.ite ?_ ?_
      | refine LeO.bind ?_ (fun _ => ?_)
theorem laws_FnExactOneByOne.mono : ∀ a0 a1 k, LeO (laws_FnExactOneByOne.f k a0 a1) (laws_FnExactOneByOne.f (k + 1) a0 a1) := by
  intro a0 a1 k
  have ih0 := laws_FnExactOneByOne.mono_l k
  unfold laws_FnExactOneByOne.f
  repeat' first
      | (with_reducible exact ih0 _ _ _ _ _)
      | (with_reducible exact impl_OneByOne.mono _ _ _)
      | (with_reducible exact laws_eqIntS.mono _ _ _)
      | (with_reducible exact laws_eqWaitS.mono _ _ _)
      | (with_reducible exact laws_heldIntS.mono _ _ _)
      | (with_reducible exact laws_markIntS.mono _ _ _)
      | (with_reducible exact laws_markWaitS.mono _ _ _)
      | (with_reducible exact laws_toIntS.mono _ _)
      | (with_reducible exact laws_toWaitS.mono _ _)
      | (with_reducible exact spec_OneByOne.mono _ _ _)
      | (with_reducible exact LeO.refl _)
      | (with_reducible exact LeO.none _)
      | (with_reducible refine LeO.ite ?_ ?_)
      | (with_reducible refine LeO.bind ?_ (fun _ => ?_))
      | exact ih0 _ _ _ _ _
      | exact impl_OneByOne.mono _ _ _
      | exact laws_eqIntS.mono _ _ _
      | exact laws_eqWaitS.mono _ _ _
      | exact laws_heldIntS.mono _ _ _
      | exact laws_markIntS.mono _ _ _
      | exact laws_markWaitS.mono _ _ _
      | exact laws_toIntS.mono _ _
      | exact laws_toWaitS.mono _ _
      | exact spec_OneByOne.mono _ _ _
      | exact LeO.none _
      | refine LeO.ite ?_ ?_
      | refine LeO.bind ?_ (fun _ => ?_)
set_option maxHeartbeats 8000000 in
set_option maxRecDepth 100000 in
theorem laws_FnExactOneByOne.calls (k : Nat) (A0 : Option Addr) (c0 : Nat) (l0 : List Int) (A1 : Option Addr) (c1 : Nat) (l1 : List (S51)) (r : Bool) (w : World) (hr0 : Kd.C (Kd.int .i64) w A0 l0.length l0) (hc0 : l0.length ≤ c0) (hr1 : Kd.C k51 w A1 l1.length l1) (hc1 : l1.length ≤ c1) (h : laws_FnExactOneByOne.f k l0 l1 = some r) :
    Calls Try.prog 11 #[.slice A0 l0.length c0, .slice A1 l1.length c1] w fun e w' => e = .returned (.bool r) ∧ Below w.heap.size w w' := by
  have HR0 := Aside0.mk hr0
  have HC0 := Aside0.mk hc0
  clear hr0 hc0
  have HR1 := Aside0.mk hr1
  have HC1 := Aside0.mk hc1
  clear hr1 hc1
  have HB := Aside0.mk (Below.refl w.heap.size w)
  have H : (if (l0.length : Int) > 1048576 then (some true) else ((laws_szWaitS.f l1 1048576).bind fun t679 => (if t679 < 0 then (some true) else ((laws_toIntS.f k l0).bind fun t680 => ((laws_toWaitS.f k l1).bind fun t683 => ((spec_OneByOne.f k t680 t683).bind fun t686 => ((laws_toIntS.f k l0).bind fun t689 => ((laws_toWaitS.f k l1).bind fun t692 => ((impl_OneByOne.f k t689 t692).bind fun t695 => ((laws_eqIntS.f k t695 t686).bind fun t698 => (if t698 = true then ((laws_toIntS.f k l0).bind fun t699 => ((laws_eqIntS.f k t689 t699).bind fun t702 => (if t702 = true then ((laws_toWaitS.f k l1).bind fun t703 => ((laws_eqWaitS.f k t692 t703).bind fun t706 => (if t706 = true then ((laws_markIntS.f k t689 1).bind fun bt707 => ((laws_markWaitS.f k t692 bt707.1).bind fun bt709 => (if bt709.1 < 0 then (laws_FnExactOneByOne.j0 k l0 l1 t686 t695 true) else ((laws_eqIntS.f k t695 t686).bind fun t711 => (laws_FnExactOneByOne.j0 k l0 l1 t686 t695 (!t711)))))) else (some false)))) else (some false)))) else (some false)))))))))))) = some r := h
  clear h
  by_cases c3 : (l0.length : Int) > 1048576
  · rw [if_pos c3] at H
    have c3b0 : decide (1048576 < (l0.length : Int)) = true := decide_eq_true c3
    have c3b1 : decide (1048576 < l0.length) = true := decide_eq_true (by omega)
    clear c3
    obtain rfl := Option.some.inj H
    go_enter Try.func11, Try.ntmps11
    go_wp2
    go_ret
    exact ⟨by first | rfl | (simp [errW_none, errW_some] <;> rfl) | (simp [*, errW_none, errW_some] <;> rfl), by repeat (first | (with_reducible first | exact HB.out | apply below_alloc | apply pw_below_drewN | apply below_drew1) | exact HB.out)⟩
  · rw [if_neg c3] at H
    have c3b0 : decide (1048576 < (l0.length : Int)) = false := decide_eq_false c3
    have c3b1 : decide (1048576 < l0.length) = false := decide_eq_false (by omega)
    clear c3
    replace H := Option.bind_eq_some_iff.mp H
    obtain ⟨t679, A40, H⟩ := H
    replace H : (if t679 < 0 then (some true) else ((laws_toIntS.f k l0).bind fun t680 => ((laws_toWaitS.f k l1).bind fun t683 => ((spec_OneByOne.f k t680 t683).bind fun t686 => ((laws_toIntS.f k l0).bind fun t689 => ((laws_toWaitS.f k l1).bind fun t692 => ((impl_OneByOne.f k t689 t692).bind fun t695 => ((laws_eqIntS.f k t695 t686).bind fun t698 => (if t698 = true then ((laws_toIntS.f k l0).bind fun t699 => ((laws_eqIntS.f k t689 t699).bind fun t702 => (if t702 = true then ((laws_toWaitS.f k l1).bind fun t703 => ((laws_eqWaitS.f k t692 t703).bind fun t706 => (if t706 = true then ((laws_markIntS.f k t689 1).bind fun bt707 => ((laws_markWaitS.f k t692 bt707.1).bind fun bt709 => (if bt709.1 < 0 then (laws_FnExactOneByOne.j0 k l0 l1 t686 t695 true) else ((laws_eqIntS.f k t695 t686).bind fun t711 => (laws_FnExactOneByOne.j0 k l0 l1 t686 t695 (!t711)))))) else (some false)))) else (some false)))) else (some false)))))))))) = some r := H
    have A4 := Aside0.mk A40
    clear A40
    by_cases c5 : t679 < 0
    · rw [if_pos c5] at H
      have c5b0 : decide (t679 < 0) = true := decide_eq_true c5
      clear c5
      obtain rfl := Option.some.inj H
      go_enter Try.func11, Try.ntmps11
      go_wp2_with (first | ((with_reducible refine gate_callee (f := 15) rfl ?_); refine goesL_ (some 19) rfl rfl Try.func15 (by kernel_rfl) rfl #[.slice A1 l1.length c1, .int .i64 1048576] rfl (by (try simp only [List.map_toArray, List.map_cons, List.map_nil]); first | done | rfl | (simp only [List.length_drop, List.length_take]; rfl)) ?_; (with_reducible refine (laws_szWaitS.calls _ _ l1 1048576 t679 _ ?side1 ?side2 A4.out).mono ?_); (case side1 => repeat (first | exact HR1.out | (with_reducible refine Kd.C_alloc ?_ _) | (with_reducible refine Kd.C_drewN ?_ _) | (with_reducible refine Kd.C_drew ?_))); (case side2 => exact HC1.out); rintro e w' ⟨rfl, ⟨nd, rfl⟩⟩; refine ⟨_, rfl, ?_⟩))
      go_ret
      exact ⟨by first | rfl | (simp [errW_none, errW_some] <;> rfl) | (simp [*, errW_none, errW_some] <;> rfl), by repeat (first | (with_reducible first | exact HB.out | apply below_alloc | apply pw_below_drewN | apply below_drew1) | exact HB.out)⟩
    · rw [if_neg c5] at H
      have c5b0 : decide (t679 < 0) = false := decide_eq_false c5
      clear c5
      replace H := Option.bind_eq_some_iff.mp H
      obtain ⟨t680, A60, H⟩ := H
      replace H : ((laws_toWaitS.f k l1).bind fun t683 => ((spec_OneByOne.f k t680 t683).bind fun t686 => ((laws_toIntS.f k l0).bind fun t689 => ((laws_toWaitS.f k l1).bind fun t692 => ((impl_OneByOne.f k t689 t692).bind fun t695 => ((laws_eqIntS.f k t695 t686).bind fun t698 => (if t698 = true then ((laws_toIntS.f k l0).bind fun t699 => ((laws_eqIntS.f k t689 t699).bind fun t702 => (if t702 = true then ((laws_toWaitS.f k l1).bind fun t703 => ((laws_eqWaitS.f k t692 t703).bind fun t706 => (if t706 = true then ((laws_markIntS.f k t689 1).bind fun bt707 => ((laws_markWaitS.f k t692 bt707.1).bind fun bt709 => (if bt709.1 < 0 then (laws_FnExactOneByOne.j0 k l0 l1 t686 t695 true) else ((laws_eqIntS.f k t695 t686).bind fun t711 => (laws_FnExactOneByOne.j0 k l0 l1 t686 t695 (!t711)))))) else (some false)))) else (some false)))) else (some false)))))))) = some r := H
      have A6 := Aside0.mk A60
      clear A60
      replace H := Option.bind_eq_some_iff.mp H
      obtain ⟨t683, A70, H⟩ := H
      replace H : ((spec_OneByOne.f k t680 t683).bind fun t686 => ((laws_toIntS.f k l0).bind fun t689 => ((laws_toWaitS.f k l1).bind fun t692 => ((impl_OneByOne.f k t689 t692).bind fun t695 => ((laws_eqIntS.f k t695 t686).bind fun t698 => (if t698 = true then ((laws_toIntS.f k l0).bind fun t699 => ((laws_eqIntS.f k t689 t699).bind fun t702 => (if t702 = true then ((laws_toWaitS.f k l1).bind fun t703 => ((laws_eqWaitS.f k t692 t703).bind fun t706 => (if t706 = true then ((laws_markIntS.f k t689 1).bind fun bt707 => ((laws_markWaitS.f k t692 bt707.1).bind fun bt709 => (if bt709.1 < 0 then (laws_FnExactOneByOne.j0 k l0 l1 t686 t695 true) else ((laws_eqIntS.f k t695 t686).bind fun t711 => (laws_FnExactOneByOne.j0 k l0 l1 t686 t695 (!t711)))))) else (some false)))) else (some false)))) else (some false))))))) = some r := H
      have A7 := Aside0.mk A70
      clear A70
      replace H := Option.bind_eq_some_iff.mp H
      obtain ⟨t686, A80, H⟩ := H
      replace H : ((laws_toIntS.f k l0).bind fun t689 => ((laws_toWaitS.f k l1).bind fun t692 => ((impl_OneByOne.f k t689 t692).bind fun t695 => ((laws_eqIntS.f k t695 t686).bind fun t698 => (if t698 = true then ((laws_toIntS.f k l0).bind fun t699 => ((laws_eqIntS.f k t689 t699).bind fun t702 => (if t702 = true then ((laws_toWaitS.f k l1).bind fun t703 => ((laws_eqWaitS.f k t692 t703).bind fun t706 => (if t706 = true then ((laws_markIntS.f k t689 1).bind fun bt707 => ((laws_markWaitS.f k t692 bt707.1).bind fun bt709 => (if bt709.1 < 0 then (laws_FnExactOneByOne.j0 k l0 l1 t686 t695 true) else ((laws_eqIntS.f k t695 t686).bind fun t711 => (laws_FnExactOneByOne.j0 k l0 l1 t686 t695 (!t711)))))) else (some false)))) else (some false)))) else (some false)))))) = some r := H
      have A8 := Aside0.mk A80
      clear A80
      replace H := Option.bind_eq_some_iff.mp H
      obtain ⟨t689, A90, H⟩ := H
      replace H : ((laws_toWaitS.f k l1).bind fun t692 => ((impl_OneByOne.f k t689 t692).bind fun t695 => ((laws_eqIntS.f k t695 t686).bind fun t698 => (if t698 = true then ((laws_toIntS.f k l0).bind fun t699 => ((laws_eqIntS.f k t689 t699).bind fun t702 => (if t702 = true then ((laws_toWaitS.f k l1).bind fun t703 => ((laws_eqWaitS.f k t692 t703).bind fun t706 => (if t706 = true then ((laws_markIntS.f k t689 1).bind fun bt707 => ((laws_markWaitS.f k t692 bt707.1).bind fun bt709 => (if bt709.1 < 0 then (laws_FnExactOneByOne.j0 k l0 l1 t686 t695 true) else ((laws_eqIntS.f k t695 t686).bind fun t711 => (laws_FnExactOneByOne.j0 k l0 l1 t686 t695 (!t711)))))) else (some false)))) else (some false)))) else (some false))))) = some r := H
      have A9 := Aside0.mk A90
      clear A90
      replace H := Option.bind_eq_some_iff.mp H
      obtain ⟨t692, A100, H⟩ := H
      replace H : ((impl_OneByOne.f k t689 t692).bind fun t695 => ((laws_eqIntS.f k t695 t686).bind fun t698 => (if t698 = true then ((laws_toIntS.f k l0).bind fun t699 => ((laws_eqIntS.f k t689 t699).bind fun t702 => (if t702 = true then ((laws_toWaitS.f k l1).bind fun t703 => ((laws_eqWaitS.f k t692 t703).bind fun t706 => (if t706 = true then ((laws_markIntS.f k t689 1).bind fun bt707 => ((laws_markWaitS.f k t692 bt707.1).bind fun bt709 => (if bt709.1 < 0 then (laws_FnExactOneByOne.j0 k l0 l1 t686 t695 true) else ((laws_eqIntS.f k t695 t686).bind fun t711 => (laws_FnExactOneByOne.j0 k l0 l1 t686 t695 (!t711)))))) else (some false)))) else (some false)))) else (some false)))) = some r := H
      have A10 := Aside0.mk A100
      clear A100
      replace H := Option.bind_eq_some_iff.mp H
      obtain ⟨t695, A110, H⟩ := H
      replace H : ((laws_eqIntS.f k t695 t686).bind fun t698 => (if t698 = true then ((laws_toIntS.f k l0).bind fun t699 => ((laws_eqIntS.f k t689 t699).bind fun t702 => (if t702 = true then ((laws_toWaitS.f k l1).bind fun t703 => ((laws_eqWaitS.f k t692 t703).bind fun t706 => (if t706 = true then ((laws_markIntS.f k t689 1).bind fun bt707 => ((laws_markWaitS.f k t692 bt707.1).bind fun bt709 => (if bt709.1 < 0 then (laws_FnExactOneByOne.j0 k l0 l1 t686 t695 true) else ((laws_eqIntS.f k t695 t686).bind fun t711 => (laws_FnExactOneByOne.j0 k l0 l1 t686 t695 (!t711)))))) else (some false)))) else (some false)))) else (some false))) = some r := H
      have A11 := Aside0.mk A110
      clear A110
      replace H := Option.bind_eq_some_iff.mp H
      obtain ⟨t698, A120, H⟩ := H
      replace H : (if t698 = true then ((laws_toIntS.f k l0).bind fun t699 => ((laws_eqIntS.f k t689 t699).bind fun t702 => (if t702 = true then ((laws_toWaitS.f k l1).bind fun t703 => ((laws_eqWaitS.f k t692 t703).bind fun t706 => (if t706 = true then ((laws_markIntS.f k t689 1).bind fun bt707 => ((laws_markWaitS.f k t692 bt707.1).bind fun bt709 => (if bt709.1 < 0 then (laws_FnExactOneByOne.j0 k l0 l1 t686 t695 true) else ((laws_eqIntS.f k t695 t686).bind fun t711 => (laws_FnExactOneByOne.j0 k l0 l1 t686 t695 (!t711)))))) else (some false)))) else (some false)))) else (some false)) = some r := H
      have A12 := Aside0.mk A120
      clear A120
      by_cases c13 : t698 = true
      · subst c13
        have H1 : ((laws_toIntS.f k l0).bind fun t699 => ((laws_eqIntS.f k t689 t699).bind fun t702 => (if t702 = true then ((laws_toWaitS.f k l1).bind fun t703 => ((laws_eqWaitS.f k t692 t703).bind fun t706 => (if t706 = true then ((laws_markIntS.f k t689 1).bind fun bt707 => ((laws_markWaitS.f k t692 bt707.1).bind fun bt709 => (if bt709.1 < 0 then (laws_FnExactOneByOne.j0 k l0 l1 t686 t695 true) else ((laws_eqIntS.f k t695 t686).bind fun t711 => (laws_FnExactOneByOne.j0 k l0 l1 t686 t695 (!t711)))))) else (some false)))) else (some false)))) = some r := by rw [if_pos rfl] at H; exact H
        clear H
        have H := H1
        clear H1
        replace H := Option.bind_eq_some_iff.mp H
        obtain ⟨t699, A140, H⟩ := H
        replace H : ((laws_eqIntS.f k t689 t699).bind fun t702 => (if t702 = true then ((laws_toWaitS.f k l1).bind fun t703 => ((laws_eqWaitS.f k t692 t703).bind fun t706 => (if t706 = true then ((laws_markIntS.f k t689 1).bind fun bt707 => ((laws_markWaitS.f k t692 bt707.1).bind fun bt709 => (if bt709.1 < 0 then (laws_FnExactOneByOne.j0 k l0 l1 t686 t695 true) else ((laws_eqIntS.f k t695 t686).bind fun t711 => (laws_FnExactOneByOne.j0 k l0 l1 t686 t695 (!t711)))))) else (some false)))) else (some false))) = some r := H
        have A14 := Aside0.mk A140
        clear A140
        replace H := Option.bind_eq_some_iff.mp H
        obtain ⟨t702, A150, H⟩ := H
        replace H : (if t702 = true then ((laws_toWaitS.f k l1).bind fun t703 => ((laws_eqWaitS.f k t692 t703).bind fun t706 => (if t706 = true then ((laws_markIntS.f k t689 1).bind fun bt707 => ((laws_markWaitS.f k t692 bt707.1).bind fun bt709 => (if bt709.1 < 0 then (laws_FnExactOneByOne.j0 k l0 l1 t686 t695 true) else ((laws_eqIntS.f k t695 t686).bind fun t711 => (laws_FnExactOneByOne.j0 k l0 l1 t686 t695 (!t711)))))) else (some false)))) else (some false)) = some r := H
        have A15 := Aside0.mk A150
        clear A150
        by_cases c16 : t702 = true
        · subst c16
          have H1 : ((laws_toWaitS.f k l1).bind fun t703 => ((laws_eqWaitS.f k t692 t703).bind fun t706 => (if t706 = true then ((laws_markIntS.f k t689 1).bind fun bt707 => ((laws_markWaitS.f k t692 bt707.1).bind fun bt709 => (if bt709.1 < 0 then (laws_FnExactOneByOne.j0 k l0 l1 t686 t695 true) else ((laws_eqIntS.f k t695 t686).bind fun t711 => (laws_FnExactOneByOne.j0 k l0 l1 t686 t695 (!t711)))))) else (some false)))) = some r := by rw [if_pos rfl] at H; exact H
          clear H
          have H := H1
          clear H1
          replace H := Option.bind_eq_some_iff.mp H
          obtain ⟨t703, A170, H⟩ := H
          replace H : ((laws_eqWaitS.f k t692 t703).bind fun t706 => (if t706 = true then ((laws_markIntS.f k t689 1).bind fun bt707 => ((laws_markWaitS.f k t692 bt707.1).bind fun bt709 => (if bt709.1 < 0 then (laws_FnExactOneByOne.j0 k l0 l1 t686 t695 true) else ((laws_eqIntS.f k t695 t686).bind fun t711 => (laws_FnExactOneByOne.j0 k l0 l1 t686 t695 (!t711)))))) else (some false))) = some r := H
          have A17 := Aside0.mk A170
          clear A170
          replace H := Option.bind_eq_some_iff.mp H
          obtain ⟨t706, A180, H⟩ := H
          replace H : (if t706 = true then ((laws_markIntS.f k t689 1).bind fun bt707 => ((laws_markWaitS.f k t692 bt707.1).bind fun bt709 => (if bt709.1 < 0 then (laws_FnExactOneByOne.j0 k l0 l1 t686 t695 true) else ((laws_eqIntS.f k t695 t686).bind fun t711 => (laws_FnExactOneByOne.j0 k l0 l1 t686 t695 (!t711)))))) else (some false)) = some r := H
          have A18 := Aside0.mk A180
          clear A180
          by_cases c19 : t706 = true
          · subst c19
            have H1 : ((laws_markIntS.f k t689 1).bind fun bt707 => ((laws_markWaitS.f k t692 bt707.1).bind fun bt709 => (if bt709.1 < 0 then (laws_FnExactOneByOne.j0 k l0 l1 t686 t695 true) else ((laws_eqIntS.f k t695 t686).bind fun t711 => (laws_FnExactOneByOne.j0 k l0 l1 t686 t695 (!t711)))))) = some r := by rw [if_pos rfl] at H; exact H
            clear H
            have H := H1
            clear H1
            replace H := Option.bind_eq_some_iff.mp H
            obtain ⟨⟨t707, t708⟩, A200, H⟩ := H
            replace H : ((laws_markWaitS.f k t692 t707).bind fun bt709 => (if bt709.1 < 0 then (laws_FnExactOneByOne.j0 k l0 l1 t686 t695 true) else ((laws_eqIntS.f k t695 t686).bind fun t711 => (laws_FnExactOneByOne.j0 k l0 l1 t686 t695 (!t711))))) = some r := H
            have A20 := Aside0.mk A200
            clear A200
            replace H := Option.bind_eq_some_iff.mp H
            obtain ⟨⟨t709, t710⟩, A210, H⟩ := H
            replace H : (if t709 < 0 then (laws_FnExactOneByOne.j0 k l0 l1 t686 t695 true) else ((laws_eqIntS.f k t695 t686).bind fun t711 => (laws_FnExactOneByOne.j0 k l0 l1 t686 t695 (!t711)))) = some r := H
            have A21 := Aside0.mk A210
            clear A210
            have HC22 := Aside0.mk H
            clear H
            go_enter Try.func11, Try.ntmps11
            go_upto_region 20 with (first | ((with_reducible refine gate_callee (f := 15) rfl ?_); refine goesL_ (some 19) rfl rfl Try.func15 (by kernel_rfl) rfl #[.slice A1 l1.length c1, .int .i64 1048576] rfl (by (try simp only [List.map_toArray, List.map_cons, List.map_nil]); first | done | rfl | (simp only [List.length_drop, List.length_take]; rfl)) ?_; (with_reducible refine (laws_szWaitS.calls _ _ l1 1048576 t679 _ ?side1 ?side2 A4.out).mono ?_); (case side1 => repeat (first | exact HR1.out | (with_reducible refine Kd.C_alloc ?_ _) | (with_reducible refine Kd.C_drewN ?_ _) | (with_reducible refine Kd.C_drew ?_))); (case side2 => exact HC1.out); rintro e w' ⟨rfl, ⟨nd, rfl⟩⟩; refine ⟨_, rfl, ?_⟩) | ((with_reducible refine gate_callee (f := 17) rfl ?_); refine goesL_ (some 23) rfl rfl Try.func17 (by kernel_rfl) rfl #[.slice A0 l0.length c0] rfl (by (try simp only [List.map_toArray, List.map_cons, List.map_nil]); first | done | rfl | (simp only [List.length_drop, List.length_take]; rfl)) ?_; (with_reducible refine (laws_toIntS.calls k _ _ l0 t680 _ ?side1 ?side2 A6.out).mono ?_); (case side1 => repeat (first | exact HR0.out | (with_reducible refine Kd.C_alloc ?_ _) | (with_reducible refine Kd.C_drewN ?_ _) | (with_reducible refine Kd.C_drew ?_))); (case side2 => exact HC0.out); rintro e w23 ⟨v681, rfl, ho0, hb⟩; refine ⟨_, rfl, ?_⟩; have n0_ := Aside0.mk (Kd.R_lower ho0 (below_size (by repeat (first | (with_reducible first | exact HB.out | apply below_alloc | apply pw_below_drewN | apply below_drew1) | exact HB.out)))); have n1_ := Aside0.mk (below_step (by repeat (first | (with_reducible first | exact HB.out | apply below_alloc | apply pw_below_drewN | apply below_drew1) | exact HB.out)) hb); clear HB; have HO682 := n0_; have HB := n1_; clear n0_ n1_; (try clear hb); (try clear hb2); (try clear hk); (try clear hi); (try clear ho0)) | ((with_reducible refine gate_callee (f := 18) rfl ?_); refine goesL_ (some 25) rfl rfl Try.func18 (by kernel_rfl) rfl #[.slice A1 l1.length c1] rfl (by (try simp only [List.map_toArray, List.map_cons, List.map_nil]); first | done | rfl | (simp only [List.length_drop, List.length_take]; rfl)) ?_; (with_reducible refine (laws_toWaitS.calls k _ _ l1 t683 _ ?side1 ?side2 A7.out).mono ?_); (case side1 => repeat (first | exact (Kd.C_below HR1.out HB.out) | (with_reducible refine Kd.C_alloc ?_ _) | (with_reducible refine Kd.C_drewN ?_ _) | (with_reducible refine Kd.C_drew ?_))); (case side2 => exact HC1.out); rintro e w24 ⟨v684, rfl, ho0, hb⟩; refine ⟨_, rfl, ?_⟩; have n0_ := Aside0.mk (Kd.R_below (by (with_reducible repeat (first | apply Kd.R_alloc | apply Kd.R_drewN | apply Kd.R_drew)); exact HO682.out) hb); have n1_ := Aside0.mk (Kd.R_lower ho0 (below_size (by repeat (first | (with_reducible first | exact HB.out | apply below_alloc | apply pw_below_drewN | apply below_drew1) | exact HB.out)))); have n2_ := Aside0.mk (below_step (by repeat (first | (with_reducible first | exact HB.out | apply below_alloc | apply pw_below_drewN | apply below_drew1) | exact HB.out)) hb); clear HO682; clear HB; have HO682 := n0_; have HO685 := n1_; have HB := n2_; clear n0_ n1_ n2_; (try clear hb); (try clear hb2); (try clear hk); (try clear hi); (try clear ho0); obtain ⟨Ao25, co25, eo25⟩ := Kd.R_slice HO682.out; subst eo25; obtain ⟨Ao26, co26, eo26⟩ := Kd.R_slice HO685.out; subst eo26) | ((with_reducible refine gate_callee (f := 38) rfl ?_); refine goesL_ (some 26) rfl rfl Try.func38 (by kernel_rfl) rfl #[.slice Ao25 t680.length co25, .slice Ao26 t683.length co26] rfl (by (try simp only [List.map_toArray, List.map_cons, List.map_nil]); first | done | rfl | (simp only [List.length_drop, List.length_take]; rfl)) ?_; (with_reducible refine (spec_OneByOne.calls k _ _ t680 _ _ t683 t686 _ ?side1 ?side2 ?side3 ?side4 A8.out).mono ?_); (case side1 => repeat (first | exact (Kd.R_reads' HO682.out).2.2 | (with_reducible refine Kd.C_alloc ?_ _) | (with_reducible refine Kd.C_drewN ?_ _) | (with_reducible refine Kd.C_drew ?_))); (case side2 => exact (Kd.R_reads' HO682.out).2.1); (case side3 => repeat (first | exact (Kd.R_reads' HO685.out).2.2 | (with_reducible refine Kd.C_alloc ?_ _) | (with_reducible refine Kd.C_drewN ?_ _) | (with_reducible refine Kd.C_drew ?_))); (case side4 => exact (Kd.R_reads' HO685.out).2.1); rintro e w27 ⟨v687, rfl, ho0, hb⟩; refine ⟨_, rfl, ?_⟩; have n0_ := Aside0.mk (Kd.R_elder' (by (with_reducible repeat (first | apply Kd.R_alloc | apply Kd.R_drewN | apply Kd.R_drew)); exact HO682.out) (Kd.R_base ho0) hb); have n1_ := Aside0.mk (Kd.R_below (by (with_reducible repeat (first | apply Kd.R_alloc | apply Kd.R_drewN | apply Kd.R_drew)); exact HO685.out) hb); have n2_ := Aside0.mk (Kd.R_lower (Kd.R_new' ho0 (Kd.R_lt (by (with_reducible repeat (first | apply Kd.R_alloc | apply Kd.R_drewN | apply Kd.R_drew)); exact HO682.out))) (below_size (by repeat (first | (with_reducible first | exact HB.out | apply below_alloc | apply pw_below_drewN | apply below_drew1) | exact HB.out)))); have n3_ := Aside0.mk (below_step (by repeat (first | (with_reducible first | exact HB.out | apply below_alloc | apply pw_below_drewN | apply below_drew1) | exact HB.out)) hb); clear HO682; clear HO685; clear HB; have HO682 := n0_; have HO685 := n1_; have HO688 := n2_; have HB := n3_; clear n0_ n1_ n2_ n3_; (try clear hb); (try clear hb2); (try clear hk); (try clear hi); (try clear ho0)) | ((with_reducible refine gate_callee (f := 17) rfl ?_); refine goesL_ (some 28) rfl rfl Try.func17 (by kernel_rfl) rfl #[.slice A0 l0.length c0] rfl (by (try simp only [List.map_toArray, List.map_cons, List.map_nil]); first | done | rfl | (simp only [List.length_drop, List.length_take]; rfl)) ?_; (with_reducible refine (laws_toIntS.calls k _ _ l0 t689 _ ?side1 ?side2 A9.out).mono ?_); (case side1 => repeat (first | exact (Kd.C_below HR0.out HB.out) | (with_reducible refine Kd.C_alloc ?_ _) | (with_reducible refine Kd.C_drewN ?_ _) | (with_reducible refine Kd.C_drew ?_))); (case side2 => exact HC0.out); rintro e w28 ⟨v690, rfl, ho0, hb⟩; refine ⟨_, rfl, ?_⟩; have n0_ := Aside0.mk (Kd.R_elder' (by (with_reducible repeat (first | apply Kd.R_alloc | apply Kd.R_drewN | apply Kd.R_drew)); exact HO682.out) (Kd.R_base ho0) hb); have n1_ := Aside0.mk (Kd.R_below (by (with_reducible repeat (first | apply Kd.R_alloc | apply Kd.R_drewN | apply Kd.R_drew)); exact HO685.out) hb); have n2_ := Aside0.mk (Kd.R_elder' (by (with_reducible repeat (first | apply Kd.R_alloc | apply Kd.R_drewN | apply Kd.R_drew)); exact HO688.out) (Kd.R_base ho0) hb); have n3_ := Aside0.mk (Kd.R_lower (Kd.R_new' (Kd.R_new' ho0 (Kd.R_lt (by (with_reducible repeat (first | apply Kd.R_alloc | apply Kd.R_drewN | apply Kd.R_drew)); exact HO682.out))) (Kd.R_lt (by (with_reducible repeat (first | apply Kd.R_alloc | apply Kd.R_drewN | apply Kd.R_drew)); exact HO688.out))) (below_size (by repeat (first | (with_reducible first | exact HB.out | apply below_alloc | apply pw_below_drewN | apply below_drew1) | exact HB.out)))); have n4_ := Aside0.mk (below_step (by repeat (first | (with_reducible first | exact HB.out | apply below_alloc | apply pw_below_drewN | apply below_drew1) | exact HB.out)) hb); clear HO682; clear HO685; clear HO688; clear HB; have HO682 := n0_; have HO685 := n1_; have HO688 := n2_; have HO691 := n3_; have HB := n4_; clear n0_ n1_ n2_ n3_ n4_; (try clear hb); (try clear hb2); (try clear hk); (try clear hi); (try clear ho0)) | ((with_reducible refine gate_callee (f := 18) rfl ?_); refine goesL_ (some 30) rfl rfl Try.func18 (by kernel_rfl) rfl #[.slice A1 l1.length c1] rfl (by (try simp only [List.map_toArray, List.map_cons, List.map_nil]); first | done | rfl | (simp only [List.length_drop, List.length_take]; rfl)) ?_; (with_reducible refine (laws_toWaitS.calls k _ _ l1 t692 _ ?side1 ?side2 A10.out).mono ?_); (case side1 => repeat (first | exact (Kd.C_below HR1.out HB.out) | (with_reducible refine Kd.C_alloc ?_ _) | (with_reducible refine Kd.C_drewN ?_ _) | (with_reducible refine Kd.C_drew ?_))); (case side2 => exact HC1.out); rintro e w29 ⟨v693, rfl, ho0, hb⟩; refine ⟨_, rfl, ?_⟩; have n0_ := Aside0.mk (Kd.R_below (by (with_reducible repeat (first | apply Kd.R_alloc | apply Kd.R_drewN | apply Kd.R_drew)); exact HO682.out) hb); have n1_ := Aside0.mk (Kd.R_elder' (by (with_reducible repeat (first | apply Kd.R_alloc | apply Kd.R_drewN | apply Kd.R_drew)); exact HO685.out) (Kd.R_base ho0) hb); have n2_ := Aside0.mk (Kd.R_below (by (with_reducible repeat (first | apply Kd.R_alloc | apply Kd.R_drewN | apply Kd.R_drew)); exact HO688.out) hb); have n3_ := Aside0.mk (Kd.R_below (by (with_reducible repeat (first | apply Kd.R_alloc | apply Kd.R_drewN | apply Kd.R_drew)); exact HO691.out) hb); have n4_ := Aside0.mk (Kd.R_lower (Kd.R_new' ho0 (Kd.R_lt (by (with_reducible repeat (first | apply Kd.R_alloc | apply Kd.R_drewN | apply Kd.R_drew)); exact HO685.out))) (below_size (by repeat (first | (with_reducible first | exact HB.out | apply below_alloc | apply pw_below_drewN | apply below_drew1) | exact HB.out)))); have n5_ := Aside0.mk (below_step (by repeat (first | (with_reducible first | exact HB.out | apply below_alloc | apply pw_below_drewN | apply below_drew1) | exact HB.out)) hb); clear HO682; clear HO685; clear HO688; clear HO691; clear HB; have HO682 := n0_; have HO685 := n1_; have HO688 := n2_; have HO691 := n3_; have HO694 := n4_; have HB := n5_; clear n0_ n1_ n2_ n3_ n4_ n5_; (try clear hb); (try clear hb2); (try clear hk); (try clear hi); (try clear ho0); obtain ⟨Ao30, co30, eo30⟩ := Kd.R_slice HO691.out; subst eo30; obtain ⟨Ao31, co31, eo31⟩ := Kd.R_slice HO694.out; subst eo31) | ((with_reducible refine gate_callee (f := 39) rfl ?_); refine goesL_ (some 33) rfl rfl Try.func39 (by kernel_rfl) rfl #[.slice Ao30 t689.length co30, .slice Ao31 t692.length co31] rfl (by (try simp only [List.map_toArray, List.map_cons, List.map_nil]); first | done | rfl | (simp only [List.length_drop, List.length_take]; rfl)) ?_; (with_reducible refine (impl_OneByOne.calls k _ _ t689 _ _ t692 t695 _ ?side1 ?side2 ?side3 ?side4 A11.out).mono ?_); (case side1 => repeat (first | exact (Kd.R_reads' HO691.out).2.2 | (with_reducible refine Kd.C_alloc ?_ _) | (with_reducible refine Kd.C_drewN ?_ _) | (with_reducible refine Kd.C_drew ?_))); (case side2 => exact (Kd.R_reads' HO691.out).2.1); (case side3 => repeat (first | exact (Kd.R_reads' HO694.out).2.2 | (with_reducible refine Kd.C_alloc ?_ _) | (with_reducible refine Kd.C_drewN ?_ _) | (with_reducible refine Kd.C_drew ?_))); (case side4 => exact (Kd.R_reads' HO694.out).2.1); rintro e w32 ⟨v696, rfl, ho0, hb⟩; refine ⟨_, rfl, ?_⟩; have n0_ := Aside0.mk (Kd.R_elder' (by (with_reducible repeat (first | apply Kd.R_alloc | apply Kd.R_drewN | apply Kd.R_drew)); exact HO682.out) (Kd.R_base ho0) hb); have n1_ := Aside0.mk (Kd.R_below (by (with_reducible repeat (first | apply Kd.R_alloc | apply Kd.R_drewN | apply Kd.R_drew)); exact HO685.out) hb); have n2_ := Aside0.mk (Kd.R_elder' (by (with_reducible repeat (first | apply Kd.R_alloc | apply Kd.R_drewN | apply Kd.R_drew)); exact HO688.out) (Kd.R_base ho0) hb); have n3_ := Aside0.mk (Kd.R_elder' (by (with_reducible repeat (first | apply Kd.R_alloc | apply Kd.R_drewN | apply Kd.R_drew)); exact HO691.out) (Kd.R_base ho0) hb); have n4_ := Aside0.mk (Kd.R_below (by (with_reducible repeat (first | apply Kd.R_alloc | apply Kd.R_drewN | apply Kd.R_drew)); exact HO694.out) hb); have n5_ := Aside0.mk (Kd.R_lower (Kd.R_new' (Kd.R_new' (Kd.R_new' ho0 (Kd.R_lt (by (with_reducible repeat (first | apply Kd.R_alloc | apply Kd.R_drewN | apply Kd.R_drew)); exact HO682.out))) (Kd.R_lt (by (with_reducible repeat (first | apply Kd.R_alloc | apply Kd.R_drewN | apply Kd.R_drew)); exact HO688.out))) (Kd.R_lt (by (with_reducible repeat (first | apply Kd.R_alloc | apply Kd.R_drewN | apply Kd.R_drew)); exact HO691.out))) (below_size (by repeat (first | (with_reducible first | exact HB.out | apply below_alloc | apply pw_below_drewN | apply below_drew1) | exact HB.out)))); have n6_ := Aside0.mk (below_step (by repeat (first | (with_reducible first | exact HB.out | apply below_alloc | apply pw_below_drewN | apply below_drew1) | exact HB.out)) hb); clear HO682; clear HO685; clear HO688; clear HO691; clear HO694; clear HB; have HO682 := n0_; have HO685 := n1_; have HO688 := n2_; have HO691 := n3_; have HO694 := n4_; have HO697 := n5_; have HB := n6_; clear n0_ n1_ n2_ n3_ n4_ n5_ n6_; (try clear hb); (try clear hb2); (try clear hk); (try clear hi); (try clear ho0); obtain ⟨Ao33, co33, eo33⟩ := Kd.R_slice HO697.out; subst eo33; obtain ⟨Ao34, co34, eo34⟩ := Kd.R_slice HO688.out; subst eo34) | ((with_reducible refine gate_callee (f := 20) rfl ?_); refine goesL_ (some 36) rfl rfl Try.func20 (by kernel_rfl) rfl #[.slice Ao33 t695.length co33, .slice Ao34 t686.length co34] rfl (by (try simp only [List.map_toArray, List.map_cons, List.map_nil]); first | done | rfl | (simp only [List.length_drop, List.length_take]; rfl)) ?_; (with_reducible refine (laws_eqIntS.calls k _ _ t695 _ _ t686 true _ ?side1 ?side2 ?side3 ?side4 A12.out).mono ?_); (case side1 => repeat (first | exact (Kd.R_reads' HO697.out).2.2 | (with_reducible refine Kd.C_alloc ?_ _) | (with_reducible refine Kd.C_drewN ?_ _) | (with_reducible refine Kd.C_drew ?_))); (case side2 => exact (Kd.R_reads' HO697.out).2.1); (case side3 => repeat (first | exact (Kd.R_reads' HO688.out).2.2 | (with_reducible refine Kd.C_alloc ?_ _) | (with_reducible refine Kd.C_drewN ?_ _) | (with_reducible refine Kd.C_drew ?_))); (case side4 => exact (Kd.R_reads' HO688.out).2.1); rintro e w' ⟨rfl, ⟨nd, rfl⟩⟩; refine ⟨_, rfl, ?_⟩) | ((with_reducible refine gate_callee (f := 17) rfl ?_); refine goesL_ (some 40) rfl rfl Try.func17 (by kernel_rfl) rfl #[.slice A0 l0.length c0] rfl (by (try simp only [List.map_toArray, List.map_cons, List.map_nil]); first | done | rfl | (simp only [List.length_drop, List.length_take]; rfl)) ?_; (with_reducible refine (laws_toIntS.calls k _ _ l0 t699 _ ?side1 ?side2 A14.out).mono ?_); (case side1 => repeat (first | exact (Kd.C_below HR0.out (by repeat (first | (with_reducible first | exact HB.out | apply below_alloc | apply pw_below_drewN | apply below_drew1) | exact HB.out))) | (with_reducible refine Kd.C_alloc ?_ _) | (with_reducible refine Kd.C_drewN ?_ _) | (with_reducible refine Kd.C_drew ?_))); (case side2 => exact HC0.out); rintro e w35 ⟨v700, rfl, ho0, hb⟩; refine ⟨_, rfl, ?_⟩; have n0_ := Aside0.mk (Kd.R_elder' (by (with_reducible repeat (first | apply Kd.R_alloc | apply Kd.R_drewN | apply Kd.R_drew)); exact HO682.out) (Kd.R_base ho0) hb); have n1_ := Aside0.mk (Kd.R_below (by (with_reducible repeat (first | apply Kd.R_alloc | apply Kd.R_drewN | apply Kd.R_drew)); exact HO685.out) hb); have n2_ := Aside0.mk (Kd.R_elder' (by (with_reducible repeat (first | apply Kd.R_alloc | apply Kd.R_drewN | apply Kd.R_drew)); exact HO688.out) (Kd.R_base ho0) hb); have n3_ := Aside0.mk (Kd.R_elder' (by (with_reducible repeat (first | apply Kd.R_alloc | apply Kd.R_drewN | apply Kd.R_drew)); exact HO691.out) (Kd.R_base ho0) hb); have n4_ := Aside0.mk (Kd.R_below (by (with_reducible repeat (first | apply Kd.R_alloc | apply Kd.R_drewN | apply Kd.R_drew)); exact HO694.out) hb); have n5_ := Aside0.mk (Kd.R_elder' (by (with_reducible repeat (first | apply Kd.R_alloc | apply Kd.R_drewN | apply Kd.R_drew)); exact HO697.out) (Kd.R_base ho0) hb); have n6_ := Aside0.mk (Kd.R_lower (Kd.R_new' (Kd.R_new' (Kd.R_new' (Kd.R_new' ho0 (Kd.R_lt (by (with_reducible repeat (first | apply Kd.R_alloc | apply Kd.R_drewN | apply Kd.R_drew)); exact HO682.out))) (Kd.R_lt (by (with_reducible repeat (first | apply Kd.R_alloc | apply Kd.R_drewN | apply Kd.R_drew)); exact HO688.out))) (Kd.R_lt (by (with_reducible repeat (first | apply Kd.R_alloc | apply Kd.R_drewN | apply Kd.R_drew)); exact HO691.out))) (Kd.R_lt (by (with_reducible repeat (first | apply Kd.R_alloc | apply Kd.R_drewN | apply Kd.R_drew)); exact HO697.out))) (below_size (by repeat (first | (with_reducible first | exact HB.out | apply below_alloc | apply pw_below_drewN | apply below_drew1) | exact HB.out)))); have n7_ := Aside0.mk (below_step (by repeat (first | (with_reducible first | exact HB.out | apply below_alloc | apply pw_below_drewN | apply below_drew1) | exact HB.out)) hb); clear HO682; clear HO685; clear HO688; clear HO691; clear HO694; clear HO697; clear HB; have HO682 := n0_; have HO685 := n1_; have HO688 := n2_; have HO691 := n3_; have HO694 := n4_; have HO697 := n5_; have HO701 := n6_; have HB := n7_; clear n0_ n1_ n2_ n3_ n4_ n5_ n6_ n7_; (try clear hb); (try clear hb2); (try clear hk); (try clear hi); (try clear ho0); obtain ⟨Ao36, co36, eo36⟩ := Kd.R_slice HO701.out; subst eo36) | ((with_reducible refine gate_callee (f := 20) rfl ?_); refine goesL_ (some 41) rfl rfl Try.func20 (by kernel_rfl) rfl #[.slice Ao30 t689.length co30, .slice Ao36 t699.length co36] rfl (by (try simp only [List.map_toArray, List.map_cons, List.map_nil]); first | done | rfl | (simp only [List.length_drop, List.length_take]; rfl)) ?_; (with_reducible refine (laws_eqIntS.calls k _ _ t689 _ _ t699 true _ ?side1 ?side2 ?side3 ?side4 A15.out).mono ?_); (case side1 => repeat (first | exact (Kd.R_reads' HO691.out).2.2 | (with_reducible refine Kd.C_alloc ?_ _) | (with_reducible refine Kd.C_drewN ?_ _) | (with_reducible refine Kd.C_drew ?_))); (case side2 => exact (Kd.R_reads' HO691.out).2.1); (case side3 => repeat (first | exact (Kd.R_reads' HO701.out).2.2 | (with_reducible refine Kd.C_alloc ?_ _) | (with_reducible refine Kd.C_drewN ?_ _) | (with_reducible refine Kd.C_drew ?_))); (case side4 => exact (Kd.R_reads' HO701.out).2.1); rintro e w' ⟨rfl, ⟨nd, rfl⟩⟩; refine ⟨_, rfl, ?_⟩) | ((with_reducible refine gate_callee (f := 18) rfl ?_); refine goesL_ (some 45) rfl rfl Try.func18 (by kernel_rfl) rfl #[.slice A1 l1.length c1] rfl (by (try simp only [List.map_toArray, List.map_cons, List.map_nil]); first | done | rfl | (simp only [List.length_drop, List.length_take]; rfl)) ?_; (with_reducible refine (laws_toWaitS.calls k _ _ l1 t703 _ ?side1 ?side2 A17.out).mono ?_); (case side1 => repeat (first | exact (Kd.C_below HR1.out (by repeat (first | (with_reducible first | exact HB.out | apply below_alloc | apply pw_below_drewN | apply below_drew1) | exact HB.out))) | (with_reducible refine Kd.C_alloc ?_ _) | (with_reducible refine Kd.C_drewN ?_ _) | (with_reducible refine Kd.C_drew ?_))); (case side2 => exact HC1.out); rintro e w37 ⟨v704, rfl, ho0, hb⟩; refine ⟨_, rfl, ?_⟩; have n0_ := Aside0.mk (Kd.R_below (by (with_reducible repeat (first | apply Kd.R_alloc | apply Kd.R_drewN | apply Kd.R_drew)); exact HO682.out) hb); have n1_ := Aside0.mk (Kd.R_elder' (by (with_reducible repeat (first | apply Kd.R_alloc | apply Kd.R_drewN | apply Kd.R_drew)); exact HO685.out) (Kd.R_base ho0) hb); have n2_ := Aside0.mk (Kd.R_below (by (with_reducible repeat (first | apply Kd.R_alloc | apply Kd.R_drewN | apply Kd.R_drew)); exact HO688.out) hb); have n3_ := Aside0.mk (Kd.R_below (by (with_reducible repeat (first | apply Kd.R_alloc | apply Kd.R_drewN | apply Kd.R_drew)); exact HO691.out) hb); have n4_ := Aside0.mk (Kd.R_elder' (by (with_reducible repeat (first | apply Kd.R_alloc | apply Kd.R_drewN | apply Kd.R_drew)); exact HO694.out) (Kd.R_base ho0) hb); have n5_ := Aside0.mk (Kd.R_below (by (with_reducible repeat (first | apply Kd.R_alloc | apply Kd.R_drewN | apply Kd.R_drew)); exact HO697.out) hb); have n6_ := Aside0.mk (Kd.R_below (by (with_reducible repeat (first | apply Kd.R_alloc | apply Kd.R_drewN | apply Kd.R_drew)); exact HO701.out) hb); have n7_ := Aside0.mk (Kd.R_lower (Kd.R_new' (Kd.R_new' ho0 (Kd.R_lt (by (with_reducible repeat (first | apply Kd.R_alloc | apply Kd.R_drewN | apply Kd.R_drew)); exact HO685.out))) (Kd.R_lt (by (with_reducible repeat (first | apply Kd.R_alloc | apply Kd.R_drewN | apply Kd.R_drew)); exact HO694.out))) (below_size (by repeat (first | (with_reducible first | exact HB.out | apply below_alloc | apply pw_below_drewN | apply below_drew1) | exact HB.out)))); have n8_ := Aside0.mk (below_step (by repeat (first | (with_reducible first | exact HB.out | apply below_alloc | apply pw_below_drewN | apply below_drew1) | exact HB.out)) hb); clear HO682; clear HO685; clear HO688; clear HO691; clear HO694; clear HO697; clear HO701; clear HB; have HO682 := n0_; have HO685 := n1_; have HO688 := n2_; have HO691 := n3_; have HO694 := n4_; have HO697 := n5_; have HO701 := n6_; have HO705 := n7_; have HB := n8_; clear n0_ n1_ n2_ n3_ n4_ n5_ n6_ n7_ n8_; (try clear hb); (try clear hb2); (try clear hk); (try clear hi); (try clear ho0); obtain ⟨Ao38, co38, eo38⟩ := Kd.R_slice HO705.out; subst eo38) | ((with_reducible refine gate_callee (f := 21) rfl ?_); refine goesL_ (some 46) rfl rfl Try.func21 (by kernel_rfl) rfl #[.slice Ao31 t692.length co31, .slice Ao38 t703.length co38] rfl (by (try simp only [List.map_toArray, List.map_cons, List.map_nil]); first | done | rfl | (simp only [List.length_drop, List.length_take]; rfl)) ?_; (with_reducible refine (laws_eqWaitS.calls k _ _ t692 _ _ t703 true _ ?side1 ?side2 ?side3 ?side4 A18.out).mono ?_); (case side1 => repeat (first | exact (Kd.R_reads' HO694.out).2.2 | (with_reducible refine Kd.C_alloc ?_ _) | (with_reducible refine Kd.C_drewN ?_ _) | (with_reducible refine Kd.C_drew ?_))); (case side2 => exact (Kd.R_reads' HO694.out).2.1); (case side3 => repeat (first | exact (Kd.R_reads' HO705.out).2.2 | (with_reducible refine Kd.C_alloc ?_ _) | (with_reducible refine Kd.C_drewN ?_ _) | (with_reducible refine Kd.C_drew ?_))); (case side4 => exact (Kd.R_reads' HO705.out).2.1); rintro e w39 ⟨rfl, hb⟩; refine ⟨_, rfl, ?_⟩; have n0_ := Aside0.mk (Kd.R_below (by (with_reducible repeat (first | apply Kd.R_alloc | apply Kd.R_drewN | apply Kd.R_drew)); exact HO682.out) hb); have n1_ := Aside0.mk (Kd.R_below (by (with_reducible repeat (first | apply Kd.R_alloc | apply Kd.R_drewN | apply Kd.R_drew)); exact HO685.out) hb); have n2_ := Aside0.mk (Kd.R_below (by (with_reducible repeat (first | apply Kd.R_alloc | apply Kd.R_drewN | apply Kd.R_drew)); exact HO688.out) hb); have n3_ := Aside0.mk (Kd.R_below (by (with_reducible repeat (first | apply Kd.R_alloc | apply Kd.R_drewN | apply Kd.R_drew)); exact HO691.out) hb); have n4_ := Aside0.mk (Kd.R_below (by (with_reducible repeat (first | apply Kd.R_alloc | apply Kd.R_drewN | apply Kd.R_drew)); exact HO694.out) hb); have n5_ := Aside0.mk (Kd.R_below (by (with_reducible repeat (first | apply Kd.R_alloc | apply Kd.R_drewN | apply Kd.R_drew)); exact HO697.out) hb); have n6_ := Aside0.mk (Kd.R_below (by (with_reducible repeat (first | apply Kd.R_alloc | apply Kd.R_drewN | apply Kd.R_drew)); exact HO701.out) hb); have n7_ := Aside0.mk (Kd.R_below (by (with_reducible repeat (first | apply Kd.R_alloc | apply Kd.R_drewN | apply Kd.R_drew)); exact HO705.out) hb); have n8_ := Aside0.mk (below_step (by repeat (first | (with_reducible first | exact HB.out | apply below_alloc | apply pw_below_drewN | apply below_drew1) | exact HB.out)) hb); clear HO682; clear HO685; clear HO688; clear HO691; clear HO694; clear HO697; clear HO701; clear HO705; clear HB; have HO682 := n0_; have HO685 := n1_; have HO688 := n2_; have HO691 := n3_; have HO694 := n4_; have HO697 := n5_; have HO701 := n6_; have HO705 := n7_; have HB := n8_; clear n0_ n1_ n2_ n3_ n4_ n5_ n6_ n7_ n8_; (try clear hb); (try clear hb2); (try clear hk); (try clear hi)) | ((with_reducible refine gate_callee (f := 26) rfl ?_); refine goesL_ (some 50) rfl rfl Try.func26 (by kernel_rfl) rfl #[.slice Ao30 t689.length co30, .int .i64 1] rfl (by (try simp only [List.map_toArray, List.map_cons, List.map_nil]); first | done | rfl | (simp only [List.length_drop, List.length_take]; rfl)) ?_; (with_reducible refine (laws_markIntS.calls k (fun k_ => some k_ = (.slice Ao30 t689.length co30 : Value).ownBlock) (.slice Ao30 t689.length co30) t689 1 t707 t708 w _ ?side1 ?side2 A20.out).mono ?_); (case side1 => repeat (first | (with_reducible first | exact HB.out | apply below_alloc | apply pw_below_drewN | apply below_drew1) | exact HB.out)); (case side2 => exact Kd.R_tight rfl HO691.out); rintro e w40 ⟨rfl, hy0, hb, hkp⟩; refine ⟨_, rfl, ?_⟩; have n0_ := Aside0.mk (Kd.R_mono (ok' := fun k_ => some k_ ≠ (.slice Ao34 t686.length co34 : Value).ownBlock ∧ some k_ ≠ (.slice Ao30 t689.length co30 : Value).ownBlock ∧ some k_ ≠ (.slice Ao33 t695.length co33 : Value).ownBlock ∧ some k_ ≠ (.slice Ao36 t699.length co36 : Value).ownBlock) (Kd.R_keptB (HO682.out) hkp (fun k_ hk_ hs_ => (hk_.1.1.2) hs_)) (fun k_ hk_ => ⟨hk_.1.1.1.1.2, hk_.1.1.1.2, hk_.1.1.2, hk_.1.2⟩)); have n1_ := Aside0.mk (Kd.R_mono (ok' := fun k_ => some k_ ≠ (.slice Ao31 t692.length co31 : Value).ownBlock ∧ some k_ ≠ (.slice Ao38 t703.length co38 : Value).ownBlock) (Kd.R_keptB ((Kd.R_apart' HO685.out (Kd.R_typed HO691.out) (by decide))) hkp (fun k_ hk_ hs_ => (hk_.2) hs_)) (fun k_ hk_ => ⟨hk_.1.1.1.2, hk_.1.1.2⟩)); have n2_ := Aside0.mk (Kd.R_mono (ok' := fun k_ => some k_ ≠ (.slice Ao25 t680.length co25 : Value).ownBlock ∧ some k_ ≠ (.slice Ao30 t689.length co30 : Value).ownBlock ∧ some k_ ≠ (.slice Ao33 t695.length co33 : Value).ownBlock ∧ some k_ ≠ (.slice Ao36 t699.length co36 : Value).ownBlock) (Kd.R_keptB (HO688.out) hkp (fun k_ hk_ hs_ => (hk_.1.1.2) hs_)) (fun k_ hk_ => ⟨hk_.1.1.1.1.2, hk_.1.1.1.2, hk_.1.1.2, hk_.1.2⟩)); have n3_ := Aside0.mk (Kd.R_reok rfl hy0 (fun k_ e_ => HO691.out.1 k_ e_)); have n4_ := Aside0.mk (Kd.R_mono (ok' := fun k_ => some k_ ≠ (.slice Ao26 t683.length co26 : Value).ownBlock ∧ some k_ ≠ (.slice Ao38 t703.length co38 : Value).ownBlock) (Kd.R_keptB ((Kd.R_apart' HO694.out (Kd.R_typed HO691.out) (by decide))) hkp (fun k_ hk_ hs_ => (hk_.2) hs_)) (fun k_ hk_ => ⟨hk_.1.1.1.2, hk_.1.1.2⟩)); have n5_ := Aside0.mk (Kd.R_mono (ok' := fun k_ => some k_ ≠ (.slice Ao25 t680.length co25 : Value).ownBlock ∧ some k_ ≠ (.slice Ao34 t686.length co34 : Value).ownBlock ∧ some k_ ≠ (.slice Ao30 t689.length co30 : Value).ownBlock ∧ some k_ ≠ (.slice Ao36 t699.length co36 : Value).ownBlock) (Kd.R_keptB (HO697.out) hkp (fun k_ hk_ hs_ => (hk_.1.2) hs_)) (fun k_ hk_ => ⟨hk_.1.1.1.1.2, hk_.1.1.1.2, hk_.1.1.2, hk_.1.2⟩)); have n6_ := Aside0.mk (Kd.R_mono (ok' := fun k_ => some k_ ≠ (.slice Ao25 t680.length co25 : Value).ownBlock ∧ some k_ ≠ (.slice Ao34 t686.length co34 : Value).ownBlock ∧ some k_ ≠ (.slice Ao30 t689.length co30 : Value).ownBlock ∧ some k_ ≠ (.slice Ao33 t695.length co33 : Value).ownBlock) (Kd.R_keptB (HO701.out) hkp (fun k_ hk_ hs_ => (hk_.1.2) hs_)) (fun k_ hk_ => ⟨hk_.1.1.1.1.2, hk_.1.1.1.2, hk_.1.1.2, hk_.1.2⟩)); have n7_ := Aside0.mk (Kd.R_mono (ok' := fun k_ => some k_ ≠ (.slice Ao26 t683.length co26 : Value).ownBlock ∧ some k_ ≠ (.slice Ao31 t692.length co31 : Value).ownBlock) (Kd.R_keptB ((Kd.R_apart' HO705.out (Kd.R_typed HO691.out) (by decide))) hkp (fun k_ hk_ hs_ => (hk_.2) hs_)) (fun k_ hk_ => ⟨hk_.1.1.1.2, hk_.1.1.2⟩)); have n8_ := Aside0.mk (hb); clear HO682; clear HO685; clear HO688; clear HO691; clear HO694; clear HO697; clear HO701; clear HO705; clear HB; have HO682 := n0_; have HO685 := n1_; have HO688 := n2_; have HO691 := n3_; have HO694 := n4_; have HO697 := n5_; have HO701 := n6_; have HO705 := n7_; have HB := n8_; clear n0_ n1_ n2_ n3_ n4_ n5_ n6_ n7_ n8_; (try clear hb); (try clear hkp); (try clear hy0)) | ((with_reducible refine gate_callee (f := 27) rfl ?_); refine goesL_ (some 53) rfl rfl Try.func27 (by kernel_rfl) rfl #[.slice Ao31 t692.length co31, .int .i64 t707] rfl (by (try simp only [List.map_toArray, List.map_cons, List.map_nil]); first | done | rfl | (simp only [List.length_drop, List.length_take]; rfl)) ?_; (with_reducible refine (laws_markWaitS.calls k (fun k_ => some k_ = (.slice Ao31 t692.length co31 : Value).ownBlock) (.slice Ao31 t692.length co31) t692 t707 t709 t710 w _ ?side1 ?side2 A21.out).mono ?_); (case side1 => repeat (first | (with_reducible first | exact HB.out | apply below_alloc | apply pw_below_drewN | apply below_drew1) | exact HB.out)); (case side2 => exact Kd.R_tight rfl HO694.out); rintro e w41 ⟨rfl, hy0, hb, hkp⟩; refine ⟨_, rfl, ?_⟩; have n0_ := Aside0.mk (Kd.R_mono (ok' := fun k_ => some k_ ≠ (.slice Ao34 t686.length co34 : Value).ownBlock ∧ some k_ ≠ (.slice Ao30 t689.length co30 : Value).ownBlock ∧ some k_ ≠ (.slice Ao33 t695.length co33 : Value).ownBlock ∧ some k_ ≠ (.slice Ao36 t699.length co36 : Value).ownBlock) (Kd.R_keptB ((Kd.R_apart' HO682.out (Kd.R_typed HO694.out) (by decide))) hkp (fun k_ hk_ hs_ => (hk_.2) hs_)) (fun k_ hk_ => ⟨hk_.1.1.1, hk_.1.1.2.1, hk_.1.1.2.2.1, hk_.1.1.2.2.2⟩)); have n1_ := Aside0.mk (Kd.R_mono (ok' := fun k_ => some k_ ≠ (.slice Ao31 t692.length co31 : Value).ownBlock ∧ some k_ ≠ (.slice Ao38 t703.length co38 : Value).ownBlock) (Kd.R_keptB (HO685.out) hkp (fun k_ hk_ hs_ => (hk_.1) hs_)) (fun k_ hk_ => ⟨hk_.1.1, hk_.1.2⟩)); have n2_ := Aside0.mk (Kd.R_mono (ok' := fun k_ => some k_ ≠ (.slice Ao25 t680.length co25 : Value).ownBlock ∧ some k_ ≠ (.slice Ao30 t689.length co30 : Value).ownBlock ∧ some k_ ≠ (.slice Ao33 t695.length co33 : Value).ownBlock ∧ some k_ ≠ (.slice Ao36 t699.length co36 : Value).ownBlock) (Kd.R_keptB ((Kd.R_apart' HO688.out (Kd.R_typed HO694.out) (by decide))) hkp (fun k_ hk_ hs_ => (hk_.2) hs_)) (fun k_ hk_ => ⟨hk_.1.1.1, hk_.1.1.2.1, hk_.1.1.2.2.1, hk_.1.1.2.2.2⟩)); have n3_ := Aside0.mk (Kd.R_mono (ok' := fun k_ => some k_ ≠ (.slice Ao25 t680.length co25 : Value).ownBlock ∧ some k_ ≠ (.slice Ao34 t686.length co34 : Value).ownBlock ∧ some k_ ≠ (.slice Ao33 t695.length co33 : Value).ownBlock ∧ some k_ ≠ (.slice Ao36 t699.length co36 : Value).ownBlock) (Kd.R_keptB ((Kd.R_apart' HO691.out (Kd.R_typed HO694.out) (by decide))) hkp (fun k_ hk_ hs_ => (hk_.2) hs_)) (fun k_ hk_ => ⟨hk_.1.1.1.1.1.2, hk_.1.1.1.1.2, hk_.1.1.1.2, hk_.1.1.2⟩)); have n4_ := Aside0.mk (Kd.R_reok rfl hy0 (fun k_ e_ => HO694.out.1 k_ e_)); have n5_ := Aside0.mk (Kd.R_mono (ok' := fun k_ => some k_ ≠ (.slice Ao25 t680.length co25 : Value).ownBlock ∧ some k_ ≠ (.slice Ao34 t686.length co34 : Value).ownBlock ∧ some k_ ≠ (.slice Ao30 t689.length co30 : Value).ownBlock ∧ some k_ ≠ (.slice Ao36 t699.length co36 : Value).ownBlock) (Kd.R_keptB ((Kd.R_apart' HO697.out (Kd.R_typed HO694.out) (by decide))) hkp (fun k_ hk_ hs_ => (hk_.2) hs_)) (fun k_ hk_ => ⟨hk_.1.1.1, hk_.1.1.2.1, hk_.1.1.2.2.1, hk_.1.1.2.2.2⟩)); have n6_ := Aside0.mk (Kd.R_mono (ok' := fun k_ => some k_ ≠ (.slice Ao25 t680.length co25 : Value).ownBlock ∧ some k_ ≠ (.slice Ao34 t686.length co34 : Value).ownBlock ∧ some k_ ≠ (.slice Ao30 t689.length co30 : Value).ownBlock ∧ some k_ ≠ (.slice Ao33 t695.length co33 : Value).ownBlock) (Kd.R_keptB ((Kd.R_apart' HO701.out (Kd.R_typed HO694.out) (by decide))) hkp (fun k_ hk_ hs_ => (hk_.2) hs_)) (fun k_ hk_ => ⟨hk_.1.1.1, hk_.1.1.2.1, hk_.1.1.2.2.1, hk_.1.1.2.2.2⟩)); have n7_ := Aside0.mk (Kd.R_mono (ok' := fun k_ => some k_ ≠ (.slice Ao26 t683.length co26 : Value).ownBlock ∧ some k_ ≠ (.slice Ao31 t692.length co31 : Value).ownBlock) (Kd.R_keptB (HO705.out) hkp (fun k_ hk_ hs_ => (hk_.2) hs_)) (fun k_ hk_ => ⟨hk_.1.1, hk_.1.2⟩)); have n8_ := Aside0.mk (hb); clear HO682; clear HO685; clear HO688; clear HO691; clear HO694; clear HO697; clear HO701; clear HO705; clear HB; have HO682 := n0_; have HO685 := n1_; have HO688 := n2_; have HO691 := n3_; have HO694 := n4_; have HO697 := n5_; have HO701 := n6_; have HO705 := n7_; have HB := n8_; clear n0_ n1_ n2_ n3_ n4_ n5_ n6_ n7_ n8_; (try clear hb); (try clear hkp); (try clear hy0)))
            (try simp only [Act.put, List.setIfInBounds_toArray, List.set_cons_zero, List.set_cons_succ])
            go_cut [61] (fun v61 wc => ∃ (kq : Nat) (x61_21 : Bool), v61 = .bool x61_21 ∧ Aside0 (laws_FnExactOneByOne.j0 kq l0 l1 t686 t695 x61_21 = some r) ∧ Aside0 (kq ≤ k) ∧ Aside0 (Kd.R (Kd.int .i64) 3 wc w.heap.size (fun k_ => some k_ ≠ ((.slice Ao33 t695.length co33) : Value).ownBlock) (.slice Ao34 t686.length co34) t686) ∧ Aside0 (Kd.R (Kd.int .i64) 3 wc w.heap.size (fun k_ => some k_ ≠ ((.slice Ao34 t686.length co34) : Value).ownBlock) (.slice Ao33 t695.length co33) t695) ∧ Aside0 (Below w.heap.size w wc))
            case first =>
              have H := HC22.out
              clear HC22
              by_cases c42 : t709 < 0
              · rw [if_pos c42] at H
                have c42b0 : decide (t709 < 0) = true := decide_eq_true c42
                clear c42
                (first | rw [c42b0] | (simp only [i64_w, i32_w]; rw [c42b0]) | skip)
                have H' := Aside0.mk H
                clear H
                go_wp2
                go_meet
                case rel => exact ⟨_, (true), (by first | rfl | (simp; done) | (simp [*]; done)), H', ⟨by first | omega | exact Nat.le_refl _⟩, ⟨by (with_reducible repeat (first | apply Kd.R_alloc | apply Kd.R_drewN | apply Kd.R_drew)); exact Kd.R_mono HO688.out (fun _ hk => hk.2.2.1)⟩, ⟨by (with_reducible repeat (first | apply Kd.R_alloc | apply Kd.R_drewN | apply Kd.R_drew)); exact Kd.R_mono HO697.out (fun _ hk => hk.2.1)⟩, ⟨by repeat (first | (with_reducible first | exact HB.out | apply below_alloc | apply pw_below_drewN | apply below_drew1) | exact HB.out)⟩⟩
              · rw [if_neg c42] at H
                have c42b0 : decide (t709 < 0) = false := decide_eq_false c42
                clear c42
                (first | rw [c42b0] | (simp only [i64_w, i32_w]; rw [c42b0]) | skip)
                replace H := Option.bind_eq_some_iff.mp H
                obtain ⟨t711, A430, H⟩ := H
                replace H : (laws_FnExactOneByOne.j0 k l0 l1 t686 t695 (!t711)) = some r := H
                have A43 := Aside0.mk A430
                clear A430
                have H' := Aside0.mk H
                clear H
                go_wp2_with (first | (go_at_call 20; (with_reducible refine (laws_eqIntS.calls k _ _ t695 _ _ t686 t711 _ ?side1 ?side2 ?side3 ?side4 A43.out).mono ?_); (case side1 => repeat (first | exact (Kd.R_reads' HO697.out).2.2 | (with_reducible refine Kd.C_alloc ?_ _) | (with_reducible refine Kd.C_drewN ?_ _) | (with_reducible refine Kd.C_drew ?_))); (case side2 => exact (Kd.R_reads' HO697.out).2.1); (case side3 => repeat (first | exact (Kd.R_reads' HO688.out).2.2 | (with_reducible refine Kd.C_alloc ?_ _) | (with_reducible refine Kd.C_drewN ?_ _) | (with_reducible refine Kd.C_drew ?_))); (case side4 => exact (Kd.R_reads' HO688.out).2.1); rintro e w' ⟨rfl, ⟨nd, rfl⟩⟩))
                go_meet
                case rel => exact ⟨_, (!t711), (by first | rfl | (simp; done) | (simp [*]; done)), H', ⟨by first | omega | exact Nat.le_refl _⟩, ⟨by (with_reducible repeat (first | apply Kd.R_alloc | apply Kd.R_drewN | apply Kd.R_drew)); exact Kd.R_mono HO688.out (fun _ hk => hk.2.2.1)⟩, ⟨by (with_reducible repeat (first | apply Kd.R_alloc | apply Kd.R_drewN | apply Kd.R_drew)); exact Kd.R_mono HO697.out (fun _ hk => hk.2.1)⟩, ⟨by repeat (first | (with_reducible first | exact HB.out | apply below_alloc | apply pw_below_drewN | apply below_drew1) | exact HB.out)⟩⟩
            case rest =>
              clear HC22
              try clear c1
              try clear c2
              try clear p2
              try clear c3
              try clear c3b0
              try clear c3b1
              try clear c4
              try clear c5
              try clear c5b0
              try clear c11
              try clear c13
              try clear c15
              try clear c16
              try clear c17
              try clear c18
              try clear c19
              try clear c20
              try clear c21
              try clear c26
              try clear c27
              try clear c38
              try clear c39
              try clear c42
              try clear c42b0
              obtain ⟨kq, x61_21, rfl, HA, HJ21, HO_6, HO_9, HB⟩ := hcut
              cases kq with
              | zero => exact absurd HA.out (by simp [laws_FnExactOneByOne.j0])
              | succ kj21 =>
                have H := HA.out
                clear HA
                simp only [laws_FnExactOneByOne.j0] at H
                by_cases c44 : x61_21 = true
                · subst c44
                  have H1 : (some false) = some r := by rw [if_pos rfl] at H; exact H
                  clear H
                  have H := H1
                  clear H1
                  obtain rfl := Option.some.inj H
                  go_wp2
                  go_ret
                  exact ⟨by first | rfl | (simp [errW_none, errW_some] <;> rfl) | (simp [*, errW_none, errW_some] <;> rfl), by repeat (first | (with_reducible first | exact HB.out | apply below_alloc | apply pw_below_drewN | apply below_drew1) | exact HB.out)⟩
                · replace c44 := Bool.eq_false_iff.mpr c44
                  subst c44
                  have H1 : ((laws_markIntS.f kj21 t695 1).bind fun bt712 => ((laws_heldIntS.f kj21 bt712.2 1).bind fun t714 => (if t714 < 0 then (some false) else (if t714 = bt712.1 then ((laws_toIntS.f kj21 l0).bind fun t715 => ((laws_toWaitS.f kj21 l1).bind fun t718 => ((impl_OneByOne.f kj21 t715 t718).bind fun t721 => ((laws_eqIntS.f kj21 t721 t686).bind fun t724 => (if t724 = true then ((laws_heldIntS.f kj21 bt712.2 1).bind fun t725 => (if t725 < 0 then (some false) else (if t725 = bt712.1 then (some true) else (some false)))) else (some false)))))) else (some false))))) = some r := by rw [if_neg (show ¬ (false = true) by decide)] at H; exact H
                  clear H
                  have H := H1
                  clear H1
                  replace H := Option.bind_eq_some_iff.mp H
                  obtain ⟨⟨t712, t713⟩, A450, H⟩ := H
                  replace H : ((laws_heldIntS.f kj21 t713 1).bind fun t714 => (if t714 < 0 then (some false) else (if t714 = t712 then ((laws_toIntS.f kj21 l0).bind fun t715 => ((laws_toWaitS.f kj21 l1).bind fun t718 => ((impl_OneByOne.f kj21 t715 t718).bind fun t721 => ((laws_eqIntS.f kj21 t721 t686).bind fun t724 => (if t724 = true then ((laws_heldIntS.f kj21 t713 1).bind fun t725 => (if t725 < 0 then (some false) else (if t725 = t712 then (some true) else (some false)))) else (some false)))))) else (some false)))) = some r := H
                  have A45 := Aside0.mk A450
                  clear A450
                  replace H := Option.bind_eq_some_iff.mp H
                  obtain ⟨t714, A460, H⟩ := H
                  replace H : (if t714 < 0 then (some false) else (if t714 = t712 then ((laws_toIntS.f kj21 l0).bind fun t715 => ((laws_toWaitS.f kj21 l1).bind fun t718 => ((impl_OneByOne.f kj21 t715 t718).bind fun t721 => ((laws_eqIntS.f kj21 t721 t686).bind fun t724 => (if t724 = true then ((laws_heldIntS.f kj21 t713 1).bind fun t725 => (if t725 < 0 then (some false) else (if t725 = t712 then (some true) else (some false)))) else (some false)))))) else (some false))) = some r := H
                  have A46 := Aside0.mk A460
                  clear A460
                  by_cases c47 : t714 < 0
                  · rw [if_pos c47] at H
                    have c47b0 : decide (t714 < 0) = true := decide_eq_true c47
                    clear c47
                    obtain rfl := Option.some.inj H
                    go_wp2_with (first | ((with_reducible refine gate_callee (f := 26) rfl ?_); refine goesL_ (some 64) rfl rfl Try.func26 (by kernel_rfl) rfl #[.slice Ao33 t695.length co33, .int .i64 1] rfl (by (try simp only [List.map_toArray, List.map_cons, List.map_nil]); first | done | rfl | (simp only [List.length_drop, List.length_take]; rfl)) ?_; (with_reducible refine (laws_markIntS.calls kj21 (fun k_ => some k_ = (.slice Ao33 t695.length co33 : Value).ownBlock) (.slice Ao33 t695.length co33) t695 1 t712 t713 w _ ?side1 ?side2 A45.out).mono ?_); (case side1 => repeat (first | (with_reducible first | exact HB.out | apply below_alloc | apply pw_below_drewN | apply below_drew1) | exact HB.out)); (case side2 => exact Kd.R_tight rfl HO_9.out); rintro e w48 ⟨rfl, hy0, hb, hkp⟩; refine ⟨_, rfl, ?_⟩; have n0_ := Aside0.mk (Kd.R_mono (ok' := fun k_ => some k_ ≠ (.slice Ao33 t695.length co33 : Value).ownBlock) (Kd.R_keptB (HO_6.out) hkp (fun k_ hk_ hs_ => (hk_) hs_)) (fun k_ hk_ => hk_.1)); have n1_ := Aside0.mk (Kd.R_reok rfl hy0 (fun k_ e_ => HO_9.out.1 k_ e_)); have n2_ := Aside0.mk (hb); clear HO_6; clear HO_9; clear HB; have HO_6 := n0_; have HO_9 := n1_; have HB := n2_; clear n0_ n1_ n2_; (try clear hb); (try clear hkp); (try clear hy0)) | ((with_reducible refine gate_callee (f := 28) rfl ?_); refine goesL_ (some 67) rfl rfl Try.func28 (by kernel_rfl) rfl #[.slice Ao33 t713.length co33, .int .i64 1] rfl (by (try simp only [List.map_toArray, List.map_cons, List.map_nil]); first | done | (rw [show t713.length = t695.length from (Kd.R_reads' HO_9.out).1.symm] <;> rfl) | rfl | (simp only [List.length_drop, List.length_take]; rfl)) ?_; (with_reducible refine (laws_heldIntS.calls kj21 _ _ t713 1 t714 _ ?side1 ?side2 A46.out).mono ?_); (case side1 => repeat (first | exact (Kd.R_reads' HO_9.out).2.2 | (with_reducible refine Kd.C_alloc ?_ _) | (with_reducible refine Kd.C_drewN ?_ _) | (with_reducible refine Kd.C_drew ?_))); (case side2 => rw [show t713.length = t695.length from (Kd.R_reads' HO_9.out).1.symm]; exact (Kd.R_reads' HO_9.out).2.1); rintro e w' ⟨rfl, ⟨nd, rfl⟩⟩; refine ⟨_, rfl, ?_⟩))
                    go_ret
                    exact ⟨by first | rfl | (simp [errW_none, errW_some] <;> rfl) | (simp [*, errW_none, errW_some] <;> rfl), by repeat (first | (with_reducible first | exact HB.out | apply below_alloc | apply pw_below_drewN | apply below_drew1) | exact HB.out)⟩
                  · rw [if_neg c47] at H
                    have c47b0 : decide (t714 < 0) = false := decide_eq_false c47
                    clear c47
                    by_cases c49 : t714 = t712
                    · rw [if_pos c49] at H
                      have c49b0 : (t714 == t712) = true := beq_iff_eq.mpr c49
                      have c49b1 : (t714 != t712) = false := bne_eq_false_iff_eq.mpr c49
                      clear c49
                      replace H := Option.bind_eq_some_iff.mp H
                      obtain ⟨t715, A500, H⟩ := H
                      replace H : ((laws_toWaitS.f kj21 l1).bind fun t718 => ((impl_OneByOne.f kj21 t715 t718).bind fun t721 => ((laws_eqIntS.f kj21 t721 t686).bind fun t724 => (if t724 = true then ((laws_heldIntS.f kj21 t713 1).bind fun t725 => (if t725 < 0 then (some false) else (if t725 = t712 then (some true) else (some false)))) else (some false))))) = some r := H
                      have A50 := Aside0.mk A500
                      clear A500
                      replace H := Option.bind_eq_some_iff.mp H
                      obtain ⟨t718, A510, H⟩ := H
                      replace H : ((impl_OneByOne.f kj21 t715 t718).bind fun t721 => ((laws_eqIntS.f kj21 t721 t686).bind fun t724 => (if t724 = true then ((laws_heldIntS.f kj21 t713 1).bind fun t725 => (if t725 < 0 then (some false) else (if t725 = t712 then (some true) else (some false)))) else (some false)))) = some r := H
                      have A51 := Aside0.mk A510
                      clear A510
                      replace H := Option.bind_eq_some_iff.mp H
                      obtain ⟨t721, A520, H⟩ := H
                      replace H : ((laws_eqIntS.f kj21 t721 t686).bind fun t724 => (if t724 = true then ((laws_heldIntS.f kj21 t713 1).bind fun t725 => (if t725 < 0 then (some false) else (if t725 = t712 then (some true) else (some false)))) else (some false))) = some r := H
                      have A52 := Aside0.mk A520
                      clear A520
                      replace H := Option.bind_eq_some_iff.mp H
                      obtain ⟨t724, A530, H⟩ := H
                      replace H : (if t724 = true then ((laws_heldIntS.f kj21 t713 1).bind fun t725 => (if t725 < 0 then (some false) else (if t725 = t712 then (some true) else (some false)))) else (some false)) = some r := H
                      have A53 := Aside0.mk A530
                      clear A530
                      by_cases c54 : t724 = true
                      · subst c54
                        have H1 : ((laws_heldIntS.f kj21 t713 1).bind fun t725 => (if t725 < 0 then (some false) else (if t725 = t712 then (some true) else (some false)))) = some r := by rw [if_pos rfl] at H; exact H
                        clear H
                        have H := H1
                        clear H1
                        replace H := Option.bind_eq_some_iff.mp H
                        obtain ⟨t725, A550, H⟩ := H
                        replace H : (if t725 < 0 then (some false) else (if t725 = t712 then (some true) else (some false))) = some r := H
                        have A55 := Aside0.mk A550
                        clear A550
                        by_cases c56 : t725 < 0
                        · rw [if_pos c56] at H
                          have c56b0 : decide (t725 < 0) = true := decide_eq_true c56
                          clear c56
                          obtain rfl := Option.some.inj H
                          go_wp2_with (first | ((with_reducible refine gate_callee (f := 26) rfl ?_); refine goesL_ (some 64) rfl rfl Try.func26 (by kernel_rfl) rfl #[.slice Ao33 t695.length co33, .int .i64 1] rfl (by (try simp only [List.map_toArray, List.map_cons, List.map_nil]); first | done | rfl | (simp only [List.length_drop, List.length_take]; rfl)) ?_; (with_reducible refine (laws_markIntS.calls kj21 (fun k_ => some k_ = (.slice Ao33 t695.length co33 : Value).ownBlock) (.slice Ao33 t695.length co33) t695 1 t712 t713 w _ ?side1 ?side2 A45.out).mono ?_); (case side1 => repeat (first | (with_reducible first | exact HB.out | apply below_alloc | apply pw_below_drewN | apply below_drew1) | exact HB.out)); (case side2 => exact Kd.R_tight rfl HO_9.out); rintro e w57 ⟨rfl, hy0, hb, hkp⟩; refine ⟨_, rfl, ?_⟩; have n0_ := Aside0.mk (Kd.R_mono (ok' := fun k_ => some k_ ≠ (.slice Ao33 t695.length co33 : Value).ownBlock) (Kd.R_keptB (HO_6.out) hkp (fun k_ hk_ hs_ => (hk_) hs_)) (fun k_ hk_ => hk_.1)); have n1_ := Aside0.mk (Kd.R_reok rfl hy0 (fun k_ e_ => HO_9.out.1 k_ e_)); have n2_ := Aside0.mk (hb); clear HO_6; clear HO_9; clear HB; have HO_6 := n0_; have HO_9 := n1_; have HB := n2_; clear n0_ n1_ n2_; (try clear hb); (try clear hkp); (try clear hy0)) | ((with_reducible refine gate_callee (f := 28) rfl ?_); refine goesL_ (some 67) rfl rfl Try.func28 (by kernel_rfl) rfl #[.slice Ao33 t713.length co33, .int .i64 1] rfl (by (try simp only [List.map_toArray, List.map_cons, List.map_nil]); first | done | (rw [show t713.length = t695.length from (Kd.R_reads' HO_9.out).1.symm] <;> rfl) | rfl | (simp only [List.length_drop, List.length_take]; rfl)) ?_; (with_reducible refine (laws_heldIntS.calls kj21 _ _ t713 1 t714 _ ?side1 ?side2 A46.out).mono ?_); (case side1 => repeat (first | exact (Kd.R_reads' HO_9.out).2.2 | (with_reducible refine Kd.C_alloc ?_ _) | (with_reducible refine Kd.C_drewN ?_ _) | (with_reducible refine Kd.C_drew ?_))); (case side2 => rw [show t713.length = t695.length from (Kd.R_reads' HO_9.out).1.symm]; exact (Kd.R_reads' HO_9.out).2.1); rintro e w' ⟨rfl, ⟨nd, rfl⟩⟩; refine ⟨_, rfl, ?_⟩) | ((with_reducible refine gate_callee (f := 17) rfl ?_); refine goesL_ (some 74) rfl rfl Try.func17 (by kernel_rfl) rfl #[.slice A0 l0.length c0] rfl (by (try simp only [List.map_toArray, List.map_cons, List.map_nil]); first | done | rfl | (simp only [List.length_drop, List.length_take]; rfl)) ?_; (with_reducible refine (laws_toIntS.calls kj21 _ _ l0 t715 _ ?side1 ?side2 A50.out).mono ?_); (case side1 => repeat (first | exact (Kd.C_below HR0.out (by repeat (first | (with_reducible first | exact HB.out | apply below_alloc | apply pw_below_drewN | apply below_drew1) | exact HB.out))) | (with_reducible refine Kd.C_alloc ?_ _) | (with_reducible refine Kd.C_drewN ?_ _) | (with_reducible refine Kd.C_drew ?_))); (case side2 => exact HC0.out); rintro e w58 ⟨v716, rfl, ho0, hb⟩; refine ⟨_, rfl, ?_⟩; have n0_ := Aside0.mk (Kd.R_elder' (by (with_reducible repeat (first | apply Kd.R_alloc | apply Kd.R_drewN | apply Kd.R_drew)); exact HO_6.out) (Kd.R_base ho0) hb); have n1_ := Aside0.mk (Kd.R_elder' (by (with_reducible repeat (first | apply Kd.R_alloc | apply Kd.R_drewN | apply Kd.R_drew)); exact HO_9.out) (Kd.R_base ho0) hb); have n2_ := Aside0.mk (Kd.R_lower (Kd.R_new' (Kd.R_new' ho0 (Kd.R_lt (by (with_reducible repeat (first | apply Kd.R_alloc | apply Kd.R_drewN | apply Kd.R_drew)); exact HO_6.out))) (Kd.R_lt (by (with_reducible repeat (first | apply Kd.R_alloc | apply Kd.R_drewN | apply Kd.R_drew)); exact HO_9.out))) (below_size (by repeat (first | (with_reducible first | exact HB.out | apply below_alloc | apply pw_below_drewN | apply below_drew1) | exact HB.out)))); have n3_ := Aside0.mk (below_step (by repeat (first | (with_reducible first | exact HB.out | apply below_alloc | apply pw_below_drewN | apply below_drew1) | exact HB.out)) hb); clear HO_6; clear HO_9; clear HB; have HO_6 := n0_; have HO_9 := n1_; have HO717 := n2_; have HB := n3_; clear n0_ n1_ n2_ n3_; (try clear hb); (try clear hb2); (try clear hk); (try clear hi); (try clear ho0)) | ((with_reducible refine gate_callee (f := 18) rfl ?_); refine goesL_ (some 76) rfl rfl Try.func18 (by kernel_rfl) rfl #[.slice A1 l1.length c1] rfl (by (try simp only [List.map_toArray, List.map_cons, List.map_nil]); first | done | rfl | (simp only [List.length_drop, List.length_take]; rfl)) ?_; (with_reducible refine (laws_toWaitS.calls kj21 _ _ l1 t718 _ ?side1 ?side2 A51.out).mono ?_); (case side1 => repeat (first | exact (Kd.C_below HR1.out HB.out) | (with_reducible refine Kd.C_alloc ?_ _) | (with_reducible refine Kd.C_drewN ?_ _) | (with_reducible refine Kd.C_drew ?_))); (case side2 => exact HC1.out); rintro e w59 ⟨v719, rfl, ho0, hb⟩; refine ⟨_, rfl, ?_⟩; have n0_ := Aside0.mk (Kd.R_below (by (with_reducible repeat (first | apply Kd.R_alloc | apply Kd.R_drewN | apply Kd.R_drew)); exact HO_6.out) hb); have n1_ := Aside0.mk (Kd.R_below (by (with_reducible repeat (first | apply Kd.R_alloc | apply Kd.R_drewN | apply Kd.R_drew)); exact HO_9.out) hb); have n2_ := Aside0.mk (Kd.R_below (by (with_reducible repeat (first | apply Kd.R_alloc | apply Kd.R_drewN | apply Kd.R_drew)); exact HO717.out) hb); have n3_ := Aside0.mk (Kd.R_lower ho0 (below_size (by repeat (first | (with_reducible first | exact HB.out | apply below_alloc | apply pw_below_drewN | apply below_drew1) | exact HB.out)))); have n4_ := Aside0.mk (below_step (by repeat (first | (with_reducible first | exact HB.out | apply below_alloc | apply pw_below_drewN | apply below_drew1) | exact HB.out)) hb); clear HO_6; clear HO_9; clear HO717; clear HB; have HO_6 := n0_; have HO_9 := n1_; have HO717 := n2_; have HO720 := n3_; have HB := n4_; clear n0_ n1_ n2_ n3_ n4_; (try clear hb); (try clear hb2); (try clear hk); (try clear hi); (try clear ho0); obtain ⟨Ao60, co60, eo60⟩ := Kd.R_slice HO717.out; subst eo60; obtain ⟨Ao61, co61, eo61⟩ := Kd.R_slice HO720.out; subst eo61) | ((with_reducible refine gate_callee (f := 39) rfl ?_); refine goesL_ (some 77) rfl rfl Try.func39 (by kernel_rfl) rfl #[.slice Ao60 t715.length co60, .slice Ao61 t718.length co61] rfl (by (try simp only [List.map_toArray, List.map_cons, List.map_nil]); first | done | rfl | (simp only [List.length_drop, List.length_take]; rfl)) ?_; (with_reducible refine (impl_OneByOne.calls kj21 _ _ t715 _ _ t718 t721 _ ?side1 ?side2 ?side3 ?side4 A52.out).mono ?_); (case side1 => repeat (first | exact (Kd.R_reads' HO717.out).2.2 | (with_reducible refine Kd.C_alloc ?_ _) | (with_reducible refine Kd.C_drewN ?_ _) | (with_reducible refine Kd.C_drew ?_))); (case side2 => exact (Kd.R_reads' HO717.out).2.1); (case side3 => repeat (first | exact (Kd.R_reads' HO720.out).2.2 | (with_reducible refine Kd.C_alloc ?_ _) | (with_reducible refine Kd.C_drewN ?_ _) | (with_reducible refine Kd.C_drew ?_))); (case side4 => exact (Kd.R_reads' HO720.out).2.1); rintro e w62 ⟨v722, rfl, ho0, hb⟩; refine ⟨_, rfl, ?_⟩; have n0_ := Aside0.mk (Kd.R_elder' (by (with_reducible repeat (first | apply Kd.R_alloc | apply Kd.R_drewN | apply Kd.R_drew)); exact HO_6.out) (Kd.R_base ho0) hb); have n1_ := Aside0.mk (Kd.R_elder' (by (with_reducible repeat (first | apply Kd.R_alloc | apply Kd.R_drewN | apply Kd.R_drew)); exact HO_9.out) (Kd.R_base ho0) hb); have n2_ := Aside0.mk (Kd.R_elder' (by (with_reducible repeat (first | apply Kd.R_alloc | apply Kd.R_drewN | apply Kd.R_drew)); exact HO717.out) (Kd.R_base ho0) hb); have n3_ := Aside0.mk (Kd.R_below (by (with_reducible repeat (first | apply Kd.R_alloc | apply Kd.R_drewN | apply Kd.R_drew)); exact HO720.out) hb); have n4_ := Aside0.mk (Kd.R_lower (Kd.R_new' (Kd.R_new' (Kd.R_new' ho0 (Kd.R_lt (by (with_reducible repeat (first | apply Kd.R_alloc | apply Kd.R_drewN | apply Kd.R_drew)); exact HO_6.out))) (Kd.R_lt (by (with_reducible repeat (first | apply Kd.R_alloc | apply Kd.R_drewN | apply Kd.R_drew)); exact HO_9.out))) (Kd.R_lt (by (with_reducible repeat (first | apply Kd.R_alloc | apply Kd.R_drewN | apply Kd.R_drew)); exact HO717.out))) (below_size (by repeat (first | (with_reducible first | exact HB.out | apply below_alloc | apply pw_below_drewN | apply below_drew1) | exact HB.out)))); have n5_ := Aside0.mk (below_step (by repeat (first | (with_reducible first | exact HB.out | apply below_alloc | apply pw_below_drewN | apply below_drew1) | exact HB.out)) hb); clear HO_6; clear HO_9; clear HO717; clear HO720; clear HB; have HO_6 := n0_; have HO_9 := n1_; have HO717 := n2_; have HO720 := n3_; have HO723 := n4_; have HB := n5_; clear n0_ n1_ n2_ n3_ n4_ n5_; (try clear hb); (try clear hb2); (try clear hk); (try clear hi); (try clear ho0); obtain ⟨Ao63, co63, eo63⟩ := Kd.R_slice HO723.out; subst eo63) | ((with_reducible refine gate_callee (f := 20) rfl ?_); refine goesL_ (some 80) rfl rfl Try.func20 (by kernel_rfl) rfl #[.slice Ao63 t721.length co63, .slice Ao34 t686.length co34] rfl (by (try simp only [List.map_toArray, List.map_cons, List.map_nil]); first | done | rfl | (simp only [List.length_drop, List.length_take]; rfl)) ?_; (with_reducible refine (laws_eqIntS.calls kj21 _ _ t721 _ _ t686 true _ ?side1 ?side2 ?side3 ?side4 A53.out).mono ?_); (case side1 => repeat (first | exact (Kd.R_reads' HO723.out).2.2 | (with_reducible refine Kd.C_alloc ?_ _) | (with_reducible refine Kd.C_drewN ?_ _) | (with_reducible refine Kd.C_drew ?_))); (case side2 => exact (Kd.R_reads' HO723.out).2.1); (case side3 => repeat (first | exact (Kd.R_reads' HO_6.out).2.2 | (with_reducible refine Kd.C_alloc ?_ _) | (with_reducible refine Kd.C_drewN ?_ _) | (with_reducible refine Kd.C_drew ?_))); (case side4 => exact (Kd.R_reads' HO_6.out).2.1); rintro e w' ⟨rfl, ⟨nd, rfl⟩⟩; refine ⟨_, rfl, ?_⟩) | ((with_reducible refine gate_callee (f := 28) rfl ?_); refine goesL_ (some 84) rfl rfl Try.func28 (by kernel_rfl) rfl #[.slice Ao33 t713.length co33, .int .i64 1] rfl (by (try simp only [List.map_toArray, List.map_cons, List.map_nil]); first | done | (rw [show t713.length = t695.length from (Kd.R_reads' HO_9.out).1.symm] <;> rfl) | rfl | (simp only [List.length_drop, List.length_take]; rfl)) ?_; (with_reducible refine (laws_heldIntS.calls kj21 _ _ t713 1 t725 _ ?side1 ?side2 A55.out).mono ?_); (case side1 => repeat (first | exact (Kd.R_reads' HO_9.out).2.2 | (with_reducible refine Kd.C_alloc ?_ _) | (with_reducible refine Kd.C_drewN ?_ _) | (with_reducible refine Kd.C_drew ?_))); (case side2 => rw [show t713.length = t695.length from (Kd.R_reads' HO_9.out).1.symm]; exact (Kd.R_reads' HO_9.out).2.1); rintro e w' ⟨rfl, ⟨nd, rfl⟩⟩; refine ⟨_, rfl, ?_⟩))
                          go_ret
                          exact ⟨by first | rfl | (simp [errW_none, errW_some] <;> rfl) | (simp [*, errW_none, errW_some] <;> rfl), by repeat (first | (with_reducible first | exact HB.out | apply below_alloc | apply pw_below_drewN | apply below_drew1) | exact HB.out)⟩
                        · rw [if_neg c56] at H
                          have c56b0 : decide (t725 < 0) = false := decide_eq_false c56
                          clear c56
                          by_cases c64 : t725 = t712
                          · rw [if_pos c64] at H
                            have c64b0 : (t725 == t712) = true := beq_iff_eq.mpr c64
                            have c64b1 : (t725 != t712) = false := bne_eq_false_iff_eq.mpr c64
                            clear c64
                            obtain rfl := Option.some.inj H
                            go_wp2_with (first | ((with_reducible refine gate_callee (f := 26) rfl ?_); refine goesL_ (some 64) rfl rfl Try.func26 (by kernel_rfl) rfl #[.slice Ao33 t695.length co33, .int .i64 1] rfl (by (try simp only [List.map_toArray, List.map_cons, List.map_nil]); first | done | rfl | (simp only [List.length_drop, List.length_take]; rfl)) ?_; (with_reducible refine (laws_markIntS.calls kj21 (fun k_ => some k_ = (.slice Ao33 t695.length co33 : Value).ownBlock) (.slice Ao33 t695.length co33) t695 1 t712 t713 w _ ?side1 ?side2 A45.out).mono ?_); (case side1 => repeat (first | (with_reducible first | exact HB.out | apply below_alloc | apply pw_below_drewN | apply below_drew1) | exact HB.out)); (case side2 => exact Kd.R_tight rfl HO_9.out); rintro e w65 ⟨rfl, hy0, hb, hkp⟩; refine ⟨_, rfl, ?_⟩; have n0_ := Aside0.mk (Kd.R_mono (ok' := fun k_ => some k_ ≠ (.slice Ao33 t695.length co33 : Value).ownBlock) (Kd.R_keptB (HO_6.out) hkp (fun k_ hk_ hs_ => (hk_) hs_)) (fun k_ hk_ => hk_.1)); have n1_ := Aside0.mk (Kd.R_reok rfl hy0 (fun k_ e_ => HO_9.out.1 k_ e_)); have n2_ := Aside0.mk (hb); clear HO_6; clear HO_9; clear HB; have HO_6 := n0_; have HO_9 := n1_; have HB := n2_; clear n0_ n1_ n2_; (try clear hb); (try clear hkp); (try clear hy0)) | ((with_reducible refine gate_callee (f := 28) rfl ?_); refine goesL_ (some 67) rfl rfl Try.func28 (by kernel_rfl) rfl #[.slice Ao33 t713.length co33, .int .i64 1] rfl (by (try simp only [List.map_toArray, List.map_cons, List.map_nil]); first | done | (rw [show t713.length = t695.length from (Kd.R_reads' HO_9.out).1.symm] <;> rfl) | rfl | (simp only [List.length_drop, List.length_take]; rfl)) ?_; (with_reducible refine (laws_heldIntS.calls kj21 _ _ t713 1 t714 _ ?side1 ?side2 A46.out).mono ?_); (case side1 => repeat (first | exact (Kd.R_reads' HO_9.out).2.2 | (with_reducible refine Kd.C_alloc ?_ _) | (with_reducible refine Kd.C_drewN ?_ _) | (with_reducible refine Kd.C_drew ?_))); (case side2 => rw [show t713.length = t695.length from (Kd.R_reads' HO_9.out).1.symm]; exact (Kd.R_reads' HO_9.out).2.1); rintro e w' ⟨rfl, ⟨nd, rfl⟩⟩; refine ⟨_, rfl, ?_⟩) | ((with_reducible refine gate_callee (f := 17) rfl ?_); refine goesL_ (some 74) rfl rfl Try.func17 (by kernel_rfl) rfl #[.slice A0 l0.length c0] rfl (by (try simp only [List.map_toArray, List.map_cons, List.map_nil]); first | done | rfl | (simp only [List.length_drop, List.length_take]; rfl)) ?_; (with_reducible refine (laws_toIntS.calls kj21 _ _ l0 t715 _ ?side1 ?side2 A50.out).mono ?_); (case side1 => repeat (first | exact (Kd.C_below HR0.out (by repeat (first | (with_reducible first | exact HB.out | apply below_alloc | apply pw_below_drewN | apply below_drew1) | exact HB.out))) | (with_reducible refine Kd.C_alloc ?_ _) | (with_reducible refine Kd.C_drewN ?_ _) | (with_reducible refine Kd.C_drew ?_))); (case side2 => exact HC0.out); rintro e w66 ⟨v716, rfl, ho0, hb⟩; refine ⟨_, rfl, ?_⟩; have n0_ := Aside0.mk (Kd.R_elder' (by (with_reducible repeat (first | apply Kd.R_alloc | apply Kd.R_drewN | apply Kd.R_drew)); exact HO_6.out) (Kd.R_base ho0) hb); have n1_ := Aside0.mk (Kd.R_elder' (by (with_reducible repeat (first | apply Kd.R_alloc | apply Kd.R_drewN | apply Kd.R_drew)); exact HO_9.out) (Kd.R_base ho0) hb); have n2_ := Aside0.mk (Kd.R_lower (Kd.R_new' (Kd.R_new' ho0 (Kd.R_lt (by (with_reducible repeat (first | apply Kd.R_alloc | apply Kd.R_drewN | apply Kd.R_drew)); exact HO_6.out))) (Kd.R_lt (by (with_reducible repeat (first | apply Kd.R_alloc | apply Kd.R_drewN | apply Kd.R_drew)); exact HO_9.out))) (below_size (by repeat (first | (with_reducible first | exact HB.out | apply below_alloc | apply pw_below_drewN | apply below_drew1) | exact HB.out)))); have n3_ := Aside0.mk (below_step (by repeat (first | (with_reducible first | exact HB.out | apply below_alloc | apply pw_below_drewN | apply below_drew1) | exact HB.out)) hb); clear HO_6; clear HO_9; clear HB; have HO_6 := n0_; have HO_9 := n1_; have HO717 := n2_; have HB := n3_; clear n0_ n1_ n2_ n3_; (try clear hb); (try clear hb2); (try clear hk); (try clear hi); (try clear ho0)) | ((with_reducible refine gate_callee (f := 18) rfl ?_); refine goesL_ (some 76) rfl rfl Try.func18 (by kernel_rfl) rfl #[.slice A1 l1.length c1] rfl (by (try simp only [List.map_toArray, List.map_cons, List.map_nil]); first | done | rfl | (simp only [List.length_drop, List.length_take]; rfl)) ?_; (with_reducible refine (laws_toWaitS.calls kj21 _ _ l1 t718 _ ?side1 ?side2 A51.out).mono ?_); (case side1 => repeat (first | exact (Kd.C_below HR1.out HB.out) | (with_reducible refine Kd.C_alloc ?_ _) | (with_reducible refine Kd.C_drewN ?_ _) | (with_reducible refine Kd.C_drew ?_))); (case side2 => exact HC1.out); rintro e w67 ⟨v719, rfl, ho0, hb⟩; refine ⟨_, rfl, ?_⟩; have n0_ := Aside0.mk (Kd.R_below (by (with_reducible repeat (first | apply Kd.R_alloc | apply Kd.R_drewN | apply Kd.R_drew)); exact HO_6.out) hb); have n1_ := Aside0.mk (Kd.R_below (by (with_reducible repeat (first | apply Kd.R_alloc | apply Kd.R_drewN | apply Kd.R_drew)); exact HO_9.out) hb); have n2_ := Aside0.mk (Kd.R_below (by (with_reducible repeat (first | apply Kd.R_alloc | apply Kd.R_drewN | apply Kd.R_drew)); exact HO717.out) hb); have n3_ := Aside0.mk (Kd.R_lower ho0 (below_size (by repeat (first | (with_reducible first | exact HB.out | apply below_alloc | apply pw_below_drewN | apply below_drew1) | exact HB.out)))); have n4_ := Aside0.mk (below_step (by repeat (first | (with_reducible first | exact HB.out | apply below_alloc | apply pw_below_drewN | apply below_drew1) | exact HB.out)) hb); clear HO_6; clear HO_9; clear HO717; clear HB; have HO_6 := n0_; have HO_9 := n1_; have HO717 := n2_; have HO720 := n3_; have HB := n4_; clear n0_ n1_ n2_ n3_ n4_; (try clear hb); (try clear hb2); (try clear hk); (try clear hi); (try clear ho0); obtain ⟨Ao68, co68, eo68⟩ := Kd.R_slice HO717.out; subst eo68; obtain ⟨Ao69, co69, eo69⟩ := Kd.R_slice HO720.out; subst eo69) | ((with_reducible refine gate_callee (f := 39) rfl ?_); refine goesL_ (some 77) rfl rfl Try.func39 (by kernel_rfl) rfl #[.slice Ao68 t715.length co68, .slice Ao69 t718.length co69] rfl (by (try simp only [List.map_toArray, List.map_cons, List.map_nil]); first | done | rfl | (simp only [List.length_drop, List.length_take]; rfl)) ?_; (with_reducible refine (impl_OneByOne.calls kj21 _ _ t715 _ _ t718 t721 _ ?side1 ?side2 ?side3 ?side4 A52.out).mono ?_); (case side1 => repeat (first | exact (Kd.R_reads' HO717.out).2.2 | (with_reducible refine Kd.C_alloc ?_ _) | (with_reducible refine Kd.C_drewN ?_ _) | (with_reducible refine Kd.C_drew ?_))); (case side2 => exact (Kd.R_reads' HO717.out).2.1); (case side3 => repeat (first | exact (Kd.R_reads' HO720.out).2.2 | (with_reducible refine Kd.C_alloc ?_ _) | (with_reducible refine Kd.C_drewN ?_ _) | (with_reducible refine Kd.C_drew ?_))); (case side4 => exact (Kd.R_reads' HO720.out).2.1); rintro e w70 ⟨v722, rfl, ho0, hb⟩; refine ⟨_, rfl, ?_⟩; have n0_ := Aside0.mk (Kd.R_elder' (by (with_reducible repeat (first | apply Kd.R_alloc | apply Kd.R_drewN | apply Kd.R_drew)); exact HO_6.out) (Kd.R_base ho0) hb); have n1_ := Aside0.mk (Kd.R_elder' (by (with_reducible repeat (first | apply Kd.R_alloc | apply Kd.R_drewN | apply Kd.R_drew)); exact HO_9.out) (Kd.R_base ho0) hb); have n2_ := Aside0.mk (Kd.R_elder' (by (with_reducible repeat (first | apply Kd.R_alloc | apply Kd.R_drewN | apply Kd.R_drew)); exact HO717.out) (Kd.R_base ho0) hb); have n3_ := Aside0.mk (Kd.R_below (by (with_reducible repeat (first | apply Kd.R_alloc | apply Kd.R_drewN | apply Kd.R_drew)); exact HO720.out) hb); have n4_ := Aside0.mk (Kd.R_lower (Kd.R_new' (Kd.R_new' (Kd.R_new' ho0 (Kd.R_lt (by (with_reducible repeat (first | apply Kd.R_alloc | apply Kd.R_drewN | apply Kd.R_drew)); exact HO_6.out))) (Kd.R_lt (by (with_reducible repeat (first | apply Kd.R_alloc | apply Kd.R_drewN | apply Kd.R_drew)); exact HO_9.out))) (Kd.R_lt (by (with_reducible repeat (first | apply Kd.R_alloc | apply Kd.R_drewN | apply Kd.R_drew)); exact HO717.out))) (below_size (by repeat (first | (with_reducible first | exact HB.out | apply below_alloc | apply pw_below_drewN | apply below_drew1) | exact HB.out)))); have n5_ := Aside0.mk (below_step (by repeat (first | (with_reducible first | exact HB.out | apply below_alloc | apply pw_below_drewN | apply below_drew1) | exact HB.out)) hb); clear HO_6; clear HO_9; clear HO717; clear HO720; clear HB; have HO_6 := n0_; have HO_9 := n1_; have HO717 := n2_; have HO720 := n3_; have HO723 := n4_; have HB := n5_; clear n0_ n1_ n2_ n3_ n4_ n5_; (try clear hb); (try clear hb2); (try clear hk); (try clear hi); (try clear ho0); obtain ⟨Ao71, co71, eo71⟩ := Kd.R_slice HO723.out; subst eo71) | ((with_reducible refine gate_callee (f := 20) rfl ?_); refine goesL_ (some 80) rfl rfl Try.func20 (by kernel_rfl) rfl #[.slice Ao71 t721.length co71, .slice Ao34 t686.length co34] rfl (by (try simp only [List.map_toArray, List.map_cons, List.map_nil]); first | done | rfl | (simp only [List.length_drop, List.length_take]; rfl)) ?_; (with_reducible refine (laws_eqIntS.calls kj21 _ _ t721 _ _ t686 true _ ?side1 ?side2 ?side3 ?side4 A53.out).mono ?_); (case side1 => repeat (first | exact (Kd.R_reads' HO723.out).2.2 | (with_reducible refine Kd.C_alloc ?_ _) | (with_reducible refine Kd.C_drewN ?_ _) | (with_reducible refine Kd.C_drew ?_))); (case side2 => exact (Kd.R_reads' HO723.out).2.1); (case side3 => repeat (first | exact (Kd.R_reads' HO_6.out).2.2 | (with_reducible refine Kd.C_alloc ?_ _) | (with_reducible refine Kd.C_drewN ?_ _) | (with_reducible refine Kd.C_drew ?_))); (case side4 => exact (Kd.R_reads' HO_6.out).2.1); rintro e w' ⟨rfl, ⟨nd, rfl⟩⟩; refine ⟨_, rfl, ?_⟩) | ((with_reducible refine gate_callee (f := 28) rfl ?_); refine goesL_ (some 84) rfl rfl Try.func28 (by kernel_rfl) rfl #[.slice Ao33 t713.length co33, .int .i64 1] rfl (by (try simp only [List.map_toArray, List.map_cons, List.map_nil]); first | done | (rw [show t713.length = t695.length from (Kd.R_reads' HO_9.out).1.symm] <;> rfl) | rfl | (simp only [List.length_drop, List.length_take]; rfl)) ?_; (with_reducible refine (laws_heldIntS.calls kj21 _ _ t713 1 t725 _ ?side1 ?side2 A55.out).mono ?_); (case side1 => repeat (first | exact (Kd.R_reads' HO_9.out).2.2 | (with_reducible refine Kd.C_alloc ?_ _) | (with_reducible refine Kd.C_drewN ?_ _) | (with_reducible refine Kd.C_drew ?_))); (case side2 => rw [show t713.length = t695.length from (Kd.R_reads' HO_9.out).1.symm]; exact (Kd.R_reads' HO_9.out).2.1); rintro e w' ⟨rfl, ⟨nd, rfl⟩⟩; refine ⟨_, rfl, ?_⟩))
                            go_ret
                            exact ⟨by first | rfl | (simp [errW_none, errW_some] <;> rfl) | (simp [*, errW_none, errW_some] <;> rfl), by repeat (first | (with_reducible first | exact HB.out | apply below_alloc | apply pw_below_drewN | apply below_drew1) | exact HB.out)⟩
                          · rw [if_neg c64] at H
                            have c64b0 : (t725 == t712) = false := beq_eq_false_iff_ne.mpr c64
                            have c64b1 : (t725 != t712) = true := bne_iff_ne.mpr c64
                            obtain rfl := Option.some.inj H
                            go_wp2_with (first | ((with_reducible refine gate_callee (f := 26) rfl ?_); refine goesL_ (some 64) rfl rfl Try.func26 (by kernel_rfl) rfl #[.slice Ao33 t695.length co33, .int .i64 1] rfl (by (try simp only [List.map_toArray, List.map_cons, List.map_nil]); first | done | rfl | (simp only [List.length_drop, List.length_take]; rfl)) ?_; (with_reducible refine (laws_markIntS.calls kj21 (fun k_ => some k_ = (.slice Ao33 t695.length co33 : Value).ownBlock) (.slice Ao33 t695.length co33) t695 1 t712 t713 w _ ?side1 ?side2 A45.out).mono ?_); (case side1 => repeat (first | (with_reducible first | exact HB.out | apply below_alloc | apply pw_below_drewN | apply below_drew1) | exact HB.out)); (case side2 => exact Kd.R_tight rfl HO_9.out); rintro e w72 ⟨rfl, hy0, hb, hkp⟩; refine ⟨_, rfl, ?_⟩; have n0_ := Aside0.mk (Kd.R_mono (ok' := fun k_ => some k_ ≠ (.slice Ao33 t695.length co33 : Value).ownBlock) (Kd.R_keptB (HO_6.out) hkp (fun k_ hk_ hs_ => (hk_) hs_)) (fun k_ hk_ => hk_.1)); have n1_ := Aside0.mk (Kd.R_reok rfl hy0 (fun k_ e_ => HO_9.out.1 k_ e_)); have n2_ := Aside0.mk (hb); clear HO_6; clear HO_9; clear HB; have HO_6 := n0_; have HO_9 := n1_; have HB := n2_; clear n0_ n1_ n2_; (try clear hb); (try clear hkp); (try clear hy0)) | ((with_reducible refine gate_callee (f := 28) rfl ?_); refine goesL_ (some 67) rfl rfl Try.func28 (by kernel_rfl) rfl #[.slice Ao33 t713.length co33, .int .i64 1] rfl (by (try simp only [List.map_toArray, List.map_cons, List.map_nil]); first | done | (rw [show t713.length = t695.length from (Kd.R_reads' HO_9.out).1.symm] <;> rfl) | rfl | (simp only [List.length_drop, List.length_take]; rfl)) ?_; (with_reducible refine (laws_heldIntS.calls kj21 _ _ t713 1 t714 _ ?side1 ?side2 A46.out).mono ?_); (case side1 => repeat (first | exact (Kd.R_reads' HO_9.out).2.2 | (with_reducible refine Kd.C_alloc ?_ _) | (with_reducible refine Kd.C_drewN ?_ _) | (with_reducible refine Kd.C_drew ?_))); (case side2 => rw [show t713.length = t695.length from (Kd.R_reads' HO_9.out).1.symm]; exact (Kd.R_reads' HO_9.out).2.1); rintro e w' ⟨rfl, ⟨nd, rfl⟩⟩; refine ⟨_, rfl, ?_⟩) | ((with_reducible refine gate_callee (f := 17) rfl ?_); refine goesL_ (some 74) rfl rfl Try.func17 (by kernel_rfl) rfl #[.slice A0 l0.length c0] rfl (by (try simp only [List.map_toArray, List.map_cons, List.map_nil]); first | done | rfl | (simp only [List.length_drop, List.length_take]; rfl)) ?_; (with_reducible refine (laws_toIntS.calls kj21 _ _ l0 t715 _ ?side1 ?side2 A50.out).mono ?_); (case side1 => repeat (first | exact (Kd.C_below HR0.out (by repeat (first | (with_reducible first | exact HB.out | apply below_alloc | apply pw_below_drewN | apply below_drew1) | exact HB.out))) | (with_reducible refine Kd.C_alloc ?_ _) | (with_reducible refine Kd.C_drewN ?_ _) | (with_reducible refine Kd.C_drew ?_))); (case side2 => exact HC0.out); rintro e w73 ⟨v716, rfl, ho0, hb⟩; refine ⟨_, rfl, ?_⟩; have n0_ := Aside0.mk (Kd.R_elder' (by (with_reducible repeat (first | apply Kd.R_alloc | apply Kd.R_drewN | apply Kd.R_drew)); exact HO_6.out) (Kd.R_base ho0) hb); have n1_ := Aside0.mk (Kd.R_elder' (by (with_reducible repeat (first | apply Kd.R_alloc | apply Kd.R_drewN | apply Kd.R_drew)); exact HO_9.out) (Kd.R_base ho0) hb); have n2_ := Aside0.mk (Kd.R_lower (Kd.R_new' (Kd.R_new' ho0 (Kd.R_lt (by (with_reducible repeat (first | apply Kd.R_alloc | apply Kd.R_drewN | apply Kd.R_drew)); exact HO_6.out))) (Kd.R_lt (by (with_reducible repeat (first | apply Kd.R_alloc | apply Kd.R_drewN | apply Kd.R_drew)); exact HO_9.out))) (below_size (by repeat (first | (with_reducible first | exact HB.out | apply below_alloc | apply pw_below_drewN | apply below_drew1) | exact HB.out)))); have n3_ := Aside0.mk (below_step (by repeat (first | (with_reducible first | exact HB.out | apply below_alloc | apply pw_below_drewN | apply below_drew1) | exact HB.out)) hb); clear HO_6; clear HO_9; clear HB; have HO_6 := n0_; have HO_9 := n1_; have HO717 := n2_; have HB := n3_; clear n0_ n1_ n2_ n3_; (try clear hb); (try clear hb2); (try clear hk); (try clear hi); (try clear ho0)) | ((with_reducible refine gate_callee (f := 18) rfl ?_); refine goesL_ (some 76) rfl rfl Try.func18 (by kernel_rfl) rfl #[.slice A1 l1.length c1] rfl (by (try simp only [List.map_toArray, List.map_cons, List.map_nil]); first | done | rfl | (simp only [List.length_drop, List.length_take]; rfl)) ?_; (with_reducible refine (laws_toWaitS.calls kj21 _ _ l1 t718 _ ?side1 ?side2 A51.out).mono ?_); (case side1 => repeat (first | exact (Kd.C_below HR1.out HB.out) | (with_reducible refine Kd.C_alloc ?_ _) | (with_reducible refine Kd.C_drewN ?_ _) | (with_reducible refine Kd.C_drew ?_))); (case side2 => exact HC1.out); rintro e w74 ⟨v719, rfl, ho0, hb⟩; refine ⟨_, rfl, ?_⟩; have n0_ := Aside0.mk (Kd.R_below (by (with_reducible repeat (first | apply Kd.R_alloc | apply Kd.R_drewN | apply Kd.R_drew)); exact HO_6.out) hb); have n1_ := Aside0.mk (Kd.R_below (by (with_reducible repeat (first | apply Kd.R_alloc | apply Kd.R_drewN | apply Kd.R_drew)); exact HO_9.out) hb); have n2_ := Aside0.mk (Kd.R_below (by (with_reducible repeat (first | apply Kd.R_alloc | apply Kd.R_drewN | apply Kd.R_drew)); exact HO717.out) hb); have n3_ := Aside0.mk (Kd.R_lower ho0 (below_size (by repeat (first | (with_reducible first | exact HB.out | apply below_alloc | apply pw_below_drewN | apply below_drew1) | exact HB.out)))); have n4_ := Aside0.mk (below_step (by repeat (first | (with_reducible first | exact HB.out | apply below_alloc | apply pw_below_drewN | apply below_drew1) | exact HB.out)) hb); clear HO_6; clear HO_9; clear HO717; clear HB; have HO_6 := n0_; have HO_9 := n1_; have HO717 := n2_; have HO720 := n3_; have HB := n4_; clear n0_ n1_ n2_ n3_ n4_; (try clear hb); (try clear hb2); (try clear hk); (try clear hi); (try clear ho0); obtain ⟨Ao75, co75, eo75⟩ := Kd.R_slice HO717.out; subst eo75; obtain ⟨Ao76, co76, eo76⟩ := Kd.R_slice HO720.out; subst eo76) | ((with_reducible refine gate_callee (f := 39) rfl ?_); refine goesL_ (some 77) rfl rfl Try.func39 (by kernel_rfl) rfl #[.slice Ao75 t715.length co75, .slice Ao76 t718.length co76] rfl (by (try simp only [List.map_toArray, List.map_cons, List.map_nil]); first | done | rfl | (simp only [List.length_drop, List.length_take]; rfl)) ?_; (with_reducible refine (impl_OneByOne.calls kj21 _ _ t715 _ _ t718 t721 _ ?side1 ?side2 ?side3 ?side4 A52.out).mono ?_); (case side1 => repeat (first | exact (Kd.R_reads' HO717.out).2.2 | (with_reducible refine Kd.C_alloc ?_ _) | (with_reducible refine Kd.C_drewN ?_ _) | (with_reducible refine Kd.C_drew ?_))); (case side2 => exact (Kd.R_reads' HO717.out).2.1); (case side3 => repeat (first | exact (Kd.R_reads' HO720.out).2.2 | (with_reducible refine Kd.C_alloc ?_ _) | (with_reducible refine Kd.C_drewN ?_ _) | (with_reducible refine Kd.C_drew ?_))); (case side4 => exact (Kd.R_reads' HO720.out).2.1); rintro e w77 ⟨v722, rfl, ho0, hb⟩; refine ⟨_, rfl, ?_⟩; have n0_ := Aside0.mk (Kd.R_elder' (by (with_reducible repeat (first | apply Kd.R_alloc | apply Kd.R_drewN | apply Kd.R_drew)); exact HO_6.out) (Kd.R_base ho0) hb); have n1_ := Aside0.mk (Kd.R_elder' (by (with_reducible repeat (first | apply Kd.R_alloc | apply Kd.R_drewN | apply Kd.R_drew)); exact HO_9.out) (Kd.R_base ho0) hb); have n2_ := Aside0.mk (Kd.R_elder' (by (with_reducible repeat (first | apply Kd.R_alloc | apply Kd.R_drewN | apply Kd.R_drew)); exact HO717.out) (Kd.R_base ho0) hb); have n3_ := Aside0.mk (Kd.R_below (by (with_reducible repeat (first | apply Kd.R_alloc | apply Kd.R_drewN | apply Kd.R_drew)); exact HO720.out) hb); have n4_ := Aside0.mk (Kd.R_lower (Kd.R_new' (Kd.R_new' (Kd.R_new' ho0 (Kd.R_lt (by (with_reducible repeat (first | apply Kd.R_alloc | apply Kd.R_drewN | apply Kd.R_drew)); exact HO_6.out))) (Kd.R_lt (by (with_reducible repeat (first | apply Kd.R_alloc | apply Kd.R_drewN | apply Kd.R_drew)); exact HO_9.out))) (Kd.R_lt (by (with_reducible repeat (first | apply Kd.R_alloc | apply Kd.R_drewN | apply Kd.R_drew)); exact HO717.out))) (below_size (by repeat (first | (with_reducible first | exact HB.out | apply below_alloc | apply pw_below_drewN | apply below_drew1) | exact HB.out)))); have n5_ := Aside0.mk (below_step (by repeat (first | (with_reducible first | exact HB.out | apply below_alloc | apply pw_below_drewN | apply below_drew1) | exact HB.out)) hb); clear HO_6; clear HO_9; clear HO717; clear HO720; clear HB; have HO_6 := n0_; have HO_9 := n1_; have HO717 := n2_; have HO720 := n3_; have HO723 := n4_; have HB := n5_; clear n0_ n1_ n2_ n3_ n4_ n5_; (try clear hb); (try clear hb2); (try clear hk); (try clear hi); (try clear ho0); obtain ⟨Ao78, co78, eo78⟩ := Kd.R_slice HO723.out; subst eo78) | ((with_reducible refine gate_callee (f := 20) rfl ?_); refine goesL_ (some 80) rfl rfl Try.func20 (by kernel_rfl) rfl #[.slice Ao78 t721.length co78, .slice Ao34 t686.length co34] rfl (by (try simp only [List.map_toArray, List.map_cons, List.map_nil]); first | done | rfl | (simp only [List.length_drop, List.length_take]; rfl)) ?_; (with_reducible refine (laws_eqIntS.calls kj21 _ _ t721 _ _ t686 true _ ?side1 ?side2 ?side3 ?side4 A53.out).mono ?_); (case side1 => repeat (first | exact (Kd.R_reads' HO723.out).2.2 | (with_reducible refine Kd.C_alloc ?_ _) | (with_reducible refine Kd.C_drewN ?_ _) | (with_reducible refine Kd.C_drew ?_))); (case side2 => exact (Kd.R_reads' HO723.out).2.1); (case side3 => repeat (first | exact (Kd.R_reads' HO_6.out).2.2 | (with_reducible refine Kd.C_alloc ?_ _) | (with_reducible refine Kd.C_drewN ?_ _) | (with_reducible refine Kd.C_drew ?_))); (case side4 => exact (Kd.R_reads' HO_6.out).2.1); rintro e w' ⟨rfl, ⟨nd, rfl⟩⟩; refine ⟨_, rfl, ?_⟩) | ((with_reducible refine gate_callee (f := 28) rfl ?_); refine goesL_ (some 84) rfl rfl Try.func28 (by kernel_rfl) rfl #[.slice Ao33 t713.length co33, .int .i64 1] rfl (by (try simp only [List.map_toArray, List.map_cons, List.map_nil]); first | done | (rw [show t713.length = t695.length from (Kd.R_reads' HO_9.out).1.symm] <;> rfl) | rfl | (simp only [List.length_drop, List.length_take]; rfl)) ?_; (with_reducible refine (laws_heldIntS.calls kj21 _ _ t713 1 t725 _ ?side1 ?side2 A55.out).mono ?_); (case side1 => repeat (first | exact (Kd.R_reads' HO_9.out).2.2 | (with_reducible refine Kd.C_alloc ?_ _) | (with_reducible refine Kd.C_drewN ?_ _) | (with_reducible refine Kd.C_drew ?_))); (case side2 => rw [show t713.length = t695.length from (Kd.R_reads' HO_9.out).1.symm]; exact (Kd.R_reads' HO_9.out).2.1); rintro e w' ⟨rfl, ⟨nd, rfl⟩⟩; refine ⟨_, rfl, ?_⟩))
                            go_ret
                            exact ⟨by first | rfl | (simp [errW_none, errW_some] <;> rfl) | (simp [*, errW_none, errW_some] <;> rfl), by repeat (first | (with_reducible first | exact HB.out | apply below_alloc | apply pw_below_drewN | apply below_drew1) | exact HB.out)⟩
                      · replace c54 := Bool.eq_false_iff.mpr c54
                        subst c54
                        have H1 : (some false) = some r := by rw [if_neg (show ¬ (false = true) by decide)] at H; exact H
                        clear H
                        have H := H1
                        clear H1
                        obtain rfl := Option.some.inj H
                        go_wp2_with (first | ((with_reducible refine gate_callee (f := 26) rfl ?_); refine goesL_ (some 64) rfl rfl Try.func26 (by kernel_rfl) rfl #[.slice Ao33 t695.length co33, .int .i64 1] rfl (by (try simp only [List.map_toArray, List.map_cons, List.map_nil]); first | done | rfl | (simp only [List.length_drop, List.length_take]; rfl)) ?_; (with_reducible refine (laws_markIntS.calls kj21 (fun k_ => some k_ = (.slice Ao33 t695.length co33 : Value).ownBlock) (.slice Ao33 t695.length co33) t695 1 t712 t713 w _ ?side1 ?side2 A45.out).mono ?_); (case side1 => repeat (first | (with_reducible first | exact HB.out | apply below_alloc | apply pw_below_drewN | apply below_drew1) | exact HB.out)); (case side2 => exact Kd.R_tight rfl HO_9.out); rintro e w79 ⟨rfl, hy0, hb, hkp⟩; refine ⟨_, rfl, ?_⟩; have n0_ := Aside0.mk (Kd.R_mono (ok' := fun k_ => some k_ ≠ (.slice Ao33 t695.length co33 : Value).ownBlock) (Kd.R_keptB (HO_6.out) hkp (fun k_ hk_ hs_ => (hk_) hs_)) (fun k_ hk_ => hk_.1)); have n1_ := Aside0.mk (Kd.R_reok rfl hy0 (fun k_ e_ => HO_9.out.1 k_ e_)); have n2_ := Aside0.mk (hb); clear HO_6; clear HO_9; clear HB; have HO_6 := n0_; have HO_9 := n1_; have HB := n2_; clear n0_ n1_ n2_; (try clear hb); (try clear hkp); (try clear hy0)) | ((with_reducible refine gate_callee (f := 28) rfl ?_); refine goesL_ (some 67) rfl rfl Try.func28 (by kernel_rfl) rfl #[.slice Ao33 t713.length co33, .int .i64 1] rfl (by (try simp only [List.map_toArray, List.map_cons, List.map_nil]); first | done | (rw [show t713.length = t695.length from (Kd.R_reads' HO_9.out).1.symm] <;> rfl) | rfl | (simp only [List.length_drop, List.length_take]; rfl)) ?_; (with_reducible refine (laws_heldIntS.calls kj21 _ _ t713 1 t714 _ ?side1 ?side2 A46.out).mono ?_); (case side1 => repeat (first | exact (Kd.R_reads' HO_9.out).2.2 | (with_reducible refine Kd.C_alloc ?_ _) | (with_reducible refine Kd.C_drewN ?_ _) | (with_reducible refine Kd.C_drew ?_))); (case side2 => rw [show t713.length = t695.length from (Kd.R_reads' HO_9.out).1.symm]; exact (Kd.R_reads' HO_9.out).2.1); rintro e w' ⟨rfl, ⟨nd, rfl⟩⟩; refine ⟨_, rfl, ?_⟩) | ((with_reducible refine gate_callee (f := 17) rfl ?_); refine goesL_ (some 74) rfl rfl Try.func17 (by kernel_rfl) rfl #[.slice A0 l0.length c0] rfl (by (try simp only [List.map_toArray, List.map_cons, List.map_nil]); first | done | rfl | (simp only [List.length_drop, List.length_take]; rfl)) ?_; (with_reducible refine (laws_toIntS.calls kj21 _ _ l0 t715 _ ?side1 ?side2 A50.out).mono ?_); (case side1 => repeat (first | exact (Kd.C_below HR0.out (by repeat (first | (with_reducible first | exact HB.out | apply below_alloc | apply pw_below_drewN | apply below_drew1) | exact HB.out))) | (with_reducible refine Kd.C_alloc ?_ _) | (with_reducible refine Kd.C_drewN ?_ _) | (with_reducible refine Kd.C_drew ?_))); (case side2 => exact HC0.out); rintro e w80 ⟨v716, rfl, ho0, hb⟩; refine ⟨_, rfl, ?_⟩; have n0_ := Aside0.mk (Kd.R_elder' (by (with_reducible repeat (first | apply Kd.R_alloc | apply Kd.R_drewN | apply Kd.R_drew)); exact HO_6.out) (Kd.R_base ho0) hb); have n1_ := Aside0.mk (Kd.R_elder' (by (with_reducible repeat (first | apply Kd.R_alloc | apply Kd.R_drewN | apply Kd.R_drew)); exact HO_9.out) (Kd.R_base ho0) hb); have n2_ := Aside0.mk (Kd.R_lower (Kd.R_new' (Kd.R_new' ho0 (Kd.R_lt (by (with_reducible repeat (first | apply Kd.R_alloc | apply Kd.R_drewN | apply Kd.R_drew)); exact HO_6.out))) (Kd.R_lt (by (with_reducible repeat (first | apply Kd.R_alloc | apply Kd.R_drewN | apply Kd.R_drew)); exact HO_9.out))) (below_size (by repeat (first | (with_reducible first | exact HB.out | apply below_alloc | apply pw_below_drewN | apply below_drew1) | exact HB.out)))); have n3_ := Aside0.mk (below_step (by repeat (first | (with_reducible first | exact HB.out | apply below_alloc | apply pw_below_drewN | apply below_drew1) | exact HB.out)) hb); clear HO_6; clear HO_9; clear HB; have HO_6 := n0_; have HO_9 := n1_; have HO717 := n2_; have HB := n3_; clear n0_ n1_ n2_ n3_; (try clear hb); (try clear hb2); (try clear hk); (try clear hi); (try clear ho0)) | ((with_reducible refine gate_callee (f := 18) rfl ?_); refine goesL_ (some 76) rfl rfl Try.func18 (by kernel_rfl) rfl #[.slice A1 l1.length c1] rfl (by (try simp only [List.map_toArray, List.map_cons, List.map_nil]); first | done | rfl | (simp only [List.length_drop, List.length_take]; rfl)) ?_; (with_reducible refine (laws_toWaitS.calls kj21 _ _ l1 t718 _ ?side1 ?side2 A51.out).mono ?_); (case side1 => repeat (first | exact (Kd.C_below HR1.out HB.out) | (with_reducible refine Kd.C_alloc ?_ _) | (with_reducible refine Kd.C_drewN ?_ _) | (with_reducible refine Kd.C_drew ?_))); (case side2 => exact HC1.out); rintro e w81 ⟨v719, rfl, ho0, hb⟩; refine ⟨_, rfl, ?_⟩; have n0_ := Aside0.mk (Kd.R_below (by (with_reducible repeat (first | apply Kd.R_alloc | apply Kd.R_drewN | apply Kd.R_drew)); exact HO_6.out) hb); have n1_ := Aside0.mk (Kd.R_below (by (with_reducible repeat (first | apply Kd.R_alloc | apply Kd.R_drewN | apply Kd.R_drew)); exact HO_9.out) hb); have n2_ := Aside0.mk (Kd.R_below (by (with_reducible repeat (first | apply Kd.R_alloc | apply Kd.R_drewN | apply Kd.R_drew)); exact HO717.out) hb); have n3_ := Aside0.mk (Kd.R_lower ho0 (below_size (by repeat (first | (with_reducible first | exact HB.out | apply below_alloc | apply pw_below_drewN | apply below_drew1) | exact HB.out)))); have n4_ := Aside0.mk (below_step (by repeat (first | (with_reducible first | exact HB.out | apply below_alloc | apply pw_below_drewN | apply below_drew1) | exact HB.out)) hb); clear HO_6; clear HO_9; clear HO717; clear HB; have HO_6 := n0_; have HO_9 := n1_; have HO717 := n2_; have HO720 := n3_; have HB := n4_; clear n0_ n1_ n2_ n3_ n4_; (try clear hb); (try clear hb2); (try clear hk); (try clear hi); (try clear ho0); obtain ⟨Ao82, co82, eo82⟩ := Kd.R_slice HO717.out; subst eo82; obtain ⟨Ao83, co83, eo83⟩ := Kd.R_slice HO720.out; subst eo83) | ((with_reducible refine gate_callee (f := 39) rfl ?_); refine goesL_ (some 77) rfl rfl Try.func39 (by kernel_rfl) rfl #[.slice Ao82 t715.length co82, .slice Ao83 t718.length co83] rfl (by (try simp only [List.map_toArray, List.map_cons, List.map_nil]); first | done | rfl | (simp only [List.length_drop, List.length_take]; rfl)) ?_; (with_reducible refine (impl_OneByOne.calls kj21 _ _ t715 _ _ t718 t721 _ ?side1 ?side2 ?side3 ?side4 A52.out).mono ?_); (case side1 => repeat (first | exact (Kd.R_reads' HO717.out).2.2 | (with_reducible refine Kd.C_alloc ?_ _) | (with_reducible refine Kd.C_drewN ?_ _) | (with_reducible refine Kd.C_drew ?_))); (case side2 => exact (Kd.R_reads' HO717.out).2.1); (case side3 => repeat (first | exact (Kd.R_reads' HO720.out).2.2 | (with_reducible refine Kd.C_alloc ?_ _) | (with_reducible refine Kd.C_drewN ?_ _) | (with_reducible refine Kd.C_drew ?_))); (case side4 => exact (Kd.R_reads' HO720.out).2.1); rintro e w84 ⟨v722, rfl, ho0, hb⟩; refine ⟨_, rfl, ?_⟩; have n0_ := Aside0.mk (Kd.R_elder' (by (with_reducible repeat (first | apply Kd.R_alloc | apply Kd.R_drewN | apply Kd.R_drew)); exact HO_6.out) (Kd.R_base ho0) hb); have n1_ := Aside0.mk (Kd.R_elder' (by (with_reducible repeat (first | apply Kd.R_alloc | apply Kd.R_drewN | apply Kd.R_drew)); exact HO_9.out) (Kd.R_base ho0) hb); have n2_ := Aside0.mk (Kd.R_elder' (by (with_reducible repeat (first | apply Kd.R_alloc | apply Kd.R_drewN | apply Kd.R_drew)); exact HO717.out) (Kd.R_base ho0) hb); have n3_ := Aside0.mk (Kd.R_below (by (with_reducible repeat (first | apply Kd.R_alloc | apply Kd.R_drewN | apply Kd.R_drew)); exact HO720.out) hb); have n4_ := Aside0.mk (Kd.R_lower (Kd.R_new' (Kd.R_new' (Kd.R_new' ho0 (Kd.R_lt (by (with_reducible repeat (first | apply Kd.R_alloc | apply Kd.R_drewN | apply Kd.R_drew)); exact HO_6.out))) (Kd.R_lt (by (with_reducible repeat (first | apply Kd.R_alloc | apply Kd.R_drewN | apply Kd.R_drew)); exact HO_9.out))) (Kd.R_lt (by (with_reducible repeat (first | apply Kd.R_alloc | apply Kd.R_drewN | apply Kd.R_drew)); exact HO717.out))) (below_size (by repeat (first | (with_reducible first | exact HB.out | apply below_alloc | apply pw_below_drewN | apply below_drew1) | exact HB.out)))); have n5_ := Aside0.mk (below_step (by repeat (first | (with_reducible first | exact HB.out | apply below_alloc | apply pw_below_drewN | apply below_drew1) | exact HB.out)) hb); clear HO_6; clear HO_9; clear HO717; clear HO720; clear HB; have HO_6 := n0_; have HO_9 := n1_; have HO717 := n2_; have HO720 := n3_; have HO723 := n4_; have HB := n5_; clear n0_ n1_ n2_ n3_ n4_ n5_; (try clear hb); (try clear hb2); (try clear hk); (try clear hi); (try clear ho0); obtain ⟨Ao85, co85, eo85⟩ := Kd.R_slice HO723.out; subst eo85) | ((with_reducible refine gate_callee (f := 20) rfl ?_); refine goesL_ (some 80) rfl rfl Try.func20 (by kernel_rfl) rfl #[.slice Ao85 t721.length co85, .slice Ao34 t686.length co34] rfl (by (try simp only [List.map_toArray, List.map_cons, List.map_nil]); first | done | rfl | (simp only [List.length_drop, List.length_take]; rfl)) ?_; (with_reducible refine (laws_eqIntS.calls kj21 _ _ t721 _ _ t686 false _ ?side1 ?side2 ?side3 ?side4 A53.out).mono ?_); (case side1 => repeat (first | exact (Kd.R_reads' HO723.out).2.2 | (with_reducible refine Kd.C_alloc ?_ _) | (with_reducible refine Kd.C_drewN ?_ _) | (with_reducible refine Kd.C_drew ?_))); (case side2 => exact (Kd.R_reads' HO723.out).2.1); (case side3 => repeat (first | exact (Kd.R_reads' HO_6.out).2.2 | (with_reducible refine Kd.C_alloc ?_ _) | (with_reducible refine Kd.C_drewN ?_ _) | (with_reducible refine Kd.C_drew ?_))); (case side4 => exact (Kd.R_reads' HO_6.out).2.1); rintro e w' ⟨rfl, ⟨nd, rfl⟩⟩; refine ⟨_, rfl, ?_⟩))
                        go_ret
                        exact ⟨by first | rfl | (simp [errW_none, errW_some] <;> rfl) | (simp [*, errW_none, errW_some] <;> rfl), by repeat (first | (with_reducible first | exact HB.out | apply below_alloc | apply pw_below_drewN | apply below_drew1) | exact HB.out)⟩
                    · rw [if_neg c49] at H
                      have c49b0 : (t714 == t712) = false := beq_eq_false_iff_ne.mpr c49
                      have c49b1 : (t714 != t712) = true := bne_iff_ne.mpr c49
                      obtain rfl := Option.some.inj H
                      go_wp2_with (first | ((with_reducible refine gate_callee (f := 26) rfl ?_); refine goesL_ (some 64) rfl rfl Try.func26 (by kernel_rfl) rfl #[.slice Ao33 t695.length co33, .int .i64 1] rfl (by (try simp only [List.map_toArray, List.map_cons, List.map_nil]); first | done | rfl | (simp only [List.length_drop, List.length_take]; rfl)) ?_; (with_reducible refine (laws_markIntS.calls kj21 (fun k_ => some k_ = (.slice Ao33 t695.length co33 : Value).ownBlock) (.slice Ao33 t695.length co33) t695 1 t712 t713 w _ ?side1 ?side2 A45.out).mono ?_); (case side1 => repeat (first | (with_reducible first | exact HB.out | apply below_alloc | apply pw_below_drewN | apply below_drew1) | exact HB.out)); (case side2 => exact Kd.R_tight rfl HO_9.out); rintro e w86 ⟨rfl, hy0, hb, hkp⟩; refine ⟨_, rfl, ?_⟩; have n0_ := Aside0.mk (Kd.R_mono (ok' := fun k_ => some k_ ≠ (.slice Ao33 t695.length co33 : Value).ownBlock) (Kd.R_keptB (HO_6.out) hkp (fun k_ hk_ hs_ => (hk_) hs_)) (fun k_ hk_ => hk_.1)); have n1_ := Aside0.mk (Kd.R_reok rfl hy0 (fun k_ e_ => HO_9.out.1 k_ e_)); have n2_ := Aside0.mk (hb); clear HO_6; clear HO_9; clear HB; have HO_6 := n0_; have HO_9 := n1_; have HB := n2_; clear n0_ n1_ n2_; (try clear hb); (try clear hkp); (try clear hy0)) | ((with_reducible refine gate_callee (f := 28) rfl ?_); refine goesL_ (some 67) rfl rfl Try.func28 (by kernel_rfl) rfl #[.slice Ao33 t713.length co33, .int .i64 1] rfl (by (try simp only [List.map_toArray, List.map_cons, List.map_nil]); first | done | (rw [show t713.length = t695.length from (Kd.R_reads' HO_9.out).1.symm] <;> rfl) | rfl | (simp only [List.length_drop, List.length_take]; rfl)) ?_; (with_reducible refine (laws_heldIntS.calls kj21 _ _ t713 1 t714 _ ?side1 ?side2 A46.out).mono ?_); (case side1 => repeat (first | exact (Kd.R_reads' HO_9.out).2.2 | (with_reducible refine Kd.C_alloc ?_ _) | (with_reducible refine Kd.C_drewN ?_ _) | (with_reducible refine Kd.C_drew ?_))); (case side2 => rw [show t713.length = t695.length from (Kd.R_reads' HO_9.out).1.symm]; exact (Kd.R_reads' HO_9.out).2.1); rintro e w' ⟨rfl, ⟨nd, rfl⟩⟩; refine ⟨_, rfl, ?_⟩))
                      go_ret
                      exact ⟨by first | rfl | (simp [errW_none, errW_some] <;> rfl) | (simp [*, errW_none, errW_some] <;> rfl), by repeat (first | (with_reducible first | exact HB.out | apply below_alloc | apply pw_below_drewN | apply below_drew1) | exact HB.out)⟩
          · replace c19 := Bool.eq_false_iff.mpr c19
            subst c19
            have H1 : (some false) = some r := by rw [if_neg (show ¬ (false = true) by decide)] at H; exact H
            clear H
            have H := H1
            clear H1
            obtain rfl := Option.some.inj H
            go_enter Try.func11, Try.ntmps11
            go_wp2_with (first | ((with_reducible refine gate_callee (f := 15) rfl ?_); refine goesL_ (some 19) rfl rfl Try.func15 (by kernel_rfl) rfl #[.slice A1 l1.length c1, .int .i64 1048576] rfl (by (try simp only [List.map_toArray, List.map_cons, List.map_nil]); first | done | rfl | (simp only [List.length_drop, List.length_take]; rfl)) ?_; (with_reducible refine (laws_szWaitS.calls _ _ l1 1048576 t679 _ ?side1 ?side2 A4.out).mono ?_); (case side1 => repeat (first | exact HR1.out | (with_reducible refine Kd.C_alloc ?_ _) | (with_reducible refine Kd.C_drewN ?_ _) | (with_reducible refine Kd.C_drew ?_))); (case side2 => exact HC1.out); rintro e w' ⟨rfl, ⟨nd, rfl⟩⟩; refine ⟨_, rfl, ?_⟩) | ((with_reducible refine gate_callee (f := 17) rfl ?_); refine goesL_ (some 23) rfl rfl Try.func17 (by kernel_rfl) rfl #[.slice A0 l0.length c0] rfl (by (try simp only [List.map_toArray, List.map_cons, List.map_nil]); first | done | rfl | (simp only [List.length_drop, List.length_take]; rfl)) ?_; (with_reducible refine (laws_toIntS.calls k _ _ l0 t680 _ ?side1 ?side2 A6.out).mono ?_); (case side1 => repeat (first | exact HR0.out | (with_reducible refine Kd.C_alloc ?_ _) | (with_reducible refine Kd.C_drewN ?_ _) | (with_reducible refine Kd.C_drew ?_))); (case side2 => exact HC0.out); rintro e w87 ⟨v681, rfl, ho0, hb⟩; refine ⟨_, rfl, ?_⟩; have n0_ := Aside0.mk (Kd.R_lower ho0 (below_size (by repeat (first | (with_reducible first | exact HB.out | apply below_alloc | apply pw_below_drewN | apply below_drew1) | exact HB.out)))); have n1_ := Aside0.mk (below_step (by repeat (first | (with_reducible first | exact HB.out | apply below_alloc | apply pw_below_drewN | apply below_drew1) | exact HB.out)) hb); clear HB; have HO682 := n0_; have HB := n1_; clear n0_ n1_; (try clear hb); (try clear hb2); (try clear hk); (try clear hi); (try clear ho0)) | ((with_reducible refine gate_callee (f := 18) rfl ?_); refine goesL_ (some 25) rfl rfl Try.func18 (by kernel_rfl) rfl #[.slice A1 l1.length c1] rfl (by (try simp only [List.map_toArray, List.map_cons, List.map_nil]); first | done | rfl | (simp only [List.length_drop, List.length_take]; rfl)) ?_; (with_reducible refine (laws_toWaitS.calls k _ _ l1 t683 _ ?side1 ?side2 A7.out).mono ?_); (case side1 => repeat (first | exact (Kd.C_below HR1.out HB.out) | (with_reducible refine Kd.C_alloc ?_ _) | (with_reducible refine Kd.C_drewN ?_ _) | (with_reducible refine Kd.C_drew ?_))); (case side2 => exact HC1.out); rintro e w88 ⟨v684, rfl, ho0, hb⟩; refine ⟨_, rfl, ?_⟩; have n0_ := Aside0.mk (Kd.R_below (by (with_reducible repeat (first | apply Kd.R_alloc | apply Kd.R_drewN | apply Kd.R_drew)); exact HO682.out) hb); have n1_ := Aside0.mk (Kd.R_lower ho0 (below_size (by repeat (first | (with_reducible first | exact HB.out | apply below_alloc | apply pw_below_drewN | apply below_drew1) | exact HB.out)))); have n2_ := Aside0.mk (below_step (by repeat (first | (with_reducible first | exact HB.out | apply below_alloc | apply pw_below_drewN | apply below_drew1) | exact HB.out)) hb); clear HO682; clear HB; have HO682 := n0_; have HO685 := n1_; have HB := n2_; clear n0_ n1_ n2_; (try clear hb); (try clear hb2); (try clear hk); (try clear hi); (try clear ho0); obtain ⟨Ao89, co89, eo89⟩ := Kd.R_slice HO682.out; subst eo89; obtain ⟨Ao90, co90, eo90⟩ := Kd.R_slice HO685.out; subst eo90) | ((with_reducible refine gate_callee (f := 38) rfl ?_); refine goesL_ (some 26) rfl rfl Try.func38 (by kernel_rfl) rfl #[.slice Ao89 t680.length co89, .slice Ao90 t683.length co90] rfl (by (try simp only [List.map_toArray, List.map_cons, List.map_nil]); first | done | rfl | (simp only [List.length_drop, List.length_take]; rfl)) ?_; (with_reducible refine (spec_OneByOne.calls k _ _ t680 _ _ t683 t686 _ ?side1 ?side2 ?side3 ?side4 A8.out).mono ?_); (case side1 => repeat (first | exact (Kd.R_reads' HO682.out).2.2 | (with_reducible refine Kd.C_alloc ?_ _) | (with_reducible refine Kd.C_drewN ?_ _) | (with_reducible refine Kd.C_drew ?_))); (case side2 => exact (Kd.R_reads' HO682.out).2.1); (case side3 => repeat (first | exact (Kd.R_reads' HO685.out).2.2 | (with_reducible refine Kd.C_alloc ?_ _) | (with_reducible refine Kd.C_drewN ?_ _) | (with_reducible refine Kd.C_drew ?_))); (case side4 => exact (Kd.R_reads' HO685.out).2.1); rintro e w91 ⟨v687, rfl, ho0, hb⟩; refine ⟨_, rfl, ?_⟩; have n0_ := Aside0.mk (Kd.R_elder' (by (with_reducible repeat (first | apply Kd.R_alloc | apply Kd.R_drewN | apply Kd.R_drew)); exact HO682.out) (Kd.R_base ho0) hb); have n1_ := Aside0.mk (Kd.R_below (by (with_reducible repeat (first | apply Kd.R_alloc | apply Kd.R_drewN | apply Kd.R_drew)); exact HO685.out) hb); have n2_ := Aside0.mk (Kd.R_lower (Kd.R_new' ho0 (Kd.R_lt (by (with_reducible repeat (first | apply Kd.R_alloc | apply Kd.R_drewN | apply Kd.R_drew)); exact HO682.out))) (below_size (by repeat (first | (with_reducible first | exact HB.out | apply below_alloc | apply pw_below_drewN | apply below_drew1) | exact HB.out)))); have n3_ := Aside0.mk (below_step (by repeat (first | (with_reducible first | exact HB.out | apply below_alloc | apply pw_below_drewN | apply below_drew1) | exact HB.out)) hb); clear HO682; clear HO685; clear HB; have HO682 := n0_; have HO685 := n1_; have HO688 := n2_; have HB := n3_; clear n0_ n1_ n2_ n3_; (try clear hb); (try clear hb2); (try clear hk); (try clear hi); (try clear ho0)) | ((with_reducible refine gate_callee (f := 17) rfl ?_); refine goesL_ (some 28) rfl rfl Try.func17 (by kernel_rfl) rfl #[.slice A0 l0.length c0] rfl (by (try simp only [List.map_toArray, List.map_cons, List.map_nil]); first | done | rfl | (simp only [List.length_drop, List.length_take]; rfl)) ?_; (with_reducible refine (laws_toIntS.calls k _ _ l0 t689 _ ?side1 ?side2 A9.out).mono ?_); (case side1 => repeat (first | exact (Kd.C_below HR0.out HB.out) | (with_reducible refine Kd.C_alloc ?_ _) | (with_reducible refine Kd.C_drewN ?_ _) | (with_reducible refine Kd.C_drew ?_))); (case side2 => exact HC0.out); rintro e w92 ⟨v690, rfl, ho0, hb⟩; refine ⟨_, rfl, ?_⟩; have n0_ := Aside0.mk (Kd.R_elder' (by (with_reducible repeat (first | apply Kd.R_alloc | apply Kd.R_drewN | apply Kd.R_drew)); exact HO682.out) (Kd.R_base ho0) hb); have n1_ := Aside0.mk (Kd.R_below (by (with_reducible repeat (first | apply Kd.R_alloc | apply Kd.R_drewN | apply Kd.R_drew)); exact HO685.out) hb); have n2_ := Aside0.mk (Kd.R_elder' (by (with_reducible repeat (first | apply Kd.R_alloc | apply Kd.R_drewN | apply Kd.R_drew)); exact HO688.out) (Kd.R_base ho0) hb); have n3_ := Aside0.mk (Kd.R_lower (Kd.R_new' (Kd.R_new' ho0 (Kd.R_lt (by (with_reducible repeat (first | apply Kd.R_alloc | apply Kd.R_drewN | apply Kd.R_drew)); exact HO682.out))) (Kd.R_lt (by (with_reducible repeat (first | apply Kd.R_alloc | apply Kd.R_drewN | apply Kd.R_drew)); exact HO688.out))) (below_size (by repeat (first | (with_reducible first | exact HB.out | apply below_alloc | apply pw_below_drewN | apply below_drew1) | exact HB.out)))); have n4_ := Aside0.mk (below_step (by repeat (first | (with_reducible first | exact HB.out | apply below_alloc | apply pw_below_drewN | apply below_drew1) | exact HB.out)) hb); clear HO682; clear HO685; clear HO688; clear HB; have HO682 := n0_; have HO685 := n1_; have HO688 := n2_; have HO691 := n3_; have HB := n4_; clear n0_ n1_ n2_ n3_ n4_; (try clear hb); (try clear hb2); (try clear hk); (try clear hi); (try clear ho0)) | ((with_reducible refine gate_callee (f := 18) rfl ?_); refine goesL_ (some 30) rfl rfl Try.func18 (by kernel_rfl) rfl #[.slice A1 l1.length c1] rfl (by (try simp only [List.map_toArray, List.map_cons, List.map_nil]); first | done | rfl | (simp only [List.length_drop, List.length_take]; rfl)) ?_; (with_reducible refine (laws_toWaitS.calls k _ _ l1 t692 _ ?side1 ?side2 A10.out).mono ?_); (case side1 => repeat (first | exact (Kd.C_below HR1.out HB.out) | (with_reducible refine Kd.C_alloc ?_ _) | (with_reducible refine Kd.C_drewN ?_ _) | (with_reducible refine Kd.C_drew ?_))); (case side2 => exact HC1.out); rintro e w93 ⟨v693, rfl, ho0, hb⟩; refine ⟨_, rfl, ?_⟩; have n0_ := Aside0.mk (Kd.R_below (by (with_reducible repeat (first | apply Kd.R_alloc | apply Kd.R_drewN | apply Kd.R_drew)); exact HO682.out) hb); have n1_ := Aside0.mk (Kd.R_elder' (by (with_reducible repeat (first | apply Kd.R_alloc | apply Kd.R_drewN | apply Kd.R_drew)); exact HO685.out) (Kd.R_base ho0) hb); have n2_ := Aside0.mk (Kd.R_below (by (with_reducible repeat (first | apply Kd.R_alloc | apply Kd.R_drewN | apply Kd.R_drew)); exact HO688.out) hb); have n3_ := Aside0.mk (Kd.R_below (by (with_reducible repeat (first | apply Kd.R_alloc | apply Kd.R_drewN | apply Kd.R_drew)); exact HO691.out) hb); have n4_ := Aside0.mk (Kd.R_lower (Kd.R_new' ho0 (Kd.R_lt (by (with_reducible repeat (first | apply Kd.R_alloc | apply Kd.R_drewN | apply Kd.R_drew)); exact HO685.out))) (below_size (by repeat (first | (with_reducible first | exact HB.out | apply below_alloc | apply pw_below_drewN | apply below_drew1) | exact HB.out)))); have n5_ := Aside0.mk (below_step (by repeat (first | (with_reducible first | exact HB.out | apply below_alloc | apply pw_below_drewN | apply below_drew1) | exact HB.out)) hb); clear HO682; clear HO685; clear HO688; clear HO691; clear HB; have HO682 := n0_; have HO685 := n1_; have HO688 := n2_; have HO691 := n3_; have HO694 := n4_; have HB := n5_; clear n0_ n1_ n2_ n3_ n4_ n5_; (try clear hb); (try clear hb2); (try clear hk); (try clear hi); (try clear ho0); obtain ⟨Ao94, co94, eo94⟩ := Kd.R_slice HO691.out; subst eo94; obtain ⟨Ao95, co95, eo95⟩ := Kd.R_slice HO694.out; subst eo95) | ((with_reducible refine gate_callee (f := 39) rfl ?_); refine goesL_ (some 33) rfl rfl Try.func39 (by kernel_rfl) rfl #[.slice Ao94 t689.length co94, .slice Ao95 t692.length co95] rfl (by (try simp only [List.map_toArray, List.map_cons, List.map_nil]); first | done | rfl | (simp only [List.length_drop, List.length_take]; rfl)) ?_; (with_reducible refine (impl_OneByOne.calls k _ _ t689 _ _ t692 t695 _ ?side1 ?side2 ?side3 ?side4 A11.out).mono ?_); (case side1 => repeat (first | exact (Kd.R_reads' HO691.out).2.2 | (with_reducible refine Kd.C_alloc ?_ _) | (with_reducible refine Kd.C_drewN ?_ _) | (with_reducible refine Kd.C_drew ?_))); (case side2 => exact (Kd.R_reads' HO691.out).2.1); (case side3 => repeat (first | exact (Kd.R_reads' HO694.out).2.2 | (with_reducible refine Kd.C_alloc ?_ _) | (with_reducible refine Kd.C_drewN ?_ _) | (with_reducible refine Kd.C_drew ?_))); (case side4 => exact (Kd.R_reads' HO694.out).2.1); rintro e w96 ⟨v696, rfl, ho0, hb⟩; refine ⟨_, rfl, ?_⟩; have n0_ := Aside0.mk (Kd.R_elder' (by (with_reducible repeat (first | apply Kd.R_alloc | apply Kd.R_drewN | apply Kd.R_drew)); exact HO682.out) (Kd.R_base ho0) hb); have n1_ := Aside0.mk (Kd.R_below (by (with_reducible repeat (first | apply Kd.R_alloc | apply Kd.R_drewN | apply Kd.R_drew)); exact HO685.out) hb); have n2_ := Aside0.mk (Kd.R_elder' (by (with_reducible repeat (first | apply Kd.R_alloc | apply Kd.R_drewN | apply Kd.R_drew)); exact HO688.out) (Kd.R_base ho0) hb); have n3_ := Aside0.mk (Kd.R_elder' (by (with_reducible repeat (first | apply Kd.R_alloc | apply Kd.R_drewN | apply Kd.R_drew)); exact HO691.out) (Kd.R_base ho0) hb); have n4_ := Aside0.mk (Kd.R_below (by (with_reducible repeat (first | apply Kd.R_alloc | apply Kd.R_drewN | apply Kd.R_drew)); exact HO694.out) hb); have n5_ := Aside0.mk (Kd.R_lower (Kd.R_new' (Kd.R_new' (Kd.R_new' ho0 (Kd.R_lt (by (with_reducible repeat (first | apply Kd.R_alloc | apply Kd.R_drewN | apply Kd.R_drew)); exact HO682.out))) (Kd.R_lt (by (with_reducible repeat (first | apply Kd.R_alloc | apply Kd.R_drewN | apply Kd.R_drew)); exact HO688.out))) (Kd.R_lt (by (with_reducible repeat (first | apply Kd.R_alloc | apply Kd.R_drewN | apply Kd.R_drew)); exact HO691.out))) (below_size (by repeat (first | (with_reducible first | exact HB.out | apply below_alloc | apply pw_below_drewN | apply below_drew1) | exact HB.out)))); have n6_ := Aside0.mk (below_step (by repeat (first | (with_reducible first | exact HB.out | apply below_alloc | apply pw_below_drewN | apply below_drew1) | exact HB.out)) hb); clear HO682; clear HO685; clear HO688; clear HO691; clear HO694; clear HB; have HO682 := n0_; have HO685 := n1_; have HO688 := n2_; have HO691 := n3_; have HO694 := n4_; have HO697 := n5_; have HB := n6_; clear n0_ n1_ n2_ n3_ n4_ n5_ n6_; (try clear hb); (try clear hb2); (try clear hk); (try clear hi); (try clear ho0); obtain ⟨Ao97, co97, eo97⟩ := Kd.R_slice HO697.out; subst eo97; obtain ⟨Ao98, co98, eo98⟩ := Kd.R_slice HO688.out; subst eo98) | ((with_reducible refine gate_callee (f := 20) rfl ?_); refine goesL_ (some 36) rfl rfl Try.func20 (by kernel_rfl) rfl #[.slice Ao97 t695.length co97, .slice Ao98 t686.length co98] rfl (by (try simp only [List.map_toArray, List.map_cons, List.map_nil]); first | done | rfl | (simp only [List.length_drop, List.length_take]; rfl)) ?_; (with_reducible refine (laws_eqIntS.calls k _ _ t695 _ _ t686 true _ ?side1 ?side2 ?side3 ?side4 A12.out).mono ?_); (case side1 => repeat (first | exact (Kd.R_reads' HO697.out).2.2 | (with_reducible refine Kd.C_alloc ?_ _) | (with_reducible refine Kd.C_drewN ?_ _) | (with_reducible refine Kd.C_drew ?_))); (case side2 => exact (Kd.R_reads' HO697.out).2.1); (case side3 => repeat (first | exact (Kd.R_reads' HO688.out).2.2 | (with_reducible refine Kd.C_alloc ?_ _) | (with_reducible refine Kd.C_drewN ?_ _) | (with_reducible refine Kd.C_drew ?_))); (case side4 => exact (Kd.R_reads' HO688.out).2.1); rintro e w' ⟨rfl, ⟨nd, rfl⟩⟩; refine ⟨_, rfl, ?_⟩) | ((with_reducible refine gate_callee (f := 17) rfl ?_); refine goesL_ (some 40) rfl rfl Try.func17 (by kernel_rfl) rfl #[.slice A0 l0.length c0] rfl (by (try simp only [List.map_toArray, List.map_cons, List.map_nil]); first | done | rfl | (simp only [List.length_drop, List.length_take]; rfl)) ?_; (with_reducible refine (laws_toIntS.calls k _ _ l0 t699 _ ?side1 ?side2 A14.out).mono ?_); (case side1 => repeat (first | exact (Kd.C_below HR0.out (by repeat (first | (with_reducible first | exact HB.out | apply below_alloc | apply pw_below_drewN | apply below_drew1) | exact HB.out))) | (with_reducible refine Kd.C_alloc ?_ _) | (with_reducible refine Kd.C_drewN ?_ _) | (with_reducible refine Kd.C_drew ?_))); (case side2 => exact HC0.out); rintro e w99 ⟨v700, rfl, ho0, hb⟩; refine ⟨_, rfl, ?_⟩; have n0_ := Aside0.mk (Kd.R_elder' (by (with_reducible repeat (first | apply Kd.R_alloc | apply Kd.R_drewN | apply Kd.R_drew)); exact HO682.out) (Kd.R_base ho0) hb); have n1_ := Aside0.mk (Kd.R_below (by (with_reducible repeat (first | apply Kd.R_alloc | apply Kd.R_drewN | apply Kd.R_drew)); exact HO685.out) hb); have n2_ := Aside0.mk (Kd.R_elder' (by (with_reducible repeat (first | apply Kd.R_alloc | apply Kd.R_drewN | apply Kd.R_drew)); exact HO688.out) (Kd.R_base ho0) hb); have n3_ := Aside0.mk (Kd.R_elder' (by (with_reducible repeat (first | apply Kd.R_alloc | apply Kd.R_drewN | apply Kd.R_drew)); exact HO691.out) (Kd.R_base ho0) hb); have n4_ := Aside0.mk (Kd.R_below (by (with_reducible repeat (first | apply Kd.R_alloc | apply Kd.R_drewN | apply Kd.R_drew)); exact HO694.out) hb); have n5_ := Aside0.mk (Kd.R_elder' (by (with_reducible repeat (first | apply Kd.R_alloc | apply Kd.R_drewN | apply Kd.R_drew)); exact HO697.out) (Kd.R_base ho0) hb); have n6_ := Aside0.mk (Kd.R_lower (Kd.R_new' (Kd.R_new' (Kd.R_new' (Kd.R_new' ho0 (Kd.R_lt (by (with_reducible repeat (first | apply Kd.R_alloc | apply Kd.R_drewN | apply Kd.R_drew)); exact HO682.out))) (Kd.R_lt (by (with_reducible repeat (first | apply Kd.R_alloc | apply Kd.R_drewN | apply Kd.R_drew)); exact HO688.out))) (Kd.R_lt (by (with_reducible repeat (first | apply Kd.R_alloc | apply Kd.R_drewN | apply Kd.R_drew)); exact HO691.out))) (Kd.R_lt (by (with_reducible repeat (first | apply Kd.R_alloc | apply Kd.R_drewN | apply Kd.R_drew)); exact HO697.out))) (below_size (by repeat (first | (with_reducible first | exact HB.out | apply below_alloc | apply pw_below_drewN | apply below_drew1) | exact HB.out)))); have n7_ := Aside0.mk (below_step (by repeat (first | (with_reducible first | exact HB.out | apply below_alloc | apply pw_below_drewN | apply below_drew1) | exact HB.out)) hb); clear HO682; clear HO685; clear HO688; clear HO691; clear HO694; clear HO697; clear HB; have HO682 := n0_; have HO685 := n1_; have HO688 := n2_; have HO691 := n3_; have HO694 := n4_; have HO697 := n5_; have HO701 := n6_; have HB := n7_; clear n0_ n1_ n2_ n3_ n4_ n5_ n6_ n7_; (try clear hb); (try clear hb2); (try clear hk); (try clear hi); (try clear ho0); obtain ⟨Ao100, co100, eo100⟩ := Kd.R_slice HO701.out; subst eo100) | ((with_reducible refine gate_callee (f := 20) rfl ?_); refine goesL_ (some 41) rfl rfl Try.func20 (by kernel_rfl) rfl #[.slice Ao94 t689.length co94, .slice Ao100 t699.length co100] rfl (by (try simp only [List.map_toArray, List.map_cons, List.map_nil]); first | done | rfl | (simp only [List.length_drop, List.length_take]; rfl)) ?_; (with_reducible refine (laws_eqIntS.calls k _ _ t689 _ _ t699 true _ ?side1 ?side2 ?side3 ?side4 A15.out).mono ?_); (case side1 => repeat (first | exact (Kd.R_reads' HO691.out).2.2 | (with_reducible refine Kd.C_alloc ?_ _) | (with_reducible refine Kd.C_drewN ?_ _) | (with_reducible refine Kd.C_drew ?_))); (case side2 => exact (Kd.R_reads' HO691.out).2.1); (case side3 => repeat (first | exact (Kd.R_reads' HO701.out).2.2 | (with_reducible refine Kd.C_alloc ?_ _) | (with_reducible refine Kd.C_drewN ?_ _) | (with_reducible refine Kd.C_drew ?_))); (case side4 => exact (Kd.R_reads' HO701.out).2.1); rintro e w' ⟨rfl, ⟨nd, rfl⟩⟩; refine ⟨_, rfl, ?_⟩) | ((with_reducible refine gate_callee (f := 18) rfl ?_); refine goesL_ (some 45) rfl rfl Try.func18 (by kernel_rfl) rfl #[.slice A1 l1.length c1] rfl (by (try simp only [List.map_toArray, List.map_cons, List.map_nil]); first | done | rfl | (simp only [List.length_drop, List.length_take]; rfl)) ?_; (with_reducible refine (laws_toWaitS.calls k _ _ l1 t703 _ ?side1 ?side2 A17.out).mono ?_); (case side1 => repeat (first | exact (Kd.C_below HR1.out (by repeat (first | (with_reducible first | exact HB.out | apply below_alloc | apply pw_below_drewN | apply below_drew1) | exact HB.out))) | (with_reducible refine Kd.C_alloc ?_ _) | (with_reducible refine Kd.C_drewN ?_ _) | (with_reducible refine Kd.C_drew ?_))); (case side2 => exact HC1.out); rintro e w101 ⟨v704, rfl, ho0, hb⟩; refine ⟨_, rfl, ?_⟩; have n0_ := Aside0.mk (Kd.R_below (by (with_reducible repeat (first | apply Kd.R_alloc | apply Kd.R_drewN | apply Kd.R_drew)); exact HO682.out) hb); have n1_ := Aside0.mk (Kd.R_elder' (by (with_reducible repeat (first | apply Kd.R_alloc | apply Kd.R_drewN | apply Kd.R_drew)); exact HO685.out) (Kd.R_base ho0) hb); have n2_ := Aside0.mk (Kd.R_below (by (with_reducible repeat (first | apply Kd.R_alloc | apply Kd.R_drewN | apply Kd.R_drew)); exact HO688.out) hb); have n3_ := Aside0.mk (Kd.R_below (by (with_reducible repeat (first | apply Kd.R_alloc | apply Kd.R_drewN | apply Kd.R_drew)); exact HO691.out) hb); have n4_ := Aside0.mk (Kd.R_elder' (by (with_reducible repeat (first | apply Kd.R_alloc | apply Kd.R_drewN | apply Kd.R_drew)); exact HO694.out) (Kd.R_base ho0) hb); have n5_ := Aside0.mk (Kd.R_below (by (with_reducible repeat (first | apply Kd.R_alloc | apply Kd.R_drewN | apply Kd.R_drew)); exact HO697.out) hb); have n6_ := Aside0.mk (Kd.R_below (by (with_reducible repeat (first | apply Kd.R_alloc | apply Kd.R_drewN | apply Kd.R_drew)); exact HO701.out) hb); have n7_ := Aside0.mk (Kd.R_lower (Kd.R_new' (Kd.R_new' ho0 (Kd.R_lt (by (with_reducible repeat (first | apply Kd.R_alloc | apply Kd.R_drewN | apply Kd.R_drew)); exact HO685.out))) (Kd.R_lt (by (with_reducible repeat (first | apply Kd.R_alloc | apply Kd.R_drewN | apply Kd.R_drew)); exact HO694.out))) (below_size (by repeat (first | (with_reducible first | exact HB.out | apply below_alloc | apply pw_below_drewN | apply below_drew1) | exact HB.out)))); have n8_ := Aside0.mk (below_step (by repeat (first | (with_reducible first | exact HB.out | apply below_alloc | apply pw_below_drewN | apply below_drew1) | exact HB.out)) hb); clear HO682; clear HO685; clear HO688; clear HO691; clear HO694; clear HO697; clear HO701; clear HB; have HO682 := n0_; have HO685 := n1_; have HO688 := n2_; have HO691 := n3_; have HO694 := n4_; have HO697 := n5_; have HO701 := n6_; have HO705 := n7_; have HB := n8_; clear n0_ n1_ n2_ n3_ n4_ n5_ n6_ n7_ n8_; (try clear hb); (try clear hb2); (try clear hk); (try clear hi); (try clear ho0); obtain ⟨Ao102, co102, eo102⟩ := Kd.R_slice HO705.out; subst eo102) | ((with_reducible refine gate_callee (f := 21) rfl ?_); refine goesL_ (some 46) rfl rfl Try.func21 (by kernel_rfl) rfl #[.slice Ao95 t692.length co95, .slice Ao102 t703.length co102] rfl (by (try simp only [List.map_toArray, List.map_cons, List.map_nil]); first | done | rfl | (simp only [List.length_drop, List.length_take]; rfl)) ?_; (with_reducible refine (laws_eqWaitS.calls k _ _ t692 _ _ t703 false _ ?side1 ?side2 ?side3 ?side4 A18.out).mono ?_); (case side1 => repeat (first | exact (Kd.R_reads' HO694.out).2.2 | (with_reducible refine Kd.C_alloc ?_ _) | (with_reducible refine Kd.C_drewN ?_ _) | (with_reducible refine Kd.C_drew ?_))); (case side2 => exact (Kd.R_reads' HO694.out).2.1); (case side3 => repeat (first | exact (Kd.R_reads' HO705.out).2.2 | (with_reducible refine Kd.C_alloc ?_ _) | (with_reducible refine Kd.C_drewN ?_ _) | (with_reducible refine Kd.C_drew ?_))); (case side4 => exact (Kd.R_reads' HO705.out).2.1); rintro e w103 ⟨rfl, hb⟩; refine ⟨_, rfl, ?_⟩; have n0_ := Aside0.mk (Kd.R_below (by (with_reducible repeat (first | apply Kd.R_alloc | apply Kd.R_drewN | apply Kd.R_drew)); exact HO682.out) hb); have n1_ := Aside0.mk (Kd.R_below (by (with_reducible repeat (first | apply Kd.R_alloc | apply Kd.R_drewN | apply Kd.R_drew)); exact HO685.out) hb); have n2_ := Aside0.mk (Kd.R_below (by (with_reducible repeat (first | apply Kd.R_alloc | apply Kd.R_drewN | apply Kd.R_drew)); exact HO688.out) hb); have n3_ := Aside0.mk (Kd.R_below (by (with_reducible repeat (first | apply Kd.R_alloc | apply Kd.R_drewN | apply Kd.R_drew)); exact HO691.out) hb); have n4_ := Aside0.mk (Kd.R_below (by (with_reducible repeat (first | apply Kd.R_alloc | apply Kd.R_drewN | apply Kd.R_drew)); exact HO694.out) hb); have n5_ := Aside0.mk (Kd.R_below (by (with_reducible repeat (first | apply Kd.R_alloc | apply Kd.R_drewN | apply Kd.R_drew)); exact HO697.out) hb); have n6_ := Aside0.mk (Kd.R_below (by (with_reducible repeat (first | apply Kd.R_alloc | apply Kd.R_drewN | apply Kd.R_drew)); exact HO701.out) hb); have n7_ := Aside0.mk (Kd.R_below (by (with_reducible repeat (first | apply Kd.R_alloc | apply Kd.R_drewN | apply Kd.R_drew)); exact HO705.out) hb); have n8_ := Aside0.mk (below_step (by repeat (first | (with_reducible first | exact HB.out | apply below_alloc | apply pw_below_drewN | apply below_drew1) | exact HB.out)) hb); clear HO682; clear HO685; clear HO688; clear HO691; clear HO694; clear HO697; clear HO701; clear HO705; clear HB; have HO682 := n0_; have HO685 := n1_; have HO688 := n2_; have HO691 := n3_; have HO694 := n4_; have HO697 := n5_; have HO701 := n6_; have HO705 := n7_; have HB := n8_; clear n0_ n1_ n2_ n3_ n4_ n5_ n6_ n7_ n8_; (try clear hb); (try clear hb2); (try clear hk); (try clear hi)))
            go_ret
            exact ⟨by first | rfl | (simp [errW_none, errW_some] <;> rfl) | (simp [*, errW_none, errW_some] <;> rfl), by repeat (first | (with_reducible first | exact HB.out | apply below_alloc | apply pw_below_drewN | apply below_drew1) | exact HB.out)⟩
        · replace c16 := Bool.eq_false_iff.mpr c16
          subst c16
          have H1 : (some false) = some r := by rw [if_neg (show ¬ (false = true) by decide)] at H; exact H
          clear H
          have H := H1
          clear H1
          obtain rfl := Option.some.inj H
          go_enter Try.func11, Try.ntmps11
          go_wp2_with (first | ((with_reducible refine gate_callee (f := 15) rfl ?_); refine goesL_ (some 19) rfl rfl Try.func15 (by kernel_rfl) rfl #[.slice A1 l1.length c1, .int .i64 1048576] rfl (by (try simp only [List.map_toArray, List.map_cons, List.map_nil]); first | done | rfl | (simp only [List.length_drop, List.length_take]; rfl)) ?_; (with_reducible refine (laws_szWaitS.calls _ _ l1 1048576 t679 _ ?side1 ?side2 A4.out).mono ?_); (case side1 => repeat (first | exact HR1.out | (with_reducible refine Kd.C_alloc ?_ _) | (with_reducible refine Kd.C_drewN ?_ _) | (with_reducible refine Kd.C_drew ?_))); (case side2 => exact HC1.out); rintro e w' ⟨rfl, ⟨nd, rfl⟩⟩; refine ⟨_, rfl, ?_⟩) | ((with_reducible refine gate_callee (f := 17) rfl ?_); refine goesL_ (some 23) rfl rfl Try.func17 (by kernel_rfl) rfl #[.slice A0 l0.length c0] rfl (by (try simp only [List.map_toArray, List.map_cons, List.map_nil]); first | done | rfl | (simp only [List.length_drop, List.length_take]; rfl)) ?_; (with_reducible refine (laws_toIntS.calls k _ _ l0 t680 _ ?side1 ?side2 A6.out).mono ?_); (case side1 => repeat (first | exact HR0.out | (with_reducible refine Kd.C_alloc ?_ _) | (with_reducible refine Kd.C_drewN ?_ _) | (with_reducible refine Kd.C_drew ?_))); (case side2 => exact HC0.out); rintro e w104 ⟨v681, rfl, ho0, hb⟩; refine ⟨_, rfl, ?_⟩; have n0_ := Aside0.mk (Kd.R_lower ho0 (below_size (by repeat (first | (with_reducible first | exact HB.out | apply below_alloc | apply pw_below_drewN | apply below_drew1) | exact HB.out)))); have n1_ := Aside0.mk (below_step (by repeat (first | (with_reducible first | exact HB.out | apply below_alloc | apply pw_below_drewN | apply below_drew1) | exact HB.out)) hb); clear HB; have HO682 := n0_; have HB := n1_; clear n0_ n1_; (try clear hb); (try clear hb2); (try clear hk); (try clear hi); (try clear ho0)) | ((with_reducible refine gate_callee (f := 18) rfl ?_); refine goesL_ (some 25) rfl rfl Try.func18 (by kernel_rfl) rfl #[.slice A1 l1.length c1] rfl (by (try simp only [List.map_toArray, List.map_cons, List.map_nil]); first | done | rfl | (simp only [List.length_drop, List.length_take]; rfl)) ?_; (with_reducible refine (laws_toWaitS.calls k _ _ l1 t683 _ ?side1 ?side2 A7.out).mono ?_); (case side1 => repeat (first | exact (Kd.C_below HR1.out HB.out) | (with_reducible refine Kd.C_alloc ?_ _) | (with_reducible refine Kd.C_drewN ?_ _) | (with_reducible refine Kd.C_drew ?_))); (case side2 => exact HC1.out); rintro e w105 ⟨v684, rfl, ho0, hb⟩; refine ⟨_, rfl, ?_⟩; have n0_ := Aside0.mk (Kd.R_below (by (with_reducible repeat (first | apply Kd.R_alloc | apply Kd.R_drewN | apply Kd.R_drew)); exact HO682.out) hb); have n1_ := Aside0.mk (Kd.R_lower ho0 (below_size (by repeat (first | (with_reducible first | exact HB.out | apply below_alloc | apply pw_below_drewN | apply below_drew1) | exact HB.out)))); have n2_ := Aside0.mk (below_step (by repeat (first | (with_reducible first | exact HB.out | apply below_alloc | apply pw_below_drewN | apply below_drew1) | exact HB.out)) hb); clear HO682; clear HB; have HO682 := n0_; have HO685 := n1_; have HB := n2_; clear n0_ n1_ n2_; (try clear hb); (try clear hb2); (try clear hk); (try clear hi); (try clear ho0); obtain ⟨Ao106, co106, eo106⟩ := Kd.R_slice HO682.out; subst eo106; obtain ⟨Ao107, co107, eo107⟩ := Kd.R_slice HO685.out; subst eo107) | ((with_reducible refine gate_callee (f := 38) rfl ?_); refine goesL_ (some 26) rfl rfl Try.func38 (by kernel_rfl) rfl #[.slice Ao106 t680.length co106, .slice Ao107 t683.length co107] rfl (by (try simp only [List.map_toArray, List.map_cons, List.map_nil]); first | done | rfl | (simp only [List.length_drop, List.length_take]; rfl)) ?_; (with_reducible refine (spec_OneByOne.calls k _ _ t680 _ _ t683 t686 _ ?side1 ?side2 ?side3 ?side4 A8.out).mono ?_); (case side1 => repeat (first | exact (Kd.R_reads' HO682.out).2.2 | (with_reducible refine Kd.C_alloc ?_ _) | (with_reducible refine Kd.C_drewN ?_ _) | (with_reducible refine Kd.C_drew ?_))); (case side2 => exact (Kd.R_reads' HO682.out).2.1); (case side3 => repeat (first | exact (Kd.R_reads' HO685.out).2.2 | (with_reducible refine Kd.C_alloc ?_ _) | (with_reducible refine Kd.C_drewN ?_ _) | (with_reducible refine Kd.C_drew ?_))); (case side4 => exact (Kd.R_reads' HO685.out).2.1); rintro e w108 ⟨v687, rfl, ho0, hb⟩; refine ⟨_, rfl, ?_⟩; have n0_ := Aside0.mk (Kd.R_elder' (by (with_reducible repeat (first | apply Kd.R_alloc | apply Kd.R_drewN | apply Kd.R_drew)); exact HO682.out) (Kd.R_base ho0) hb); have n1_ := Aside0.mk (Kd.R_below (by (with_reducible repeat (first | apply Kd.R_alloc | apply Kd.R_drewN | apply Kd.R_drew)); exact HO685.out) hb); have n2_ := Aside0.mk (Kd.R_lower (Kd.R_new' ho0 (Kd.R_lt (by (with_reducible repeat (first | apply Kd.R_alloc | apply Kd.R_drewN | apply Kd.R_drew)); exact HO682.out))) (below_size (by repeat (first | (with_reducible first | exact HB.out | apply below_alloc | apply pw_below_drewN | apply below_drew1) | exact HB.out)))); have n3_ := Aside0.mk (below_step (by repeat (first | (with_reducible first | exact HB.out | apply below_alloc | apply pw_below_drewN | apply below_drew1) | exact HB.out)) hb); clear HO682; clear HO685; clear HB; have HO682 := n0_; have HO685 := n1_; have HO688 := n2_; have HB := n3_; clear n0_ n1_ n2_ n3_; (try clear hb); (try clear hb2); (try clear hk); (try clear hi); (try clear ho0)) | ((with_reducible refine gate_callee (f := 17) rfl ?_); refine goesL_ (some 28) rfl rfl Try.func17 (by kernel_rfl) rfl #[.slice A0 l0.length c0] rfl (by (try simp only [List.map_toArray, List.map_cons, List.map_nil]); first | done | rfl | (simp only [List.length_drop, List.length_take]; rfl)) ?_; (with_reducible refine (laws_toIntS.calls k _ _ l0 t689 _ ?side1 ?side2 A9.out).mono ?_); (case side1 => repeat (first | exact (Kd.C_below HR0.out HB.out) | (with_reducible refine Kd.C_alloc ?_ _) | (with_reducible refine Kd.C_drewN ?_ _) | (with_reducible refine Kd.C_drew ?_))); (case side2 => exact HC0.out); rintro e w109 ⟨v690, rfl, ho0, hb⟩; refine ⟨_, rfl, ?_⟩; have n0_ := Aside0.mk (Kd.R_elder' (by (with_reducible repeat (first | apply Kd.R_alloc | apply Kd.R_drewN | apply Kd.R_drew)); exact HO682.out) (Kd.R_base ho0) hb); have n1_ := Aside0.mk (Kd.R_below (by (with_reducible repeat (first | apply Kd.R_alloc | apply Kd.R_drewN | apply Kd.R_drew)); exact HO685.out) hb); have n2_ := Aside0.mk (Kd.R_elder' (by (with_reducible repeat (first | apply Kd.R_alloc | apply Kd.R_drewN | apply Kd.R_drew)); exact HO688.out) (Kd.R_base ho0) hb); have n3_ := Aside0.mk (Kd.R_lower (Kd.R_new' (Kd.R_new' ho0 (Kd.R_lt (by (with_reducible repeat (first | apply Kd.R_alloc | apply Kd.R_drewN | apply Kd.R_drew)); exact HO682.out))) (Kd.R_lt (by (with_reducible repeat (first | apply Kd.R_alloc | apply Kd.R_drewN | apply Kd.R_drew)); exact HO688.out))) (below_size (by repeat (first | (with_reducible first | exact HB.out | apply below_alloc | apply pw_below_drewN | apply below_drew1) | exact HB.out)))); have n4_ := Aside0.mk (below_step (by repeat (first | (with_reducible first | exact HB.out | apply below_alloc | apply pw_below_drewN | apply below_drew1) | exact HB.out)) hb); clear HO682; clear HO685; clear HO688; clear HB; have HO682 := n0_; have HO685 := n1_; have HO688 := n2_; have HO691 := n3_; have HB := n4_; clear n0_ n1_ n2_ n3_ n4_; (try clear hb); (try clear hb2); (try clear hk); (try clear hi); (try clear ho0)) | ((with_reducible refine gate_callee (f := 18) rfl ?_); refine goesL_ (some 30) rfl rfl Try.func18 (by kernel_rfl) rfl #[.slice A1 l1.length c1] rfl (by (try simp only [List.map_toArray, List.map_cons, List.map_nil]); first | done | rfl | (simp only [List.length_drop, List.length_take]; rfl)) ?_; (with_reducible refine (laws_toWaitS.calls k _ _ l1 t692 _ ?side1 ?side2 A10.out).mono ?_); (case side1 => repeat (first | exact (Kd.C_below HR1.out HB.out) | (with_reducible refine Kd.C_alloc ?_ _) | (with_reducible refine Kd.C_drewN ?_ _) | (with_reducible refine Kd.C_drew ?_))); (case side2 => exact HC1.out); rintro e w110 ⟨v693, rfl, ho0, hb⟩; refine ⟨_, rfl, ?_⟩; have n0_ := Aside0.mk (Kd.R_below (by (with_reducible repeat (first | apply Kd.R_alloc | apply Kd.R_drewN | apply Kd.R_drew)); exact HO682.out) hb); have n1_ := Aside0.mk (Kd.R_elder' (by (with_reducible repeat (first | apply Kd.R_alloc | apply Kd.R_drewN | apply Kd.R_drew)); exact HO685.out) (Kd.R_base ho0) hb); have n2_ := Aside0.mk (Kd.R_below (by (with_reducible repeat (first | apply Kd.R_alloc | apply Kd.R_drewN | apply Kd.R_drew)); exact HO688.out) hb); have n3_ := Aside0.mk (Kd.R_below (by (with_reducible repeat (first | apply Kd.R_alloc | apply Kd.R_drewN | apply Kd.R_drew)); exact HO691.out) hb); have n4_ := Aside0.mk (Kd.R_lower (Kd.R_new' ho0 (Kd.R_lt (by (with_reducible repeat (first | apply Kd.R_alloc | apply Kd.R_drewN | apply Kd.R_drew)); exact HO685.out))) (below_size (by repeat (first | (with_reducible first | exact HB.out | apply below_alloc | apply pw_below_drewN | apply below_drew1) | exact HB.out)))); have n5_ := Aside0.mk (below_step (by repeat (first | (with_reducible first | exact HB.out | apply below_alloc | apply pw_below_drewN | apply below_drew1) | exact HB.out)) hb); clear HO682; clear HO685; clear HO688; clear HO691; clear HB; have HO682 := n0_; have HO685 := n1_; have HO688 := n2_; have HO691 := n3_; have HO694 := n4_; have HB := n5_; clear n0_ n1_ n2_ n3_ n4_ n5_; (try clear hb); (try clear hb2); (try clear hk); (try clear hi); (try clear ho0); obtain ⟨Ao111, co111, eo111⟩ := Kd.R_slice HO691.out; subst eo111; obtain ⟨Ao112, co112, eo112⟩ := Kd.R_slice HO694.out; subst eo112) | ((with_reducible refine gate_callee (f := 39) rfl ?_); refine goesL_ (some 33) rfl rfl Try.func39 (by kernel_rfl) rfl #[.slice Ao111 t689.length co111, .slice Ao112 t692.length co112] rfl (by (try simp only [List.map_toArray, List.map_cons, List.map_nil]); first | done | rfl | (simp only [List.length_drop, List.length_take]; rfl)) ?_; (with_reducible refine (impl_OneByOne.calls k _ _ t689 _ _ t692 t695 _ ?side1 ?side2 ?side3 ?side4 A11.out).mono ?_); (case side1 => repeat (first | exact (Kd.R_reads' HO691.out).2.2 | (with_reducible refine Kd.C_alloc ?_ _) | (with_reducible refine Kd.C_drewN ?_ _) | (with_reducible refine Kd.C_drew ?_))); (case side2 => exact (Kd.R_reads' HO691.out).2.1); (case side3 => repeat (first | exact (Kd.R_reads' HO694.out).2.2 | (with_reducible refine Kd.C_alloc ?_ _) | (with_reducible refine Kd.C_drewN ?_ _) | (with_reducible refine Kd.C_drew ?_))); (case side4 => exact (Kd.R_reads' HO694.out).2.1); rintro e w113 ⟨v696, rfl, ho0, hb⟩; refine ⟨_, rfl, ?_⟩; have n0_ := Aside0.mk (Kd.R_elder' (by (with_reducible repeat (first | apply Kd.R_alloc | apply Kd.R_drewN | apply Kd.R_drew)); exact HO682.out) (Kd.R_base ho0) hb); have n1_ := Aside0.mk (Kd.R_below (by (with_reducible repeat (first | apply Kd.R_alloc | apply Kd.R_drewN | apply Kd.R_drew)); exact HO685.out) hb); have n2_ := Aside0.mk (Kd.R_elder' (by (with_reducible repeat (first | apply Kd.R_alloc | apply Kd.R_drewN | apply Kd.R_drew)); exact HO688.out) (Kd.R_base ho0) hb); have n3_ := Aside0.mk (Kd.R_elder' (by (with_reducible repeat (first | apply Kd.R_alloc | apply Kd.R_drewN | apply Kd.R_drew)); exact HO691.out) (Kd.R_base ho0) hb); have n4_ := Aside0.mk (Kd.R_below (by (with_reducible repeat (first | apply Kd.R_alloc | apply Kd.R_drewN | apply Kd.R_drew)); exact HO694.out) hb); have n5_ := Aside0.mk (Kd.R_lower (Kd.R_new' (Kd.R_new' (Kd.R_new' ho0 (Kd.R_lt (by (with_reducible repeat (first | apply Kd.R_alloc | apply Kd.R_drewN | apply Kd.R_drew)); exact HO682.out))) (Kd.R_lt (by (with_reducible repeat (first | apply Kd.R_alloc | apply Kd.R_drewN | apply Kd.R_drew)); exact HO688.out))) (Kd.R_lt (by (with_reducible repeat (first | apply Kd.R_alloc | apply Kd.R_drewN | apply Kd.R_drew)); exact HO691.out))) (below_size (by repeat (first | (with_reducible first | exact HB.out | apply below_alloc | apply pw_below_drewN | apply below_drew1) | exact HB.out)))); have n6_ := Aside0.mk (below_step (by repeat (first | (with_reducible first | exact HB.out | apply below_alloc | apply pw_below_drewN | apply below_drew1) | exact HB.out)) hb); clear HO682; clear HO685; clear HO688; clear HO691; clear HO694; clear HB; have HO682 := n0_; have HO685 := n1_; have HO688 := n2_; have HO691 := n3_; have HO694 := n4_; have HO697 := n5_; have HB := n6_; clear n0_ n1_ n2_ n3_ n4_ n5_ n6_; (try clear hb); (try clear hb2); (try clear hk); (try clear hi); (try clear ho0); obtain ⟨Ao114, co114, eo114⟩ := Kd.R_slice HO697.out; subst eo114; obtain ⟨Ao115, co115, eo115⟩ := Kd.R_slice HO688.out; subst eo115) | ((with_reducible refine gate_callee (f := 20) rfl ?_); refine goesL_ (some 36) rfl rfl Try.func20 (by kernel_rfl) rfl #[.slice Ao114 t695.length co114, .slice Ao115 t686.length co115] rfl (by (try simp only [List.map_toArray, List.map_cons, List.map_nil]); first | done | rfl | (simp only [List.length_drop, List.length_take]; rfl)) ?_; (with_reducible refine (laws_eqIntS.calls k _ _ t695 _ _ t686 true _ ?side1 ?side2 ?side3 ?side4 A12.out).mono ?_); (case side1 => repeat (first | exact (Kd.R_reads' HO697.out).2.2 | (with_reducible refine Kd.C_alloc ?_ _) | (with_reducible refine Kd.C_drewN ?_ _) | (with_reducible refine Kd.C_drew ?_))); (case side2 => exact (Kd.R_reads' HO697.out).2.1); (case side3 => repeat (first | exact (Kd.R_reads' HO688.out).2.2 | (with_reducible refine Kd.C_alloc ?_ _) | (with_reducible refine Kd.C_drewN ?_ _) | (with_reducible refine Kd.C_drew ?_))); (case side4 => exact (Kd.R_reads' HO688.out).2.1); rintro e w' ⟨rfl, ⟨nd, rfl⟩⟩; refine ⟨_, rfl, ?_⟩) | ((with_reducible refine gate_callee (f := 17) rfl ?_); refine goesL_ (some 40) rfl rfl Try.func17 (by kernel_rfl) rfl #[.slice A0 l0.length c0] rfl (by (try simp only [List.map_toArray, List.map_cons, List.map_nil]); first | done | rfl | (simp only [List.length_drop, List.length_take]; rfl)) ?_; (with_reducible refine (laws_toIntS.calls k _ _ l0 t699 _ ?side1 ?side2 A14.out).mono ?_); (case side1 => repeat (first | exact (Kd.C_below HR0.out (by repeat (first | (with_reducible first | exact HB.out | apply below_alloc | apply pw_below_drewN | apply below_drew1) | exact HB.out))) | (with_reducible refine Kd.C_alloc ?_ _) | (with_reducible refine Kd.C_drewN ?_ _) | (with_reducible refine Kd.C_drew ?_))); (case side2 => exact HC0.out); rintro e w116 ⟨v700, rfl, ho0, hb⟩; refine ⟨_, rfl, ?_⟩; have n0_ := Aside0.mk (Kd.R_elder' (by (with_reducible repeat (first | apply Kd.R_alloc | apply Kd.R_drewN | apply Kd.R_drew)); exact HO682.out) (Kd.R_base ho0) hb); have n1_ := Aside0.mk (Kd.R_below (by (with_reducible repeat (first | apply Kd.R_alloc | apply Kd.R_drewN | apply Kd.R_drew)); exact HO685.out) hb); have n2_ := Aside0.mk (Kd.R_elder' (by (with_reducible repeat (first | apply Kd.R_alloc | apply Kd.R_drewN | apply Kd.R_drew)); exact HO688.out) (Kd.R_base ho0) hb); have n3_ := Aside0.mk (Kd.R_elder' (by (with_reducible repeat (first | apply Kd.R_alloc | apply Kd.R_drewN | apply Kd.R_drew)); exact HO691.out) (Kd.R_base ho0) hb); have n4_ := Aside0.mk (Kd.R_below (by (with_reducible repeat (first | apply Kd.R_alloc | apply Kd.R_drewN | apply Kd.R_drew)); exact HO694.out) hb); have n5_ := Aside0.mk (Kd.R_elder' (by (with_reducible repeat (first | apply Kd.R_alloc | apply Kd.R_drewN | apply Kd.R_drew)); exact HO697.out) (Kd.R_base ho0) hb); have n6_ := Aside0.mk (Kd.R_lower (Kd.R_new' (Kd.R_new' (Kd.R_new' (Kd.R_new' ho0 (Kd.R_lt (by (with_reducible repeat (first | apply Kd.R_alloc | apply Kd.R_drewN | apply Kd.R_drew)); exact HO682.out))) (Kd.R_lt (by (with_reducible repeat (first | apply Kd.R_alloc | apply Kd.R_drewN | apply Kd.R_drew)); exact HO688.out))) (Kd.R_lt (by (with_reducible repeat (first | apply Kd.R_alloc | apply Kd.R_drewN | apply Kd.R_drew)); exact HO691.out))) (Kd.R_lt (by (with_reducible repeat (first | apply Kd.R_alloc | apply Kd.R_drewN | apply Kd.R_drew)); exact HO697.out))) (below_size (by repeat (first | (with_reducible first | exact HB.out | apply below_alloc | apply pw_below_drewN | apply below_drew1) | exact HB.out)))); have n7_ := Aside0.mk (below_step (by repeat (first | (with_reducible first | exact HB.out | apply below_alloc | apply pw_below_drewN | apply below_drew1) | exact HB.out)) hb); clear HO682; clear HO685; clear HO688; clear HO691; clear HO694; clear HO697; clear HB; have HO682 := n0_; have HO685 := n1_; have HO688 := n2_; have HO691 := n3_; have HO694 := n4_; have HO697 := n5_; have HO701 := n6_; have HB := n7_; clear n0_ n1_ n2_ n3_ n4_ n5_ n6_ n7_; (try clear hb); (try clear hb2); (try clear hk); (try clear hi); (try clear ho0); obtain ⟨Ao117, co117, eo117⟩ := Kd.R_slice HO701.out; subst eo117) | ((with_reducible refine gate_callee (f := 20) rfl ?_); refine goesL_ (some 41) rfl rfl Try.func20 (by kernel_rfl) rfl #[.slice Ao111 t689.length co111, .slice Ao117 t699.length co117] rfl (by (try simp only [List.map_toArray, List.map_cons, List.map_nil]); first | done | rfl | (simp only [List.length_drop, List.length_take]; rfl)) ?_; (with_reducible refine (laws_eqIntS.calls k _ _ t689 _ _ t699 false _ ?side1 ?side2 ?side3 ?side4 A15.out).mono ?_); (case side1 => repeat (first | exact (Kd.R_reads' HO691.out).2.2 | (with_reducible refine Kd.C_alloc ?_ _) | (with_reducible refine Kd.C_drewN ?_ _) | (with_reducible refine Kd.C_drew ?_))); (case side2 => exact (Kd.R_reads' HO691.out).2.1); (case side3 => repeat (first | exact (Kd.R_reads' HO701.out).2.2 | (with_reducible refine Kd.C_alloc ?_ _) | (with_reducible refine Kd.C_drewN ?_ _) | (with_reducible refine Kd.C_drew ?_))); (case side4 => exact (Kd.R_reads' HO701.out).2.1); rintro e w' ⟨rfl, ⟨nd, rfl⟩⟩; refine ⟨_, rfl, ?_⟩))
          go_ret
          exact ⟨by first | rfl | (simp [errW_none, errW_some] <;> rfl) | (simp [*, errW_none, errW_some] <;> rfl), by repeat (first | (with_reducible first | exact HB.out | apply below_alloc | apply pw_below_drewN | apply below_drew1) | exact HB.out)⟩
      · replace c13 := Bool.eq_false_iff.mpr c13
        subst c13
        have H1 : (some false) = some r := by rw [if_neg (show ¬ (false = true) by decide)] at H; exact H
        clear H
        have H := H1
        clear H1
        obtain rfl := Option.some.inj H
        go_enter Try.func11, Try.ntmps11
        go_wp2_with (first | ((with_reducible refine gate_callee (f := 15) rfl ?_); refine goesL_ (some 19) rfl rfl Try.func15 (by kernel_rfl) rfl #[.slice A1 l1.length c1, .int .i64 1048576] rfl (by (try simp only [List.map_toArray, List.map_cons, List.map_nil]); first | done | rfl | (simp only [List.length_drop, List.length_take]; rfl)) ?_; (with_reducible refine (laws_szWaitS.calls _ _ l1 1048576 t679 _ ?side1 ?side2 A4.out).mono ?_); (case side1 => repeat (first | exact HR1.out | (with_reducible refine Kd.C_alloc ?_ _) | (with_reducible refine Kd.C_drewN ?_ _) | (with_reducible refine Kd.C_drew ?_))); (case side2 => exact HC1.out); rintro e w' ⟨rfl, ⟨nd, rfl⟩⟩; refine ⟨_, rfl, ?_⟩) | ((with_reducible refine gate_callee (f := 17) rfl ?_); refine goesL_ (some 23) rfl rfl Try.func17 (by kernel_rfl) rfl #[.slice A0 l0.length c0] rfl (by (try simp only [List.map_toArray, List.map_cons, List.map_nil]); first | done | rfl | (simp only [List.length_drop, List.length_take]; rfl)) ?_; (with_reducible refine (laws_toIntS.calls k _ _ l0 t680 _ ?side1 ?side2 A6.out).mono ?_); (case side1 => repeat (first | exact HR0.out | (with_reducible refine Kd.C_alloc ?_ _) | (with_reducible refine Kd.C_drewN ?_ _) | (with_reducible refine Kd.C_drew ?_))); (case side2 => exact HC0.out); rintro e w118 ⟨v681, rfl, ho0, hb⟩; refine ⟨_, rfl, ?_⟩; have n0_ := Aside0.mk (Kd.R_lower ho0 (below_size (by repeat (first | (with_reducible first | exact HB.out | apply below_alloc | apply pw_below_drewN | apply below_drew1) | exact HB.out)))); have n1_ := Aside0.mk (below_step (by repeat (first | (with_reducible first | exact HB.out | apply below_alloc | apply pw_below_drewN | apply below_drew1) | exact HB.out)) hb); clear HB; have HO682 := n0_; have HB := n1_; clear n0_ n1_; (try clear hb); (try clear hb2); (try clear hk); (try clear hi); (try clear ho0)) | ((with_reducible refine gate_callee (f := 18) rfl ?_); refine goesL_ (some 25) rfl rfl Try.func18 (by kernel_rfl) rfl #[.slice A1 l1.length c1] rfl (by (try simp only [List.map_toArray, List.map_cons, List.map_nil]); first | done | rfl | (simp only [List.length_drop, List.length_take]; rfl)) ?_; (with_reducible refine (laws_toWaitS.calls k _ _ l1 t683 _ ?side1 ?side2 A7.out).mono ?_); (case side1 => repeat (first | exact (Kd.C_below HR1.out HB.out) | (with_reducible refine Kd.C_alloc ?_ _) | (with_reducible refine Kd.C_drewN ?_ _) | (with_reducible refine Kd.C_drew ?_))); (case side2 => exact HC1.out); rintro e w119 ⟨v684, rfl, ho0, hb⟩; refine ⟨_, rfl, ?_⟩; have n0_ := Aside0.mk (Kd.R_below (by (with_reducible repeat (first | apply Kd.R_alloc | apply Kd.R_drewN | apply Kd.R_drew)); exact HO682.out) hb); have n1_ := Aside0.mk (Kd.R_lower ho0 (below_size (by repeat (first | (with_reducible first | exact HB.out | apply below_alloc | apply pw_below_drewN | apply below_drew1) | exact HB.out)))); have n2_ := Aside0.mk (below_step (by repeat (first | (with_reducible first | exact HB.out | apply below_alloc | apply pw_below_drewN | apply below_drew1) | exact HB.out)) hb); clear HO682; clear HB; have HO682 := n0_; have HO685 := n1_; have HB := n2_; clear n0_ n1_ n2_; (try clear hb); (try clear hb2); (try clear hk); (try clear hi); (try clear ho0); obtain ⟨Ao120, co120, eo120⟩ := Kd.R_slice HO682.out; subst eo120; obtain ⟨Ao121, co121, eo121⟩ := Kd.R_slice HO685.out; subst eo121) | ((with_reducible refine gate_callee (f := 38) rfl ?_); refine goesL_ (some 26) rfl rfl Try.func38 (by kernel_rfl) rfl #[.slice Ao120 t680.length co120, .slice Ao121 t683.length co121] rfl (by (try simp only [List.map_toArray, List.map_cons, List.map_nil]); first | done | rfl | (simp only [List.length_drop, List.length_take]; rfl)) ?_; (with_reducible refine (spec_OneByOne.calls k _ _ t680 _ _ t683 t686 _ ?side1 ?side2 ?side3 ?side4 A8.out).mono ?_); (case side1 => repeat (first | exact (Kd.R_reads' HO682.out).2.2 | (with_reducible refine Kd.C_alloc ?_ _) | (with_reducible refine Kd.C_drewN ?_ _) | (with_reducible refine Kd.C_drew ?_))); (case side2 => exact (Kd.R_reads' HO682.out).2.1); (case side3 => repeat (first | exact (Kd.R_reads' HO685.out).2.2 | (with_reducible refine Kd.C_alloc ?_ _) | (with_reducible refine Kd.C_drewN ?_ _) | (with_reducible refine Kd.C_drew ?_))); (case side4 => exact (Kd.R_reads' HO685.out).2.1); rintro e w122 ⟨v687, rfl, ho0, hb⟩; refine ⟨_, rfl, ?_⟩; have n0_ := Aside0.mk (Kd.R_elder' (by (with_reducible repeat (first | apply Kd.R_alloc | apply Kd.R_drewN | apply Kd.R_drew)); exact HO682.out) (Kd.R_base ho0) hb); have n1_ := Aside0.mk (Kd.R_below (by (with_reducible repeat (first | apply Kd.R_alloc | apply Kd.R_drewN | apply Kd.R_drew)); exact HO685.out) hb); have n2_ := Aside0.mk (Kd.R_lower (Kd.R_new' ho0 (Kd.R_lt (by (with_reducible repeat (first | apply Kd.R_alloc | apply Kd.R_drewN | apply Kd.R_drew)); exact HO682.out))) (below_size (by repeat (first | (with_reducible first | exact HB.out | apply below_alloc | apply pw_below_drewN | apply below_drew1) | exact HB.out)))); have n3_ := Aside0.mk (below_step (by repeat (first | (with_reducible first | exact HB.out | apply below_alloc | apply pw_below_drewN | apply below_drew1) | exact HB.out)) hb); clear HO682; clear HO685; clear HB; have HO682 := n0_; have HO685 := n1_; have HO688 := n2_; have HB := n3_; clear n0_ n1_ n2_ n3_; (try clear hb); (try clear hb2); (try clear hk); (try clear hi); (try clear ho0)) | ((with_reducible refine gate_callee (f := 17) rfl ?_); refine goesL_ (some 28) rfl rfl Try.func17 (by kernel_rfl) rfl #[.slice A0 l0.length c0] rfl (by (try simp only [List.map_toArray, List.map_cons, List.map_nil]); first | done | rfl | (simp only [List.length_drop, List.length_take]; rfl)) ?_; (with_reducible refine (laws_toIntS.calls k _ _ l0 t689 _ ?side1 ?side2 A9.out).mono ?_); (case side1 => repeat (first | exact (Kd.C_below HR0.out HB.out) | (with_reducible refine Kd.C_alloc ?_ _) | (with_reducible refine Kd.C_drewN ?_ _) | (with_reducible refine Kd.C_drew ?_))); (case side2 => exact HC0.out); rintro e w123 ⟨v690, rfl, ho0, hb⟩; refine ⟨_, rfl, ?_⟩; have n0_ := Aside0.mk (Kd.R_elder' (by (with_reducible repeat (first | apply Kd.R_alloc | apply Kd.R_drewN | apply Kd.R_drew)); exact HO682.out) (Kd.R_base ho0) hb); have n1_ := Aside0.mk (Kd.R_below (by (with_reducible repeat (first | apply Kd.R_alloc | apply Kd.R_drewN | apply Kd.R_drew)); exact HO685.out) hb); have n2_ := Aside0.mk (Kd.R_elder' (by (with_reducible repeat (first | apply Kd.R_alloc | apply Kd.R_drewN | apply Kd.R_drew)); exact HO688.out) (Kd.R_base ho0) hb); have n3_ := Aside0.mk (Kd.R_lower (Kd.R_new' (Kd.R_new' ho0 (Kd.R_lt (by (with_reducible repeat (first | apply Kd.R_alloc | apply Kd.R_drewN | apply Kd.R_drew)); exact HO682.out))) (Kd.R_lt (by (with_reducible repeat (first | apply Kd.R_alloc | apply Kd.R_drewN | apply Kd.R_drew)); exact HO688.out))) (below_size (by repeat (first | (with_reducible first | exact HB.out | apply below_alloc | apply pw_below_drewN | apply below_drew1) | exact HB.out)))); have n4_ := Aside0.mk (below_step (by repeat (first | (with_reducible first | exact HB.out | apply below_alloc | apply pw_below_drewN | apply below_drew1) | exact HB.out)) hb); clear HO682; clear HO685; clear HO688; clear HB; have HO682 := n0_; have HO685 := n1_; have HO688 := n2_; have HO691 := n3_; have HB := n4_; clear n0_ n1_ n2_ n3_ n4_; (try clear hb); (try clear hb2); (try clear hk); (try clear hi); (try clear ho0)) | ((with_reducible refine gate_callee (f := 18) rfl ?_); refine goesL_ (some 30) rfl rfl Try.func18 (by kernel_rfl) rfl #[.slice A1 l1.length c1] rfl (by (try simp only [List.map_toArray, List.map_cons, List.map_nil]); first | done | rfl | (simp only [List.length_drop, List.length_take]; rfl)) ?_; (with_reducible refine (laws_toWaitS.calls k _ _ l1 t692 _ ?side1 ?side2 A10.out).mono ?_); (case side1 => repeat (first | exact (Kd.C_below HR1.out HB.out) | (with_reducible refine Kd.C_alloc ?_ _) | (with_reducible refine Kd.C_drewN ?_ _) | (with_reducible refine Kd.C_drew ?_))); (case side2 => exact HC1.out); rintro e w124 ⟨v693, rfl, ho0, hb⟩; refine ⟨_, rfl, ?_⟩; have n0_ := Aside0.mk (Kd.R_below (by (with_reducible repeat (first | apply Kd.R_alloc | apply Kd.R_drewN | apply Kd.R_drew)); exact HO682.out) hb); have n1_ := Aside0.mk (Kd.R_elder' (by (with_reducible repeat (first | apply Kd.R_alloc | apply Kd.R_drewN | apply Kd.R_drew)); exact HO685.out) (Kd.R_base ho0) hb); have n2_ := Aside0.mk (Kd.R_below (by (with_reducible repeat (first | apply Kd.R_alloc | apply Kd.R_drewN | apply Kd.R_drew)); exact HO688.out) hb); have n3_ := Aside0.mk (Kd.R_below (by (with_reducible repeat (first | apply Kd.R_alloc | apply Kd.R_drewN | apply Kd.R_drew)); exact HO691.out) hb); have n4_ := Aside0.mk (Kd.R_lower (Kd.R_new' ho0 (Kd.R_lt (by (with_reducible repeat (first | apply Kd.R_alloc | apply Kd.R_drewN | apply Kd.R_drew)); exact HO685.out))) (below_size (by repeat (first | (with_reducible first | exact HB.out | apply below_alloc | apply pw_below_drewN | apply below_drew1) | exact HB.out)))); have n5_ := Aside0.mk (below_step (by repeat (first | (with_reducible first | exact HB.out | apply below_alloc | apply pw_below_drewN | apply below_drew1) | exact HB.out)) hb); clear HO682; clear HO685; clear HO688; clear HO691; clear HB; have HO682 := n0_; have HO685 := n1_; have HO688 := n2_; have HO691 := n3_; have HO694 := n4_; have HB := n5_; clear n0_ n1_ n2_ n3_ n4_ n5_; (try clear hb); (try clear hb2); (try clear hk); (try clear hi); (try clear ho0); obtain ⟨Ao125, co125, eo125⟩ := Kd.R_slice HO691.out; subst eo125; obtain ⟨Ao126, co126, eo126⟩ := Kd.R_slice HO694.out; subst eo126) | ((with_reducible refine gate_callee (f := 39) rfl ?_); refine goesL_ (some 33) rfl rfl Try.func39 (by kernel_rfl) rfl #[.slice Ao125 t689.length co125, .slice Ao126 t692.length co126] rfl (by (try simp only [List.map_toArray, List.map_cons, List.map_nil]); first | done | rfl | (simp only [List.length_drop, List.length_take]; rfl)) ?_; (with_reducible refine (impl_OneByOne.calls k _ _ t689 _ _ t692 t695 _ ?side1 ?side2 ?side3 ?side4 A11.out).mono ?_); (case side1 => repeat (first | exact (Kd.R_reads' HO691.out).2.2 | (with_reducible refine Kd.C_alloc ?_ _) | (with_reducible refine Kd.C_drewN ?_ _) | (with_reducible refine Kd.C_drew ?_))); (case side2 => exact (Kd.R_reads' HO691.out).2.1); (case side3 => repeat (first | exact (Kd.R_reads' HO694.out).2.2 | (with_reducible refine Kd.C_alloc ?_ _) | (with_reducible refine Kd.C_drewN ?_ _) | (with_reducible refine Kd.C_drew ?_))); (case side4 => exact (Kd.R_reads' HO694.out).2.1); rintro e w127 ⟨v696, rfl, ho0, hb⟩; refine ⟨_, rfl, ?_⟩; have n0_ := Aside0.mk (Kd.R_elder' (by (with_reducible repeat (first | apply Kd.R_alloc | apply Kd.R_drewN | apply Kd.R_drew)); exact HO682.out) (Kd.R_base ho0) hb); have n1_ := Aside0.mk (Kd.R_below (by (with_reducible repeat (first | apply Kd.R_alloc | apply Kd.R_drewN | apply Kd.R_drew)); exact HO685.out) hb); have n2_ := Aside0.mk (Kd.R_elder' (by (with_reducible repeat (first | apply Kd.R_alloc | apply Kd.R_drewN | apply Kd.R_drew)); exact HO688.out) (Kd.R_base ho0) hb); have n3_ := Aside0.mk (Kd.R_elder' (by (with_reducible repeat (first | apply Kd.R_alloc | apply Kd.R_drewN | apply Kd.R_drew)); exact HO691.out) (Kd.R_base ho0) hb); have n4_ := Aside0.mk (Kd.R_below (by (with_reducible repeat (first | apply Kd.R_alloc | apply Kd.R_drewN | apply Kd.R_drew)); exact HO694.out) hb); have n5_ := Aside0.mk (Kd.R_lower (Kd.R_new' (Kd.R_new' (Kd.R_new' ho0 (Kd.R_lt (by (with_reducible repeat (first | apply Kd.R_alloc | apply Kd.R_drewN | apply Kd.R_drew)); exact HO682.out))) (Kd.R_lt (by (with_reducible repeat (first | apply Kd.R_alloc | apply Kd.R_drewN | apply Kd.R_drew)); exact HO688.out))) (Kd.R_lt (by (with_reducible repeat (first | apply Kd.R_alloc | apply Kd.R_drewN | apply Kd.R_drew)); exact HO691.out))) (below_size (by repeat (first | (with_reducible first | exact HB.out | apply below_alloc | apply pw_below_drewN | apply below_drew1) | exact HB.out)))); have n6_ := Aside0.mk (below_step (by repeat (first | (with_reducible first | exact HB.out | apply below_alloc | apply pw_below_drewN | apply below_drew1) | exact HB.out)) hb); clear HO682; clear HO685; clear HO688; clear HO691; clear HO694; clear HB; have HO682 := n0_; have HO685 := n1_; have HO688 := n2_; have HO691 := n3_; have HO694 := n4_; have HO697 := n5_; have HB := n6_; clear n0_ n1_ n2_ n3_ n4_ n5_ n6_; (try clear hb); (try clear hb2); (try clear hk); (try clear hi); (try clear ho0); obtain ⟨Ao128, co128, eo128⟩ := Kd.R_slice HO697.out; subst eo128; obtain ⟨Ao129, co129, eo129⟩ := Kd.R_slice HO688.out; subst eo129) | ((with_reducible refine gate_callee (f := 20) rfl ?_); refine goesL_ (some 36) rfl rfl Try.func20 (by kernel_rfl) rfl #[.slice Ao128 t695.length co128, .slice Ao129 t686.length co129] rfl (by (try simp only [List.map_toArray, List.map_cons, List.map_nil]); first | done | rfl | (simp only [List.length_drop, List.length_take]; rfl)) ?_; (with_reducible refine (laws_eqIntS.calls k _ _ t695 _ _ t686 false _ ?side1 ?side2 ?side3 ?side4 A12.out).mono ?_); (case side1 => repeat (first | exact (Kd.R_reads' HO697.out).2.2 | (with_reducible refine Kd.C_alloc ?_ _) | (with_reducible refine Kd.C_drewN ?_ _) | (with_reducible refine Kd.C_drew ?_))); (case side2 => exact (Kd.R_reads' HO697.out).2.1); (case side3 => repeat (first | exact (Kd.R_reads' HO688.out).2.2 | (with_reducible refine Kd.C_alloc ?_ _) | (with_reducible refine Kd.C_drewN ?_ _) | (with_reducible refine Kd.C_drew ?_))); (case side4 => exact (Kd.R_reads' HO688.out).2.1); rintro e w' ⟨rfl, ⟨nd, rfl⟩⟩; refine ⟨_, rfl, ?_⟩))
        go_ret
        exact ⟨by first | rfl | (simp [errW_none, errW_some] <;> rfl) | (simp [*, errW_none, errW_some] <;> rfl), by repeat (first | (with_reducible first | exact HB.out | apply below_alloc | apply pw_below_drewN | apply below_drew1) | exact HB.out)⟩
end Go.Proofs.Ytbnkiikpolcpkaa.PU

namespace Go.Proofs.Ytbnkiikpolcpkaa.Op
open Go.RowKit Go.Deep Go.Proofs.YtbnkiikpolcpkaaW.PrintWords
set_option linter.unusedVariables false
set_option linter.unusedSimpArgs false
variable {α β : Type} {P : Program} {t e : TypeId}
def Opens (P : Program) (t : TypeId) (d : Kd α) (G : α → Prop) : Prop :=
  P.cellsOf t = d.sz ∧ ∀ (H : Type) (enc : TypeId × Value → H) (W : World) (fuel : Nat) (cs : List Value) (x : DataW H × List MemPlace),
    DataW.trod enc P W 0 (fun _ => true) true fuel t cs = some x → ∃ a, d.K W a cs ∧ G a
theorem opens_int {k : IntKind} (ht : P.underlying t = some (.int k)) (hc : P.cellsOf t = 1) : Opens P t (Kd.int k) (fun _ => True) :=
  ⟨hc, fun H enc W fuel cs x h => by
    obtain ⟨n, rfl, _, _⟩ := DataW.trod_int ht h
    exact ⟨n, rfl, trivial⟩⟩
theorem opens_slice {d : Kd α} {G : α → Prop} (ht : P.underlying t = some (.slice e)) (hc : P.cellsOf t = 1) (ho : Opens P e d G) :
    Opens P t (Kd.slice e d) (fun xs => xs.length ≤ maxLen ∧ ∀ x ∈ xs, G x) := by
  refine ⟨hc, fun H enc W fuel cs x h => ?_⟩
  rcases open_slice ht h with ⟨rfl, _⟩ | ⟨a, len, cap, m, n, D, Pl, rfl, _, hl, hm, hmm, _, hx⟩
  · exact ⟨[], ⟨none, 0, rfl, Nat.le_refl _, Kd.C_nil d W⟩, by simp, fun x hx => by cases hx⟩
  · have hmc : m = cap := by simpa using hmm
    subst hmc
    have hall : ∀ i, i < len → ∃ y c, c.length = d.sz ∧ d.K W y c ∧ G y ∧ ∀ j u, c[j]? = some u → W.cell? (a.add (i * d.sz + j)) = some u := by
      intro i hi
      obtain ⟨cs', h1, h2⟩ := hx i (by omega)
      obtain ⟨y, hK, hG⟩ := ho.2 H enc W n cs' _ h2
      rw [ho.1] at h1
      obtain ⟨_, hlen, hcell⟩ := World.cells?_some h1
      refine ⟨y, cs', hlen, hK, hG, fun j u hu => ?_⟩
      have hj : j < d.sz := by have := (List.getElem?_eq_some_iff.1 hu).1; omega
      have := hcell j hj
      rw [Deep.add_add, hu] at this
      exact this
    refine ⟨List.ofFn (fun i : Fin len => Classical.choose (hall i.1 i.2)), ⟨some a, m, by rw [List.length_ofFn], by rw [List.length_ofFn]; exact hl, ?_⟩, by rw [List.length_ofFn]; omega, ?_⟩
    · rw [List.length_ofFn]
      refine ⟨List.length_ofFn, by unfold maxLen at hm; omega, fun _ => ⟨a, rfl, fun j p hp => ?_⟩⟩
      have hj : j < len := by have := (List.getElem?_eq_some_iff.1 hp).1; rwa [List.length_ofFn] at this
      have hp' : p = Classical.choose (hall j hj) := by
        rw [List.getElem?_ofFn, dif_pos hj] at hp
        exact (Option.some.inj hp).symm
      subst hp'
      obtain ⟨c, h1, h2, _, h4⟩ := Classical.choose_spec (hall j hj)
      exact ⟨c, h1, h2, h4⟩
    · intro x hx
      obtain ⟨i, hi, rfl⟩ := List.getElem_of_mem hx
      rw [List.getElem_ofFn]
      obtain ⟨c, _, _, h3, _⟩ := Classical.choose_spec (hall i (by rwa [List.length_ofFn] at hi))
      exact h3
def OpensF (P : Program) (fs : List Field) (off : Nat) (d : Kd α) (G : α → Prop) : Prop :=
  ∀ (H : Type) (enc : TypeId × Value → H) (W : World) (n : Nat) (cs : List Value), cs.length = off + d.sz →
    (∀ (i : Nat) (f : Field), fs[i]? = some f → ∃ y, DataW.trod enc P W 0 (fun _ => true) true n f.type ((cs.drop f.offset).take (P.cellsOf f.type)) = some y) →
    ∃ a, d.K W a (cs.drop off) ∧ G a
theorem opensF_one {d : Kd α} {G : α → Prop} {f : Field} {off : Nat} (ho : f.offset = off) (h : Opens P f.type d G) : OpensF P [f] off d G := by
  intro H enc W n cs hl hf
  obtain ⟨y, hy⟩ := hf 0 f rfl
  rw [ho, h.1, List.take_of_length_le (by rw [List.length_drop]; omega)] at hy
  exact h.2 H enc W n _ y hy
theorem opensF_cons {da : Kd α} {db : Kd β} {Ga : α → Prop} {Gb : β → Prop} {f : Field} {fs : List Field} {off : Nat} (ho : f.offset = off) (h : Opens P f.type da Ga) (hr : OpensF P fs (off + da.sz) db Gb) :
    OpensF P (f :: fs) off (Kd.pair da db) (fun x => Ga x.1 ∧ Gb x.2) := by
  intro H enc W n cs hl hf
  have hl' : cs.length = off + da.sz + db.sz := by have : (Kd.pair da db).sz = da.sz + db.sz := rfl; omega
  obtain ⟨y, hy⟩ := hf 0 f rfl
  rw [ho, h.1] at hy
  obtain ⟨a, hK, hG⟩ := h.2 H enc W n _ y hy
  obtain ⟨b, hK2, hG2⟩ := hr H enc W n cs hl' (fun i g hg => hf (i + 1) g (by simpa using hg))
  refine ⟨(a, b), ⟨_, _, ?_, hK, hK2⟩, hG, hG2⟩
  rw [← List.drop_drop]
  exact (List.take_append_drop _ _).symm
theorem opens_struct {d : Kd α} {G : α → Prop} {fs : Array Field} (ht : P.underlying t = some (.struct fs)) (hc : P.cellsOf t = d.sz) (hF : OpensF P fs.toList 0 d G) : Opens P t d G := by
  refine ⟨hc, fun H enc W fuel cs x h => ?_⟩
  obtain ⟨xs, n, _, _, hl, hlen, hf⟩ := DataW.trod_struct ht h
  have := hF H enc W n cs (by rw [hl, hc, Nat.zero_add]) (fun i f hi => by
    have hi' : fs[i]? = some f := by simpa using hi
    have hlt : i < xs.length := by
      have := (Array.getElem?_eq_some_iff.1 hi').1
      omega
    exact ⟨xs[i], by rw [hf i f hi', List.getElem?_eq_getElem hlt]⟩)
  simpa using this
theorem opens_iso {d : Kd α} {G : α → Prop} (h : Opens P t d G) (f : β → α) (g : α → β) (hfg : ∀ a, f (g a) = a) : Opens P t (Kd.iso d f) (fun b => G (f b)) := by
  refine ⟨h.1, fun H enc W fuel cs x hx => ?_⟩
  obtain ⟨a, hK, hG⟩ := h.2 H enc W fuel cs x hx
  exact ⟨g a, by show d.K W (f (g a)) cs; rw [hfg]; exact hK, by show G (f (g a)); rw [hfg]; exact hG⟩
theorem open_arg {H : Type} {enc : TypeId × Value → H} {W : World} {d : Kd α} {G : List α → Prop} {v : Value} {dd : DataW H} {ps : List MemPlace} (ho : Opens P t (Kd.slice e d) G) (hv : ∃ a len cap, v = .slice a len cap)
    (h : DataW.Trod enc P W 0 (fun _ => true) true t v dd ps) : ∃ A c xs, v = .slice A xs.length c ∧ xs.length ≤ c ∧ d.C W A xs.length xs ∧ G xs := by
  obtain ⟨a, len, cap, rfl⟩ := hv
  obtain ⟨fuel, hf⟩ := h
  obtain ⟨xs, ⟨A, c, he, hl, hC⟩, hG⟩ := ho.2 H enc W fuel _ _ hf
  have hcs : (Value.slice a len cap).cells.toList = [.slice a len cap] := rfl
  rw [hcs] at he
  injection he with he _
  exact ⟨A, c, xs, he, hl, hC, hG⟩
end Go.Proofs.Ytbnkiikpolcpkaa.Op
namespace Go.Proofs.Ytbnkiikpolcpkaa.Qh
open Go.RowKit Go.Proofs.YtbnkiikpolcpkaaW.PrintWords Go.Proofs.YtbnkiikpolcpkaaW.PrintMore
set_option linter.unusedVariables false
set_option linter.unusedSimpArgs false
theorem w64 {n : Int} (h1 : -9223372036854775808 ≤ n) (h2 : n ≤ 9223372036854775807) : wrap64 n = n := by unfold wrap64; omega
theorem wsucc {i n : Nat} (h : i < n) (hn : n ≤ 4611686018427387904) : wrap64 ((i : Int) + 1) = ((i + 1 : Nat) : Int) := by unfold wrap64; omega
section
variable {α β : Type} {r : α}
theorem evPos {c : Prop} [Decidable c] {g f : Nat → Option α} (h : c) (k : Ev g r) : Ev (fun n => if c then g n else f n) r := by
  simp only [if_pos h]; exact k
theorem evNeg {c : Prop} [Decidable c] {g f : Nat → Option α} (h : ¬ c) (k : Ev f r) : Ev (fun n => if c then g n else f n) r := by
  simp only [if_neg h]; exact k
theorem evT {g f : Nat → Option α} {b : Bool} (h : b = true) (k : Ev g r) : Ev (fun n => if b = true then g n else f n) r := evPos h k
theorem evF {g f : Nat → Option α} {b : Bool} (h : b = false) (k : Ev f r) : Ev (fun n => if b = true then g n else f n) r := evNeg (by rw [h]; decide) k
theorem evIte {c : Prop} [Decidable c] {g f : Nat → Option α} (hp : c → Ev g r) (hn : ¬ c → Ev f r) : Ev (fun n => if c then g n else f n) r := by
  by_cases h : c
  · exact evPos h (hp h)
  · exact evNeg h (hn h)
theorem evBind0 {g : Option β} {f : Nat → β → Option α} {a : β} (h : g = some a) (k : Ev (fun n => f n a) r) : Ev (fun n => g.bind (f n)) r := by
  subst h; exact k
theorem evNow {g : Option α} (h : g = some r) : Ev (fun _ => g) r := by subst h; exact Ev.now r
theorem evEq {g : Nat → Option α} {q : α} (h : Ev g q) (e : q = r) : Ev g r := e ▸ h
end
theorem rd_get (xs : List Int) (i : Nat) (h : i < xs.length) : rd xs (i : Int) = xs[i] := by
  simp [rd, List.getD_eq_getElem?_getD, List.getElem?_eq_getElem h]
theorem drop_rd (xs : List Int) (i : Nat) (h : i < xs.length) : xs.drop i = rd xs (i : Int) :: xs.drop (i + 1) := by
  rw [rd_get xs i h, List.drop_eq_getElem_cons h]
theorem drop_of {α : Type} (xs : List α) (d : α) (i : Nat) (h : i < xs.length) : xs.drop i = xs.getD i d :: xs.drop (i + 1) := by
  rw [List.drop_eq_getElem_cons h]; simp [List.getD_eq_getElem?_getD, List.getElem?_eq_getElem h]
theorem getD_set {α : Type} (xs : List α) (d v : α) (i j : Nat) (h : i < xs.length) : (xs.set i v).getD j d = if i = j then v else xs.getD j d := by
  simp only [List.getD_eq_getElem?_getD, List.getElem?_set]
  by_cases e : i = j
  · subst e; simp [h]
  · simp [e]
theorem rd_set (xs : List Int) (v : Int) (i j : Int) (h0 : 0 ≤ i) (h : i < xs.length) (hj : 0 ≤ j) : rd (xs.set i.toNat v) j = if i = j then v else rd xs j := by
  unfold rd
  rw [getD_set xs 0 v i.toNat j.toNat (by omega)]
  by_cases e : i = j
  · subst e; simp
  · rw [if_neg e, if_neg (by omega)]
theorem ext_rd (xs ys : List Int) (hl : xs.length = ys.length) (h : ∀ i : Nat, i < xs.length → rd xs (i : Int) = rd ys (i : Int)) : xs = ys := by
  apply List.ext_getElem hl
  intro i h1 h2
  have := h i h1
  rwa [rd_get xs i h1, rd_get ys i h2] at this
theorem ext_getD {α : Type} (d : α) (xs ys : List α) (hl : xs.length = ys.length) (h : ∀ i : Nat, i < xs.length → xs.getD i d = ys.getD i d) : xs = ys := by
  apply List.ext_getElem hl
  intro i h1 h2
  have := h i h1
  simpa [List.getD_eq_getElem?_getD, List.getElem?_eq_getElem h1, List.getElem?_eq_getElem h2] using this
theorem getD_map {α β : Type} (f : α → β) (d : α) (e : β) (xs : List α) (i : Nat) (h : i < xs.length) : (xs.map f).getD i e = f (xs.getD i d) := by
  simp [List.getD_eq_getElem?_getD, List.getElem?_eq_getElem h]
theorem getD_mem {α : Type} (d : α) (xs : List α) (i : Nat) (h : i < xs.length) : xs.getD i d ∈ xs := by
  simp [List.getD_eq_getElem?_getD, List.getElem?_eq_getElem h]
def EvB (g : Nat → Option Bool) (p : Prop) : Prop := ∃ b, (b = true ↔ p) ∧ Ev g b
section
variable {g f : Nat → Option Bool} {p q : Prop}
theorem EvB.congr (h : EvB g p) (e : p ↔ q) : EvB g q := by obtain ⟨b, h1, h2⟩ := h; exact ⟨b, h1.trans e, h2⟩
theorem EvB.tt (h : p) : EvB (fun _ => some true) p := ⟨true, by simp [h], Ev.now _⟩
theorem EvB.ff (h : ¬ p) : EvB (fun _ => some false) p := ⟨false, by simp [h], Ev.now _⟩
theorem EvB.pos {c : Prop} [Decidable c] (h : c) (k : EvB g p) : EvB (fun n => if c then g n else f n) p := by obtain ⟨b, h1, h2⟩ := k; exact ⟨b, h1, evPos h h2⟩
theorem EvB.neg {c : Prop} [Decidable c] (h : ¬ c) (k : EvB f p) : EvB (fun n => if c then g n else f n) p := by obtain ⟨b, h1, h2⟩ := k; exact ⟨b, h1, evNeg h h2⟩
theorem EvB.step {g f : Nat → Option Bool} (h : ∀ k, g (k + 1) = f k) (k : EvB f p) : EvB g p := by obtain ⟨b, h1, h2⟩ := k; exact ⟨b, h1, Ev.step h h2⟩
theorem EvB.bind {β : Type} {g : Nat → Option β} {f : Nat → β → Option Bool} {a : β} (h : Ev g a) (k : EvB (fun n => f n a) p) : EvB (fun n => (g n).bind (f n)) p := by obtain ⟨b, h1, h2⟩ := k; exact ⟨b, h1, Ev.bind h h2⟩
theorem EvB.bind0 {β : Type} {g : Option β} {f : Nat → β → Option Bool} {a : β} (h : g = some a) (k : EvB (fun n => f n a) p) : EvB (fun n => g.bind (f n)) p := by obtain ⟨b, h1, h2⟩ := k; exact ⟨b, h1, evBind0 h h2⟩
theorem EvB.yes (h : EvB g p) (hp : p) : Ev g true := by obtain ⟨b, h1, h2⟩ := h; rw [h1.2 hp] at h2; exact h2
theorem EvB.no (h : EvB g p) (hp : ¬ p) : Ev g false := by
  obtain ⟨b, h1, h2⟩ := h
  have : b = false := by cases b with
    | true => exact absurd (h1.1 rfl) hp
    | false => rfl
  rw [this] at h2; exact h2
end
end Go.Proofs.Ytbnkiikpolcpkaa.Qh
namespace Go.Proofs.Ytbnkiikpolcpkaa.Wo
open Go.RowKit Go.Proofs.Ytbnkiikpolcpkaa.PU Go.Proofs.Ytbnkiikpolcpkaa.Qh Go.Proofs.YtbnkiikpolcpkaaW.PrintWords Go.Proofs.YtbnkiikpolcpkaaW.PrintMore
set_option linter.unusedVariables false
set_option linter.unusedSimpArgs false
abbrev W := S47
def big : Nat := 4611686018427387904
def okM (x : Int) : Bool := decide (0 ≤ x ∧ x ≤ 20)
def okW (n : Nat) (w : W) : Bool := decide (0 ≤ w.f0 ∧ w.f0 < n ∧ 0 ≤ w.f1 ∧ w.f1 < n ∧ w.f0 ≠ w.f1 ∧ 1 ≤ w.f2 ∧ w.f2 ≤ 20)
def szOk (m : List Int) (l : List W) : Bool := decide (1 ≤ m.length ∧ m.length ≤ 4 ∧ l.length ≤ 7)
def wOk (m : List Int) (l : List W) : Bool := szOk m l && (m.all okM && l.all (okW m.length))
theorem l1In (a lo hi : Int) : spec_l1In.f a lo hi = some (decide (lo ≤ a ∧ a ≤ hi)) := by
  unfold spec_l1In.f
  by_cases h : a ≥ lo
  · rw [if_pos h]; have : lo ≤ a := h; simp [this]
  · rw [if_neg h]; have : ¬ lo ≤ a := h; simp [this]
theorem dropW (l : List W) (i : Nat) (h : i < l.length) : l.drop i = rd_T47 l (i : Int) :: l.drop (i + 1) := by
  have := drop_of l z47 i h
  simpa [rd_T47] using this
theorem all_dropW (l : List W) (p : W → Bool) (i : Nat) (h : i < l.length) : (l.drop i).all p = (p (rd_T47 l (i : Int)) && (l.drop (i + 1)).all p) := by
  rw [dropW l i h]; rfl
theorem all_dropI (l : List Int) (p : Int → Bool) (i : Nat) (h : i < l.length) : (l.drop i).all p = (p (rd l (i : Int)) && (l.drop (i + 1)).all p) := by
  rw [drop_rd l i h]; rfl
theorem s1 (m : List Int) (l : List W) (hm : m.length ≤ big) (hl : l.length ≤ big) : ∀ (d i : Nat), l.length - i = d → i ≤ l.length →
    Ev (fun k => spec_WaitsOk.l1 k m l (i : Int)) (szOk m l && (l.drop i).all (okW m.length)) := by
  unfold big at hm hl
  intro d
  induction d with
  | zero =>
    intro i hd hi
    obtain rfl : i = l.length := by omega
    refine Ev.step (fun k => by rw [spec_WaitsOk.l1]) ?_
    refine evNeg (by omega) ?_
    refine evBind0 (l1In _ _ _) ?_
    refine evIte (fun h => ?_) (fun h => ?_)
    · refine evNow ?_
      simp only [decide_eq_true_eq] at h
      have e : szOk m l = decide ((l.length : Int) ≤ 7) := by
        unfold szOk
        by_cases h7 : l.length ≤ 7
        · rw [decide_eq_true (by omega), decide_eq_true (by omega)]
        · rw [decide_eq_false (by omega), decide_eq_false (by omega)]
      simp [e]
    · refine evNow ?_
      simp only [decide_eq_true_eq] at h
      have e : szOk m l = false := by unfold szOk; rw [decide_eq_false (by omega)]
      simp [e]
  | succ d ih =>
    intro i hd hi
    have hlt : i < l.length := by omega
    have hr := ih (i + 1) (by omega) (by omega)
    rw [all_dropW l _ i hlt]
    have hw : wrap64 ((m.length : Int) - 1) = (m.length : Int) - 1 := w64 (by omega) (by omega)
    have hs : wrap64 ((i : Int) + 1) = ((i + 1 : Nat) : Int) := wsucc hlt (by omega)
    refine Ev.step (fun k => by rw [spec_WaitsOk.l1]) ?_
    generalize rd_T47 l (i : Int) = x at *
    refine evPos (by omega) (evPos (by omega) ?_)
    rw [hw, hs]
    repeat' first | refine evBind0 (l1In _ _ _) ?_ | refine evIte (fun h => ?_) (fun h => ?_)
    all_goals simp only [decide_eq_true_eq] at *
    all_goals first
      | exact evEq hr (by rw [show okW m.length x = true from decide_eq_true (by omega), Bool.true_and])
      | exact evNow (by rw [show okW m.length x = false from decide_eq_false (by omega), Bool.false_and, Bool.and_false])
theorem s0 (m : List Int) (l : List W) (hm : m.length ≤ big) (hl : l.length ≤ big) : ∀ (d i : Nat), m.length - i = d → i ≤ m.length →
    Ev (fun k => spec_WaitsOk.l0 k m l (i : Int)) (szOk m l && ((m.drop i).all okM && l.all (okW m.length))) := by
  intro d
  induction d with
  | zero =>
    intro i hd hi
    obtain rfl : i = m.length := by omega
    refine Ev.step (fun k => by rw [spec_WaitsOk.l0]) ?_
    refine evNeg (by omega) ?_
    exact evEq (s1 m l hm hl l.length 0 (by omega) (by omega)) (by simp)
  | succ d ih =>
    intro i hd hi
    have hlt : i < m.length := by omega
    have hr := ih (i + 1) (by omega) (by omega)
    rw [all_dropI m _ i hlt]
    have hs : wrap64 ((i : Int) + 1) = ((i + 1 : Nat) : Int) := wsucc hlt hm
    refine Ev.step (fun k => by rw [spec_WaitsOk.l0]) ?_
    generalize rd m (i : Int) = x at *
    refine evPos (by omega) (evPos (by omega) ?_)
    rw [hs]
    repeat' first | refine evBind0 (l1In _ _ _) ?_ | refine evIte (fun h => ?_) (fun h => ?_)
    all_goals simp only [decide_eq_true_eq] at *
    all_goals first
      | exact evEq hr (by rw [show okM x = true from decide_eq_true (by omega), Bool.true_and])
      | exact evNow (by rw [show okM x = false from decide_eq_false (by omega), Bool.false_and, Bool.false_and, Bool.and_false])
theorem spec (m : List Int) (l : List W) (hm : m.length ≤ big) (hl : l.length ≤ big) : Ev (fun k => spec_WaitsOk.f k m l) (wOk m l) :=
  s0 m l hm hl m.length 0 (by omega) (by omega)
theorem i1 (m : List Int) (l : List W) (hm : m.length ≤ big) (hl : l.length ≤ big) : ∀ (d i : Nat), l.length - i = d → i ≤ l.length →
    Ev (fun k => impl_areWaits.l1 k (m.length : Int) l (l.length : Int) (i : Int)) ((l.drop i).all (okW m.length)) := by
  intro d
  induction d with
  | zero =>
    intro i hd hi
    obtain rfl : i = l.length := by omega
    refine Ev.step (fun k => by rw [impl_areWaits.l1]) ?_
    refine evNeg (by omega) ?_
    exact evNow (by simp)
  | succ d ih =>
    intro i hd hi
    have hlt : i < l.length := by omega
    have hr := ih (i + 1) (by omega) (by omega)
    rw [all_dropW l _ i hlt]
    refine Ev.step (fun k => by rw [impl_areWaits.l1]) ?_
    generalize rd_T47 l (i : Int) = x at *
    have hs : wrap64 ((i : Int) + 1) = ((i + 1 : Nat) : Int) := wsucc hlt hl
    refine evPos (by omega) (evPos (by omega) (evPos (by omega) ?_))
    rw [hs]
    repeat' first | refine evIte (fun h => ?_) (fun h => ?_)
    all_goals first
      | exact evEq hr (by rw [show okW m.length x = true from decide_eq_true (by omega), Bool.true_and])
      | exact evNow (by rw [show okW m.length x = false from decide_eq_false (by omega), Bool.false_and])
theorem i0 (m : List Int) (l : List W) (hm : m.length ≤ big) (hl : l.length ≤ big) : ∀ (d i : Nat), m.length - i = d → i ≤ m.length →
    Ev (fun k => impl_areWaits.l0 k l (m.length : Int) m (m.length : Int) (i : Int)) ((m.drop i).all okM && l.all (okW m.length)) := by
  intro d
  induction d with
  | zero =>
    intro i hd hi
    obtain rfl : i = m.length := by omega
    refine Ev.step (fun k => by rw [impl_areWaits.l0]) ?_
    refine evNeg (by omega) ?_
    exact evEq (i1 m l hm hl l.length 0 (by omega) (by omega)) (by simp)
  | succ d ih =>
    intro i hd hi
    have hlt : i < m.length := by omega
    have hr := ih (i + 1) (by omega) (by omega)
    rw [all_dropI m _ i hlt]
    refine Ev.step (fun k => by rw [impl_areWaits.l0]) ?_
    generalize rd m (i : Int) = x at *
    have hs : wrap64 ((i : Int) + 1) = ((i + 1 : Nat) : Int) := wsucc hlt hm
    refine evPos (by omega) (evPos (by omega) (evPos (by omega) ?_))
    rw [hs]
    repeat' first | refine evIte (fun h => ?_) (fun h => ?_)
    all_goals first
      | exact evEq hr (by rw [show okM x = true from decide_eq_true (by omega), Bool.true_and])
      | exact evNow (by rw [show okM x = false from decide_eq_false (by omega), Bool.false_and, Bool.false_and])
theorem ij (m : List Int) (l : List W) (hm : m.length ≤ big) (hl : l.length ≤ big) (b : Bool) (hb : b = !szOk m l) :
    Ev (fun k => impl_areWaits.j0 k m l (m.length : Int) b) (wOk m l) := by
  refine Ev.step (fun k => by rw [impl_areWaits.j0]) ?_
  subst hb
  unfold wOk
  refine evIte (fun h => evNow ?_) (fun h => ?_)
  · have e : szOk m l = false := by simpa using h
    simp [e]
  · have e : szOk m l = true := by simpa using h
    exact evEq (i0 m l hm hl m.length 0 (by omega) (by omega)) (by simp [e])
theorem areWaits (m : List Int) (l : List W) (hm : m.length ≤ big) (hl : l.length ≤ big) : Ev (fun k => impl_areWaits.f k m l) (wOk m l) := by
  unfold impl_areWaits.f
  refine evIte (fun h => ij m l hm hl _ ?_) (fun h => evIte (fun h' => ij m l hm hl _ ?_) (fun h' => ij m l hm hl _ ?_))
  · rw [show szOk m l = false from decide_eq_false (by omega)]; rfl
  · rw [show szOk m l = false from decide_eq_false (by omega)]; rfl
  · by_cases h7 : l.length ≤ 7
    · rw [show szOk m l = true from decide_eq_true (by omega), decide_eq_false (by omega)]; rfl
    · rw [show szOk m l = false from decide_eq_false (by omega), decide_eq_true (by omega)]; rfl
theorem impl (m : List Int) (l : List W) (hm : m.length ≤ big) (hl : l.length ≤ big) : Ev (fun k => impl_WaitsOk.f k m l) (wOk m l) := by
  unfold impl_WaitsOk.f
  exact Ev.bind (areWaits m l hm hl) (Ev.now _)
end Go.Proofs.Ytbnkiikpolcpkaa.Wo
namespace Go.Proofs.Ytbnkiikpolcpkaa.Af
open Go.RowKit Go.Proofs.Ytbnkiikpolcpkaa.PU Go.Proofs.Ytbnkiikpolcpkaa.Qh Go.Proofs.Ytbnkiikpolcpkaa.Wo Go.Proofs.YtbnkiikpolcpkaaW.PrintWords Go.Proofs.YtbnkiikpolcpkaaW.PrintMore
set_option linter.unusedVariables false
set_option linter.unusedSimpArgs false
def Vw (n : Nat) (w : W) : Prop := 0 ≤ w.f0 ∧ w.f0 < n ∧ 0 ≤ w.f1 ∧ w.f1 < n ∧ w.f0 ≠ w.f1 ∧ 1 ≤ w.f2 ∧ w.f2 ≤ 20
def Lot (t : List Int) : Prop := ∀ x ∈ t, x = 0 ∨ x = 1
def pay (o : List Int) (w : W) (x : Int) : List Int := o.set w.f0.toNat (rd o w.f0 - w.f2 * x)
def stepA (o : List Int) (w : W) (x : Int) : List Int := (pay o w x).set w.f1.toNat (rd (pay o w x) w.f1 + w.f2 * x)
def aft (o : List Int) : List W → List Int → List Int
  | w :: l, x :: t => aft (stepA o w x) l t
  | _, _ => o
def eff (w : W) (x : Int) (j : Int) : Int := (if w.f1 = j then w.f2 * x else 0) - (if w.f0 = j then w.f2 * x else 0)
def effs : List W → List Int → Int → Int
  | w :: l, x :: t, j => eff w x j + effs l t j
  | _, _, _ => 0
theorem pay_len (o : List Int) (w : W) (x : Int) : (pay o w x).length = o.length := by simp [pay]
theorem step_len (o : List Int) (w : W) (x : Int) : (stepA o w x).length = o.length := by simp [stepA, pay]
theorem pay_rd (o : List Int) (w : W) (x : Int) (n : Nat) (hw : Vw n w) (ho : o.length = n) (j : Int) (hj : 0 ≤ j) : rd (pay o w x) j = if w.f0 = j then rd o j - w.f2 * x else rd o j := by
  unfold Vw at hw
  unfold pay
  rw [rd_set _ _ _ _ (by omega) (by omega) hj]
  by_cases e : w.f0 = j
  · rw [if_pos e, if_pos e, e]
  · rw [if_neg e, if_neg e]
theorem step_rd (o : List Int) (w : W) (x : Int) (n : Nat) (hw : Vw n w) (ho : o.length = n) (j : Int) (hj : 0 ≤ j) : rd (stepA o w x) j = rd o j + eff w x j := by
  have hw' := hw
  unfold Vw at hw'
  have hp := pay_len o w x
  unfold stepA
  rw [rd_set _ _ _ _ (by omega) (by omega) hj]
  unfold eff
  by_cases e : w.f1 = j
  · rw [if_pos e, if_pos e, pay_rd o w x n hw ho _ (by omega), if_neg (by omega), if_neg (by omega), e]; omega
  · rw [if_neg e, if_neg e, pay_rd o w x n hw ho _ hj]
    by_cases e2 : w.f0 = j
    · rw [if_pos e2, if_pos e2]; omega
    · rw [if_neg e2, if_neg e2]; omega
theorem step_zero (o : List Int) (w : W) (n : Nat) (hw : Vw n w) (ho : o.length = n) : stepA o w 0 = o := by
  refine ext_rd _ _ (step_len o w 0) (fun i _ => ?_)
  rw [step_rd o w 0 n hw ho _ (by omega)]
  simp [eff]
def Bd (o : List Int) (c : Int) : Prop := ∀ j : Int, 0 ≤ j → -c ≤ rd o j ∧ rd o j ≤ c
theorem eff_bd (w : W) (n : Nat) (hw : Vw n w) (x : Int) (hx : x = 0 ∨ x = 1) (j : Int) : -20 ≤ eff w x j ∧ eff w x j ≤ 20 := by
  unfold Vw at hw
  unfold eff
  rcases hx with rfl | rfl
  · simp
  · by_cases e : w.f1 = j
    · rw [if_pos e, if_neg (by omega)]; omega
    · rw [if_neg e]
      by_cases e2 : w.f0 = j
      · rw [if_pos e2]; omega
      · rw [if_neg e2]; omega
theorem step_bd (o : List Int) (w : W) (x : Int) (n : Nat) (hw : Vw n w) (ho : o.length = n) (hx : x = 0 ∨ x = 1) (c : Int) (h : Bd o c) : Bd (stepA o w x) (c + 20) := by
  intro j hj
  rw [step_rd o w x n hw ho j hj]
  have := h j hj
  have := eff_bd w n hw x hx j
  omega
theorem aft_len : ∀ (l : List W) (t o : List Int), (aft o l t).length = o.length
  | [], t, o => by unfold aft; rfl
  | _ :: _, [], o => rfl
  | w :: l, x :: t, o => by show (aft (stepA o w x) l t).length = _; rw [aft_len l t, step_len]
theorem aft_rd (n : Nat) : ∀ (l : List W) (t o : List Int), (∀ w ∈ l, Vw n w) → o.length = n → ∀ j : Int, 0 ≤ j → rd (aft o l t) j = rd o j + effs l t j
  | [], t, o, _, _, j, _ => by simp [aft, effs]
  | _ :: _, [], o, _, _, j, _ => by simp [aft, effs]
  | w :: l, x :: t, o, hv, ho, j, hj => by
    show rd (aft (stepA o w x) l t) j = _ + (eff w x j + effs l t j)
    rw [aft_rd n l t (stepA o w x) (fun v hv' => hv v (List.mem_cons_of_mem _ hv')) (by rw [step_len, ho]) j hj, step_rd o w x n (hv w List.mem_cons_self) ho j hj]
    omega
theorem mem_rdW (l : List W) (i : Nat) (h : i < l.length) : rd_T47 l (i : Int) ∈ l := getD_mem _ _ _ h
theorem mem_rd (l : List Int) (i : Nat) (h : i < l.length) : rd l (i : Int) ∈ l := getD_mem _ _ _ h
theorem impl_l (n : Nat) (l : List W) (t : List Int) (hv : ∀ w ∈ l, Vw n w) (ht : Lot t) (hlt : t.length = l.length) (h7 : l.length ≤ 8) : ∀ (d i : Nat) (o : List Int), l.length - i = d → i ≤ l.length → o.length = n → Bd o (20 + 20 * (i : Int)) →
    Ev (fun k => impl_afterLot.l0 k t o l (l.length : Int) (i : Int)) (aft o (l.drop i) (t.drop i)) := by
  intro d
  induction d with
  | zero =>
    intro i o hd hi ho hb
    obtain rfl : i = l.length := by omega
    refine Ev.step (fun k => by rw [impl_afterLot.l0]) ?_
    refine evNeg (by omega) (evNow ?_)
    rw [List.drop_length]; unfold aft; rfl
  | succ d ih =>
    intro i o hd hi ho hb
    have hilt : i < l.length := by omega
    have hw := hv _ (mem_rdW l i hilt)
    have hx := ht _ (mem_rd t i (by omega))
    rw [dropW l i hilt, drop_rd t i (by omega)]
    refine Ev.step (fun k => by rw [impl_afterLot.l0]) ?_
    have hs : wrap64 ((i : Int) + 1) = ((i + 1 : Nat) : Int) := wsucc hilt (by omega)
    rw [hs]
    generalize rd_T47 l (i : Int) = w at *
    generalize rd t (i : Int) = x at *
    have hw' := hw
    unfold Vw at hw'
    have b0 := hb w.f0 (by omega)
    have e1 : wrap64 (w.f2 * x) = w.f2 * x := by rcases hx with rfl | rfl <;> exact w64 (by omega) (by omega)
    have e2 : wrap64 (rd o w.f0 - w.f2 * x) = rd o w.f0 - w.f2 * x := by rcases hx with rfl | rfl <;> exact w64 (by omega) (by omega)
    have b1 : -200 ≤ rd (pay o w x) w.f1 ∧ rd (pay o w x) w.f1 ≤ 200 := by
      rw [pay_rd o w x n hw ho _ (by omega), if_neg (by omega)]
      have := hb w.f1 (by omega)
      omega
    have e3 : wrap64 (rd (pay o w x) w.f1 + w.f2 * x) = rd (pay o w x) w.f1 + w.f2 * x := by rcases hx with rfl | rfl <;> exact w64 (by omega) (by omega)
    rw [e1, e2]
    refine evPos (by omega) (evPos (by omega) (evPos (by omega) (evPos (by omega) (evPos (by omega) (evPos (by omega) (evBind0 rfl (evPos (by omega) (evPos (by omega) ?_))))))))
    rw [show o.set w.f0.toNat (rd o w.f0 - w.f2 * x) = pay o w x from rfl, e3]
    exact ih (i + 1) (stepA o w x) (by omega) (by omega) (by rw [step_len, ho]) (fun j hj => by
      have := step_bd o w x n hw ho hx _ hb j hj
      omega)
theorem impl (m : List Int) (l : List W) (t : List Int) (hm : m.length ≤ 4) (hv : ∀ w ∈ l, Vw m.length w) (ht : Lot t) (hlt : t.length = l.length) (h7 : l.length ≤ 8) (hb : Bd m 20) :
    Ev (fun k => impl_afterLot.f k m l t) (aft m l t) := by
  unfold impl_afterLot.f
  refine evBind0 rfl (evPos (by simp; omega) ?_)
  exact impl_l m.length l t hv ht hlt h7 l.length 0 _ (by omega) (by omega) (by simp) (by simpa using hb)
theorem spec_l (n : Nat) (l : List W) (t : List Int) (hv : ∀ w ∈ l, Vw n w) (ht : Lot t) (hlt : t.length = l.length) (h7 : l.length ≤ 8) : ∀ (d i : Nat) (o : List Int), l.length - i = d → i ≤ l.length → o.length = n → Bd o (20 + 20 * (i : Int)) →
    Ev (fun k => spec_l8After.l0 k l t o (i : Int)) (aft o (l.drop i) (t.drop i)) := by
  intro d
  induction d with
  | zero =>
    intro i o hd hi ho hb
    obtain rfl : i = l.length := by omega
    refine Ev.step (fun k => by rw [spec_l8After.l0]) ?_
    refine evNeg (by omega) (evNow ?_)
    rw [List.drop_length]; unfold aft; rfl
  | succ d ih =>
    intro i o hd hi ho hb
    have hilt : i < l.length := by omega
    have hw := hv _ (mem_rdW l i hilt)
    have hx := ht _ (mem_rd t i (by omega))
    rw [dropW l i hilt, drop_rd t i (by omega)]
    refine Ev.step (fun k => by rw [spec_l8After.l0]) ?_
    have hs : wrap64 ((i : Int) + 1) = ((i + 1 : Nat) : Int) := wsucc hilt (by omega)
    rw [hs]
    generalize rd_T47 l (i : Int) = w at *
    generalize rd t (i : Int) = x at *
    have hw' := hw
    unfold Vw at hw'
    have b0 := hb w.f0 (by omega)
    refine evPos (by omega) (evPos (by omega) (evPos (by omega) ?_))
    rcases hx with rfl | rfl
    · refine evNeg (by decide) ?_
      show Ev _ (aft (stepA o w 0) _ _)
      rw [step_zero o w n hw ho]
      exact ih (i + 1) o (by omega) (by omega) ho (fun j hj => by have := hb j hj; omega)
    · have e2 : wrap64 (rd o w.f0 - w.f2) = rd o w.f0 - w.f2 * 1 := by rw [w64 (by omega) (by omega)]; omega
      have b1 : -200 ≤ rd (pay o w 1) w.f1 ∧ rd (pay o w 1) w.f1 ≤ 200 := by
        rw [pay_rd o w 1 n hw ho _ (by omega), if_neg (by omega)]
        have := hb w.f1 (by omega)
        omega
      have e3 : wrap64 (rd (pay o w 1) w.f1 + w.f2) = rd (pay o w 1) w.f1 + w.f2 * 1 := by rw [w64 (by omega) (by omega)]; omega
      rw [e2]
      refine evPos rfl (evPos (by omega) (evPos (by omega) (evBind0 rfl (evPos (by omega) (evPos (by omega) ?_)))))
      rw [show o.set w.f0.toNat (rd o w.f0 - w.f2 * 1) = pay o w 1 from rfl, e3]
      exact ih (i + 1) (stepA o w 1) (by omega) (by omega) (by rw [step_len, ho]) (fun j hj => by
        have := step_bd o w 1 n hw ho (.inr rfl) _ hb j hj
        omega)
theorem spec (m : List Int) (l : List W) (t : List Int) (hm : m.length ≤ 4) (hv : ∀ w ∈ l, Vw m.length w) (ht : Lot t) (hlt : t.length = l.length) (h7 : l.length ≤ 8) (hb : Bd m 20) :
    Ev (fun k => spec_l8After.f k m l t) (aft m l t) := by
  unfold spec_l8After.f
  refine evBind0 rfl (evPos (by simp; omega) ?_)
  exact spec_l m.length l t hv ht hlt h7 l.length 0 _ (by omega) (by omega) (by simp) (by simpa using hb)
theorem of_wOk {m : List Int} {l : List W} (h : wOk m l = true) : 1 ≤ m.length ∧ m.length ≤ 4 ∧ l.length ≤ 7 ∧ (∀ w ∈ l, Vw m.length w) ∧ Bd m 20 ∧ (∀ j : Int, 0 ≤ j → 0 ≤ rd m j) := by
  simp only [wOk, szOk, Bool.and_eq_true, decide_eq_true_eq, List.all_eq_true] at h
  obtain ⟨⟨h1, h2, h3⟩, h4, h5⟩ := h
  have hr : ∀ j : Int, 0 ≤ j → 0 ≤ rd m j ∧ rd m j ≤ 20 := by
    intro j hj
    obtain ⟨i, rfl⟩ := Int.eq_ofNat_of_zero_le hj
    by_cases hi : i < m.length
    · have := h4 _ (mem_rd m i hi)
      simpa [okM] using this
    · have : rd m (i : Int) = 0 := by simp [rd, List.getD_eq_getElem?_getD, List.getElem?_eq_none (by omega : m.length ≤ i)]
      omega
  refine ⟨h1, h2, h3, fun w hw => ?_, fun j hj => by have := hr j hj; omega, fun j hj => (hr j hj).1⟩
  have := h5 w hw
  simpa [okW, Vw] using this
end Go.Proofs.Ytbnkiikpolcpkaa.Af
namespace Go.Proofs.Ytbnkiikpolcpkaa.Lt
open Go.RowKit Go.Proofs.Ytbnkiikpolcpkaa.PU Go.Proofs.Ytbnkiikpolcpkaa.Qh Go.Proofs.Ytbnkiikpolcpkaa.Wo Go.Proofs.Ytbnkiikpolcpkaa.Af Go.Proofs.YtbnkiikpolcpkaaW.PrintWords Go.Proofs.YtbnkiikpolcpkaaW.PrintMore
set_option linter.unusedVariables false
set_option linter.unusedSimpArgs false
abbrev fr (l : List W) (i : Nat) : Int := (rd_T47 l (i : Int)).f0
instance (t : List Int) : Decidable (Lot t) := inferInstanceAs (Decidable (∀ x ∈ t, x = 0 ∨ x = 1))
def PC (l : List W) (t : List Int) : Prop := ∀ i j : Nat, j < i → i < l.length → rd t (i : Int) = 1 → fr l j = fr l i → rd t (j : Int) = 1
def LOk (m : List Int) (l : List W) (t : List Int) : Prop := wOk m l = true ∧ (t.length = l.length ∧ Lot t) ∧ (∀ j : Nat, j < m.length → 0 ≤ rd (aft m l t) (j : Int)) ∧ PC l t
theorem lot01 {t : List Int} (ht : Lot t) (i : Nat) (h : i < t.length) : rd t (i : Int) = 0 ∨ rd t (i : Int) = 1 := ht _ (mem_rd t i h)
theorem idx_neg (p : Int → Bool) : ∀ (l : List Int) (i : Nat), (0 ≤ IndexFunc_isLot1.idx p l i ↔ ∃ x ∈ l, p x = true)
  | [], i => by simp [IndexFunc_isLot1.idx]
  | x :: l, i => by
    unfold IndexFunc_isLot1.idx
    by_cases h : p x = true
    · rw [if_pos h]; simp [h]
    · rw [if_neg h, idx_neg p l (i + 1)]; simp [h]
theorem isLot (l : List W) (t : List Int) : impl_isLot.f l t = some (decide (t.length = l.length ∧ Lot t)) := by
  unfold impl_isLot.f
  by_cases h : (t.length : Int) = (l.length : Int)
  · rw [if_pos h]
    unfold ContainsFunc_isLot1.f IndexFunc_isLot1.f
    simp only [Option.bind_some]
    congr 1
    have hi := idx_neg (fun x => (x != 0 && x != 1)) t 0
    by_cases hl : Lot t
    · have : ¬ (0 ≤ IndexFunc_isLot1.idx (fun x => (x != 0 && x != 1)) t 0) := by
        rw [hi]
        rintro ⟨x, hx, hp⟩
        rcases hl x hx with rfl | rfl <;> simp at hp
      rw [decide_eq_false this, decide_eq_true ⟨by omega, hl⟩]; rfl
    · have : 0 ≤ IndexFunc_isLot1.idx (fun x => (x != 0 && x != 1)) t 0 := by
        rw [hi]
        apply Classical.byContradiction
        intro hn
        apply hl
        intro x hx
        apply Classical.byContradiction
        intro hn2
        apply hn
        refine ⟨x, hx, ?_⟩
        have a : x ≠ 0 := fun e => hn2 (.inl e)
        have b : x ≠ 1 := fun e => hn2 (.inr e)
        simp [a, b]
      rw [decide_eq_true this, decide_eq_false (fun h => hl h.2)]; rfl
  · rw [if_neg h, decide_eq_false (by omega)]
theorem sl_l (l : List W) (t : List Int) (hb : t.length ≤ big) : ∀ (d i : Nat), t.length - i = d → i ≤ t.length → Ev (fun k => spec_l8Lot.l0 k l t (i : Int)) (decide (t.length = l.length ∧ Lot (t.drop i))) := by
  unfold big at hb
  intro d
  induction d with
  | zero =>
    intro i hd hi
    obtain rfl : i = t.length := by omega
    refine Ev.step (fun k => by rw [spec_l8Lot.l0]) ?_
    refine evNeg (by omega) (evNow ?_)
    congr 1
    rw [List.drop_length]
    by_cases e : t.length = l.length
    · rw [decide_eq_true ⟨e, fun x hx => by cases hx⟩, e]; simp
    · rw [decide_eq_false (fun h => e h.1)]; simp; omega
  | succ d ih =>
    intro i hd hi
    have hlt : i < t.length := by omega
    have hr := ih (i + 1) (by omega) (by omega)
    have hs : wrap64 ((i : Int) + 1) = ((i + 1 : Nat) : Int) := wsucc hlt (by omega)
    rw [drop_rd t i hlt]
    refine Ev.step (fun k => by rw [spec_l8Lot.l0]) ?_
    generalize rd t (i : Int) = x at *
    rw [hs]
    refine evPos (by omega) (evPos (by omega) (evBind0 (l1In _ _ _) ?_))
    by_cases hx : 0 ≤ x ∧ x ≤ 1
    · refine evT (decide_eq_true hx) (evEq hr ?_)
      by_cases e : t.length = l.length ∧ Lot (t.drop (i + 1))
      · rw [decide_eq_true e, decide_eq_true ⟨e.1, fun y hy => by
          rcases List.mem_cons.1 hy with rfl | hy
          · omega
          · exact e.2 y hy⟩]
      · rw [decide_eq_false e, decide_eq_false (fun h => e ⟨h.1, fun y hy => h.2 y (List.mem_cons_of_mem _ hy)⟩)]
    · refine evF (decide_eq_false hx) (evNow ?_)
      rw [decide_eq_false (fun h => by have := h.2 x List.mem_cons_self; omega)]
theorem l8Lot (l : List W) (t : List Int) (hb : t.length ≤ big) : Ev (fun k => spec_l8Lot.f k l t) (decide (t.length = l.length ∧ Lot t)) := sl_l l t hb t.length 0 (by omega) (by omega)
def Bad (l : List W) (t : List Int) (i j : Nat) : Prop := rd t (i : Int) = 1 ∧ rd t (j : Int) = 0 ∧ fr l j = fr l i
def Fine (l : List W) (t : List Int) (i : Nat) : Prop := ∀ i', i ≤ i' → i' < l.length → ∀ j, j < i' → ¬ Bad l t i' j
theorem s12 (l : List W) (t : List Int) (h7 : l.length ≤ 8) (hlt : t.length = l.length) : ∀ (d i : Nat), l.length - i = d → i ≤ l.length → EvB (fun k => spec_LotOk.l1 k l t (i : Int)) (Fine l t i) := by
  intro d
  induction d with
  | zero =>
    intro i hd hi
    refine EvB.step (fun k => by rw [spec_LotOk.l1]) ?_
    exact EvB.neg (by omega) (EvB.tt (fun i' h1 h2 => by omega))
  | succ d ih =>
    intro i hd hi
    have hilt : i < l.length := by omega
    have hr := ih (i + 1) (by omega) (by omega)
    have hs : wrap64 ((i : Int) + 1) = ((i + 1 : Nat) : Int) := wsucc hilt (by omega)
    have inner : ∀ (e j : Nat), i - j = e → j ≤ i → EvB (fun k => spec_LotOk.l2 k l t (i : Int) (j : Int)) ((∀ j', j ≤ j' → j' < i → ¬ Bad l t i j') ∧ Fine l t (i + 1)) := by
      intro e
      induction e with
      | zero =>
        intro j he hj
        refine EvB.step (fun k => by rw [spec_LotOk.l2]) ?_
        rw [hs]
        exact EvB.neg (by omega) (hr.congr ⟨fun h => ⟨fun j' h1 h2 => by omega, h⟩, fun h => h.2⟩)
      | succ e ihe =>
        intro j he hj
        have hjs : wrap64 ((j : Int) + 1) = ((j + 1 : Nat) : Int) := wsucc (show j < l.length by omega) (by omega)
        have hn := ihe (j + 1) (by omega) (by omega)
        have hgo : ¬ Bad l t i j → EvB (fun k => spec_LotOk.l2 k l t (i : Int) ((j + 1 : Nat) : Int)) ((∀ j', j ≤ j' → j' < i → ¬ Bad l t i j') ∧ Fine l t (i + 1)) := fun hb =>
          hn.congr ⟨fun h => ⟨fun j' h1 h2 => by
            by_cases ej : j' = j
            · subst ej; exact hb
            · exact h.1 j' (by omega) h2, h.2⟩, fun h => ⟨fun j' h1 h2 => h.1 j' (by omega) h2, h.2⟩⟩
        refine EvB.step (fun k => by rw [spec_LotOk.l2]) ?_
        rw [hjs]
        refine EvB.pos (by omega) (EvB.pos (by omega) (EvB.pos (by omega) ?_))
        by_cases h1 : rd t (i : Int) = 1
        · refine EvB.pos h1 (EvB.pos (by omega) (EvB.pos (by omega) ?_))
          by_cases h0 : rd t (j : Int) = 0
          · refine EvB.pos h0 (EvB.pos (by omega) (EvB.pos (by omega) ?_))
            by_cases hf : (rd_T47 l (j : Int)).f0 = (rd_T47 l (i : Int)).f0
            · exact EvB.pos hf (EvB.ff (fun h => h.1 j (Nat.le_refl _) (by omega) ⟨h1, h0, hf⟩))
            · exact EvB.neg hf (hgo (fun h => hf h.2.2))
          · exact EvB.neg h0 (hgo (fun h => h0 h.2.1))
        · exact EvB.neg h1 (hgo (fun h => h1 h.1))
    refine EvB.step (fun k => by rw [spec_LotOk.l1]) ?_
    refine EvB.pos (by omega) ((inner i 0 (by omega) (by omega)).congr ⟨fun h i' h1 h2 j hj => ?_, fun h => ⟨fun j' _ h2 => h i (Nat.le_refl _) hilt j' h2, fun i' h1 h2 => h i' (by omega) h2⟩⟩)
    by_cases ei : i' = i
    · subst ei; exact h.1 j (by omega) hj
    · exact h.2 i' (by omega) h2 j hj
theorem fine_pc {l : List W} {t : List Int} (ht : Lot t) (hlt : t.length = l.length) : Fine l t 0 ↔ PC l t := by
  constructor
  · intro h i j hj hi h1 hf
    rcases lot01 ht j (by omega) with h0 | h0
    · exact absurd ⟨h1, h0, hf⟩ (h i (Nat.zero_le _) hi j hj)
    · exact h0
  · intro h i _ hi j hj hb
    have := h i j hj hi hb.1 hb.2.2
    have := hb.2.1
    omega
theorem s0 (l : List W) (t o : List Int) (h7 : l.length ≤ 8) (hlt : t.length = l.length) (ho : o.length ≤ 8) : ∀ (d j : Nat), o.length - j = d → j ≤ o.length →
    EvB (fun k => spec_LotOk.l0 k l t o (j : Int)) ((∀ j' : Nat, j ≤ j' → j' < o.length → 0 ≤ rd o (j' : Int)) ∧ Fine l t 0) := by
  intro d
  induction d with
  | zero =>
    intro j hd hj
    refine EvB.step (fun k => by rw [spec_LotOk.l0]) ?_
    exact EvB.neg (by omega) ((s12 l t h7 hlt l.length 0 (by omega) (by omega)).congr ⟨fun h => ⟨fun j' h1 h2 => by omega, h⟩, fun h => h.2⟩)
  | succ d ih =>
    intro j hd hj
    have hjs : wrap64 ((j : Int) + 1) = ((j + 1 : Nat) : Int) := wsucc (show j < o.length by omega) (by omega)
    refine EvB.step (fun k => by rw [spec_LotOk.l0]) ?_
    rw [hjs]
    refine EvB.pos (by omega) (EvB.pos (by omega) ?_)
    by_cases h : rd o (j : Int) < 0
    · exact EvB.pos h (EvB.ff (fun hh => by have := hh.1 j (Nat.le_refl _) (by omega); omega))
    · refine EvB.neg h ((ih (j + 1) (by omega) (by omega)).congr ⟨fun hh => ⟨fun j' h1 h2 => ?_, hh.2⟩, fun hh => ⟨fun j' h1 h2 => hh.1 j' (by omega) h2, hh.2⟩⟩)
      by_cases e : j' = j
      · subst e; omega
      · exact hh.1 j' (by omega) h2
theorem spec (m : List Int) (l : List W) (t : List Int) (hm : m.length ≤ big) (hl : l.length ≤ big) (ht : t.length ≤ big) : EvB (fun k => spec_LotOk.f k m l t) (LOk m l t) := by
  unfold spec_LotOk.f
  refine EvB.bind (Wo.spec m l hm hl) ?_
  cases hw : wOk m l with
  | false =>
    refine EvB.neg (by decide) (EvB.step (fun k => by rw [spec_LotOk.j0]) (EvB.pos rfl (EvB.ff (fun h => ?_))))
    have := h.1; rw [hw] at this; cases this
  | true =>
    obtain ⟨h1, h4, h7, hv, hbd, _⟩ := of_wOk hw
    refine EvB.pos rfl (EvB.bind (l8Lot l t ht) (EvB.step (fun k => by rw [spec_LotOk.j0]) ?_))
    by_cases hL : t.length = l.length ∧ Lot t
    · refine EvB.neg (by rw [decide_eq_true hL]; decide) (EvB.bind (Af.spec m l t h4 hv hL.2 hL.1 (by omega) hbd) ?_)
      refine (s0 l t (aft m l t) (by omega) hL.1 (by rw [aft_len]; omega) _ 0 rfl (by omega)).congr ?_
      rw [fine_pc hL.2 hL.1, aft_len]
      exact ⟨fun h => ⟨hw, hL, fun j hj => h.1 j (Nat.zero_le _) hj, h.2⟩, fun h => ⟨fun j _ hj => h.2.2.1 j hj, h.2.2.2⟩⟩
    · exact EvB.pos (by rw [decide_eq_false hL]; rfl) (EvB.ff (fun h => hL h.2.1))
theorem rdW_take (l : List W) (i j : Nat) (h : j < i) : rd_T47 (l.take i) (j : Int) = rd_T47 l (j : Int) := by
  simp [rd_T47, List.getD_eq_getElem?_getD, List.getElem?_take, h]
def First (l : List W) (t : List Int) (i j : Nat) : Prop := ∀ j', j ≤ j' → j' < i → fr l j' = fr l i → rd t (j' : Int) ≠ 0
theorem first_l (l : List W) (t : List Int) (i : Nat) (h7 : l.length ≤ 8) (hlt : t.length = l.length) (hi : i < l.length) : ∀ (d j : Nat), i - j = d → j ≤ i →
    EvB (fun k => impl_isFirst.l0 k l t (i : Int) (l.take i) ((l.take i).length : Int) (j : Int)) (First l t i j) := by
  have hlen : (l.take i).length = i := by rw [List.length_take]; omega
  rw [hlen]
  intro d
  induction d with
  | zero =>
    intro j hd hj
    refine EvB.step (fun k => by rw [impl_isFirst.l0]) ?_
    exact EvB.neg (by omega) (EvB.tt (fun j' h1 h2 => by omega))
  | succ d ih =>
    intro j hd hj
    have hjs : wrap64 ((j : Int) + 1) = ((j + 1 : Nat) : Int) := wsucc (show j < l.length by omega) (by omega)
    have hn := ih (j + 1) (by omega) (by omega)
    have hgo : (fr l j = fr l i → rd t (j : Int) ≠ 0) → EvB (fun k => impl_isFirst.l0 k l t (i : Int) (l.take i) (i : Int) ((j + 1 : Nat) : Int)) (First l t i j) := fun hb =>
      hn.congr ⟨fun h j' h1 h2 => by
        by_cases e : j' = j
        · subst e; exact hb
        · exact h j' (by omega) h2, fun h j' h1 h2 => h j' (by omega) h2⟩
    refine EvB.step (fun k => by rw [impl_isFirst.l0]) ?_
    rw [hjs, rdW_take l i j (by omega)]
    refine EvB.pos (by omega) (EvB.pos (by omega) (EvB.pos (by omega) (EvB.pos (by omega) (EvB.pos (by omega) ?_))))
    by_cases hf : (rd_T47 l (j : Int)).f0 = (rd_T47 l (i : Int)).f0
    · refine EvB.pos hf (EvB.pos (by omega) ?_)
      by_cases h0 : rd t (j : Int) = 0
      · exact EvB.pos h0 (EvB.ff (fun h => h j (Nat.le_refl _) (by omega) hf h0))
      · exact EvB.neg h0 (hgo (fun _ => h0))
    · exact EvB.neg hf (hgo (fun h => absurd h hf))
theorem first (l : List W) (t : List Int) (i : Nat) (h7 : l.length ≤ 8) (hlt : t.length = l.length) (hi : i < l.length) : EvB (fun k => impl_isFirst.f k l t (i : Int)) (First l t i 0) := by
  unfold impl_isFirst.f
  exact EvB.pos (by omega) (EvB.pos (by omega) (EvB.bind0 rfl (first_l l t i h7 hlt hi i 0 (by omega) (by omega))))
theorem min_l (o : List Int) (ho : o.length ≤ 8) : ∀ (d j : Nat) (v : Int), o.length - j = d → j ≤ o.length → (v < 0 ↔ ∃ j' : Nat, j' < j ∧ rd o (j' : Int) < 0) →
    ∃ v', (v' < 0 ↔ ∃ j' : Nat, j' < o.length ∧ rd o (j' : Int) < 0) ∧ Ev (fun k => slices_Min_int_int.l0 k o v (j : Int)) v' := by
  intro d
  induction d with
  | zero =>
    intro j v hd hj hv
    obtain rfl : j = o.length := by omega
    refine ⟨v, hv, Ev.step (fun k => by rw [slices_Min_int_int.l0]) ?_⟩
    exact evNeg (by omega) (Ev.now _)
  | succ d ih =>
    intro j v hd hj hv
    have hjs : wrap64 ((j : Int) + 1) = ((j + 1 : Nat) : Int) := wsucc (show j < o.length by omega) (by omega)
    obtain ⟨v', h1, h2⟩ := ih (j + 1) (mn v (rd o (j : Int))) (by clear hv; omega) (by clear hv; omega) (by
      constructor
      · intro h
        by_cases h0 : rd o (j : Int) < 0
        · exact ⟨j, by omega, h0⟩
        · obtain ⟨j', a, b⟩ := hv.1 (by clear hv; unfold mn at h; split at h <;> omega)
          exact ⟨j', by omega, b⟩
      · rintro ⟨j', a, b⟩
        unfold mn
        by_cases e : j' = j
        · subst e; split <;> omega
        · have := hv.2 ⟨j', by omega, b⟩
          split <;> omega)
    refine ⟨v', h1, Ev.step (fun k => by rw [slices_Min_int_int.l0]) ?_⟩
    rw [hjs]
    clear hv h1
    exact evPos (by omega) (evPos (by omega) h2)
theorem min (o : List Int) (ho : o.length ≤ 8) (h1 : 1 ≤ o.length) : ∃ v', (v' < 0 ↔ ∃ j' : Nat, j' < o.length ∧ rd o (j' : Int) < 0) ∧ Ev (fun k => slices_Min_int_int.f k o) v' := by
  obtain ⟨v', a, b⟩ := min_l o ho (o.length - 1) 1 (rd o 0) (by omega) h1 (by
    constructor
    · intro h; exact ⟨0, by omega, h⟩
    · rintro ⟨j', a, b⟩
      have : j' = 0 := by omega
      subst this; exact b)
  refine ⟨v', a, ?_⟩
  unfold slices_Min_int_int.f
  exact evNeg (by omega) (evPos (by omega) b)
theorem i0 (l : List W) (t : List Int) (h7 : l.length ≤ 8) (hlt : t.length = l.length) : ∀ (d i : Nat), l.length - i = d → i ≤ l.length →
    EvB (fun k => impl_LotOk.l0 k l t t (t.length : Int) (i : Int)) (∀ i', i ≤ i' → i' < l.length → rd t (i' : Int) = 1 → First l t i' 0) := by
  intro d
  induction d with
  | zero =>
    intro i hd hi
    refine EvB.step (fun k => by rw [impl_LotOk.l0]) ?_
    exact EvB.neg (by omega) (EvB.tt (fun i' h1 h2 => by omega))
  | succ d ih =>
    intro i hd hi
    have hilt : i < l.length := by omega
    have hs : wrap64 ((i : Int) + 1) = ((i + 1 : Nat) : Int) := wsucc hilt (by omega)
    have hn := ih (i + 1) (by omega) (by omega)
    have hgo : (rd t (i : Int) = 1 → First l t i 0) → EvB (fun k => impl_LotOk.l0 k l t t (t.length : Int) ((i + 1 : Nat) : Int)) (∀ i', i ≤ i' → i' < l.length → rd t (i' : Int) = 1 → First l t i' 0) := fun hb =>
      hn.congr ⟨fun h i' h1 h2 => by
        by_cases e : i' = i
        · subst e; exact hb
        · exact h i' (by omega) h2, fun h i' h1 h2 => h i' (by omega) h2⟩
    refine EvB.step (fun k => by rw [impl_LotOk.l0]) ?_
    rw [hs]
    refine EvB.pos (by omega) (EvB.pos (by omega) (EvB.pos (by omega) ?_))
    by_cases h1 : rd t (i : Int) = 1
    · refine EvB.pos h1 ?_
      have hf := first l t i h7 hlt hilt
      by_cases hF : First l t i 0
      · exact EvB.bind (hf.yes hF) (EvB.pos rfl (hgo (fun _ => hF)))
      · exact EvB.bind (hf.no hF) (EvB.neg (by decide) (EvB.ff (fun h => hF (h i (Nat.le_refl _) hilt h1))))
    · exact EvB.neg h1 (hgo (fun h => absurd h h1))
theorem first_pc {l : List W} {t : List Int} (ht : Lot t) (hlt : t.length = l.length) : (∀ i', 0 ≤ i' → i' < l.length → rd t (i' : Int) = 1 → First l t i' 0) ↔ PC l t := by
  constructor
  · intro h i j hj hi h1 hf
    rcases lot01 ht j (by omega) with h0 | h0
    · exact absurd h0 (h i (Nat.zero_le _) hi h1 j (Nat.zero_le _) hj hf)
    · exact h0
  · intro h i _ hi h1 j _ hj hf
    have := h i j hj hi h1 hf
    omega
theorem impl (m : List Int) (l : List W) (t : List Int) (hm : m.length ≤ big) (hl : l.length ≤ big) : EvB (fun k => impl_LotOk.f k m l t) (LOk m l t) := by
  unfold impl_LotOk.f
  refine EvB.bind (Wo.areWaits m l hm hl) ?_
  have bad : ∀ b : Bool, b = true → ¬ LOk m l t → EvB (fun k => impl_LotOk.j0 k l t b) (LOk m l t) := fun b hb hn => by
    subst hb
    exact EvB.step (fun k => by rw [impl_LotOk.j0]) (EvB.pos rfl (EvB.ff hn))
  cases hw : wOk m l with
  | false => exact EvB.neg (by decide) (bad _ rfl (fun h => by have := h.1; rw [hw] at this; cases this))
  | true =>
    obtain ⟨h1, h4, h7, hv, hbd, _⟩ := of_wOk hw
    refine EvB.pos rfl (EvB.bind0 (isLot l t) ?_)
    by_cases hL : t.length = l.length ∧ Lot t
    · refine EvB.pos (decide_eq_true hL) (EvB.bind (Af.impl m l t h4 hv hL.2 hL.1 (by omega) hbd) ?_)
      obtain ⟨v, hv1, hv2⟩ := min (aft m l t) (by rw [aft_len]; omega) (by rw [aft_len]; omega)
      rw [aft_len] at hv1
      refine EvB.bind hv2 ?_
      by_cases hneg : v < 0
      · refine bad _ (decide_eq_true hneg) (fun h => ?_)
        obtain ⟨j, a, b⟩ := hv1.1 hneg
        have := h.2.2.1 j a
        omega
      · refine EvB.step (fun k => by rw [impl_LotOk.j0]) (EvB.neg (by rw [decide_eq_false hneg]; decide) ?_)
        refine (i0 l t (by omega) hL.1 l.length 0 (by omega) (by omega)).congr ?_
        rw [first_pc hL.2 hL.1]
        refine ⟨fun h => ⟨hw, hL, fun j hj => ?_, h⟩, fun h => h.2.2.2⟩
        apply Classical.byContradiction
        intro hn
        exact hneg (hv1.2 ⟨j, hj, by omega⟩)
    · exact EvB.neg (by rw [decide_eq_false hL]; decide) (bad _ rfl (fun h => hL h.2.1))
end Go.Proofs.Ytbnkiikpolcpkaa.Lt
namespace Go.Proofs.Ytbnkiikpolcpkaa.Ob
open Go.RowKit Go.Proofs.Ytbnkiikpolcpkaa.PU Go.Proofs.Ytbnkiikpolcpkaa.Qh Go.Proofs.Ytbnkiikpolcpkaa.Wo Go.Proofs.Ytbnkiikpolcpkaa.Af Go.Proofs.Ytbnkiikpolcpkaa.Lt Go.Proofs.YtbnkiikpolcpkaaW.PrintWords Go.Proofs.YtbnkiikpolcpkaaW.PrintMore
set_option linter.unusedVariables false
set_option linter.unusedSimpArgs false
abbrev am (l : List W) (i : Nat) : Int := (rd_T47 l (i : Int)).f2
theorem aft_bd (n : Nat) : ∀ (l : List W) (t o : List Int) (c : Int), (∀ w ∈ l, Vw n w) → Lot t → o.length = n → Bd o c → Bd (aft o l t) (c + 20 * l.length)
  | [], t, o, c, _, _, _, h => by intro j hj; have := h j hj; unfold aft; simp; omega
  | _ :: l, [], o, c, _, _, _, h => by intro j hj; have := h j hj; simp [aft]; omega
  | w :: l, x :: t, o, c, hv, ht, ho, h => by
    have := aft_bd n l t (stepA o w x) (c + 20) (fun v hv' => hv v (List.mem_cons_of_mem _ hv')) (fun y hy => ht y (List.mem_cons_of_mem _ hy)) (by rw [step_len, ho]) (step_bd o w x n (hv w List.mem_cons_self) ho (ht x List.mem_cons_self) c h)
    intro j hj
    have := this j hj
    show _ ≤ rd (aft (stepA o w x) l t) j ∧ rd (aft (stepA o w x) l t) j ≤ _
    simp only [List.length_cons]
    omega
theorem effs_set (j : Int) : ∀ (l : List W) (t : List Int) (i : Nat), i < l.length → t.length = l.length → rd t (i : Int) = 0 → effs l (t.set i 1) j = effs l t j + eff (rd_T47 l (i : Int)) 1 j
  | [], t, i, h, _, _ => by simp at h
  | w :: l, [], i, _, h, _ => by simp at h
  | w :: l, x :: t, 0, _, _, h0 => by
    have : x = 0 := by simpa [rd] using h0
    subst this
    have e : rd_T47 (w :: l) ((0 : Nat) : Int) = w := by simp [rd_T47]
    rw [e]
    show eff w 1 j + effs l t j = eff w 0 j + effs l t j + eff w 1 j
    have : eff w 0 j = 0 := by simp [eff]
    omega
  | w :: l, x :: t, i + 1, h, hl, h0 => by
    have := effs_set j l t i (by simpa using h) (by simpa using hl) (by simpa [rd] using h0)
    have e : rd_T47 (w :: l) ((i + 1 : Nat) : Int) = rd_T47 l (i : Int) := by simp [rd_T47]
    rw [e]
    show eff w x j + effs l (t.set i 1) j = eff w x j + effs l t j + eff _ 1 j
    omega
theorem count_set : ∀ (t : List Int) (i : Nat), i < t.length → rd t (i : Int) = 0 → (t.set i 1).count 0 + 1 = t.count 0
  | [], i, h, _ => by simp at h
  | x :: t, 0, _, h => by
    have : x = 0 := by simpa [rd] using h
    subst this
    simp
  | x :: t, i + 1, h, h1 => by
    have := count_set t i (by simpa using h) (by simpa [rd] using h1)
    rw [List.set_cons_succ, List.count_cons, List.count_cons]
    omega
theorem set_rd (t : List Int) (v : Int) (i j : Nat) (h : i < t.length) : rd (t.set i v) (j : Int) = if i = j then v else rd t (j : Int) := by
  have := rd_set t v (i : Int) (j : Int) (by omega) (by omega) (by omega)
  rw [Int.toNat_natCast] at this
  rw [this]
  by_cases e : i = j
  · rw [if_pos (by omega), if_pos e]
  · rw [if_neg (by omega), if_neg e]
structure J (m : List Int) (l : List W) (t : List Int) : Prop where
  len : t.length = l.length
  lot : Lot t
  pc : PC l t
  pos : ∀ j : Nat, j < m.length → 0 ≤ rd (aft m l t) (j : Int)
def Feas (m : List Int) (l : List W) (t : List Int) (i : Nat) : Prop := rd t (i : Int) ≠ 1 ∧ am l i ≤ rd (aft m l t) (fr l i) ∧ First l t i 0
def Post (m : List Int) (l : List W) (r : List Int) : Prop := J m l r ∧ ∀ i, i < l.length → ¬ Feas m l r i
theorem next_aft {m : List Int} {l : List W} {t : List Int} (hv : ∀ w ∈ l, Vw m.length w) (h : J m l t) {i : Nat} (hi : i < l.length) (h0 : rd t (i : Int) = 0) : aft m l (t.set i 1) = stepA (aft m l t) (rd_T47 l (i : Int)) 1 := by
  refine ext_rd _ _ (by rw [aft_len, step_len, aft_len]) (fun j _ => ?_)
  rw [step_rd _ _ _ m.length (hv _ (mem_rdW l i hi)) (by rw [aft_len]) _ (by omega), aft_rd m.length l _ m hv rfl _ (by omega), aft_rd m.length l _ m hv rfl _ (by omega), effs_set _ l t i hi h.len h0]
  omega
theorem next_J {m : List Int} {l : List W} {t : List Int} (hv : ∀ w ∈ l, Vw m.length w) (h : J m l t) {i : Nat} (hi : i < l.length) (hf : Feas m l t i) : J m l (t.set i 1) := by
  have hil : i < t.length := by rw [h.len]; exact hi
  have h0 : rd t (i : Int) = 0 := by
    rcases lot01 h.lot i hil with a | a
    · exact a
    · exact absurd a hf.1
  refine ⟨by simp [h.len], ?_, ?_, ?_⟩
  · intro x hx
    rcases List.mem_or_eq_of_mem_set hx with hx | rfl
    · exact h.lot x hx
    · exact .inr rfl
  · intro i' j hj hi' h1' hf'
    rw [set_rd _ _ _ _ hil] at h1' ⊢
    by_cases e2 : i = j
    · rw [if_pos e2]
    · rw [if_neg e2]
      by_cases e : i = i'
      · subst e
        have := hf.2.2 j (Nat.zero_le _) hj hf'
        rcases lot01 h.lot j (by rw [h.len]; omega) with a | a
        · exact absurd a this
        · exact a
      · rw [if_neg e] at h1'
        exact h.pc i' j hj hi' h1' hf'
  · intro j hj
    rw [next_aft hv h hi h0]
    have hvi := hv _ (mem_rdW l i hi)
    rw [step_rd _ _ _ m.length hvi (by rw [aft_len]) _ (by omega)]
    have hp := h.pos j hj
    have hfe := hf.2.1
    unfold am fr at hfe
    generalize rd_T47 l (i : Int) = w at *
    unfold Vw at hvi
    unfold eff
    by_cases e1 : w.f0 = (j : Int)
    · rw [if_neg (show ¬ w.f1 = (j : Int) by omega), if_pos e1]
      rw [e1] at hfe
      omega
    · rw [if_neg e1]
      split <;> omega
theorem sp2 (m : List Int) (l : List W) (t : List Int) (fl : Bool) (i : Nat) (h7 : l.length ≤ 8) (hlen : t.length = l.length) (hi : i < l.length) (r : List Int) (hF : First l t i 0)
    (hr : Ev (fun k => spec_OneByOne.l1 k m l (t.set i 1) true ((i + 1 : Nat) : Int)) r) : ∀ (d j : Nat), i - j = d → j ≤ i → Ev (fun k => spec_OneByOne.l2 k m l t fl (i : Int) (j : Int)) r := by
  have his : wrap64 ((i : Int) + 1) = ((i + 1 : Nat) : Int) := wsucc hi (by omega)
  intro d
  induction d with
  | zero =>
    intro j hd hj
    refine Ev.step (fun k => by rw [spec_OneByOne.l2]) (evNeg (by omega) (evPos (by omega) (evPos (by omega) ?_)))
    rw [his, Int.toNat_natCast]
    exact hr
  | succ d ih =>
    intro j hd hj
    have hjs : wrap64 ((j : Int) + 1) = ((j + 1 : Nat) : Int) := wsucc (show j < l.length by omega) (by omega)
    have hn := ih (j + 1) (by omega) (by omega)
    refine Ev.step (fun k => by rw [spec_OneByOne.l2]) (evPos (by omega) (evPos (by omega) (evPos (by omega) ?_)))
    rw [hjs]
    by_cases h0 : rd t (j : Int) = 0
    · refine evPos h0 (evPos (by omega) (evPos (by omega) (evPos (by omega) (evNeg (fun hf => hF j (Nat.zero_le _) (by omega) hf h0) hn))))
    · exact evNeg h0 hn
theorem sp2_no (m : List Int) (l : List W) (t : List Int) (fl : Bool) (i : Nat) (h7 : l.length ≤ 8) (hlen : t.length = l.length) (hi : i < l.length) (r : List Int)
    (hr : Ev (fun k => spec_OneByOne.l1 k m l t fl ((i + 1 : Nat) : Int)) r) : ∀ (d j : Nat), i - j = d → j ≤ i → ¬ First l t i j → Ev (fun k => spec_OneByOne.l2 k m l t fl (i : Int) (j : Int)) r := by
  have his : wrap64 ((i : Int) + 1) = ((i + 1 : Nat) : Int) := wsucc hi (by omega)
  intro d
  induction d with
  | zero =>
    intro j hd hj hF
    exact absurd (fun j' h1 h2 => by omega) hF
  | succ d ih =>
    intro j hd hj hF
    have hjs : wrap64 ((j : Int) + 1) = ((j + 1 : Nat) : Int) := wsucc (show j < l.length by omega) (by omega)
    refine Ev.step (fun k => by rw [spec_OneByOne.l2]) (evPos (by omega) (evPos (by omega) (evPos (by omega) ?_)))
    rw [hjs, his]
    by_cases hb : rd t (j : Int) = 0 ∧ (rd_T47 l (j : Int)).f0 = (rd_T47 l (i : Int)).f0
    · exact evPos hb.1 (evPos (by omega) (evPos (by omega) (evPos (by omega) (evPos hb.2 hr))))
    · have hn := ih (j + 1) (by omega) (by omega) (fun h => hF (fun j' h1 h2 hf h0 => by
        by_cases e : j' = j
        · subst e; exact hb ⟨h0, hf⟩
        · exact h j' (by omega) h2 hf h0))
      by_cases h0 : rd t (j : Int) = 0
      · exact evPos h0 (evPos (by omega) (evPos (by omega) (evPos (by omega) (evNeg (fun hf => hb ⟨h0, hf⟩) hn))))
      · exact evNeg h0 hn
theorem pass {m : List Int} {l : List W} (hw : wOk m l = true) (C : Nat)
    (H : ∀ t, J m l t → t.count 0 < C → ∃ r, Post m l r ∧ Ev (fun k => impl_oneByOne.l0 k l (aft m l t) t true) r ∧ Ev (fun k => spec_OneByOne.l0 k m l t true) r) :
    ∀ (d i : Nat) (t : List Int) (fl : Bool), l.length - i = d → i ≤ l.length → J m l t → t.count 0 ≤ C → (fl = true → t.count 0 < C) → (fl = false → ∀ i', i' < i → ¬ Feas m l t i') →
      ∃ r, Post m l r ∧ Ev (fun k => impl_oneByOne.l1 k l (aft m l t) t fl l (l.length : Int) (i : Int)) r ∧ Ev (fun k => spec_OneByOne.l1 k m l t fl (i : Int)) r := by
  obtain ⟨h1, h4, h7, hv, hbd, hpos⟩ := of_wOk hw
  intro d
  induction d with
  | zero =>
    intro i t fl hd hi hJ hc hft hff
    obtain rfl : i = l.length := by omega
    cases fl with
    | true =>
      obtain ⟨r, a, b, c⟩ := H t hJ (hft rfl)
      exact ⟨r, a, Ev.step (fun k => by rw [impl_oneByOne.l1]) (evNeg (by omega) b), Ev.step (fun k => by rw [spec_OneByOne.l1]) (evNeg (by omega) c)⟩
    | false =>
      refine ⟨t, ⟨hJ, hff rfl⟩, Ev.step (fun k => by rw [impl_oneByOne.l1]) (evNeg (by omega) ?_), Ev.step (fun k => by rw [spec_OneByOne.l1]) (evNeg (by omega) ?_)⟩
      · exact Ev.step (fun k => by rw [impl_oneByOne.l0]) (evNeg (by decide) (Ev.now _))
      · exact Ev.step (fun k => by rw [spec_OneByOne.l0]) (evNeg (by decide) (Ev.now _))
  | succ d ih =>
    intro i t fl hd hi hJ hc hft hff
    have hilt : i < l.length := by omega
    have hlen := hJ.len
    have his : wrap64 ((i : Int) + 1) = ((i + 1 : Nat) : Int) := wsucc hilt (by omega)
    have hvi := hv _ (mem_rdW l i hilt)
    have hal := aft_len l t m
    have ha := Af.spec m l t h4 hv hJ.lot hJ.len (by omega) hbd
    have hab := aft_bd m.length l t m 20 hv hJ.lot rfl hbd
    have hfirst := first l t i (by omega) hlen hilt
    have hvi' := hvi
    unfold Vw at hvi'
    by_cases hF : Feas m l t i
    · -- it is done
      have h0 : rd t (i : Int) = 0 := by
        rcases lot01 hJ.lot i (by omega) with a | a
        · exact a
        · exact absurd a hF.1
      have hcs := count_set t i (by omega) h0
      obtain ⟨r, hr, e1, e2⟩ := ih (i + 1) (t.set i 1) true (by omega) (by omega) (next_J hv hJ hilt hF) (by omega) (fun _ => by omega) (fun h => by cases h)
      rw [next_aft hv hJ hilt h0] at e1
      refine ⟨r, hr, ?_, ?_⟩
      · refine Ev.step (fun k => by rw [impl_oneByOne.l1]) (evPos (by omega) (evPos (by omega) (evPos (by omega) (evPos (by omega) (evNeg (by omega) (Ev.bind (hfirst.yes hF.2.2) (evT rfl ?_)))))))
        have hfe := hF.2.1
        unfold am fr at hfe
        generalize rd_T47 l (i : Int) = w at *
        have b0 := hab w.f0 (by omega)
        refine evPos (by omega) (evPos (by omega) (evNeg (by omega) (evBind0 rfl ?_)))
        have x0 : wrap64 (rd (aft m l t) w.f0 - w.f2) = rd (aft m l t) w.f0 - w.f2 * 1 := by rw [w64 (by omega) (by omega)]; omega
        rw [x0, show (aft m l t).set w.f0.toNat (rd (aft m l t) w.f0 - w.f2 * 1) = pay (aft m l t) w 1 from rfl]
        have b1 := hab w.f1 (by omega)
        have x1 : wrap64 (rd (pay (aft m l t) w 1) w.f1 + w.f2) = rd (pay (aft m l t) w 1) w.f1 + w.f2 * 1 := by
          rw [pay_rd _ w 1 m.length hvi (by omega) _ (by omega), if_neg (by omega), w64 (by omega) (by omega)]; omega
        rw [x1, his, Int.toNat_natCast]
        exact evPos (by omega) (evPos (by omega) e1)
      · refine Ev.step (fun k => by rw [spec_OneByOne.l1]) (evPos (by omega) (evPos (by omega) (evPos (by omega) (evNeg (by omega) (Ev.bind ha ?_)))))
        have hfe := hF.2.1
        unfold am fr at hfe
        refine evPos (by omega) (evPos (by omega) ?_)
        rw [decide_eq_false (show ¬ rd (aft m l t) (rd_T47 l (i : Int)).f0 < (rd_T47 l (i : Int)).f2 by omega)]
        refine Ev.step (fun k => by rw [spec_OneByOne.j2]) (evNeg (by decide) ?_)
        exact sp2 m l t fl i (by omega) hlen hilt r hF.2.2 e2 i 0 (by omega) (by omega)
    · -- it is passed over
      obtain ⟨r, hr, e1, e2⟩ := ih (i + 1) t fl (by omega) (by omega) hJ hc hft (fun h i' hi' => by
        by_cases e : i' = i
        · subst e; exact hF
        · exact hff h i' (by omega))
      refine ⟨r, hr, ?_, ?_⟩
      · refine Ev.step (fun k => by rw [impl_oneByOne.l1]) (evPos (by omega) (evPos (by omega) (evPos (by omega) (evPos (by omega) ?_))))
        rw [his]
        by_cases h1' : rd t (i : Int) = 1
        · exact evPos h1' e1
        · refine evNeg h1' ?_
          by_cases hFi : First l t i 0
          · refine Ev.bind (hfirst.yes hFi) (evT rfl (evPos (by omega) (evPos (by omega) (evPos ?_ e1))))
            apply Classical.byContradiction
            intro hn
            exact hF ⟨h1', by unfold am fr; omega, hFi⟩
          · exact Ev.bind (hfirst.no hFi) (evF rfl e1)
      · refine Ev.step (fun k => by rw [spec_OneByOne.l1]) (evPos (by omega) (evPos (by omega) (evPos (by omega) ?_)))
        have skip : Ev (fun k => spec_OneByOne.j2 k m l t fl (i : Int) true) r := Ev.step (fun k => by rw [spec_OneByOne.j2]) (evPos rfl (by rw [his]; exact e2))
        by_cases h1' : rd t (i : Int) = 1
        · exact evPos h1' skip
        · refine evNeg h1' (Ev.bind ha (evPos (by omega) (evPos (by omega) ?_)))
          by_cases hlt : rd (aft m l t) (rd_T47 l (i : Int)).f0 < (rd_T47 l (i : Int)).f2
          · rw [decide_eq_true hlt]; exact skip
          · rw [decide_eq_false hlt]
            refine Ev.step (fun k => by rw [spec_OneByOne.j2]) (evNeg (by decide) ?_)
            exact sp2_no m l t fl i (by omega) hlen hilt r e2 i 0 (by omega) (by omega) (fun hFi => hF ⟨h1', by unfold am fr; omega, hFi⟩)
theorem run {m : List Int} {l : List W} (hw : wOk m l = true) : ∀ (C : Nat) (t : List Int), t.count 0 = C → J m l t → ∃ r, Post m l r ∧ Ev (fun k => impl_oneByOne.l0 k l (aft m l t) t true) r ∧ Ev (fun k => spec_OneByOne.l0 k m l t true) r := by
  intro C
  induction C using Nat.strongRecOn with
  | _ C ih =>
    intro t hc hJ
    obtain ⟨r, a, b, c⟩ := pass hw C (fun u hu hcu => ih _ hcu u rfl hu) l.length 0 t false (by omega) (by omega) hJ (by omega) (fun h => by cases h) (fun _ i' h => by omega)
    refine ⟨r, a, ?_, ?_⟩
    · refine Ev.step (fun k => by rw [impl_oneByOne.l0]) (evPos rfl ?_)
      exact b
    · refine Ev.step (fun k => by rw [spec_OneByOne.l0]) (evPos rfl ?_)
      exact c
theorem aft_zero (m : List Int) (l : List W) (hv : ∀ w ∈ l, Vw m.length w) : aft m l (List.replicate l.length 0) = m := by
  refine ext_rd _ _ (aft_len _ _ _) (fun j _ => ?_)
  rw [aft_rd m.length l _ m hv rfl _ (by omega)]
  have : ∀ (l : List W) (n : Nat), effs l (List.replicate n 0) (j : Int) = 0 := by
    intro l
    induction l with
    | nil => intro n; cases n <;> simp [effs]
    | cons w l ih =>
      intro n
      cases n with
      | zero => simp [effs]
      | succ n =>
        show eff w 0 (j : Int) + effs l (List.replicate n 0) (j : Int) = 0
        rw [ih n]; simp [eff]
  rw [this]; omega
theorem rep0 (n k : Nat) : rd (List.replicate n 0) (k : Int) = 0 := by
  unfold rd
  rw [List.getD_eq_getElem?_getD, List.getElem?_replicate]
  split <;> rfl
theorem start {m : List Int} {l : List W} (hw : wOk m l = true) : J m l (List.replicate l.length 0) := by
  obtain ⟨h1, h4, h7, hv, hbd, hpos⟩ := of_wOk hw
  exact ⟨by simp, fun x hx => .inl (List.eq_of_mem_replicate hx), fun i j hj hi h _ => by rw [rep0] at h; omega, fun j hj => by rw [aft_zero m l hv]; exact hpos _ (by omega)⟩
theorem inner {m : List Int} {l : List W} (hw : wOk m l = true) : ∃ r, Post m l r ∧ Ev (fun k => impl_oneByOne.f k m l) r ∧ Ev (fun k => spec_OneByOne.l0 k m l (List.replicate l.length 0) true) r := by
  obtain ⟨h1, h4, h7, hv, hbd, hpos⟩ := of_wOk hw
  obtain ⟨r, a, b, c⟩ := run hw _ _ rfl (start hw)
  rw [aft_zero m l hv] at b
  refine ⟨r, a, ?_, c⟩
  unfold impl_oneByOne.f
  refine evBind0 rfl (evPos (by simp; omega) (evPos (by omega) (evPos (by omega) ?_)))
  simpa using b
theorem both (m : List Int) (l : List W) (hm : m.length ≤ big) (hl : l.length ≤ big) : ∃ r, (wOk m l = true → Post m l r) ∧ (wOk m l = false → r = []) ∧ Ev (fun k => impl_OneByOne.f k m l) r ∧ Ev (fun k => spec_OneByOne.f k m l) r := by
  cases hw : wOk m l with
  | true =>
    obtain ⟨h1, h4, h7, hv, hbd, hpos⟩ := of_wOk hw
    obtain ⟨r, a, b, c⟩ := inner hw
    refine ⟨r, fun _ => a, (fun h => by cases h), ?_, ?_⟩
    · unfold impl_OneByOne.f
      exact Ev.bind (Wo.areWaits m l hm hl) (evT hw (Ev.bind b (Ev.now _)))
    · unfold spec_OneByOne.f
      refine Ev.bind (Wo.spec m l hm hl) (evT hw (evPos (by omega) (evPos (by omega) ?_)))
      simpa using c
  | false =>
    refine ⟨[], (fun h => by cases h), fun _ => rfl, ?_, ?_⟩
    · unfold impl_OneByOne.f
      exact Ev.bind (Wo.areWaits m l hm hl) (evF hw (Ev.now _))
    · unfold spec_OneByOne.f
      exact Ev.bind (Wo.spec m l hm hl) (evF hw (Ev.now _))
end Go.Proofs.Ytbnkiikpolcpkaa.Ob
namespace Go.Proofs.Ytbnkiikpolcpkaa.To
open Go.RowKit Go.Proofs.Ytbnkiikpolcpkaa.PU Go.Proofs.Ytbnkiikpolcpkaa.Qh Go.Proofs.YtbnkiikpolcpkaaW.PrintWords Go.Proofs.YtbnkiikpolcpkaaW.PrintMore
set_option linter.unusedVariables false
set_option linter.unusedSimpArgs false
theorem toI_l (l : List Int) (hl : l.length ≤ 1048576) : ∀ (d i : Nat) (o : List Int), l.length - i = d → i ≤ l.length → o.length = l.length → (∀ j : Nat, j < i → rd o (j : Int) = rd l (j : Int)) →
    Ev (fun k => laws_toIntS.l0 k l o (i : Int)) l := by
  intro d
  induction d with
  | zero =>
    intro i o hd hi ho hj
    obtain rfl : i = l.length := by omega
    refine Ev.step (fun k => by rw [laws_toIntS.l0]) ?_
    refine evNeg (by omega) ?_
    exact evNow (by rw [ext_rd o l ho (fun j h => hj j (by omega))])
  | succ d ih =>
    intro i o hd hi ho hj
    have hlt : i < l.length := by omega
    have hs : wrap64 ((i : Int) + 1) = ((i + 1 : Nat) : Int) := wsucc hlt (by omega)
    refine Ev.step (fun k => by rw [laws_toIntS.l0]) ?_
    refine evPos (by omega) (evPos (by omega) (evPos (by omega) ?_))
    rw [hs]
    refine ih (i + 1) _ (by omega) (by omega) (by simp [ho]) (fun j h => ?_)
    rw [rd_set _ _ _ _ (by omega) (by omega) (by omega)]
    by_cases e : (i : Int) = j
    · rw [if_pos e, e]
    · rw [if_neg e]; exact hj j (by omega)
theorem toI (l : List Int) (hl : l.length ≤ 1048576) : Ev (fun k => laws_toIntS.f k l) l := by
  unfold laws_toIntS.f
  refine evPos (by omega) (evPos (by omega) ?_)
  exact toI_l l hl l.length 0 _ (by omega) (by omega) (by simp) (fun j h => by omega)
theorem eqI_l (l : List Int) (hl : l.length ≤ 4611686018427387904) : ∀ (d i : Nat), l.length - i = d → i ≤ l.length → Ev (fun k => laws_eqIntS.l0 k l l (i : Int)) true := by
  intro d
  induction d with
  | zero =>
    intro i hd hi
    refine Ev.step (fun k => by rw [laws_eqIntS.l0]) ?_
    exact evNeg (by omega) (Ev.now _)
  | succ d ih =>
    intro i hd hi
    have hlt : i < l.length := by omega
    have hs : wrap64 ((i : Int) + 1) = ((i + 1 : Nat) : Int) := wsucc hlt (by omega)
    refine Ev.step (fun k => by rw [laws_eqIntS.l0]) ?_
    refine evPos (by omega) (evPos (by omega) (evPos (by omega) (evPos rfl ?_)))
    rw [hs]
    exact ih (i + 1) (by omega) (by omega)
theorem eqI (l : List Int) (hl : l.length ≤ 4611686018427387904) : Ev (fun k => laws_eqIntS.f k l l) true := by
  unfold laws_eqIntS.f
  exact evPos rfl (eqI_l l hl l.length 0 (by omega) (by omega))
def Marked (y : List Int) (n : Nat) (k : Int) : Prop := y.length = n ∧ ∀ j : Nat, j < n → rd y (j : Int) = k + j
theorem mkI_l (n : Nat) (hn : n ≤ 1048576) (k0 : Int) (h0 : 0 ≤ k0) (h1 : k0 ≤ 4611686018427387904) : ∀ (d i : Nat) (x : List Int), n - i = d → i ≤ n → x.length = n → (∀ j : Nat, j < i → rd x (j : Int) = k0 + j) →
    ∃ y, Marked y n k0 ∧ Ev (fun k => laws_markIntS.l0 k x (k0 + i) (i : Int)) (k0 + n, y) := by
  intro d
  induction d with
  | zero =>
    intro i x hd hi hx hj
    obtain rfl : i = n := by omega
    refine ⟨x, ⟨hx, hj⟩, ?_⟩
    refine Ev.step (fun k => by rw [laws_markIntS.l0]) ?_
    exact evNeg (by omega) (Ev.now _)
  | succ d ih =>
    intro i x hd hi hx hj
    have hlt : i < n := by omega
    have hs : wrap64 ((i : Int) + 1) = ((i + 1 : Nat) : Int) := wsucc hlt (by omega)
    have hk : wrap64 (k0 + i + 1) = k0 + ((i + 1 : Nat) : Int) := by rw [w64 (by omega) (by omega)]; omega
    obtain ⟨y, hy, he⟩ := ih (i + 1) (x.set i (k0 + i)) (by omega) (by omega) (by simp [hx]) (fun j h => by
      have := rd_set x (k0 + i) (i : Int) (j : Int) (by omega) (by omega) (by omega)
      rw [Int.toNat_natCast] at this
      rw [this]
      by_cases e : (i : Int) = j
      · rw [if_pos e, e]
      · rw [if_neg e]; exact hj j (by omega))
    refine ⟨y, hy, ?_⟩
    refine Ev.step (fun k => by rw [laws_markIntS.l0]) ?_
    refine evPos (by omega) (evPos (by omega) ?_)
    rw [hs, hk, Int.toNat_natCast]
    exact he
theorem mkI (l : List Int) (hn : l.length ≤ 1048576) (k0 : Int) (h0 : 0 ≤ k0) (h1 : k0 ≤ 4611686018427387904) : ∃ y, Marked y l.length k0 ∧ Ev (fun k => laws_markIntS.f k l k0) (k0 + l.length, y) := by
  obtain ⟨y, hy, he⟩ := mkI_l l.length hn k0 h0 h1 l.length 0 l (by omega) (by omega) rfl (fun j h => by omega)
  exact ⟨y, hy, by unfold laws_markIntS.f; simpa using he⟩
theorem hdI_l (y : List Int) (n : Nat) (hn : n ≤ 1048576) (k0 : Int) (h0 : 0 ≤ k0) (h1 : k0 ≤ 4611686018427387904) (hy : Marked y n k0) : ∀ (d i : Nat), n - i = d → i ≤ n →
    Ev (fun k => laws_heldIntS.l0 k y (k0 + i) (i : Int)) (k0 + n) := by
  have hl := hy.1
  intro d
  induction d with
  | zero =>
    intro i hd hi
    obtain rfl : i = n := by omega
    refine Ev.step (fun k => by rw [laws_heldIntS.l0]) ?_
    exact evNeg (by omega) (Ev.now _)
  | succ d ih =>
    intro i hd hi
    have hlt : i < n := by omega
    have hs : wrap64 ((i : Int) + 1) = ((i + 1 : Nat) : Int) := wsucc hlt (by omega)
    have hk : wrap64 (k0 + i + 1) = k0 + ((i + 1 : Nat) : Int) := by rw [w64 (by omega) (by omega)]; omega
    refine Ev.step (fun k => by rw [laws_heldIntS.l0]) ?_
    refine evPos (by omega) (evPos (by omega) (evPos (hy.2 i hlt) ?_))
    rw [hs, hk]
    exact ih (i + 1) (by omega) (by omega)
theorem hdI (y : List Int) (n : Nat) (hn : n ≤ 1048576) (k0 : Int) (h0 : 0 ≤ k0) (h1 : k0 ≤ 4611686018427387904) (hy : Marked y n k0) : Ev (fun k => laws_heldIntS.f k y k0) (k0 + n) := by
  unfold laws_heldIntS.f
  have := hdI_l y n hn k0 h0 h1 hy n 0 (by omega) (by omega)
  simpa using this
end Go.Proofs.Ytbnkiikpolcpkaa.To
namespace Go.Proofs.Ytbnkiikpolcpkaa.Tw
open Go.RowKit Go.Proofs.Ytbnkiikpolcpkaa.PU Go.Proofs.Ytbnkiikpolcpkaa.Qh Go.Proofs.YtbnkiikpolcpkaaW.PrintWords Go.Proofs.YtbnkiikpolcpkaaW.PrintMore
set_option linter.unusedVariables false
set_option linter.unusedSimpArgs false
abbrev W := S47
abbrev L := S51
def cv (x : L) : W := ⟨x.f0, x.f1, x.f2⟩
theorem szW (l : List L) (hl : l.length ≤ 1048576) : laws_szWaitS.f l 1048576 = some (1048576 - (l.length : Int)) := by
  unfold laws_szWaitS.f
  rw [w64 (by omega) (by omega), if_neg (by omega)]
theorem szW_no (l : List L) (hl : 1048576 < l.length) (hm : l.length ≤ 9223372036854775807) : laws_szWaitS.f l 1048576 = some (-1) := by
  unfold laws_szWaitS.f
  rw [w64 (by omega) (by omega), if_pos (by omega)]
theorem toW_l (l : List L) (hl : l.length ≤ 1048576) : ∀ (d i : Nat) (o : List W), l.length - i = d → i ≤ l.length → o.length = l.length → (∀ j : Nat, j < i → o.getD j z47 = cv (l.getD j z51)) →
    Ev (fun k => laws_toWaitS.l0 k l o (i : Int)) (l.map cv) := by
  intro d
  induction d with
  | zero =>
    intro i o hd hi ho hj
    obtain rfl : i = l.length := by omega
    refine Ev.step (fun k => by rw [laws_toWaitS.l0]) ?_
    refine evNeg (by omega) ?_
    refine evNow ?_
    rw [ext_getD z47 o (l.map cv) (by simp [ho]) (fun j h => by rw [hj j (by omega), getD_map cv z51 _ l j (by omega)])]
  | succ d ih =>
    intro i o hd hi ho hj
    have hlt : i < l.length := by omega
    have hs : wrap64 ((i : Int) + 1) = ((i + 1 : Nat) : Int) := wsucc hlt (by omega)
    refine Ev.step (fun k => by rw [laws_toWaitS.l0]) ?_
    refine evPos (by omega) (evPos (by omega) (evBind0 rfl (evPos (by omega) ?_)))
    rw [hs, Int.toNat_natCast]
    refine ih (i + 1) _ (by omega) (by omega) (by simp [ho]) (fun j h => ?_)
    rw [getD_set _ _ _ _ _ (by omega)]
    by_cases e : i = j
    · subst e; rw [if_pos rfl]; rfl
    · rw [if_neg e]; exact hj j (by omega)
theorem toW (l : List L) (hl : l.length ≤ 1048576) : Ev (fun k => laws_toWaitS.f k l) (l.map cv) := by
  unfold laws_toWaitS.f
  refine evPos (by omega) (evPos (by omega) ?_)
  exact toW_l l hl l.length 0 _ (by omega) (by omega) (by simp) (fun j h => by omega)
theorem eqW1 (a b c : Int) : laws_eqWait.f a b c a b c = some true := by unfold laws_eqWait.f; simp
theorem eqW_l (l : List W) (hl : l.length ≤ 4611686018427387904) : ∀ (d i : Nat), l.length - i = d → i ≤ l.length → Ev (fun k => laws_eqWaitS.l0 k l l (i : Int)) true := by
  intro d
  induction d with
  | zero =>
    intro i hd hi
    refine Ev.step (fun k => by rw [laws_eqWaitS.l0]) ?_
    exact evNeg (by omega) (Ev.now _)
  | succ d ih =>
    intro i hd hi
    have hlt : i < l.length := by omega
    have hs : wrap64 ((i : Int) + 1) = ((i + 1 : Nat) : Int) := wsucc hlt (by omega)
    refine Ev.step (fun k => by rw [laws_eqWaitS.l0]) ?_
    refine evPos (by omega) (evPos (by omega) (evPos (by omega) (evBind0 (eqW1 _ _ _) (evT rfl ?_))))
    rw [hs]
    exact ih (i + 1) (by omega) (by omega)
theorem eqW (l : List W) (hl : l.length ≤ 4611686018427387904) : Ev (fun k => laws_eqWaitS.f k l l) true := by
  unfold laws_eqWaitS.f
  exact evPos rfl (eqW_l l hl l.length 0 (by omega) (by omega))
end Go.Proofs.Ytbnkiikpolcpkaa.Tw
namespace Go.Proofs.Ytbnkiikpolcpkaa.Tm
open Go.RowKit Go.Proofs.Ytbnkiikpolcpkaa.PU Go.Proofs.Ytbnkiikpolcpkaa.Qh Go.Proofs.Ytbnkiikpolcpkaa.Tw Go.Proofs.YtbnkiikpolcpkaaW.PrintWords Go.Proofs.YtbnkiikpolcpkaaW.PrintMore
set_option linter.unusedVariables false
set_option linter.unusedSimpArgs false
theorem mkW_l (n : Nat) (hn : n ≤ 1048576) (k0 : Int) (h0 : 0 ≤ k0) (h1 : k0 ≤ 4611686018427387904) : ∀ (d i : Nat) (x : List W), n - i = d → i ≤ n → x.length = n →
    ∃ y, Ev (fun k => laws_markWaitS.l0 k x (k0 + 3 * i) (i : Int)) (k0 + 3 * n, y) := by
  intro d
  induction d with
  | zero =>
    intro i x hd hi hx
    obtain rfl : i = n := by omega
    refine ⟨x, ?_⟩
    refine Ev.step (fun k => by rw [laws_markWaitS.l0]) ?_
    exact evNeg (by omega) (Ev.now _)
  | succ d ih =>
    intro i x hd hi hx
    have hlt : i < n := by omega
    have hs : wrap64 ((i : Int) + 1) = ((i + 1 : Nat) : Int) := wsucc hlt (by omega)
    have hk1 : wrap64 (k0 + 3 * i + 1) = k0 + 3 * i + 1 := w64 (by omega) (by omega)
    have hk2 : wrap64 (k0 + 3 * i + 1 + 1) = k0 + 3 * i + 2 := by rw [w64 (by omega) (by omega)]; omega
    have hk3 : wrap64 (k0 + 3 * i + 2 + 1) = k0 + 3 * ((i + 1 : Nat) : Int) := by rw [w64 (by omega) (by omega)]; omega
    obtain ⟨y, he⟩ := ih (i + 1) (((x.set i (⟨k0 + 3 * i, (rd_T47 x i).f1, (rd_T47 x i).f2⟩ : W)).set i (⟨(rd_T47 (x.set i (⟨k0 + 3 * i, (rd_T47 x i).f1, (rd_T47 x i).f2⟩ : W)) i).f0, k0 + 3 * i + 1, (rd_T47 (x.set i (⟨k0 + 3 * i, (rd_T47 x i).f1, (rd_T47 x i).f2⟩ : W)) i).f2⟩ : W)).set i
      (⟨(rd_T47 ((x.set i (⟨k0 + 3 * i, (rd_T47 x i).f1, (rd_T47 x i).f2⟩ : W)).set i (⟨(rd_T47 (x.set i (⟨k0 + 3 * i, (rd_T47 x i).f1, (rd_T47 x i).f2⟩ : W)) i).f0, k0 + 3 * i + 1, (rd_T47 (x.set i (⟨k0 + 3 * i, (rd_T47 x i).f1, (rd_T47 x i).f2⟩ : W)) i).f2⟩ : W)) i).f0,
        (rd_T47 ((x.set i (⟨k0 + 3 * i, (rd_T47 x i).f1, (rd_T47 x i).f2⟩ : W)).set i (⟨(rd_T47 (x.set i (⟨k0 + 3 * i, (rd_T47 x i).f1, (rd_T47 x i).f2⟩ : W)) i).f0, k0 + 3 * i + 1, (rd_T47 (x.set i (⟨k0 + 3 * i, (rd_T47 x i).f1, (rd_T47 x i).f2⟩ : W)) i).f2⟩ : W)) i).f1, k0 + 3 * i + 2⟩ : W)) (by omega) (by omega) (by simp [hx])
    refine ⟨y, ?_⟩
    refine Ev.step (fun k => by rw [laws_markWaitS.l0]) ?_
    refine evPos (by omega) (evPos (by omega) (evBind0 rfl (evBind0 rfl ?_)))
    rw [hs, hk1, hk2, hk3, Int.toNat_natCast]
    exact he
theorem mkW (l : List W) (hn : l.length ≤ 1048576) (k0 : Int) (h0 : 0 ≤ k0) (h1 : k0 ≤ 4611686018427387904) : ∃ y, Ev (fun k => laws_markWaitS.f k l k0) (k0 + 3 * l.length, y) := by
  obtain ⟨y, he⟩ := mkW_l l.length hn k0 h0 h1 l.length 0 l (by omega) (by omega) rfl
  exact ⟨y, by unfold laws_markWaitS.f; simpa using he⟩
end Go.Proofs.Ytbnkiikpolcpkaa.Tm
namespace Go.Proofs.Ytbnkiikpolcpkaa.Eob
open Go.RowKit Go.Proofs.Ytbnkiikpolcpkaa.PU Go.Proofs.Ytbnkiikpolcpkaa.Qh Go.Proofs.YtbnkiikpolcpkaaW.PrintWords Go.Proofs.YtbnkiikpolcpkaaW.PrintMore
set_option linter.unusedVariables false
set_option linter.unusedSimpArgs false
theorem holds (l0 : List Int) (l1 : List Tw.L) (h1 : l1.length ≤ maxLen) : ∃ k, laws_FnExactOneByOne.f k l0 l1 = some true := by
  refine Ev.rounds (g := fun k => laws_FnExactOneByOne.f k l0 l1) ?_
  unfold laws_FnExactOneByOne.f
  unfold maxLen at h1
  by_cases a : (l0.length : Int) > 1048576
  · exact evPos a (Ev.now _)
  refine evNeg a ?_
  by_cases b : 1048576 < l1.length
  · exact evBind0 (Tw.szW_no l1 b h1) (evPos (by omega) (Ev.now _))
  have hb : (l1.map Tw.cv).length ≤ 1048576 := by rw [List.length_map]; omega
  refine evBind0 (Tw.szW l1 (by omega)) (evNeg (by omega) ?_)
  have t0 := To.toI l0 (by omega)
  have t1 := Tw.toW l1 (by omega)
  obtain ⟨r, hr1, hr2, hi, hs⟩ := Ob.both l0 (l1.map Tw.cv) (by unfold Wo.big; omega) (by unfold Wo.big; omega)
  have hrl : r.length ≤ 8 := by
    cases hw : Wo.wOk l0 (l1.map Tw.cv) with
    | true => have := (hr1 hw).1.len; have := (Af.of_wOk hw).2.2.1; omega
    | false => rw [hr2 hw]; simp
  have e := To.eqI r (by omega)
  refine Ev.bind t0 (Ev.bind t1 (Ev.bind hs (Ev.bind t0 (Ev.bind t1 (Ev.bind hi (Ev.bind e (evT rfl ?_)))))))
  refine Ev.bind t0 (Ev.bind (To.eqI l0 (by omega)) (evT rfl ?_))
  refine Ev.bind t1 (Ev.bind (Tw.eqW _ (by omega)) (evT rfl ?_))
  obtain ⟨y0, _, m0⟩ := To.mkI l0 (by omega) 1 (by omega) (by omega)
  obtain ⟨y1, m1⟩ := Tm.mkW (l1.map Tw.cv) hb (1 + (l0.length : Int)) (by omega) (by omega)
  obtain ⟨y, hy, m⟩ := To.mkI r (by omega) 1 (by omega) (by omega)
  have hd := To.hdI y r.length (by omega) 1 (by omega) (by omega) hy
  refine Ev.bind m0 (Ev.bind m1 (evNeg (by simp only; omega) (Ev.bind e ?_)))
  refine Ev.step (fun k => by rw [laws_FnExactOneByOne.j0]) (evNeg (by decide) ?_)
  refine Ev.bind m (Ev.bind hd (evNeg (by omega) (evPos rfl ?_)))
  refine Ev.bind t0 (Ev.bind t1 (Ev.bind hi (Ev.bind e (evT rfl ?_))))
  exact Ev.bind hd (evNeg (by omega) (evPos rfl (Ev.now _)))
end Go.Proofs.Ytbnkiikpolcpkaa.Eob
namespace Go.Proofs.Ytbnkiikpolcpkaa.fnExactOneByOne
open Go.ChangeShapes Go.WideShapes Go.ChangeAt Go.RowKit Go.Proofs.Ytbnkiikpolcpkaa.PU Go.Proofs.YtbnkiikpolcpkaaW.PrintWords
open Go.ChangeMaps (open_string shut_string)
set_option linter.unusedVariables false
theorem own : ownKnob Try.prog.godebug = none := by kernel_rfl
theorem laidOut : laidOutB Try.prog = true := by kernel_rfl
abbrev G3 (_ : Int) : Prop := True
theorem o3 : Op.Opens Try.prog 3 (Kd.int .i64) G3 := Op.opens_int Try.underlying3 (by kernel_rfl)
abbrev G22 (x : List Int) : Prop := x.length ≤ maxLen ∧ ∀ y ∈ x, G3 y
theorem o22 : Op.Opens Try.prog 22 (Kd.slice 3 (Kd.int .i64)) G22 := Op.opens_slice Try.underlying22 (by kernel_rfl) o3
abbrev G51 (x : S51) : Prop := G3 x.f0 ∧ G3 x.f1 ∧ G3 x.f2
theorem o51 : Op.Opens Try.prog 51 k51 G51 := Op.opens_iso (Op.opens_struct Try.underlying51 (by kernel_rfl) (Op.opensF_cons rfl o3 (Op.opensF_cons rfl o3 (Op.opensF_one rfl o3)))) (fun x : S51 => (x.f0, x.f1, x.f2)) (fun z => (⟨z.1, z.2.1, z.2.2⟩ : S51)) (fun _ => rfl)
abbrev G23 (x : List S51) : Prop := x.length ≤ maxLen ∧ ∀ y ∈ x, G51 y
theorem o23 : Op.Opens Try.prog 23 (Kd.slice 51 k51) G23 := Op.opens_slice Try.underlying23 (by kernel_rfl) o51
set_option maxRecDepth 100000 in
theorem lifted (os : Os) (started : os.Started) (H : Type) (enc : TypeId × Value → H) :
    ReturnsInHanded {} Try.checked os 11 .any (Rows.fnExactOneByOneSpec.pre6 enc Try.prog Try.f11 Rows.fnExactOneByOneRow.domain false) (Rows.fnExactOneByOneSpec.post enc Try.prog Try.f11 false true false false) := by
  refine returnsInHanded_of_change_sized (C := Try.checked) own started (by kernel_rfl) Try.func11
    (ChangeSpec.witness6 (enc := enc) (C := Try.checked) false ⟨#[], #[.slice none 0 0, .slice none 0 0], []⟩ 8 (by kernel_rfl) (by kernel_rfl) (by kernel_rfl) (by kernel_rfl)) ?_
  intro W base args ds gs before hval0 hW _ _ _
  have hval : ∀ (j : Nat) t v, Try.f11.params[j]? = some t → args[j]? = some v → Value.okWide Try.prog W .any base t v := hval0
  have hW' := hW
  obtain ⟨p, q, hA0, hV, rfl, _, _⟩ := hW
  have hA : DataW.TrodAll enc Try.prog W 0 (fun _ => true) true Try.f11.params.toList args.toList ds p := hA0
  rw [Try.params11] at hA hval
  obtain ⟨v0, vs0, d0, ds0, p0, q0, hargs, rfl, rfl, h0, r0⟩ := trodAll_cons hA
  obtain ⟨v1, vs1, d1, ds1, p1, q1, rfl, rfl, rfl, h1, r1⟩ := trodAll_cons r0
  obtain ⟨rfl, rfl, rfl⟩ := trodAll_nil r1
  obtain rfl : args = #[v0, v1] := by cases args; simp_all
  obtain ⟨rfl, rfl⟩ := trodVars_none hV
  have k0 := h0
  have lt0 : ∀ x ∈ p0, x.block < W.heap.size := by obtain ⟨m, hm⟩ := k0; exact DataW.trod_lt m _ _ _ hm
  obtain ⟨A0, c0, l0, rfl, hc0, hr0, g0⟩ := Op.open_arg o22 (okWide_slice Try.underlying22 (hval 0 22 v0 rfl rfl)) h0
  have k1 := h1
  have lt1 : ∀ x ∈ p1, x.block < W.heap.size := by obtain ⟨m, hm⟩ := k1; exact DataW.trod_lt m _ _ _ hm
  obtain ⟨A1, c1, l1, rfl, hc1, hr1, g1⟩ := Op.open_arg o23 (okWide_slice Try.underlying23 (hval 1 23 v1 rfl rfl)) h1
  obtain ⟨k, hk⟩ := Eob.holds l0 l1 g1.1
  refine (laws_FnExactOneByOne.calls k A0 c0 l0 A1 c1 l1 true W hr0 hc0 hr1 hc1 hk).mono fun e W' ⟨he, bel⟩ => ?_
  subst he
  exact ⟨_, rfl, _, _, _, [], _, [], hW', trodAll_mk1 (shut_bool Try.underlying4 _), (trodAll_cons_mk (Below.trod laidOut (by kernel_rfl) (of_decide_eq_true (by kernel_rfl)) k0 bel lt0) (trodAll_cons_mk (Below.trod laidOut (by kernel_rfl) (of_decide_eq_true (by kernel_rfl)) k1 bel lt1) trodAll_mk0)), rfl, bel.frame _, fun h => by cases h⟩
theorem over : Rows.fnExactOneByOneRow.holds Try.pinned (OpenSpec.ofChange Rows.fnExactOneByOneSpec) :=
  OpenClaim.holds_of_wide 11 Try.f11 rfl rfl rfl rfl rfl rfl rfl ⟨rfl, rfl, rfl, rfl, rfl⟩ rfl rfl rfl rfl rfl (by kernel_rfl) Try.func11 (by kernel_rfl)
    (of_decide_eq_true (by kernel_rfl)) (by unfold Func.isWrapper; first | (rw [if_pos (by decide +kernel)]; kernel_rfl) | (rw [if_neg (by decide +kernel)]; exact ⟨rfl, rfl⟩))
    (fun os started H enc _ => lifted os started H enc)
theorem proved : Rows.FnExactOneByOneSaid := over
end Go.Proofs.Ytbnkiikpolcpkaa.fnExactOneByOne
namespace Go.Proofs.Ytbnkiikpolcpkaa
theorem fnExactOneByOne_holds : Rows.FnExactOneByOneSaid := fnExactOneByOne.proved
end Go.Proofs.Ytbnkiikpolcpkaa
