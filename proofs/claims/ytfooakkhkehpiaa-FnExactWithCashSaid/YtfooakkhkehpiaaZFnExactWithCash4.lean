/- FnExactWithCash: for every input the law holds, and each argument reads as it read before. No condition. -/
import Derived.Test.YtfooakkhkehpiaaZFnExactWithCash1
import Derived.Test.YtfooakkhkehpiaaZFnExactWithCash2
import Derived.Test.YtfooakkhkehpiaaZFnExactWithCash3
import Derived.Test.YtfooakkhkehpiaaRows
import Derived.ProofKit
import Derived.OpenShut
import Derived.ShutString
import Derived.ChangeOld
import Derived.SizedLaws
namespace Go.Proofs.Ytfooakkhkehpiaa.PE
open Go.RowKit Go.Proofs.YtfooakkhkehpiaaW.PrintWords Go.Proofs.YtfooakkhkehpiaaW.PrintLast Go.Proofs.YtfooakkhkehpiaaW.PrintMore
set_option linter.unusedVariables false
set_option linter.unusedSimpArgs false
set_option maxHeartbeats 16000000 in
set_option maxRecDepth 100000 in
theorem withCash_neg (k : Nat) (A0_0 : Option Addr) (c0_0 : Nat) (l0_0 : List Int) (A0_1 : Option Addr) (c0_1 : Nat) (l0_1 : List (List Int)) (a1 a2 t : Int) (w : World) (hr0_0 : Kd.C (Kd.int .i64) w A0_0 l0_0.length l0_0) (hc0_0 : l0_0.length ≤ c0_0) (hr0_1 : Kd.C (Kd.slice 3 (Kd.int .i64)) w A0_1 l0_1.length l0_1) (hc0_1 : l0_1.length ≤ c0_1)
    (hneg : t < 0) (hsz : laws_szBook.f k l0_0 l0_1 1048576 = some t) :
    Calls Try.prog 7 #[.agg #[.slice A0_0 l0_0.length c0_0, .slice A0_1 l0_1.length c0_1], .int .i64 a1, .int .i64 a2] w fun e w' => e = .returned (.bool true) ∧ Below w.heap.size w w' := by
  have hu40 := Try.underlying40
  have hu25 := Try.underlying25
  have HR0_0 := Aside0.mk hr0_0
  have HC0_0 := Aside0.mk hc0_0
  have HR0_1 := Aside0.mk hr0_1
  have HC0_1 := Aside0.mk hc0_1
  have HB := Aside0.mk (Below.refl w.heap.size w)
  have HZ := Aside0.mk (show Zs w.heap.size w from Nat.le_refl _)
  have ORD := Aside0.mk (Nat.le_refl w.heap.size)
  have HSZ := Aside0.mk hsz
  have hd0 : decide (t < 0) = true := decide_eq_true hneg
  clear hr0_0 hc0_0 hr0_1 hc0_1 hneg hsz
  go_enter Try.func7, Try.ntmps7
  go_wp2_with (first | ((with_reducible refine gate_dst (N := 3) rfl ?_); refine box_event ?hg (N := 3) ?hd (cs := #[.slice A0_0 l0_0.length c0_0, .slice A0_1 l0_1.length c0_1]) (t := 40) ?hr ?_; (case hd => rfl); (case hg => rfl); (case hr => first | (go_simp; done) | (go_simp; rfl)); intro gb1 hg w1 hbox hb; have hge_ : w.heap.size ≤ gb1 := (by rw [hg]; exact (show Zs w.heap.size _ by (repeat (first | with_reducible refine Zs.alloc ?_ _ | with_reducible refine Zs.drewN ?_ _ | with_reducible refine Zs.drew ?_ | with_reducible refine Zs.set ?_ _ _)); exact HZ.out)); have hlt_ : Zs (gb1 + 1) w1 := blk_lt hbox; have n0_ := Aside0.mk (below_step (by repeat (first | (with_reducible first | exact HB.out | apply below_alloc | apply pw_below_drewN | apply below_drew1) | exact HB.out)) hb); have n1_ := Aside0.mk (hbox); have n2_ := Aside0.mk (hlt_); (try clear HB); (try clear BKgb1); (try clear HZ); have HB := n0_; have BKgb1 := n1_; have HZ := n2_; clear n0_ n1_ n2_; have q_ := Aside0.mk (And.intro ORD.out (show w.heap.size ≤ gb1 from hge_)); clear ORD; have ORD := q_; clear q_; clear hb hbox hg hge_ hlt_; have hcz2 : w1.cell? ⟨gb1, 0, none⟩ = some (.slice A0_0 l0_0.length c0_0) := (blk_cell BKgb1.out 0).trans rfl; have hfz3 := blk_frozen BKgb1.out 0; have hcz4 : w1.cell? ⟨gb1, 1, none⟩ = some (.slice A0_1 l0_1.length c0_1) := (blk_cell BKgb1.out 1).trans rfl; have hfz5 := blk_frozen BKgb1.out 1) | ((with_reducible refine gate_callee (f := 31) rfl ?_); refine goesL_ (some 20) rfl rfl Try.func31 (by kernel_rfl) rfl #[.agg #[.slice A0_0 l0_0.length c0_0, .slice A0_1 l0_1.length c0_1], .int .i64 1048576] rfl (by (try simp only [List.map_toArray, List.map_cons, List.map_nil]); first | done | rfl | (simp only [List.length_drop, List.length_take]; rfl)) ?_; (with_reducible refine (laws_szBook.calls k _ _ l0_0 _ _ l0_1 1048576 t _ ?side1 ?side2 ?side3 ?side4 HSZ.out).mono ?_); (case side1 => exact Kd.C_below HR0_0.out (by repeat (first | (with_reducible first | exact HB.out | apply below_alloc | apply pw_below_drewN | apply below_drew1) | exact HB.out))); (case side2 => exact HC0_0.out); (case side3 => exact Kd.C_below HR0_1.out (by repeat (first | (with_reducible first | exact HB.out | apply below_alloc | apply pw_below_drewN | apply below_drew1) | exact HB.out))); (case side4 => exact HC0_1.out); rintro e w6 ⟨rfl, hb⟩; refine ⟨_, rfl, ?_⟩; have n0_ := Aside0.mk (below_step (by repeat (first | (with_reducible first | exact HB.out | apply below_alloc | apply pw_below_drewN | apply below_drew1) | exact HB.out)) hb); have n1_ := Aside0.mk ((Zs.below (by (repeat (first | with_reducible refine Zs.alloc ?_ _ | with_reducible refine Zs.drewN ?_ _ | with_reducible refine Zs.drew ?_ | with_reducible refine Zs.set ?_ _ _)); exact HZ.out) hb : Zs (gb1 + 1) w6)); have n2_ := Aside0.mk (blk_below (g := gb1) (o := .cells #[.slice A0_0 l0_0.length c0_0, .slice A0_1 l0_1.length c0_1] 40 (0, 0)) (by (with_reducible repeat (first | refine blk_drewN ?_ _ | refine blk_drew ?_ | refine blk_alloc ?_ _)); exact BKgb1.out) hb); (try clear HB); (try clear HZ); (try clear BKgb1); have HB := n0_; have HZ := n1_; have BKgb1 := n2_; clear n0_ n1_ n2_; (try clear hb); have hcz7 : w6.cell? ⟨gb1, 0, none⟩ = some (.slice A0_0 l0_0.length c0_0) := (blk_cell BKgb1.out 0).trans rfl; have hfz8 := blk_frozen BKgb1.out 0; have hcz9 : w6.cell? ⟨gb1, 1, none⟩ = some (.slice A0_1 l0_1.length c0_1) := (blk_cell BKgb1.out 1).trans rfl; have hfz10 := blk_frozen BKgb1.out 1))
  go_ret
  exact ⟨by first | rfl | (simp; done) | (simp [*]; done), by repeat (first | (with_reducible first | exact HB.out | apply below_alloc | apply pw_below_drewN | apply below_drew1) | exact HB.out)⟩
set_option maxHeartbeats 16000000 in
set_option maxRecDepth 100000 in
theorem withCash_walk (k : Nat) (A0_0 : Option Addr) (c0_0 : Nat) (l0_0 : List Int) (A0_1 : Option Addr) (c0_1 : Nat) (l0_1 : List (List Int)) (a1 a2 t m0 m : Int) (r1 x1 y1 : List Int) (r2 x2 y2 : List (List Int)) (r3 : Bool) (w : World) (hr0_0 : Kd.C (Kd.int .i64) w A0_0 l0_0.length l0_0) (hc0_0 : l0_0.length ≤ c0_0) (hr0_1 : Kd.C (Kd.slice 3 (Kd.int .i64)) w A0_1 l0_1.length l0_1) (hc0_1 : l0_1.length ≤ c0_1)
    (hneg : ¬ t < 0) (hneg0 : ¬ m0 < 0) (hnegm : ¬ m < 0) (hsz : laws_szBook.f k l0_0 l0_1 1048576 = some t) (hto : laws_toBook.f k l0_0 l0_1 = some (l0_0, l0_1)) (hsp : spec_WithCash.f k l0_0 l0_1 a1 a2 = some (r1, r2, r3)) (him : impl_WithCash.f k l0_0 l0_1 a1 a2 = some (r1, r2, r3)) (he1 : laws_eqBook.f k r1 r2 r1 r2 = some true) (he2 : laws_eqBook.f k l0_0 l0_1 l0_0 l0_1 = some true) (hm0 : laws_markBook.f k l0_0 l0_1 1 = some (m0, x1, x2)) (hm : laws_markBook.f k r1 r2 1 = some (m, y1, y2)) (hh : laws_heldBook.f k y1 y2 1 = some m) :
    Calls Try.prog 7 #[.agg #[.slice A0_0 l0_0.length c0_0, .slice A0_1 l0_1.length c0_1], .int .i64 a1, .int .i64 a2] w fun e w' => e = .returned (.bool true) ∧ Below w.heap.size w w' := by
  have hu40 := Try.underlying40
  have hu25 := Try.underlying25
  have HR0_0 := Aside0.mk hr0_0
  have HC0_0 := Aside0.mk hc0_0
  have HR0_1 := Aside0.mk hr0_1
  have HC0_1 := Aside0.mk hc0_1
  have HB := Aside0.mk (Below.refl w.heap.size w)
  have HZ := Aside0.mk (show Zs w.heap.size w from Nat.le_refl _)
  have ORD := Aside0.mk (Nat.le_refl w.heap.size)
  have HSZ := Aside0.mk hsz
  have HTO := Aside0.mk hto
  have HSP := Aside0.mk hsp
  have HIM := Aside0.mk him
  have HE1 := Aside0.mk he1
  have HE2 := Aside0.mk he2
  have HM0 := Aside0.mk hm0
  have HM := Aside0.mk hm
  have HH := Aside0.mk hh
  have hd0 : decide (t < 0) = false := decide_eq_false hneg
  have hd1 : decide (m0 < 0) = false := decide_eq_false hneg0
  have hd2 : decide (m < 0) = false := decide_eq_false hnegm
  clear hr0_0 hc0_0 hr0_1 hc0_1 hneg hneg0 hnegm hsz hto hsp him he1 he2 hm0 hm hh
  go_enter Try.func7, Try.ntmps7
  go_wp2_with (first | ((with_reducible refine gate_dst (N := 3) rfl ?_); refine box_event ?hg (N := 3) ?hd (cs := #[.slice A0_0 l0_0.length c0_0, .slice A0_1 l0_1.length c0_1]) (t := 40) ?hr ?_; (case hd => rfl); (case hg => rfl); (case hr => first | (go_simp; done) | (go_simp; rfl)); intro gb1 hg w1 hbox hb; have hge_ : w.heap.size ≤ gb1 := (by rw [hg]; exact (show Zs w.heap.size _ by (repeat (first | with_reducible refine Zs.alloc ?_ _ | with_reducible refine Zs.drewN ?_ _ | with_reducible refine Zs.drew ?_ | with_reducible refine Zs.set ?_ _ _)); exact HZ.out)); have hlt_ : Zs (gb1 + 1) w1 := blk_lt hbox; have n0_ := Aside0.mk (below_step (by repeat (first | (with_reducible first | exact HB.out | apply below_alloc | apply pw_below_drewN | apply below_drew1) | exact HB.out)) hb); have n1_ := Aside0.mk (hbox); have n2_ := Aside0.mk (hlt_); (try clear HB); (try clear BKgb1); (try clear HZ); have HB := n0_; have BKgb1 := n1_; have HZ := n2_; clear n0_ n1_ n2_; have q_ := Aside0.mk (And.intro ORD.out (show w.heap.size ≤ gb1 from hge_)); clear ORD; have ORD := q_; clear q_; clear hb hbox hg hge_ hlt_; have hcz2 : w1.cell? ⟨gb1, 0, none⟩ = some (.slice A0_0 l0_0.length c0_0) := (blk_cell BKgb1.out 0).trans rfl; have hfz3 := blk_frozen BKgb1.out 0; have hcz4 : w1.cell? ⟨gb1, 1, none⟩ = some (.slice A0_1 l0_1.length c0_1) := (blk_cell BKgb1.out 1).trans rfl; have hfz5 := blk_frozen BKgb1.out 1) | ((with_reducible refine gate_callee (f := 31) rfl ?_); refine goesL_ (some 20) rfl rfl Try.func31 (by kernel_rfl) rfl #[.agg #[.slice A0_0 l0_0.length c0_0, .slice A0_1 l0_1.length c0_1], .int .i64 1048576] rfl (by (try simp only [List.map_toArray, List.map_cons, List.map_nil]); first | done | rfl | (simp only [List.length_drop, List.length_take]; rfl)) ?_; (with_reducible refine (laws_szBook.calls k _ _ l0_0 _ _ l0_1 1048576 t _ ?side1 ?side2 ?side3 ?side4 HSZ.out).mono ?_); (case side1 => exact Kd.C_below HR0_0.out (by repeat (first | (with_reducible first | exact HB.out | apply below_alloc | apply pw_below_drewN | apply below_drew1) | exact HB.out))); (case side2 => exact HC0_0.out); (case side3 => exact Kd.C_below HR0_1.out (by repeat (first | (with_reducible first | exact HB.out | apply below_alloc | apply pw_below_drewN | apply below_drew1) | exact HB.out))); (case side4 => exact HC0_1.out); rintro e w6 ⟨rfl, hb⟩; refine ⟨_, rfl, ?_⟩; have n0_ := Aside0.mk (below_step (by repeat (first | (with_reducible first | exact HB.out | apply below_alloc | apply pw_below_drewN | apply below_drew1) | exact HB.out)) hb); have n1_ := Aside0.mk ((Zs.below (by (repeat (first | with_reducible refine Zs.alloc ?_ _ | with_reducible refine Zs.drewN ?_ _ | with_reducible refine Zs.drew ?_ | with_reducible refine Zs.set ?_ _ _)); exact HZ.out) hb : Zs (gb1 + 1) w6)); have n2_ := Aside0.mk (blk_below (g := gb1) (o := .cells #[.slice A0_0 l0_0.length c0_0, .slice A0_1 l0_1.length c0_1] 40 (0, 0)) (by (with_reducible repeat (first | refine blk_drewN ?_ _ | refine blk_drew ?_ | refine blk_alloc ?_ _)); exact BKgb1.out) hb); (try clear HB); (try clear HZ); (try clear BKgb1); have HB := n0_; have HZ := n1_; have BKgb1 := n2_; clear n0_ n1_ n2_; (try clear hb); have hcz7 : w6.cell? ⟨gb1, 0, none⟩ = some (.slice A0_0 l0_0.length c0_0) := (blk_cell BKgb1.out 0).trans rfl; have hfz8 := blk_frozen BKgb1.out 0; have hcz9 : w6.cell? ⟨gb1, 1, none⟩ = some (.slice A0_1 l0_1.length c0_1) := (blk_cell BKgb1.out 1).trans rfl; have hfz10 := blk_frozen BKgb1.out 1) | ((with_reducible refine gate_callee (f := 33) rfl ?_); refine goesL_ (some 25) rfl rfl Try.func33 (by kernel_rfl) rfl #[.agg #[.slice A0_0 l0_0.length c0_0, .slice A0_1 l0_1.length c0_1]] rfl (by (try simp only [List.map_toArray, List.map_cons, List.map_nil]); first | done | rfl | (simp only [List.length_drop, List.length_take]; rfl)) ?_; (with_reducible refine (toBookB k (gb1 + 1) _ _ l0_0 _ _ l0_1 l0_0 l0_1 w _ ?side1 ?side2 ?side3 HR0_0.out HC0_0.out HR0_1.out HC0_1.out HTO.out).mono ?_); (case side1 => (repeat (first | with_reducible refine Zs.alloc ?_ _ | with_reducible refine Zs.drewN ?_ _ | with_reducible refine Zs.drew ?_ | with_reducible refine Zs.set ?_ _ _)); exact HZ.out); (case side2 => have ho_ := ORD.out; omega); (case side3 => repeat (first | (with_reducible first | exact HB.out | apply below_alloc | apply pw_below_drewN | apply below_drew1) | exact HB.out)); rintro e w11 ⟨AuP, cuP, AvP, cvP, loP, hiP, rfl, hlo_, hhi_, hbk_, hb⟩; refine ⟨_, rfl, ?_⟩; have n0_ := Aside0.mk (below_step (by repeat (first | (with_reducible first | exact HB.out | apply below_alloc | apply pw_below_drewN | apply below_drew1) | exact HB.out)) hb); have n1_ := Aside0.mk (blk_below (g := gb1) (o := .cells #[.slice A0_0 l0_0.length c0_0, .slice A0_1 l0_1.length c0_1] 40 (0, 0)) (by (with_reducible repeat (first | refine blk_drewN ?_ _ | refine blk_drew ?_ | refine blk_alloc ?_ _)); exact BKgb1.out) hb); have n2_ := Aside0.mk (hbk_); have n3_ := Aside0.mk ((hbk_.1 : Zs hiP w11)); (try clear HB); (try clear BKgb1); (try clear BOP); (try clear HZ); have HB := n0_; have BKgb1 := n1_; have BOP := n2_; have HZ := n3_; clear n0_ n1_ n2_ n3_; have q_ := Aside0.mk (And.intro ORD.out (show (gb1 + 1) ≤ loP ∧ loP ≤ hiP from ⟨hlo_, hhi_⟩)); clear ORD; have ORD := q_; clear q_ hlo_ hhi_ hbk_; (try clear hb); have hcz12 : w11.cell? ⟨gb1, 0, none⟩ = some (.slice A0_0 l0_0.length c0_0) := (blk_cell BKgb1.out 0).trans rfl; have hfz13 := blk_frozen BKgb1.out 0; have hcz14 : w11.cell? ⟨gb1, 1, none⟩ = some (.slice A0_1 l0_1.length c0_1) := (blk_cell BKgb1.out 1).trans rfl; have hfz15 := blk_frozen BKgb1.out 1) | ((with_reducible refine gate_callee (f := 32) rfl ?_); refine goesL_ (some 28) rfl rfl Try.func32 (by kernel_rfl) rfl #[.agg #[.slice AuP l0_0.length cuP, .slice AvP l0_1.length cvP], .int .i64 a1, .int .i64 a2] rfl (by (try simp only [List.map_toArray, List.map_cons, List.map_nil]); first | done | rfl | (simp only [List.length_drop, List.length_take]; rfl)) ?_; (with_reducible refine (withB 32 k hiP loP hiP _ _ _ l0_0 _ _ _ l0_1 a1 a2 r1 r2 r3 w _ ?side1 ?side2 (fun _ _ _ _ _ _ p1 p2 p3 p4 e1 e2 => by subst e1 e2; exact spec_WithCash.calls k _ _ _ _ _ _ a1 a2 r1 r2 r3 _ p1 p2 p3 p4 HSP.out) ?side3).mono ?_); (case side1 => (repeat (first | with_reducible refine Zs.alloc ?_ _ | with_reducible refine Zs.drewN ?_ _ | with_reducible refine Zs.drew ?_ | with_reducible refine Zs.set ?_ _ _)); exact HZ.out); (case side2 => have ho_ := ORD.out; omega); (case side3 => (repeat (first | with_reducible refine BkAt.alloc ?_ _ | with_reducible refine BkAt.drewN ?_ _ | with_reducible refine BkAt.drew ?_)); exact BOP.out); rintro e w16 ⟨AuW, cuW, AvW, cvW, loW, hiW, rfl, hlo_, hhi_, hbk_, hb⟩; refine ⟨_, rfl, ?_⟩; have n0_ := Aside0.mk (below_step (by repeat (first | (with_reducible first | exact HB.out | apply below_alloc | apply pw_below_drewN | apply below_drew1) | exact HB.out)) hb); have n1_ := Aside0.mk (blk_below (g := gb1) (o := .cells #[.slice A0_0 l0_0.length c0_0, .slice A0_1 l0_1.length c0_1] 40 (0, 0)) (by (with_reducible repeat (first | refine blk_drewN ?_ _ | refine blk_drew ?_ | refine blk_alloc ?_ _)); exact BKgb1.out) hb); have n2_ := Aside0.mk (BkAt.below (base := w.heap.size) (q := fun _ => True) (lo := loP) (hi := hiP) (u0 := .slice AuP l0_0.length cuP) (u1 := .slice AvP l0_1.length cvP) (c := l0_0) (d := l0_1) (by (repeat (first | with_reducible refine BkAt.alloc ?_ _ | with_reducible refine BkAt.drewN ?_ _ | with_reducible refine BkAt.drew ?_)); exact BOP.out) hb); have n3_ := Aside0.mk (hbk_); have n4_ := Aside0.mk ((hbk_.1 : Zs hiW w16)); (try clear HB); (try clear BKgb1); (try clear BOP); (try clear BOW); (try clear HZ); have HB := n0_; have BKgb1 := n1_; have BOP := n2_; have BOW := n3_; have HZ := n4_; clear n0_ n1_ n2_ n3_ n4_; have q_ := Aside0.mk (And.intro ORD.out (show hiP ≤ loW ∧ loW ≤ hiW from ⟨hlo_, hhi_⟩)); clear ORD; have ORD := q_; clear q_ hlo_ hhi_ hbk_; (try clear hb); have hcz17 : w16.cell? ⟨gb1, 0, none⟩ = some (.slice A0_0 l0_0.length c0_0) := (blk_cell BKgb1.out 0).trans rfl; have hfz18 := blk_frozen BKgb1.out 0; have hcz19 : w16.cell? ⟨gb1, 1, none⟩ = some (.slice A0_1 l0_1.length c0_1) := (blk_cell BKgb1.out 1).trans rfl; have hfz20 := blk_frozen BKgb1.out 1) | ((with_reducible refine gate_dst (N := 8) rfl ?_); refine box_event ?hg (N := 8) ?hd (cs := #[.slice none 0 0, .slice none 0 0]) (t := 25) ?hr ?_; (case hd => rfl); (case hg => rfl); (case hr => first | (go_simp; done) | (go_simp; rfl)); intro gb21 hg w21 hbox hb; have hge_ : hiW ≤ gb21 := (by rw [hg]; exact (show Zs hiW _ by (repeat (first | with_reducible refine Zs.alloc ?_ _ | with_reducible refine Zs.drewN ?_ _ | with_reducible refine Zs.drew ?_ | with_reducible refine Zs.set ?_ _ _)); exact HZ.out)); have hlt_ : Zs (gb21 + 1) w21 := blk_lt hbox; have n0_ := Aside0.mk (below_step (by repeat (first | (with_reducible first | exact HB.out | apply below_alloc | apply pw_below_drewN | apply below_drew1) | exact HB.out)) hb); have n1_ := Aside0.mk (blk_below (g := gb1) (o := .cells #[.slice A0_0 l0_0.length c0_0, .slice A0_1 l0_1.length c0_1] 40 (0, 0)) (by (with_reducible repeat (first | refine blk_drewN ?_ _ | refine blk_drew ?_ | refine blk_alloc ?_ _)); exact BKgb1.out) hb); have n2_ := Aside0.mk (BkAt.below (base := w.heap.size) (q := fun _ => True) (lo := loW) (hi := hiW) (u0 := .slice AuW r1.length cuW) (u1 := .slice AvW r2.length cvW) (c := r1) (d := r2) (by (repeat (first | with_reducible refine BkAt.alloc ?_ _ | with_reducible refine BkAt.drewN ?_ _ | with_reducible refine BkAt.drew ?_)); exact BOW.out) hb); have n3_ := Aside0.mk (hbox); have n4_ := Aside0.mk (hlt_); (try clear HB); (try clear BKgb1); (try clear BOW); (try clear BKgb21); (try clear HZ); have HB := n0_; have BKgb1 := n1_; have BOW := n2_; have BKgb21 := n3_; have HZ := n4_; clear n0_ n1_ n2_ n3_ n4_; have q_ := Aside0.mk (And.intro ORD.out (show hiW ≤ gb21 from hge_)); clear ORD; have ORD := q_; clear q_; clear hb hbox hg hge_ hlt_; have hnb23 : gb21 ≠ gb1 := (by have ho_ := ORD.out; omega); have hnb22 : gb1 ≠ gb21 := (by have ho_ := ORD.out; omega); have hcz24 : w21.cell? ⟨gb1, 0, none⟩ = some (.slice A0_0 l0_0.length c0_0) := (blk_cell BKgb1.out 0).trans rfl; have hfz25 := blk_frozen BKgb1.out 0; have hcz26 : w21.cell? ⟨gb1, 1, none⟩ = some (.slice A0_1 l0_1.length c0_1) := (blk_cell BKgb1.out 1).trans rfl; have hfz27 := blk_frozen BKgb1.out 1; have hcz28 : w21.cell? ⟨gb21, 0, none⟩ = some (.slice none 0 0) := (blk_cell BKgb21.out 0).trans rfl; have hfz29 := blk_frozen BKgb21.out 0; have hcz30 : w21.cell? ⟨gb21, 1, none⟩ = some (.slice none 0 0) := (blk_cell BKgb21.out 1).trans rfl; have hfz31 := blk_frozen BKgb21.out 1) | ((with_reducible refine gate_callee (f := 33) rfl ?_); refine goesL_ (some 32) rfl rfl Try.func33 (by kernel_rfl) rfl #[.agg #[.slice A0_0 l0_0.length c0_0, .slice A0_1 l0_1.length c0_1]] rfl (by (try simp only [List.map_toArray, List.map_cons, List.map_nil]); first | done | rfl | (simp only [List.length_drop, List.length_take]; rfl)) ?_; (with_reducible refine (toBookB k (gb21 + 1) _ _ l0_0 _ _ l0_1 l0_0 l0_1 w _ ?side1 ?side2 ?side3 HR0_0.out HC0_0.out HR0_1.out HC0_1.out HTO.out).mono ?_); (case side1 => (repeat (first | with_reducible refine Zs.alloc ?_ _ | with_reducible refine Zs.drewN ?_ _ | with_reducible refine Zs.drew ?_ | with_reducible refine Zs.set ?_ _ _)); exact HZ.out); (case side2 => have ho_ := ORD.out; omega); (case side3 => repeat (first | (with_reducible first | exact HB.out | apply below_alloc | apply pw_below_drewN | apply below_drew1 | refine below_set ?_ (by have ho_ := ORD.out; show w.heap.size ≤ gb21; omega)) | exact HB.out)); rintro e w32 ⟨AuX, cuX, AvX, cvX, loX, hiX, rfl, hlo_, hhi_, hbk_, hb⟩; refine ⟨_, rfl, ?_⟩; have n0_ := Aside0.mk (below_step (by repeat (first | (with_reducible first | exact HB.out | apply below_alloc | apply pw_below_drewN | apply below_drew1 | refine below_set ?_ (by have ho_ := ORD.out; show w.heap.size ≤ gb21; omega)) | exact HB.out)) hb); have n1_ := Aside0.mk (blk_below (g := gb1) (o := .cells #[.slice A0_0 l0_0.length c0_0, .slice A0_1 l0_1.length c0_1] 40 (0, 0)) (by (repeat (first | with_reducible refine blk_drewN ?_ _ | with_reducible refine blk_drew ?_ | with_reducible refine blk_alloc ?_ _ | refine blk_other ?_ (by have ho_ := ORD.out; show gb1 ≠ gb21; omega) _)); exact BKgb1.out) hb); have n2_ := Aside0.mk (blk_below (g := gb21) (o := .cells #[.slice AuW r1.length cuW, .slice AvW r2.length cvW] 25 (0, 0)) (by (with_reducible repeat (first | refine blk_drewN ?_ _ | refine blk_drew ?_ | refine blk_alloc ?_ _)); refine blk_put (cs := #[.slice AuW r1.length cuW, .slice none 0 0]) ?_ 1 _ rfl; (with_reducible repeat (first | refine blk_drewN ?_ _ | refine blk_drew ?_ | refine blk_alloc ?_ _)); refine blk_put (cs := #[.slice none 0 0, .slice none 0 0]) ?_ 0 _ rfl; (with_reducible repeat (first | refine blk_drewN ?_ _ | refine blk_drew ?_ | refine blk_alloc ?_ _)); exact BKgb21.out) hb); have n3_ := Aside0.mk (BkAt.below (base := w.heap.size) (q := fun _ => True) (lo := loW) (hi := hiW) (u0 := .slice AuW r1.length cuW) (u1 := .slice AvW r2.length cvW) (c := r1) (d := r2) (by (repeat (first | with_reducible refine BkAt.alloc ?_ _ | with_reducible refine BkAt.drewN ?_ _ | with_reducible refine BkAt.drew ?_ | refine BkAt.set ?_ (by have ho_ := ORD.out; show gb21 < loW ∨ hiW ≤ gb21; omega) _)); exact BOW.out) hb); have n4_ := Aside0.mk (hbk_); have n5_ := Aside0.mk ((hbk_.1 : Zs hiX w32)); (try clear HB); (try clear BKgb1); (try clear BKgb21); (try clear BOW); (try clear BOX); (try clear HZ); have HB := n0_; have BKgb1 := n1_; have BKgb21 := n2_; have BOW := n3_; have BOX := n4_; have HZ := n5_; clear n0_ n1_ n2_ n3_ n4_ n5_; have q_ := Aside0.mk (And.intro ORD.out (show (gb21 + 1) ≤ loX ∧ loX ≤ hiX from ⟨hlo_, hhi_⟩)); clear ORD; have ORD := q_; clear q_ hlo_ hhi_ hbk_; (try clear hb); have hcz33 : w32.cell? ⟨gb1, 0, none⟩ = some (.slice A0_0 l0_0.length c0_0) := (blk_cell BKgb1.out 0).trans rfl; have hfz34 := blk_frozen BKgb1.out 0; have hcz35 : w32.cell? ⟨gb1, 1, none⟩ = some (.slice A0_1 l0_1.length c0_1) := (blk_cell BKgb1.out 1).trans rfl; have hfz36 := blk_frozen BKgb1.out 1; have hcz37 : w32.cell? ⟨gb21, 0, none⟩ = some (.slice AuW r1.length cuW) := (blk_cell BKgb21.out 0).trans rfl; have hfz38 := blk_frozen BKgb21.out 0; have hcz39 : w32.cell? ⟨gb21, 1, none⟩ = some (.slice AvW r2.length cvW) := (blk_cell BKgb21.out 1).trans rfl; have hfz40 := blk_frozen BKgb21.out 1) | ((with_reducible refine gate_dst (N := 10) rfl ?_); refine box_event ?hg (N := 10) ?hd (cs := #[.slice none 0 0, .slice none 0 0]) (t := 25) ?hr ?_; (case hd => rfl); (case hg => rfl); (case hr => first | (go_simp; done) | (go_simp; rfl)); intro gb41 hg w41 hbox hb; have hge_ : hiX ≤ gb41 := (by rw [hg]; exact (show Zs hiX _ by (repeat (first | with_reducible refine Zs.alloc ?_ _ | with_reducible refine Zs.drewN ?_ _ | with_reducible refine Zs.drew ?_ | with_reducible refine Zs.set ?_ _ _)); exact HZ.out)); have hlt_ : Zs (gb41 + 1) w41 := blk_lt hbox; have n0_ := Aside0.mk (below_step (by repeat (first | (with_reducible first | exact HB.out | apply below_alloc | apply pw_below_drewN | apply below_drew1) | exact HB.out)) hb); have n1_ := Aside0.mk (blk_below (g := gb1) (o := .cells #[.slice A0_0 l0_0.length c0_0, .slice A0_1 l0_1.length c0_1] 40 (0, 0)) (by (with_reducible repeat (first | refine blk_drewN ?_ _ | refine blk_drew ?_ | refine blk_alloc ?_ _)); exact BKgb1.out) hb); have n2_ := Aside0.mk (blk_below (g := gb21) (o := .cells #[.slice AuW r1.length cuW, .slice AvW r2.length cvW] 25 (0, 0)) (by (with_reducible repeat (first | refine blk_drewN ?_ _ | refine blk_drew ?_ | refine blk_alloc ?_ _)); exact BKgb21.out) hb); have n3_ := Aside0.mk (BkAt.below (base := w.heap.size) (q := fun _ => True) (lo := loW) (hi := hiW) (u0 := .slice AuW r1.length cuW) (u1 := .slice AvW r2.length cvW) (c := r1) (d := r2) (by (repeat (first | with_reducible refine BkAt.alloc ?_ _ | with_reducible refine BkAt.drewN ?_ _ | with_reducible refine BkAt.drew ?_)); exact BOW.out) hb); have n4_ := Aside0.mk (BkAt.below (base := w.heap.size) (q := fun _ => True) (lo := loX) (hi := hiX) (u0 := .slice AuX l0_0.length cuX) (u1 := .slice AvX l0_1.length cvX) (c := l0_0) (d := l0_1) (by (repeat (first | with_reducible refine BkAt.alloc ?_ _ | with_reducible refine BkAt.drewN ?_ _ | with_reducible refine BkAt.drew ?_)); exact BOX.out) hb); have n5_ := Aside0.mk (hbox); have n6_ := Aside0.mk (hlt_); (try clear HB); (try clear BKgb1); (try clear BKgb21); (try clear BOW); (try clear BOX); (try clear BKgb41); (try clear HZ); have HB := n0_; have BKgb1 := n1_; have BKgb21 := n2_; have BOW := n3_; have BOX := n4_; have BKgb41 := n5_; have HZ := n6_; clear n0_ n1_ n2_ n3_ n4_ n5_ n6_; have q_ := Aside0.mk (And.intro ORD.out (show hiX ≤ gb41 from hge_)); clear ORD; have ORD := q_; clear q_; clear hb hbox hg hge_ hlt_; have hnb43 : gb41 ≠ gb1 := (by have ho_ := ORD.out; omega); have hnb42 : gb1 ≠ gb41 := (by have ho_ := ORD.out; omega); have hnb45 : gb41 ≠ gb21 := (by have ho_ := ORD.out; omega); have hnb44 : gb21 ≠ gb41 := (by have ho_ := ORD.out; omega); have hcz46 : w41.cell? ⟨gb1, 0, none⟩ = some (.slice A0_0 l0_0.length c0_0) := (blk_cell BKgb1.out 0).trans rfl; have hfz47 := blk_frozen BKgb1.out 0; have hcz48 : w41.cell? ⟨gb1, 1, none⟩ = some (.slice A0_1 l0_1.length c0_1) := (blk_cell BKgb1.out 1).trans rfl; have hfz49 := blk_frozen BKgb1.out 1; have hcz50 : w41.cell? ⟨gb21, 0, none⟩ = some (.slice AuW r1.length cuW) := (blk_cell BKgb21.out 0).trans rfl; have hfz51 := blk_frozen BKgb21.out 0; have hcz52 : w41.cell? ⟨gb21, 1, none⟩ = some (.slice AvW r2.length cvW) := (blk_cell BKgb21.out 1).trans rfl; have hfz53 := blk_frozen BKgb21.out 1; have hcz54 : w41.cell? ⟨gb41, 0, none⟩ = some (.slice none 0 0) := (blk_cell BKgb41.out 0).trans rfl; have hfz55 := blk_frozen BKgb41.out 0; have hcz56 : w41.cell? ⟨gb41, 1, none⟩ = some (.slice none 0 0) := (blk_cell BKgb41.out 1).trans rfl; have hfz57 := blk_frozen BKgb41.out 1) | ((with_reducible refine gate_callee (f := 34) rfl ?_); refine goesL_ (some 37) rfl rfl Try.func34 (by kernel_rfl) rfl #[.agg #[.slice AuX l0_0.length cuX, .slice AvX l0_1.length cvX], .int .i64 a1, .int .i64 a2] rfl (by (try simp only [List.map_toArray, List.map_cons, List.map_nil]); first | done | rfl | (simp only [List.length_drop, List.length_take]; rfl)) ?_; (with_reducible refine (withB 34 k (gb41 + 1) loX hiX _ _ _ l0_0 _ _ _ l0_1 a1 a2 r1 r2 r3 w _ ?side1 ?side2 (fun _ _ _ _ _ _ p1 p2 p3 p4 e1 e2 => by subst e1 e2; exact impl_WithCash.calls k _ _ _ _ _ _ a1 a2 r1 r2 r3 _ p1 p2 p3 p4 HIM.out) ?side3).mono ?_); (case side1 => (repeat (first | with_reducible refine Zs.alloc ?_ _ | with_reducible refine Zs.drewN ?_ _ | with_reducible refine Zs.drew ?_ | with_reducible refine Zs.set ?_ _ _)); exact HZ.out); (case side2 => have ho_ := ORD.out; omega); (case side3 => (repeat (first | with_reducible refine BkAt.alloc ?_ _ | with_reducible refine BkAt.drewN ?_ _ | with_reducible refine BkAt.drew ?_ | refine BkAt.set ?_ (by have ho_ := ORD.out; show gb41 < loX ∨ hiX ≤ gb41; omega) _)); exact BOX.out); rintro e w58 ⟨AuI, cuI, AvI, cvI, loI, hiI, rfl, hlo_, hhi_, hbk_, hb⟩; refine ⟨_, rfl, ?_⟩; have n0_ := Aside0.mk (below_step (by repeat (first | (with_reducible first | exact HB.out | apply below_alloc | apply pw_below_drewN | apply below_drew1 | refine below_set ?_ (by have ho_ := ORD.out; show w.heap.size ≤ gb41; omega)) | exact HB.out)) hb); have n1_ := Aside0.mk (blk_below (g := gb1) (o := .cells #[.slice A0_0 l0_0.length c0_0, .slice A0_1 l0_1.length c0_1] 40 (0, 0)) (by (repeat (first | with_reducible refine blk_drewN ?_ _ | with_reducible refine blk_drew ?_ | with_reducible refine blk_alloc ?_ _ | refine blk_other ?_ (by have ho_ := ORD.out; show gb1 ≠ gb41; omega) _)); exact BKgb1.out) hb); have n2_ := Aside0.mk (blk_below (g := gb21) (o := .cells #[.slice AuW r1.length cuW, .slice AvW r2.length cvW] 25 (0, 0)) (by (repeat (first | with_reducible refine blk_drewN ?_ _ | with_reducible refine blk_drew ?_ | with_reducible refine blk_alloc ?_ _ | refine blk_other ?_ (by have ho_ := ORD.out; show gb21 ≠ gb41; omega) _)); exact BKgb21.out) hb); have n3_ := Aside0.mk (blk_below (g := gb41) (o := .cells #[.slice AuX l0_0.length cuX, .slice AvX l0_1.length cvX] 25 (0, 0)) (by (with_reducible repeat (first | refine blk_drewN ?_ _ | refine blk_drew ?_ | refine blk_alloc ?_ _)); refine blk_put (cs := #[.slice AuX l0_0.length cuX, .slice none 0 0]) ?_ 1 _ rfl; (with_reducible repeat (first | refine blk_drewN ?_ _ | refine blk_drew ?_ | refine blk_alloc ?_ _)); refine blk_put (cs := #[.slice none 0 0, .slice none 0 0]) ?_ 0 _ rfl; (with_reducible repeat (first | refine blk_drewN ?_ _ | refine blk_drew ?_ | refine blk_alloc ?_ _)); exact BKgb41.out) hb); have n4_ := Aside0.mk (BkAt.below (base := w.heap.size) (q := fun _ => True) (lo := loW) (hi := hiW) (u0 := .slice AuW r1.length cuW) (u1 := .slice AvW r2.length cvW) (c := r1) (d := r2) (by (repeat (first | with_reducible refine BkAt.alloc ?_ _ | with_reducible refine BkAt.drewN ?_ _ | with_reducible refine BkAt.drew ?_ | refine BkAt.set ?_ (by have ho_ := ORD.out; show gb41 < loW ∨ hiW ≤ gb41; omega) _)); exact BOW.out) hb); have n5_ := Aside0.mk (BkAt.below (base := w.heap.size) (q := fun _ => True) (lo := loX) (hi := hiX) (u0 := .slice AuX l0_0.length cuX) (u1 := .slice AvX l0_1.length cvX) (c := l0_0) (d := l0_1) (by (repeat (first | with_reducible refine BkAt.alloc ?_ _ | with_reducible refine BkAt.drewN ?_ _ | with_reducible refine BkAt.drew ?_ | refine BkAt.set ?_ (by have ho_ := ORD.out; show gb41 < loX ∨ hiX ≤ gb41; omega) _)); exact BOX.out) hb); have n6_ := Aside0.mk (hbk_); have n7_ := Aside0.mk ((hbk_.1 : Zs hiI w58)); (try clear HB); (try clear BKgb1); (try clear BKgb21); (try clear BKgb41); (try clear BOW); (try clear BOX); (try clear BOI); (try clear HZ); have HB := n0_; have BKgb1 := n1_; have BKgb21 := n2_; have BKgb41 := n3_; have BOW := n4_; have BOX := n5_; have BOI := n6_; have HZ := n7_; clear n0_ n1_ n2_ n3_ n4_ n5_ n6_ n7_; have q_ := Aside0.mk (And.intro ORD.out (show (gb41 + 1) ≤ loI ∧ loI ≤ hiI from ⟨hlo_, hhi_⟩)); clear ORD; have ORD := q_; clear q_ hlo_ hhi_ hbk_; (try clear hb); have hcz59 : w58.cell? ⟨gb1, 0, none⟩ = some (.slice A0_0 l0_0.length c0_0) := (blk_cell BKgb1.out 0).trans rfl; have hfz60 := blk_frozen BKgb1.out 0; have hcz61 : w58.cell? ⟨gb1, 1, none⟩ = some (.slice A0_1 l0_1.length c0_1) := (blk_cell BKgb1.out 1).trans rfl; have hfz62 := blk_frozen BKgb1.out 1; have hcz63 : w58.cell? ⟨gb21, 0, none⟩ = some (.slice AuW r1.length cuW) := (blk_cell BKgb21.out 0).trans rfl; have hfz64 := blk_frozen BKgb21.out 0; have hcz65 : w58.cell? ⟨gb21, 1, none⟩ = some (.slice AvW r2.length cvW) := (blk_cell BKgb21.out 1).trans rfl; have hfz66 := blk_frozen BKgb21.out 1; have hcz67 : w58.cell? ⟨gb41, 0, none⟩ = some (.slice AuX l0_0.length cuX) := (blk_cell BKgb41.out 0).trans rfl; have hfz68 := blk_frozen BKgb41.out 0; have hcz69 : w58.cell? ⟨gb41, 1, none⟩ = some (.slice AvX l0_1.length cvX) := (blk_cell BKgb41.out 1).trans rfl; have hfz70 := blk_frozen BKgb41.out 1) | ((with_reducible refine gate_dst (N := 11) rfl ?_); refine box_event ?hg (N := 11) ?hd (cs := #[.slice none 0 0, .slice none 0 0]) (t := 25) ?hr ?_; (case hd => rfl); (case hg => rfl); (case hr => first | (go_simp; done) | (go_simp; rfl)); intro gb71 hg w71 hbox hb; have hge_ : hiI ≤ gb71 := (by rw [hg]; exact (show Zs hiI _ by (repeat (first | with_reducible refine Zs.alloc ?_ _ | with_reducible refine Zs.drewN ?_ _ | with_reducible refine Zs.drew ?_ | with_reducible refine Zs.set ?_ _ _)); exact HZ.out)); have hlt_ : Zs (gb71 + 1) w71 := blk_lt hbox; have n0_ := Aside0.mk (below_step (by repeat (first | (with_reducible first | exact HB.out | apply below_alloc | apply pw_below_drewN | apply below_drew1) | exact HB.out)) hb); have n1_ := Aside0.mk (blk_below (g := gb1) (o := .cells #[.slice A0_0 l0_0.length c0_0, .slice A0_1 l0_1.length c0_1] 40 (0, 0)) (by (with_reducible repeat (first | refine blk_drewN ?_ _ | refine blk_drew ?_ | refine blk_alloc ?_ _)); exact BKgb1.out) hb); have n2_ := Aside0.mk (blk_below (g := gb21) (o := .cells #[.slice AuW r1.length cuW, .slice AvW r2.length cvW] 25 (0, 0)) (by (with_reducible repeat (first | refine blk_drewN ?_ _ | refine blk_drew ?_ | refine blk_alloc ?_ _)); exact BKgb21.out) hb); have n3_ := Aside0.mk (blk_below (g := gb41) (o := .cells #[.slice AuX l0_0.length cuX, .slice AvX l0_1.length cvX] 25 (0, 0)) (by (with_reducible repeat (first | refine blk_drewN ?_ _ | refine blk_drew ?_ | refine blk_alloc ?_ _)); exact BKgb41.out) hb); have n4_ := Aside0.mk (BkAt.below (base := w.heap.size) (q := fun _ => True) (lo := loW) (hi := hiW) (u0 := .slice AuW r1.length cuW) (u1 := .slice AvW r2.length cvW) (c := r1) (d := r2) (by (repeat (first | with_reducible refine BkAt.alloc ?_ _ | with_reducible refine BkAt.drewN ?_ _ | with_reducible refine BkAt.drew ?_)); exact BOW.out) hb); have n5_ := Aside0.mk (BkAt.below (base := w.heap.size) (q := fun _ => True) (lo := loX) (hi := hiX) (u0 := .slice AuX l0_0.length cuX) (u1 := .slice AvX l0_1.length cvX) (c := l0_0) (d := l0_1) (by (repeat (first | with_reducible refine BkAt.alloc ?_ _ | with_reducible refine BkAt.drewN ?_ _ | with_reducible refine BkAt.drew ?_)); exact BOX.out) hb); have n6_ := Aside0.mk (BkAt.below (base := w.heap.size) (q := fun _ => True) (lo := loI) (hi := hiI) (u0 := .slice AuI r1.length cuI) (u1 := .slice AvI r2.length cvI) (c := r1) (d := r2) (by (repeat (first | with_reducible refine BkAt.alloc ?_ _ | with_reducible refine BkAt.drewN ?_ _ | with_reducible refine BkAt.drew ?_)); exact BOI.out) hb); have n7_ := Aside0.mk (hbox); have n8_ := Aside0.mk (hlt_); (try clear HB); (try clear BKgb1); (try clear BKgb21); (try clear BKgb41); (try clear BOW); (try clear BOX); (try clear BOI); (try clear BKgb71); (try clear HZ); have HB := n0_; have BKgb1 := n1_; have BKgb21 := n2_; have BKgb41 := n3_; have BOW := n4_; have BOX := n5_; have BOI := n6_; have BKgb71 := n7_; have HZ := n8_; clear n0_ n1_ n2_ n3_ n4_ n5_ n6_ n7_ n8_; have q_ := Aside0.mk (And.intro ORD.out (show hiI ≤ gb71 from hge_)); clear ORD; have ORD := q_; clear q_; clear hb hbox hg hge_ hlt_; have hnb73 : gb71 ≠ gb1 := (by have ho_ := ORD.out; omega); have hnb72 : gb1 ≠ gb71 := (by have ho_ := ORD.out; omega); have hnb75 : gb71 ≠ gb21 := (by have ho_ := ORD.out; omega); have hnb74 : gb21 ≠ gb71 := (by have ho_ := ORD.out; omega); have hnb77 : gb71 ≠ gb41 := (by have ho_ := ORD.out; omega); have hnb76 : gb41 ≠ gb71 := (by have ho_ := ORD.out; omega); have hcz78 : w71.cell? ⟨gb1, 0, none⟩ = some (.slice A0_0 l0_0.length c0_0) := (blk_cell BKgb1.out 0).trans rfl; have hfz79 := blk_frozen BKgb1.out 0; have hcz80 : w71.cell? ⟨gb1, 1, none⟩ = some (.slice A0_1 l0_1.length c0_1) := (blk_cell BKgb1.out 1).trans rfl; have hfz81 := blk_frozen BKgb1.out 1; have hcz82 : w71.cell? ⟨gb21, 0, none⟩ = some (.slice AuW r1.length cuW) := (blk_cell BKgb21.out 0).trans rfl; have hfz83 := blk_frozen BKgb21.out 0; have hcz84 : w71.cell? ⟨gb21, 1, none⟩ = some (.slice AvW r2.length cvW) := (blk_cell BKgb21.out 1).trans rfl; have hfz85 := blk_frozen BKgb21.out 1; have hcz86 : w71.cell? ⟨gb41, 0, none⟩ = some (.slice AuX l0_0.length cuX) := (blk_cell BKgb41.out 0).trans rfl; have hfz87 := blk_frozen BKgb41.out 0; have hcz88 : w71.cell? ⟨gb41, 1, none⟩ = some (.slice AvX l0_1.length cvX) := (blk_cell BKgb41.out 1).trans rfl; have hfz89 := blk_frozen BKgb41.out 1; have hcz90 : w71.cell? ⟨gb71, 0, none⟩ = some (.slice none 0 0) := (blk_cell BKgb71.out 0).trans rfl; have hfz91 := blk_frozen BKgb71.out 0; have hcz92 : w71.cell? ⟨gb71, 1, none⟩ = some (.slice none 0 0) := (blk_cell BKgb71.out 1).trans rfl; have hfz93 := blk_frozen BKgb71.out 1) | ((with_reducible refine gate_callee (f := 35) rfl ?_); refine goesL_ (some 42) rfl rfl Try.func35 (by kernel_rfl) rfl #[.agg #[.slice AuI r1.length cuI, .slice AvI r2.length cvI], .agg #[.slice AuW r1.length cuW, .slice AvW r2.length cvW]] rfl (by (try simp only [List.map_toArray, List.map_cons, List.map_nil]); first | done | rfl | (simp only [List.length_drop, List.length_take]; rfl)) ?_; (with_reducible refine (eqBookB k loI hiI (fun _ => True) _ _ _ r1 _ _ _ r2 loW hiW (fun _ => True) _ _ _ r1 _ _ _ r2 true w.heap.size w.heap.size _ ?side1 ?side2 HE1.out).mono ?_); (case side1 => (repeat (first | with_reducible refine BkAt.alloc ?_ _ | with_reducible refine BkAt.drewN ?_ _ | with_reducible refine BkAt.drew ?_ | refine BkAt.set ?_ (by have ho_ := ORD.out; show gb71 < loI ∨ hiI ≤ gb71; omega) _)); exact BOI.out); (case side2 => (repeat (first | with_reducible refine BkAt.alloc ?_ _ | with_reducible refine BkAt.drewN ?_ _ | with_reducible refine BkAt.drew ?_ | refine BkAt.set ?_ (by have ho_ := ORD.out; show gb71 < loW ∨ hiW ≤ gb71; omega) _)); exact BOW.out); rintro e w94 ⟨rfl, hb⟩; refine ⟨_, rfl, ?_⟩; have n0_ := Aside0.mk (below_step (by repeat (first | (with_reducible first | exact HB.out | apply below_alloc | apply pw_below_drewN | apply below_drew1 | refine below_set ?_ (by have ho_ := ORD.out; show w.heap.size ≤ gb71; omega)) | exact HB.out)) hb); have n1_ := Aside0.mk ((Zs.below (by (repeat (first | with_reducible refine Zs.alloc ?_ _ | with_reducible refine Zs.drewN ?_ _ | with_reducible refine Zs.drew ?_ | with_reducible refine Zs.set ?_ _ _)); exact HZ.out) hb : Zs (gb71 + 1) w94)); have n2_ := Aside0.mk (blk_below (g := gb1) (o := .cells #[.slice A0_0 l0_0.length c0_0, .slice A0_1 l0_1.length c0_1] 40 (0, 0)) (by (repeat (first | with_reducible refine blk_drewN ?_ _ | with_reducible refine blk_drew ?_ | with_reducible refine blk_alloc ?_ _ | refine blk_other ?_ (by have ho_ := ORD.out; show gb1 ≠ gb71; omega) _)); exact BKgb1.out) hb); have n3_ := Aside0.mk (blk_below (g := gb21) (o := .cells #[.slice AuW r1.length cuW, .slice AvW r2.length cvW] 25 (0, 0)) (by (repeat (first | with_reducible refine blk_drewN ?_ _ | with_reducible refine blk_drew ?_ | with_reducible refine blk_alloc ?_ _ | refine blk_other ?_ (by have ho_ := ORD.out; show gb21 ≠ gb71; omega) _)); exact BKgb21.out) hb); have n4_ := Aside0.mk (blk_below (g := gb41) (o := .cells #[.slice AuX l0_0.length cuX, .slice AvX l0_1.length cvX] 25 (0, 0)) (by (repeat (first | with_reducible refine blk_drewN ?_ _ | with_reducible refine blk_drew ?_ | with_reducible refine blk_alloc ?_ _ | refine blk_other ?_ (by have ho_ := ORD.out; show gb41 ≠ gb71; omega) _)); exact BKgb41.out) hb); have n5_ := Aside0.mk (blk_below (g := gb71) (o := .cells #[.slice AuI r1.length cuI, .slice AvI r2.length cvI] 25 (0, 0)) (by (with_reducible repeat (first | refine blk_drewN ?_ _ | refine blk_drew ?_ | refine blk_alloc ?_ _)); refine blk_put (cs := #[.slice AuI r1.length cuI, .slice none 0 0]) ?_ 1 _ rfl; (with_reducible repeat (first | refine blk_drewN ?_ _ | refine blk_drew ?_ | refine blk_alloc ?_ _)); refine blk_put (cs := #[.slice none 0 0, .slice none 0 0]) ?_ 0 _ rfl; (with_reducible repeat (first | refine blk_drewN ?_ _ | refine blk_drew ?_ | refine blk_alloc ?_ _)); exact BKgb71.out) hb); have n6_ := Aside0.mk (BkAt.below (base := w.heap.size) (q := fun _ => True) (lo := loW) (hi := hiW) (u0 := .slice AuW r1.length cuW) (u1 := .slice AvW r2.length cvW) (c := r1) (d := r2) (by (repeat (first | with_reducible refine BkAt.alloc ?_ _ | with_reducible refine BkAt.drewN ?_ _ | with_reducible refine BkAt.drew ?_ | refine BkAt.set ?_ (by have ho_ := ORD.out; show gb71 < loW ∨ hiW ≤ gb71; omega) _)); exact BOW.out) hb); have n7_ := Aside0.mk (BkAt.below (base := w.heap.size) (q := fun _ => True) (lo := loX) (hi := hiX) (u0 := .slice AuX l0_0.length cuX) (u1 := .slice AvX l0_1.length cvX) (c := l0_0) (d := l0_1) (by (repeat (first | with_reducible refine BkAt.alloc ?_ _ | with_reducible refine BkAt.drewN ?_ _ | with_reducible refine BkAt.drew ?_ | refine BkAt.set ?_ (by have ho_ := ORD.out; show gb71 < loX ∨ hiX ≤ gb71; omega) _)); exact BOX.out) hb); have n8_ := Aside0.mk (BkAt.below (base := w.heap.size) (q := fun _ => True) (lo := loI) (hi := hiI) (u0 := .slice AuI r1.length cuI) (u1 := .slice AvI r2.length cvI) (c := r1) (d := r2) (by (repeat (first | with_reducible refine BkAt.alloc ?_ _ | with_reducible refine BkAt.drewN ?_ _ | with_reducible refine BkAt.drew ?_ | refine BkAt.set ?_ (by have ho_ := ORD.out; show gb71 < loI ∨ hiI ≤ gb71; omega) _)); exact BOI.out) hb); (try clear HB); (try clear HZ); (try clear BKgb1); (try clear BKgb21); (try clear BKgb41); (try clear BKgb71); (try clear BOW); (try clear BOX); (try clear BOI); have HB := n0_; have HZ := n1_; have BKgb1 := n2_; have BKgb21 := n3_; have BKgb41 := n4_; have BKgb71 := n5_; have BOW := n6_; have BOX := n7_; have BOI := n8_; clear n0_ n1_ n2_ n3_ n4_ n5_ n6_ n7_ n8_; (try clear hb); have hcz95 : w94.cell? ⟨gb1, 0, none⟩ = some (.slice A0_0 l0_0.length c0_0) := (blk_cell BKgb1.out 0).trans rfl; have hfz96 := blk_frozen BKgb1.out 0; have hcz97 : w94.cell? ⟨gb1, 1, none⟩ = some (.slice A0_1 l0_1.length c0_1) := (blk_cell BKgb1.out 1).trans rfl; have hfz98 := blk_frozen BKgb1.out 1; have hcz99 : w94.cell? ⟨gb21, 0, none⟩ = some (.slice AuW r1.length cuW) := (blk_cell BKgb21.out 0).trans rfl; have hfz100 := blk_frozen BKgb21.out 0; have hcz101 : w94.cell? ⟨gb21, 1, none⟩ = some (.slice AvW r2.length cvW) := (blk_cell BKgb21.out 1).trans rfl; have hfz102 := blk_frozen BKgb21.out 1; have hcz103 : w94.cell? ⟨gb41, 0, none⟩ = some (.slice AuX l0_0.length cuX) := (blk_cell BKgb41.out 0).trans rfl; have hfz104 := blk_frozen BKgb41.out 0; have hcz105 : w94.cell? ⟨gb41, 1, none⟩ = some (.slice AvX l0_1.length cvX) := (blk_cell BKgb41.out 1).trans rfl; have hfz106 := blk_frozen BKgb41.out 1; have hcz107 : w94.cell? ⟨gb71, 0, none⟩ = some (.slice AuI r1.length cuI) := (blk_cell BKgb71.out 0).trans rfl; have hfz108 := blk_frozen BKgb71.out 0; have hcz109 : w94.cell? ⟨gb71, 1, none⟩ = some (.slice AvI r2.length cvI) := (blk_cell BKgb71.out 1).trans rfl; have hfz110 := blk_frozen BKgb71.out 1))
  have n0_ := Aside0.mk (below_drew1 HB.out)
  have n1_ := Aside0.mk (Zs.drew HZ.out)
  have n2_ := Aside0.mk (blk_drew BKgb1.out)
  have n3_ := Aside0.mk (blk_drew BKgb21.out)
  have n4_ := Aside0.mk (blk_drew BKgb41.out)
  have n5_ := Aside0.mk (blk_drew BKgb71.out)
  have n6_ := Aside0.mk (BkAt.drew BOW.out)
  have n7_ := Aside0.mk (BkAt.drew BOX.out)
  have n8_ := Aside0.mk (BkAt.drew BOI.out)
  (try clear HB)
  (try clear HZ)
  (try clear BKgb1)
  (try clear BKgb21)
  (try clear BKgb41)
  (try clear BKgb71)
  (try clear BOW)
  (try clear BOX)
  (try clear BOI)
  have HB := n0_
  have HZ := n1_
  have BKgb1 := n2_
  have BKgb21 := n3_
  have BKgb41 := n4_
  have BKgb71 := n5_
  have BOW := n6_
  have BOX := n7_
  have BOI := n8_
  clear n0_ n1_ n2_ n3_ n4_ n5_ n6_ n7_ n8_
  refine start_ (n := 5) (S := fun w' => w'.cell? ⟨gb41, 0, none⟩ = some (.slice AuX l0_0.length cuX) ∧ w'.cell? ⟨gb41, 1, none⟩ = some (.slice AvX l0_1.length cvX) ∧ w'.cell? ⟨gb1, 0, none⟩ = some (.slice A0_0 l0_0.length c0_0) ∧ w'.cell? ⟨gb1, 1, none⟩ = some (.slice A0_1 l0_1.length c0_1)) (ds := []) #[false, false, false, false, false] (by kernel_rfl) rfl rfl ⟨(blk_cell BKgb41.out 0).trans rfl, (blk_cell BKgb41.out 1).trans rfl, (blk_cell BKgb1.out 0).trans rfl, (blk_cell BKgb1.out 1).trans rfl⟩ (fun hHeld => ?_)
  generalize w94.drew = w111 at HB HZ BKgb1 BKgb21 BKgb41 BKgb71 BOW BOX BOI hHeld ⊢
  refine take_ (i := 0) (N := some 49) (v := ?_) (a' := ?_) #[true, false, false, false, false] rfl rfl (by kernel_rfl) (fun _ _ _ h => h) (Or.inl ⟨by rfl, ?_⟩) hHeld ?_ ?_
  rotate_left
  · rintro w' ⟨s0, s1, s2, s3⟩
    go_simp
    with_reducible rfl
  rotate_left
  · simp only [Act.put, List.setIfInBounds_toArray, List.set_cons_zero, List.set_cons_succ, i64_w, i32_w]
    rfl
  refine take_ (i := 1) (N := some 50) (v := ?_) (a' := ?_) #[true, true, false, false, false] rfl rfl (by kernel_rfl) (fun _ _ _ h => h) (Or.inl ⟨by rfl, ?_⟩) hHeld ?_ ?_
  rotate_left
  · rintro w' ⟨s0, s1, s2, s3⟩
    go_simp
    with_reducible rfl
  rotate_left
  · simp only [Act.put, List.setIfInBounds_toArray, List.set_cons_zero, List.set_cons_succ, i64_w, i32_w]
    rfl
  refine one_ (i := 2) (N := some 51) #[true, true, true, false, false] rfl rfl (by kernel_rfl) (by decide) (fun K hK => ?_)
  refine goes_ Try.func33 (by kernel_rfl) rfl #[.agg #[.slice A0_0 l0_0.length c0_0, .slice A0_1 l0_1.length c0_1]] (by rfl) rfl rfl (by (try simp only [List.map_toArray, List.map_cons, List.map_nil]); first | done | rfl | (simp only [List.length_drop, List.length_take]; rfl)) ?_
  (with_reducible refine (toBookB k (gb71 + 1) _ _ l0_0 _ _ l0_1 l0_0 l0_1 w _ ?side1 ?side2 ?side3 HR0_0.out HC0_0.out HR0_1.out HC0_1.out HTO.out).mono ?_)
  (case side1 => (repeat (first | with_reducible refine Zs.alloc ?_ _ | with_reducible refine Zs.drewN ?_ _ | with_reducible refine Zs.drew ?_ | with_reducible refine Zs.set ?_ _ _)); exact HZ.out)
  (case side2 => have ho_ := ORD.out; omega)
  (case side3 => repeat (first | (with_reducible first | exact HB.out | apply below_alloc | apply pw_below_drewN | apply below_drew1) | exact HB.out))
  rintro e w112 ⟨AuY, cuY, AvY, cvY, loY, hiY, rfl, hlo_, hhi_, hbk_, hb⟩
  refine ⟨_, rfl, ?_⟩
  have n0_ := Aside0.mk (below_step (by repeat (first | (with_reducible first | exact HB.out | apply below_alloc | apply pw_below_drewN | apply below_drew1) | exact HB.out)) hb)
  have n1_ := Aside0.mk (blk_below (g := gb1) (o := .cells #[.slice A0_0 l0_0.length c0_0, .slice A0_1 l0_1.length c0_1] 40 (0, 0)) (by (with_reducible repeat (first | refine blk_drewN ?_ _ | refine blk_drew ?_ | refine blk_alloc ?_ _)); exact BKgb1.out) hb)
  have n2_ := Aside0.mk (blk_below (g := gb21) (o := .cells #[.slice AuW r1.length cuW, .slice AvW r2.length cvW] 25 (0, 0)) (by (with_reducible repeat (first | refine blk_drewN ?_ _ | refine blk_drew ?_ | refine blk_alloc ?_ _)); exact BKgb21.out) hb)
  have n3_ := Aside0.mk (blk_below (g := gb41) (o := .cells #[.slice AuX l0_0.length cuX, .slice AvX l0_1.length cvX] 25 (0, 0)) (by (with_reducible repeat (first | refine blk_drewN ?_ _ | refine blk_drew ?_ | refine blk_alloc ?_ _)); exact BKgb41.out) hb)
  have n4_ := Aside0.mk (blk_below (g := gb71) (o := .cells #[.slice AuI r1.length cuI, .slice AvI r2.length cvI] 25 (0, 0)) (by (with_reducible repeat (first | refine blk_drewN ?_ _ | refine blk_drew ?_ | refine blk_alloc ?_ _)); exact BKgb71.out) hb)
  have n5_ := Aside0.mk (BkAt.below (base := w.heap.size) (q := fun _ => True) (lo := loW) (hi := hiW) (u0 := .slice AuW r1.length cuW) (u1 := .slice AvW r2.length cvW) (c := r1) (d := r2) (by (repeat (first | with_reducible refine BkAt.alloc ?_ _ | with_reducible refine BkAt.drewN ?_ _ | with_reducible refine BkAt.drew ?_)); exact BOW.out) hb)
  have n6_ := Aside0.mk (BkAt.below (base := w.heap.size) (q := fun _ => True) (lo := loX) (hi := hiX) (u0 := .slice AuX l0_0.length cuX) (u1 := .slice AvX l0_1.length cvX) (c := l0_0) (d := l0_1) (by (repeat (first | with_reducible refine BkAt.alloc ?_ _ | with_reducible refine BkAt.drewN ?_ _ | with_reducible refine BkAt.drew ?_)); exact BOX.out) hb)
  have n7_ := Aside0.mk (BkAt.below (base := w.heap.size) (q := fun _ => True) (lo := loI) (hi := hiI) (u0 := .slice AuI r1.length cuI) (u1 := .slice AvI r2.length cvI) (c := r1) (d := r2) (by (repeat (first | with_reducible refine BkAt.alloc ?_ _ | with_reducible refine BkAt.drewN ?_ _ | with_reducible refine BkAt.drew ?_)); exact BOI.out) hb)
  have n8_ := Aside0.mk (hbk_)
  have n9_ := Aside0.mk ((hbk_.1 : Zs hiY w112))
  (try clear HB)
  (try clear BKgb1)
  (try clear BKgb21)
  (try clear BKgb41)
  (try clear BKgb71)
  (try clear BOW)
  (try clear BOX)
  (try clear BOI)
  (try clear BOY)
  (try clear HZ)
  have HB := n0_
  have BKgb1 := n1_
  have BKgb21 := n2_
  have BKgb41 := n3_
  have BKgb71 := n4_
  have BOW := n5_
  have BOX := n6_
  have BOI := n7_
  have BOY := n8_
  have HZ := n9_
  clear n0_ n1_ n2_ n3_ n4_ n5_ n6_ n7_ n8_ n9_
  have q_ := Aside0.mk (And.intro ORD.out (show (gb71 + 1) ≤ loY ∧ loY ≤ hiY from ⟨hlo_, hhi_⟩))
  clear ORD
  have ORD := q_
  clear q_ hlo_ hhi_ hbk_
  (try clear hb)
  have hcz113 : w112.cell? ⟨gb1, 0, none⟩ = some (.slice A0_0 l0_0.length c0_0) := (blk_cell BKgb1.out 0).trans rfl
  have hfz114 := blk_frozen BKgb1.out 0
  have hcz115 : w112.cell? ⟨gb1, 1, none⟩ = some (.slice A0_1 l0_1.length c0_1) := (blk_cell BKgb1.out 1).trans rfl
  have hfz116 := blk_frozen BKgb1.out 1
  have hcz117 : w112.cell? ⟨gb21, 0, none⟩ = some (.slice AuW r1.length cuW) := (blk_cell BKgb21.out 0).trans rfl
  have hfz118 := blk_frozen BKgb21.out 0
  have hcz119 : w112.cell? ⟨gb21, 1, none⟩ = some (.slice AvW r2.length cvW) := (blk_cell BKgb21.out 1).trans rfl
  have hfz120 := blk_frozen BKgb21.out 1
  have hcz121 : w112.cell? ⟨gb41, 0, none⟩ = some (.slice AuX l0_0.length cuX) := (blk_cell BKgb41.out 0).trans rfl
  have hfz122 := blk_frozen BKgb41.out 0
  have hcz123 : w112.cell? ⟨gb41, 1, none⟩ = some (.slice AvX l0_1.length cvX) := (blk_cell BKgb41.out 1).trans rfl
  have hfz124 := blk_frozen BKgb41.out 1
  have hcz125 : w112.cell? ⟨gb71, 0, none⟩ = some (.slice AuI r1.length cuI) := (blk_cell BKgb71.out 0).trans rfl
  have hfz126 := blk_frozen BKgb71.out 0
  have hcz127 : w112.cell? ⟨gb71, 1, none⟩ = some (.slice AvI r2.length cvI) := (blk_cell BKgb71.out 1).trans rfl
  have hfz128 := blk_frozen BKgb71.out 1
  refine hK.out _ _ ⟨(blk_cell BKgb41.out 0).trans rfl, (blk_cell BKgb41.out 1).trans rfl, (blk_cell BKgb1.out 0).trans rfl, (blk_cell BKgb1.out 1).trans rfl⟩ (fun hHeld => ?_)
  refine norm_ (a' := ?_) ?_ ?_
  rotate_left
  · show Act.put _ (some 51) _ = _
    simp only [Act.put, List.setIfInBounds_toArray, List.set_cons_zero, List.set_cons_succ, i64_w, i32_w]
    rfl
  refine one_ (i := 3) (N := some 52) #[true, true, true, true, false] rfl rfl (by kernel_rfl) (by decide) (fun K hK => ?_)
  refine goes_ Try.func35 (by kernel_rfl) rfl #[.agg #[.slice AuX l0_0.length cuX, .slice AvX l0_1.length cvX], .agg #[.slice AuY l0_0.length cuY, .slice AvY l0_1.length cvY]] (by rfl) rfl rfl (by (try simp only [List.map_toArray, List.map_cons, List.map_nil]); first | done | rfl | (simp only [List.length_drop, List.length_take]; rfl)) ?_
  (with_reducible refine (eqBookB k loX hiX (fun _ => True) _ _ _ l0_0 _ _ _ l0_1 loY hiY (fun _ => True) _ _ _ l0_0 _ _ _ l0_1 true w.heap.size w.heap.size _ ?side1 ?side2 HE2.out).mono ?_)
  (case side1 => (repeat (first | with_reducible refine BkAt.alloc ?_ _ | with_reducible refine BkAt.drewN ?_ _ | with_reducible refine BkAt.drew ?_)); exact BOX.out)
  (case side2 => (repeat (first | with_reducible refine BkAt.alloc ?_ _ | with_reducible refine BkAt.drewN ?_ _ | with_reducible refine BkAt.drew ?_)); exact BOY.out)
  rintro e w129 ⟨rfl, hb⟩
  refine ⟨_, rfl, ?_⟩
  have n0_ := Aside0.mk (below_step (by repeat (first | (with_reducible first | exact HB.out | apply below_alloc | apply pw_below_drewN | apply below_drew1) | exact HB.out)) hb)
  have n1_ := Aside0.mk ((Zs.below (by (repeat (first | with_reducible refine Zs.alloc ?_ _ | with_reducible refine Zs.drewN ?_ _ | with_reducible refine Zs.drew ?_ | with_reducible refine Zs.set ?_ _ _)); exact HZ.out) hb : Zs hiY w129))
  have n2_ := Aside0.mk (blk_below (g := gb1) (o := .cells #[.slice A0_0 l0_0.length c0_0, .slice A0_1 l0_1.length c0_1] 40 (0, 0)) (by (with_reducible repeat (first | refine blk_drewN ?_ _ | refine blk_drew ?_ | refine blk_alloc ?_ _)); exact BKgb1.out) hb)
  have n3_ := Aside0.mk (blk_below (g := gb21) (o := .cells #[.slice AuW r1.length cuW, .slice AvW r2.length cvW] 25 (0, 0)) (by (with_reducible repeat (first | refine blk_drewN ?_ _ | refine blk_drew ?_ | refine blk_alloc ?_ _)); exact BKgb21.out) hb)
  have n4_ := Aside0.mk (blk_below (g := gb41) (o := .cells #[.slice AuX l0_0.length cuX, .slice AvX l0_1.length cvX] 25 (0, 0)) (by (with_reducible repeat (first | refine blk_drewN ?_ _ | refine blk_drew ?_ | refine blk_alloc ?_ _)); exact BKgb41.out) hb)
  have n5_ := Aside0.mk (blk_below (g := gb71) (o := .cells #[.slice AuI r1.length cuI, .slice AvI r2.length cvI] 25 (0, 0)) (by (with_reducible repeat (first | refine blk_drewN ?_ _ | refine blk_drew ?_ | refine blk_alloc ?_ _)); exact BKgb71.out) hb)
  have n6_ := Aside0.mk (BkAt.below (base := w.heap.size) (q := fun _ => True) (lo := loW) (hi := hiW) (u0 := .slice AuW r1.length cuW) (u1 := .slice AvW r2.length cvW) (c := r1) (d := r2) (by (repeat (first | with_reducible refine BkAt.alloc ?_ _ | with_reducible refine BkAt.drewN ?_ _ | with_reducible refine BkAt.drew ?_)); exact BOW.out) hb)
  have n7_ := Aside0.mk (BkAt.below (base := w.heap.size) (q := fun _ => True) (lo := loX) (hi := hiX) (u0 := .slice AuX l0_0.length cuX) (u1 := .slice AvX l0_1.length cvX) (c := l0_0) (d := l0_1) (by (repeat (first | with_reducible refine BkAt.alloc ?_ _ | with_reducible refine BkAt.drewN ?_ _ | with_reducible refine BkAt.drew ?_)); exact BOX.out) hb)
  have n8_ := Aside0.mk (BkAt.below (base := w.heap.size) (q := fun _ => True) (lo := loI) (hi := hiI) (u0 := .slice AuI r1.length cuI) (u1 := .slice AvI r2.length cvI) (c := r1) (d := r2) (by (repeat (first | with_reducible refine BkAt.alloc ?_ _ | with_reducible refine BkAt.drewN ?_ _ | with_reducible refine BkAt.drew ?_)); exact BOI.out) hb)
  have n9_ := Aside0.mk (BkAt.below (base := w.heap.size) (q := fun _ => True) (lo := loY) (hi := hiY) (u0 := .slice AuY l0_0.length cuY) (u1 := .slice AvY l0_1.length cvY) (c := l0_0) (d := l0_1) (by (repeat (first | with_reducible refine BkAt.alloc ?_ _ | with_reducible refine BkAt.drewN ?_ _ | with_reducible refine BkAt.drew ?_)); exact BOY.out) hb)
  (try clear HB)
  (try clear HZ)
  (try clear BKgb1)
  (try clear BKgb21)
  (try clear BKgb41)
  (try clear BKgb71)
  (try clear BOW)
  (try clear BOX)
  (try clear BOI)
  (try clear BOY)
  have HB := n0_
  have HZ := n1_
  have BKgb1 := n2_
  have BKgb21 := n3_
  have BKgb41 := n4_
  have BKgb71 := n5_
  have BOW := n6_
  have BOX := n7_
  have BOI := n8_
  have BOY := n9_
  clear n0_ n1_ n2_ n3_ n4_ n5_ n6_ n7_ n8_ n9_
  (try clear hb)
  have hcz130 : w129.cell? ⟨gb1, 0, none⟩ = some (.slice A0_0 l0_0.length c0_0) := (blk_cell BKgb1.out 0).trans rfl
  have hfz131 := blk_frozen BKgb1.out 0
  have hcz132 : w129.cell? ⟨gb1, 1, none⟩ = some (.slice A0_1 l0_1.length c0_1) := (blk_cell BKgb1.out 1).trans rfl
  have hfz133 := blk_frozen BKgb1.out 1
  have hcz134 : w129.cell? ⟨gb21, 0, none⟩ = some (.slice AuW r1.length cuW) := (blk_cell BKgb21.out 0).trans rfl
  have hfz135 := blk_frozen BKgb21.out 0
  have hcz136 : w129.cell? ⟨gb21, 1, none⟩ = some (.slice AvW r2.length cvW) := (blk_cell BKgb21.out 1).trans rfl
  have hfz137 := blk_frozen BKgb21.out 1
  have hcz138 : w129.cell? ⟨gb41, 0, none⟩ = some (.slice AuX l0_0.length cuX) := (blk_cell BKgb41.out 0).trans rfl
  have hfz139 := blk_frozen BKgb41.out 0
  have hcz140 : w129.cell? ⟨gb41, 1, none⟩ = some (.slice AvX l0_1.length cvX) := (blk_cell BKgb41.out 1).trans rfl
  have hfz141 := blk_frozen BKgb41.out 1
  have hcz142 : w129.cell? ⟨gb71, 0, none⟩ = some (.slice AuI r1.length cuI) := (blk_cell BKgb71.out 0).trans rfl
  have hfz143 := blk_frozen BKgb71.out 0
  have hcz144 : w129.cell? ⟨gb71, 1, none⟩ = some (.slice AvI r2.length cvI) := (blk_cell BKgb71.out 1).trans rfl
  have hfz145 := blk_frozen BKgb71.out 1
  refine hK.out _ _ ⟨(blk_cell BKgb41.out 0).trans rfl, (blk_cell BKgb41.out 1).trans rfl, (blk_cell BKgb1.out 0).trans rfl, (blk_cell BKgb1.out 1).trans rfl⟩ (fun hHeld => ?_)
  refine norm_ (a' := ?_) ?_ ?_
  rotate_left
  · show Act.put _ (some 52) _ = _
    simp only [Act.put, List.setIfInBounds_toArray, List.set_cons_zero, List.set_cons_succ, i64_w, i32_w]
    rfl
  refine pure_ (i := 4) (N := some 53) (v := ?_) (a' := ?_) #[true, true, true, true, true] rfl rfl (by kernel_rfl) (fun _ _ _ h => h) (Or.inl ⟨by rfl, ?_⟩) ?_ ?_
  rotate_left
  · intro w'
    go_simp
    with_reducible rfl
  rotate_left
  · simp only [Act.put, List.setIfInBounds_toArray, List.set_cons_zero, List.set_cons_succ, i64_w, i32_w]
    rfl
  refine done_ (by kernel_rfl) ?_
  go_wp2_with (first | ((with_reducible refine gate_callee (f := 36) rfl ?_); refine goesL_ (some 56) rfl rfl Try.func36 (by kernel_rfl) rfl #[.agg #[.slice AuX l0_0.length cuX, .slice AvX l0_1.length cvX], .int .i64 1] rfl (by (try simp only [List.map_toArray, List.map_cons, List.map_nil]); first | done | rfl | (simp only [List.length_drop, List.length_take]; rfl)) ?_; (with_reducible refine (laws_markBook.calls k loX hiX (fun _ => True) _ _ l0_0 l0_1 1 m0 x1 x2 w _ ?side1 ?side2 HM0.out).mono ?_); (case side1 => repeat (first | (with_reducible first | exact HB.out | apply below_alloc | apply pw_below_drewN | apply below_drew1) | exact HB.out)); (case side2 => (repeat (first | with_reducible refine BkAt.alloc ?_ _ | with_reducible refine BkAt.drewN ?_ _ | with_reducible refine BkAt.drew ?_)); exact BOX.out); rintro e w146 ⟨rfl, hbk_, hb, hkp⟩; refine ⟨_, rfl, ?_⟩; have n0_ := Aside0.mk (hb); have n1_ := Aside0.mk ((Nat.le_trans (show Zs hiY _ by (repeat (first | with_reducible refine Zs.alloc ?_ _ | with_reducible refine Zs.drewN ?_ _ | with_reducible refine Zs.drew ?_ | with_reducible refine Zs.set ?_ _ _)); exact HZ.out) hkp.1 : Zs hiY w146)); have n2_ := Aside0.mk (blk_kept (g := gb1) (o := .cells #[.slice A0_0 l0_0.length c0_0, .slice A0_1 l0_1.length c0_1] 40 (0, 0)) (by (with_reducible repeat (first | refine blk_drewN ?_ _ | refine blk_drew ?_ | refine blk_alloc ?_ _)); exact BKgb1.out) hkp (fun hs_ => by have h1_ := hs_.1; have ho_ := ORD.out; omega)); have n3_ := Aside0.mk (blk_kept (g := gb21) (o := .cells #[.slice AuW r1.length cuW, .slice AvW r2.length cvW] 25 (0, 0)) (by (with_reducible repeat (first | refine blk_drewN ?_ _ | refine blk_drew ?_ | refine blk_alloc ?_ _)); exact BKgb21.out) hkp (fun hs_ => by have h1_ := hs_.1; have ho_ := ORD.out; omega)); have n4_ := Aside0.mk (blk_kept (g := gb41) (o := .cells #[.slice AuX l0_0.length cuX, .slice AvX l0_1.length cvX] 25 (0, 0)) (by (with_reducible repeat (first | refine blk_drewN ?_ _ | refine blk_drew ?_ | refine blk_alloc ?_ _)); exact BKgb41.out) hkp (fun hs_ => by have h1_ := hs_.1; have ho_ := ORD.out; omega)); have n5_ := Aside0.mk (blk_kept (g := gb71) (o := .cells #[.slice AuI r1.length cuI, .slice AvI r2.length cvI] 25 (0, 0)) (by (with_reducible repeat (first | refine blk_drewN ?_ _ | refine blk_drew ?_ | refine blk_alloc ?_ _)); exact BKgb71.out) hkp (fun hs_ => by have h1_ := hs_.1; have ho_ := ORD.out; omega)); have n6_ := Aside0.mk (BkAt.kept (base := w.heap.size) (q := fun _ => True) (lo := loW) (hi := hiW) (u0 := .slice AuW r1.length cuW) (u1 := .slice AvW r2.length cvW) (c := r1) (d := r2) (by (repeat (first | with_reducible refine BkAt.alloc ?_ _ | with_reducible refine BkAt.drewN ?_ _ | with_reducible refine BkAt.drew ?_)); exact BOW.out) hkp (by have ho_ := ORD.out; omega)); have n7_ := Aside0.mk (BkAt.kept (base := w.heap.size) (q := fun _ => True) (lo := loI) (hi := hiI) (u0 := .slice AuI r1.length cuI) (u1 := .slice AvI r2.length cvI) (c := r1) (d := r2) (by (repeat (first | with_reducible refine BkAt.alloc ?_ _ | with_reducible refine BkAt.drewN ?_ _ | with_reducible refine BkAt.drew ?_)); exact BOI.out) hkp (by have ho_ := ORD.out; omega)); have n8_ := Aside0.mk (hbk_); (try clear HB); (try clear HZ); (try clear BKgb1); (try clear BKgb21); (try clear BKgb41); (try clear BKgb71); (try clear BOW); (try clear BOI); (try clear BOX); have HB := n0_; have HZ := n1_; have BKgb1 := n2_; have BKgb21 := n3_; have BKgb41 := n4_; have BKgb71 := n5_; have BOW := n6_; have BOI := n7_; have BOX := n8_; clear n0_ n1_ n2_ n3_ n4_ n5_ n6_ n7_ n8_; (try clear hb hkp hbk_); have hcz147 : w146.cell? ⟨gb1, 0, none⟩ = some (.slice A0_0 l0_0.length c0_0) := (blk_cell BKgb1.out 0).trans rfl; have hfz148 := blk_frozen BKgb1.out 0; have hcz149 : w146.cell? ⟨gb1, 1, none⟩ = some (.slice A0_1 l0_1.length c0_1) := (blk_cell BKgb1.out 1).trans rfl; have hfz150 := blk_frozen BKgb1.out 1; have hcz151 : w146.cell? ⟨gb21, 0, none⟩ = some (.slice AuW r1.length cuW) := (blk_cell BKgb21.out 0).trans rfl; have hfz152 := blk_frozen BKgb21.out 0; have hcz153 : w146.cell? ⟨gb21, 1, none⟩ = some (.slice AvW r2.length cvW) := (blk_cell BKgb21.out 1).trans rfl; have hfz154 := blk_frozen BKgb21.out 1; have hcz155 : w146.cell? ⟨gb41, 0, none⟩ = some (.slice AuX l0_0.length cuX) := (blk_cell BKgb41.out 0).trans rfl; have hfz156 := blk_frozen BKgb41.out 0; have hcz157 : w146.cell? ⟨gb41, 1, none⟩ = some (.slice AvX l0_1.length cvX) := (blk_cell BKgb41.out 1).trans rfl; have hfz158 := blk_frozen BKgb41.out 1; have hcz159 : w146.cell? ⟨gb71, 0, none⟩ = some (.slice AuI r1.length cuI) := (blk_cell BKgb71.out 0).trans rfl; have hfz160 := blk_frozen BKgb71.out 0; have hcz161 : w146.cell? ⟨gb71, 1, none⟩ = some (.slice AvI r2.length cvI) := (blk_cell BKgb71.out 1).trans rfl; have hfz162 := blk_frozen BKgb71.out 1) | (go_at_call 35; (with_reducible refine (eqBookB k loI hiI (fun _ => True) _ _ _ r1 _ _ _ r2 loW hiW (fun _ => True) _ _ _ r1 _ _ _ r2 true w.heap.size w.heap.size _ ?side1 ?side2 HE1.out).mono ?_); (case side1 => (repeat (first | with_reducible refine BkAt.alloc ?_ _ | with_reducible refine BkAt.drewN ?_ _ | with_reducible refine BkAt.drew ?_)); exact BOI.out); (case side2 => (repeat (first | with_reducible refine BkAt.alloc ?_ _ | with_reducible refine BkAt.drewN ?_ _ | with_reducible refine BkAt.drew ?_)); exact BOW.out); rintro e w163 ⟨rfl, hb⟩; have n0_ := Aside0.mk (below_step (by repeat (first | (with_reducible first | exact HB.out | apply below_alloc | apply pw_below_drewN | apply below_drew1) | exact HB.out)) hb); have n1_ := Aside0.mk ((Zs.below (by (repeat (first | with_reducible refine Zs.alloc ?_ _ | with_reducible refine Zs.drewN ?_ _ | with_reducible refine Zs.drew ?_ | with_reducible refine Zs.set ?_ _ _)); exact HZ.out) hb : Zs hiY w163)); have n2_ := Aside0.mk (blk_below (g := gb1) (o := .cells #[.slice A0_0 l0_0.length c0_0, .slice A0_1 l0_1.length c0_1] 40 (0, 0)) (by (with_reducible repeat (first | refine blk_drewN ?_ _ | refine blk_drew ?_ | refine blk_alloc ?_ _)); exact BKgb1.out) hb); have n3_ := Aside0.mk (blk_below (g := gb21) (o := .cells #[.slice AuW r1.length cuW, .slice AvW r2.length cvW] 25 (0, 0)) (by (with_reducible repeat (first | refine blk_drewN ?_ _ | refine blk_drew ?_ | refine blk_alloc ?_ _)); exact BKgb21.out) hb); have n4_ := Aside0.mk (blk_below (g := gb41) (o := .cells #[.slice AuX l0_0.length cuX, .slice AvX l0_1.length cvX] 25 (0, 0)) (by (with_reducible repeat (first | refine blk_drewN ?_ _ | refine blk_drew ?_ | refine blk_alloc ?_ _)); exact BKgb41.out) hb); have n5_ := Aside0.mk (blk_below (g := gb71) (o := .cells #[.slice AuI r1.length cuI, .slice AvI r2.length cvI] 25 (0, 0)) (by (with_reducible repeat (first | refine blk_drewN ?_ _ | refine blk_drew ?_ | refine blk_alloc ?_ _)); exact BKgb71.out) hb); have n6_ := Aside0.mk (BkAt.below (base := w.heap.size) (q := fun _ => True) (lo := loW) (hi := hiW) (u0 := .slice AuW r1.length cuW) (u1 := .slice AvW r2.length cvW) (c := r1) (d := r2) (by (repeat (first | with_reducible refine BkAt.alloc ?_ _ | with_reducible refine BkAt.drewN ?_ _ | with_reducible refine BkAt.drew ?_)); exact BOW.out) hb); have n7_ := Aside0.mk (BkAt.below (base := w.heap.size) (q := fun _ => True) (lo := loI) (hi := hiI) (u0 := .slice AuI r1.length cuI) (u1 := .slice AvI r2.length cvI) (c := r1) (d := r2) (by (repeat (first | with_reducible refine BkAt.alloc ?_ _ | with_reducible refine BkAt.drewN ?_ _ | with_reducible refine BkAt.drew ?_)); exact BOI.out) hb); (try clear HB); (try clear HZ); (try clear BKgb1); (try clear BKgb21); (try clear BKgb41); (try clear BKgb71); (try clear BOW); (try clear BOI); have HB := n0_; have HZ := n1_; have BKgb1 := n2_; have BKgb21 := n3_; have BKgb41 := n4_; have BKgb71 := n5_; have BOW := n6_; have BOI := n7_; clear n0_ n1_ n2_ n3_ n4_ n5_ n6_ n7_; (try clear hb); have hcz164 : w163.cell? ⟨gb1, 0, none⟩ = some (.slice A0_0 l0_0.length c0_0) := (blk_cell BKgb1.out 0).trans rfl; have hfz165 := blk_frozen BKgb1.out 0; have hcz166 : w163.cell? ⟨gb1, 1, none⟩ = some (.slice A0_1 l0_1.length c0_1) := (blk_cell BKgb1.out 1).trans rfl; have hfz167 := blk_frozen BKgb1.out 1; have hcz168 : w163.cell? ⟨gb21, 0, none⟩ = some (.slice AuW r1.length cuW) := (blk_cell BKgb21.out 0).trans rfl; have hfz169 := blk_frozen BKgb21.out 0; have hcz170 : w163.cell? ⟨gb21, 1, none⟩ = some (.slice AvW r2.length cvW) := (blk_cell BKgb21.out 1).trans rfl; have hfz171 := blk_frozen BKgb21.out 1; have hcz172 : w163.cell? ⟨gb41, 0, none⟩ = some (.slice AuX l0_0.length cuX) := (blk_cell BKgb41.out 0).trans rfl; have hfz173 := blk_frozen BKgb41.out 0; have hcz174 : w163.cell? ⟨gb41, 1, none⟩ = some (.slice AvX l0_1.length cvX) := (blk_cell BKgb41.out 1).trans rfl; have hfz175 := blk_frozen BKgb41.out 1; have hcz176 : w163.cell? ⟨gb71, 0, none⟩ = some (.slice AuI r1.length cuI) := (blk_cell BKgb71.out 0).trans rfl; have hfz177 := blk_frozen BKgb71.out 0; have hcz178 : w163.cell? ⟨gb71, 1, none⟩ = some (.slice AvI r2.length cvI) := (blk_cell BKgb71.out 1).trans rfl; have hfz179 := blk_frozen BKgb71.out 1) | ((with_reducible refine gate_callee (f := 36) rfl ?_); refine goesL_ (some 72) rfl rfl Try.func36 (by kernel_rfl) rfl #[.agg #[.slice AuI r1.length cuI, .slice AvI r2.length cvI], .int .i64 1] rfl (by (try simp only [List.map_toArray, List.map_cons, List.map_nil]); first | done | rfl | (simp only [List.length_drop, List.length_take]; rfl)) ?_; (with_reducible refine (laws_markBook.calls k loI hiI (fun _ => True) _ _ r1 r2 1 m y1 y2 w _ ?side1 ?side2 HM.out).mono ?_); (case side1 => repeat (first | (with_reducible first | exact HB.out | apply below_alloc | apply pw_below_drewN | apply below_drew1) | exact HB.out)); (case side2 => (repeat (first | with_reducible refine BkAt.alloc ?_ _ | with_reducible refine BkAt.drewN ?_ _ | with_reducible refine BkAt.drew ?_)); exact BOI.out); rintro e w180 ⟨rfl, hbk_, hb, hkp⟩; refine ⟨_, rfl, ?_⟩; have n0_ := Aside0.mk (hb); have n1_ := Aside0.mk ((Nat.le_trans (show Zs hiY _ by (repeat (first | with_reducible refine Zs.alloc ?_ _ | with_reducible refine Zs.drewN ?_ _ | with_reducible refine Zs.drew ?_ | with_reducible refine Zs.set ?_ _ _)); exact HZ.out) hkp.1 : Zs hiY w180)); have n2_ := Aside0.mk (blk_kept (g := gb1) (o := .cells #[.slice A0_0 l0_0.length c0_0, .slice A0_1 l0_1.length c0_1] 40 (0, 0)) (by (with_reducible repeat (first | refine blk_drewN ?_ _ | refine blk_drew ?_ | refine blk_alloc ?_ _)); exact BKgb1.out) hkp (fun hs_ => by have h1_ := hs_.1; have ho_ := ORD.out; omega)); have n3_ := Aside0.mk (blk_kept (g := gb21) (o := .cells #[.slice AuW r1.length cuW, .slice AvW r2.length cvW] 25 (0, 0)) (by (with_reducible repeat (first | refine blk_drewN ?_ _ | refine blk_drew ?_ | refine blk_alloc ?_ _)); exact BKgb21.out) hkp (fun hs_ => by have h1_ := hs_.1; have ho_ := ORD.out; omega)); have n4_ := Aside0.mk (blk_kept (g := gb41) (o := .cells #[.slice AuX l0_0.length cuX, .slice AvX l0_1.length cvX] 25 (0, 0)) (by (with_reducible repeat (first | refine blk_drewN ?_ _ | refine blk_drew ?_ | refine blk_alloc ?_ _)); exact BKgb41.out) hkp (fun hs_ => by have h1_ := hs_.1; have ho_ := ORD.out; omega)); have n5_ := Aside0.mk (blk_kept (g := gb71) (o := .cells #[.slice AuI r1.length cuI, .slice AvI r2.length cvI] 25 (0, 0)) (by (with_reducible repeat (first | refine blk_drewN ?_ _ | refine blk_drew ?_ | refine blk_alloc ?_ _)); exact BKgb71.out) hkp (fun hs_ => by have h1_ := hs_.1; have ho_ := ORD.out; omega)); have n6_ := Aside0.mk (BkAt.kept (base := w.heap.size) (q := fun _ => True) (lo := loW) (hi := hiW) (u0 := .slice AuW r1.length cuW) (u1 := .slice AvW r2.length cvW) (c := r1) (d := r2) (by (repeat (first | with_reducible refine BkAt.alloc ?_ _ | with_reducible refine BkAt.drewN ?_ _ | with_reducible refine BkAt.drew ?_)); exact BOW.out) hkp (by have ho_ := ORD.out; omega)); have n7_ := Aside0.mk (hbk_); (try clear HB); (try clear HZ); (try clear BKgb1); (try clear BKgb21); (try clear BKgb41); (try clear BKgb71); (try clear BOW); (try clear BOI); have HB := n0_; have HZ := n1_; have BKgb1 := n2_; have BKgb21 := n3_; have BKgb41 := n4_; have BKgb71 := n5_; have BOW := n6_; have BOI := n7_; clear n0_ n1_ n2_ n3_ n4_ n5_ n6_ n7_; (try clear hb hkp hbk_); have hcz181 : w180.cell? ⟨gb1, 0, none⟩ = some (.slice A0_0 l0_0.length c0_0) := (blk_cell BKgb1.out 0).trans rfl; have hfz182 := blk_frozen BKgb1.out 0; have hcz183 : w180.cell? ⟨gb1, 1, none⟩ = some (.slice A0_1 l0_1.length c0_1) := (blk_cell BKgb1.out 1).trans rfl; have hfz184 := blk_frozen BKgb1.out 1; have hcz185 : w180.cell? ⟨gb21, 0, none⟩ = some (.slice AuW r1.length cuW) := (blk_cell BKgb21.out 0).trans rfl; have hfz186 := blk_frozen BKgb21.out 0; have hcz187 : w180.cell? ⟨gb21, 1, none⟩ = some (.slice AvW r2.length cvW) := (blk_cell BKgb21.out 1).trans rfl; have hfz188 := blk_frozen BKgb21.out 1; have hcz189 : w180.cell? ⟨gb41, 0, none⟩ = some (.slice AuX l0_0.length cuX) := (blk_cell BKgb41.out 0).trans rfl; have hfz190 := blk_frozen BKgb41.out 0; have hcz191 : w180.cell? ⟨gb41, 1, none⟩ = some (.slice AvX l0_1.length cvX) := (blk_cell BKgb41.out 1).trans rfl; have hfz192 := blk_frozen BKgb41.out 1; have hcz193 : w180.cell? ⟨gb71, 0, none⟩ = some (.slice AuI r1.length cuI) := (blk_cell BKgb71.out 0).trans rfl; have hfz194 := blk_frozen BKgb71.out 0; have hcz195 : w180.cell? ⟨gb71, 1, none⟩ = some (.slice AvI r2.length cvI) := (blk_cell BKgb71.out 1).trans rfl; have hfz196 := blk_frozen BKgb71.out 1) | ((with_reducible refine gate_callee (f := 37) rfl ?_); refine goesL_ (some 75) rfl rfl Try.func37 (by kernel_rfl) rfl #[.agg #[.slice AuI r1.length cuI, .slice AvI r2.length cvI], .int .i64 1] rfl (by (try simp only [List.map_toArray, List.map_cons, List.map_nil]); first | done | rfl | (simp only [List.length_drop, List.length_take]; rfl)) ?_; (with_reducible refine (heldB k loI hiI (fun _ => True) _ _ _ y1 _ _ _ y2 1 m w.heap.size _ ?side1 HH.out).mono ?_); (case side1 => (repeat (first | with_reducible refine BkAt.alloc ?_ _ | with_reducible refine BkAt.drewN ?_ _ | with_reducible refine BkAt.drew ?_)); exact BOI.out); rintro e w197 ⟨rfl, hb⟩; refine ⟨_, rfl, ?_⟩; have n0_ := Aside0.mk (below_step (by repeat (first | (with_reducible first | exact HB.out | apply below_alloc | apply pw_below_drewN | apply below_drew1) | exact HB.out)) hb); have n1_ := Aside0.mk ((Zs.below (by (repeat (first | with_reducible refine Zs.alloc ?_ _ | with_reducible refine Zs.drewN ?_ _ | with_reducible refine Zs.drew ?_ | with_reducible refine Zs.set ?_ _ _)); exact HZ.out) hb : Zs hiY w197)); have n2_ := Aside0.mk (blk_below (g := gb1) (o := .cells #[.slice A0_0 l0_0.length c0_0, .slice A0_1 l0_1.length c0_1] 40 (0, 0)) (by (with_reducible repeat (first | refine blk_drewN ?_ _ | refine blk_drew ?_ | refine blk_alloc ?_ _)); exact BKgb1.out) hb); have n3_ := Aside0.mk (blk_below (g := gb21) (o := .cells #[.slice AuW r1.length cuW, .slice AvW r2.length cvW] 25 (0, 0)) (by (with_reducible repeat (first | refine blk_drewN ?_ _ | refine blk_drew ?_ | refine blk_alloc ?_ _)); exact BKgb21.out) hb); have n4_ := Aside0.mk (blk_below (g := gb41) (o := .cells #[.slice AuX l0_0.length cuX, .slice AvX l0_1.length cvX] 25 (0, 0)) (by (with_reducible repeat (first | refine blk_drewN ?_ _ | refine blk_drew ?_ | refine blk_alloc ?_ _)); exact BKgb41.out) hb); have n5_ := Aside0.mk (blk_below (g := gb71) (o := .cells #[.slice AuI r1.length cuI, .slice AvI r2.length cvI] 25 (0, 0)) (by (with_reducible repeat (first | refine blk_drewN ?_ _ | refine blk_drew ?_ | refine blk_alloc ?_ _)); exact BKgb71.out) hb); have n6_ := Aside0.mk (BkAt.below (base := w.heap.size) (q := fun _ => True) (lo := loW) (hi := hiW) (u0 := .slice AuW r1.length cuW) (u1 := .slice AvW r2.length cvW) (c := r1) (d := r2) (by (repeat (first | with_reducible refine BkAt.alloc ?_ _ | with_reducible refine BkAt.drewN ?_ _ | with_reducible refine BkAt.drew ?_)); exact BOW.out) hb); have n7_ := Aside0.mk (BkAt.below (base := w.heap.size) (q := fun _ => True) (lo := loI) (hi := hiI) (u0 := .slice AuI r1.length cuI) (u1 := .slice AvI r2.length cvI) (c := y1) (d := y2) (by (repeat (first | with_reducible refine BkAt.alloc ?_ _ | with_reducible refine BkAt.drewN ?_ _ | with_reducible refine BkAt.drew ?_)); exact BOI.out) hb); (try clear HB); (try clear HZ); (try clear BKgb1); (try clear BKgb21); (try clear BKgb41); (try clear BKgb71); (try clear BOW); (try clear BOI); have HB := n0_; have HZ := n1_; have BKgb1 := n2_; have BKgb21 := n3_; have BKgb41 := n4_; have BKgb71 := n5_; have BOW := n6_; have BOI := n7_; clear n0_ n1_ n2_ n3_ n4_ n5_ n6_ n7_; (try clear hb); have hcz198 : w197.cell? ⟨gb1, 0, none⟩ = some (.slice A0_0 l0_0.length c0_0) := (blk_cell BKgb1.out 0).trans rfl; have hfz199 := blk_frozen BKgb1.out 0; have hcz200 : w197.cell? ⟨gb1, 1, none⟩ = some (.slice A0_1 l0_1.length c0_1) := (blk_cell BKgb1.out 1).trans rfl; have hfz201 := blk_frozen BKgb1.out 1; have hcz202 : w197.cell? ⟨gb21, 0, none⟩ = some (.slice AuW r1.length cuW) := (blk_cell BKgb21.out 0).trans rfl; have hfz203 := blk_frozen BKgb21.out 0; have hcz204 : w197.cell? ⟨gb21, 1, none⟩ = some (.slice AvW r2.length cvW) := (blk_cell BKgb21.out 1).trans rfl; have hfz205 := blk_frozen BKgb21.out 1; have hcz206 : w197.cell? ⟨gb41, 0, none⟩ = some (.slice AuX l0_0.length cuX) := (blk_cell BKgb41.out 0).trans rfl; have hfz207 := blk_frozen BKgb41.out 0; have hcz208 : w197.cell? ⟨gb41, 1, none⟩ = some (.slice AvX l0_1.length cvX) := (blk_cell BKgb41.out 1).trans rfl; have hfz209 := blk_frozen BKgb41.out 1; have hcz210 : w197.cell? ⟨gb71, 0, none⟩ = some (.slice AuI r1.length cuI) := (blk_cell BKgb71.out 0).trans rfl; have hfz211 := blk_frozen BKgb71.out 0; have hcz212 : w197.cell? ⟨gb71, 1, none⟩ = some (.slice AvI r2.length cvI) := (blk_cell BKgb71.out 1).trans rfl; have hfz213 := blk_frozen BKgb71.out 1) | ((with_reducible refine gate_callee (f := 33) rfl ?_); refine goesL_ (some 83) rfl rfl Try.func33 (by kernel_rfl) rfl #[.agg #[.slice A0_0 l0_0.length c0_0, .slice A0_1 l0_1.length c0_1]] rfl (by (try simp only [List.map_toArray, List.map_cons, List.map_nil]); first | done | rfl | (simp only [List.length_drop, List.length_take]; rfl)) ?_; (with_reducible refine (toBookB k hiY _ _ l0_0 _ _ l0_1 l0_0 l0_1 w _ ?side1 ?side2 ?side3 HR0_0.out HC0_0.out HR0_1.out HC0_1.out HTO.out).mono ?_); (case side1 => (repeat (first | with_reducible refine Zs.alloc ?_ _ | with_reducible refine Zs.drewN ?_ _ | with_reducible refine Zs.drew ?_ | with_reducible refine Zs.set ?_ _ _)); exact HZ.out); (case side2 => have ho_ := ORD.out; omega); (case side3 => repeat (first | (with_reducible first | exact HB.out | apply below_alloc | apply pw_below_drewN | apply below_drew1) | exact HB.out)); rintro e w214 ⟨AuZ, cuZ, AvZ, cvZ, loZ, hiZ, rfl, hlo_, hhi_, hbk_, hb⟩; refine ⟨_, rfl, ?_⟩; have n0_ := Aside0.mk (below_step (by repeat (first | (with_reducible first | exact HB.out | apply below_alloc | apply pw_below_drewN | apply below_drew1) | exact HB.out)) hb); have n1_ := Aside0.mk (blk_below (g := gb1) (o := .cells #[.slice A0_0 l0_0.length c0_0, .slice A0_1 l0_1.length c0_1] 40 (0, 0)) (by (with_reducible repeat (first | refine blk_drewN ?_ _ | refine blk_drew ?_ | refine blk_alloc ?_ _)); exact BKgb1.out) hb); have n2_ := Aside0.mk (blk_below (g := gb21) (o := .cells #[.slice AuW r1.length cuW, .slice AvW r2.length cvW] 25 (0, 0)) (by (with_reducible repeat (first | refine blk_drewN ?_ _ | refine blk_drew ?_ | refine blk_alloc ?_ _)); exact BKgb21.out) hb); have n3_ := Aside0.mk (blk_below (g := gb41) (o := .cells #[.slice AuX l0_0.length cuX, .slice AvX l0_1.length cvX] 25 (0, 0)) (by (with_reducible repeat (first | refine blk_drewN ?_ _ | refine blk_drew ?_ | refine blk_alloc ?_ _)); exact BKgb41.out) hb); have n4_ := Aside0.mk (blk_below (g := gb71) (o := .cells #[.slice AuI r1.length cuI, .slice AvI r2.length cvI] 25 (0, 0)) (by (with_reducible repeat (first | refine blk_drewN ?_ _ | refine blk_drew ?_ | refine blk_alloc ?_ _)); exact BKgb71.out) hb); have n5_ := Aside0.mk (BkAt.below (base := w.heap.size) (q := fun _ => True) (lo := loW) (hi := hiW) (u0 := .slice AuW r1.length cuW) (u1 := .slice AvW r2.length cvW) (c := r1) (d := r2) (by (repeat (first | with_reducible refine BkAt.alloc ?_ _ | with_reducible refine BkAt.drewN ?_ _ | with_reducible refine BkAt.drew ?_)); exact BOW.out) hb); have n6_ := Aside0.mk (BkAt.below (base := w.heap.size) (q := fun _ => True) (lo := loI) (hi := hiI) (u0 := .slice AuI r1.length cuI) (u1 := .slice AvI r2.length cvI) (c := y1) (d := y2) (by (repeat (first | with_reducible refine BkAt.alloc ?_ _ | with_reducible refine BkAt.drewN ?_ _ | with_reducible refine BkAt.drew ?_)); exact BOI.out) hb); have n7_ := Aside0.mk (hbk_); have n8_ := Aside0.mk ((hbk_.1 : Zs hiZ w214)); (try clear HB); (try clear BKgb1); (try clear BKgb21); (try clear BKgb41); (try clear BKgb71); (try clear BOW); (try clear BOI); (try clear BOZ); (try clear HZ); have HB := n0_; have BKgb1 := n1_; have BKgb21 := n2_; have BKgb41 := n3_; have BKgb71 := n4_; have BOW := n5_; have BOI := n6_; have BOZ := n7_; have HZ := n8_; clear n0_ n1_ n2_ n3_ n4_ n5_ n6_ n7_ n8_; have q_ := Aside0.mk (And.intro ORD.out (show hiY ≤ loZ ∧ loZ ≤ hiZ from ⟨hlo_, hhi_⟩)); clear ORD; have ORD := q_; clear q_ hlo_ hhi_ hbk_; (try clear hb); have hcz215 : w214.cell? ⟨gb1, 0, none⟩ = some (.slice A0_0 l0_0.length c0_0) := (blk_cell BKgb1.out 0).trans rfl; have hfz216 := blk_frozen BKgb1.out 0; have hcz217 : w214.cell? ⟨gb1, 1, none⟩ = some (.slice A0_1 l0_1.length c0_1) := (blk_cell BKgb1.out 1).trans rfl; have hfz218 := blk_frozen BKgb1.out 1; have hcz219 : w214.cell? ⟨gb21, 0, none⟩ = some (.slice AuW r1.length cuW) := (blk_cell BKgb21.out 0).trans rfl; have hfz220 := blk_frozen BKgb21.out 0; have hcz221 : w214.cell? ⟨gb21, 1, none⟩ = some (.slice AvW r2.length cvW) := (blk_cell BKgb21.out 1).trans rfl; have hfz222 := blk_frozen BKgb21.out 1; have hcz223 : w214.cell? ⟨gb41, 0, none⟩ = some (.slice AuX l0_0.length cuX) := (blk_cell BKgb41.out 0).trans rfl; have hfz224 := blk_frozen BKgb41.out 0; have hcz225 : w214.cell? ⟨gb41, 1, none⟩ = some (.slice AvX l0_1.length cvX) := (blk_cell BKgb41.out 1).trans rfl; have hfz226 := blk_frozen BKgb41.out 1; have hcz227 : w214.cell? ⟨gb71, 0, none⟩ = some (.slice AuI r1.length cuI) := (blk_cell BKgb71.out 0).trans rfl; have hfz228 := blk_frozen BKgb71.out 0; have hcz229 : w214.cell? ⟨gb71, 1, none⟩ = some (.slice AvI r2.length cvI) := (blk_cell BKgb71.out 1).trans rfl; have hfz230 := blk_frozen BKgb71.out 1) | ((with_reducible refine gate_callee (f := 34) rfl ?_); refine goesL_ (some 86) rfl rfl Try.func34 (by kernel_rfl) rfl #[.agg #[.slice AuZ l0_0.length cuZ, .slice AvZ l0_1.length cvZ], .int .i64 a1, .int .i64 a2] rfl (by (try simp only [List.map_toArray, List.map_cons, List.map_nil]); first | done | rfl | (simp only [List.length_drop, List.length_take]; rfl)) ?_; (with_reducible refine (withB 34 k hiZ loZ hiZ _ _ _ l0_0 _ _ _ l0_1 a1 a2 r1 r2 r3 w _ ?side1 ?side2 (fun _ _ _ _ _ _ p1 p2 p3 p4 e1 e2 => by subst e1 e2; exact impl_WithCash.calls k _ _ _ _ _ _ a1 a2 r1 r2 r3 _ p1 p2 p3 p4 HIM.out) ?side3).mono ?_); (case side1 => (repeat (first | with_reducible refine Zs.alloc ?_ _ | with_reducible refine Zs.drewN ?_ _ | with_reducible refine Zs.drew ?_ | with_reducible refine Zs.set ?_ _ _)); exact HZ.out); (case side2 => have ho_ := ORD.out; omega); (case side3 => (repeat (first | with_reducible refine BkAt.alloc ?_ _ | with_reducible refine BkAt.drewN ?_ _ | with_reducible refine BkAt.drew ?_)); exact BOZ.out); rintro e w231 ⟨AuJ, cuJ, AvJ, cvJ, loJ, hiJ, rfl, hlo_, hhi_, hbk_, hb⟩; refine ⟨_, rfl, ?_⟩; have n0_ := Aside0.mk (below_step (by repeat (first | (with_reducible first | exact HB.out | apply below_alloc | apply pw_below_drewN | apply below_drew1) | exact HB.out)) hb); have n1_ := Aside0.mk (blk_below (g := gb1) (o := .cells #[.slice A0_0 l0_0.length c0_0, .slice A0_1 l0_1.length c0_1] 40 (0, 0)) (by (with_reducible repeat (first | refine blk_drewN ?_ _ | refine blk_drew ?_ | refine blk_alloc ?_ _)); exact BKgb1.out) hb); have n2_ := Aside0.mk (blk_below (g := gb21) (o := .cells #[.slice AuW r1.length cuW, .slice AvW r2.length cvW] 25 (0, 0)) (by (with_reducible repeat (first | refine blk_drewN ?_ _ | refine blk_drew ?_ | refine blk_alloc ?_ _)); exact BKgb21.out) hb); have n3_ := Aside0.mk (blk_below (g := gb41) (o := .cells #[.slice AuX l0_0.length cuX, .slice AvX l0_1.length cvX] 25 (0, 0)) (by (with_reducible repeat (first | refine blk_drewN ?_ _ | refine blk_drew ?_ | refine blk_alloc ?_ _)); exact BKgb41.out) hb); have n4_ := Aside0.mk (blk_below (g := gb71) (o := .cells #[.slice AuI r1.length cuI, .slice AvI r2.length cvI] 25 (0, 0)) (by (with_reducible repeat (first | refine blk_drewN ?_ _ | refine blk_drew ?_ | refine blk_alloc ?_ _)); exact BKgb71.out) hb); have n5_ := Aside0.mk (BkAt.below (base := w.heap.size) (q := fun _ => True) (lo := loW) (hi := hiW) (u0 := .slice AuW r1.length cuW) (u1 := .slice AvW r2.length cvW) (c := r1) (d := r2) (by (repeat (first | with_reducible refine BkAt.alloc ?_ _ | with_reducible refine BkAt.drewN ?_ _ | with_reducible refine BkAt.drew ?_)); exact BOW.out) hb); have n6_ := Aside0.mk (BkAt.below (base := w.heap.size) (q := fun _ => True) (lo := loI) (hi := hiI) (u0 := .slice AuI r1.length cuI) (u1 := .slice AvI r2.length cvI) (c := y1) (d := y2) (by (repeat (first | with_reducible refine BkAt.alloc ?_ _ | with_reducible refine BkAt.drewN ?_ _ | with_reducible refine BkAt.drew ?_)); exact BOI.out) hb); have n7_ := Aside0.mk (BkAt.below (base := w.heap.size) (q := fun _ => True) (lo := loZ) (hi := hiZ) (u0 := .slice AuZ l0_0.length cuZ) (u1 := .slice AvZ l0_1.length cvZ) (c := l0_0) (d := l0_1) (by (repeat (first | with_reducible refine BkAt.alloc ?_ _ | with_reducible refine BkAt.drewN ?_ _ | with_reducible refine BkAt.drew ?_)); exact BOZ.out) hb); have n8_ := Aside0.mk (hbk_); have n9_ := Aside0.mk ((hbk_.1 : Zs hiJ w231)); (try clear HB); (try clear BKgb1); (try clear BKgb21); (try clear BKgb41); (try clear BKgb71); (try clear BOW); (try clear BOI); (try clear BOZ); (try clear BOJ); (try clear HZ); have HB := n0_; have BKgb1 := n1_; have BKgb21 := n2_; have BKgb41 := n3_; have BKgb71 := n4_; have BOW := n5_; have BOI := n6_; have BOZ := n7_; have BOJ := n8_; have HZ := n9_; clear n0_ n1_ n2_ n3_ n4_ n5_ n6_ n7_ n8_ n9_; have q_ := Aside0.mk (And.intro ORD.out (show hiZ ≤ loJ ∧ loJ ≤ hiJ from ⟨hlo_, hhi_⟩)); clear ORD; have ORD := q_; clear q_ hlo_ hhi_ hbk_; (try clear hb); have hcz232 : w231.cell? ⟨gb1, 0, none⟩ = some (.slice A0_0 l0_0.length c0_0) := (blk_cell BKgb1.out 0).trans rfl; have hfz233 := blk_frozen BKgb1.out 0; have hcz234 : w231.cell? ⟨gb1, 1, none⟩ = some (.slice A0_1 l0_1.length c0_1) := (blk_cell BKgb1.out 1).trans rfl; have hfz235 := blk_frozen BKgb1.out 1; have hcz236 : w231.cell? ⟨gb21, 0, none⟩ = some (.slice AuW r1.length cuW) := (blk_cell BKgb21.out 0).trans rfl; have hfz237 := blk_frozen BKgb21.out 0; have hcz238 : w231.cell? ⟨gb21, 1, none⟩ = some (.slice AvW r2.length cvW) := (blk_cell BKgb21.out 1).trans rfl; have hfz239 := blk_frozen BKgb21.out 1; have hcz240 : w231.cell? ⟨gb41, 0, none⟩ = some (.slice AuX l0_0.length cuX) := (blk_cell BKgb41.out 0).trans rfl; have hfz241 := blk_frozen BKgb41.out 0; have hcz242 : w231.cell? ⟨gb41, 1, none⟩ = some (.slice AvX l0_1.length cvX) := (blk_cell BKgb41.out 1).trans rfl; have hfz243 := blk_frozen BKgb41.out 1; have hcz244 : w231.cell? ⟨gb71, 0, none⟩ = some (.slice AuI r1.length cuI) := (blk_cell BKgb71.out 0).trans rfl; have hfz245 := blk_frozen BKgb71.out 0; have hcz246 : w231.cell? ⟨gb71, 1, none⟩ = some (.slice AvI r2.length cvI) := (blk_cell BKgb71.out 1).trans rfl; have hfz247 := blk_frozen BKgb71.out 1) | ((with_reducible refine gate_dst (N := 16) rfl ?_); refine box_event ?hg (N := 16) ?hd (cs := #[.slice none 0 0, .slice none 0 0]) (t := 25) ?hr ?_; (case hd => rfl); (case hg => rfl); (case hr => first | (go_simp; done) | (go_simp; rfl)); intro gb248 hg w248 hbox hb; have hge_ : hiJ ≤ gb248 := (by rw [hg]; exact (show Zs hiJ _ by (repeat (first | with_reducible refine Zs.alloc ?_ _ | with_reducible refine Zs.drewN ?_ _ | with_reducible refine Zs.drew ?_ | with_reducible refine Zs.set ?_ _ _)); exact HZ.out)); have hlt_ : Zs (gb248 + 1) w248 := blk_lt hbox; have n0_ := Aside0.mk (below_step (by repeat (first | (with_reducible first | exact HB.out | apply below_alloc | apply pw_below_drewN | apply below_drew1) | exact HB.out)) hb); have n1_ := Aside0.mk (blk_below (g := gb1) (o := .cells #[.slice A0_0 l0_0.length c0_0, .slice A0_1 l0_1.length c0_1] 40 (0, 0)) (by (with_reducible repeat (first | refine blk_drewN ?_ _ | refine blk_drew ?_ | refine blk_alloc ?_ _)); exact BKgb1.out) hb); have n2_ := Aside0.mk (blk_below (g := gb21) (o := .cells #[.slice AuW r1.length cuW, .slice AvW r2.length cvW] 25 (0, 0)) (by (with_reducible repeat (first | refine blk_drewN ?_ _ | refine blk_drew ?_ | refine blk_alloc ?_ _)); exact BKgb21.out) hb); have n3_ := Aside0.mk (blk_below (g := gb41) (o := .cells #[.slice AuX l0_0.length cuX, .slice AvX l0_1.length cvX] 25 (0, 0)) (by (with_reducible repeat (first | refine blk_drewN ?_ _ | refine blk_drew ?_ | refine blk_alloc ?_ _)); exact BKgb41.out) hb); have n4_ := Aside0.mk (blk_below (g := gb71) (o := .cells #[.slice AuI r1.length cuI, .slice AvI r2.length cvI] 25 (0, 0)) (by (with_reducible repeat (first | refine blk_drewN ?_ _ | refine blk_drew ?_ | refine blk_alloc ?_ _)); exact BKgb71.out) hb); have n5_ := Aside0.mk (BkAt.below (base := w.heap.size) (q := fun _ => True) (lo := loW) (hi := hiW) (u0 := .slice AuW r1.length cuW) (u1 := .slice AvW r2.length cvW) (c := r1) (d := r2) (by (repeat (first | with_reducible refine BkAt.alloc ?_ _ | with_reducible refine BkAt.drewN ?_ _ | with_reducible refine BkAt.drew ?_)); exact BOW.out) hb); have n6_ := Aside0.mk (BkAt.below (base := w.heap.size) (q := fun _ => True) (lo := loI) (hi := hiI) (u0 := .slice AuI r1.length cuI) (u1 := .slice AvI r2.length cvI) (c := y1) (d := y2) (by (repeat (first | with_reducible refine BkAt.alloc ?_ _ | with_reducible refine BkAt.drewN ?_ _ | with_reducible refine BkAt.drew ?_)); exact BOI.out) hb); have n7_ := Aside0.mk (BkAt.below (base := w.heap.size) (q := fun _ => True) (lo := loJ) (hi := hiJ) (u0 := .slice AuJ r1.length cuJ) (u1 := .slice AvJ r2.length cvJ) (c := r1) (d := r2) (by (repeat (first | with_reducible refine BkAt.alloc ?_ _ | with_reducible refine BkAt.drewN ?_ _ | with_reducible refine BkAt.drew ?_)); exact BOJ.out) hb); have n8_ := Aside0.mk (hbox); have n9_ := Aside0.mk (hlt_); (try clear HB); (try clear BKgb1); (try clear BKgb21); (try clear BKgb41); (try clear BKgb71); (try clear BOW); (try clear BOI); (try clear BOJ); (try clear BKgb248); (try clear HZ); have HB := n0_; have BKgb1 := n1_; have BKgb21 := n2_; have BKgb41 := n3_; have BKgb71 := n4_; have BOW := n5_; have BOI := n6_; have BOJ := n7_; have BKgb248 := n8_; have HZ := n9_; clear n0_ n1_ n2_ n3_ n4_ n5_ n6_ n7_ n8_ n9_; have q_ := Aside0.mk (And.intro ORD.out (show hiJ ≤ gb248 from hge_)); clear ORD; have ORD := q_; clear q_; clear hb hbox hg hge_ hlt_; have hnb250 : gb248 ≠ gb1 := (by have ho_ := ORD.out; omega); have hnb249 : gb1 ≠ gb248 := (by have ho_ := ORD.out; omega); have hnb252 : gb248 ≠ gb21 := (by have ho_ := ORD.out; omega); have hnb251 : gb21 ≠ gb248 := (by have ho_ := ORD.out; omega); have hnb254 : gb248 ≠ gb41 := (by have ho_ := ORD.out; omega); have hnb253 : gb41 ≠ gb248 := (by have ho_ := ORD.out; omega); have hnb256 : gb248 ≠ gb71 := (by have ho_ := ORD.out; omega); have hnb255 : gb71 ≠ gb248 := (by have ho_ := ORD.out; omega); have hcz257 : w248.cell? ⟨gb1, 0, none⟩ = some (.slice A0_0 l0_0.length c0_0) := (blk_cell BKgb1.out 0).trans rfl; have hfz258 := blk_frozen BKgb1.out 0; have hcz259 : w248.cell? ⟨gb1, 1, none⟩ = some (.slice A0_1 l0_1.length c0_1) := (blk_cell BKgb1.out 1).trans rfl; have hfz260 := blk_frozen BKgb1.out 1; have hcz261 : w248.cell? ⟨gb21, 0, none⟩ = some (.slice AuW r1.length cuW) := (blk_cell BKgb21.out 0).trans rfl; have hfz262 := blk_frozen BKgb21.out 0; have hcz263 : w248.cell? ⟨gb21, 1, none⟩ = some (.slice AvW r2.length cvW) := (blk_cell BKgb21.out 1).trans rfl; have hfz264 := blk_frozen BKgb21.out 1; have hcz265 : w248.cell? ⟨gb41, 0, none⟩ = some (.slice AuX l0_0.length cuX) := (blk_cell BKgb41.out 0).trans rfl; have hfz266 := blk_frozen BKgb41.out 0; have hcz267 : w248.cell? ⟨gb41, 1, none⟩ = some (.slice AvX l0_1.length cvX) := (blk_cell BKgb41.out 1).trans rfl; have hfz268 := blk_frozen BKgb41.out 1; have hcz269 : w248.cell? ⟨gb71, 0, none⟩ = some (.slice AuI r1.length cuI) := (blk_cell BKgb71.out 0).trans rfl; have hfz270 := blk_frozen BKgb71.out 0; have hcz271 : w248.cell? ⟨gb71, 1, none⟩ = some (.slice AvI r2.length cvI) := (blk_cell BKgb71.out 1).trans rfl; have hfz272 := blk_frozen BKgb71.out 1; have hcz273 : w248.cell? ⟨gb248, 0, none⟩ = some (.slice none 0 0) := (blk_cell BKgb248.out 0).trans rfl; have hfz274 := blk_frozen BKgb248.out 0; have hcz275 : w248.cell? ⟨gb248, 1, none⟩ = some (.slice none 0 0) := (blk_cell BKgb248.out 1).trans rfl; have hfz276 := blk_frozen BKgb248.out 1) | ((with_reducible refine gate_callee (f := 35) rfl ?_); refine goesL_ (some 91) rfl rfl Try.func35 (by kernel_rfl) rfl #[.agg #[.slice AuJ r1.length cuJ, .slice AvJ r2.length cvJ], .agg #[.slice AuW r1.length cuW, .slice AvW r2.length cvW]] rfl (by (try simp only [List.map_toArray, List.map_cons, List.map_nil]); first | done | rfl | (simp only [List.length_drop, List.length_take]; rfl)) ?_; (with_reducible refine (eqBookB k loJ hiJ (fun _ => True) _ _ _ r1 _ _ _ r2 loW hiW (fun _ => True) _ _ _ r1 _ _ _ r2 true w.heap.size w.heap.size _ ?side1 ?side2 HE1.out).mono ?_); (case side1 => (repeat (first | with_reducible refine BkAt.alloc ?_ _ | with_reducible refine BkAt.drewN ?_ _ | with_reducible refine BkAt.drew ?_ | refine BkAt.set ?_ (by have ho_ := ORD.out; show gb248 < loJ ∨ hiJ ≤ gb248; omega) _)); exact BOJ.out); (case side2 => (repeat (first | with_reducible refine BkAt.alloc ?_ _ | with_reducible refine BkAt.drewN ?_ _ | with_reducible refine BkAt.drew ?_ | refine BkAt.set ?_ (by have ho_ := ORD.out; show gb248 < loW ∨ hiW ≤ gb248; omega) _)); exact BOW.out); rintro e w277 ⟨rfl, hb⟩; refine ⟨_, rfl, ?_⟩; have n0_ := Aside0.mk (below_step (by repeat (first | (with_reducible first | exact HB.out | apply below_alloc | apply pw_below_drewN | apply below_drew1 | refine below_set ?_ (by have ho_ := ORD.out; show w.heap.size ≤ gb248; omega)) | exact HB.out)) hb); have n1_ := Aside0.mk ((Zs.below (by (repeat (first | with_reducible refine Zs.alloc ?_ _ | with_reducible refine Zs.drewN ?_ _ | with_reducible refine Zs.drew ?_ | with_reducible refine Zs.set ?_ _ _)); exact HZ.out) hb : Zs (gb248 + 1) w277)); have n2_ := Aside0.mk (blk_below (g := gb1) (o := .cells #[.slice A0_0 l0_0.length c0_0, .slice A0_1 l0_1.length c0_1] 40 (0, 0)) (by (repeat (first | with_reducible refine blk_drewN ?_ _ | with_reducible refine blk_drew ?_ | with_reducible refine blk_alloc ?_ _ | refine blk_other ?_ (by have ho_ := ORD.out; show gb1 ≠ gb248; omega) _)); exact BKgb1.out) hb); have n3_ := Aside0.mk (blk_below (g := gb21) (o := .cells #[.slice AuW r1.length cuW, .slice AvW r2.length cvW] 25 (0, 0)) (by (repeat (first | with_reducible refine blk_drewN ?_ _ | with_reducible refine blk_drew ?_ | with_reducible refine blk_alloc ?_ _ | refine blk_other ?_ (by have ho_ := ORD.out; show gb21 ≠ gb248; omega) _)); exact BKgb21.out) hb); have n4_ := Aside0.mk (blk_below (g := gb41) (o := .cells #[.slice AuX l0_0.length cuX, .slice AvX l0_1.length cvX] 25 (0, 0)) (by (repeat (first | with_reducible refine blk_drewN ?_ _ | with_reducible refine blk_drew ?_ | with_reducible refine blk_alloc ?_ _ | refine blk_other ?_ (by have ho_ := ORD.out; show gb41 ≠ gb248; omega) _)); exact BKgb41.out) hb); have n5_ := Aside0.mk (blk_below (g := gb71) (o := .cells #[.slice AuI r1.length cuI, .slice AvI r2.length cvI] 25 (0, 0)) (by (repeat (first | with_reducible refine blk_drewN ?_ _ | with_reducible refine blk_drew ?_ | with_reducible refine blk_alloc ?_ _ | refine blk_other ?_ (by have ho_ := ORD.out; show gb71 ≠ gb248; omega) _)); exact BKgb71.out) hb); have n6_ := Aside0.mk (blk_below (g := gb248) (o := .cells #[.slice AuJ r1.length cuJ, .slice AvJ r2.length cvJ] 25 (0, 0)) (by (with_reducible repeat (first | refine blk_drewN ?_ _ | refine blk_drew ?_ | refine blk_alloc ?_ _)); refine blk_put (cs := #[.slice AuJ r1.length cuJ, .slice none 0 0]) ?_ 1 _ rfl; (with_reducible repeat (first | refine blk_drewN ?_ _ | refine blk_drew ?_ | refine blk_alloc ?_ _)); refine blk_put (cs := #[.slice none 0 0, .slice none 0 0]) ?_ 0 _ rfl; (with_reducible repeat (first | refine blk_drewN ?_ _ | refine blk_drew ?_ | refine blk_alloc ?_ _)); exact BKgb248.out) hb); have n7_ := Aside0.mk (BkAt.below (base := w.heap.size) (q := fun _ => True) (lo := loW) (hi := hiW) (u0 := .slice AuW r1.length cuW) (u1 := .slice AvW r2.length cvW) (c := r1) (d := r2) (by (repeat (first | with_reducible refine BkAt.alloc ?_ _ | with_reducible refine BkAt.drewN ?_ _ | with_reducible refine BkAt.drew ?_ | refine BkAt.set ?_ (by have ho_ := ORD.out; show gb248 < loW ∨ hiW ≤ gb248; omega) _)); exact BOW.out) hb); have n8_ := Aside0.mk (BkAt.below (base := w.heap.size) (q := fun _ => True) (lo := loI) (hi := hiI) (u0 := .slice AuI r1.length cuI) (u1 := .slice AvI r2.length cvI) (c := y1) (d := y2) (by (repeat (first | with_reducible refine BkAt.alloc ?_ _ | with_reducible refine BkAt.drewN ?_ _ | with_reducible refine BkAt.drew ?_ | refine BkAt.set ?_ (by have ho_ := ORD.out; show gb248 < loI ∨ hiI ≤ gb248; omega) _)); exact BOI.out) hb); have n9_ := Aside0.mk (BkAt.below (base := w.heap.size) (q := fun _ => True) (lo := loJ) (hi := hiJ) (u0 := .slice AuJ r1.length cuJ) (u1 := .slice AvJ r2.length cvJ) (c := r1) (d := r2) (by (repeat (first | with_reducible refine BkAt.alloc ?_ _ | with_reducible refine BkAt.drewN ?_ _ | with_reducible refine BkAt.drew ?_ | refine BkAt.set ?_ (by have ho_ := ORD.out; show gb248 < loJ ∨ hiJ ≤ gb248; omega) _)); exact BOJ.out) hb); (try clear HB); (try clear HZ); (try clear BKgb1); (try clear BKgb21); (try clear BKgb41); (try clear BKgb71); (try clear BKgb248); (try clear BOW); (try clear BOI); (try clear BOJ); have HB := n0_; have HZ := n1_; have BKgb1 := n2_; have BKgb21 := n3_; have BKgb41 := n4_; have BKgb71 := n5_; have BKgb248 := n6_; have BOW := n7_; have BOI := n8_; have BOJ := n9_; clear n0_ n1_ n2_ n3_ n4_ n5_ n6_ n7_ n8_ n9_; (try clear hb); have hcz278 : w277.cell? ⟨gb1, 0, none⟩ = some (.slice A0_0 l0_0.length c0_0) := (blk_cell BKgb1.out 0).trans rfl; have hfz279 := blk_frozen BKgb1.out 0; have hcz280 : w277.cell? ⟨gb1, 1, none⟩ = some (.slice A0_1 l0_1.length c0_1) := (blk_cell BKgb1.out 1).trans rfl; have hfz281 := blk_frozen BKgb1.out 1; have hcz282 : w277.cell? ⟨gb21, 0, none⟩ = some (.slice AuW r1.length cuW) := (blk_cell BKgb21.out 0).trans rfl; have hfz283 := blk_frozen BKgb21.out 0; have hcz284 : w277.cell? ⟨gb21, 1, none⟩ = some (.slice AvW r2.length cvW) := (blk_cell BKgb21.out 1).trans rfl; have hfz285 := blk_frozen BKgb21.out 1; have hcz286 : w277.cell? ⟨gb41, 0, none⟩ = some (.slice AuX l0_0.length cuX) := (blk_cell BKgb41.out 0).trans rfl; have hfz287 := blk_frozen BKgb41.out 0; have hcz288 : w277.cell? ⟨gb41, 1, none⟩ = some (.slice AvX l0_1.length cvX) := (blk_cell BKgb41.out 1).trans rfl; have hfz289 := blk_frozen BKgb41.out 1; have hcz290 : w277.cell? ⟨gb71, 0, none⟩ = some (.slice AuI r1.length cuI) := (blk_cell BKgb71.out 0).trans rfl; have hfz291 := blk_frozen BKgb71.out 0; have hcz292 : w277.cell? ⟨gb71, 1, none⟩ = some (.slice AvI r2.length cvI) := (blk_cell BKgb71.out 1).trans rfl; have hfz293 := blk_frozen BKgb71.out 1; have hcz294 : w277.cell? ⟨gb248, 0, none⟩ = some (.slice AuJ r1.length cuJ) := (blk_cell BKgb248.out 0).trans rfl; have hfz295 := blk_frozen BKgb248.out 0; have hcz296 : w277.cell? ⟨gb248, 1, none⟩ = some (.slice AvJ r2.length cvJ) := (blk_cell BKgb248.out 1).trans rfl; have hfz297 := blk_frozen BKgb248.out 1) | ((with_reducible refine gate_callee (f := 37) rfl ?_); refine goesL_ (some 100) rfl rfl Try.func37 (by kernel_rfl) rfl #[.agg #[.slice AuI r1.length cuI, .slice AvI r2.length cvI], .int .i64 1] rfl (by (try simp only [List.map_toArray, List.map_cons, List.map_nil]); first | done | rfl | (simp only [List.length_drop, List.length_take]; rfl)) ?_; (with_reducible refine (heldB k loI hiI (fun _ => True) _ _ _ y1 _ _ _ y2 1 m w.heap.size _ ?side1 HH.out).mono ?_); (case side1 => (repeat (first | with_reducible refine BkAt.alloc ?_ _ | with_reducible refine BkAt.drewN ?_ _ | with_reducible refine BkAt.drew ?_)); exact BOI.out); rintro e w298 ⟨rfl, hb⟩; refine ⟨_, rfl, ?_⟩; have n0_ := Aside0.mk (below_step (by repeat (first | (with_reducible first | exact HB.out | apply below_alloc | apply pw_below_drewN | apply below_drew1) | exact HB.out)) hb); have n1_ := Aside0.mk ((Zs.below (by (repeat (first | with_reducible refine Zs.alloc ?_ _ | with_reducible refine Zs.drewN ?_ _ | with_reducible refine Zs.drew ?_ | with_reducible refine Zs.set ?_ _ _)); exact HZ.out) hb : Zs (gb248 + 1) w298)); have n2_ := Aside0.mk (blk_below (g := gb1) (o := .cells #[.slice A0_0 l0_0.length c0_0, .slice A0_1 l0_1.length c0_1] 40 (0, 0)) (by (with_reducible repeat (first | refine blk_drewN ?_ _ | refine blk_drew ?_ | refine blk_alloc ?_ _)); exact BKgb1.out) hb); have n3_ := Aside0.mk (blk_below (g := gb21) (o := .cells #[.slice AuW r1.length cuW, .slice AvW r2.length cvW] 25 (0, 0)) (by (with_reducible repeat (first | refine blk_drewN ?_ _ | refine blk_drew ?_ | refine blk_alloc ?_ _)); exact BKgb21.out) hb); have n4_ := Aside0.mk (blk_below (g := gb41) (o := .cells #[.slice AuX l0_0.length cuX, .slice AvX l0_1.length cvX] 25 (0, 0)) (by (with_reducible repeat (first | refine blk_drewN ?_ _ | refine blk_drew ?_ | refine blk_alloc ?_ _)); exact BKgb41.out) hb); have n5_ := Aside0.mk (blk_below (g := gb71) (o := .cells #[.slice AuI r1.length cuI, .slice AvI r2.length cvI] 25 (0, 0)) (by (with_reducible repeat (first | refine blk_drewN ?_ _ | refine blk_drew ?_ | refine blk_alloc ?_ _)); exact BKgb71.out) hb); have n6_ := Aside0.mk (blk_below (g := gb248) (o := .cells #[.slice AuJ r1.length cuJ, .slice AvJ r2.length cvJ] 25 (0, 0)) (by (with_reducible repeat (first | refine blk_drewN ?_ _ | refine blk_drew ?_ | refine blk_alloc ?_ _)); exact BKgb248.out) hb); have n7_ := Aside0.mk (BkAt.below (base := w.heap.size) (q := fun _ => True) (lo := loW) (hi := hiW) (u0 := .slice AuW r1.length cuW) (u1 := .slice AvW r2.length cvW) (c := r1) (d := r2) (by (repeat (first | with_reducible refine BkAt.alloc ?_ _ | with_reducible refine BkAt.drewN ?_ _ | with_reducible refine BkAt.drew ?_)); exact BOW.out) hb); have n8_ := Aside0.mk (BkAt.below (base := w.heap.size) (q := fun _ => True) (lo := loI) (hi := hiI) (u0 := .slice AuI r1.length cuI) (u1 := .slice AvI r2.length cvI) (c := y1) (d := y2) (by (repeat (first | with_reducible refine BkAt.alloc ?_ _ | with_reducible refine BkAt.drewN ?_ _ | with_reducible refine BkAt.drew ?_)); exact BOI.out) hb); have n9_ := Aside0.mk (BkAt.below (base := w.heap.size) (q := fun _ => True) (lo := loJ) (hi := hiJ) (u0 := .slice AuJ r1.length cuJ) (u1 := .slice AvJ r2.length cvJ) (c := r1) (d := r2) (by (repeat (first | with_reducible refine BkAt.alloc ?_ _ | with_reducible refine BkAt.drewN ?_ _ | with_reducible refine BkAt.drew ?_)); exact BOJ.out) hb); (try clear HB); (try clear HZ); (try clear BKgb1); (try clear BKgb21); (try clear BKgb41); (try clear BKgb71); (try clear BKgb248); (try clear BOW); (try clear BOI); (try clear BOJ); have HB := n0_; have HZ := n1_; have BKgb1 := n2_; have BKgb21 := n3_; have BKgb41 := n4_; have BKgb71 := n5_; have BKgb248 := n6_; have BOW := n7_; have BOI := n8_; have BOJ := n9_; clear n0_ n1_ n2_ n3_ n4_ n5_ n6_ n7_ n8_ n9_; (try clear hb); have hcz299 : w298.cell? ⟨gb1, 0, none⟩ = some (.slice A0_0 l0_0.length c0_0) := (blk_cell BKgb1.out 0).trans rfl; have hfz300 := blk_frozen BKgb1.out 0; have hcz301 : w298.cell? ⟨gb1, 1, none⟩ = some (.slice A0_1 l0_1.length c0_1) := (blk_cell BKgb1.out 1).trans rfl; have hfz302 := blk_frozen BKgb1.out 1; have hcz303 : w298.cell? ⟨gb21, 0, none⟩ = some (.slice AuW r1.length cuW) := (blk_cell BKgb21.out 0).trans rfl; have hfz304 := blk_frozen BKgb21.out 0; have hcz305 : w298.cell? ⟨gb21, 1, none⟩ = some (.slice AvW r2.length cvW) := (blk_cell BKgb21.out 1).trans rfl; have hfz306 := blk_frozen BKgb21.out 1; have hcz307 : w298.cell? ⟨gb41, 0, none⟩ = some (.slice AuX l0_0.length cuX) := (blk_cell BKgb41.out 0).trans rfl; have hfz308 := blk_frozen BKgb41.out 0; have hcz309 : w298.cell? ⟨gb41, 1, none⟩ = some (.slice AvX l0_1.length cvX) := (blk_cell BKgb41.out 1).trans rfl; have hfz310 := blk_frozen BKgb41.out 1; have hcz311 : w298.cell? ⟨gb71, 0, none⟩ = some (.slice AuI r1.length cuI) := (blk_cell BKgb71.out 0).trans rfl; have hfz312 := blk_frozen BKgb71.out 0; have hcz313 : w298.cell? ⟨gb71, 1, none⟩ = some (.slice AvI r2.length cvI) := (blk_cell BKgb71.out 1).trans rfl; have hfz314 := blk_frozen BKgb71.out 1; have hcz315 : w298.cell? ⟨gb248, 0, none⟩ = some (.slice AuJ r1.length cuJ) := (blk_cell BKgb248.out 0).trans rfl; have hfz316 := blk_frozen BKgb248.out 0; have hcz317 : w298.cell? ⟨gb248, 1, none⟩ = some (.slice AvJ r2.length cvJ) := (blk_cell BKgb248.out 1).trans rfl; have hfz318 := blk_frozen BKgb248.out 1))
  go_ret
  exact ⟨by first | rfl | (simp; done) | (simp [*]; done), by repeat (first | (with_reducible first | exact HB.out | apply below_alloc | apply pw_below_drewN | apply below_drew1) | exact HB.out)⟩
end Go.Proofs.Ytfooakkhkehpiaa.PE
namespace Go.Proofs.Ytfooakkhkehpiaa.Qh
open Go.RowKit Go.Proofs.YtfooakkhkehpiaaW.PrintWords Go.Proofs.YtfooakkhkehpiaaW.PrintMore
set_option linter.unusedVariables false
set_option linter.unusedSimpArgs false
theorem w64 {n : Int} (h1 : -9223372036854775808 ≤ n) (h2 : n ≤ 9223372036854775807) : wrap64 n = n := by unfold wrap64; omega
theorem wsucc {i n : Nat} (h : i < n) (hn : n ≤ 4611686018427387904) : wrap64 ((i : Int) + 1) = ((i + 1 : Nat) : Int) := by unfold wrap64; omega
section
variable {α β : Type} {r : α}
theorem evPos {c : Prop} [Decidable c] {g f : Nat → Option α} (h : c) (k : Ev g r) : Ev (fun n => if c then g n else f n) r := by
  simp only [if_pos h]; exact k
theorem evNeg {c : Prop} [Decidable c] {g f : Nat → Option α} (h : ¬ c) (k : Ev f r) : Ev (fun n => if c then g n else f n) r := by
  simp only [if_neg h]; exact k
theorem evBind0 {g : Option β} {f : Nat → β → Option α} {a : β} (h : g = some a) (k : Ev (fun n => f n a) r) : Ev (fun n => g.bind (f n)) r := by
  subst h; exact k
theorem evNow {g : Option α} (h : g = some r) : Ev (fun _ => g) r := by subst h; exact Ev.now r
theorem evEq {g : Nat → Option α} {q : α} (h : Ev g q) (e : q = r) : Ev g r := e ▸ h
end
theorem rd_get (xs : List Int) (i : Nat) (h : i < xs.length) : rd xs (i : Int) = xs[i] := by
  simp [rd, List.getD_eq_getElem?_getD, List.getElem?_eq_getElem h]
theorem getD_set {α : Type} (xs : List α) (d v : α) (i j : Nat) (h : i < xs.length) : (xs.set i v).getD j d = if i = j then v else xs.getD j d := by
  simp only [List.getD_eq_getElem?_getD, List.getElem?_set]
  by_cases e : i = j
  · subst e; simp [h]
  · simp [e]
theorem rd_set (xs : List Int) (v : Int) (i j : Int) (h0 : 0 ≤ i) (h : i < xs.length) (hj : 0 ≤ j) : rd (xs.set i.toNat v) j = if i = j then v else rd xs j := by
  unfold rd
  rw [getD_set xs 0 v i.toNat j.toNat (by omega)]
  by_cases e : i = j
  · subst e; simp
  · rw [if_neg e, if_neg (by omega)]
theorem ext_rd (xs ys : List Int) (hl : xs.length = ys.length) (h : ∀ i : Nat, i < xs.length → rd xs (i : Int) = rd ys (i : Int)) : xs = ys := by
  apply List.ext_getElem hl
  intro i h1 h2
  have := h i h1
  rwa [rd_get xs i h1, rd_get ys i h2] at this
theorem ext_getD {α : Type} (d : α) (xs ys : List α) (hl : xs.length = ys.length) (h : ∀ i : Nat, i < xs.length → xs.getD i d = ys.getD i d) : xs = ys := by
  apply List.ext_getElem hl
  intro i h1 h2
  have := h i h1
  simpa [List.getD_eq_getElem?_getD, List.getElem?_eq_getElem h1, List.getElem?_eq_getElem h2] using this
theorem getD_mem {α : Type} (d : α) (xs : List α) (i : Nat) (h : i < xs.length) : xs.getD i d ∈ xs := by
  simp [List.getD_eq_getElem?_getD, List.getElem?_eq_getElem h]
def EvB (g : Nat → Option Bool) (p : Prop) : Prop := ∃ b, (b = true ↔ p) ∧ Ev g b
section
variable {g f : Nat → Option Bool} {p q : Prop}
theorem EvB.congr (h : EvB g p) (e : p ↔ q) : EvB g q := by obtain ⟨b, h1, h2⟩ := h; exact ⟨b, h1.trans e, h2⟩
theorem EvB.tt (h : p) : EvB (fun _ => some true) p := ⟨true, by simp [h], Ev.now _⟩
theorem EvB.ff (h : ¬ p) : EvB (fun _ => some false) p := ⟨false, by simp [h], Ev.now _⟩
theorem EvB.pos {c : Prop} [Decidable c] (h : c) (k : EvB g p) : EvB (fun n => if c then g n else f n) p := by obtain ⟨b, h1, h2⟩ := k; exact ⟨b, h1, evPos h h2⟩
theorem EvB.neg {c : Prop} [Decidable c] (h : ¬ c) (k : EvB f p) : EvB (fun n => if c then g n else f n) p := by obtain ⟨b, h1, h2⟩ := k; exact ⟨b, h1, evNeg h h2⟩
theorem EvB.step {g f : Nat → Option Bool} (h : ∀ k, g (k + 1) = f k) (k : EvB f p) : EvB g p := by obtain ⟨b, h1, h2⟩ := k; exact ⟨b, h1, Ev.step h h2⟩
theorem EvB.bind {β : Type} {g : Nat → Option β} {f : Nat → β → Option Bool} {a : β} (h : Ev g a) (k : EvB (fun n => f n a) p) : EvB (fun n => (g n).bind (f n)) p := by obtain ⟨b, h1, h2⟩ := k; exact ⟨b, h1, Ev.bind h h2⟩
theorem EvB.bind0 {β : Type} {g : Option β} {f : Nat → β → Option Bool} {a : β} (h : g = some a) (k : EvB (fun n => f n a) p) : EvB (fun n => g.bind (f n)) p := by obtain ⟨b, h1, h2⟩ := k; exact ⟨b, h1, evBind0 h h2⟩
theorem EvB.yes (h : EvB g p) (hp : p) : Ev g true := by obtain ⟨b, h1, h2⟩ := h; rw [h1.2 hp] at h2; exact h2
theorem EvB.no (h : EvB g p) (hp : ¬ p) : Ev g false := by
  obtain ⟨b, h1, h2⟩ := h
  have : b = false := by cases b with
    | true => exact absurd (h1.1 rfl) hp
    | false => rfl
  rw [this] at h2; exact h2
end
end Go.Proofs.Ytfooakkhkehpiaa.Qh
namespace Go.Proofs.Ytfooakkhkehpiaa.TiE
open Go.RowKit Go.Proofs.Ytfooakkhkehpiaa.PE Go.Proofs.Ytfooakkhkehpiaa.Qh Go.Proofs.YtfooakkhkehpiaaW.PrintWords Go.Proofs.YtfooakkhkehpiaaW.PrintMore
set_option linter.unusedVariables false
set_option linter.unusedSimpArgs false
theorem toI_l (l : List Int) (hl : l.length ≤ 1048576) : ∀ (d i : Nat) (o : List Int), l.length - i = d → i ≤ l.length → o.length = l.length → (∀ j : Nat, j < i → rd o (j : Int) = rd l (j : Int)) →
    Ev (fun k => laws_toIntS.l0 k l o (i : Int)) l := by
  intro d
  induction d with
  | zero =>
    intro i o hd hi ho hj
    obtain rfl : i = l.length := by omega
    refine Ev.step (fun k => by rw [laws_toIntS.l0]) ?_
    refine evNeg (by omega) ?_
    exact evNow (by rw [ext_rd o l ho (fun j h => hj j (by omega))])
  | succ d ih =>
    intro i o hd hi ho hj
    have hlt : i < l.length := by omega
    have hs : wrap64 ((i : Int) + 1) = ((i + 1 : Nat) : Int) := wsucc hlt (by omega)
    refine Ev.step (fun k => by rw [laws_toIntS.l0]) ?_
    refine evPos (by omega) (evPos (by omega) (evPos (by omega) ?_))
    rw [hs]
    refine ih (i + 1) _ (by omega) (by omega) (by simp [ho]) (fun j h => ?_)
    rw [rd_set _ _ _ _ (by omega) (by omega) (by omega)]
    by_cases e : (i : Int) = j
    · rw [if_pos e, e]
    · rw [if_neg e]; exact hj j (by omega)
theorem toI (l : List Int) (hl : l.length ≤ 1048576) : Ev (fun k => laws_toIntS.f k l) l := by
  unfold laws_toIntS.f
  refine evPos (by omega) (evPos (by omega) ?_)
  exact toI_l l hl l.length 0 _ (by omega) (by omega) (by simp) (fun j h => by omega)
theorem eqI_l (l : List Int) (hl : l.length ≤ 4611686018427387904) : ∀ (d i : Nat), l.length - i = d → i ≤ l.length → Ev (fun k => laws_eqIntS.l0 k l l (i : Int)) true := by
  intro d
  induction d with
  | zero =>
    intro i hd hi
    refine Ev.step (fun k => by rw [laws_eqIntS.l0]) ?_
    exact evNeg (by omega) (Ev.now _)
  | succ d ih =>
    intro i hd hi
    have hlt : i < l.length := by omega
    have hs : wrap64 ((i : Int) + 1) = ((i + 1 : Nat) : Int) := wsucc hlt (by omega)
    refine Ev.step (fun k => by rw [laws_eqIntS.l0]) ?_
    refine evPos (by omega) (evPos (by omega) (evPos (by omega) (evPos rfl ?_)))
    rw [hs]
    exact ih (i + 1) (by omega) (by omega)
theorem eqI (l : List Int) (hl : l.length ≤ 4611686018427387904) : Ev (fun k => laws_eqIntS.f k l l) true := by
  unfold laws_eqIntS.f
  exact evPos rfl (eqI_l l hl l.length 0 (by omega) (by omega))
end Go.Proofs.Ytfooakkhkehpiaa.TiE
namespace Go.Proofs.Ytfooakkhkehpiaa.TbE
open Go.RowKit Go.Proofs.Ytfooakkhkehpiaa.PE Go.Proofs.Ytfooakkhkehpiaa.Qh Go.Proofs.YtfooakkhkehpiaaW.PrintWords Go.Proofs.YtfooakkhkehpiaaW.PrintMore
set_option linter.unusedVariables false
set_option linter.unusedSimpArgs false
def Small (c : List Int) (d : List (List Int)) : Prop := c.length ≤ 1048576 ∧ d.length ≤ 1048576 ∧ ∀ i : Nat, i < d.length → (rd_L1 d (i : Int)).length ≤ 1048576
theorem rL2 (xs : List (List Int)) (i : Nat) : rd_L1 xs (i : Int) = xs.getD i [] := rfl
theorem szI (l : List Int) (hm : l.length ≤ 9223372036854775807) (a : Int) (h0 : 0 ≤ a) (h1 : a ≤ 1048576) : laws_szIntS.f l a = some (if (l.length : Int) ≤ a then a - (l.length : Int) else -1) := by
  unfold laws_szIntS.f
  rw [w64 (by omega) (by omega)]
  by_cases h : (l.length : Int) ≤ a
  · rw [if_neg (by omega), if_pos h]
  · rw [if_pos (by omega), if_neg h]
theorem szSS_l (d : List (List Int)) (hd : d.length ≤ 1048576) (hr : ∀ y ∈ d, y.length ≤ 9223372036854775807) : ∀ (e i : Nat) (a : Int), d.length - i = e → i ≤ d.length → 0 ≤ a → a ≤ 1048576 →
    (∃ t : Int, 0 ≤ t ∧ t ≤ 1048576 ∧ (∀ i' : Nat, i ≤ i' → i' < d.length → (rd_L1 d (i' : Int)).length ≤ 1048576) ∧ Ev (fun k => laws_szIntSS.l0 k d a (i : Int)) t) ∨ Ev (fun k => laws_szIntSS.l0 k d a (i : Int)) (-1) := by
  intro e
  induction e with
  | zero =>
    intro i a he hi h0 h1
    refine .inl ⟨a, h0, h1, fun i' h2 h3 => by omega, Ev.step (fun k => by rw [laws_szIntSS.l0]) (evNeg (by omega) (Ev.now _))⟩
  | succ e ih =>
    intro i a he hi h0 h1
    have hlt : i < d.length := by omega
    have hs : wrap64 ((i : Int) + 1) = ((i + 1 : Nat) : Int) := wsucc hlt (by omega)
    have hm : (rd_L1 d (i : Int)).length ≤ 9223372036854775807 := hr _ (by rw [rL2]; exact getD_mem [] d i hlt)
    by_cases h : ((rd_L1 d (i : Int)).length : Int) ≤ a
    · have hz := szI _ hm a h0 h1
      rw [if_pos h] at hz
      rcases ih (i + 1) (a - ((rd_L1 d (i : Int)).length : Int)) (by omega) (by omega) (by omega) (by omega) with ⟨t, t0, t1, t2, t3⟩ | h3
      · refine .inl ⟨t, t0, t1, fun i' h5 h6 => ?_, ?_⟩
        · by_cases e' : i' = i
          · subst e'; omega
          · exact t2 i' (by omega) h6
        · refine Ev.step (fun k => by rw [laws_szIntSS.l0]) ?_
          refine evPos (by omega) (evPos (by omega) (evBind0 hz (evNeg (by omega) ?_)))
          rw [hs]; exact t3
      · refine .inr ?_
        refine Ev.step (fun k => by rw [laws_szIntSS.l0]) ?_
        refine evPos (by omega) (evPos (by omega) (evBind0 hz (evNeg (by omega) ?_)))
        rw [hs]; exact h3
    · have hz := szI _ hm a h0 h1
      rw [if_neg h] at hz
      refine .inr ?_
      refine Ev.step (fun k => by rw [laws_szIntSS.l0]) ?_
      refine evPos (by omega) (evPos (by omega) (evBind0 hz ?_))
      exact evPos (by omega) (Ev.now _)
theorem szB (c : List Int) (d : List (List Int)) (hc : c.length ≤ 9223372036854775807) (hd : d.length ≤ 9223372036854775807) (hr : ∀ y ∈ d, y.length ≤ 9223372036854775807) (a : Int) (h0 : 0 ≤ a) (h1 : a ≤ 1048576) :
    (∃ t : Int, 0 ≤ t ∧ t ≤ 1048576 ∧ Small c d ∧ Ev (fun k => laws_szBook.f k c d a) t) ∨ Ev (fun k => laws_szBook.f k c d a) (-1) := by
  unfold laws_szBook.f
  have hz := szI c hc a h0 h1
  by_cases h : (c.length : Int) ≤ a
  · rw [if_pos h] at hz
    have hz2 := szI
    by_cases h2 : (d.length : Int) ≤ a - c.length
    · have hw : wrap64 (a - (c.length : Int) - (d.length : Int)) = a - (c.length : Int) - (d.length : Int) := w64 (by omega) (by omega)
      rcases szSS_l d (by omega) hr _ 0 (a - (c.length : Int) - (d.length : Int)) rfl (by omega) (by omega) (by omega) with ⟨t, t0, t1, t2, t3⟩ | h3
      · refine .inl ⟨t, t0, t1, ⟨by omega, by omega, fun i hi => t2 i (by omega) hi⟩, evBind0 hz (evNeg (by omega) (Ev.bind (a := t) ?_ (evNeg (by omega) (Ev.now _))))⟩
        unfold laws_szIntSS.f
        rw [hw]
        exact evNeg (by omega) t3
      · refine .inr (evBind0 hz (evNeg (by omega) (Ev.bind (a := -1) ?_ (evPos (by omega) (Ev.now _)))))
        unfold laws_szIntSS.f
        rw [hw]
        exact evNeg (by omega) h3
    · have hw : wrap64 (a - (c.length : Int) - (d.length : Int)) = a - (c.length : Int) - (d.length : Int) := w64 (by omega) (by omega)
      refine .inr (evBind0 hz (evNeg (by omega) (Ev.bind (a := -1) ?_ (evPos (by omega) (Ev.now _)))))
      unfold laws_szIntSS.f
      rw [hw]
      exact evPos (by omega) (Ev.now _)
  · rw [if_neg h] at hz
    exact .inr (evBind0 hz (evPos (by omega) (Ev.now _)))
theorem toSS_l (l : List (List Int)) (hl : l.length ≤ 1048576) (hr : ∀ i : Nat, i < l.length → (rd_L1 l (i : Int)).length ≤ 1048576) : ∀ (d i : Nat) (o : List (List Int)), l.length - i = d → i ≤ l.length → o.length = l.length → (∀ j : Nat, j < i → o.getD j [] = l.getD j []) →
    Ev (fun k => laws_toIntSS.l0 k l o (i : Int)) l := by
  intro d
  induction d with
  | zero =>
    intro i o hd hi ho hj
    refine Ev.step (fun k => by rw [laws_toIntSS.l0]) ?_
    refine evNeg (by omega) (evEq (Ev.now _) ?_)
    exact ext_getD [] _ _ ho (fun j h => hj j (by omega))
  | succ d ih =>
    intro i o hd hi ho hj
    have hlt : i < l.length := by omega
    have hs : wrap64 ((i : Int) + 1) = ((i + 1 : Nat) : Int) := wsucc hlt (by omega)
    refine Ev.step (fun k => by rw [laws_toIntSS.l0]) ?_
    refine evPos (by omega) (evPos (by omega) (Ev.bind (TiE.toI _ (hr i hlt)) ?_))
    refine evPos (by omega) ?_
    rw [hs, Int.toNat_natCast]
    refine ih (i + 1) _ (by omega) (by omega) (by rw [List.length_set]; exact ho) (fun j h => ?_)
    rw [getD_set _ _ _ _ _ (by omega)]
    by_cases e : i = j
    · subst e; rw [if_pos rfl]; rfl
    · rw [if_neg e]; exact hj j (by omega)
theorem toSS (l : List (List Int)) (hl : l.length ≤ 1048576) (hr : ∀ i : Nat, i < l.length → (rd_L1 l (i : Int)).length ≤ 1048576) : Ev (fun k => laws_toIntSS.f k l) l := by
  unfold laws_toIntSS.f
  refine evPos (by omega) (evPos (by omega) ?_)
  exact toSS_l l hl hr l.length 0 _ (by omega) (by omega) (by simp) (fun j h => by omega)
theorem toB (c : List Int) (d : List (List Int)) (h : Small c d) : Ev (fun k => laws_toBook.f k c d) (c, d) := by
  unfold laws_toBook.f
  exact Ev.bind (TiE.toI c h.1) (Ev.bind (toSS d h.2.1 h.2.2) (Ev.now _))
theorem eqSS_l (l : List (List Int)) (hl : l.length ≤ 1048576) (hr : ∀ i : Nat, i < l.length → (rd_L1 l (i : Int)).length ≤ 1048576) : ∀ (d i : Nat), l.length - i = d → i ≤ l.length → Ev (fun k => laws_eqIntSS.l0 k l l (i : Int)) true := by
  intro d
  induction d with
  | zero =>
    intro i hd hi
    exact Ev.step (fun k => by rw [laws_eqIntSS.l0]) (evNeg (by omega) (Ev.now _))
  | succ d ih =>
    intro i hd hi
    have hlt : i < l.length := by omega
    have hs : wrap64 ((i : Int) + 1) = ((i + 1 : Nat) : Int) := wsucc hlt (by omega)
    refine Ev.step (fun k => by rw [laws_eqIntSS.l0]) ?_
    refine evPos (by omega) (evPos (by omega) (evPos (by omega) (Ev.bind (TiE.eqI _ (by have := hr i hlt; omega)) ?_)))
    refine evPos rfl ?_
    rw [hs]
    exact ih (i + 1) (by omega) (by omega)
theorem eqB (c : List Int) (d : List (List Int)) (h : Small c d) : Ev (fun k => laws_eqBook.f k c d c d) true := by
  unfold laws_eqBook.f
  refine Ev.bind (TiE.eqI c (by have := h.1; omega)) (evPos rfl (Ev.bind (a := true) ?_ (evPos rfl (Ev.now _))))
  unfold laws_eqIntSS.f
  exact evPos rfl (eqSS_l d h.2.1 h.2.2 d.length 0 (by omega) (by omega))
end Go.Proofs.Ytfooakkhkehpiaa.TbE
namespace Go.Proofs.Ytfooakkhkehpiaa.MrE
open Go.RowKit Go.Proofs.Ytfooakkhkehpiaa.PE Go.Proofs.Ytfooakkhkehpiaa.Qh Go.Proofs.Ytfooakkhkehpiaa.TbE Go.Proofs.YtfooakkhkehpiaaW.PrintWords Go.Proofs.YtfooakkhkehpiaaW.PrintMore
set_option linter.unusedVariables false
set_option linter.unusedSimpArgs false
def mkI (n : Nat) (a : Int) : List Int := (List.range n).map (fun i : Nat => a + (i : Int))
theorem mkI_len (n : Nat) (a : Int) : (mkI n a).length = n := by simp [mkI]
theorem mkI_get {n i : Nat} {a : Int} (h : i < n) : rd (mkI n a) (i : Int) = a + i := by
  rw [rd_get _ _ (by rw [mkI_len]; exact h)]; simp [mkI]
theorem mI_l (n : Nat) (a : Int) (h0 : 0 ≤ a) (h1 : a + n ≤ 4611686018427387904) : ∀ (e i : Nat) (o : List Int), n - i = e → i ≤ n → o.length = n → (∀ j : Nat, j < i → rd o (j : Int) = a + j) →
    Ev (fun k => laws_markIntS.l0 k o (a + i) (i : Int)) (a + n, mkI n a) := by
  intro e
  induction e with
  | zero =>
    intro i o he hi ho hj
    obtain rfl : i = n := by omega
    refine Ev.step (fun k => by rw [laws_markIntS.l0]) ?_
    refine evNeg (by omega) (evEq (Ev.now _) ?_)
    rw [ext_rd o (mkI i a) (by rw [mkI_len, ho]) (fun j h => by rw [hj j (by omega), mkI_get (by omega)])]
  | succ e ih =>
    intro i o he hi ho hj
    have hlt : i < n := by omega
    have hs : wrap64 ((i : Int) + 1) = ((i + 1 : Nat) : Int) := wsucc hlt (by omega)
    have ha : wrap64 (a + (i : Int) + 1) = a + ((i + 1 : Nat) : Int) := by rw [w64 (by omega) (by omega)]; omega
    refine Ev.step (fun k => by rw [laws_markIntS.l0]) ?_
    refine evPos (by omega) (evPos (by omega) ?_)
    rw [hs, ha]
    refine ih (i + 1) _ (by omega) (by omega) (by simp [ho]) (fun j h => ?_)
    rw [rd_set _ _ _ _ (by omega) (by omega) (by omega)]
    by_cases z : (i : Int) = (j : Int)
    · rw [if_pos z, z]
    · rw [if_neg z]; exact hj j (by omega)
theorem mI (l : List Int) (a : Int) (h0 : 0 ≤ a) (h1 : a + l.length ≤ 4611686018427387904) : Ev (fun k => laws_markIntS.f k l a) (a + l.length, mkI l.length a) := by
  unfold laws_markIntS.f
  have := mI_l l.length a h0 h1 l.length 0 l rfl (by omega) rfl (fun j h => by omega)
  rw [show a + ((0 : Nat) : Int) = a by omega] at this
  exact this
theorem hI_l (n : Nat) (a : Int) (h0 : 0 ≤ a) (h1 : a + n ≤ 4611686018427387904) : ∀ (e i : Nat), n - i = e → i ≤ n → Ev (fun k => laws_heldIntS.l0 k (mkI n a) (a + i) (i : Int)) (a + n) := by
  have hl := mkI_len n a
  intro e
  induction e with
  | zero =>
    intro i he hi
    obtain rfl : i = n := by omega
    refine Ev.step (fun k => by rw [laws_heldIntS.l0]) ?_
    exact evNeg (by omega) (Ev.now _)
  | succ e ih =>
    intro i he hi
    have hlt : i < n := by omega
    have hs : wrap64 ((i : Int) + 1) = ((i + 1 : Nat) : Int) := wsucc hlt (by omega)
    have ha : wrap64 (a + (i : Int) + 1) = a + ((i + 1 : Nat) : Int) := by rw [w64 (by omega) (by omega)]; omega
    refine Ev.step (fun k => by rw [laws_heldIntS.l0]) ?_
    refine evPos (by omega) (evPos (by omega) (evPos (mkI_get hlt) ?_))
    rw [hs, ha]
    exact ih (i + 1) (by omega) (by omega)
theorem hI (n : Nat) (a : Int) (h0 : 0 ≤ a) (h1 : a + n ≤ 4611686018427387904) : Ev (fun k => laws_heldIntS.f k (mkI n a) a) (a + n) := by
  unfold laws_heldIntS.f
  have := hI_l n a h0 h1 n 0 rfl (by omega)
  rw [show a + ((0 : Nat) : Int) = a by omega] at this
  exact this
def st (l : List (List Int)) (a : Int) : Nat → Int
  | 0 => a
  | j + 1 => st l a j + (rd_L1 l (j : Int)).length
def mkSS (l : List (List Int)) (a : Int) : List (List Int) := (List.range l.length).map (fun j : Nat => mkI (rd_L1 l (j : Int)).length (st l a j))
theorem mkSS_len (l : List (List Int)) (a : Int) : (mkSS l a).length = l.length := by simp [mkSS]
theorem mkSS_get {l : List (List Int)} {a : Int} {j : Nat} (h : j < l.length) : (mkSS l a).getD j [] = mkI (rd_L1 l (j : Int)).length (st l a j) := by
  rw [List.getD_eq_getElem?_getD, List.getElem?_eq_getElem (by rw [mkSS_len]; exact h)]; simp [mkSS]
variable {l : List (List Int)} {a : Int}
theorem st_bd (h0 : 0 ≤ a) (hr : ∀ i : Nat, i < l.length → (rd_L1 l (i : Int)).length ≤ 1048576) : ∀ j : Nat, j ≤ l.length → 0 ≤ st l a j ∧ st l a j ≤ a + 1048576 * j
  | 0, _ => by simp [st, h0]
  | j + 1, hj => by
    have := st_bd h0 hr j (by omega)
    have := hr j (by omega)
    simp only [st]; omega
theorem mSS_l (hl : l.length ≤ 1048576) (hr : ∀ i : Nat, i < l.length → (rd_L1 l (i : Int)).length ≤ 1048576) (h0 : 0 ≤ a) (h1 : a ≤ 1048577) : ∀ (e i : Nat) (cur : List (List Int)), l.length - i = e → i ≤ l.length → cur.length = l.length → (∀ j : Nat, j < i → cur.getD j [] = (mkSS l a).getD j []) → (∀ j : Nat, i ≤ j → j < l.length → cur.getD j [] = l.getD j []) →
    Ev (fun k => laws_markIntSS.l0 k cur (st l a i) (i : Int)) (st l a l.length, mkSS l a) := by
  have hml := mkSS_len l a
  intro e
  induction e with
  | zero =>
    intro i cur he hi hc h2 h3
    obtain rfl : i = l.length := by omega
    refine Ev.step (fun k => by rw [laws_markIntSS.l0]) ?_
    refine evNeg (by omega) (evEq (Ev.now _) ?_)
    rw [ext_getD [] cur (mkSS l a) (by omega) (fun j h => h2 j (by omega))]
  | succ e ih =>
    intro i cur he hi hc h2 h3
    have hlt : i < l.length := by omega
    have hs : wrap64 ((i : Int) + 1) = ((i + 1 : Nat) : Int) := wsucc hlt (by omega)
    have hb := st_bd h0 hr i (by omega)
    have hri := hr i hlt
    have e1 : cur.getD (i : Int).toNat [] = rd_L1 l (i : Int) := by rw [Int.toNat_natCast, h3 i (Nat.le_refl _) hlt]; rfl
    refine Ev.step (fun k => by rw [laws_markIntSS.l0]) ?_
    refine evPos (by omega) (evPos (by omega) (Ev.bind (by rw [e1]; exact mI _ _ hb.1 (by omega)) ?_))
    rw [hs, Int.toNat_natCast]
    refine ih (i + 1) _ (by omega) (by omega) (by simp [hc]) (fun j h => ?_) (fun j h4 h5 => ?_)
    · rw [getD_set _ _ _ _ _ (by omega)]
      by_cases z : i = j
      · subst z; rw [if_pos rfl, mkSS_get hlt]
      · rw [if_neg z]; exact h2 j (by omega)
    · rw [getD_set _ _ _ _ _ (by omega), if_neg (by omega)]; exact h3 j (by omega) h5
theorem mSS (hl : l.length ≤ 1048576) (hr : ∀ i : Nat, i < l.length → (rd_L1 l (i : Int)).length ≤ 1048576) (h0 : 0 ≤ a) (h1 : a ≤ 1048577) : Ev (fun k => laws_markIntSS.f k l a) (st l a l.length, mkSS l a) := by
  unfold laws_markIntSS.f
  exact mSS_l hl hr h0 h1 l.length 0 l rfl (by omega) rfl (fun j h => by omega) (fun j _ _ => rfl)
theorem hSS_l (hl : l.length ≤ 1048576) (hr : ∀ i : Nat, i < l.length → (rd_L1 l (i : Int)).length ≤ 1048576) (h0 : 0 ≤ a) (h1 : a ≤ 1048577) : ∀ (e i : Nat), l.length - i = e → i ≤ l.length →
    Ev (fun k => laws_heldIntSS.l0 k (mkSS l a) (st l a i) (i : Int)) (st l a l.length) := by
  have hml := mkSS_len l a
  intro e
  induction e with
  | zero =>
    intro i he hi
    obtain rfl : i = l.length := by omega
    refine Ev.step (fun k => by rw [laws_heldIntSS.l0]) ?_
    exact evNeg (by omega) (Ev.now _)
  | succ e ih =>
    intro i he hi
    have hlt : i < l.length := by omega
    have hs : wrap64 ((i : Int) + 1) = ((i + 1 : Nat) : Int) := wsucc hlt (by omega)
    have hb := st_bd h0 hr i (by omega)
    have hb2 := st_bd h0 hr (i + 1) (by omega)
    have hri := hr i hlt
    have e1 : rd_L1 (mkSS l a) (i : Int) = mkI (rd_L1 l (i : Int)).length (st l a i) := mkSS_get hlt
    refine Ev.step (fun k => by rw [laws_heldIntSS.l0]) ?_
    refine evPos (by omega) (evPos (by omega) (Ev.bind (by rw [e1]; exact hI _ _ hb.1 (by omega)) ?_))
    rw [hs]
    exact evNeg (by omega) (ih (i + 1) (by omega) (by omega))
theorem hSS (hl : l.length ≤ 1048576) (hr : ∀ i : Nat, i < l.length → (rd_L1 l (i : Int)).length ≤ 1048576) (h0 : 0 ≤ a) (h1 : a ≤ 1048577) : Ev (fun k => laws_heldIntSS.f k (mkSS l a) a) (st l a l.length) := by
  unfold laws_heldIntSS.f
  exact hSS_l hl hr h0 h1 l.length 0 rfl (by omega)
theorem marks {c : List Int} {d : List (List Int)} (h : Small c d) : ∃ (m : Int) (c' : List Int) (d' : List (List Int)), 0 ≤ m ∧ Ev (fun k => laws_markBook.f k c d 1) (m, c', d') ∧ Ev (fun k => laws_heldBook.f k c' d' 1) m := by
  have hc := h.1
  have hb := st_bd (l := d) (a := 1 + c.length) (by omega) h.2.2 d.length (Nat.le_refl _)
  refine ⟨st d (1 + c.length) d.length, mkI c.length 1, mkSS d (1 + c.length), hb.1, ?_, ?_⟩
  · unfold laws_markBook.f
    exact Ev.bind (mI c 1 (by omega) (by omega)) (Ev.bind (mSS h.2.1 h.2.2 (by omega) (by omega)) (Ev.now _))
  · unfold laws_heldBook.f
    refine Ev.bind (hI c.length 1 (by omega) (by omega)) (evNeg (by omega) (Ev.bind (hSS h.2.1 h.2.2 (by omega) (by omega)) (evNeg (by omega) (Ev.now _))))
end Go.Proofs.Ytfooakkhkehpiaa.MrE
namespace Go.Proofs.Ytfooakkhkehpiaa.BkE
open Go.RowKit Go.Proofs.Ytfooakkhkehpiaa.PE Go.Proofs.Ytfooakkhkehpiaa.Qh Go.Proofs.YtfooakkhkehpiaaW.PrintWords Go.Proofs.YtfooakkhkehpiaaW.PrintMore
set_option linter.unusedVariables false
set_option linter.unusedSimpArgs false
def RowP (c : List Int) (d : List (List Int)) (i : Nat) : Prop :=
  0 ≤ rd c (i : Int) ∧ rd c (i : Int) ≤ 20 ∧ (rd_L1 d (i : Int)).length = c.length ∧ rd (rd_L1 d (i : Int)) (i : Int) = 0 ∧ ∀ j : Nat, j < c.length → 0 ≤ rd (rd_L1 d (i : Int)) (j : Int) ∧ rd (rd_L1 d (i : Int)) (j : Int) ≤ 9
def BookP (c : List Int) (d : List (List Int)) : Prop := 1 ≤ c.length ∧ c.length ≤ 4 ∧ d.length = c.length ∧ ∀ i : Nat, i < c.length → RowP c d i
theorem ib_l1 (c : List Int) (d : List (List Int)) (row : List Int) (x3 : Int) (i : Nat) (hrow : row.length ≤ 4) (hi : i < d.length) (hd : d.length ≤ 4) {R : Prop}
    (hR : EvB (fun k => impl_isBook.l0 k x3 d (d.length : Int) ((i + 1 : Nat) : Int) c d) R) : ∀ (e j : Nat), row.length - j = e → j ≤ row.length →
    EvB (fun k => impl_isBook.l1 k x3 d (d.length : Int) (i : Int) row (row.length : Int) (j : Int) c d) ((∀ j' : Nat, j ≤ j' → j' < row.length → 0 ≤ rd row (j' : Int) ∧ rd row (j' : Int) ≤ 9) ∧ R) := by
  have hs : wrap64 ((i : Int) + 1) = ((i + 1 : Nat) : Int) := wsucc hi (by omega)
  intro e
  induction e with
  | zero =>
    intro j he hj
    refine EvB.step (fun k => by rw [impl_isBook.l1]) ?_
    rw [hs]
    exact EvB.neg (by omega) (hR.congr ⟨fun h => ⟨fun j' h1 h2 => by omega, h⟩, fun h => h.2⟩)
  | succ e ih =>
    intro j he hj
    have hlt : j < row.length := by omega
    have hj1 : wrap64 ((j : Int) + 1) = ((j + 1 : Nat) : Int) := wsucc hlt (by omega)
    refine EvB.step (fun k => by rw [impl_isBook.l1]) ?_
    refine EvB.pos (by omega) (EvB.pos (by omega) (EvB.pos (by omega) ?_))
    by_cases h1 : rd row (j : Int) < 0
    · exact EvB.pos h1 (EvB.ff (fun h => by have := h.1 j (Nat.le_refl _) hlt; omega))
    · refine EvB.neg h1 ?_
      by_cases h2 : rd row (j : Int) > 9
      · exact EvB.pos h2 (EvB.ff (fun h => by have := h.1 j (Nat.le_refl _) hlt; omega))
      · refine EvB.neg h2 ?_
        rw [hj1]
        refine (ih (j + 1) (by omega) (by omega)).congr ⟨fun h => ⟨fun j' h3 h4 => ?_, h.2⟩, fun h => ⟨fun j' h3 h4 => h.1 j' (by omega) h4, h.2⟩⟩
        by_cases e' : j' = j
        · subst e'; exact ⟨by omega, by omega⟩
        · exact h.1 j' (by omega) h4
theorem ib_l0 (c : List Int) (d : List (List Int)) (h4 : c.length ≤ 4) (hl : d.length = c.length) : ∀ (e i : Nat), c.length - i = e → i ≤ c.length →
    EvB (fun k => impl_isBook.l0 k (c.length : Int) d (d.length : Int) (i : Int) c d) (∀ i' : Nat, i ≤ i' → i' < c.length → RowP c d i') := by
  intro e
  induction e with
  | zero =>
    intro i he hi
    refine EvB.step (fun k => by rw [impl_isBook.l0]) ?_
    exact EvB.neg (by omega) (EvB.tt (fun i' h1 h2 => by omega))
  | succ e ih =>
    intro i he hi
    have hlt : i < c.length := by omega
    refine EvB.step (fun k => by rw [impl_isBook.l0]) ?_
    refine EvB.pos (by omega) (EvB.pos (by omega) (EvB.pos (by omega) (EvB.pos (by omega) ?_)))
    have bad : ∀ (P : Prop), (P → ¬ RowP c d i) → P → EvB (fun k => impl_isBook.j2 k (c.length : Int) (rd_L1 d (i : Int)) d (d.length : Int) (i : Int) true c d) (∀ i' : Nat, i ≤ i' → i' < c.length → RowP c d i') := by
      intro P hP p
      refine EvB.step (fun k => by rw [impl_isBook.j2]) ?_
      exact EvB.pos rfl (EvB.ff (fun h => hP p (h i (Nat.le_refl _) hlt)))
    by_cases h1 : rd c (i : Int) < 0
    · exact EvB.pos h1 (bad _ (fun p h => by have := h.1; omega) h1)
    refine EvB.neg h1 ?_
    by_cases h2 : rd c (i : Int) > 20
    · exact EvB.pos h2 (bad _ (fun p h => by have := h.2.1; omega) h2)
    refine EvB.neg h2 ?_
    by_cases h3 : ((rd_L1 d (i : Int)).length : Int) = (c.length : Int)
    · refine EvB.pos h3 (EvB.pos (by omega) ?_)
      by_cases h5 : rd (rd_L1 d (i : Int)) (i : Int) = 0
      · refine EvB.step (fun k => by rw [impl_isBook.j2]) ?_
        refine EvB.neg (by rw [h5]; decide) ?_
        refine (ib_l1 c d (rd_L1 d (i : Int)) (c.length : Int) i (by omega) (by omega) (by omega) (ih (i + 1) (by omega) (by omega)) _ 0 rfl (by omega)).congr ?_
        constructor
        · intro h i' h6 h7
          by_cases e' : i' = i
          · subst e'; exact ⟨by omega, by omega, by omega, h5, fun j hj => h.1 j (by omega) (by omega)⟩
          · exact h.2 i' (by omega) h7
        · intro h
          have hr := h i (Nat.le_refl _) hlt
          exact ⟨fun j' _ h7 => hr.2.2.2.2 j' (by omega), fun i' h6 h7 => h i' (by omega) h7⟩
      · have hb : (rd (rd_L1 d (i : Int)) (i : Int) != 0) = true := bne_iff_ne.mpr h5
        rw [hb]
        exact bad _ (fun p h => p h.2.2.2.1) h5
    · exact EvB.neg h3 (bad _ (fun p h => p (by rw [h.2.2.1])) h3)
theorem isBook (c : List Int) (d : List (List Int)) : EvB (fun k => impl_isBook.f k c d) (BookP c d) := by
  unfold impl_isBook.f
  by_cases h1 : (c.length : Int) < 1
  · refine EvB.pos h1 (EvB.step (fun k => by rw [impl_isBook.j0]) ?_)
    exact EvB.pos rfl (EvB.ff (fun h => by have := h.1; omega))
  refine EvB.neg h1 ?_
  by_cases h2 : (c.length : Int) > 4
  · refine EvB.pos h2 (EvB.step (fun k => by rw [impl_isBook.j0]) ?_)
    exact EvB.pos rfl (EvB.ff (fun h => by have := h.2.1; omega))
  refine EvB.neg h2 (EvB.step (fun k => by rw [impl_isBook.j0]) ?_)
  by_cases h3 : d.length = c.length
  · refine EvB.neg (by rw [h3]; simp) ?_
    refine (ib_l0 c d (by omega) h3 _ 0 rfl (by omega)).congr ⟨fun h => ⟨by omega, by omega, h3, fun i hi => h i (by omega) hi⟩, fun h i _ hi => h.2.2.2 i hi⟩
  · exact EvB.pos (bne_iff_ne.mpr (by omega)) (EvB.ff (fun h => h3 h.2.2.1))
theorem sIn (a lo hi : Int) : spec_l1In.f a lo hi = some (decide (lo ≤ a ∧ a ≤ hi)) := by
  unfold spec_l1In.f
  by_cases h : a ≥ lo
  · rw [if_pos h]; simp [h]
  · rw [if_neg h]; congr 1; symm; exact decide_eq_false (fun h' => h h'.1)
theorem sb_l1 (c : List Int) (d : List (List Int)) (i : Nat) (hrow : (rd_L1 d (i : Int)).length ≤ 4) (hi : i < d.length) (hd : d.length ≤ 4) {R : Prop}
    (hR : EvB (fun k => spec_BookOk.l0 k ((i + 1 : Nat) : Int) c d) R) : ∀ (e j : Nat), (rd_L1 d (i : Int)).length - j = e → j ≤ (rd_L1 d (i : Int)).length →
    EvB (fun k => spec_BookOk.l1 k (i : Int) (j : Int) c d) ((∀ j' : Nat, j ≤ j' → j' < (rd_L1 d (i : Int)).length → 0 ≤ rd (rd_L1 d (i : Int)) (j' : Int) ∧ rd (rd_L1 d (i : Int)) (j' : Int) ≤ 9) ∧ R) := by
  have hs : wrap64 ((i : Int) + 1) = ((i + 1 : Nat) : Int) := wsucc hi (by omega)
  intro e
  induction e with
  | zero =>
    intro j he hj
    refine EvB.step (fun k => by rw [spec_BookOk.l1]) ?_
    rw [hs]
    exact EvB.pos (by omega) (EvB.pos (by omega) (EvB.neg (by omega) (hR.congr ⟨fun h => ⟨fun j' h1 h2 => by omega, h⟩, fun h => h.2⟩)))
  | succ e ih =>
    intro j he hj
    have hlt : j < (rd_L1 d (i : Int)).length := by omega
    have hj1 : wrap64 ((j : Int) + 1) = ((j + 1 : Nat) : Int) := wsucc hlt (by omega)
    refine EvB.step (fun k => by rw [spec_BookOk.l1]) ?_
    refine EvB.pos (by omega) (EvB.pos (by omega) (EvB.pos (by omega) (EvB.pos (by omega) (EvB.bind0 (sIn _ _ _) ?_))))
    by_cases h1 : 0 ≤ rd (rd_L1 d (i : Int)) (j : Int) ∧ rd (rd_L1 d (i : Int)) (j : Int) ≤ 9
    · refine EvB.pos (decide_eq_true h1) ?_
      rw [hj1]
      refine (ih (j + 1) (by omega) (by omega)).congr ⟨fun h => ⟨fun j' h3 h4 => ?_, h.2⟩, fun h => ⟨fun j' h3 h4 => h.1 j' (by omega) h4, h.2⟩⟩
      by_cases e' : j' = j
      · subst e'; exact h1
      · exact h.1 j' (by omega) h4
    · exact EvB.neg (by simpa using h1) (EvB.ff (fun h => h1 (h.1 j (Nat.le_refl _) hlt)))
theorem sb_l0 (c : List Int) (d : List (List Int)) (h4 : c.length ≤ 4) (hl : d.length = c.length) : ∀ (e i : Nat), c.length - i = e → i ≤ c.length →
    EvB (fun k => spec_BookOk.l0 k (i : Int) c d) (∀ i' : Nat, i ≤ i' → i' < c.length → RowP c d i') := by
  intro e
  induction e with
  | zero =>
    intro i he hi
    refine EvB.step (fun k => by rw [spec_BookOk.l0]) ?_
    exact EvB.neg (by omega) (EvB.tt (fun i' h1 h2 => by omega))
  | succ e ih =>
    intro i he hi
    have hlt : i < c.length := by omega
    refine EvB.step (fun k => by rw [spec_BookOk.l0]) ?_
    refine EvB.pos (by omega) (EvB.pos (by omega) (EvB.bind0 (sIn _ _ _) ?_))
    have bad : ∀ (P : Prop), (P → ¬ RowP c d i) → P → EvB (fun k => spec_BookOk.j2 k (i : Int) true c d) (∀ i' : Nat, i ≤ i' → i' < c.length → RowP c d i') := by
      intro P hP p
      refine EvB.step (fun k => by rw [spec_BookOk.j2]) ?_
      exact EvB.pos rfl (EvB.ff (fun h => hP p (h i (Nat.le_refl _) hlt)))
    by_cases h1 : 0 ≤ rd c (i : Int) ∧ rd c (i : Int) ≤ 20
    · refine EvB.pos (decide_eq_true h1) (EvB.pos (by omega) ?_)
      by_cases h3 : ((rd_L1 d (i : Int)).length : Int) = (c.length : Int)
      · refine EvB.pos h3 (EvB.pos (by omega) ?_)
        by_cases h5 : rd (rd_L1 d (i : Int)) (i : Int) = 0
        · refine EvB.step (fun k => by rw [spec_BookOk.j2]) ?_
          refine EvB.neg (by rw [h5]; decide) ?_
          refine (sb_l1 c d i (by omega) (by omega) (by omega) (ih (i + 1) (by omega) (by omega)) _ 0 rfl (by omega)).congr ?_
          constructor
          · intro h i' h6 h7
            by_cases e' : i' = i
            · subst e'; exact ⟨h1.1, h1.2, by omega, h5, fun j hj => h.1 j (by omega) (by omega)⟩
            · exact h.2 i' (by omega) h7
          · intro h
            have hr := h i (Nat.le_refl _) hlt
            exact ⟨fun j' _ h7 => hr.2.2.2.2 j' (by omega), fun i' h6 h7 => h i' (by omega) h7⟩
        · have hb : (rd (rd_L1 d (i : Int)) (i : Int) != 0) = true := bne_iff_ne.mpr h5
          rw [hb]
          exact bad _ (fun p h => p h.2.2.2.1) h5
      · exact EvB.neg h3 (bad _ (fun p h => p (by rw [h.2.2.1])) h3)
    · exact EvB.neg (by simpa using h1) (bad _ (fun p h => p ⟨h.1, h.2.1⟩) h1)
theorem bookOk (c : List Int) (d : List (List Int)) : EvB (fun k => spec_BookOk.f k c d) (BookP c d) := by
  unfold spec_BookOk.f
  refine EvB.bind0 (sIn _ _ _) ?_
  by_cases h1 : 1 ≤ (c.length : Int) ∧ (c.length : Int) ≤ 4
  · refine EvB.pos (decide_eq_true h1) (EvB.step (fun k => by rw [spec_BookOk.j0]) ?_)
    by_cases h3 : d.length = c.length
    · refine EvB.neg (by rw [h3]; simp) ?_
      refine (sb_l0 c d (by omega) h3 _ 0 rfl (by omega)).congr ⟨fun h => ⟨by omega, by omega, h3, fun i hi => h i (by omega) hi⟩, fun h i _ hi => h.2.2.2 i hi⟩
    · exact EvB.pos (bne_iff_ne.mpr (by omega)) (EvB.ff (fun h => h3 h.2.2.1))
  · refine EvB.neg (by simpa using h1) (EvB.step (fun k => by rw [spec_BookOk.j0]) ?_)
    exact EvB.pos rfl (EvB.ff (fun h => h1 ⟨by have := h.1; omega, by have := h.2.1; omega⟩))
end Go.Proofs.Ytfooakkhkehpiaa.BkE
namespace Go.Proofs.Ytfooakkhkehpiaa.MxE
open Go.RowKit Go.Proofs.Ytfooakkhkehpiaa.PE Go.Proofs.Ytfooakkhkehpiaa.Qh Go.Proofs.Ytfooakkhkehpiaa.BkE Go.Proofs.YtfooakkhkehpiaaW.PrintWords Go.Proofs.YtfooakkhkehpiaaW.PrintMore
set_option linter.unusedVariables false
set_option linter.unusedSimpArgs false
abbrev db (d : List (List Int)) (i j : Nat) : Int := rd (rd_L1 d (i : Int)) (j : Int)
theorem rL (xs : List (List Int)) (i : Nat) : rd_L1 xs (i : Int) = xs.getD i [] := rfl
def rowF (n : Nat) (f : Nat → Int) : List Int := (List.range n).map f
def mk (n : Nat) (f : Nat → Nat → Int) : List (List Int) := (List.range n).map (fun i => rowF n (f i))
theorem icopy {c : List Int} {d : List (List Int)} (h : BookP c d) : Ev (fun k => impl_copyBook.f k c d) (c, d) := by
  have h4 := h.2.1
  have hdl := h.2.2.1
  unfold impl_copyBook.f
  refine evBind0 rfl (evPos (by simp only [List.length_nil]; omega) ?_)
  rw [List.nil_append]
  have key : ∀ (e i : Nat), d.length - i = e → i ≤ d.length → Ev (fun k => impl_copyBook.l0 k d (d.length : Int) (i : Int) c (d.take i)) (c, d) := by
    intro e
    induction e with
    | zero =>
      intro i he hi
      obtain rfl : i = d.length := by omega
      refine Ev.step (fun k => by rw [impl_copyBook.l0]) ?_
      rw [List.take_length]
      exact evNeg (by omega) (Ev.now _)
    | succ e ih =>
      intro i he hi
      have hlt : i < d.length := by omega
      have hr := (h.2.2.2 i (by omega)).2.2.1
      have hs : Aside0 (wrap64 ((i : Int) + 1) = ((i + 1 : Nat) : Int)) := ⟨wsucc hlt (by omega)⟩
      have htl : (d.take i).length = i := by rw [List.length_take]; omega
      have e2 : d.take i ++ [rd_L1 d (i : Int)] = d.take (i + 1) := by
        rw [rL, List.getD_eq_getElem?_getD, List.getElem?_eq_getElem hlt, List.take_succ_eq_append_getElem hlt]; rfl
      refine Ev.step (fun k => by rw [impl_copyBook.l0]) ?_
      rw [hs.out]
      refine evPos (by omega) (evPos (by omega) (evPos (by omega) (evBind0 rfl (evPos (by simp only [List.length_nil]; omega) (evPos (by omega) ?_)))))
      rw [List.nil_append, e2]
      exact ih (i + 1) (by omega) (by omega)
  exact key d.length 0 rfl (by omega)
theorem scopy {c : List Int} {d : List (List Int)} (h : BookP c d) : Ev (fun k => spec_l2Copy.f k c d) (c, d) := by
  have h4 := h.2.1
  have hdl := h.2.2.1
  unfold spec_l2Copy.f
  refine evBind0 rfl (evPos (by simp only [List.length_nil]; omega) ?_)
  rw [List.nil_append]
  have key : ∀ (e i : Nat), d.length - i = e → i ≤ d.length → Ev (fun k => spec_l2Copy.l0 k (i : Int) c d c (d.take i)) (c, d) := by
    intro e
    induction e with
    | zero =>
      intro i he hi
      obtain rfl : i = d.length := by omega
      refine Ev.step (fun k => by rw [spec_l2Copy.l0]) ?_
      rw [List.take_length]
      exact evNeg (by omega) (Ev.now _)
    | succ e ih =>
      intro i he hi
      have hlt : i < d.length := by omega
      have hr := (h.2.2.2 i (by omega)).2.2.1
      have hs : Aside0 (wrap64 ((i : Int) + 1) = ((i + 1 : Nat) : Int)) := ⟨wsucc hlt (by omega)⟩
      have htl : (d.take i).length = i := by rw [List.length_take]; omega
      have e2 : d.take i ++ [rd_L1 d (i : Int)] = d.take (i + 1) := by
        rw [rL, List.getD_eq_getElem?_getD, List.getElem?_eq_getElem hlt, List.take_succ_eq_append_getElem hlt]; rfl
      refine Ev.step (fun k => by rw [spec_l2Copy.l0]) ?_
      rw [hs.out]
      refine evPos (by omega) (evBind0 rfl (evPos (by omega) (evPos (by simp only [List.length_nil]; omega) (evPos (by omega) ?_))))
      rw [List.nil_append, e2]
      exact ih (i + 1) (by omega) (by omega)
  exact key d.length 0 rfl (by omega)
end Go.Proofs.Ytfooakkhkehpiaa.MxE
namespace Go.Proofs.Ytfooakkhkehpiaa.EwcE
open Go.RowKit Go.Proofs.Ytfooakkhkehpiaa.PE Go.Proofs.Ytfooakkhkehpiaa.Qh Go.Proofs.Ytfooakkhkehpiaa.BkE Go.Proofs.Ytfooakkhkehpiaa.MxE Go.Proofs.Ytfooakkhkehpiaa.TbE Go.Proofs.Ytfooakkhkehpiaa.MrE Go.Proofs.YtfooakkhkehpiaaW.PrintWords Go.Proofs.YtfooakkhkehpiaaW.PrintMore
set_option linter.unusedVariables false
set_option linter.unusedSimpArgs false
theorem isBank (c : List Int) (d : List (List Int)) (a : Int) : EvB (fun k => impl_isBank.f k c d a) (BookP c d ∧ 0 ≤ a ∧ a < c.length) := by
  unfold impl_isBank.f
  obtain ⟨b, hb, e⟩ := isBook c d
  refine EvB.bind e ?_
  by_cases h : BookP c d
  · refine EvB.pos (hb.2 h) ?_
    by_cases h0 : a ≥ 0
    · refine EvB.pos h0 ⟨_, ?_, Ev.now _⟩
      rw [decide_eq_true_iff]
      exact ⟨fun z => ⟨h, h0, z⟩, fun z => z.2.2⟩
    · exact EvB.neg h0 (EvB.ff (fun z => h0 z.2.1))
  · exact EvB.neg (fun z => h (hb.1 z)) (EvB.ff (fun z => h z.1))
theorem small_set {c : List Int} {d : List (List Int)} (h : Small c d) (i : Nat) (v : Int) : Small (c.set i v) d := ⟨by rw [List.length_set]; exact h.1, h.2⟩
theorem with_ (c : List Int) (d : List (List Int)) (hs : Small c d) (a n : Int) : ∃ (r1 : List Int) (r2 : List (List Int)) (r3 : Bool), Small r1 r2 ∧ Ev (fun k => spec_WithCash.f k c d a n) (r1, r2, r3) ∧ Ev (fun k => impl_WithCash.f k c d a n) (r1, r2, r3) := by
  by_cases h : BookP c d
  · have h1 := h.1
    have h4 := h.2.1
    have hw : wrap64 ((c.length : Int) - 1) = (c.length : Int) - 1 := w64 (by omega) (by omega)
    by_cases ha : 0 ≤ a ∧ a < c.length
    · by_cases hn : 0 ≤ n ∧ n ≤ 20
      · refine ⟨c.set a.toNat n, d, true, small_set hs _ _, ?_, ?_⟩
        · unfold spec_WithCash.f
          rw [hw]
          refine Ev.bind ((bookOk c d).yes h) (evPos rfl (evBind0 (BkE.sIn _ _ _) (evPos (decide_eq_true (by omega)) (evBind0 (BkE.sIn _ _ _) (evPos (decide_eq_true (by omega)) (Ev.bind (scopy h) ?_))))))
          exact evPos (by omega) (evPos (show a < (c.length : Int) by omega) (Ev.now _))
        · unfold impl_WithCash.f impl_withCash.f
          refine Ev.bind ((isBank c d a).yes ⟨h, ha⟩) (evPos rfl (evNeg (by omega) (evNeg (by omega) (Ev.bind (a := (c.set a.toNat n, d)) (Ev.bind (icopy h) ?_) (Ev.now _)))))
          exact evPos (by omega) (evPos (show a < (c.length : Int) by omega) (Ev.now _))
      · refine ⟨[], [], false, ⟨by simp, by simp, fun i hi => by simp at hi⟩, ?_, ?_⟩
        · unfold spec_WithCash.f
          rw [hw]
          refine Ev.bind ((bookOk c d).yes h) (evPos rfl (evBind0 (BkE.sIn _ _ _) (evPos (decide_eq_true (by omega)) (evBind0 (BkE.sIn _ _ _) (evNeg (by simpa using hn) (Ev.now _))))))
        · unfold impl_WithCash.f
          refine Ev.bind ((isBank c d a).yes ⟨h, ha⟩) (evPos rfl ?_)
          by_cases h0 : n < 0
          · exact evPos h0 (Ev.now _)
          · exact evNeg h0 (evPos (by omega) (Ev.now _))
    · refine ⟨[], [], false, ⟨by simp, by simp, fun i hi => by simp at hi⟩, ?_, ?_⟩
      · unfold spec_WithCash.f
        rw [hw]
        exact Ev.bind ((bookOk c d).yes h) (evPos rfl (evBind0 (BkE.sIn _ _ _) (evNeg (by rw [decide_eq_true_iff]; omega) (Ev.now _))))
      · unfold impl_WithCash.f
        exact Ev.bind ((isBank c d a).no (fun z => ha z.2)) (evNeg (by decide) (Ev.now _))
  · refine ⟨[], [], false, ⟨by simp, by simp, fun i hi => by simp at hi⟩, ?_, ?_⟩
    · unfold spec_WithCash.f
      exact Ev.bind ((bookOk c d).no h) (evNeg (by decide) (Ev.now _))
    · unfold impl_WithCash.f
      exact Ev.bind ((isBank c d a).no (fun z => h z.1)) (evNeg (by decide) (Ev.now _))
def Good (k : Nat) (c : List Int) (d : List (List Int)) (a1 a2 : Int) : Prop :=
  (∃ t : Int, t < 0 ∧ laws_szBook.f k c d 1048576 = some t) ∨ ∃ (t m0 m : Int) (r1 x1 y1 : List Int) (r2 x2 y2 : List (List Int)) (r3 : Bool), ¬ t < 0 ∧ ¬ m0 < 0 ∧ ¬ m < 0 ∧ laws_szBook.f k c d 1048576 = some t ∧ laws_toBook.f k c d = some (c, d) ∧ spec_WithCash.f k c d a1 a2 = some (r1, r2, r3) ∧ impl_WithCash.f k c d a1 a2 = some (r1, r2, r3) ∧ laws_eqBook.f k r1 r2 r1 r2 = some true ∧ laws_eqBook.f k c d c d = some true ∧ laws_markBook.f k c d 1 = some (m0, x1, x2) ∧ laws_markBook.f k r1 r2 1 = some (m, y1, y2) ∧ laws_heldBook.f k y1 y2 1 = some m
theorem holds (c : List Int) (d : List (List Int)) (a1 a2 : Int) (hc : c.length ≤ maxLen) (hd : d.length ≤ maxLen) (hr : ∀ y ∈ d, y.length ≤ maxLen) : ∃ k, Good k c d a1 a2 := by
  unfold maxLen at hc hd hr
  rcases szB c d (by omega) (by omega) (fun y hy => by have := hr y hy; omega) 1048576 (by omega) (by omega) with ⟨t, t0, t1, hs, ht⟩ | ht
  · obtain ⟨r1, r2, r3, hs2, hsp, him⟩ := with_ c d hs a1 a2
    obtain ⟨m0, x1, x2, hm0, e0, _⟩ := marks hs
    obtain ⟨m, y1, y2, hm, e1, e2⟩ := marks hs2
    obtain ⟨k1, h1⟩ := ht
    obtain ⟨k2, h2⟩ := toB c d hs
    obtain ⟨k3, h3⟩ := hsp
    obtain ⟨k4, h4⟩ := him
    obtain ⟨k5, h5⟩ := eqB r1 r2 hs2
    obtain ⟨k6, h6⟩ := eqB c d hs
    obtain ⟨k7, h7⟩ := e0
    obtain ⟨k8, h8⟩ := e1
    obtain ⟨k9, h9⟩ := e2
    refine ⟨k1 + k2 + k3 + k4 + k5 + k6 + k7 + k8 + k9, .inr ⟨t, m0, m, r1, x1, y1, r2, x2, y2, r3, by omega, by omega, by omega, h1 _ (by omega), h2 _ (by omega), h3 _ (by omega), h4 _ (by omega), h5 _ (by omega), h6 _ (by omega), h7 _ (by omega), h8 _ (by omega), h9 _ (by omega)⟩⟩
  · obtain ⟨k1, h1⟩ := ht
    exact ⟨k1, .inl ⟨-1, by omega, h1 _ (Nat.le_refl _)⟩⟩
theorem calls (k : Nat) (A0_0 : Option Addr) (c0_0 : Nat) (l0_0 : List Int) (A0_1 : Option Addr) (c0_1 : Nat) (l0_1 : List (List Int)) (a1 a2 : Int) (r : Bool) (w : World) (hr0_0 : Kd.C (Kd.int .i64) w A0_0 l0_0.length l0_0) (hc0_0 : l0_0.length ≤ c0_0) (hr0_1 : Kd.C (Kd.slice 3 (Kd.int .i64)) w A0_1 l0_1.length l0_1) (hc0_1 : l0_1.length ≤ c0_1) (h : Good k l0_0 l0_1 a1 a2) :
    Calls Try.prog 7 #[.agg #[.slice A0_0 l0_0.length c0_0, .slice A0_1 l0_1.length c0_1], .int .i64 a1, .int .i64 a2] w fun e w' => e = .returned (.bool true) ∧ Below w.heap.size w w' := by
  rcases h with ⟨t, ht, h1⟩ | ⟨t, m0, m, r1, x1, y1, r2, x2, y2, r3, g0, g1, g2, h1, h2, h3, h4, h5, h6, h7, h8, h9⟩
  · exact withCash_neg k A0_0 c0_0 l0_0 A0_1 c0_1 l0_1 a1 a2 t w hr0_0 hc0_0 hr0_1 hc0_1 ht h1
  · exact withCash_walk k A0_0 c0_0 l0_0 A0_1 c0_1 l0_1 a1 a2 t m0 m r1 x1 y1 r2 x2 y2 r3 w hr0_0 hc0_0 hr0_1 hc0_1 g0 g1 g2 h1 h2 h3 h4 h5 h6 h7 h8 h9
end Go.Proofs.Ytfooakkhkehpiaa.EwcE
namespace Go.Proofs.Ytfooakkhkehpiaa.fnExactWithCash
open Go.ChangeShapes Go.WideShapes Go.ChangeAt Go.RowKit Go.Proofs.Ytfooakkhkehpiaa.PE Go.Proofs.YtfooakkhkehpiaaW.PrintWords
open Go.ChangeMaps (open_string shut_string)
set_option linter.unusedVariables false
set_option linter.unusedSimpArgs false
theorem own : ownKnob Try.prog.godebug = none := by kernel_rfl
theorem laidOut : laidOutB Try.prog = true := by kernel_rfl
abbrev G3 (_ : Int) : Prop := True
theorem o3 : Op.Opens Try.prog 3 (Kd.int .i64) G3 := Op.opens_int Try.underlying3 (by kernel_rfl)
abbrev G22 (x : List Int) : Prop := x.length ≤ maxLen ∧ ∀ y ∈ x, G3 y
theorem o22 : Op.Opens Try.prog 22 (Kd.slice 3 (Kd.int .i64)) G22 := Op.opens_slice Try.underlying22 (by kernel_rfl) o3
abbrev G23 (x : List (List Int)) : Prop := x.length ≤ maxLen ∧ ∀ y ∈ x, G22 y
theorem o23 : Op.Opens Try.prog 23 (Kd.slice 22 (Kd.slice 3 (Kd.int .i64))) G23 := Op.opens_slice Try.underlying23 (by kernel_rfl) o22
abbrev G40 (x : (List Int) × (List (List Int))) : Prop := G22 x.1 ∧ G23 x.2
theorem o40 : Op.Opens Try.prog 40 (Kd.pair (Kd.slice 3 (Kd.int .i64)) (Kd.slice 22 (Kd.slice 3 (Kd.int .i64)))) G40 := Op.opens_struct Try.underlying40 (by kernel_rfl) (Op.opensF_cons rfl o22 (Op.opensF_one rfl o23))
set_option maxRecDepth 100000 in
theorem lifted (os : Os) (started : os.Started) (H : Type) (enc : TypeId × Value → H) :
    ReturnsInHanded {} Try.checked os 7 .any (Rows.fnExactWithCashSpec.pre6 enc Try.prog Try.f7 Rows.fnExactWithCashRow.domain false) (Rows.fnExactWithCashSpec.post enc Try.prog Try.f7 false true false false) := by
  refine returnsInHanded_of_change_sized (C := Try.checked) own started (by kernel_rfl) Try.func7
    (ChangeSpec.witness6 (enc := enc) (C := Try.checked) false ⟨#[], #[.agg #[.slice none 0 0, .slice none 0 0], .int .i64 0, .int .i64 0], []⟩ 8 (by kernel_rfl) (by kernel_rfl) (by kernel_rfl) (by kernel_rfl)) ?_
  intro W base args ds gs before hval0 hW _ _ _
  have hval : ∀ (j : Nat) t v, Try.f7.params[j]? = some t → args[j]? = some v → Value.okWide Try.prog W .any base t v := hval0
  have hW' := hW
  obtain ⟨p, q, hA0, hV, rfl, _, _⟩ := hW
  have hA : DataW.TrodAll enc Try.prog W 0 (fun _ => true) true Try.f7.params.toList args.toList ds p := hA0
  rw [Try.params7] at hA hval
  obtain ⟨v0, vs0, d0, ds0, p0, q0, hargs, rfl, rfl, h0, r0⟩ := trodAll_cons hA
  obtain ⟨v1, vs1, d1, ds1, p1, q1, rfl, rfl, rfl, h1, r1⟩ := trodAll_cons r0
  obtain ⟨v2, vs2, d2, ds2, p2, q2, rfl, rfl, rfl, h2, r2⟩ := trodAll_cons r1
  obtain ⟨rfl, rfl, rfl⟩ := trodAll_nil r2
  obtain rfl : args = #[v0, v1, v2] := by cases args; simp_all
  obtain ⟨rfl, rfl⟩ := trodVars_none hV
  have k0 := h0
  have lt0 : ∀ x ∈ p0, x.block < W.heap.size := by obtain ⟨m, hm⟩ := k0; exact DataW.trod_lt m _ _ _ hm
  obtain ⟨cs0, x0, rfl, hK0, g0⟩ := Op.open_agg o40 (okWide_struct Try.underlying40 (hval 0 40 v0 rfl rfl)) h0
  obtain ⟨ca0_0, cb0_0, e0_0, hK0_0, hR0_0⟩ := hK0
  obtain ⟨A0_0, c0_0, e20_0, hc0_0, hr0_0⟩ := hK0_0
  obtain ⟨A0_1, c0_1, e20_1, hc0_1, hr0_1⟩ := hR0_0
  obtain rfl : cs0 = #[.slice A0_0 x0.1.length c0_0, .slice A0_1 x0.2.length c0_1] := by apply Array.toList_inj.1; simp only [List.singleton_append, List.cons_append, List.nil_append] at *; first | assumption | (simp_all; done)
  obtain ⟨a1, rfl, rfl, rfl, w1⟩ := open_int Try.underlying3 (hval 1 3 v1 rfl rfl) h1
  obtain ⟨a2, rfl, rfl, rfl, w2⟩ := open_int Try.underlying3 (hval 2 3 v2 rfl rfl) h2
  obtain ⟨k, hk⟩ := EwcE.holds x0.1 x0.2 a1 a2 g0.1.1 g0.2.1 (fun y hy => (g0.2.2 y hy).1)
  refine (EwcE.calls k A0_0 c0_0 x0.1 A0_1 c0_1 x0.2 a1 a2 true W hr0_0 hc0_0 hr0_1 hc0_1 hk).mono fun e W' ⟨he, bel⟩ => ?_
  subst he
  exact ⟨_, rfl, _, _, _, [], _, [], hW', trodAll_mk1 (shut_bool Try.underlying4 _), (trodAll_cons_mk (Below.trod laidOut (by kernel_rfl) (of_decide_eq_true (by kernel_rfl)) k0 bel lt0) (trodAll_cons_mk (shut_int Try.underlying3 w1) (trodAll_cons_mk (shut_int Try.underlying3 w2) trodAll_mk0))), rfl, bel.frame _, fun h => by cases h⟩
theorem over : Rows.fnExactWithCashRow.holds Try.pinned (OpenSpec.ofChange Rows.fnExactWithCashSpec) :=
  OpenClaim.holds_of_wide 7 Try.f7 rfl rfl rfl rfl rfl rfl rfl ⟨rfl, rfl, rfl, rfl, rfl⟩ rfl rfl rfl rfl rfl (by kernel_rfl) Try.func7 (by kernel_rfl)
    (of_decide_eq_true (by kernel_rfl)) (by unfold Func.isWrapper; first | (rw [if_pos (by decide +kernel)]; kernel_rfl) | (rw [if_neg (by decide +kernel)]; exact ⟨rfl, rfl⟩))
    (fun os started H enc _ => lifted os started H enc)
theorem proved : Rows.FnExactWithCashSaid := over
end Go.Proofs.Ytfooakkhkehpiaa.fnExactWithCash
namespace Go.Proofs.Ytfooakkhkehpiaa
theorem fnExactWithCash_holds : Rows.FnExactWithCashSaid := fnExactWithCash.proved
end Go.Proofs.Ytfooakkhkehpiaa
