/- FnExactDeskDo: for every input the law holds, and each argument reads as it read before. No condition. -/
import Derived.Test.YtfooakkhkehpiaaZFnExactDeskDo1
namespace Go.Proofs.Ytfooakkhkehpiaa.PE
open Go.RowKit Go.Proofs.YtfooakkhkehpiaaW.PrintWords Go.Proofs.YtfooakkhkehpiaaW.PrintLast Go.Proofs.YtfooakkhkehpiaaW.PrintMore Go.Proofs.Ytfooakkhkehpiaa.Qe
attribute [local go_sem] max2_int min2_int max_two min_two max_three min_three max_four min_four
set_option linter.unusedVariables false
set_option linter.unusedSimpArgs false
def Gj.l0:Nat->List Int->List Int->Int->Option (List Int)
 | 0,_,_,_=>none
 | k + 1,x0,x3,x4=>if x4 < (x0.length:Int) then(if 0<=x4 then(if x4 < (x3.length:Int) then(Gj.l0 k x0 (x3.set (x4:Int).toNat (rd x0 x4)) (wrap64 (x4 + 1))) else(none)) else(none)) else(some x3)
def Gj.f (k:Nat) (l0:List Int):Option (List Int):=if 0<=(l0.length:Int) then(if ((l0.length:Int):Int).toNat<=35184372088832 then(Gj.l0 k l0 (List.replicate ((l0.length:Int):Int).toNat 0) 0) else(none)) else(none)
theorem er1 {p:Prop} (h:p:=by repeat(first|(with_reducible first|exact HB.out|apply Jf|apply Je|apply Jd)|exact HB.out)):p:=h
set_option maxHeartbeats 8000000 in
set_option maxRecDepth 100000 in
theorem Gj.calls (k:Nat) (A0:Option Addr) (c0:Nat) (l0:List Int) (r:List Int) (w:World) (e8:Kd.C (Kd.int .i64) w A0 l0.length l0) (d4:l0.length<=c0) (h:Gj.f k l0=some r) :
  Calls Try.prog 81 #[.slice A0 l0.length c0] w fun e w'=>∃v0_:Value,e = .returned (v0_)/\Kd.R (Kd.int .i64) 3 w' w.heap.size (fun _=>True) v0_ r/\Below w.heap.size w w':=by
 have fo:=A_ e8
 have oh:=A_ d4
 clear e8 d4
 have HB:=A_ (Below.refl w.heap.size w)
 have H:=h
 unfold Gj.f at H
 clear h
 obtain⟨c2,H⟩:=pos_ H
 have bl9:=eq_true c2
 have cj8:=decide_eq_true c2
 clear c2
 obtain⟨c3,H⟩:=pos_ H
 have gm:=eq_true c3
 have ns:=decide_eq_true c3
 clear c3
 obtain⟨ho3,hyq⟩:∃y_:List Int,y_=(List.replicate ((l0.length:Int):Int).toNat 0):=⟨_,rfl⟩
 replace H:(Gj.l0 k l0 ho3 0)=some r:=qh_
 have ho4:=A_ hyq
 clear hyq
 have H':=A_ H
 clear H
 go_enter Try.func81,Try.ntmps81
 go_wp2_with (first|((with_reducible refine gd_ 7 ?_);refine Kd.R_make (Kd.int .i64) _ 3 rfl (N:=7) rfl 22 _ _ rfl (l0.length:Int) rfl rfl Try.underlying22 (.int .i64 0) 8 info3 rfl (by decide) (by omega) 0 (ok:=fun _=>True) (okp:=fun _=>True) rfl (fun _ hk=>hk) trivial (od_) (Nat.le_trans (Nat.mul_le_mul_right _ (od_:(l0.length:Int).toNat<=35184372088832)) (by omega)) (Below.refl _ _) (Nat.le_refl _) ?_;intro jw4 w4 kd hb hg_ hnew_;clear hg_ hnew_;(first|rw[<- ho4.out] at kd|(simp only[Int.reduceToNat] at kd;rw[<- ho4.out] at kd));have jw5:=A_ (Kd.R_lower kd (G9 (er1)));replace HB:=hs_ (er1) hb;clear hb kd))
 go_loopg [4] k (fun kq v4 w'=>∃(ch:List Int) (ar:Int),v4 = .int .i64 ar/\G7 (Gj.l0 kq l0 ch ar=some r)/\G7 (kq<=k)/\G7 (Kd.R (Kd.int .i64) 3 w' w.heap.size (fun _=>True) jw4 ch)/\G7 (Below w.heap.size w w'))
 case atStart=>exact⟨(ho3),(0),(g3_),H',⟨Nat.le_refl _⟩,⟨uR_ jw5⟩,⟨er1⟩⟩
 clear H'
 obtain⟨ch,ar,rfl,HA,HK1,a7,HB⟩:=hrel
 cases gk with
 | zero=>exact absurd HA.out (by simp[Gj.l0])
 | succ k1=>?_
 have H:=HA.out
 clear HA
 simp only[Gj.l0] at H
 by_cases c6:ar < (l0.length:Int)
 case neg=>
  rw[if_neg c6] at H
  have kb:=decide_eq_false c6
  clear c6
  obtain rfl:=Option.some.inj H
  go_wp2
  go_ret
  exact⟨_,g4_,uR_ a7,er1⟩
 rw[if_pos c6] at H
 have kb:=decide_eq_true c6
 clear c6
 obtain⟨pw,H⟩:=pd_ H
 obtain⟨wx,H⟩:=pd_ H
 obtain⟨fu4,hyq⟩:∃y_:List Int,y_=(ch.set (ar:Int).toNat (rd l0 ar)):=⟨_,rfl⟩
 replace H:(Gj.l0 k1 l0 fu4 (wrap64 (ar + 1)))=some r:=qh_
 have jw6:=A_ hyq
 clear hyq
 have H':=A_ H
 clear H
 obtain⟨⟨nf1,jw7,ho7⟩,fu5,fu6⟩:=rdp_ (Kd.at_int fo.out ar)
 cases jw7
 replace ho7:=cl_ HB ho7
 have p9:0<=(ar:Int):=od_
 have q9:(ar:Int) < ((ch.length:Int):Int):=od_
 obtain⟨go9,gu,eo9,gb9,gl9,cl9,HG9⟩:=Kd.R_form a7.out (by omega)
 (first|cases eo9|(injection eo9 with ea_ en_ ec_;(first|subst ea_|(injection ea_ with ea_;subst ea_));subst ec_;clear en_))
 have GB9:=A_ gb9
 have GG9:=A_ HG9
 clear gb9 gl9 HG9
 obtain⟨nf2,hf9_0⟩:=Kd.R_celln 0 a7.out (ar:Int) p9 q9
 replace p9:=eq_true p9
 replace q9:=eq_true q9
 have HP10:=Kd.R_putg a7.out (ar:Int) (rd l0 ar)
 go_wp2_with (first|((with_reducible refine gate_store (t:=3) (p:=20) rfl ?_);refine store_event (t:=3) (p:=20) (v:=?vo_w11) (w1:=(wr.setCell ⟨go9,(ar:Int).toNat,none⟩ (.int .i64 (rd l0 ar)))) ?hg ?ho ?hn ?hr ?_;(case ho=>rfl);(case hg=>rfl);(case hn=>rfl);(case hr=>first|(go_simp;done)|(go_simp;rfl));intro kj hw;have hg:wr.grownBy kj (some go9):=(by rw[hw];exact HP10.2);have hp_:Kd.R (Kd.int .i64) 3 kj w.heap.size (fun _=>True) (.slice (some ⟨go9,0,none⟩) ch.length gu) fu4:=(by rw[hw,jw6.out];exact HP10.1);clear HP10;replace a7:=A_ (hp_);replace HB:=A_ ((by rw[hw];exact Jc (HB.out) GB9.out:Below w.heap.size w kj));clear hg hw hp_))
 go_roundg k1
 case measure=>have:=HK1.out;omega
 case rel=>exact⟨(fu4),(wrap64 (ar + 1)),(g3_),H',⟨g8_⟩,⟨uR_ a7⟩,⟨er1⟩⟩
def Gk.l0:Nat->List (List Int)->List (List Int)->Int->Option ((List (List Int)))
 | 0,_,_,_=>none
 | k + 1,x0,x3,x4=>if x4 < (x0.length:Int) then(if 0<=x4 then((Gj.f k (Jm x0 x4)).bind fun du6=>(if x4 < (x3.length:Int) then(Gk.l0 k x0 (x3.set (x4:Int).toNat du6) (wrap64 (x4 + 1))) else(none))) else(none)) else(some x3)
def Gk.f (k:Nat) (l0:List (List Int)):Option ((List (List Int))):=if 0<=(l0.length:Int) then(if ((l0.length:Int):Int).toNat<=11728124029610 then(Gk.l0 k l0 (List.replicate ((l0.length:Int):Int).toNat []) 0) else(none)) else(none)
theorem cy8 {p:Prop} (h:p:=by repeat(first|(with_reducible first|exact HB.out|apply Jf|apply Je|apply Jd)|exact HB.out)):p:=h
set_option maxHeartbeats 8000000 in
set_option maxRecDepth 100000 in
theorem Gk.calls (k:Nat) (A0:Option Addr) (c0:Nat) (l0:List (List Int)) (r:List (List Int)) (w:World) (e8:Kd.C (Kd.slice 3 (Kd.int .i64)) w A0 l0.length l0) (d4:l0.length<=c0) (h:Gk.f k l0=some r) :
  Calls Try.prog 82 #[.slice A0 l0.length c0] w fun e w'=>∃v0_:Value,e = .returned (v0_)/\Kd.S (Kd.slice 3 (Kd.int .i64)) 22 w' w.heap.size (fun _=>True) v0_ r/\Below w.heap.size w w':=by
 have fo:=A_ e8
 have oh:=A_ d4
 clear e8 d4
 have HB:=A_ (Below.refl w.heap.size w)
 have H:=h
 unfold Gk.f at H
 clear h
 obtain⟨c2,H⟩:=pos_ H
 have bl9:=eq_true c2
 have cj8:=decide_eq_true c2
 clear c2
 obtain⟨c3,H⟩:=pos_ H
 have gm:=eq_true c3
 have ns:=decide_eq_true c3
 clear c3
 obtain⟨ho8,hyq⟩:∃y_:List (List Int),y_=(List.replicate ((l0.length:Int):Int).toNat []):=⟨_,rfl⟩
 replace H:(Gk.l0 k l0 ho8 0)=some r:=qh_
 have hp8:=A_ hyq
 clear hyq
 have H':=A_ H
 clear H
 go_enter Try.func82,Try.ntmps82
 go_wp2_with (first|((with_reducible refine gd_ 7 ?_);refine Kd.S_make (Kd.slice 3 (Kd.int .i64)) _ 22 rfl (N:=7) rfl 23 _ _ rfl (l0.length:Int) rfl rfl Try.underlying23 (.slice none 0 0) 24 info22 rfl (by decide) (by omega) [] (ok:=fun _=>True) (okp:=fun _=>True) ⟨_,rfl,Kd.R_nil _ _ _ _ _⟩ (fun _ hk=>hk) trivial (od_) (Nat.le_trans (Nat.mul_le_mul_right _ (od_:(l0.length:Int).toNat<=11728124029610)) (by omega)) (Below.refl _ _) (Nat.le_refl _) ?_;intro jw8 w4 kd hb hg_ hnew_;clear hg_ hnew_;(first|rw[<- hp8.out] at kd|(simp only[Int.reduceToNat] at kd;rw[<- hp8.out] at kd));have jw9:=A_ (Kd.S_lower kd (G9 (cy8)));replace HB:=hs_ (cy8) hb;clear hb kd))
 go_loopg [4] k (fun kq v4 w'=>∃(ch:List (List Int)) (ar:Int),v4 = .int .i64 ar/\G7 (Gk.l0 kq l0 ch ar=some r)/\G7 (kq<=k)/\G7 (Kd.S (Kd.slice 3 (Kd.int .i64)) 22 w' w.heap.size (fun _=>True) jw8 ch)/\G7 (Below w.heap.size w w'))
 case atStart=>exact⟨(ho8),(0),(g3_),H',⟨Nat.le_refl _⟩,⟨uS_ jw9⟩,⟨cy8⟩⟩
 clear H'
 obtain⟨ch,ar,rfl,HA,HK1,a7,HB⟩:=hrel
 cases gk with
 | zero=>exact absurd HA.out (by simp[Gk.l0])
 | succ k1=>?_
 have H:=HA.out
 clear HA
 simp only[Gk.l0] at H
 by_cases c6:ar < (l0.length:Int)
 case neg=>
  rw[if_neg c6] at H
  have kb:=decide_eq_false c6
  clear c6
  obtain rfl:=Option.some.inj H
  go_wp2
  go_ret
  exact⟨_,g4_,uS_ a7,cy8⟩
 rw[if_pos c6] at H
 have kb:=decide_eq_true c6
 clear c6
 obtain⟨pw,H⟩:=pd_ H
 obtain⟨du6,A8,H⟩:=bind_ H
 obtain⟨wy,H⟩:=pd_ H
 obtain⟨fu7,hyq⟩:∃y_:List (List Int),y_=(ch.set (ar:Int).toNat du6):=⟨_,rfl⟩
 replace H:(Gk.l0 k1 l0 fu7 (wrap64 (ar + 1)))=some r:=qh_
 have jx0:=A_ hyq
 clear hyq
 have H':=A_ H
 clear H
 obtain⟨⟨nf3,jx1,jx2,jx3,hp9,hq0,hq1⟩,fu8,fu9⟩:=rdp_ (at_L1 fo.out ar)
 cases jx3
 replace hp9:=cl_ HB hp9
 have jx4:=A_ hq1
 have jx5:=A_ hq0
 clear hq1 hq0
 go_wp2_with (first|((with_reducible refine gc_ 81 ?_);refine gl_ 20 Try.func81 #[.slice jx1 (Jm l0 ar).length jx2] ?_;(refine(Gj.calls k1 _ _ (Jm l0 ar) du6 _ (uC_ jx4) jx5.out A8.out).mono ?_);rintro e kj ⟨er8,rfl,ah,hb⟩;refine⟨_,rfl,?_⟩;replace a7:=A_ (Kd.S_elder' (uS_ a7) (Kd.R_base ah) hb);have er9:=A_ (Kd.R_lower ah (G9 (cy8)));replace HB:=hs_ (cy8) hb;have p10:0<=(ar:Int):=od_;have q10:(ar:Int) < ((ch.length:Int):Int):=od_;obtain⟨lx,gg,yj,bx9,gl10,cl10,HG10⟩:=Kd.S_form a7.out (by omega);(first|cases yj|(injection yj with ea_ en_ ec_;(first|subst ea_|(injection ea_ with ea_;subst ea_));subst ec_;clear en_));have GB10:=A_ bx9;have GG10:=A_ HG10;clear bx9 gl10 HG10;obtain⟨_,ce10,hcl10,hM10,hcc10,hfr10,_,_⟩:=Kd.S_elem a7.out [] (ar:Int) p10 q10;obtain⟨ve10_0,rfl,ge10_0⟩:=hM10;have fv0:=hcc10 0 _ rfl;have hf10_0:=hfr10 0;(try simp only[show((Kd.slice 3 (Kd.int .i64))).sz=1 from rfl,Nat.mul_one,Nat.add_zero] at fv0);(try simp only[show((Kd.slice 3 (Kd.int .i64))).sz=1 from rfl,Nat.mul_one,Nat.add_zero] at hf10_0);replace p10:=eq_true p10;replace q10:=eq_true q10;have n_:=A_ (Kd.S_mono (ok':=(fun k_=>some k_≠(er8:Value).ownBlock)) a7.out (fun k_ hk=>hk.2));clear a7;have a7:=n_;clear n_;have HX12:=A_ (show Kd.S (Kd.slice 3 (Kd.int .i64)) 22 kj w.heap.size (fun k_=>((fun _=>True)) k_/\¬ ((fun k_=>some k_=(er8:Value).ownBlock)) k_) (.slice (some ⟨lx,0,none⟩) ch.length gg) ch from(by(with_reducible repeat(first|apply Kd.S_alloc|apply Kd.S_drewN|apply Kd.S_drew));exact Kd.S_mono a7.out (fun k_ hk=>⟨trivial,fun e_=>hk e_⟩)));obtain⟨oki12,ce12,hcl12,hM12,hcc12,hfr12,hoki12,hH12⟩:=Kd.S_elem HX12.out [] (ar:Int) (od_) (by have h_:(ar:Int) < ((ch.length:Int):Int):=od_;first|exact h_|(have e_:=(Kd.S_reads' a7.out).1;omega)|simpa using h_);obtain⟨ve12_0,rfl,ge12_0⟩:=hM12;have HP12:=Kd.S_seg hH12 (od_) (by have h_:(ar:Int) < ((ch.length:Int):Int):=od_;first|exact h_|(have e_:=(Kd.S_reads' a7.out).1;omega)|simpa using h_) (seg:=[er8]) (j:=0) (show 1<=1 from by decide) (x':=du6) (Kd.M_row (Kd.R_mono (Kd.R_tight rfl (Kd.R_mono (ok':=fun k_=>((fun _=>True)) k_/\k_≠lx) (Kd.R_apart' (er9.out) (Kd.S_typed a7.out) (by decide)) (fun k_ hk=>⟨trivial,fun e_=>(hk.2) (g6_)⟩))) (fun _ h_=>Or.inr (h_)))) (fun _ hk=>hk) (fun k_ hk_=>((Kd.R_mono (ok':=fun k_=>((fun _=>True)) k_/\k_≠lx) (Kd.R_apart' (er9.out) (Kd.S_typed a7.out) (by decide)) (fun k_ hk=>⟨trivial,fun e_=>(hk.2) (g6_)⟩))).1 k_ hk_.symm);have du7:=hcc12 0 _ rfl;(try simp only[show((Kd.slice 3 (Kd.int .i64))).sz=1 from rfl,Nat.mul_one,Nat.add_zero] at du7);have hf12_0:=hfr12 0;(try simp only[show((Kd.slice 3 (Kd.int .i64))).sz=1 from rfl,Nat.mul_one,Nat.add_zero] at hf12_0);(try simp only[show((Kd.slice 3 (Kd.int .i64))).sz=1 from rfl,Nat.mul_one,Nat.add_zero] at HP12))|((with_reducible refine gate_store (t:=22) (p:=21) rfl ?_);refine store_event (t:=22) (p:=21) (v:=?vo_w13) (w1:=(kj.setCell ⟨lx,(ar:Int).toNat,none⟩ (er8))) ?hg ?ho ?hn ?hr ?_;(case ho=>rfl);(case hg=>rfl);(case hn=>rfl);(case hr=>first|(go_simp;done)|(go_simp;rfl)|(obtain⟨_,_,e0_⟩:=Kd.R_slice er9.out;rw[e0_];first|(go_simp;done)|(go_simp;rfl)));intro ps hw;have hg:kj.grownBy ps (some lx):=(by rw[hw];exact HP12.2);have hp_:Kd.S (Kd.slice 3 (Kd.int .i64)) 22 ps w.heap.size (fun _=>True) (.slice (some ⟨lx,0,none⟩) ch.length gg) fu7:=(by rw[hw,jx0.out];exact HP12.1);clear HP12;replace a7:=A_ (hp_);replace HB:=A_ ((by rw[hw];exact Jc (HB.out) GB10.out:Below w.heap.size w ps));clear er9;clear hg hw hp_))
 go_roundg k1
 case measure=>have:=HK1.out;omega
 case rel=>exact⟨(fu7),(wrap64 (ar + 1)),(g3_),H',⟨g8_⟩,⟨uS_ a7⟩,⟨cy8⟩⟩
def G4.f (k:Nat) (ab:List Int) (aa:List (List Int)):Option (List Int × (List (List Int))):=(Gj.f k ab).bind fun ap0=>((Gk.f k aa).bind fun be6=>(some (ap0,be6)))
theorem bk2 {p:Prop} (h:p:=by repeat(first|(with_reducible first|exact HB.out|apply Jf|apply Je|apply Jd|refine Jc ?_ fv1.out|refine Jc ?_ jx6.out|refine Jc ?_ jx7.out)|exact HB.out)):p:=h
set_option maxHeartbeats 8000000 in
set_option maxRecDepth 100000 in
theorem G4.calls (k:Nat) (ae:Option Addr) (ac:Nat) (ab:List Int) (ag:Option Addr) (af:Nat) (aa:List (List Int)) (r1:List Int) (r2:List (List Int)) (w:World) (ca:Kd.C (Kd.int .i64) w ae ab.length ab) (ce:ab.length<=ac) (cb:Kd.C (Kd.slice 3 (Kd.int .i64)) w ag aa.length aa) (cg:aa.length<=af) (h:G4.f k ab aa=some (r1,r2)) :
  Calls Try.prog 33 #[.agg #[.slice ae ab.length ac, .slice ag aa.length af]] w fun e w'=>∃v0_ v1_:Value,e = .returned (.agg #[v0_,v1_])/\Kd.R (Kd.int .i64) 3 w' w.heap.size (fun _=>True) v0_ r1/\Kd.S (Kd.slice 3 (Kd.int .i64)) 22 w' w.heap.size (fun k_=>some k_≠(v0_:Value).ownBlock) v1_ r2/\Below w.heap.size w w':=by
 have hu40:=Try.underlying40
 have hu25:=Try.underlying25
 have bg:=A_ ca
 have bs:=A_ ce
 clear ca ce
 have bd:=A_ cb
 have bv:=A_ cg
 clear cb cg
 have HB:=A_ (Below.refl w.heap.size w)
 have H:=h
 unfold G4.f at H
 clear h
 obtain⟨ap0,A2,H⟩:=bind_ H
 obtain⟨be6,A3,H⟩:=bind_ H
 simp only[Option.some.injEq,Prod.mk.injEq] at H
 obtain⟨rfl,rfl⟩:=H
 go_enter Try.func33,Try.ntmps33
 go_wp2_with (first|((with_reducible refine gd_ 1 ?_);refine bx_ (N:=1) #[.slice ae ab.length ac, .slice ag aa.length af] 40 ?_;intro l6 hg w4 hbox hb;have jb:=A_ (hbox);have jx8:=A_ ((g61_:w.heap.size<=l6));have fv1:=jx8;replace HB:=hs_ (bk2) hb;clear hb hbox hg)|((with_reducible refine gd_ 2 ?_);refine bx_ (N:=2) #[.slice none 0 0, .slice none 0 0] 25 ?_;intro af3 hg w5 hbox hb;have ap1:=A_ (hbox);have nf4:=A_ ((g61_:w.heap.size<=af3));have jx6:=nf4;replace HB:=hs_ (bk2) hb;have jx9:=nl_ jb hg;have jy0:=nr_ jb hg;replace jb:=bb_ jb hb;clear hb hbox hg)|((with_reducible refine gd_ 3 ?_);refine bx_ (N:=3) #[.slice none 0 0, .slice none 0 0] 25 ?_;intro ax0 hg w6 hbox hb;have be7:=A_ (hbox);have nf5:=A_ ((g61_:w.heap.size<=ax0));have jx7:=nf5;replace HB:=hs_ (bk2) hb;have hq2:=nl_ jb hg;have jy1:=nr_ jb hg;replace jb:=bb_ jb hb;have fv2:=nl_ ap1 hg;have jy2:=nr_ ap1 hg;replace ap1:=bb_ ap1 hb;clear hb hbox hg;have da6:=jx9.out;have da7:=jy0.out;have da8:=hq2.out;have da9:=jy1.out;obtain⟨af4,af5,af6,af7⟩:=blk2_ jb)|((with_reducible refine gc_ 81 ?_);refine gl_ 6 Try.func81 #[.slice ae ab.length ac] ?_;(refine(Gj.calls k _ _ ab ap0 _ (uC_ bg) bs.out A2.out).mono ?_);rintro e w10 ⟨nf6,rfl,ah,hb⟩;refine⟨_,rfl,?_⟩;have du9:=A_ (Kd.R_lower ah (G9 (bk2)));replace jb:=bb_ jb hb;replace ap1:=bb_ ap1 hb;replace be7:=bb_ be7 hb;replace HB:=hs_ (bk2) hb;obtain⟨zw,zx,fv3⟩:=Kd.R_slice du9.out;subst fv3;have cj9:=jy2.out;have ck0:=fv2.out;obtain⟨sm,sn,so,sp⟩:=blk2_ be7;obtain⟨ub,uc,ud,ue⟩:=blk2_ jb)|((with_reducible refine gc_ 82 ?_);refine gl_ 10 Try.func82 #[.slice ag aa.length af] ?_;(refine(Gk.calls k _ _ aa be6 _ (Kd.C_below bd.out (bk2)) bv.out A3.out).mono ?_);rintro e w15 ⟨nf7,rfl,ah,hb⟩;refine⟨_,rfl,?_⟩;have hq3:=A_ (Kd.S_lower (Kd.S_new' ah (Kd.R_lt (ra_ du9))) (G9 (bk2)));replace du9:=A_ (Kd.R_below (ra_ du9) hb);replace jb:=A_ (Jk (g:=l6) (o:=.cells #[.slice ae ab.length ac, .slice ag aa.length af] 40 (0,0)) (ba_ jb) hb);replace ap1:=A_ (Jk (g:=af3) (o:=.cells #[.slice none 0 0, .slice none 0 0] 25 (0,0)) (ba_ ap1) hb);replace be7:=A_ (Jk (g:=ax0) (o:=.cells #[.slice zw ap0.length zx, .slice none 0 0] 25 (0,0)) (ba_ be7) hb);replace HB:=hs_ (bk2) hb;obtain⟨sr,ss,ck1⟩:=Kd.S_slice hq3.out;subst ck1;obtain⟨dt1,dt2,dt3,dt4⟩:=blk2_ be7;obtain⟨ao6,ao7,ao8,ao9⟩:=blk2_ ap1))
 refine bodyPost_ret (results_cell_row rfl _ _ af3 25 #[.slice zw ap0.length zx, .slice sr be6.length ss] (0,0) _ rfl (ba_ ap1) Try.underlying25 rfl (g1_)) rfl ?_
 exact⟨_,_,g4_,ra_ du9,sa_ hq3,bk2⟩
end Go.Proofs.Ytfooakkhkehpiaa.PE
namespace Go.Proofs.Ytfooakkhkehpiaa.PE
open Go.RowKit Go.Proofs.YtfooakkhkehpiaaW.PrintWords Go.Proofs.YtfooakkhkehpiaaW.PrintLast Go.Proofs.YtfooakkhkehpiaaW.PrintMore
set_option linter.unusedVariables false
set_option linter.unusedSimpArgs false
def F7.l0:Nat->List (List Int)->Int->Int->Option (Int × List (List Int))
  | 0,_,_,_=>none
  | k + 1,xs,x1,x5=>if x5 < (xs.length:Int) then(if 0<=x5 then((F3.f k (xs.getD x5.toNat []) x1).bind fun bt=>F7.l0 k (xs.set x5.toNat bt.2) bt.1 (wrap64 (x5 + 1))) else none) else some (x1,xs)
def F7.f (k:Nat) (l0:List (List Int)) (a1:Int):Option (Int × List (List Int)):=F7.l0 k l0 a1 0
set_option maxHeartbeats 8000000 in
set_option maxRecDepth 100000 in
theorem F7.calls (k:Nat) (u:Value) (l0:List (List Int)) (a1 r1:Int) (r2:List (List Int)) (w0 w:World) (ok:Nat->Prop) (hB:Below w0.heap.size w0 w) (ho0:Kd.S (Kd.slice 3 (Kd.int .i64)) 22 w w0.heap.size ok u l0) (h:F7.f k l0 a1=some (r1,r2)) :
    Calls Try.prog 88 #[u, .int .i64 a1] w fun e w'=>e = .returned (.int .i64 r1)/\Kd.S (Kd.slice 3 (Kd.int .i64)) 22 w' w0.heap.size ok u r2/\Below w0.heap.size w0 w'/\Kept w w' ok:=by
  obtain⟨A,c,rfl,hlc,hC⟩:=Kd.S_reads ho0
  have hn:l0.length<=9223372036854775807:=hC.2.1
  have HN:=G7.mk hn
  have HS:=G7.mk ho0
  have HK:=G7.mk (Kept.refl w ok)
  have HB:=G7.mk hB
  have H':=G7.mk (show F7.l0 k l0 a1 0=some (r1,r2) from h)
  clear hC hB h hn ho0
  generalize hNl:l0.length=n at *
  have HNN:=G7.mk hNl
  clear hNl
  go_enter Try.func88,Try.ntmps88
  go_wp2
  go_loopg [1,5] k (fun kq v1 v5 w'=>∃(x1_1:Int) (i:Nat) (cur:List (List Int)),v1 = .int .i64 x1_1/\v5 = .int .i64 i/\i<=n/\G7 (cur.length=n)/\G7 (F7.l0 kq cur x1_1 i=some (r1,r2))/\G7 (kq<=k)/\G7 (Kd.S (Kd.slice 3 (Kd.int .i64)) 22 w' w0.heap.size ok (.slice A n c) cur)/\G7 (Kept w w' ok)/\G7 (Below w0.heap.size w0 w'))
  case atStart=>exact⟨a1,0,l0,rfl,rfl,Nat.zero_le _,HNN,H',⟨Nat.le_refl _⟩,⟨by(with_reducible repeat(first|apply Kd.S_alloc|apply Kd.S_drewN|apply Kd.S_drew));exact HS.out⟩,⟨by repeat(first|(with_reducible first|exact HK.out|apply Kept.alloc|apply Kept.drewN|apply Kept.drew)|exact HK.out)⟩,⟨by repeat(first|(with_reducible first|exact HB.out|apply Jf|apply Je|apply Jd)|exact HB.out)⟩⟩
  case round=>
    clear H' HK HB HS HNN
    obtain⟨x1_1,i,cur,rfl,rfl,hi,HNN,HA,HK1,HS,HK,HB⟩:=hrel
    cases gk with
    | zero=>exact absurd HA.out (by simp[F7.l0])
    | succ k1=>
      have H:=HA.out
      clear HA
      simp only[F7.l0] at H
      rw[HNN.out,Int.toNat_natCast] at H
      by_cases hlt:i < n
      · rw[if_pos (by omega),if_pos (by omega)] at H
        obtain⟨⟨t1,t2⟩,A0,H⟩:=Option.bind_eq_some_iff.mp H
        have AT:=G7.mk A0
        clear A0
        have H':=G7.mk H
        clear H
        obtain⟨g,cap,he,_,_,cells,hcell⟩:=Kd.S_form HS.out (by rw[HNN.out];omega)
        obtain⟨rfl,rfl⟩:A=some ⟨g,0,none⟩/\c=cap:=by
          injection he with h1 h2 h3
          exact⟨h1,h3⟩
        clear he hcell
        obtain⟨oki,cc,_,hM,hcc,hoki,hH⟩:=Kd.S_lend HS.out [] (i:Int) (by omega) (by omega)
        have HOK:=G7.mk hoki
        have HH:=G7.mk hH
        clear hH hoki
        rw[Int.toNat_natCast] at hM
        obtain⟨v,rfl,hv⟩:=hM
        have hx1:wr.cell? ⟨g,i,none⟩=some v:=by
          have:=hcc 0 v rfl
          rw[Int.toNat_natCast] at this
          have e1:i * (Kd.slice 3 (Kd.int .i64)).sz + 0=i:=by show i * 1 + 0=i;omega
          rw[e1] at this
          exact this
        clear hcc
        have HRow:=G7.mk hv
        clear hv
        have p5:(0<=(i:Int))=True:=eq_true (by omega)
        have q5:((i:Int) < (n:Int))=True:=eq_true (by omega)
        have c3b0:decide ((i:Int) < (n:Int))=true:=decide_eq_true (by omega)
        go_wp2_with (first|((with_reducible refine Ja (f:=87) rfl ?_);refine goesL_ (some 17) rfl rfl Try.func87 (by kernel_rfl) rfl #[v, .int .i64 x1_1] rfl (by(try simp only[List.map_toArray,List.map_cons,List.map_nil]);first|done|rfl) ?_;(with_reducible refine(F3.calls k1 oki v (cur.getD i []) x1_1 t1 t2 w0 _ ?side1 ?side2 AT.out).mono ?_);(case side1=>repeat(first|(with_reducible first|exact HB.out|apply Jf|apply Je|apply Jd)|exact HB.out));(case side2=>(with_reducible repeat(first|apply Kd.R_alloc|apply Kd.R_drewN|apply Kd.R_drew));exact HRow.out);rintro e w8 ⟨rfl,hy,hb,hkp⟩;refine⟨_,rfl,?_⟩;have n0_:=G7.mk (Kept.then_ (S:=ok) (by repeat(first|(with_reducible first|exact HK.out|apply Kept.alloc|apply Kept.drewN|apply Kept.drew)|exact HK.out)) hkp (fun k_ hs=>.inl (HOK.out k_ hs).1));have n1_:=G7.mk hb;have n2_:=G7.mk (Kd.H_step (w1:=w8) (by(with_reducible repeat(first|apply Kd.H_alloc|apply Kd.H_drewN|apply Kd.H_drew));exact HH.out) (fun k_ _ hno hl=>hkp.2 k_ hl hno));have n3_:=G7.mk (Kd.R_reok rfl hy (ok:=oki) (fun k_ e_=>HRow.out.1 k_ e_));clear HK HB HH HRow hb hkp hy;have HK:=n0_;have HB:=n1_;have HH:=n2_;have HRow:=n3_;clear n0_ n1_ n2_ n3_))
        go_roundg k1
        case measure=>have:=HK1.out;omega
        case rel=>
          have hs:wrap64 ((i:Int) + 1)=((i + 1:Nat):Int):=by have:=HN.out;unfold wrap64;omega
          have hback:=Kd.H_back (okp:=oki) HH.out (x':=t2) ⟨v,rfl,HRow.out⟩ (fun _ h_=>h_)
          rw[Int.toNat_natCast] at hback
          exact⟨t1,i + 1,cur.set i t2,rfl,by rw[<- hs],by omega,⟨by rw[List.length_set];exact HNN.out⟩,⟨by have:=H'.out;rw[hs] at this;exact this⟩,⟨by have:=HK1.out;omega⟩,⟨by(with_reducible repeat(first|apply Kd.S_alloc|apply Kd.S_drewN|apply Kd.S_drew));exact hback⟩,⟨by repeat(first|(with_reducible first|exact HK.out|apply Kept.alloc|apply Kept.drewN|apply Kept.drew)|exact HK.out)⟩,⟨by repeat(first|(with_reducible first|exact HB.out|apply Jf|apply Je|apply Jd)|exact HB.out)⟩⟩
      · rw[if_neg (by omega)] at H
        have c3b0:decide ((i:Int) < (n:Int))=false:=decide_eq_false (by omega)
        obtain⟨rfl,rfl⟩:x1_1=r1/\cur=r2:=by
          have:=Option.some.inj H
          exact⟨congrArg Prod.fst this,congrArg Prod.snd this⟩
        go_wp2
        go_ret
        exact⟨rfl,by(with_reducible repeat(first|apply Kd.S_alloc|apply Kd.S_drewN|apply Kd.S_drew));exact HS.out,by repeat(first|(with_reducible first|exact HB.out|apply Jf|apply Je|apply Jd)|exact HB.out),by repeat(first|(with_reducible first|exact HK.out|apply Kept.alloc|apply Kept.drewN|apply Kept.drew)|exact HK.out)⟩
def BkAt (base lo hi:Nat) (q:Nat->Prop) (u0 u1:Value) (c:List Int) (d:List (List Int)) (W:World):Prop:=
  hi<=W.heap.size/\Kd.R (Kd.int .i64) 3 W base (fun k=>((lo<=k/\k < hi)/\q k)/\some k=u0.ownBlock) u0 c/\Kd.S (Kd.slice 3 (Kd.int .i64)) 22 W base (fun k=>((lo<=k/\k < hi)/\q k)/\some k≠u0.ownBlock) u1 d
theorem BkAt.step {base lo hi:Nat} {q:Nat->Prop} {u0 u1:Value} {c:List Int} {d:List (List Int)} {W W1:World} (h:BkAt base lo hi q u0 u1 c d W) (hm:∀k,lo<=k->k < hi->W1.heap[k]? = W.heap[k]?) (hs:hi<=W1.heap.size):BkAt base lo hi q u0 u1 c d W1:=
  ⟨hs,Kd.R_step h.2.1 (fun k hk _=>hm k hk.1.1.1 hk.1.1.2),Kd.S_step h.2.2 (fun k hk _=>hm k hk.1.1.1 hk.1.1.2)⟩
theorem BkAt.below {base lo hi:Nat} {q:Nat->Prop} {u0 u1:Value} {c:List Int} {d:List (List Int)} {W W1:World} (h:BkAt base lo hi q u0 u1 c d W) (hb:Below W.heap.size W W1):BkAt base lo hi q u0 u1 c d W1:=
  h.step (fun k _ hk=>hb.block k (Nat.lt_of_lt_of_le hk h.1)) (Nat.le_trans h.1 hb.size)
theorem BkAt.made {base z:Nat} {q:Nat->Prop} {u0 u1:Value} {c:List Int} {d:List (List Int)} {W W1:World} (hbz:base<=z) (hz:z<=W.heap.size) (h0:Kd.R (Kd.int .i64) 3 W1 W.heap.size (fun _=>True) u0 c) (h1:Kd.S (Kd.slice 3 (Kd.int .i64)) 22 W1 W.heap.size (fun k=>some k≠u0.ownBlock) u1 d) (hb:Below W.heap.size W W1)
    (hq0:∀k,some k=u0.ownBlock->q k) (hq1:∀k,(∃t,t ∈ 22 :: (Kd.slice 3 (Kd.int .i64)).E/\∃cells,W1.heap[k]? = some (.cells cells t (0,0)))->q k):∃A0 c0 A1 c1 lo hi,u0 = .slice A0 c.length c0/\u1 = .slice A1 d.length c1/\z<=lo/\lo<=hi/\BkAt base lo hi q u0 u1 c d W1:=by
  obtain⟨A0,c0,e0⟩:=Kd.R_slice h0
  obtain⟨A1,c1,e1⟩:=Kd.S_slice h1
  refine⟨A0,c0,A1,c1,W.heap.size,W1.heap.size,e0,e1,hz,hb.size,Nat.le_refl _,Kd.R_lower (Kd.R_mono (Kd.R_bound (Kd.R_tight rfl h0)) (fun k hk=>⟨⟨⟨hk.2.1,hk.2.2.1⟩,hq0 k hk.1⟩,hk.1⟩)) (Nat.le_trans hbz hz),Kd.S_lower (Kd.S_mono (Kd.S_bound h1) (fun k hk=>⟨⟨⟨hk.2.1,hk.2.2.1⟩,hq1 k hk.2.2.2⟩,hk.1⟩)) (Nat.le_trans hbz hz)⟩
def G6.f (k:Nat) (l0:List Int) (l1:List (List Int)) (a1:Int):Option (Int × List Int × List (List Int)):=(F3.f k l0 a1).bind fun bt=>(F7.f k l1 bt.1).bind fun bs=>some (bs.1,bt.2,bs.2)
set_option maxHeartbeats 8000000 in
set_option maxRecDepth 100000 in
theorem G6.calls (k:Nat) (lo hi:Nat) (q:Nat->Prop) (u0 u1:Value) (l0:List Int) (l1:List (List Int)) (a1 r1:Int) (r2:List Int) (r3:List (List Int)) (w0 w:World) (hB:Below w0.heap.size w0 w) (hbk:BkAt w0.heap.size lo hi q u0 u1 l0 l1 w) (h:G6.f k l0 l1 a1=some (r1,r2,r3)) :
    Calls Try.prog 36 #[.agg #[u0,u1], .int .i64 a1] w fun e w'=>e = .returned (.int .i64 r1)/\BkAt w0.heap.size lo hi q u0 u1 r2 r3 w'/\Below w0.heap.size w0 w'/\Kept w w' (fun k=>(lo<=k/\k < hi)/\q k):=by
  obtain⟨hhi,ho0,ho1⟩:=hbk
  obtain⟨A0,c0,rfl,_⟩:=Kd.R_reads ho0
  obtain⟨A1,c1,rfl,_⟩:=Kd.S_reads ho1
  obtain⟨⟨t1,t2⟩,h1,h2⟩:=Option.bind_eq_some_iff.mp (show(F3.f k l0 a1).bind (fun bt=>(F7.f k l1 bt.1).bind fun bs=>some (bs.1,bt.2,bs.2))=some (r1,r2,r3) from h)
  obtain⟨⟨t3,t4⟩,h4,h3⟩:=Option.bind_eq_some_iff.mp h2
  obtain⟨rfl,rfl,rfl⟩:t3=r1/\t2=r2/\t4=r3:=by
    have:=Option.some.inj h3
    exact⟨congrArg Prod.fst this,congrArg (fun z=>z.2.1) this,congrArg (fun z=>z.2.2) this⟩
  clear h3 h
  have HT1:=G7.mk h1
  have HT2:=G7.mk h4
  have HO0:=G7.mk ho0
  have HO1:=G7.mk ho1
  have HB:=G7.mk hB
  have HHI:=G7.mk hhi
  have HK:=G7.mk (Kept.refl w (fun k=>(lo<=k/\k < hi)/\q k))
  have HHW:=hhi
  clear h1 h2 h4 ho0 ho1 hB hhi
  have hu:=Try.underlying25
  go_enter Try.func36,Try.ntmps36
  go_wp2_with (first|((with_reducible refine Jb (N:=2) rfl ?_);(try(refine gate_guard (by rfl) ?_;dsimp only));refine box_event ?hg (N:=2) ?hd (cs:=#[.slice A0 l0.length c0, .slice A1 l1.length c1]) (t:=25) ?hr ?_;(case hd=>rfl);(case hg=>rfl);(case hr=>first|(go_simp;done)|(go_simp;rfl));intro gb hg w2 hbox hb;have n0_:=G7.mk (Kd.R_below HO0.out hb);have n1_:=G7.mk (Kd.S_below HO1.out hb);have n2_:=G7.mk (Kept.then_ HK.out (Kept.of_below hb (fun _=>False)) (fun _ h_=>h_.elim));have n3_:=G7.mk (Jr HB.out hb);have n4_:=G7.mk (show hi<=gb by rw[hg];exact HHI.out);have BK:=G7.mk hbox;clear HO0 HO1 HK HB HHI hb hbox hg;have HO0:=n0_;have HO1:=n1_;have HK:=n2_;have HB:=n3_;have HHI:=n4_;clear n0_ n1_ n2_ n3_ n4_;have hcz_0:w2.cell? ⟨gb,0,none⟩=some (.slice A0 l0.length c0):=(G8 BK.out 0).trans rfl;have hcz_1:w2.cell? ⟨gb,1,none⟩=some (.slice A1 l1.length c1):=(G8 BK.out 1).trans rfl)|((with_reducible refine Ja (f:=87) rfl ?_);refine goesL_ (some 8) rfl rfl Try.func87 (by kernel_rfl) rfl #[.slice A0 l0.length c0, .int .i64 a1] rfl (by(try simp only[List.map_toArray,List.map_cons,List.map_nil]);first|done|rfl) ?_;(with_reducible refine(F3.calls k (fun k=>((lo<=k/\k < hi)/\q k)/\some k=(Value.slice A0 l0.length c0).ownBlock) (.slice A0 l0.length c0) l0 a1 t1 t2 w0 _ ?side1 ?side2 HT1.out).mono ?_);(case side1=>repeat(first|(with_reducible first|exact HB.out|apply Jf|apply Je|apply Jd)|exact HB.out));(case side2=>(with_reducible repeat(first|apply Kd.R_alloc|apply Kd.R_drewN|apply Kd.R_drew));exact HO0.out);rintro e w3 ⟨rfl,hy,hb,hkp⟩;refine⟨_,rfl,?_⟩;have n5_:=G7.mk (Kd.R_reok rfl hy (ok:=fun k=>((lo<=k/\k < hi)/\q k)/\some k=(Value.slice A0 l0.length c0).ownBlock) (fun k_ e_=>HO0.out.1 k_ e_));have n0_:=G7.mk (Kd.S_kept (ok:=fun k=>((lo<=k/\k < hi)/\q k)/\some k≠(Value.slice A0 l0.length c0).ownBlock) (by(with_reducible repeat(first|apply Kd.S_alloc|apply Kd.S_drewN|apply Kd.S_drew));exact HO1.out) hkp (fun k_ h_ e_=>h_.2 e_.2));have n1_:=G7.mk (Kept.then_ (by repeat(first|(with_reducible first|exact HK.out|apply Kept.alloc|apply Kept.drewN|apply Kept.drew)|exact HK.out)) hkp (fun _ h_=>.inl h_.1));have n2_:=G7.mk hb;have n3_:=G7.mk (blk_kept (g:=gb) (by(with_reducible repeat(first|refine Jh ?_ _|refine Ji ?_|refine Jg ?_ _));exact BK.out) hkp (fun hs_=>by have:=hs_.1.1.2;have:=HHI.out;omega));clear HO0 HO1 HK HB BK hb hkp hy;have HO0:=n5_;have HO1:=n0_;have HK:=n1_;have HB:=n2_;have BK:=n3_;clear n0_ n1_ n2_ n3_ n5_;have hcy_0:w3.cell? ⟨gb,0,none⟩=some (.slice A0 l0.length c0):=(G8 BK.out 0).trans rfl;have hcy_1:w3.cell? ⟨gb,1,none⟩=some (.slice A1 l1.length c1):=(G8 BK.out 1).trans rfl)|((with_reducible refine Ja (f:=88) rfl ?_);refine goesL_ (some 12) rfl rfl Try.func88 (by kernel_rfl) rfl #[.slice A1 l1.length c1, .int .i64 t1] rfl (by(try simp only[List.map_toArray,List.map_cons,List.map_nil]);first|done|rfl) ?_;(with_reducible refine(F7.calls k (.slice A1 l1.length c1) l1 t1 t3 t4 w0 _ (fun k=>((lo<=k/\k < hi)/\q k)/\some k≠(Value.slice A0 l0.length c0).ownBlock) ?side1 ?side2 HT2.out).mono ?_);(case side1=>repeat(first|(with_reducible first|exact HB.out|apply Jf|apply Je|apply Jd)|exact HB.out));(case side2=>(with_reducible repeat(first|apply Kd.S_alloc|apply Kd.S_drewN|apply Kd.S_drew));exact HO1.out);rintro e w4 ⟨rfl,hy,hb,hkp⟩;refine⟨_,rfl,?_⟩;have n0_:=G7.mk (Kd.R_kept (ok:=fun k=>((lo<=k/\k < hi)/\q k)/\some k=(Value.slice A0 l0.length c0).ownBlock) (by(with_reducible repeat(first|apply Kd.R_alloc|apply Kd.R_drewN|apply Kd.R_drew));exact HO0.out) hkp (fun k_ h_ e_=>e_.2 h_.2));have n1_:=G7.mk (Kept.then_ (by repeat(first|(with_reducible first|exact HK.out|apply Kept.alloc|apply Kept.drewN|apply Kept.drew)|exact HK.out)) hkp (fun _ h_=>.inl h_.1));have n2_:=G7.mk hb;have n3_:=G7.mk hy;clear HO0 HO1 HK HB BK hb hkp hy;have HO0:=n0_;have HO1:=n3_;have HK:=n1_;have HB:=n2_;clear n0_ n1_ n2_ n3_))
  go_ret
  have HKK:Kept w _ (fun k=>(lo<=k/\k < hi)/\q k):=(by repeat(first|(with_reducible first|exact HK.out|apply Kept.alloc|apply Kept.drewN|apply Kept.drew)|exact HK.out))
  exact⟨rfl,⟨Nat.le_trans HHW HKK.1,by(with_reducible repeat(first|apply Kd.R_alloc|apply Kd.R_drewN|apply Kd.R_drew));exact HO0.out,by(with_reducible repeat(first|apply Kd.S_alloc|apply Kd.S_drewN|apply Kd.S_drew));exact HO1.out⟩,by repeat(first|(with_reducible first|exact HB.out|apply Jf|apply Je|apply Jd)|exact HB.out),HKK⟩
end Go.Proofs.Ytfooakkhkehpiaa.PE
namespace Go.Proofs.Ytfooakkhkehpiaa.PE
open Go.RowKit Go.Proofs.YtfooakkhkehpiaaW.PrintWords Go.Proofs.YtfooakkhkehpiaaW.PrintLast Go.Proofs.YtfooakkhkehpiaaW.PrintMore Go.Proofs.Ytfooakkhkehpiaa.Qe
attribute [local go_sem] max2_int min2_int max_two min_two max_three min_three max_four min_four
set_option linter.unusedVariables false
set_option linter.unusedSimpArgs false
def Fr.l0:Nat->Int->List Int->List (List Int)->List Int->List (List Int)->Option (List Int × (List (List Int)))
 | 0,_,_,_,_,_=>none
 | k + 1,x4,kc0,et2,hs7,fz1=>if x4 < (et2.length:Int) then((some (([]:List Int):List Int)).bind fun cl8=>(if 0<=x4 then(if cl8.length + (Jm et2 x4).length < 17592186044416 then(if fz1.length < 5864062014805 then(Fr.l0 k (wrap64 (x4 + 1)) kc0 et2 hs7 (fz1 ++ [(cl8 ++ (Jm et2 x4))])) else(none)) else(none)) else(none))) else(some (hs7,fz1))
def Fr.f (k:Nat) (ab:List Int) (aa:List (List Int)):Option (List Int × (List (List Int))):=(some (([]:List Int):List Int)).bind fun bf5=>(if bf5.length + ab.length < 17592186044416 then(Fr.l0 k 0 ab aa (bf5 ++ ab) ([]:List (List Int))) else(none))
def Fr.T5:Bool × List (List Nat × List Nat):=(true,[([],[]),([0],[0]),([],[]),([],[]),([3],[3]),([],[]),([4,5],[4,5]),([6],[6]),([2,7],[2,7]),([8],[8]),([1,9,8],[1,9]),([0,1,2,3,4,5,6,7,8,9,10],[]),([11,10,10,0,1,2,3,4,5,6,7,8,9,10],[10,11])])
def Fr.B5:List Nat:=[0,1,0,0,8,0,56,120,252,508,1023,2047,4095]
theorem Fr.tab5:rtab .any (opsOf Try.f80 5)=Fr.T5:=by kernel_rfl
theorem Fr.bits5:waitsOk Fr.T5.2 Fr.B5=true:=by kernel_rfl
theorem yb {p:Prop} (h:p:=by repeat(first|(with_reducible first|exact HB.out|apply Jf|apply Je|apply Jd|refine Jc ?_ kc1.out|refine Jc ?_ kc2.out|refine Jc ?_ kc3.out)|exact HB.out)):p:=h
set_option maxHeartbeats 8000000 in
set_option maxRecDepth 100000 in
theorem Fr.calls (k:Nat) (ae:Option Addr) (ac:Nat) (ab:List Int) (ag:Option Addr) (af:Nat) (aa:List (List Int)) (r1:List Int) (r2:List (List Int)) (w:World) (ca:Kd.C (Kd.int .i64) w ae ab.length ab) (ce:ab.length<=ac) (cb:Kd.C (Kd.slice 3 (Kd.int .i64)) w ag aa.length aa) (cg:aa.length<=af) (h:Fr.f k ab aa=some (r1,r2)) :
  Calls Try.prog 80 #[.agg #[.slice ae ab.length ac, .slice ag aa.length af]] w fun e w'=>∃v0_ v1_:Value,e = .returned (.agg #[v0_,v1_])/\Kd.R (Kd.int .i64) 3 w' w.heap.size (fun _=>True) v0_ r1/\Kd.S (Kd.slice 3 (Kd.int .i64)) 22 w' w.heap.size (fun k_=>some k_≠(v0_:Value).ownBlock) v1_ r2/\Below w.heap.size w w':=by
 have hu25:=Try.underlying25
 have bg:=A_ ca
 have bs:=A_ ce
 clear ca ce
 have bd:=A_ cb
 have bv:=A_ cg
 clear cb cg
 have HB:=A_ (Below.refl w.heap.size w)
 have H:=h
 unfold Fr.f at H
 clear h
 obtain⟨bf5,hyq⟩:∃y_:List Int,y_=(([]:List Int)):=⟨_,rfl⟩
 replace H:(if bf5.length + ab.length < 17592186044416 then(Fr.l0 k 0 ab aa (bf5 ++ ab) ([]:List (List Int))) else(none))=some (r1,r2):=qh_
 have hs8:=A_ hyq
 clear hyq
 obtain⟨c2,H⟩:=pos_ H
 have fz2:=A_ c2
 clear c2
 obtain⟨qi,hyq⟩:∃y_:List Int,y_=(bf5 ++ ab):=⟨_,rfl⟩
 replace H:(Fr.l0 k 0 ab aa qi ([]:List (List Int)))=some (r1,r2):=qh_
 have kc4:=A_ hyq
 clear hyq
 have H':=A_ H
 clear H
 go_enter Try.func80,Try.ntmps80
 go_wp2_with (first|((with_reducible refine gd_ 1 ?_);refine bx_ (N:=1) #[.slice ae ab.length ac, .slice ag aa.length af] 25 ?_;intro ym hg w3 hbox hb;have kk:=A_ (hbox);have nh0:=A_ ((g63_:w.heap.size<=ym));have kc1:=nh0;replace HB:=hs_ (yb) hb;clear hb hbox hg)|((with_reducible refine gd_ 2 ?_);refine bx_ (N:=2) #[.slice none 0 0, .slice none 0 0] 25 ?_;intro xc hg w4 hbox hb;have oz:=A_ (hbox);have nh1:=A_ ((g63_:w.heap.size<=xc));have kc2:=nh1;replace HB:=hs_ (yb) hb;have fz3:=nl_ kk hg;have fz4:=nr_ kk hg;replace kk:=bb_ kk hb;clear hb hbox hg)|((with_reducible refine gd_ 5 ?_);refine rle_ 5 [] ?_;intro kc5 w5 ho6 hb hg_ hnew_;clear hg_ hnew_;(first|rw[<- hs8.out] at ho6|(simp only[Int.reduceToNat] at ho6;rw[<- hs8.out] at ho6));have et3:=A_ (Kd.R_lower ho6 (G9 (yb)));replace kk:=bb_ kk hb;replace oz:=bb_ oz hb;replace HB:=hs_ (yb) hb;clear hb ho6;have da6:=fz3.out;have da7:=fz4.out;obtain⟨bf1,bf2,bf3,bf4⟩:=blk2_ kk)|((with_reducible refine gate_builtin (b:=.append) (xs:=#[.tmp 5, .tmp 7]) rfl ?_);at_builtin;refine Kd.R_append_rows (Kd.int .i64) (w0:=w) w.heap.size rfl (.tmp 5) (.tmp 7) 22 3 (.int .i64 0) 8 rfl Try.underlying22 info3 rfl (by decide) (by omega) kc5 bf5 ab _ _ _ (fun _=>True) (fun _=>False) rfl rfl ?aO ?aR (fun _ _ h=>h) (fun _ h=>h.elim) ?aF ?aB ?aS ?aL ?_;(case aR=>exact uC_ bg);(case aB=>exact(yb));(case aF=>exact(fun _ _=>trivial));(case aO=>exact(uR_ et3));(case aS=>exact(G9 (yb)));(case aL=>have:=fz2.out;omega);intro nh2 w9 ho hb hg hat;rw[<- kc4.out] at ho;replace kk:=(bg_ kk hg (Kd.R_ne et3.out kk.out (by decide)));replace oz:=(bg_ oz hg (Kd.R_ne et3.out oz.out (by decide)));replace HB:=A_ (hb);have et4:=A_ (ho);clear et3;clear ho hb hg hat;obtain⟨h7,gg,yj⟩:=Kd.R_slice et4.out;subst yj)|((with_reducible refine gd_ 3 ?_);refine bx_ (N:=3) #[.slice none 0 0, .slice none 0 0] 25 ?_;intro yn hg kj hbox hb;replace et4:=rb_ et4 hb;have mt:=A_ (hbox);have nh3:=A_ ((g63_:w.heap.size<=yn));have kc3:=nh3;replace HB:=hs_ (yb) hb;have cm0:=nl_ kk hg;have et5:=nr_ kk hg;replace kk:=bb_ kk hb;have db3:=nl_ oz hg;have fz5:=nr_ oz hg;replace oz:=bb_ oz hb;clear hb hbox hg;have cj9:=et5.out;have ck0:=cm0.out;have fz6:=fz5.out;have fz7:=db3.out;obtain⟨ub,uc,ud,ue⟩:=blk2_ mt))
 go_loopg [4] k (fun kq v4 w'=>∃(ar:Int) (ap6:List (List Int)) (ay2:Value),v4 = .int .i64 ar/\G7 (Fr.l0 kq ar ab aa qi ap6=some (r1,r2))/\G7 (kq<=k)/\G7 (Kd.R (Kd.int .i64) 3 w' w.heap.size (fun _=>True) (.slice h7 qi.length gg) qi)/\G7 (Kd.S (Kd.slice 3 (Kd.int .i64)) 22 w' w.heap.size (fun k_=>some k_≠((.slice h7 qi.length gg):Value).ownBlock) ay2 ap6)/\G7 (hc_ w' ym #[(.slice ae ab.length ac),(.slice ag aa.length af)] 25)/\G7 (hc_ w' xc #[(.slice none 0 0),(.slice none 0 0)] 25)/\G7 (hc_ w' yn #[(.slice h7 qi.length gg),ay2] 25)/\G7 (Below w.heap.size w w'))
 case atStart=>exact⟨(0),(([]:List (List Int))),(.slice none 0 0),(g3_),H',⟨Nat.le_refl _⟩,⟨ra_ et4⟩,⟨g38_⟩,⟨ba_ kk⟩,⟨ba_ oz⟩,⟨ba_ mt⟩,⟨yb⟩⟩
 clear H'
 obtain⟨ar,ap6,ay2,rfl,HA,HK1,ag1,xd,kk,oz,mt,HB⟩:=hrel
 cases gk with
 | zero=>exact absurd HA.out (by simp[Fr.l0])
 | succ k1=>?_
 have H:=HA.out
 clear HA
 simp only[Fr.l0] at H
 by_cases er:ar < (aa.length:Int)
 case neg=>
  rw[if_neg er] at H
  have pc:=decide_eq_false er
  clear er
  simp only[Option.some.injEq,Prod.mk.injEq] at H
  obtain⟨rfl,rfl⟩:=H
  have ga1:=fz3.out
  have ga2:=fz4.out
  have ga3:=cm0.out
  have ga4:=et5.out
  obtain⟨ht6,ht7,ht8,ht9⟩:=blk2_ kk
  have bz8:=fz5.out
  have bz9:=db3.out
  obtain⟨db7,db8,db9,dc0⟩:=blk2_ mt
  obtain⟨bm8,bm9,bn0,bn1⟩:=blk2_ oz
  obtain⟨gl,fu,cm2⟩:=Kd.S_slice xd.out
  subst cm2
  go_wp2
  refine bodyPost_ret (results_cell_row rfl _ _ xc 25 #[.slice h7 qi.length gg, .slice gl ap6.length fu] (0,0) _ rfl (ba_ oz) Try.underlying25 rfl (g1_)) rfl ?_
  exact⟨_,_,g4_,ra_ ag1,sa_ xd,yb⟩
 rw[if_pos er] at H
 have pc:=decide_eq_true er
 clear er
 obtain⟨cl8,hyq⟩:∃y_:List Int,y_=(([]:List Int)):=⟨_,rfl⟩
 replace H:(if 0<=ar then(if cl8.length + (Jm aa ar).length < 17592186044416 then(if ap6.length < 5864062014805 then(Fr.l0 k1 (wrap64 (ar + 1)) ab aa qi (ap6 ++ [(cl8 ++ (Jm aa ar))])) else(none)) else(none)) else(none))=some (r1,r2):=qh_
 have ht1:=A_ hyq
 clear hyq
 obtain⟨af8,H⟩:=pd_ H
 obtain⟨i2,H⟩:=pos_ H
 have fz8:=A_ i2
 clear i2
 obtain⟨dx0,hyq⟩:∃y_:List Int,y_=(cl8 ++ (Jm aa ar)):=⟨_,rfl⟩
 replace H:(if ap6.length < 5864062014805 then(Fr.l0 k1 (wrap64 (ar + 1)) ab aa qi (ap6 ++ [dx0])) else(none))=some (r1,r2):=qh_
 have kc6:=A_ hyq
 clear hyq
 obtain⟨jw,H⟩:=pos_ H
 have kc7:=A_ jw
 clear jw
 obtain⟨dx1,hyq⟩:∃y_:List (List Int),y_=(ap6 ++ [dx0]):=⟨_,rfl⟩
 replace H:(Fr.l0 k1 (wrap64 (ar + 1)) ab aa qi dx1)=some (r1,r2):=qh_
 have kc8:=A_ hyq
 clear hyq
 have H':=A_ H
 clear H
 have bw3:=fz3.out
 have bw4:=fz4.out
 have db4:=cm0.out
 have db5:=et5.out
 obtain⟨t6,t7,t8,t9⟩:=blk2_ kk
 try go_wp2
 replace ag1:=rd_ ag1
 replace xd:=sd_ xd
 replace kk:=bd_ kk
 replace oz:=bd_ oz
 replace mt:=bd_ mt
 replace HB:=A_ (Jd HB.out)
 obtain⟨⟨et6,kc9,kd0,kd1,et7,ht2,ht3⟩,fz9,ga0⟩:=rdp_ (at_L1 bd.out ar)
 have db6:=et7
 cases kd1
 replace et7:=cl_ HB et7
 have ht4:=A_ ht3
 have nh4:=A_ ht2
 clear ht3 ht2
 refine start_ (n:=13) (S:=fun w'=>w'.cell? ⟨yn,0,none⟩=some (.slice h7 qi.length gg)/\w'.cell? ⟨yn,1,none⟩=some (ay2)/\w'.cell? ⟨ym,0,none⟩=some (.slice ae ab.length ac)/\w'.cell? ⟨ym,1,none⟩=some (.slice (some et6) aa.length af)/\w'.cell? (et6.add (ar).toNat)=some (.slice kc9 (Jm aa ar).length kd0)) (ds:=[12]) (tl_ 13 0) (g1_) rfl (g1_) ⟨(G8 mt.out 0).trans rfl,(G8 mt.out 1).trans rfl,(G8 kk.out 0).trans rfl,(G8 kk.out 1).trans rfl,((cl_ HB db6).trans rfl)⟩ (fun hHeld=>?_);refine Js Fr.tab5 Fr.bits5 (fun HT_ HW_=>?_)
 generalize wr.drew=uj at ag1 xd kk oz mt HB ht4 et7 hHeld |-
 refine pw_ 0 17 (tl_ 13 1) ?_
 refine pw_ 3 20 (tl_ 13 9) ?_
 refine pw_ 5 22 (tl_ 13 41) ?_
 refine tk4_ 1 18 (tl_ 13 43) hHeld ?_
 refine tk4_ 4 21 (tl_ 13 59) hHeld ?_
 refine pw_ 6 23 (tl_ 13 123) ?_
 refine tk4_ 7 24 (tl_ 13 251) hHeld ?_
 refine one_ (i:=2) (N:=some 19) (tl_ 13 255) rfl rfl (Ju HT_.out (g1_)) (by decide) (fun K hK=>?_)
 refine rls_ 19 [] ?_
 intro kd2 w23 cm1 hb hg_ hnew_
 clear hg_ hnew_
 (first|rw[<- ht1.out] at cm1|(simp only[Int.reduceToNat] at cm1;rw[<- ht1.out] at cm1))
 replace xd:=A_ (Kd.S_elder' (uS_ xd) (Kd.R_base cm1) hb)
 have dx2:=A_ (Kd.R_lower (Kd.R_new' cm1 (Kd.R_lt (uR_ ag1))) (G9 (yb)))
 replace ag1:=A_ (Kd.R_elder' (uR_ ag1) (Kd.R_base cm1) hb)
 replace kk:=bb_ kk hb
 replace oz:=bb_ oz hb
 replace mt:=bb_ mt hb
 replace HB:=hs_ (yb) hb
 clear hb cm1
 refine hK.out _ _ ⟨(G8 mt.out 0).trans rfl,(G8 mt.out 1).trans rfl,(G8 kk.out 0).trans rfl,(G8 kk.out 1).trans rfl,((cl_ HB db6).trans rfl)⟩ (fun hHeld=>?_)
 clear hK K
 refine nm_ ?_
 refine one_ (i:=8) (N:=some 25) (tl_ 13 511) rfl rfl (Ju HT_.out (g1_)) (by decide) (fun K hK=>?_)
 refine Kd.R_append_rows_step (Kd.int .i64) (w0:=w) w.heap.size (by rfl) (.tmp 19) (.tmp 24) 22 3 (.int .i64 0) 8 rfl Try.underlying22 info3 rfl (by decide) (by omega) kd2 cl8 (Jm aa ar) _ _ _ (fun k_=>some k_≠(.slice h7 qi.length gg:Value).ownBlock) (fun _=>False) rfl rfl ?aO ?aR (fun _ _ h=>h) (fun _ h=>h.elim) ?aF ?aB ?aS ?aL ?_
 (case aR=>exact uC_ ht4)
 (case aB=>exact(yb))
 (case aF=>exact(fun k_ hk=>Kd.fresh' (Kd.R_lt (uR_ ag1)) k_ hk))
 (case aO=>exact(yR_ dx2 (fun _ hk=>hk.2)))
 (case aS=>exact(G9 (yb)))
 (case aL=>have:=fz8.out;omega)
 intro nh5 w25 ho hb hg hat
 rw[<- kc6.out] at ho
 replace ag1:=A_ (Kd.R_after (ok:=(fun _=>True)) (uR_ ag1) hg hat)
 replace xd:=A_ (Kd.S_after (ok:=(fun k_=>some k_≠(.slice h7 qi.length gg:Value).ownBlock)) (uS_ xd) hg hat)
 replace kk:=(bg_ kk hg (Kd.R_ne dx2.out kk.out (by decide)))
 replace oz:=(bg_ oz hg (Kd.R_ne dx2.out oz.out (by decide)))
 replace mt:=(bg_ mt hg (Kd.R_ne dx2.out mt.out (by decide)))
 replace HB:=A_ (hb)
 have et8:=A_ (ho)
 clear dx2
 clear ho hb hg hat
 obtain⟨l8,lz,qj⟩:=Kd.R_slice et8.out
 (first|subst qj|(injection qj with f1_ f2_ f3_;have f4_:=f1_.symm;have f5_:=f3_.symm;clear f1_ f2_ f3_;subst f4_;subst f5_))
 refine hK.out _ _ ⟨(G8 mt.out 0).trans rfl,(G8 mt.out 1).trans rfl,(G8 kk.out 0).trans rfl,(G8 kk.out 1).trans rfl,((cl_ HB db6).trans rfl)⟩ (fun hHeld=>?_)
 clear hK K
 refine nm_ ?_
 refine one_ (i:=9) (N:=some 26) (tl_ 13 1023) rfl rfl (Ju HT_.out (g1_)) (by decide) (fun K hK=>?_)
 refine value_ (w1:=?_) (v:=?_) (by rfl) rfl ?_ ?_
 rotate_left 2
 ·go_simp
  constructor
  ·rfl
  rfl
 refine hK.out _ _ ⟨(G8 (Jg mt.out _) 0).trans rfl,(G8 (Jg mt.out _) 1).trans rfl,(G8 (Jg kk.out _) 0).trans rfl,(G8 (Jg kk.out _) 1).trans rfl,(World.cell?_alloc_lt _ _ _ (World.block_lt_of_cell? _ _ (((cl_ HB db6).trans rfl)))).trans (((cl_ HB db6).trans rfl))⟩ (fun hHeld=>?_)
 clear hK K
 refine nm_ ?_
 refine one_ (i:=10) (N:=some 27) (tl_ 13 2047) rfl rfl (Ju HT_.out (g1_)) (by decide) (fun K hK=>?_)
 refine Kd.S_append_step (Kd.slice 3 (Kd.int .i64)) (w0:=w) w.heap.size (by rfl) (.tmp 18) (.tmp 26) 23 22 (.slice none 0 0) 24 rfl Try.underlying23 info22 rfl (by decide) (by omega) ay2 ap6 dx0 [.slice l8 dx0.length lz] (fun k_=>some k_≠(.slice h7 qi.length gg:Value).ownBlock) (fun k_=>some k_=(.slice l8 dx0.length lz:Value).ownBlock) rfl rfl ?aP (fun k_ hk_=>((Kd.R_mono (ok':=fun k_=>((fun k_=>some k_≠(.slice h7 qi.length gg:Value).ownBlock)) k_/\some k_≠(ay2:Value).ownBlock) (Kd.R_apart' (et8.out) (Kd.S_typed xd.out) (by decide)) (fun k_ hk=>⟨hk.1,hk.2⟩))).1 k_ hk_.symm) ?aF ?aO ?aB ?aS ?aL ?_
 (case aP=>exact Kd.M_row (Kd.R_mono (Kd.R_tight rfl (Kd.R_mono (ok':=fun k_=>((fun k_=>some k_≠(.slice h7 qi.length gg:Value).ownBlock)) k_/\some k_≠(ay2:Value).ownBlock) (Kd.R_apart' (et8.out) (Kd.S_typed xd.out) (by decide)) (fun k_ hk=>⟨hk.1,hk.2⟩))) (fun _ h_=>h_)))
 (case aB=>exact(yb))
 (case aF=>exact(fun k_ hk=>Kd.fresh' (Kd.R_lt (uR_ ag1)) k_ hk))
 (case aO=>exact(by(with_reducible repeat(first|apply Kd.S_alloc|apply Kd.S_drewN|apply Kd.S_drew));exact Kd.S_mono xd.out (fun k_ hk=>⟨hk.1,fun e_=>hk.2 e_⟩)))
 (case aS=>exact(G9 (yb)))
 (case aL=>have:=kc7.out;omega)
 intro nh6 w26 ho hb hg hat
 rw[<- kc8.out] at ho
 replace ag1:=A_ (Kd.R_over' (uR_ ag1) (Kd.S_typed (uS_ xd)) (by decide) hg)
 replace kk:=(bg_ kk hg (Kd.S_ne xd.out kk.out (by decide)))
 replace oz:=(bg_ oz hg (Kd.S_ne xd.out oz.out (by decide)))
 replace mt:=(bg_ mt hg (Kd.S_ne xd.out mt.out (by decide)))
 replace HB:=A_ (hb)
 have ht5:=A_ (ho)
 clear xd et8
 clear ho hb hg hat
 obtain⟨vn,vp,ak6⟩:=Kd.S_slice ht5.out
 (first|subst ak6|(injection ak6 with f1_ f2_ f3_;have f4_:=f1_.symm;have f5_:=f3_.symm;clear f1_ f2_ f3_;subst f4_;subst f5_))
 refine hK.out _ _ ⟨(G8 mt.out 0).trans rfl,(G8 mt.out 1).trans rfl,(G8 kk.out 0).trans rfl,(G8 kk.out 1).trans rfl,((cl_ HB db6).trans rfl)⟩ (fun hHeld=>?_)
 clear hK K
 refine nm_ ?_
 refine pw_ 11 28 (tl_ 13 4095) ?_
 refine last_ (i:=12) (N:=none) (tl_ 13 8191) rfl rfl (Ju HT_.out (g1_)) (by decide) (fun K hK=>?_)
 have nh7:w26.cell? ⟨yn,1,none⟩=some (ay2):=(G8 mt.out 1).trans rfl
 have nh8:=Jj mt.out 1
 have ni0:=db3.out
 have ni2:=fz5.out
 refine skip_ (w1:=?_) (by rfl) rfl ?_ ?_
 rotate_left
 ·go_simp
  rfl
 refine hK.out _ _ ?_
 clear hK K
 refine done_ (done_of HT_.out (g1_)) ?_
 try go_wp2
 go_roundg k1
 case measure=>have:=HK1.out;omega
 case rel=>exact⟨(wrap64 (ar + 1)),(dx1),(.slice vn dx1.length vp),(g3_),H',⟨g8_⟩,⟨ra_ ag1⟩,⟨sa_ ht5⟩,⟨ba_ kk⟩,⟨ba_ oz⟩,⟨ba_ mt⟩,⟨yb⟩⟩
def k25s:Kd S25 where
 sz:=k25.sz
 E:=k25.E
 K:=k25.K
 M:=fun w base ok x cs=>∃v0 v1,cs=[v0,v1]/\(Kd.int .i64).R 3 w base ok v0 x.f0/\Kd.S (Kd.slice 3 (Kd.int .i64)) 22 w base (fun k=>ok k/\some k≠v0.ownBlock) v1 x.f1
 K_len:=k25.K_len
 K_one:=k25.K_one
 K_below:=k25.K_below
 K_of_M:=fun h=>by
  obtain⟨v0,v1,rfl,h0,h1⟩:=h
  exact k25.K_of_M (k25_mkM _ _ _ _ h0 (Kd.R_mono (Kd.S_R h1) (fun _ hk=>hk.1)))
 M_mono:=fun hok h=>by
  obtain⟨v0,v1,rfl,h0,h1⟩:=h
  exact⟨v0,v1,rfl,Kd.R_mono h0 hok,Kd.S_mono h1 (fun _ hk=>⟨hok _ hk.1,hk.2⟩)⟩
 M_bound:=fun h=>by
  obtain⟨v0,v1,rfl,h0,h1⟩:=h
  refine⟨v0,v1,rfl,Kd.R_mono (Kd.R_bound h0) (fun _ hk=>⟨hk.1,hk.2.1,hk.2.2.1,?_⟩),Kd.S_mono (Kd.S_bound h1) (fun _ hk=>⟨⟨hk.1.1,hk.2.1,hk.2.2.1,?_⟩,hk.1.2⟩)⟩
  ·obtain⟨q,hq,c,hc⟩:=hk.2.2.2
   exact⟨q,(List.mem_cons.1 hq).elim (fun e_=>by rw[e_];decide) (fun h_=>absurd h_ (by simp[Kd.int,Kd.scalar])),c,hc⟩
  ·obtain⟨q,hq,c,hc⟩:=hk.2.2.2
   refine⟨q,?_,c,hc⟩
   have h2:q=22 ∨ q=3:=by simpa [Kd.slice,Kd.int,Kd.scalar] using hq
   rcases h2 with rfl|rfl <;> decide
 M_move:=fun hm h=>by
  obtain⟨v0,v1,rfl,h0,h1⟩:=h
  exact⟨v0,v1,rfl,Kd.R_move h0 hm,Kd.S_move h1 (fun _ hk=>hm _ hk.1)⟩
 M_lower:=fun hb h=>by
  obtain⟨v0,v1,rfl,h0,h1⟩:=h
  exact⟨v0,v1,rfl,Kd.R_lower h0 hb,Kd.S_lower h1 hb⟩
theorem k25s_mkM (w:World) (base:Nat) (ok:Nat->Prop) (x:S25) {v0:Value} (g0:(Kd.int .i64).R 3 w base ok v0 x.f0) {v1:Value} (g1:Kd.S (Kd.slice 3 (Kd.int .i64)) 22 w base (fun k=>ok k/\some k≠v0.ownBlock) v1 x.f1):k25s.M w base ok x [v0,v1]:=⟨v0,v1,rfl,g0,g1⟩
theorem k25s_M {w:World} {base:Nat} {ok:Nat->Prop} {x:S25} {cs:List Value} (h:k25s.M w base ok x cs):k25.M w base ok x cs:=by
 obtain⟨v0,v1,rfl,h0,h1⟩:=h
 exact k25_mkM _ _ _ _ h0 (Kd.R_mono (Kd.S_R h1) (fun _ hk=>hk.1))
theorem k25s_R {e:Nat} {w:World} {base:Nat} {ok:Nat->Prop} {v:Value} {xs:List S25} (h:Kd.S k25s e w base ok v xs):k25.R e w base ok v xs:=by
 obtain⟨h0,inner,ho,hr⟩:=Kd.S_R h
 exact⟨h0,inner,ho,hr.imp_ (fun _ _ hp=>k25s_M hp)⟩
def Fm.l0:Nat->Int->List Int->List (List Int)->List (S25)->List Int->List (List Int)->List (S25)->Option (List Int × (List (List Int)) × (List (S25)))
 | 0,_,_,_,_,_,_,_=>none
 | k + 1,x4,kd3,kd4,et9,hu3,hu4,ga5=>if x4 < (et9.length:Int) then(if 0<=x4 then((Fr.f k ((Jn et9 x4).f0) ((Jn et9 x4).f1)).bind fun bt164=>(if ga5.length < 2932031007402 then(Fm.l0 k (wrap64 (x4 + 1)) kd3 kd4 et9 hu3 hu4 (ga5 ++ [(⟨bt164.1,bt164.2⟩:S25)])) else(none))) else(none)) else(some (hu3,hu4,ga5))
def Fm.f (k:Nat) (ab:List Int) (aa:List (List Int)) (ai:List (S25)):Option (List Int × (List (List Int)) × (List (S25))):=(Fr.f k ab aa).bind fun bt156=>(Fm.l0 k 0 ab aa ai bt156.1 bt156.2 ([]:List (S25)))
def Fm.T5:Bool × List (List Nat × List Nat):=(true,[([],[]),([0],[0]),([],[]),([2],[2]),([],[]),([3,4],[3,4]),([5],[5]),([6],[6]),([7],[7]),([1,8,7],[1,8]),([0,1,2,3,4,5,6,7,8,9],[]),([10,9,9,0,1,2,3,4,5,6,7,8,9],[9,10])])
def Fm.B5:List Nat:=[0,1,0,4,0,28,60,124,252,511,1023,2047]
theorem Fm.tab5:rtab .any (opsOf Try.f100 5)=Fm.T5:=by kernel_rfl
theorem Fm.bits5:waitsOk Fm.T5.2 Fm.B5=true:=by kernel_rfl
theorem Fm.calls_s_q0 {p:Prop} (h:p:=by repeat(first|(with_reducible first|exact HB.out|apply Jf|apply Je|apply Jd|refine Jc ?_ kd5.out|refine Jc ?_ kd6.out|refine Jc ?_ fv1.out)|exact HB.out)):p:=h
set_option maxHeartbeats 8000000 in
set_option maxRecDepth 100000 in
theorem Fm.calls_s (k:Nat) (ae:Option Addr) (ac:Nat) (ab:List Int) (ag:Option Addr) (af:Nat) (aa:List (List Int)) (av:Option Addr) (au:Nat) (ai:List (S25)) (r1:List Int) (r2:List (List Int)) (r3:List (S25)) (w:World) (ca:Kd.C (Kd.int .i64) w ae ab.length ab) (ce:ab.length<=ac) (cb:Kd.C (Kd.slice 3 (Kd.int .i64)) w ag aa.length aa) (cg:aa.length<=af) (g8:Kd.C k25 w av ai.length ai) (g9:ai.length<=au) (h:Fm.f k ab aa ai=some (r1,r2,r3)) :
  Calls Try.prog 100 #[.agg #[.slice ae ab.length ac, .slice ag aa.length af, .slice av ai.length au]] w fun e w'=>∃v0_ v1_ v2_:Value,e = .returned (.agg #[v0_,v1_,v2_])/\Kd.R (Kd.int .i64) 3 w' w.heap.size (fun _=>True) v0_ r1/\Kd.S (Kd.slice 3 (Kd.int .i64)) 22 w' w.heap.size (fun k_=>some k_≠(v0_:Value).ownBlock) v1_ r2/\Kd.S k25s 25 w' w.heap.size (fun k_=>some k_≠(v0_:Value).ownBlock/\some k_≠(v1_:Value).ownBlock) v2_ r3/\Below w.heap.size w w':=by
 have hu28:=Try.underlying28
 have hu25:=Try.underlying25
 have bg:=A_ ca
 have bs:=A_ ce
 clear ca ce
 have bd:=A_ cb
 have bv:=A_ cg
 clear cb cg
 have gc:=A_ g8
 have gx:=A_ g9
 clear g8 g9
 have HB:=A_ (Below.refl w.heap.size w)
 have H:=h
 unfold Fm.f at H
 clear h
 replace H:=Option.bind_eq_some_iff.mp H
 obtain⟨⟨px,rk⟩,vm,H⟩:=H
 try dsimp only at H
 have A2:=A_ vm
 clear vm
 have H':=A_ H
 clear H
 go_enter Try.func100,Try.ntmps100
 go_wp2_with (first|((with_reducible refine gd_ 1 ?_);refine bx_ (N:=1) #[.slice ae ab.length ac, .slice ag aa.length af, .slice av ai.length au] 28 ?_;intro aa3 hg w3 hbox hb;have lb:=A_ (hbox);have ni3:=A_ ((g64_:w.heap.size<=aa3));have kd5:=ni3;replace HB:=A_ (Jr (Fm.calls_s_q0) hb);clear hb hbox hg)|((with_reducible refine gd_ 2 ?_);refine bx_ (N:=2) #[.slice none 0 0, .slice none 0 0, .slice none 0 0] 28 ?_;intro tf hg w4 hbox hb;have rl:=A_ (hbox);have ni4:=A_ ((g64_:w.heap.size<=tf));have kd6:=ni4;replace HB:=A_ (Jr (Fm.calls_s_q0) hb);have ga6:=nl_ lb hg;have ga7:=nr_ lb hg;replace lb:=bb_ lb hb;clear hb hbox hg;have eu2:=ga6.out;have eu3:=ga7.out;obtain⟨uf,ug,bl5,uh,ui,bl6⟩:=blk3_ lb)|((with_reducible refine gc_ 80 ?_);refine gl_ 7 Try.func80 #[.agg #[.slice ae ab.length ac, .slice ag aa.length af]] ?_;(refine(Fr.calls k _ _ ab _ _ aa px rk _ (uC_ bg) bs.out (uC_ bd) bv.out A2.out).mono ?_);rintro e w7 ⟨ni5,ni6,rfl,ah,ak,hb⟩;refine⟨_,rfl,?_⟩;have eu4:=A_ (Kd.R_lower ah (G9 (Fm.calls_s_q0)));have eu5:=A_ (Kd.S_lower ak (G9 (Fm.calls_s_q0)));replace lb:=bb_ lb hb;replace rl:=bb_ rl hb;replace HB:=A_ (Jr (Fm.calls_s_q0) hb);obtain⟨jx,jy,eo8⟩:=Kd.S_slice eu5.out;subst eo8;obtain⟨g3,gu,eo9⟩:=Kd.R_slice eu4.out;subst eo9)|((with_reducible refine gd_ 3 ?_);refine bx_ (N:=3) #[.slice none 0 0, .slice none 0 0, .slice none 0 0] 28 ?_;intro l6 hg w10 hbox hb;replace eu4:=rb_ eu4 hb;replace eu5:=sb_ eu5 hb;have jb:=A_ (hbox);have jx8:=A_ ((g64_:w.heap.size<=l6));have fv1:=jx8;replace HB:=A_ (Jr (Fm.calls_s_q0) hb);have ca0:=nl_ lb hg;have eu6:=nr_ lb hg;replace lb:=bb_ lb hb;have cm3:=nl_ rl hg;have ga8:=nr_ rl hg;replace rl:=bb_ rl hb;clear hb hbox hg;have bf6:=eu6.out;have bf7:=ca0.out;have cj9:=ga8.out;have ck0:=cm3.out;obtain⟨sm,sn,bw5,so,sp,bw6⟩:=blk3_ jb))
 go_loopg [4] k (fun kq v4 w'=>∃(ar:Int) (bn2:List (S25)) (ay3:Value),v4 = .int .i64 ar/\G7 (Fm.l0 kq ar ab aa ai px rk bn2=some (r1,r2,r3))/\G7 (kq<=k)/\G7 (Kd.R (Kd.int .i64) 3 w' w.heap.size (fun _=>True) (.slice g3 px.length gu) px)/\G7 (Kd.S (Kd.slice 3 (Kd.int .i64)) 22 w' w.heap.size (fun k_=>some k_≠((.slice g3 px.length gu):Value).ownBlock) (.slice jx rk.length jy) rk)/\G7 (Kd.S k25s 25 w' w.heap.size (fun k_=>some k_≠((.slice g3 px.length gu):Value).ownBlock/\some k_≠((.slice jx rk.length jy):Value).ownBlock) ay3 bn2)/\G7 (hc_ w' aa3 #[(.slice ae ab.length ac),(.slice ag aa.length af),(.slice av ai.length au)] 28)/\G7 (hc_ w' tf #[(.slice none 0 0),(.slice none 0 0),(.slice none 0 0)] 28)/\G7 (hc_ w' l6 #[(.slice g3 px.length gu),(.slice jx rk.length jy),ay3] 28)/\G7 (Below w.heap.size w w'))
 case atStart=>exact⟨(0),(([]:List (S25))),(.slice none 0 0),(g3_),H',⟨Nat.le_refl _⟩,⟨ra_ eu4⟩,⟨sa_ eu5⟩,⟨g25_⟩,⟨ba_ lb⟩,⟨ba_ rl⟩,⟨ba_ jb⟩,⟨Fm.calls_s_q0⟩⟩
 clear H'
 obtain⟨ar,bn2,ay3,rfl,HA,HK1,ag2,ak7,yp,lb,rl,jb,HB⟩:=hrel
 cases gk with
 | zero=>exact absurd HA.out (by simp[Fm.l0])
 | succ k1=>?_
 have H:=HA.out
 clear HA
 simp only[Fm.l0] at H
 by_cases jh:ar < (ai.length:Int)
 case neg=>
  rw[if_neg jh] at H
  have ap7:=decide_eq_false jh
  clear jh
  simp only[Option.some.injEq,Prod.mk.injEq] at H
  obtain⟨rfl,rfl,rfl⟩:=H
  have dc2:=ga6.out
  have dc3:=ga7.out
  have dx9:=ca0.out
  have dy0:=eu6.out
  obtain⟨es8,es9,ke2,et0,et1,ke3⟩:=blk3_ lb
  have ga3:=ga8.out
  have ga4:=cm3.out
  obtain⟨ht6,ht7,nj4,ht8,ht9,nj5⟩:=blk3_ jb
  obtain⟨hv9,hw0,ke4,hw2,hw3,ke5⟩:=blk3_ rl
  obtain⟨oj,nu,cm4⟩:=Kd.S_slice yp.out
  subst cm4
  go_wp2
  refine bodyPost_ret (results_cell_row rfl _ _ tf 28 #[.slice g3 px.length gu, .slice jx rk.length jy, .slice oj bn2.length nu] (0,0) _ rfl (ba_ rl) Try.underlying28 rfl (g1_)) rfl ?_
  exact⟨_,_,_,g4_,ra_ ag2,sa_ ak7,sa_ yp,Fm.calls_s_q0⟩
 rw[if_pos jh] at H
 have ap7:=decide_eq_true jh
 clear jh
 obtain⟨pc,H⟩:=pd_ H
 replace H:=Option.bind_eq_some_iff.mp H
 obtain⟨⟨dx3,dx4⟩,dx5,H⟩:=H
 try dsimp only at H
 have A16:=A_ dx5
 clear dx5
 obtain⟨i2,H⟩:=pos_ H
 have fz8:=A_ i2
 clear i2
 obtain⟨dc1,hyq⟩:∃y_:List (S25),y_=(bn2 ++ [(⟨dx3,dx4⟩:S25)]):=⟨_,rfl⟩
 replace H:(Fm.l0 k1 (wrap64 (ar + 1)) ab aa ai px rk dc1)=some (r1,r2,r3):=qh_
 have kd7:=A_ hyq
 clear hyq
 have H':=A_ H
 clear H
 have dr5:=ga6.out
 have dr6:=ga7.out
 have bw3:=ca0.out
 have bw4:=eu6.out
 obtain⟨bk5,bk6,fq3,bk7,bk8,fq4⟩:=blk3_ lb
 try go_wp2
 replace ag2:=rd_ ag2
 replace ak7:=sd_ ak7
 replace yp:=sd_ yp
 replace lb:=bd_ lb
 replace rl:=bd_ rl
 replace jb:=bd_ jb
 replace HB:=A_ (Jd HB.out)
 have ga9:0<=(ar:Int):=od_
 have gb0:ar < (ai.length:Int):=od_
 obtain⟨dx6,hu5,hu6,hu7,hu8,kd8,eu7,eu8,hu9,hv0,hv1,hv2⟩:=at_T25 gc.out ar ga9 gb0
 have dx7:=eu8
 have dx8:=eu7
 cases kd8
 replace eu7:=cl_ HB eu7
 replace eu8:=cl_ HB eu8
 have hv3:=A_ hv0
 have kd9:=A_ hu9
 clear hv0 hu9
 have hv4:=A_ hv2
 have ke0:=A_ hv1
 clear hv2 hv1
 replace ga9:=eq_true ga9
 replace gb0:=eq_true gb0
 refine start_ (n:=12) (S:=fun w'=>w'.cell? ⟨l6,0,none⟩=some (.slice g3 px.length gu)/\w'.cell? ⟨l6,1,none⟩=some (.slice jx rk.length jy)/\w'.cell? ⟨l6,2,none⟩=some (ay3)/\w'.cell? ⟨aa3,0,none⟩=some (.slice ae ab.length ac)/\w'.cell? ⟨aa3,1,none⟩=some (.slice ag aa.length af)/\w'.cell? ⟨aa3,2,none⟩=some (.slice (some dx6) ai.length au)/\w'.cell? (dx6.add ((ar).toNat * 2))=some (.slice hu5 ((Jn ai ar).f0).length hu6)/\w'.cell? ⟨(dx6.add ((ar).toNat * 2)).block,(dx6.add ((ar).toNat * 2)).off + 1,none⟩=some (.slice hu7 ((Jn ai ar).f1).length hu8)) (ds:=[11]) (tl_ 12 0) (g1_) rfl (g1_) ⟨(G8 jb.out 0).trans rfl,(G8 jb.out 1).trans rfl,(G8 jb.out 2).trans rfl,(G8 lb.out 0).trans rfl,(G8 lb.out 1).trans rfl,(G8 lb.out 2).trans rfl,((cl_ HB dx8).trans rfl),((cl_ HB dx7).trans rfl)⟩ (fun hHeld=>?_);refine Js Fm.tab5 Fm.bits5 (fun HT_ HW_=>?_)
 generalize wr.drew=w21 at ag2 ak7 yp lb rl jb HB hv3 hv4 eu7 eu8 hHeld |-
 refine pw_ 0 16 (tl_ 12 1) ?_
 refine pw_ 2 18 (tl_ 12 5) ?_
 refine pw_ 4 20 (tl_ 12 21) ?_
 refine tk5_ 1 17 (tl_ 12 23) hHeld ?_
 refine tk5_ 3 19 (tl_ 12 31) hHeld ?_
 refine pw_ 5 21 (tl_ 12 63) ?_
 refine tk5_ 6 22 (tl_ 12 127) hHeld ?_
 refine one_ (i:=7) (N:=some 23) (tl_ 12 255) rfl rfl (Ju HT_.out (g1_)) (by decide) (fun K hK=>?_)
 refine goes_ Try.func80 (g1_) rfl #[.agg #[.slice hu5 ((Jn ai ar).f0).length hu6, .slice hu7 ((Jn ai ar).f1).length hu8]] (by rfl) rfl rfl (gM_) ?_
 refine(Fr.calls k1 _ _ ((Jn ai ar).f0) _ _ ((Jn ai ar).f1) dx3 dx4 _ (uC_ hv3) kd9.out (uC_ hv4) ke0.out A16.out).mono ?_
 rintro e uj ⟨hv5,ke1,rfl,ah,ak,hb⟩
 refine⟨_,rfl,?_⟩
 have HP1:G7 (Kd.R (Kd.int .i64) 3 uj w.heap.size (fun k_=>w21.heap.size<=k_/\(fun k_=>some k_≠(.slice g3 px.length gu:Value).ownBlock/\some k_≠(.slice jx rk.length jy:Value).ownBlock) k_/\some k_≠(ay3:Value).ownBlock) hv5 _):=A_ (Kd.R_lower (Kd.R_mono (Kd.R_bound ah) (fun _ hk=>⟨hk.2.1,⟨Kd.fresh' (Kd.R_lt ag2.out) _ hk.2.1,Kd.fresh' (Kd.S_lt ak7.out) _ hk.2.1⟩,Kd.fresh' (Kd.S_lt yp.out) _ hk.2.1⟩)) (G9 (Fm.calls_s_q0)))
 have HP2:G7 (Kd.S (Kd.slice 3 (Kd.int .i64)) 22 uj w.heap.size (fun k_=>(fun k_=>w21.heap.size<=k_/\(fun k_=>some k_≠(.slice g3 px.length gu:Value).ownBlock/\some k_≠(.slice jx rk.length jy:Value).ownBlock) k_/\some k_≠(ay3:Value).ownBlock) k_/\some k_≠(hv5:Value).ownBlock) ke1 _):=A_ (Kd.S_lower (Kd.S_mono (Kd.S_bound ak) (fun _ hk=>⟨⟨hk.2.1,⟨Kd.fresh' (Kd.R_lt ag2.out) _ hk.2.1,Kd.fresh' (Kd.S_lt ak7.out) _ hk.2.1⟩,Kd.fresh' (Kd.S_lt yp.out) _ hk.2.1⟩,hk.1⟩)) (G9 (Fm.calls_s_q0)))
 have HP3:=A_ (Kd.S_old (uS_ yp) hb)
 replace yp:=A_ (Kd.S_mono (Kd.S_told (Kd.S_told (Kd.S_old (uS_ yp) hb) (Kd.R_base ah)) (Kd.S_base ak)) (fun _ h_=>h_.1))
 have hv6:=A_ (Kd.R_lower (Kd.R_new' ah (Kd.R_lt (uR_ ag2))) (G9 (Fm.calls_s_q0)))
 have hv7:=A_ (Kd.S_lower (Kd.S_new' (Kd.S_new' ak (Kd.R_lt (uR_ ag2))) (Kd.S_lt (uS_ ak7))) (G9 (Fm.calls_s_q0)))
 replace ag2:=A_ (Kd.R_elder' (uR_ ag2) (Kd.R_base ah) hb)
 replace ak7:=A_ (Kd.S_mono (Kd.S_told (Kd.S_told (Kd.S_old (uS_ ak7) hb) (Kd.R_base ah)) (Kd.S_base ak)) (fun _ h_=>h_.1))
 replace lb:=bb_ lb hb
 replace rl:=bb_ rl hb
 replace jb:=bb_ jb hb
 replace HB:=A_ (Jr (Fm.calls_s_q0) hb)
 obtain⟨aa4,et,ca1⟩:=Kd.R_slice hv6.out
 (first|subst ca1|(injection ca1 with f1_ f2_ f3_;have f4_:=f1_.symm;have f5_:=f3_.symm;clear f1_ f2_ f3_;subst f4_;subst f5_))
 obtain⟨bf8,bf9,bn3⟩:=Kd.S_slice hv7.out
 (first|subst bn3|(injection bn3 with f1_ f2_ f3_;have f4_:=f1_.symm;have f5_:=f3_.symm;clear f1_ f2_ f3_;subst f4_;subst f5_))
 refine hK.out _ _ ⟨(G8 jb.out 0).trans rfl,(G8 jb.out 1).trans rfl,(G8 jb.out 2).trans rfl,(G8 lb.out 0).trans rfl,(G8 lb.out 1).trans rfl,(G8 lb.out 2).trans rfl,((cl_ HB dx8).trans rfl),((cl_ HB dx7).trans rfl)⟩ (fun hHeld=>?_)
 clear hK K
 refine nm_ ?_
 refine one_ (i:=8) (N:=some 24) (tl_ 12 511) rfl rfl (Ju HT_.out (g1_)) (by decide) (fun K hK=>?_)
 refine value_ (w1:=?_) (v:=?_) (by rfl) rfl ?_ ?_
 rotate_left 2
 ·go_simp
  constructor
  ·rfl
  rfl
 refine hK.out _ _ ⟨(G8 (Jg jb.out _) 0).trans rfl,(G8 (Jg jb.out _) 1).trans rfl,(G8 (Jg jb.out _) 2).trans rfl,(G8 (Jg lb.out _) 0).trans rfl,(G8 (Jg lb.out _) 1).trans rfl,(G8 (Jg lb.out _) 2).trans rfl,(World.cell?_alloc_lt _ _ _ (World.block_lt_of_cell? _ _ (((cl_ HB dx8).trans rfl)))).trans (((cl_ HB dx8).trans rfl)),(World.cell?_alloc_lt _ _ _ (World.block_lt_of_cell? _ _ (((cl_ HB dx7).trans rfl)))).trans (((cl_ HB dx7).trans rfl))⟩ (fun hHeld=>?_)
 clear hK K
 refine nm_ ?_
 refine one_ (i:=9) (N:=some 25) (tl_ 12 1023) rfl rfl (Ju HT_.out (g1_)) (by decide) (fun K hK=>?_)
 refine Kd.S_append_step k25s (w0:=w) w.heap.size (by rfl) (.tmp 17) (.tmp 24) 26 25 (.agg #[(.slice none 0 0),(.slice none 0 0)]) 48 rfl Try.underlying26 info25 rfl (by decide) (by omega) ay3 bn2 (⟨dx3,dx4⟩:S25) [.slice aa4 dx3.length et, .slice bf8 dx4.length bf9] (fun k_=>some k_≠(.slice g3 px.length gu:Value).ownBlock/\some k_≠(.slice jx rk.length jy:Value).ownBlock) (fun k_=>w21.heap.size<=k_/\(fun k_=>some k_≠(.slice g3 px.length gu:Value).ownBlock/\some k_≠(.slice jx rk.length jy:Value).ownBlock) k_/\some k_≠(ay3:Value).ownBlock) rfl rfl ?aP (fun _ hk=>hk.2) ?aF ?aO ?aB ?aS ?aL ?_
 (case aP=>exact k25s_mkM _ _ _ (⟨dx3,dx4⟩:S25) HP1.out HP2.out)
 (case aB=>exact(Fm.calls_s_q0))
 (case aF=>exact(fun k_ hk=>⟨Kd.fresh' (Kd.R_lt (uR_ ag2)) k_ hk,Kd.fresh' (Kd.S_lt (uS_ ak7)) k_ hk⟩))
 (case aO=>exact Kd.S_mono HP3.out (fun _ hk=>⟨hk.1,fun h_=>Nat.not_le.2 hk.2 h_.1⟩))
 (case aS=>exact(G9 (Fm.calls_s_q0)))
 (case aL=>have:=fz8.out;omega)
 intro ni7 w23 ho hb hg hat
 rw[<- kd7.out] at ho
 replace ag2:=A_ (Kd.R_over' (uR_ ag2) (Kd.S_typed (uS_ yp)) (by decide) hg)
 replace ak7:=A_ (Kd.S_over' (uS_ ak7) (Kd.S_typed (uS_ yp)) (by decide) hg)
 replace lb:=(bg_ lb hg (Kd.S_ne yp.out lb.out (by decide)))
 replace rl:=(bg_ rl hg (Kd.S_ne yp.out rl.out (by decide)))
 replace jb:=(bg_ jb hg (Kd.S_ne yp.out jb.out (by decide)))
 replace HB:=A_ (hb)
 have hv8:=A_ (ho)
 clear yp hv6 hv7
 clear ho hb hg hat
 obtain⟨kl,km,qu⟩:=Kd.S_slice hv8.out
 (first|subst qu|(injection qu with f1_ f2_ f3_;have f4_:=f1_.symm;have f5_:=f3_.symm;clear f1_ f2_ f3_;subst f4_;subst f5_))
 refine hK.out _ _ ⟨(G8 jb.out 0).trans rfl,(G8 jb.out 1).trans rfl,(G8 jb.out 2).trans rfl,(G8 lb.out 0).trans rfl,(G8 lb.out 1).trans rfl,(G8 lb.out 2).trans rfl,((cl_ HB dx8).trans rfl),((cl_ HB dx7).trans rfl)⟩ (fun hHeld=>?_)
 clear hK K
 refine nm_ ?_
 refine pw_ 10 26 (tl_ 12 2047) ?_
 refine last_ (i:=11) (N:=none) (tl_ 12 4095) rfl rfl (Ju HT_.out (g1_)) (by decide) (fun K hK=>?_)
 have ni8:w23.cell? ⟨l6,2,none⟩=some (ay3):=(G8 jb.out 2).trans rfl
 have ni9:=Jj jb.out 2
 have nj1:=cm3.out
 have nj3:=ga8.out
 refine skip_ (w1:=?_) (by rfl) rfl ?_ ?_
 rotate_left
 ·go_simp
  rfl
 refine hK.out _ _ ?_
 clear hK K
 refine done_ (done_of HT_.out (g1_)) ?_
 try go_wp2
 go_roundg k1
 case measure=>have:=HK1.out;omega
 case rel=>exact⟨(wrap64 (ar + 1)),(dc1),(.slice kl dc1.length km),(g3_),H',⟨g8_⟩,⟨ra_ ag2⟩,⟨sa_ ak7⟩,⟨sa_ hv8⟩,⟨ba_ lb⟩,⟨ba_ rl⟩,⟨ba_ jb⟩,⟨Fm.calls_s_q0⟩⟩
theorem Fm.calls (k:Nat) (ae:Option Addr) (ac:Nat) (ab:List Int) (ag:Option Addr) (af:Nat) (aa:List (List Int)) (av:Option Addr) (au:Nat) (ai:List (S25)) (r1:List Int) (r2:List (List Int)) (r3:List (S25)) (w:World) (ca:Kd.C (Kd.int .i64) w ae ab.length ab) (ce:ab.length<=ac) (cb:Kd.C (Kd.slice 3 (Kd.int .i64)) w ag aa.length aa) (cg:aa.length<=af) (g8:Kd.C k25 w av ai.length ai) (g9:ai.length<=au) (h:Fm.f k ab aa ai=some (r1,r2,r3)) :
  Calls Try.prog 100 #[.agg #[.slice ae ab.length ac, .slice ag aa.length af, .slice av ai.length au]] w fun e w'=>∃v0_ v1_ v2_:Value,e = .returned (.agg #[v0_,v1_,v2_])/\Kd.R (Kd.int .i64) 3 w' w.heap.size (fun _=>True) v0_ r1/\Kd.S (Kd.slice 3 (Kd.int .i64)) 22 w' w.heap.size (fun k_=>some k_≠(v0_:Value).ownBlock) v1_ r2/\Kd.R k25 25 w' w.heap.size (fun k_=>some k_≠(v0_:Value).ownBlock/\some k_≠(v1_:Value).ownBlock) v2_ r3/\Below w.heap.size w w':=by
 refine(Fm.calls_s k ae ac ab ag af aa av au ai r1 r2 r3 w ca ce cb cg g8 g9 h).mono ?_
 rintro e w' ⟨v0_,v1_,v2_,he,h0,h1,h2,hb⟩
 exact⟨v0_,v1_,v2_,he,h0,h1,k25s_R h2,hb⟩
end Go.Proofs.Ytfooakkhkehpiaa.PE
namespace Go.Proofs.Ytfooakkhkehpiaa.PE
open Go.RowKit Go.Proofs.YtfooakkhkehpiaaW.PrintWords Go.Proofs.YtfooakkhkehpiaaW.PrintLast Go.Proofs.YtfooakkhkehpiaaW.PrintMore
set_option linter.unusedVariables false
set_option linter.unusedSimpArgs false
def Gg.l0:Nat->List (S25)->Int->Int->Option (Int × List (S25))
  | 0,_,_,_=>none
  | k + 1,xs,x1,x5=>if x5 < (xs.length:Int) then(if 0<=x5 then((F3.f k (xs.getD x5.toNat z25).f0 x1).bind fun bt=>(F7.f k (xs.getD x5.toNat z25).f1 bt.1).bind fun bs=>Gg.l0 k (xs.set x5.toNat ⟨bt.2,bs.2⟩) bs.1 (wrap64 (x5 + 1))) else none) else some (x1,xs)
def Gg.f (k:Nat) (l0:List (S25)) (a1:Int):Option (Int × List (S25)):=Gg.l0 k l0 a1 0
set_option maxHeartbeats 8000000 in
set_option maxRecDepth 100000 in
theorem Gg.calls (k:Nat) (u:Value) (l0:List (S25)) (a1 r1:Int) (r2:List (S25)) (w0 w:World) (ok:Nat->Prop) (hB:Below w0.heap.size w0 w) (ho0:Kd.S k25s 25 w w0.heap.size ok u l0) (h:Gg.f k l0 a1=some (r1,r2)) :
    Calls Try.prog 67 #[u, .int .i64 a1] w fun e w'=>e = .returned (.int .i64 r1)/\Kd.S k25s 25 w' w0.heap.size ok u r2/\Below w0.heap.size w0 w'/\Kept w w' ok:=by
  have hu25:=Try.underlying25
  obtain⟨A,c,rfl,hlc,hC⟩:=Kd.S_reads ho0
  have hn:l0.length<=9223372036854775807:=hC.2.1
  have HN:=G7.mk hn
  have HS:=G7.mk ho0
  have HK:=G7.mk (Kept.refl w ok)
  have HB:=G7.mk hB
  have H':=G7.mk (show Gg.l0 k l0 a1 0=some (r1,r2) from h)
  clear hC hB h hn ho0
  generalize hNl:l0.length=n at *
  have HNN:=G7.mk hNl
  clear hNl
  go_enter Try.func67,Try.ntmps67
  go_wp2
  go_loopg [1,5] k (fun kq v1 v5 w'=>∃(x1_1:Int) (i:Nat) (cur:List (S25)),v1 = .int .i64 x1_1/\v5 = .int .i64 i/\i<=n/\G7 (cur.length=n)/\G7 (Gg.l0 kq cur x1_1 i=some (r1,r2))/\G7 (kq<=k)/\G7 (Kd.S k25s 25 w' w0.heap.size ok (.slice A n c) cur)/\G7 (Kept w w' ok)/\G7 (Below w0.heap.size w0 w'))
  case atStart=>exact⟨a1,0,l0,rfl,rfl,Nat.zero_le _,HNN,H',⟨Nat.le_refl _⟩,⟨by(with_reducible repeat(first|apply Kd.S_alloc|apply Kd.S_drewN|apply Kd.S_drew));exact HS.out⟩,⟨by repeat(first|(with_reducible first|exact HK.out|apply Kept.alloc|apply Kept.drewN|apply Kept.drew)|exact HK.out)⟩,⟨by repeat(first|(with_reducible first|exact HB.out|apply Jf|apply Je|apply Jd)|exact HB.out)⟩⟩
  case round=>
    clear H' HK HB HS HNN
    obtain⟨x1_1,i,cur,rfl,rfl,hi,HNN,HA,HK1,HS,HK,HB⟩:=hrel
    cases gk with
    | zero=>exact absurd HA.out (by simp[Gg.l0])
    | succ k1=>
      have H:=HA.out
      clear HA
      simp only[Gg.l0] at H
      rw[HNN.out,Int.toNat_natCast] at H
      by_cases hlt:i < n
      · rw[if_pos (by omega),if_pos (by omega)] at H
        obtain⟨⟨t1,t2⟩,A0,H⟩:=Option.bind_eq_some_iff.mp H
        have AT:=G7.mk A0
        clear A0
        obtain⟨⟨t3,t4⟩,A0,H⟩:=Option.bind_eq_some_iff.mp H
        have AU:=G7.mk A0
        clear A0
        have H':=G7.mk H
        clear H
        obtain⟨g,cap,he,_,_,cells,hcell⟩:=Kd.S_form HS.out (by rw[HNN.out];omega)
        obtain⟨rfl,rfl⟩:A=some ⟨g,0,none⟩/\c=cap:=by
          injection he with h1 h2 h3
          exact⟨h1,h3⟩
        clear he hcell
        obtain⟨oki,cc,_,hM,hcc,hoki,hH⟩:=Kd.S_lend HS.out z25 (i:Int) (by omega) (by omega)
        have HOK:=G7.mk hoki
        have HH:=G7.mk hH
        clear hH hoki
        rw[Int.toNat_natCast] at hM
        obtain⟨v0,v1,rfl,hv0,hv1⟩:=hM
        have hx0:wr.cell? ⟨g,i * 2,none⟩=some v0:=by
          have:=hcc 0 v0 rfl
          rw[Int.toNat_natCast] at this
          exact this
        have hx1:wr.cell? ⟨g,i * 2 + 1,none⟩=some v1:=by
          have:=hcc 1 v1 rfl
          rw[Int.toNat_natCast] at this
          exact this
        clear hcc
        have HR0:=G7.mk (Kd.R_mono (ok':=fun k=>oki k/\some k=v0.ownBlock) (Kd.R_tight rfl hv0) (fun k hk=>⟨hv0.1 k hk.symm,hk⟩))
        have HR1:=G7.mk hv1
        clear hv0 hv1
        have p5:(0<=(i:Int))=True:=eq_true (by omega)
        have q5:((i:Int) < (n:Int))=True:=eq_true (by omega)
        have c3b0:decide ((i:Int) < (n:Int))=true:=decide_eq_true (by omega)
        go_wp2_with (first|((with_reducible refine Ja (f:=87) rfl ?_);refine goesL_ (some 18) rfl rfl Try.func87 (by kernel_rfl) rfl #[v0, .int .i64 x1_1] rfl (by(try simp only[List.map_toArray,List.map_cons,List.map_nil]);first|done|rfl) ?_;(with_reducible refine(F3.calls k1 (fun k=>oki k/\some k=v0.ownBlock) v0 (cur.getD i z25).f0 x1_1 t1 t2 w0 _ ?side1 ?side2 AT.out).mono ?_);(case side1=>repeat(first|(with_reducible first|exact HB.out|apply Jf|apply Je|apply Jd)|exact HB.out));(case side2=>(with_reducible repeat(first|apply Kd.R_alloc|apply Kd.R_drewN|apply Kd.R_drew));exact HR0.out);rintro e w8 ⟨rfl,hy,hb,hkp⟩;refine⟨_,rfl,?_⟩;have n0_:=G7.mk (Kept.then_ (S:=ok) (by repeat(first|(with_reducible first|exact HK.out|apply Kept.alloc|apply Kept.drewN|apply Kept.drew)|exact HK.out)) hkp (fun k_ hs=>.inl (HOK.out k_ hs.1).1));have n1_:=G7.mk hb;have n2_:=G7.mk (Kd.H_step (w1:=w8) (by(with_reducible repeat(first|apply Kd.H_alloc|apply Kd.H_drewN|apply Kd.H_drew));exact HH.out) (fun k_ _ hno hl=>hkp.2 k_ hl (fun e_=>hno e_.1)));have n3_:=G7.mk (Kd.R_reok rfl hy (ok:=fun k=>oki k/\some k=v0.ownBlock) (fun k_ e_=>HR0.out.1 k_ e_));have n4_:=G7.mk (Kd.S_kept (ok:=fun k=>oki k/\some k≠v0.ownBlock) (by(with_reducible repeat(first|apply Kd.S_alloc|apply Kd.S_drewN|apply Kd.S_drew));exact HR1.out) hkp (fun k_ h_ e_=>h_.2 e_.2));clear HK HB HH HR0 HR1 hb hkp hy;have HK:=n0_;have HB:=n1_;have HH:=n2_;have HR0:=n3_;have HR1:=n4_;clear n0_ n1_ n2_ n3_ n4_;have hz1:w8.cell? ⟨g,i * 2 + 1,none⟩=some v1:=(by obtain⟨_,_,_,_,_,hcc_,_⟩:=Kd.H_raw HH.out (by omega) (by omega);have:=hcc_ 1 v1 rfl;rw[Int.toNat_natCast] at this;exact this))|((with_reducible refine Ja (f:=88) rfl ?_);refine goesL_ (some 25) rfl rfl Try.func88 (by kernel_rfl) rfl #[v1, .int .i64 t1] rfl (by(try simp only[List.map_toArray,List.map_cons,List.map_nil]);first|done|rfl) ?_;(with_reducible refine(F7.calls k1 v1 (cur.getD i z25).f1 t1 t3 t4 w0 _ (fun k=>oki k/\some k≠v0.ownBlock) ?side1 ?side2 AU.out).mono ?_);(case side1=>repeat(first|(with_reducible first|exact HB.out|apply Jf|apply Je|apply Jd)|exact HB.out));(case side2=>(with_reducible repeat(first|apply Kd.S_alloc|apply Kd.S_drewN|apply Kd.S_drew));exact HR1.out);rintro e w9 ⟨rfl,hy,hb,hkp⟩;refine⟨_,rfl,?_⟩;have n0_:=G7.mk (Kept.then_ (S:=ok) (by repeat(first|(with_reducible first|exact HK.out|apply Kept.alloc|apply Kept.drewN|apply Kept.drew)|exact HK.out)) hkp (fun k_ hs=>.inl (HOK.out k_ hs.1).1));have n1_:=G7.mk hb;have n2_:=G7.mk (Kd.H_step (w1:=w9) (by(with_reducible repeat(first|apply Kd.H_alloc|apply Kd.H_drewN|apply Kd.H_drew));exact HH.out) (fun k_ _ hno hl=>hkp.2 k_ hl (fun e_=>hno e_.1)));have n3_:=G7.mk (Kd.R_kept (ok:=fun k=>oki k/\some k=v0.ownBlock) (by(with_reducible repeat(first|apply Kd.R_alloc|apply Kd.R_drewN|apply Kd.R_drew));exact HR0.out) hkp (fun k_ h_ e_=>e_.2 h_.2));have n4_:=G7.mk hy;clear HK HB HH HR0 HR1 hb hkp hy;have HK:=n0_;have HB:=n1_;have HH:=n2_;have HR0:=n3_;have HR1:=n4_;clear n0_ n1_ n2_ n3_ n4_))
        go_roundg k1
        case measure=>have:=HK1.out;omega
        case rel=>
          have hs:wrap64 ((i:Int) + 1)=((i + 1:Nat):Int):=by have:=HN.out;unfold wrap64;omega
          have hback:=Kd.H_back (okp:=oki) HH.out (x':=(⟨t2,t4⟩:S25)) ⟨v0,v1,rfl,Kd.R_mono HR0.out (fun _ h_=>h_.1),HR1.out⟩ (fun _ h_=>h_)
          rw[Int.toNat_natCast] at hback
          exact⟨t3,i + 1,cur.set i ⟨t2,t4⟩,rfl,by rw[<- hs],by omega,⟨by rw[List.length_set];exact HNN.out⟩,⟨by have:=H'.out;rw[hs] at this;exact this⟩,⟨by have:=HK1.out;omega⟩,⟨by(with_reducible repeat(first|apply Kd.S_alloc|apply Kd.S_drewN|apply Kd.S_drew));exact hback⟩,⟨by repeat(first|(with_reducible first|exact HK.out|apply Kept.alloc|apply Kept.drewN|apply Kept.drew)|exact HK.out)⟩,⟨by repeat(first|(with_reducible first|exact HB.out|apply Jf|apply Je|apply Jd)|exact HB.out)⟩⟩
      · rw[if_neg (by omega)] at H
        have c3b0:decide ((i:Int) < (n:Int))=false:=decide_eq_false (by omega)
        obtain⟨rfl,rfl⟩:x1_1=r1/\cur=r2:=by
          have:=Option.some.inj H
          exact⟨congrArg Prod.fst this,congrArg Prod.snd this⟩
        go_wp2
        go_ret
        exact⟨rfl,by(with_reducible repeat(first|apply Kd.S_alloc|apply Kd.S_drewN|apply Kd.S_drew));exact HS.out,by repeat(first|(with_reducible first|exact HB.out|apply Jf|apply Je|apply Jd)|exact HB.out),by repeat(first|(with_reducible first|exact HK.out|apply Kept.alloc|apply Kept.drewN|apply Kept.drew)|exact HK.out)⟩
def DkS (base lo hi:Nat) (u0 u1 u2:Value) (c:List Int) (d:List (List Int)) (ps:List (S25)) (W:World):Prop:=
  hi<=W.heap.size/\∃mid,lo<=mid/\mid<=hi/\BkAt base lo mid (fun _=>True) u0 u1 c d W/\Kd.S k25s 25 W base (fun k=>mid<=k/\k < hi) u2 ps
section
variable {base lo hi:Nat} {u0 u1 u2:Value} {c:List Int} {d:List (List Int)} {ps:List (S25)} {W W1:World}
theorem DkS.step (h:DkS base lo hi u0 u1 u2 c d ps W) (hm:∀k,lo<=k->k < hi->W1.heap[k]? = W.heap[k]?) (hs:hi<=W1.heap.size):DkS base lo hi u0 u1 u2 c d ps W1:=by
  obtain⟨_,mid,h1,h2,h3,h4⟩:=h
  exact⟨hs,mid,h1,h2,h3.step (fun k a b=>hm k a (by omega)) (Nat.le_trans h2 hs),Kd.S_step h4 (fun k hk _=>hm k (by omega) hk.2)⟩
theorem DkS.below (h:DkS base lo hi u0 u1 u2 c d ps W) (hb:Below W.heap.size W W1):DkS base lo hi u0 u1 u2 c d ps W1:=
  h.step (fun k _ hk=>hb.block k (Nat.lt_of_lt_of_le hk h.1)) (Nat.le_trans h.1 hb.size)
theorem DkS.drew (h:DkS base lo hi u0 u1 u2 c d ps W):DkS base lo hi u0 u1 u2 c d ps W.drew:=h.below (below_drew (Below.refl _ _))
theorem DkS.set (h:DkS base lo hi u0 u1 u2 c d ps W) {p:Addr} (hp:p.block < lo ∨ hi<=p.block) (u:Value):DkS base lo hi u0 u1 u2 c d ps (W.setCell p u):=
  h.step (fun k h1 h2=>Below.heap_setCell W p u k (fun e=>by omega)) (by rw[World.size_setCell];exact h.1)
theorem DkS.kept (h:DkS base lo hi u0 u1 u2 c d ps W) {l2 h2:Nat} (hk:Kept W W1 (fun k=>l2<=k/\k < h2)) (ha:hi<=l2 ∨ h2<=lo):DkS base lo hi u0 u1 u2 c d ps W1:=
  h.step (fun k h3 h4=>hk.2 k (Nat.lt_of_lt_of_le h4 h.1) (fun hs=>by omega)) (Nat.le_trans h.1 hk.1)
theorem BkAt.lower {b b' lo hi:Nat} {q:Nat->Prop} (h:BkAt b lo hi q u0 u1 c d W) (hb:b'<=b):BkAt b' lo hi q u0 u1 c d W:=⟨h.1,Kd.R_lower h.2.1 hb,Kd.S_lower h.2.2 hb⟩
theorem BkAt.widen {b lo lo' hi:Nat} {q:Nat->Prop} (h:BkAt b lo hi q u0 u1 c d W) (hl:lo'<=lo):BkAt b lo' hi q u0 u1 c d W:=⟨h.1,Kd.R_mono h.2.1 (fun k hk=>⟨⟨⟨by have:=hk.1.1.1;omega,hk.1.1.2⟩,hk.1.2⟩,hk.2⟩),Kd.S_mono h.2.2 (fun k hk=>⟨⟨⟨by have:=hk.1.1.1;omega,hk.1.1.2⟩,hk.1.2⟩,hk.2⟩)⟩
theorem DkS.lower {b':Nat} (h:DkS base lo hi u0 u1 u2 c d ps W) (hb:b'<=base):DkS b' lo hi u0 u1 u2 c d ps W:=by
  obtain⟨h0,mid,h1,h2,h3,h4⟩:=h
  exact⟨h0,mid,h1,h2,h3.lower hb,Kd.S_lower h4 hb⟩
theorem DkS.ext {lo' hi':Nat} (h:DkS base lo hi u0 u1 u2 c d ps W) (hl:lo'<=lo) (h1:hi<=hi') (h2:hi'<=W.heap.size):DkS base lo' hi' u0 u1 u2 c d ps W:=by
  obtain⟨_,mid,g1,g2,h3,h4⟩:=h
  exact⟨h2,mid,by omega,by omega,h3.widen hl,Kd.S_mono h4 (fun k hk=>⟨hk.1,by omega⟩)⟩
theorem DkS.tell (h:DkS base lo hi u0 u1 u2 c d ps W):Kd.R (Kd.int .i64) 3 W base (fun _=>True) u0 c/\Kd.S (Kd.slice 3 (Kd.int .i64)) 22 W base (fun k_=>some k_≠u0.ownBlock) u1 d/\Kd.S k25s 25 W base (fun k_=>some k_≠u0.ownBlock/\some k_≠u1.ownBlock) u2 ps:=by
  obtain⟨h0,mid,h1,h2,h3,h4⟩:=h
  refine⟨Kd.R_mono h3.2.1 (fun _ _=>trivial),Kd.S_mono h3.2.2 (fun _ hk=>hk.2),Kd.S_mono h4 (fun k hk=>⟨fun e=>?_,fun e=>?_⟩)⟩
  · have:=h3.2.1.1 k e.symm
    have:=this.1.1.2
    omega
  · have:=(Kd.S_R h3.2.2).1 k e.symm
    have:=this.1.1.2
    omega
theorem DkS.tellR (h:DkS base lo hi u0 u1 u2 c d ps W):Kd.R (Kd.int .i64) 3 W base (fun _=>True) u0 c/\Kd.S (Kd.slice 3 (Kd.int .i64)) 22 W base (fun k_=>some k_≠u0.ownBlock) u1 d/\Kd.R k25 25 W base (fun k_=>some k_≠u0.ownBlock/\some k_≠u1.ownBlock) u2 ps:=⟨h.tell.1,h.tell.2.1,k25s_R h.tell.2.2⟩
theorem DkS.nil (W:World) (hb:base<=W.heap.size) (hl:lo<=W.heap.size):DkS base lo W.heap.size (.slice none 0 0) (.slice none 0 0) (.slice none 0 0) [] [] [] W:=
  ⟨Nat.le_refl _,W.heap.size,hl,Nat.le_refl _,⟨Nat.le_refl _,Kd.R_nil _ _ _ _ _,Kd.S_nil _ _ _ _ _⟩,Kd.S_nil _ _ _ _ _⟩
def Ty0 (W:World) (g:Nat):Prop:=∃(t:Nat) (cells:Array Value),W.heap[g]? = some (.cells cells t (0,0))/\(t≠3/\t≠22/\t≠25)
theorem Ty0.of {g t:Nat} {cells:Array Value} (h:W.heap[g]? = some (.cells cells t (0,0))) (ht:t≠3/\t≠22/\t≠25):Ty0 W g:=⟨t,cells,h,ht⟩
theorem Ty0.set {g g' j:Nat} (h:Ty0 W g) (u:Value):Ty0 (W.setCell ⟨g',j,none⟩ u) g:=by
  obtain⟨t,cells,h,ht⟩:=h
  by_cases he:g=g'
  · subst he
    exact⟨t,_,blk_set h j u,ht⟩
  · exact⟨t,cells,by rw[Below.heap_setCell W _ u g he];exact h,ht⟩
theorem DkS.setT {g j:Nat} (h:DkS base lo hi u0 u1 u2 c d ps W) (ht:Ty0 W g) (u:Value):DkS base lo hi u0 u1 u2 c d ps (W.setCell ⟨g,j,none⟩ u):=by
  obtain⟨h0,mid,h1,h2,⟨h5,h6,h7⟩,h4⟩:=h
  obtain⟨t,cells,hb,t3,t22,t25⟩:=ht
  refine⟨by rw[World.size_setCell];exact h0,mid,h1,h2,⟨by rw[World.size_setCell];exact h5,Kd.R_mono (Kd.R_far (p:=⟨g,j,none⟩) (Kd.R_types h6 hb ?_) (fun _ hk=>hk.2) u) (fun _ hk=>hk.1),Kd.S_set h7 hb ?_ j u⟩,Kd.S_set h4 hb ?_ j u⟩
  · intro q hq
    have:q=3:=by simpa [Kd.int,Kd.scalar] using hq
    omega
  · intro q hq
    have h2:q=22 ∨ q=3:=by simpa [Kd.slice,Kd.int,Kd.scalar] using hq
    omega
  · intro q hq
    have h2:q=25 ∨ q ∈ k25s.E:=by simpa using hq
    rcases h2 with rfl|h2
    · omega
    · have:q=3 ∨ q=22:=by revert h2;show q ∈ k25.E->_;intro h2;revert h2;decide +revert
      omega
theorem DkS.of_ (hw:base<=W.heap.size) (h0:Kd.R (Kd.int .i64) 3 W base (fun _=>True) u0 c) (h1:Kd.S (Kd.slice 3 (Kd.int .i64)) 22 W base (fun k_=>some k_≠u0.ownBlock) u1 d) (h2:Kd.S k25s 25 W1 W.heap.size (fun _=>True) u2 ps) (hb:Below W.heap.size W W1):DkS base base W1.heap.size u0 u1 u2 c d ps W1:=
  ⟨Nat.le_refl _,W.heap.size,hw,hb.size,⟨hb.size,Kd.R_below (Kd.R_mono (Kd.R_bound (Kd.R_tight rfl h0)) (fun _ hk=>⟨⟨⟨hk.2.1,hk.2.2.1⟩,trivial⟩,hk.1⟩)) hb,Kd.S_below (Kd.S_mono (Kd.S_bound h1) (fun _ hk=>⟨⟨⟨hk.2.1,hk.2.2.1⟩,trivial⟩,hk.1⟩)) hb⟩,Kd.S_lower (Kd.S_mono (Kd.S_bound h2) (fun _ hk=>⟨hk.2.1,hk.2.2.1⟩)) hw⟩
theorem DkS.mk_ {mid:Nat} (h0:Kd.R (Kd.int .i64) 3 W base (fun k=>k < mid) u0 c) (h1:Kd.S (Kd.slice 3 (Kd.int .i64)) 22 W base (fun k=>k < mid/\some k≠u0.ownBlock) u1 d) (h2:Kd.S k25s 25 W base (fun k=>mid < k) u2 ps) (hm:base<=mid) (hw:base<=W.heap.size):DkS base base W.heap.size u0 u1 u2 c d ps W:=
  ⟨Nat.le_refl _,min mid W.heap.size,by omega,by omega,⟨by omega,Kd.R_mono (Kd.R_bound (Kd.R_tight rfl h0)) (fun k hk=>⟨⟨⟨hk.2.1,by have:=h0.1 k hk.1.symm;have:=hk.2.2.1;omega⟩,trivial⟩,hk.1⟩),Kd.S_mono (Kd.S_bound h1) (fun k hk=>⟨⟨⟨hk.2.1,by have:=hk.1.1;have:=hk.2.2.1;omega⟩,trivial⟩,hk.1.2⟩)⟩,Kd.S_mono (Kd.S_bound h2) (fun k hk=>⟨by have:=hk.1;omega,hk.2.2.1⟩)⟩
theorem DkS.mv (x:G7 (DkS base lo hi u0 u1 u2 c d ps W)) {w1 w2:World} (hb:Below w1.heap.size w1 w2) (h:DkS base lo hi u0 u1 u2 c d ps W->DkS base lo hi u0 u1 u2 c d ps w1):G7 (DkS base lo hi u0 u1 u2 c d ps w2):=⟨(h x.out).below hb⟩
theorem DkS.go (x:G7 (DkS base lo hi u0 u1 u2 c d ps W)) {w1:World} (h:DkS base lo hi u0 u1 u2 c d ps W->DkS base lo hi u0 u1 u2 c d ps w1):DkS base lo hi u0 u1 u2 c d ps w1:=h x.out
theorem DkS.ge (x:G7 (DkS base lo hi u0 u1 u2 c d ps W)) {w1:World} {g:Nat} (hg:g=w1.heap.size) (h:DkS base lo hi u0 u1 u2 c d ps W->DkS base lo hi u0 u1 u2 c d ps w1):G7 (hi<=g):=⟨hg ▸ (h x.out).1⟩
theorem DkS.end_ (x:G7 (DkS base lo hi u0 u1 u2 c d ps W)) (hl:G7 (base<=lo)) {w1:World} (h:DkS base lo hi u0 u1 u2 c d ps W->DkS base lo hi u0 u1 u2 c d ps w1):DkS base base w1.heap.size u0 u1 u2 c d ps w1:=(h x.out).ext hl.out (h x.out).1 (Nat.le_refl _)
theorem DkS.tk {b:Nat} {W0:World} (h:DkS W0.heap.size W0.heap.size hi u0 u1 u2 c d ps W) (hb:b<=W0.heap.size):∃LO HI:Nat,G7 (b<=LO)/\G7 (DkS b LO HI u0 u1 u2 c d ps W):=⟨_,_,⟨hb⟩,⟨h.lower hb⟩⟩
theorem DkS.fin (h:DkS base lo hi u0 u1 u2 c d ps W) (hl:base<=lo):DkS base base W.heap.size u0 u1 u2 c d ps W:=h.ext hl h.1 (Nat.le_refl _)
end
end Go.Proofs.Ytfooakkhkehpiaa.PE
namespace Go.Proofs.Ytfooakkhkehpiaa.PE
open Go.RowKit Go.Proofs.YtfooakkhkehpiaaW.PrintWords Go.Proofs.YtfooakkhkehpiaaW.PrintLast Go.Proofs.YtfooakkhkehpiaaW.PrintMore Go.Proofs.Ytfooakkhkehpiaa.Qe
attribute [local go_sem] max2_int min2_int max_two min_two max_three min_three max_four min_four
set_option linter.unusedVariables false
set_option linter.unusedSimpArgs false
def Fz.l0:Nat->List (S25)->List (S25)->Int->Option (Bool)
 | 0,_,_,_=>none
 | k + 1,x0,x1,x5=>if x5 < (x0.length:Int) then(if 0<=x5 then(if x5 < (x1.length:Int) then((Gt.f k ((Jn x0 x5).f0) ((Jn x0 x5).f1) ((Jn x1 x5).f0) ((Jn x1 x5).f1)).bind fun fp4=>(if fp4=true then(Fz.l0 k x0 x1 (wrap64 (x5 + 1))) else(some false))) else(none)) else(none)) else(some true)
def Fz.f (k:Nat) (l0:List (S25)) (l1:List (S25)):Option (Bool):=if (l0.length:Int)=(l1.length:Int) then(Fz.l0 k l0 l1 0) else(some false)
def Fz.T6:Bool × List (List Nat × List Nat):=(true,[([],[]),([],[]),([0,1],[0,1]),([2],[2]),([],[]),([],[]),([4,5],[4,5]),([6],[6]),([3,7],[3,7]),([8],[8])])
def Fz.B6:List Nat:=[0,0,3,7,0,0,48,112,255,511]
theorem Fz.tab6:rtab .any (opsOf Try.f66 6)=Fz.T6:=by kernel_rfl
theorem Fz.bits6:waitsOk Fz.T6.2 Fz.B6=true:=by kernel_rfl
theorem cy6 {p:Prop} (h:p:=by repeat(first|(with_reducible first|exact HB.out|apply Jf|apply Je|apply Jd)|exact HB.out)):p:=h
set_option maxHeartbeats 8000000 in
set_option maxRecDepth 100000 in
theorem Fz.calls (k:Nat) (A0:Option Addr) (c0:Nat) (l0:List (S25)) (A1:Option Addr) (c1:Nat) (l1:List (S25)) (r:Bool) (w:World) (e8:Kd.C k25 w A0 l0.length l0) (d4:l0.length<=c0) (il:Kd.C k25 w A1 l1.length l1) (iu:l1.length<=c1) (h:Fz.f k l0 l1=some r) :
  Calls Try.prog 66 #[.slice A0 l0.length c0, .slice A1 l1.length c1] w fun e w'=>e = .returned (.bool r)/\Below w.heap.size w w':=by
 have hu25:=Try.underlying25
 have fo:=A_ e8
 have oh:=A_ d4
 clear e8 d4
 have fq:=A_ il
 have pb:=A_ iu
 clear il iu
 have HB:=A_ (Below.refl w.heap.size w)
 have H:=h
 unfold Fz.f at H
 clear h
 by_cases c3:(l0.length:Int)=(l1.length:Int)
 case neg=>
  rw[if_neg c3] at H
  have gm:((l0.length:Int) == (l1.length:Int))=false:=beq_eq_false_iff_ne.mpr c3
  have ns:((l0.length:Int) != (l1.length:Int))=true:=bne_iff_ne.mpr c3
  have ua:(l0.length == l1.length)=false:=by first|simpa using c3|(simp at c3 |-;omega)
  obtain rfl:=Option.some.inj H
  go_enter Try.func66,Try.ntmps66
  go_wp2
  go_ret
  exact⟨g4_,cy6⟩
 rw[if_pos c3] at H
 have gm:((l0.length:Int) == (l1.length:Int))=true:=beq_iff_eq.mpr c3
 have ns:((l0.length:Int) != (l1.length:Int))=false:=bne_eq_false_iff_eq.mpr c3
 have ua:(l0.length == l1.length)=true:=by first|simpa using c3|(simp at c3 |-;omega)
 clear c3
 have H':=A_ H
 clear H
 go_enter Try.func66,Try.ntmps66
 go_wp2
 go_loopg [5] k (fun kq v5 w'=>∃(aj:Int),v5 = .int .i64 aj/\G7 (Fz.l0 kq l0 l1 aj=some r)/\G7 (kq<=k)/\G7 (Below w.heap.size w w'))
 case atStart=>exact⟨(0),(g3_),H',⟨Nat.le_refl _⟩,⟨cy6⟩⟩
 clear H'
 obtain⟨aj,rfl,HA,HK1,HB⟩:=hrel
 cases gk with
 | zero=>exact absurd HA.out (by simp[Fz.l0])
 | succ k1=>?_
 have H:=HA.out
 clear HA
 simp only[Fz.l0] at H
 by_cases c4:aj < (l0.length:Int)
 case neg=>
  rw[if_neg c4] at H
  have ib:=decide_eq_false c4
  clear c4
  obtain rfl:=Option.some.inj H
  go_wp2
  go_ret
  exact⟨g4_,cy6⟩
 rw[if_pos c4] at H
 have ib:=decide_eq_true c4
 clear c4
 obtain⟨ki,H⟩:=pd_ H
 obtain⟨kb,H⟩:=pd_ H
 obtain⟨fp4,A7,H⟩:=bind_ H
 by_cases c8:fp4=true
 ·subst c8
  replace H:=ifp_ H
  have H':=A_ H
  clear H
  try go_wp2
  replace HB:=A_ (Jd HB.out)
  have ch4:0<=(aj:Int):=od_
  have ch5:aj < (l0.length:Int):=od_
  obtain⟨ch6,do7,do8,do9,dp0,fp5,bk9,bl0,dp1,dp2,dp3,dp4⟩:=at_T25 fo.out aj ch4 ch5
  have dp5:=bl0
  have dp6:=bk9
  cases fp5
  replace bk9:=cl_ HB bk9
  replace bl0:=cl_ HB bl0
  have dp7:=A_ dp2
  have fp6:=A_ dp1
  clear dp2 dp1
  have dp8:=A_ dp4
  have fp7:=A_ dp3
  clear dp4 dp3
  replace ch4:=eq_true ch4
  replace ch5:=eq_true ch5
  have ch7:0<=(aj:Int):=od_
  have aw3:aj < (l1.length:Int):=od_
  obtain⟨ch8,dp9,dq0,dq1,dq2,fp8,bl1,bl2,dq3,dq4,dq5,dq6⟩:=at_T25 fq.out aj ch7 aw3
  have dq7:=bl2
  have dq8:=bl1
  cases fp8
  replace bl1:=cl_ HB bl1
  replace bl2:=cl_ HB bl2
  have dq9:=A_ dq4
  have fp9:=A_ dq3
  clear dq4 dq3
  have dr0:=A_ dq6
  have fq0:=A_ dq5
  clear dq6 dq5
  replace ch7:=eq_true ch7
  replace aw3:=eq_true aw3
  refine start_ (n:=10) (S:=fun w'=>w'.cell? (ch6.add ((aj).toNat * 2))=some (.slice do7 ((Jn l0 aj).f0).length do8)/\w'.cell? ⟨(ch6.add ((aj).toNat * 2)).block,(ch6.add ((aj).toNat * 2)).off + 1,none⟩=some (.slice do9 ((Jn l0 aj).f1).length dp0)/\w'.cell? (ch8.add ((aj).toNat * 2))=some (.slice dp9 ((Jn l1 aj).f0).length dq0)/\w'.cell? ⟨(ch8.add ((aj).toNat * 2)).block,(ch8.add ((aj).toNat * 2)).off + 1,none⟩=some (.slice dq1 ((Jn l1 aj).f1).length dq2)) (ds:=[]) (tl_ 10 0) (g1_) rfl (g1_) ⟨((cl_ HB dp6).trans rfl),((cl_ HB dp5).trans rfl),((cl_ HB dq8).trans rfl),((cl_ HB dq7).trans rfl)⟩ (fun hHeld=>?_);refine Js Fz.tab6 Fz.bits6 (fun HT_ HW_=>?_)
  generalize wr.drew=w9 at HB dp7 dp8 dq9 dr0 bk9 bl0 bl1 bl2 hHeld |-
  refine pw_ 0 17 (tl_ 10 1) ?_
  refine pw_ 1 18 (tl_ 10 3) ?_
  refine pw_ 2 19 (tl_ 10 7) ?_
  refine pw_ 4 21 (tl_ 10 23) ?_
  refine pw_ 5 22 (tl_ 10 55) ?_
  refine pw_ 6 23 (tl_ 10 119) ?_
  refine tk0_ 3 20 (tl_ 10 127) hHeld ?_
  refine tk0_ 7 24 (tl_ 10 255) hHeld ?_
  refine one_ (i:=8) (N:=some 25) (tl_ 10 511) rfl rfl (Ju HT_.out (g1_)) (by decide) (fun K hK=>?_)
  refine goes_ Try.func35 (g1_) rfl #[.agg #[.slice do7 ((Jn l0 aj).f0).length do8, .slice do9 ((Jn l0 aj).f1).length dp0], .agg #[.slice dp9 ((Jn l1 aj).f0).length dq0, .slice dq1 ((Jn l1 aj).f1).length dq2]] (by rfl) rfl rfl (gM_) ?_
  refine(Gt.calls k1 _ _ ((Jn l0 aj).f0) _ _ ((Jn l0 aj).f1) _ _ ((Jn l1 aj).f0) _ _ ((Jn l1 aj).f1) true _ (uC_ dp7) fp6.out (uC_ dp8) fp7.out (uC_ dq9) fp9.out (uC_ dr0) fq0.out A7.out).mono ?_
  rintro e w10 ⟨rfl,hb⟩
  refine⟨_,rfl,?_⟩
  replace HB:=hs_ (cy6) hb
  refine hK.out _ _ ⟨((cl_ HB dp6).trans rfl),((cl_ HB dp5).trans rfl),((cl_ HB dq8).trans rfl),((cl_ HB dq7).trans rfl)⟩ (fun hHeld=>?_)
  clear hK K
  refine nm_ ?_
  refine pw_ 9 26 (tl_ 10 1023) ?_
  refine done_ (done_of HT_.out (g1_)) ?_
  try go_wp2
  go_roundg k1
  case measure=>have:=HK1.out;omega
  case rel=>exact⟨(wrap64 (aj + 1)),(g3_),H',⟨g8_⟩,⟨cy6⟩⟩
 replace c8:=Bool.eq_false_iff.mpr c8
 subst c8
 replace H:=ifn_ H
 obtain rfl:=Option.some.inj H
 try go_wp2
 replace HB:=A_ (Jd HB.out)
 have ch4:0<=(aj:Int):=od_
 have ch5:aj < (l0.length:Int):=od_
 obtain⟨ch6,do7,do8,do9,dp0,fp5,bk9,bl0,dp1,dp2,dp3,dp4⟩:=at_T25 fo.out aj ch4 ch5
 have dp5:=bl0
 have dp6:=bk9
 cases fp5
 replace bk9:=cl_ HB bk9
 replace bl0:=cl_ HB bl0
 have dp7:=A_ dp2
 have fp6:=A_ dp1
 clear dp2 dp1
 have dp8:=A_ dp4
 have fp7:=A_ dp3
 clear dp4 dp3
 replace ch4:=eq_true ch4
 replace ch5:=eq_true ch5
 have ch7:0<=(aj:Int):=od_
 have aw3:aj < (l1.length:Int):=od_
 obtain⟨ch8,dp9,dq0,dq1,dq2,fp8,bl1,bl2,dq3,dq4,dq5,dq6⟩:=at_T25 fq.out aj ch7 aw3
 have dq7:=bl2
 have dq8:=bl1
 cases fp8
 replace bl1:=cl_ HB bl1
 replace bl2:=cl_ HB bl2
 have dq9:=A_ dq4
 have fp9:=A_ dq3
 clear dq4 dq3
 have dr0:=A_ dq6
 have fq0:=A_ dq5
 clear dq6 dq5
 replace ch7:=eq_true ch7
 replace aw3:=eq_true aw3
 refine start_ (n:=10) (S:=fun w'=>w'.cell? (ch6.add ((aj).toNat * 2))=some (.slice do7 ((Jn l0 aj).f0).length do8)/\w'.cell? ⟨(ch6.add ((aj).toNat * 2)).block,(ch6.add ((aj).toNat * 2)).off + 1,none⟩=some (.slice do9 ((Jn l0 aj).f1).length dp0)/\w'.cell? (ch8.add ((aj).toNat * 2))=some (.slice dp9 ((Jn l1 aj).f0).length dq0)/\w'.cell? ⟨(ch8.add ((aj).toNat * 2)).block,(ch8.add ((aj).toNat * 2)).off + 1,none⟩=some (.slice dq1 ((Jn l1 aj).f1).length dq2)) (ds:=[]) (tl_ 10 0) (g1_) rfl (g1_) ⟨((cl_ HB dp6).trans rfl),((cl_ HB dp5).trans rfl),((cl_ HB dq8).trans rfl),((cl_ HB dq7).trans rfl)⟩ (fun hHeld=>?_);refine Js Fz.tab6 Fz.bits6 (fun HT_ HW_=>?_)
 generalize wr.drew=kj at HB dp7 dp8 dq9 dr0 bk9 bl0 bl1 bl2 hHeld |-
 refine pw_ 0 17 (tl_ 10 1) ?_
 refine pw_ 1 18 (tl_ 10 3) ?_
 refine pw_ 2 19 (tl_ 10 7) ?_
 refine pw_ 4 21 (tl_ 10 23) ?_
 refine pw_ 5 22 (tl_ 10 55) ?_
 refine pw_ 6 23 (tl_ 10 119) ?_
 refine tk0_ 3 20 (tl_ 10 127) hHeld ?_
 refine tk0_ 7 24 (tl_ 10 255) hHeld ?_
 refine one_ (i:=8) (N:=some 25) (tl_ 10 511) rfl rfl (Ju HT_.out (g1_)) (by decide) (fun K hK=>?_)
 refine goes_ Try.func35 (g1_) rfl #[.agg #[.slice do7 ((Jn l0 aj).f0).length do8, .slice do9 ((Jn l0 aj).f1).length dp0], .agg #[.slice dp9 ((Jn l1 aj).f0).length dq0, .slice dq1 ((Jn l1 aj).f1).length dq2]] (by rfl) rfl rfl (gM_) ?_
 refine(Gt.calls k1 _ _ ((Jn l0 aj).f0) _ _ ((Jn l0 aj).f1) _ _ ((Jn l1 aj).f0) _ _ ((Jn l1 aj).f1) false _ (uC_ dp7) fp6.out (uC_ dp8) fp7.out (uC_ dq9) fp9.out (uC_ dr0) fq0.out A7.out).mono ?_
 rintro e t5 ⟨rfl,hb⟩
 refine⟨_,rfl,?_⟩
 replace HB:=hs_ (cy6) hb
 refine hK.out _ _ ⟨((cl_ HB dp6).trans rfl),((cl_ HB dp5).trans rfl),((cl_ HB dq8).trans rfl),((cl_ HB dq7).trans rfl)⟩ (fun hHeld=>?_)
 clear hK K
 refine nm_ ?_
 refine pw_ 9 26 (tl_ 10 1023) ?_
 refine done_ (done_of HT_.out (g1_)) ?_
 try go_wp2
 go_ret
 exact⟨g4_,cy6⟩
def Gr.f (k:Nat) (ab:List Int) (aa:List (List Int)) (ai:List (S25)) (fh:List Int) (fm:List (List Int)) (zv:List (S25)):Option (Bool):=(Gt.f k ab aa fh fm).bind fun dr1=>(if dr1=true then((Fz.f k ai zv).bind fun dr2=>(if dr2=true then(some true) else(some false))) else(some false))
theorem ad8 {p:Prop} (h:p:=by repeat(first|(with_reducible first|exact HB.out|apply Jf|apply Je|apply Jd|refine Jc ?_ fq1.out|refine Jc ?_ fq2.out)|exact HB.out)):p:=h
set_option maxHeartbeats 8000000 in
set_option maxRecDepth 100000 in
theorem Gr.calls (k:Nat) (ae:Option Addr) (ac:Nat) (ab:List Int) (ag:Option Addr) (af:Nat) (aa:List (List Int)) (av:Option Addr) (au:Nat) (ai:List (S25)) (mr:Option Addr) (mg:Nat) (fh:List Int) (np:Option Addr) (nr:Nat) (fm:List (List Int)) (ch9:Option Addr) (ci0:Nat) (zv:List (S25)) (r:Bool) (w:World) (ca:Kd.C (Kd.int .i64) w ae ab.length ab) (ce:ab.length<=ac) (cb:Kd.C (Kd.slice 3 (Kd.int .i64)) w ag aa.length aa) (cg:aa.length<=af) (g8:Kd.C k25 w av ai.length ai) (g9:ai.length<=au) (av7:Kd.C (Kd.int .i64) w mr fh.length fh) (av8:fh.length<=mg) (av9:Kd.C (Kd.slice 3 (Kd.int .i64)) w np fm.length fm) (aw0:fm.length<=nr) (hm3:Kd.C k25 w ch9 zv.length zv) (hm4:zv.length<=ci0) (h:Gr.f k ab aa ai fh fm zv=some r) :
  Calls Try.prog 17 #[.agg #[.slice ae ab.length ac, .slice ag aa.length af, .slice av ai.length au], .agg #[.slice mr fh.length mg, .slice np fm.length nr, .slice ch9 zv.length ci0]] w fun e w'=>e = .returned (.bool r)/\Below w.heap.size w w':=by
 have hu28:=Try.underlying28
 have hu25:=Try.underlying25
 have bg:=A_ ca
 have bs:=A_ ce
 clear ca ce
 have bd:=A_ cb
 have bv:=A_ cg
 clear cb cg
 have gc:=A_ g8
 have gx:=A_ g9
 clear g8 g9
 have aj9:=A_ av7
 have aw1:=A_ av8
 clear av7 av8
 have aw2:=A_ av9
 have bk4:=A_ aw0
 clear av9 aw0
 have hm5:=A_ hm3
 have hm6:=A_ hm4
 clear hm3 hm4
 have HB:=A_ (Below.refl w.heap.size w)
 have H:=h
 unfold Gr.f at H
 clear h
 obtain⟨dr1,A3,H⟩:=bind_ H
 by_cases c4:dr1=true
 case neg=>
  replace c4:=Bool.eq_false_iff.mpr c4
  subst c4
  replace H:=ifn_ H
  obtain rfl:=Option.some.inj H
  go_enter Try.func17,Try.ntmps17
  go_wp2_with (first|((with_reducible refine gd_ 2 ?_);refine bx_ (N:=2) #[.slice ae ab.length ac, .slice ag aa.length af, .slice av ai.length au] 28 ?_;intro yi hg w25 hbox hb;have pt:=A_ (hbox);have hm7:=A_ ((g24_:w.heap.size<=yi));have fq1:=hm7;replace HB:=hs_ (ad8) hb;clear hb hbox hg)|((with_reducible refine gd_ 3 ?_);refine bx_ (N:=3) #[.slice mr fh.length mg, .slice np fm.length nr, .slice ch9 zv.length ci0] 28 ?_;intro ae4 hg w26 hbox hb;have ww:=A_ (hbox);have hm8:=A_ ((g24_:w.heap.size<=ae4));have fq2:=hm8;replace HB:=hs_ (ad8) hb;have dr3:=nl_ pt hg;have dr4:=nr_ pt hg;replace pt:=bb_ pt hb;clear hb hbox hg;have ju8:=dr3.out;have ju9:=dr4.out;obtain⟨fq5,fq6,hn2,fq7,fq8,hn3⟩:=blk3_ pt;obtain⟨da2,da3,fq9,da4,da5,fr0⟩:=blk3_ ww)|((with_reducible refine gc_ 35 ?_);refine gl_ 9 Try.func35 #[.agg #[.slice ae ab.length ac, .slice ag aa.length af], .agg #[.slice mr fh.length mg, .slice np fm.length nr]] ?_;(refine(Gt.calls k _ _ ab _ _ aa _ _ fh _ _ fm false _ (uC_ bg) bs.out (uC_ bd) bv.out (uC_ aj9) aw1.out (uC_ aw2) bk4.out A3.out).mono ?_);rintro e pv ⟨rfl,hb⟩;refine⟨_,rfl,?_⟩;replace pt:=bb_ pt hb;replace ww:=bb_ ww hb;replace HB:=hs_ (ad8) hb))
  go_ret
  exact⟨g4_,ad8⟩
 subst c4
 replace H:=ifp_ H
 obtain⟨dr2,A5,H⟩:=bind_ H
 by_cases c6:dr2=true
 ·subst c6
  replace H:=ifp_ H
  obtain rfl:=Option.some.inj H
  go_enter Try.func17,Try.ntmps17
  go_wp2_with (first|((with_reducible refine gd_ 2 ?_);refine bx_ (N:=2) #[.slice ae ab.length ac, .slice ag aa.length af, .slice av ai.length au] 28 ?_;intro yi hg w7 hbox hb;have pt:=A_ (hbox);have hm7:=A_ ((g24_:w.heap.size<=yi));have fq1:=hm7;replace HB:=hs_ (ad8) hb;clear hb hbox hg)|((with_reducible refine gd_ 3 ?_);refine bx_ (N:=3) #[.slice mr fh.length mg, .slice np fm.length nr, .slice ch9 zv.length ci0] 28 ?_;intro ae4 hg w8 hbox hb;have ww:=A_ (hbox);have hm8:=A_ ((g24_:w.heap.size<=ae4));have fq2:=hm8;replace HB:=hs_ (ad8) hb;have dr3:=nl_ pt hg;have dr4:=nr_ pt hg;replace pt:=bb_ pt hb;clear hb hbox hg;have cz0:=dr3.out;have cz1:=dr4.out;obtain⟨ye,yf,hm9,yg,yh,hn0⟩:=blk3_ pt;obtain⟨si,sj,aw4,sk,sl,aw5⟩:=blk3_ ww)|((with_reducible refine gc_ 35 ?_);refine gl_ 9 Try.func35 #[.agg #[.slice ae ab.length ac, .slice ag aa.length af], .agg #[.slice mr fh.length mg, .slice np fm.length nr]] ?_;(refine(Gt.calls k _ _ ab _ _ aa _ _ fh _ _ fm true _ (uC_ bg) bs.out (uC_ bd) bv.out (uC_ aj9) aw1.out (uC_ aw2) bk4.out A3.out).mono ?_);rintro e t5 ⟨rfl,hb⟩;refine⟨_,rfl,?_⟩;replace pt:=bb_ pt hb;replace ww:=bb_ ww hb;replace HB:=hs_ (ad8) hb;obtain⟨sm,sn,bw5,so,sp,bw6⟩:=blk3_ pt;obtain⟨ub,uc,cz2,ud,ue,cz3⟩:=blk3_ ww)|((with_reducible refine gc_ 66 ?_);refine gl_ 15 Try.func66 #[.slice av ai.length au, .slice ch9 zv.length ci0] ?_;(refine(Fz.calls k _ _ ai _ _ zv true _ (uC_ gc) gx.out (uC_ hm5) hm6.out A5.out).mono ?_);rintro e w15 ⟨rfl,hb⟩;refine⟨_,rfl,?_⟩;replace pt:=bb_ pt hb;replace ww:=bb_ ww hb;replace HB:=hs_ (ad8) hb))
  go_ret
  exact⟨g4_,ad8⟩
 replace c6:=Bool.eq_false_iff.mpr c6
 subst c6
 replace H:=ifn_ H
 obtain rfl:=Option.some.inj H
 go_enter Try.func17,Try.ntmps17
 go_wp2_with (first|((with_reducible refine gd_ 2 ?_);refine bx_ (N:=2) #[.slice ae ab.length ac, .slice ag aa.length af, .slice av ai.length au] 28 ?_;intro yi hg pu hbox hb;have pt:=A_ (hbox);have hm7:=A_ ((g24_:w.heap.size<=yi));have fq1:=hm7;replace HB:=hs_ (ad8) hb;clear hb hbox hg)|((with_reducible refine gd_ 3 ?_);refine bx_ (N:=3) #[.slice mr fh.length mg, .slice np fm.length nr, .slice ch9 zv.length ci0] 28 ?_;intro ae4 hg zu hbox hb;have ww:=A_ (hbox);have hm8:=A_ ((g24_:w.heap.size<=ae4));have fq2:=hm8;replace HB:=hs_ (ad8) hb;have dr3:=nl_ pt hg;have dr4:=nr_ pt hg;replace pt:=bb_ pt hb;clear hb hbox hg;have dr5:=dr3.out;have dr6:=dr4.out;obtain⟨cz4,cz5,cz6,cz7,cz8,cz9⟩:=blk3_ pt;obtain⟨bk5,bk6,fq3,bk7,bk8,fq4⟩:=blk3_ ww)|((with_reducible refine gc_ 35 ?_);refine gl_ 9 Try.func35 #[.agg #[.slice ae ab.length ac, .slice ag aa.length af], .agg #[.slice mr fh.length mg, .slice np fm.length nr]] ?_;(refine(Gt.calls k _ _ ab _ _ aa _ _ fh _ _ fm true _ (uC_ bg) bs.out (uC_ bd) bv.out (uC_ aj9) aw1.out (uC_ aw2) bk4.out A3.out).mono ?_);rintro e w21 ⟨rfl,hb⟩;refine⟨_,rfl,?_⟩;replace pt:=bb_ pt hb;replace ww:=bb_ ww hb;replace HB:=hs_ (ad8) hb;obtain⟨ae5,ae6,dr7,ae7,ae8,dr8⟩:=blk3_ pt;obtain⟨bw7,bw8,da0,bw9,bx0,da1⟩:=blk3_ ww)|((with_reducible refine gc_ 66 ?_);refine gl_ 15 Try.func66 #[.slice av ai.length au, .slice ch9 zv.length ci0] ?_;(refine(Fz.calls k _ _ ai _ _ zv false _ (uC_ gc) gx.out (uC_ hm5) hm6.out A5.out).mono ?_);rintro e w24 ⟨rfl,hb⟩;refine⟨_,rfl,?_⟩;replace pt:=bb_ pt hb;replace ww:=bb_ ww hb;replace HB:=hs_ (ad8) hb))
 go_ret
 exact⟨g4_,ad8⟩
def Gh.l0:Nat->List (S25)->Int->Int->Option (Int)
 | 0,_,_,_=>none
 | k + 1,x0,x1,x5=>if x5 < (x0.length:Int) then(if 0<=x5 then((Fx.f k ((Jn x0 x5).f0) x1).bind fun aw7=>(if aw7 < 0 then(some (-1)) else((F4.f k ((Jn x0 x5).f1) aw7).bind fun ci7=>(if ci7 < 0 then(some (-1)) else(Gh.l0 k x0 ci7 (wrap64 (x5 + 1))))))) else(none)) else(some x1)
def Gh.f (k:Nat) (l0:List (S25)) (a1:Int):Option (Int):=Gh.l0 k l0 a1 0
set_option maxHeartbeats 8000000 in
set_option maxRecDepth 100000 in
theorem Gh.calls (k:Nat) (A0:Option Addr) (c0:Nat) (l0:List (S25)) (a1:Int) (r:Int) (w:World) (e8:Kd.C k25 w A0 l0.length l0) (d4:l0.length<=c0) (h:Gh.f k l0 a1=some r) :
  Calls Try.prog 68 #[.slice A0 l0.length c0, .int .i64 a1] w fun e w'=>e = .returned (.int .i64 r)/\Drawn0 w w':=by
 have fo:=A_ e8
 have oh:=A_ d4
 clear e8 d4
 have H:(Gh.l0 k l0 a1 0)=some r:=h
 clear h
 have H':=A_ H
 clear H
 go_enter Try.func68,Try.ntmps68
 go_wp2
 go_loopg [1,5] k (fun kq v1 v5 w'=>∃(ic:Int) (aj:Int),v1 = .int .i64 ic/\v5 = .int .i64 aj/\G7 (Gh.l0 kq l0 ic aj=some r)/\G7 (kq<=k)/\Drawn0 w w')
 case atStart=>exact⟨(a1),(0),(g3_),(g3_),H',⟨Nat.le_refl _⟩,g5_⟩
 clear H'
 obtain⟨ic,aj,rfl,rfl,HA,HK1,⟨m1,rfl⟩⟩:=hrel
 cases gk with
 | zero=>exact absurd HA.out (by simp[Gh.l0])
 | succ k1=>?_
 have H:=HA.out
 clear HA
 simp only[Gh.l0] at H
 by_cases c3:aj < (l0.length:Int)
 case neg=>
  rw[if_neg c3] at H
  have gm:=decide_eq_false c3
  clear c3
  obtain rfl:=Option.some.inj H
  go_wp2
  go_ret
  exact⟨g3_,g5_⟩
 rw[if_pos c3] at H
 have gm:=decide_eq_true c3
 clear c3
 obtain⟨ib,H⟩:=pd_ H
 obtain⟨aw7,A5,H⟩:=bind_ H
 by_cases c6:aw7 < 0
 ·rw[if_pos c6] at H
  have kb:=decide_eq_true c6
  clear c6
  obtain rfl:=Option.some.inj H
  obtain⟨⟨er3,ds2,ds3,er4,er5,ds4,er6,er7,bx2,bx3,bx4,bx5⟩,aw8,aw9⟩:=rdp_ (at_T25 fo.out aj)
  cases ds4
  have ds5:=A_ bx3
  have ds6:=A_ bx2
  clear bx3 bx2
  have hn5:=A_ bx5
  have hn6:=A_ bx4
  clear bx5 bx4
  go_wp2_with (first|((with_reducible refine gc_ 89 ?_);refine gl_ 18 Try.func89 #[.slice ds2 ((Jn l0 aj).f0).length ds3, .int .i64 ic] ?_;(refine(Fx.calls k1 _ _ ((Jn l0 aj).f0) ic aw7 _ (cu_ ds5.out) ds6.out A5.out).mono ?_);rintro e w' ⟨rfl,⟨nd,rfl⟩⟩;refine⟨_,rfl,?_⟩))
  go_ret
  exact⟨g3_,g5_⟩
 rw[if_neg c6] at H
 have kb:=decide_eq_false c6
 clear c6
 obtain⟨ci7,A7,H⟩:=bind_ H
 by_cases c8:ci7 < 0
 ·rw[if_pos c8] at H
  have wx:=decide_eq_true c8
  clear c8
  obtain rfl:=Option.some.inj H
  obtain⟨⟨er3,ds2,ds3,er4,er5,ds4,er6,er7,bx2,bx3,bx4,bx5⟩,aw8,aw9⟩:=rdp_ (at_T25 fo.out aj)
  cases ds4
  have ds5:=A_ bx3
  have ds6:=A_ bx2
  clear bx3 bx2
  have hn5:=A_ bx5
  have hn6:=A_ bx4
  clear bx5 bx4
  go_wp2_with (first|((with_reducible refine gc_ 89 ?_);refine gl_ 18 Try.func89 #[.slice ds2 ((Jn l0 aj).f0).length ds3, .int .i64 ic] ?_;(refine(Fx.calls k1 _ _ ((Jn l0 aj).f0) ic aw7 _ (cu_ ds5.out) ds6.out A5.out).mono ?_);rintro e w' ⟨rfl,⟨nd,rfl⟩⟩;refine⟨_,rfl,?_⟩;have ci8:0<=(aj:Int):=od_;have ci9:aj < (l0.length:Int):=od_;obtain⟨fr9,jv5,jv6,jv7,jv8,fs0,fs1,fs2,ds7,ds8,ds9,dt0⟩:=at_T25 fo.out aj ci8 ci9;obtain rfl:er3=fr9:=(by injection fs0);have jv9:=A_ ds8;have jw0:=A_ ds7;clear ds8 ds7;have fs3:=A_ dt0;have fs4:=A_ ds9;clear dt0 ds9;replace ci8:=eq_true ci8;replace ci9:=eq_true ci9;have ea_:=Option.some.inj (er6.symm.trans fs1);injection ea_ with ea_ en_ ec_;subst ea_;subst ec_;clear en_;have ea_:=Option.some.inj (er7.symm.trans fs2);injection ea_ with ea_ en_ ec_;subst ea_;subst ec_;clear en_)|((with_reducible refine gc_ 90 ?_);refine gl_ 27 Try.func90 #[.slice er4 ((Jn l0 aj).f1).length er5, .int .i64 aw7] ?_;(refine(F4.calls k1 _ _ ((Jn l0 aj).f1) aw7 ci7 _ (cu_ fs3.out) fs4.out A7.out).mono ?_);rintro e w' ⟨rfl,⟨nd,rfl⟩⟩;refine⟨_,rfl,?_⟩))
  go_ret
  exact⟨g3_,g5_⟩
 rw[if_neg c8] at H
 have wx:=decide_eq_false c8
 clear c8
 have H':=A_ H
 clear H
 obtain⟨⟨er3,ds2,ds3,er4,er5,ds4,er6,er7,bx2,bx3,bx4,bx5⟩,aw8,aw9⟩:=rdp_ (at_T25 fo.out aj)
 cases ds4
 have ds5:=A_ bx3
 have ds6:=A_ bx2
 clear bx3 bx2
 have hn5:=A_ bx5
 have hn6:=A_ bx4
 clear bx5 bx4
 go_wp2_with (first|((with_reducible refine gc_ 89 ?_);refine gl_ 18 Try.func89 #[.slice ds2 ((Jn l0 aj).f0).length ds3, .int .i64 ic] ?_;(refine(Fx.calls k1 _ _ ((Jn l0 aj).f0) ic aw7 _ (cu_ ds5.out) ds6.out A5.out).mono ?_);rintro e w' ⟨rfl,⟨nd,rfl⟩⟩;refine⟨_,rfl,?_⟩;have ci8:0<=(aj:Int):=od_;have ci9:aj < (l0.length:Int):=od_;obtain⟨fr9,jv5,jv6,jv7,jv8,fs0,fs1,fs2,ds7,ds8,ds9,dt0⟩:=at_T25 fo.out aj ci8 ci9;obtain rfl:er3=fr9:=(by injection fs0);have jv9:=A_ ds8;have jw0:=A_ ds7;clear ds8 ds7;have fs3:=A_ dt0;have fs4:=A_ ds9;clear dt0 ds9;replace ci8:=eq_true ci8;replace ci9:=eq_true ci9;have ea_:=Option.some.inj (er6.symm.trans fs1);injection ea_ with ea_ en_ ec_;subst ea_;subst ec_;clear en_;have ea_:=Option.some.inj (er7.symm.trans fs2);injection ea_ with ea_ en_ ec_;subst ea_;subst ec_;clear en_)|((with_reducible refine gc_ 90 ?_);refine gl_ 27 Try.func90 #[.slice er4 ((Jn l0 aj).f1).length er5, .int .i64 aw7] ?_;(refine(F4.calls k1 _ _ ((Jn l0 aj).f1) aw7 ci7 _ (cu_ fs3.out) fs4.out A7.out).mono ?_);rintro e w' ⟨rfl,⟨nd,rfl⟩⟩;refine⟨_,rfl,?_⟩))
 go_roundg k1
 case measure=>have:=HK1.out;omega
 case rel=>exact⟨(ci7),(wrap64 (aj + 1)),(g3_),(g3_),H',⟨g8_⟩,g5_⟩
def Gz.f (k:Nat) (ab:List Int) (aa:List (List Int)) (ai:List (S25)) (a1:Int):Option (Int):=(G1.f k ab aa a1).bind fun af0=>(if af0 < 0 then(some (-1)) else((Gh.f k ai af0).bind fun bl4=>(if bl4 < 0 then(some (-1)) else(some bl4))))
theorem bk1 {p:Prop} (h:p:=by repeat(first|(with_reducible first|exact HB.out|apply Jf|apply Je|apply Jd|refine Jc ?_ fs5.out)|exact HB.out)):p:=h
set_option maxHeartbeats 8000000 in
set_option maxRecDepth 100000 in
theorem Gz.calls (k:Nat) (ae:Option Addr) (ac:Nat) (ab:List Int) (ag:Option Addr) (af:Nat) (aa:List (List Int)) (av:Option Addr) (au:Nat) (ai:List (S25)) (a1:Int) (r:Int) (w:World) (ca:Kd.C (Kd.int .i64) w ae ab.length ab) (ce:ab.length<=ac) (cb:Kd.C (Kd.slice 3 (Kd.int .i64)) w ag aa.length aa) (cg:aa.length<=af) (g8:Kd.C k25 w av ai.length ai) (g9:ai.length<=au) (h:Gz.f k ab aa ai a1=some r) :
  Calls Try.prog 19 #[.agg #[.slice ae ab.length ac, .slice ag aa.length af, .slice av ai.length au], .int .i64 a1] w fun e w'=>e = .returned (.int .i64 r)/\Below w.heap.size w w':=by
 have hu28:=Try.underlying28
 have hu25:=Try.underlying25
 have bg:=A_ ca
 have bs:=A_ ce
 clear ca ce
 have bd:=A_ cb
 have bv:=A_ cg
 clear cb cg
 have gc:=A_ g8
 have gx:=A_ g9
 clear g8 g9
 have HB:=A_ (Below.refl w.heap.size w)
 have H:=h
 unfold Gz.f at H
 clear h
 obtain⟨af0,A3,H⟩:=bind_ H
 by_cases c4:af0 < 0
 ·rw[if_pos c4] at H
  have ib:=decide_eq_true c4
  clear c4
  obtain rfl:=Option.some.inj H
  go_enter Try.func19,Try.ntmps19
  go_wp2_with (first|((with_reducible refine gd_ 2 ?_);refine bx_ (N:=2) #[.slice ae ab.length ac, .slice ag aa.length af, .slice av ai.length au] 28 ?_;intro bx6 hg w5 hbox hb;have ak1:=A_ (hbox);have hn7:=A_ ((g58_:w.heap.size<=bx6));have fs5:=hn7;replace HB:=hs_ (bk1) hb;clear hb hbox hg;obtain⟨uf,ug,bl5,uh,ui,bl6⟩:=blk3_ ak1)|((with_reducible refine gc_ 37 ?_);refine gl_ 8 Try.func37 #[.agg #[.slice ae ab.length ac, .slice ag aa.length af], .int .i64 a1] ?_;(refine(G1.calls k _ _ ab _ _ aa a1 af0 _ (uC_ bg) bs.out (uC_ bd) bv.out A3.out).mono ?_);rintro e w7 ⟨rfl,hb⟩;refine⟨_,rfl,?_⟩;replace ak1:=bb_ ak1 hb;replace HB:=hs_ (bk1) hb))
  go_ret
  exact⟨g4_,bk1⟩
 rw[if_neg c4] at H
 have ib:=decide_eq_false c4
 clear c4
 obtain⟨bl4,A8,H⟩:=bind_ H
 by_cases c9:bl4 < 0
 ·rw[if_pos c9] at H
  have wy:=decide_eq_true c9
  clear c9
  obtain rfl:=Option.some.inj H
  go_enter Try.func19,Try.ntmps19
  go_wp2_with (first|((with_reducible refine gd_ 2 ?_);refine bx_ (N:=2) #[.slice ae ab.length ac, .slice ag aa.length af, .slice av ai.length au] 28 ?_;intro bx6 hg w10 hbox hb;have ak1:=A_ (hbox);have hn7:=A_ ((g58_:w.heap.size<=bx6));have fs5:=hn7;replace HB:=hs_ (bk1) hb;clear hb hbox hg;obtain⟨si,sj,aw4,sk,sl,aw5⟩:=blk3_ ak1)|((with_reducible refine gc_ 37 ?_);refine gl_ 8 Try.func37 #[.agg #[.slice ae ab.length ac, .slice ag aa.length af], .int .i64 a1] ?_;(refine(G1.calls k _ _ ab _ _ aa a1 af0 _ (uC_ bg) bs.out (uC_ bd) bv.out A3.out).mono ?_);rintro e t5 ⟨rfl,hb⟩;refine⟨_,rfl,?_⟩;replace ak1:=bb_ ak1 hb;replace HB:=hs_ (bk1) hb;obtain⟨sm,sn,bw5,so,sp,bw6⟩:=blk3_ ak1)|((with_reducible refine gc_ 68 ?_);refine gl_ 14 Try.func68 #[.slice av ai.length au, .int .i64 af0] ?_;(refine(Gh.calls k _ _ ai af0 bl4 _ (uC_ gc) gx.out A8.out).mono ?_);rintro e w' ⟨rfl,⟨nd,rfl⟩⟩;refine⟨_,rfl,?_⟩))
  go_ret
  exact⟨g4_,bk1⟩
 rw[if_neg c9] at H
 have wy:=decide_eq_false c9
 clear c9
 obtain rfl:=Option.some.inj H
 go_enter Try.func19,Try.ntmps19
 go_wp2_with (first|((with_reducible refine gd_ 2 ?_);refine bx_ (N:=2) #[.slice ae ab.length ac, .slice ag aa.length af, .slice av ai.length au] 28 ?_;intro bx6 hg w14 hbox hb;have ak1:=A_ (hbox);have hn7:=A_ ((g58_:w.heap.size<=bx6));have fs5:=hn7;replace HB:=hs_ (bk1) hb;clear hb hbox hg;obtain⟨ch0,ch1,fs6,ch2,ch3,fs7⟩:=blk3_ ak1)|((with_reducible refine gc_ 37 ?_);refine gl_ 8 Try.func37 #[.agg #[.slice ae ab.length ac, .slice ag aa.length af], .int .i64 a1] ?_;(refine(G1.calls k _ _ ab _ _ aa a1 af0 _ (uC_ bg) bs.out (uC_ bd) bv.out A3.out).mono ?_);rintro e pu ⟨rfl,hb⟩;refine⟨_,rfl,?_⟩;replace ak1:=bb_ ak1 hb;replace HB:=hs_ (bk1) hb;obtain⟨dt1,dt2,ne9,dt3,dt4,nf0⟩:=blk3_ ak1)|((with_reducible refine gc_ 68 ?_);refine gl_ 14 Try.func68 #[.slice av ai.length au, .int .i64 af0] ?_;(refine(Gh.calls k _ _ ai af0 bl4 _ (uC_ gc) gx.out A8.out).mono ?_);rintro e w' ⟨rfl,⟨nd,rfl⟩⟩;refine⟨_,rfl,?_⟩))
 go_ret
 exact⟨g4_,bk1⟩
end Go.Proofs.Ytfooakkhkehpiaa.PE
namespace Go.Proofs.Ytfooakkhkehpiaa.PE
open Go.RowKit Go.Proofs.YtfooakkhkehpiaaW.PrintWords Go.Proofs.YtfooakkhkehpiaaW.PrintLast Go.Proofs.YtfooakkhkehpiaaW.PrintMore
set_option linter.unusedVariables false
set_option linter.unusedSimpArgs false
def Gu.f (k:Nat) (l0:List Int) (l1:List (List Int)) (l2:List (S25)) (a1:Int):Option (Int × List Int × List (List Int) × List (S25)):=(G6.f k l0 l1 a1).bind fun bt=>(Gg.f k l2 bt.1).bind fun bs=>some (bs.1,bt.2.1,bt.2.2,bs.2)
set_option maxHeartbeats 8000000 in
set_option maxRecDepth 100000 in
theorem Gu.calls (k lo hi:Nat) (A0:Option Addr) (n0 c0:Nat) (A1:Option Addr) (n1 c1:Nat) (A2:Option Addr) (n2 c2:Nat) (l0:List Int) (l1:List (List Int)) (l2:List (S25)) (a1 r1:Int) (r2:List Int) (r3:List (List Int)) (r4:List (S25)) (w0 w:World) (hB:Below w0.heap.size w0 w) (hd:DkS w0.heap.size lo hi (.slice A0 n0 c0) (.slice A1 n1 c1) (.slice A2 n2 c2) l0 l1 l2 w) (h:Gu.f k l0 l1 l2 a1=some (r1,r2,r3,r4)) :
    Calls Try.prog 18 #[.agg #[.slice A0 n0 c0, .slice A1 n1 c1, .slice A2 n2 c2], .int .i64 a1] w fun e w'=>e = .returned (.int .i64 r1)/\DkS w0.heap.size lo hi (.slice A0 n0 c0) (.slice A1 n1 c1) (.slice A2 n2 c2) r2 r3 r4 w'/\Below w0.heap.size w0 w'/\Kept w w' (fun k=>lo<=k/\k < hi):=by
  have hu28:=Try.underlying28
  have hu25:=Try.underlying25
  obtain⟨hhi,mid,hm1,hm2,ho,hs⟩:=hd
  obtain⟨⟨t1,t2,t3⟩,h1,h2⟩:=Option.bind_eq_some_iff.mp (show(G6.f k l0 l1 a1).bind (fun bt=>(Gg.f k l2 bt.1).bind fun bs=>some (bs.1,bt.2.1,bt.2.2,bs.2))=some (r1,r2,r3,r4) from h)
  obtain⟨⟨t4,t5⟩,h4,h3⟩:=Option.bind_eq_some_iff.mp h2
  obtain⟨rfl,rfl,rfl,rfl⟩:t4=r1/\t2=r2/\t3=r3/\t5=r4:=by
    have:=Option.some.inj h3
    exact⟨congrArg Prod.fst this,congrArg (fun z=>z.2.1) this,congrArg (fun z=>z.2.2.1) this,congrArg (fun z=>z.2.2.2) this⟩
  clear h3 h
  have HT1:=G7.mk h1
  have HT2:=G7.mk h4
  have HB:=G7.mk hB
  have HO:=G7.mk ho
  have HS:=G7.mk hs
  have HM:=G7.mk (And.intro hm1 hm2)
  have HHI:=G7.mk hhi
  have HHW:=hhi
  have HK:=G7.mk (Kept.refl w (fun k=>lo<=k/\k < hi))
  clear h1 h2 h4 hB ho hs hm1 hm2 hhi
  go_enter Try.func18,Try.ntmps18
  go_wp2_with (first|((with_reducible refine Jb (N:=2) rfl ?_);(try(refine gate_guard (by rfl) ?_;dsimp only));refine box_event ?hg (N:=2) ?hd (cs:=#[.slice A0 n0 c0, .slice A1 n1 c1, .slice A2 n2 c2]) (t:=28) ?hr ?_;(case hd=>rfl);(case hg=>rfl);(case hr=>first|(go_simp;done)|(go_simp;rfl));intro gb hg w2 hbox hb;have n0_:=G7.mk (BkAt.below HO.out hb);have n1_:=G7.mk (Kd.S_below HS.out hb);have n2_:=G7.mk (Kept.then_ HK.out (Kept.of_below hb (fun _=>False)) (fun _ h_=>h_.elim));have n3_:=G7.mk (Jr HB.out hb);have n4_:=G7.mk (show hi<=gb by rw[hg];exact HHI.out);have BK:=G7.mk hbox;clear HO HS HK HB HHI hb hbox hg;have HO:=n0_;have HS:=n1_;have HK:=n2_;have HB:=n3_;have HHI:=n4_;clear n0_ n1_ n2_ n3_ n4_;have hcz_0:w2.cell? ⟨gb,0,none⟩=some (.slice A0 n0 c0):=(G8 BK.out 0).trans rfl;have hcz_1:w2.cell? ⟨gb,1,none⟩=some (.slice A1 n1 c1):=(G8 BK.out 1).trans rfl;have hcz_2:w2.cell? ⟨gb,2,none⟩=some (.slice A2 n2 c2):=(G8 BK.out 2).trans rfl)|((with_reducible refine Ja (f:=36) rfl ?_);refine goesL_ (some 8) rfl rfl Try.func36 (by kernel_rfl) rfl #[.agg #[.slice A0 n0 c0, .slice A1 n1 c1], .int .i64 a1] rfl (by(try simp only[List.map_toArray,List.map_cons,List.map_nil]);first|done|rfl) ?_;(with_reducible refine(G6.calls k lo mid (fun _=>True) _ _ l0 l1 a1 t1 t2 t3 w0 _ ?side1 ?side2 HT1.out).mono ?_);(case side1=>repeat(first|(with_reducible first|exact HB.out|apply Jf|apply Je|apply Jd)|exact HB.out));(case side2=>(repeat(first|with_reducible refine BkAt.alloc ?_ _|with_reducible refine BkAt.drewN ?_ _|with_reducible refine BkAt.drew ?_));exact HO.out);rintro e w3 ⟨rfl,hy,hb,hkp⟩;refine⟨_,rfl,?_⟩;have n0_:=G7.mk hy;have n5_:=G7.mk (Kd.S_kept (ok:=fun k=>mid<=k/\k < hi) (by(with_reducible repeat(first|apply Kd.S_alloc|apply Kd.S_drewN|apply Kd.S_drew));exact HS.out) hkp (fun k_ h_ e_=>by have:=e_.1.2;omega));have n1_:=G7.mk (Kept.then_ (S:=fun k=>lo<=k/\k < hi) (by repeat(first|(with_reducible first|exact HK.out|apply Kept.alloc|apply Kept.drewN|apply Kept.drew)|exact HK.out)) hkp (fun k_ h_=>.inl ⟨h_.1.1,by have:=h_.1.2;have:=HM.out;omega⟩));have n2_:=G7.mk hb;have n3_:=G7.mk (blk_kept (g:=gb) (by(with_reducible repeat(first|refine Jh ?_ _|refine Ji ?_|refine Jg ?_ _));exact BK.out) hkp (fun hs_=>by have:=hs_.1.2;have:=HHI.out;have:=HM.out;omega));clear HO HS HK HB BK hb hkp hy;have HO:=n0_;have HS:=n5_;have HK:=n1_;have HB:=n2_;have BK:=n3_;clear n0_ n1_ n2_ n3_ n5_;have hcy_0:w3.cell? ⟨gb,0,none⟩=some (.slice A0 n0 c0):=(G8 BK.out 0).trans rfl;have hcy_1:w3.cell? ⟨gb,1,none⟩=some (.slice A1 n1 c1):=(G8 BK.out 1).trans rfl;have hcy_2:w3.cell? ⟨gb,2,none⟩=some (.slice A2 n2 c2):=(G8 BK.out 2).trans rfl)|((with_reducible refine Ja (f:=67) rfl ?_);refine goesL_ (some 12) rfl rfl Try.func67 (by kernel_rfl) rfl #[.slice A2 n2 c2, .int .i64 t1] rfl (by(try simp only[List.map_toArray,List.map_cons,List.map_nil]);first|done|rfl) ?_;(with_reducible refine(Gg.calls k (.slice A2 n2 c2) l2 t1 t4 t5 w0 _ (fun k=>mid<=k/\k < hi) ?side1 ?side2 HT2.out).mono ?_);(case side1=>repeat(first|(with_reducible first|exact HB.out|apply Jf|apply Je|apply Jd)|exact HB.out));(case side2=>(with_reducible repeat(first|apply Kd.S_alloc|apply Kd.S_drewN|apply Kd.S_drew));exact HS.out);rintro e w4 ⟨rfl,hy,hb,hkp⟩;refine⟨_,rfl,?_⟩;have n0_:=G7.mk (BkAt.step (W1:=w4) (by(repeat(first|with_reducible refine BkAt.alloc ?_ _|with_reducible refine BkAt.drewN ?_ _|with_reducible refine BkAt.drew ?_));exact HO.out) (fun k_ h3_ h4_=>hkp.2 k_ (Nat.lt_of_lt_of_le h4_ (show mid<=_ from HO.out.1)) (fun hs_=>by have:=hs_.1;omega)) (Nat.le_trans HO.out.1 hkp.1));have n1_:=G7.mk (Kept.then_ (S:=fun k=>lo<=k/\k < hi) (by repeat(first|(with_reducible first|exact HK.out|apply Kept.alloc|apply Kept.drewN|apply Kept.drew)|exact HK.out)) hkp (fun k_ h_=>.inl ⟨by have:=h_.1;have:=HM.out;omega,h_.2⟩));have n2_:=G7.mk hb;have n3_:=G7.mk hy;clear HO HS HK HB BK hb hkp hy;have HO:=n0_;have HK:=n1_;have HB:=n2_;have HS:=n3_;clear n0_ n1_ n2_ n3_))
  go_ret
  have HKK:Kept w _ (fun k=>lo<=k/\k < hi):=(by repeat(first|(with_reducible first|exact HK.out|apply Kept.alloc|apply Kept.drewN|apply Kept.drew)|exact HK.out))
  exact⟨rfl,⟨Nat.le_trans HHW HKK.1,mid,HM.out.1,HM.out.2,by(repeat(first|with_reducible refine BkAt.alloc ?_ _|with_reducible refine BkAt.drewN ?_ _|with_reducible refine BkAt.drew ?_));exact HO.out,by(with_reducible repeat(first|apply Kd.S_alloc|apply Kd.S_drewN|apply Kd.S_drew));exact HS.out⟩,by repeat(first|(with_reducible first|exact HB.out|apply Jf|apply Je|apply Jd)|exact HB.out),HKK⟩
theorem DkS.reads {base lo hi:Nat} {A0:Option Addr} {n0 c0:Nat} {A1:Option Addr} {n1 c1:Nat} {A2:Option Addr} {n2 c2:Nat} {c:List Int} {d:List (List Int)} {ps:List (S25)} {W:World} (h:DkS base lo hi (.slice A0 n0 c0) (.slice A1 n1 c1) (.slice A2 n2 c2) c d ps W):(n0=c.length/\n0<=c0/\Kd.C (Kd.int .i64) W A0 c.length c)/\(n1=d.length/\n1<=c1/\Kd.C (Kd.slice 3 (Kd.int .i64)) W A1 d.length d)/\n2=ps.length/\n2<=c2/\Kd.C k25 W A2 ps.length ps:=by
  obtain⟨h0,h1,h2⟩:=h.tellR
  obtain⟨rfl,e1,e2⟩:=Kd.R_reads' h0
  obtain⟨rfl,e3,e4⟩:=Kd.S_reads' h1
  obtain⟨rfl,e5,e6⟩:=Kd.R_reads' h2
  exact⟨⟨rfl,e1,e2⟩,⟨rfl,e3,e4⟩,rfl,e5,e6⟩
end Go.Proofs.Ytfooakkhkehpiaa.PE
namespace Go.Proofs.Ytfooakkhkehpiaa.PE
open Go.RowKit Go.Proofs.YtfooakkhkehpiaaW.PrintWords Go.Proofs.YtfooakkhkehpiaaW.PrintLast Go.Proofs.YtfooakkhkehpiaaW.PrintMore Go.Proofs.Ytfooakkhkehpiaa.Qe
attribute [local go_sem] max2_int min2_int max_two min_two max_three min_three max_four min_four
set_option linter.unusedVariables false
set_option linter.unusedSimpArgs false
mutual
def Fi.j0:Nat->Int->Bool->List Int->List (List Int)->Option (Bool)
 | 0,_,_,_,_=>none
 | k + 1,x3,x23,ah4,am3=>if x23=true then(some false) else(Fi.l0 k x3 am3 (am3.length:Int) 0 ah4 am3)
def Fi.l0:Nat->Int->List (List Int)->Int->Int->List Int->List (List Int)->Option (Bool)
 | 0,_,_,_,_,_,_=>none
 | k + 1,x3,xl,x26,qn,ah4,am3=>if qn < x26 then(if 0<=qn then(if qn < (xl.length:Int) then(if qn < (ah4.length:Int) then(if (rd ah4 qn) < 0 then(Fi.j2 k x3 (Jm xl qn) xl x26 qn true ah4 am3) else(if (rd ah4 qn) > 20 then(Fi.j2 k x3 (Jm xl qn) xl x26 qn true ah4 am3) else(if ((Jm xl qn).length:Int)=x3 then(if qn < ((Jm xl qn).length:Int) then(Fi.j2 k x3 (Jm xl qn) xl x26 qn ((rd (Jm xl qn) qn) != 0) ah4 am3) else(none)) else(Fi.j2 k x3 (Jm xl qn) xl x26 qn true ah4 am3)))) else(none)) else(none)) else(none)) else(some true)
def Fi.j2:Nat->Int->List Int->List (List Int)->Int->Int->Bool->List Int->List (List Int)->Option (Bool)
 | 0,_,_,_,_,_,_,_,_=>none
 | k + 1,x3,x5,xl,x26,qn,x58,ah4,am3=>if x58=true then(some false) else(Fi.l1 k x3 xl x26 qn x5 (x5.length:Int) 0 ah4 am3)
def Fi.l1:Nat->Int->List (List Int)->Int->Int->List Int->Int->Int->List Int->List (List Int)->Option (Bool)
 | 0,_,_,_,_,_,_,_,_,_=>none
 | k + 1,x3,xl,x26,qn,x59,x60,x61,ah4,am3=>if x61 < x60 then(if 0<=x61 then(if x61 < (x59.length:Int) then(if (rd x59 x61) < 0 then(some false) else(if (rd x59 x61) > 9 then(some false) else(Fi.l1 k x3 xl x26 qn x59 x60 (wrap64 (x61 + 1)) ah4 am3))) else(none)) else(none)) else(Fi.l0 k x3 xl x26 (wrap64 (qn + 1)) ah4 am3)
end
def Fi.f (k:Nat) (ab:List Int) (aa:List (List Int)):Option (Bool):=if (ab.length:Int) < 1 then(Fi.j0 k (ab.length:Int) true ab aa) else(if (ab.length:Int) > 4 then(Fi.j0 k (ab.length:Int) true ab aa) else(Fi.j0 k (ab.length:Int) ((aa.length:Int) != (ab.length:Int)) ab aa))
theorem vh {p:Prop} (h:p:=by repeat(first|(with_reducible first|exact HB.out|apply Jf|apply Je|apply Jd|refine Jc ?_ li4.out)|exact HB.out)):p:=h
set_option maxHeartbeats 8000000 in
set_option maxRecDepth 100000 in
theorem Fi.calls (k:Nat) (ae:Option Addr) (ac:Nat) (ab:List Int) (ag:Option Addr) (af:Nat) (aa:List (List Int)) (r:Bool) (w:World) (ca:Kd.C (Kd.int .i64) w ae ab.length ab) (ce:ab.length<=ac) (cb:Kd.C (Kd.slice 3 (Kd.int .i64)) w ag aa.length aa) (cg:aa.length<=af) (h:Fi.f k ab aa=some r) :
  Calls Try.prog 73 #[.agg #[.slice ae ab.length ac, .slice ag aa.length af]] w fun e w'=>e = .returned (.bool r)/\Below w.heap.size w w':=by
 have hu25:=Try.underlying25
 have bg:=A_ ca
 have bs:=A_ ce
 clear ca ce
 have bd:=A_ cb
 have bv:=A_ cg
 clear cb cg
 have HB:=A_ (Below.refl w.heap.size w)
 have H:=h
 unfold Fi.f at H
 clear h
 have zz:=A_ H
 clear H
 go_enter Try.func73,Try.ntmps73
 go_upto_region 2 with(first|((with_reducible refine gd_ 1 ?_);(try(refine gate_guard (by rfl) ?_;dsimp only));refine bx_ (N:=1) #[.slice ae ab.length ac, .slice ag aa.length af] 25 ?_;intro dg5 hg w3 hbox hb;have r6:=A_ (hbox);have oa6:=A_ ((by rw[hg];exact(G9 (vh)):w.heap.size<=dg5));have li4:=oa6;replace HB:=hs_ (vh) hb;clear hb hbox hg;obtain⟨dg1,dg2,fe7,fe8⟩:=blk2_ r6))
 (try simp only[Act.put,List.setIfInBounds_toArray,List.set_cons_zero,List.set_cons_succ])
 go_cut [23] (fun v23 wc=>∃(kq:Nat) (fe9:Bool),v23 = .bool fe9/\G7 (Fi.j0 kq (ab.length:Int) fe9 ab aa=some r)/\G7 (kq<=k)/\G7 (hc_ wc dg5 #[(.slice ae ab.length ac),(.slice ag aa.length af)] 25)/\G7 (Below w.heap.size w wc))
 case first=>
  have H:=zz.out
  clear zz
  by_cases c5:(ab.length:Int) < 1
  ·rw[if_pos c5] at H
   have ki:=decide_eq_true c5
   have aw6:decide (ab.length < 1)=true:=decide_eq_true (by omega)
   clear c5
   (first|rw[ki]|(simp only[i64_w,i32_w];rw[ki])|skip)
   have H':=A_ H
   clear H
   go_wp2
   go_meet
   case rel=>exact⟨_,(true),(g3_),H',⟨g9_⟩,⟨uB_ r6⟩,⟨vh⟩⟩
  rw[if_neg c5] at H
  have ki:=decide_eq_false c5
  have aw6:decide (ab.length < 1)=false:=decide_eq_false (by omega)
  clear c5
  (first|rw[ki]|(simp only[i64_w,i32_w];rw[ki])|skip)
  by_cases c6:(ab.length:Int) > 4
  ·rw[if_pos c6] at H
   have kb:=decide_eq_true c6
   have bq9:decide (4 < ab.length)=true:=decide_eq_true (by omega)
   clear c6
   have H':=A_ H
   clear H
   go_wp2
   go_meet
   case rel=>exact⟨_,(true),(g3_),H',⟨g9_⟩,⟨uB_ r6⟩,⟨vh⟩⟩
  rw[if_neg c6] at H
  have kb:=decide_eq_false c6
  have bq9:decide (4 < ab.length)=false:=decide_eq_false (by omega)
  clear c6
  have H':=A_ H
  clear H
  obtain⟨z8,z9,aa0,aa1⟩:=blk2_ r6
  go_wp2
  go_meet
  case rel=>exact⟨_,(((aa.length:Int) != (ab.length:Int))),(g3_),H',⟨g9_⟩,⟨uB_ r6⟩,⟨vh⟩⟩
 clear zz
 obtain⟨kq,fe9,rfl,HA,HJ1,r6,HB⟩:=hcut
 cases kq with
 | zero=>exact absurd HA.out (by simp[Fi.j0])
 | succ kj1=>?_
 have H:=HA.out
 clear HA
 simp only[Fi.j0] at H
 by_cases c8:fe9=true
 ·subst c8
  replace H:=ifp_ H
  obtain rfl:=Option.some.inj H
  go_wp2
  go_ret
  exact⟨g4_,vh⟩
 replace c8:=Bool.eq_false_iff.mpr c8
 subst c8
 replace H:=ifn_ H
 have H':=A_ H
 clear H
 obtain⟨af4,af5,af6,af7⟩:=blk2_ r6
 go_wp2
 go_loopg [27] kj1 (fun kq v27 w'=>∃(g6:Int),v27 = .int .i64 g6/\G7 (Fi.l0 kq (ab.length:Int) aa (aa.length:Int) g6 ab aa=some r)/\G7 (kq<=kj1)/\G7 (hc_ w' dg5 #[(.slice ae ab.length ac),(.slice ag aa.length af)] 25)/\G7 (Below w.heap.size w w'))
 case atStart=>exact⟨(0),(g3_),H',⟨Nat.le_refl _⟩,⟨uB_ r6⟩,⟨vh⟩⟩
 clear H'
 obtain⟨g6,rfl,HA,HK2,r6,HB⟩:=hrel
 cases gk with
 | zero=>exact absurd HA.out (by simp[Fi.l0])
 | succ k2=>?_
 have H:=HA.out
 clear HA
 simp only[Fi.l0] at H
 by_cases iv:g6 < (aa.length:Int)
 case neg=>
  rw[if_neg iv] at H
  have aa6:=decide_eq_false iv
  clear iv
  obtain rfl:=Option.some.inj H
  go_wp2
  go_ret
  exact⟨g4_,vh⟩
 rw[if_pos iv] at H
 have aa6:=decide_eq_true iv
 clear iv
 obtain⟨cn0,H⟩:=pd_ H
 obtain⟨ap3,H⟩:=pd_ H
 have gq9:=A_ H
 clear H
 obtain⟨⟨ix7,oa7,oa8,li5,ff0,ix8,ix9⟩,eg4,eg5⟩:=rdp_ (at_L1 bd.out g6)
 cases li5
 replace ff0:=cl_ HB ff0
 have ff1:=A_ ix9
 have oa9:=A_ ix8
 clear ix9 ix8
 go_upto_region 7 with(fail)
 go_cut [58] (fun v58 wc=>∃(kq:Nat) (ff2:Bool),v58 = .bool ff2/\G7 (Fi.j2 kq (ab.length:Int) (Jm aa g6) aa (aa.length:Int) g6 ff2 ab aa=some r)/\G7 (kq<=k2)/\G7 (hc_ wc dg5 #[(.slice ae ab.length ac),(.slice (some ix7) aa.length af)] 25)/\G7 (Below w.heap.size w wc))
 case first=>
  have H:=gq9.out
  clear gq9
  obtain⟨ap7,H⟩:=pd_ H
  (first|rw[ap7]|(simp only[i64_w,i32_w];rw[ap7])|skip)
  by_cases er:(rd ab g6) < 0
  ·rw[if_pos er] at H
   have pc:=decide_eq_true er
   clear er
   have H':=A_ H
   clear H
   obtain⟨ae0,ae1,ae2,ae3⟩:=blk2_ r6
   obtain⟨⟨dg6,cs3,am4⟩,xm,xn⟩:=rdp_ (Kd.at_int bg.out g6)
   cases cs3
   replace am4:=cl_ HB am4
   go_wp2
   go_meet
   case rel=>exact⟨_,(true),(g3_),H',⟨g52_⟩,⟨uB_ r6⟩,⟨vh⟩⟩
  rw[if_neg er] at H
  have pc:=decide_eq_false er
  clear er
  by_cases i2:(rd ab g6) > 20
  ·rw[if_pos i2] at H
   have ak3:=decide_eq_true i2
   clear i2
   have H':=A_ H
   clear H
   obtain⟨ao6,ao7,ao8,ao9⟩:=blk2_ r6
   obtain⟨⟨dg6,cs3,am4⟩,xm,xn⟩:=rdp_ (Kd.at_int bg.out g6)
   cases cs3
   replace am4:=cl_ HB am4
   obtain⟨⟨eg6,eg7,bi1⟩,am5,am6⟩:=rdp_ (Kd.at_int bg.out g6)
   obtain rfl:dg6=eg6:=(by injection eg7)
   replace bi1:=cl_ HB bi1
   go_wp2
   go_meet
   case rel=>exact⟨_,(true),(g3_),H',⟨g52_⟩,⟨uB_ r6⟩,⟨vh⟩⟩
  rw[if_neg i2] at H
  have ak3:=decide_eq_false i2
  clear i2
  by_cases fc:((Jm aa g6).length:Int)=(ab.length:Int)
  ·rw[if_pos fc] at H
   have th:(((Jm aa g6).length:Int) == (ab.length:Int))=true:=beq_iff_eq.mpr fc
   have al8:(((Jm aa g6).length:Int) != (ab.length:Int))=false:=bne_eq_false_iff_eq.mpr fc
   have dd7:((Jm aa g6).length == ab.length)=true:=by first|simpa using fc|(simp at fc |-;omega)
   clear fc
   obtain⟨eg8,H⟩:=pd_ H
   have H':=A_ H
   clear H
   obtain⟨t6,t7,t8,t9⟩:=blk2_ r6
   obtain⟨⟨dg6,cs3,am4⟩,xm,xn⟩:=rdp_ (Kd.at_int bg.out g6)
   cases cs3
   replace am4:=cl_ HB am4
   obtain⟨⟨eg6,eg7,bi1⟩,am5,am6⟩:=rdp_ (Kd.at_int bg.out g6)
   obtain rfl:dg6=eg6:=(by injection eg7)
   replace bi1:=cl_ HB bi1
   obtain⟨⟨ob0,li6,ff3⟩,eg9,eh0⟩:=rdp_ (Kd.at_int ff1.out g6)
   cases li6
   replace ff3:=cl_ HB ff3
   go_wp2
   go_meet
   case rel=>exact⟨_,(((rd (Jm aa g6) g6) != 0)),(g3_),H',⟨g52_⟩,⟨uB_ r6⟩,⟨vh⟩⟩
  rw[if_neg fc] at H
  have th:(((Jm aa g6).length:Int) == (ab.length:Int))=false:=beq_eq_false_iff_ne.mpr fc
  have al8:(((Jm aa g6).length:Int) != (ab.length:Int))=true:=bne_iff_ne.mpr fc
  have dd7:((Jm aa g6).length == ab.length)=false:=by first|simpa using fc|(simp at fc |-;omega)
  have H':=A_ H
  clear H
  obtain⟨ae5,ae6,ae7,ae8⟩:=blk2_ r6
  obtain⟨⟨dg6,cs3,am4⟩,xm,xn⟩:=rdp_ (Kd.at_int bg.out g6)
  cases cs3
  replace am4:=cl_ HB am4
  obtain⟨⟨eg6,eg7,bi1⟩,am5,am6⟩:=rdp_ (Kd.at_int bg.out g6)
  obtain rfl:dg6=eg6:=(by injection eg7)
  replace bi1:=cl_ HB bi1
  go_wp2
  go_meet
  case rel=>exact⟨_,(true),(g3_),H',⟨g52_⟩,⟨uB_ r6⟩,⟨vh⟩⟩
 clear gq9
 obtain⟨kq,ff2,rfl,HA,HJ12,r6,HB⟩:=hcut
 cases kq with
 | zero=>exact absurd HA.out (by simp[Fi.j2])
 | succ kj12=>?_
 have H:=HA.out
 clear HA
 simp only[Fi.j2] at H
 by_cases ms:ff2=true
 ·subst ms
  replace H:=ifp_ H
  obtain rfl:=Option.some.inj H
  go_wp2
  go_ret
  exact⟨g4_,vh⟩
 replace ms:=Bool.eq_false_iff.mpr ms
 subst ms
 replace H:=ifn_ H
 have H':=A_ H
 clear H
 go_wp2
 go_loopg [61] kj12 (fun kq v61 w'=>∃(zb:Int),v61 = .int .i64 zb/\G7 (Fi.l1 kq (ab.length:Int) aa (aa.length:Int) g6 (Jm aa g6) ((Jm aa g6).length:Int) zb ab aa=some r)/\G7 (kq<=kj12)/\G7 (hc_ w' dg5 #[(.slice ae ab.length ac),(.slice (some ix7) aa.length af)] 25)/\G7 (Below w.heap.size w w'))
 case atStart=>exact⟨(0),(g3_),H',⟨Nat.le_refl _⟩,⟨uB_ r6⟩,⟨vh⟩⟩
 clear H'
 obtain⟨zb,rfl,HA,HK4,r6,HB⟩:=hrel
 cases gk with
 | zero=>exact absurd HA.out (by simp[Fi.l1])
 | succ k4=>?_
 have H:=HA.out
 clear HA
 simp only[Fi.l1] at H
 by_cases jv:zb < ((Jm aa g6).length:Int)
 case neg=>
  rw[if_neg jv] at H
  have yl:=decide_eq_false jv
  clear jv
  have H':=A_ H
  clear H
  go_wp2
  go_roundg k4
  case measure=>have:=HJ1.out;have:=HK2.out;have:=HJ12.out;have:=HK4.out;omega
  case rel=>exact⟨(wrap64 (g6 + 1)),(g3_),H',⟨by have:=HJ1.out;have:=HK2.out;have:=HJ12.out;have:=HK4.out;omega⟩,⟨uB_ r6⟩,⟨vh⟩⟩
 rw[if_pos jv] at H
 have yl:=decide_eq_true jv
 clear jv
 obtain⟨be9,H⟩:=pd_ H
 obtain⟨cm6,H⟩:=pd_ H
 by_cases l7:(rd (Jm aa g6) zb) < 0
 ·rw[if_pos l7] at H
  have ca3:=decide_eq_true l7
  clear l7
  obtain rfl:=Option.some.inj H
  obtain⟨⟨iy0,eh1,cd8⟩,ba8,ba9⟩:=rdp_ (Kd.at_int ff1.out zb)
  cases eh1
  replace cd8:=cl_ HB cd8
  go_wp2
  go_ret
  exact⟨g4_,vh⟩
 rw[if_neg l7] at H
 have ca3:=decide_eq_false l7
 clear l7
 by_cases lk:(rd (Jm aa g6) zb) > 9
 ·rw[if_pos lk] at H
  have bn7:=decide_eq_true lk
  clear lk
  obtain rfl:=Option.some.inj H
  obtain⟨⟨iy0,eh1,cd8⟩,ba8,ba9⟩:=rdp_ (Kd.at_int ff1.out zb)
  cases eh1
  replace cd8:=cl_ HB cd8
  go_wp2
  go_ret
  exact⟨g4_,vh⟩
 rw[if_neg lk] at H
 have bn7:=decide_eq_false lk
 clear lk
 have H':=A_ H
 clear H
 obtain⟨⟨iy0,eh1,cd8⟩,ba8,ba9⟩:=rdp_ (Kd.at_int ff1.out zb)
 cases eh1
 replace cd8:=cl_ HB cd8
 go_wp2
 go_roundg k4
 case measure=>have:=HJ1.out;have:=HK2.out;have:=HJ12.out;have:=HK4.out;omega
 case rel=>exact⟨(wrap64 (zb + 1)),(g3_),H',⟨by have:=HJ1.out;have:=HK2.out;have:=HJ12.out;have:=HK4.out;omega⟩,⟨uB_ r6⟩,⟨vh⟩⟩
def F5.bad (k:Nat) (n:Int):List S25->Nat->Option Int
 | [],_=>some (-1)
 | x :: r,i=>(Fi.f k x.f0 x.f1).bind fun t=>if t=true then(if (x.f0.length:Int)=n then F5.bad k n r (i + 1) else some (i:Int)) else some (i:Int)
def F5.f (k:Nat) (l0:List Int) (l1:List (List Int)) (l2:List S25):Option Bool:=(Fi.f k l0 l1).bind fun t=>if t=true then(if (l2.length:Int)<=8 then(F5.bad k (l0.length:Int) l2 0).bind fun q=>some (!decide (q ≥ 0)) else some false) else some false
set_option maxHeartbeats 8000000 in
set_option maxRecDepth 100000 in
theorem F5.lit (k:Nat) (A0:Option Addr) (c0:Nat) (l0:List Int) (A1:Option Addr) (c1:Nat) (l1:List (List Int)) (gb:Nat) (AN:Option Addr) (nN cN:Nat) (vD vP:Value) (t:Bool) (w:World) (e8:Kd.C (Kd.int .i64) w A0 l0.length l0) (d4:l0.length<=c0) (il:Kd.C (Kd.slice 3 (Kd.int .i64)) w A1 l1.length l1) (iu:l1.length<=c1) (hbk:w.heap[gb]? = some (.cells #[.slice AN nN cN,vD,vP] 28 (0,0))) (h:Fi.f k l0 l1=some t) :
  Calls Try.prog 110 #[.agg #[.slice A0 l0.length c0, .slice A1 l1.length c1], .pointer (some ⟨gb,0,none⟩)] w fun e w'=>e = .returned (.bool (if t=true then((l0.length:Int) != (nN:Int)) else true))/\Below w.heap.size w w':=by
 have hu:=Try.underlying25
 have hu2:=Try.underlying28
 have fo:=A_ e8
 have fq:=A_ il
 have BKD:=A_ hbk
 have HB:=A_ (Below.refl w.heap.size w)
 have HT:=A_ h
 have oh:=A_ d4
 have pb:=A_ iu
 clear e8 il hbk h d4 iu
 by_cases ht:t=true
 ·subst ht
  go_enter Try.func110,Try.ntmps110
  go_wp2_with (first|((with_reducible refine gd_ 2 ?_);refine box_event ?hg (N:=2) ?hd (cs:=#[.slice A0 l0.length c0, .slice A1 l1.length c1]) (t:=25) ?hr ?_;(case hd=>rfl);(case hg=>rfl);(case hr=>first|(go_simp;done)|(go_simp;rfl));intro g2 hg w2 hbox hb;have n0_:=A_ (Jk BKD.out hb);have n1_:=A_ (Jr HB.out hb);have BK:=A_ hbox;clear BKD HB hbox hg;have BKD:=n0_;have HB:=n1_;clear n0_ n1_ hb;have hcz_0:w2.cell? ⟨g2,0,none⟩=some (.slice A0 l0.length c0):=(G8 BK.out 0).trans rfl;have hcz_1:w2.cell? ⟨g2,1,none⟩=some (.slice A1 l1.length c1):=(G8 BK.out 1).trans rfl)|((with_reducible refine gc_ 73 ?_);refine goesL_ (some 5) rfl rfl Try.func73 (g1_) rfl #[.agg #[.slice A0 l0.length c0, .slice A1 l1.length c1]] rfl (g91_) ?_;(refine(Fi.calls k _ _ l0 _ _ l1 true _ (cu_ (Kd.C_below fo.out HB.out)) oh.out (cu_ (Kd.C_below fq.out HB.out)) pb.out HT.out).mono ?_);rintro e w3 ⟨rfl,hb⟩;refine⟨_,rfl,?_⟩;have n0_:=A_ (Jk (by exact uB_ BKD) hb);have n1_:=A_ (Jk (by(with_reducible repeat(first|refine Jh ?_ _|refine Ji ?_|refine Jg ?_ _));exact BK.out) hb);have n2_:=hs_ (g13_) hb;clear BKD BK HB hb;have BKD:=n0_;have BK:=n1_;have HB:=n2_;clear n0_ n1_ n2_;have hcy_0:w3.cell? ⟨g2,0,none⟩=some (.slice A0 l0.length c0):=(G8 BK.out 0).trans rfl;have hcd_0:w3.cell? ⟨gb,0,none⟩=some (.slice AN nN cN):=(G8 BKD.out 0).trans rfl))
  go_ret
  exact⟨g3_,g13_⟩
 obtain rfl:t=false:=by simpa using ht
 clear ht
 go_enter Try.func110,Try.ntmps110
 go_wp2_with (first|((with_reducible refine gd_ 2 ?_);refine box_event ?hg (N:=2) ?hd (cs:=#[.slice A0 l0.length c0, .slice A1 l1.length c1]) (t:=25) ?hr ?_;(case hd=>rfl);(case hg=>rfl);(case hr=>first|(go_simp;done)|(go_simp;rfl));intro g2 hg w2 hbox hb;have n1_:=A_ (Jr HB.out hb);have BK:=A_ hbox;clear HB hbox hg;have HB:=n1_;clear n1_ hb;have hcz_0:w2.cell? ⟨g2,0,none⟩=some (.slice A0 l0.length c0):=(G8 BK.out 0).trans rfl;have hcz_1:w2.cell? ⟨g2,1,none⟩=some (.slice A1 l1.length c1):=(G8 BK.out 1).trans rfl)|((with_reducible refine gc_ 73 ?_);refine goesL_ (some 5) rfl rfl Try.func73 (g1_) rfl #[.agg #[.slice A0 l0.length c0, .slice A1 l1.length c1]] rfl (g91_) ?_;(refine(Fi.calls k _ _ l0 _ _ l1 false _ (cu_ (Kd.C_below fo.out HB.out)) oh.out (cu_ (Kd.C_below fq.out HB.out)) pb.out HT.out).mono ?_);rintro e w3 ⟨rfl,hb⟩;refine⟨_,rfl,?_⟩;have n2_:=hs_ (g13_) hb;clear HB hb;have HB:=n2_;clear n2_))
 go_ret
 exact⟨g3_,g13_⟩
set_option maxHeartbeats 8000000 in
set_option maxRecDepth 100000 in
theorem F5.index (k:Nat) (A2:Option Addr) (c2:Nat) (l2:List S25) (gb:Nat) (AN:Option Addr) (nN cN:Nat) (vD vP:Value) (r:Int) (w:World) (hr2:Kd.C k25 w A2 l2.length l2) (hc2:l2.length<=c2) (hbk:w.heap[gb]? = some (.cells #[.slice AN nN cN,vD,vP] 28 (0,0))) (h:F5.bad k (nN:Int) l2 0=some r) :
  Calls Try.prog 127 #[.slice A2 l2.length c2, .func (.func 110) #[] #[.pointer (some ⟨gb,0,none⟩)]] w fun e w'=>e = .returned (.int .i64 r)/\Below w.heap.size w w':=by
 have hn:l2.length<=9223372036854775807:=hr2.2.1
 have HR2:=A_ hr2
 have BKD:=A_ hbk
 have HB:=A_ (Below.refl w.heap.size w)
 have H:=A_ h
 clear hr2 hbk h
 generalize hN:l2.length=n at *
 have HN:=A_ hN
 clear hN
 go_enter Try.func127,Try.ntmps127
 go_wp2_with fail
 go_loopg [5,8] n (fun kq v5 v8 w'=>∃j:Nat,kq + j=n/\v8 = .int .i64 j/\G7 (F5.bad k (nN:Int) (l2.drop j) j=some r)/\G7 (Below w.heap.size w w'))
 case atStart=>exact⟨0,rfl,rfl,⟨H.out⟩,⟨g13_⟩⟩
 clear HB H
 obtain⟨j,hj,rfl,HA,HB⟩:=hrel
 by_cases hlt:j < n
 case neg=>
  obtain rfl:j=n:=by omega
  have hr:G7 ((-1:Int)=r):=⟨by have:=HA.out;rw[List.drop_of_length_le (by rw[HN.out];exact Nat.le_refl _)] at this;exact Option.some.inj this⟩
  have gm:decide ((j:Int) < (j:Int))=false:=decide_eq_false (by omega)
  clear HA
  go_wp2_with fail
  go_ret
  exact⟨by rw[<- hr.out];rfl,g13_⟩
 obtain⟨k1,rfl⟩:∃k1,gk=k1 + 1:=⟨gk - 1,by omega⟩
 have hlt2:j < l2.length:=by rw[HN.out];exact hlt
 have hd:l2.drop j=Jn l2 (j:Int) :: l2.drop (j + 1):=by
  rw[List.drop_eq_getElem_cons hlt2];simp[Jn,List.getD_eq_getElem?_getD,List.getElem?_eq_getElem hlt2]
 have HX:=HA.out
 rw[hd] at HX
 simp only[F5.bad] at HX
 clear HA
 obtain⟨ad,B0,d0,B1,d1,e,hx0,hx1,hl0,hi0,hl1,hi1⟩:=at_T25 HR2.out (j:Int) (by omega) (by omega)
 cases e
 have hx0':=(HB.out.cell (World.block_lt_of_cell? w _ hx0)).trans hx0
 have hx1':=(HB.out.cell (World.block_lt_of_cell? w _ hx1)).trans hx1
 rw[Int.toNat_natCast] at hx0' hx1'
 have HI0:=A_ hi0
 have HI1:=A_ hi1
 have HL0:=A_ hl0
 have HL1:=A_ hl1
 have p5:(0<=(j:Int))=True:=eq_true (by omega)
 have q5:((j:Int) < (n:Int))=True:=eq_true (by omega)
 have gm:decide ((j:Int) < (n:Int))=true:=decide_eq_true (by omega)
 clear hx0 hx1 hi0 hi1 hl0 hl1 hd hlt2
 generalize Jn l2 (j:Int)=y at hx0' hx1' HI0 HI1 HL0 HL1 HX
 obtain⟨t,hT,HX⟩:=Option.bind_eq_some_iff.mp HX
 have HT:=A_ hT
 clear hT
 by_cases hb2:(if t=true then((y.f0.length:Int) != (nN:Int)) else true)=true
 ·have hr:G7 ((j:Int)=r):=⟨by
   by_cases ht:t=true
   ·rw[if_pos ht] at hb2 HX
    rw[if_neg (by simpa using hb2)] at HX
    exact Option.some.inj HX
   ·rw[if_neg ht] at HX;exact Option.some.inj HX⟩
  have HV:=A_ hb2
  clear hb2 HX
  go_wp2_with (go_at_call 110;refine(F5.lit k _ _ y.f0 _ _ y.f1 gb AN nN cN vD vP t _ ?s1 ?s2 ?s3 ?s4 ?s5 HT.out).mono ?_;(case s1=>exact Kd.C_below HI0.out (g13_));(case s2=>exact HL0.out);(case s3=>exact Kd.C_below HI1.out (g13_));(case s4=>exact HL1.out);(case s5=>exact Jk BKD.out (g13_));rintro e w9 ⟨rfl,hb⟩;rw[HV.out];have n0_:=hs_ (g13_) hb;clear HB hb;have HB:=n0_;clear n0_)
  go_ret
  exact⟨by rw[<- hr.out];rfl,g13_⟩
 have hr:G7 (F5.bad k (nN:Int) (l2.drop (j + 1)) (j + 1)=some r):=⟨by
  by_cases ht:t=true
  ·rw[if_pos ht] at hb2 HX
   rw[if_pos (by simpa using hb2)] at HX
   exact HX
  ·rw[if_neg ht] at hb2;exact absurd rfl hb2⟩
 have HV:G7 ((if t=true then((y.f0.length:Int) != (nN:Int)) else true)=false):=⟨by simpa using hb2⟩
 clear hb2 HX
 go_wp2_with (go_at_call 110;refine(F5.lit k _ _ y.f0 _ _ y.f1 gb AN nN cN vD vP t _ ?s1 ?s2 ?s3 ?s4 ?s5 HT.out).mono ?_;(case s1=>exact Kd.C_below HI0.out (g13_));(case s2=>exact HL0.out);(case s3=>exact Kd.C_below HI1.out (g13_));(case s4=>exact HL1.out);(case s5=>exact Jk BKD.out (g13_));rintro e w9 ⟨rfl,hb⟩;rw[HV.out];have n0_:=hs_ (g13_) hb;clear HB hb;have HB:=n0_;clear n0_)
 go_roundg k1
 case measure=>omega
 case rel=>exact⟨j + 1,by omega,by go_num,hr,⟨g13_⟩⟩
theorem F5.contains (k:Nat) (A2:Option Addr) (c2:Nat) (l2:List S25) (gb:Nat) (AN:Option Addr) (nN cN:Nat) (vD vP:Value) (q:Int) (w:World) (hr2:Kd.C k25 w A2 l2.length l2) (hc2:l2.length<=c2) (hbk:w.heap[gb]? = some (.cells #[.slice AN nN cN,vD,vP] 28 (0,0))) (h:F5.bad k (nN:Int) l2 0=some q) :
  Calls Try.prog 109 #[.slice A2 l2.length c2, .func (.func 110) #[] #[.pointer (some ⟨gb,0,none⟩)]] w fun e w'=>e = .returned (.bool (decide (q ≥ 0)))/\Below w.heap.size w w':=by
 have HR2:=A_ hr2
 have BKD:=A_ hbk
 have HB:=A_ (Below.refl w.heap.size w)
 have H:=A_ h
 have zz:=A_ hc2
 clear hr2 hbk h hc2
 go_enter Try.func109,Try.ntmps109
 go_wp2_with (go_at_call 127;refine(F5.index k A2 c2 l2 gb AN nN cN vD vP q _ ?s1 zz.out ?s2 H.out).mono ?_;(case s1=>exact Kd.C_below HR2.out (g13_));(case s2=>exact Jk BKD.out (g13_));rintro e w9 ⟨rfl,hb⟩;have n0_:=hs_ (g13_) hb;clear HB hb;have HB:=n0_;clear n0_)
 go_ret
 exact⟨by rfl,g13_⟩
theorem cg9 {p:Prop} (h:p:=by repeat(first|(with_reducible first|exact HB.out|apply Jf|apply Je|apply Jd)|exact HB.out)):p:=h
set_option maxHeartbeats 8000000 in
set_option maxRecDepth 100000 in
theorem F5.calls (k:Nat) (A0:Option Addr) (c0:Nat) (l0:List Int) (A1:Option Addr) (c1:Nat) (l1:List (List Int)) (A2:Option Addr) (c2:Nat) (l2:List S25) (r:Bool) (w:World) (e8:Kd.C (Kd.int .i64) w A0 l0.length l0) (d4:l0.length<=c0) (il:Kd.C (Kd.slice 3 (Kd.int .i64)) w A1 l1.length l1) (iu:l1.length<=c1) (hr2:Kd.C k25 w A2 l2.length l2) (hc2:l2.length<=c2) (h:F5.f k l0 l1 l2=some r) :
  Calls Try.prog 72 #[.agg #[.slice A0 l0.length c0, .slice A1 l1.length c1, .slice A2 l2.length c2]] w fun e w'=>e = .returned (.bool r)/\Below w.heap.size w w':=by
 have hu:=Try.underlying25
 have hu2:=Try.underlying28
 have fo:=A_ e8
 have fq:=A_ il
 have HR2:=A_ hr2
 have oh:=A_ d4
 have pb:=A_ iu
 have zz:=A_ hc2
 have HB:=A_ (Below.refl w.heap.size w)
 obtain⟨t,h1,h2⟩:=Option.bind_eq_some_iff.mp (show(Fi.f k l0 l1).bind (fun t=>if t=true then(if (l2.length:Int)<=8 then(F5.bad k (l0.length:Int) l2 0).bind (fun q=>some (!decide (q ≥ 0))) else some false) else some false)=some r from h)
 have HT:=A_ h1
 clear e8 il hr2 d4 iu hc2 h h1
 by_cases ht:t=true
 case neg=>
  obtain rfl:t=false:=by simpa using ht
  rw[if_neg (by decide)] at h2
  obtain rfl:=Option.some.inj h2
  clear h2 ht
  go_enter Try.func72,Try.ntmps72
  go_wp2_with (first|((with_reducible refine gd_ 1 ?_);refine bx_ (N:=1) #[.slice A0 l0.length c0, .slice A1 l1.length c1, .slice A2 l2.length c2] 28 ?_;intro gb hg w2 hbox hb;have n1_:=A_ (Jr HB.out hb);have BK:=A_ hbox;clear HB hbox hg;have HB:=n1_;clear n1_ hb;have hcz_0:w2.cell? ⟨gb,0,none⟩=some (.slice A0 l0.length c0):=(G8 BK.out 0).trans rfl;have hcz_1:w2.cell? ⟨gb,1,none⟩=some (.slice A1 l1.length c1):=(G8 BK.out 1).trans rfl)|((with_reducible refine gc_ 73 ?_);refine goesL_ (some 5) rfl rfl Try.func73 k_ rfl #[.agg #[.slice A0 l0.length c0, .slice A1 l1.length c1]] rfl (g91_) ?_;(refine(Fi.calls k _ _ l0 _ _ l1 false _ (uC_ fo) oh.out (uC_ fq) pb.out HT.out).mono ?_);rintro e w3 ⟨rfl,hb⟩;refine⟨_,rfl,?_⟩;have n1_:=A_ (Jk (uB_ BK) hb);have n2_:=hs_ (cg9) hb;clear BK HB hb;have BK:=n1_;have HB:=n2_;clear n1_ n2_;have hcy_2:w3.cell? ⟨gb,2,none⟩=some (.slice A2 l2.length c2):=(G8 BK.out 2).trans rfl))
  go_ret
  exact⟨rfl,cg9⟩
 subst ht
 rw[if_pos rfl] at h2
 by_cases h8:(l2.length:Int)<=8
 ·rw[if_pos h8] at h2
  obtain⟨q,h3,h4⟩:=Option.bind_eq_some_iff.mp h2
  have HQ:=A_ h3
  have hr:G7 ((!decide (q ≥ 0))=r):=⟨Option.some.inj h4⟩
  have c8:decide ((l2.length:Int)<=8)=true:=decide_eq_true h8
  clear h2 h3 h4 h8
  go_enter Try.func72,Try.ntmps72
  go_wp2_with (first|((with_reducible refine gd_ 1 ?_);refine bx_ (N:=1) #[.slice A0 l0.length c0, .slice A1 l1.length c1, .slice A2 l2.length c2] 28 ?_;intro gb hg w2 hbox hb;have n1_:=A_ (Jr HB.out hb);have BK:=A_ hbox;clear HB hbox hg;have HB:=n1_;clear n1_ hb;have hcz_0:w2.cell? ⟨gb,0,none⟩=some (.slice A0 l0.length c0):=(G8 BK.out 0).trans rfl;have hcz_1:w2.cell? ⟨gb,1,none⟩=some (.slice A1 l1.length c1):=(G8 BK.out 1).trans rfl)|((with_reducible refine gc_ 73 ?_);refine goesL_ (some 5) rfl rfl Try.func73 k_ rfl #[.agg #[.slice A0 l0.length c0, .slice A1 l1.length c1]] rfl (g91_) ?_;(refine(Fi.calls k _ _ l0 _ _ l1 true _ (uC_ fo) oh.out (uC_ fq) pb.out HT.out).mono ?_);rintro e w3 ⟨rfl,hb⟩;refine⟨_,rfl,?_⟩;have n1_:=A_ (Jk (uB_ BK) hb);have n2_:=hs_ (cg9) hb;clear BK HB hb;have BK:=n1_;have HB:=n2_;clear n1_ n2_;have hcy_2:w3.cell? ⟨gb,2,none⟩=some (.slice A2 l2.length c2):=(G8 BK.out 2).trans rfl)|(go_at_call 109;refine(F5.contains k A2 c2 l2 gb A0 l0.length c0 (.slice A1 l1.length c1) (.slice A2 l2.length c2) q _ ?s1 zz.out ?s2 HQ.out).mono ?_;(case s1=>exact Kd.C_below HR2.out (cg9));(case s2=>(with_reducible repeat(first|refine Jh ?_ _|refine Ji ?_|refine Jg ?_ _));exact BK.out);rintro e w9 ⟨rfl,hb⟩;replace HB:=hs_ (cg9) hb;clear hb))
  go_ret
  exact⟨by rw[<- hr.out];rfl,cg9⟩
 rw[if_neg h8] at h2
 obtain rfl:=Option.some.inj h2
 have c8:decide ((l2.length:Int)<=8)=false:=decide_eq_false h8
 clear h2 h8
 go_enter Try.func72,Try.ntmps72
 go_wp2_with (first|((with_reducible refine gd_ 1 ?_);refine bx_ (N:=1) #[.slice A0 l0.length c0, .slice A1 l1.length c1, .slice A2 l2.length c2] 28 ?_;intro gb hg w2 hbox hb;have n1_:=A_ (Jr HB.out hb);have BK:=A_ hbox;clear HB hbox hg;have HB:=n1_;clear n1_ hb;have hcz_0:w2.cell? ⟨gb,0,none⟩=some (.slice A0 l0.length c0):=(G8 BK.out 0).trans rfl;have hcz_1:w2.cell? ⟨gb,1,none⟩=some (.slice A1 l1.length c1):=(G8 BK.out 1).trans rfl)|((with_reducible refine gc_ 73 ?_);refine goesL_ (some 5) rfl rfl Try.func73 k_ rfl #[.agg #[.slice A0 l0.length c0, .slice A1 l1.length c1]] rfl (g91_) ?_;(refine(Fi.calls k _ _ l0 _ _ l1 true _ (uC_ fo) oh.out (uC_ fq) pb.out HT.out).mono ?_);rintro e w3 ⟨rfl,hb⟩;refine⟨_,rfl,?_⟩;have n1_:=A_ (Jk (uB_ BK) hb);have n2_:=hs_ (cg9) hb;clear BK HB hb;have BK:=n1_;have HB:=n2_;clear n1_ n2_;have hcy_2:w3.cell? ⟨gb,2,none⟩=some (.slice A2 l2.length c2):=(G8 BK.out 2).trans rfl))
 go_ret
 exact⟨rfl,cg9⟩
theorem eqA69 (d:Nat) (w:World) (x0 y0:Int) (x1 y1:Int) (x2 y2:Int) (x3 y3:Int) :
  (Op.equalIn (d + 2) 69 (.agg #[.int .i64 x0, .int .i64 x1, .int .i64 x2, .int .i64 x3]) (.agg #[.int .i64 y0, .int .i64 y1, .int .i64 y2, .int .i64 y3])).run Try.prog w = .ok (x0 == y0 && (x1 == y1 && (x2 == y2 && (x3 == y3)))) w:=by
 refine eqA_of Try.underlying69 (g1_) ?_
 refine eqf_cons (by rfl) (g39_) (g39_) (by go_simp) ?_
 refine eqf_cons (by rfl) (g39_) (g39_) (by go_simp) ?_
 refine eqf_cons (by rfl) (g39_) (g39_) (by go_simp) ?_
 exact eqf_last (by rfl) (g39_) (g39_) (by go_simp)
def Fn.l0:Nat->List (List Int)->Int->Int->List Int->List (List Int)->Option (List Int × (List (List Int)))
 | 0,_,_,_,_,_=>none
 | k + 1,vx,k7,x14,iy1,gr1=>if x14 < k7 then(if 0<=x14 then(if x14 < (vx.length:Int) then((some (([]:List Int):List Int)).bind fun cs6=>(if cs6.length + (Jm vx x14).length < 17592186044416 then(if gr1.length < 5864062014805 then(Fn.l0 k vx k7 (wrap64 (x14 + 1)) iy1 (gr1 ++ [(cs6 ++ (Jm vx x14))])) else(none)) else(none))) else(none)) else(none)) else(some (iy1,gr1))
def Fn.f (k:Nat) (ab:List Int) (aa:List (List Int)):Option (List Int × (List (List Int))):=(some (([]:List Int):List Int)).bind fun bi2=>(if bi2.length + ab.length < 17592186044416 then(Fn.l0 k aa (aa.length:Int) 0 (bi2 ++ ab) ([]:List (List Int))) else(none))
def Fn.T5:Bool × List (List Nat × List Nat):=(true,[([],[]),([0],[0]),([],[]),([],[]),([2,3],[2,3]),([4],[4]),([1,5,4],[1,5]),([0,1,2,3,4,5,6],[]),([7,6,6,0,1,2,3,4,5,6],[6,7])])
def Fn.B5:List Nat:=[0,1,0,0,12,28,63,127,255]
theorem Fn.tab5:rtab .any (opsOf Try.f111 5)=Fn.T5:=by kernel_rfl
theorem Fn.bits5:waitsOk Fn.T5.2 Fn.B5=true:=by kernel_rfl
theorem yc {p:Prop} (h:p:=by repeat(first|(with_reducible first|exact HB.out|apply Jf|apply Je|apply Jd|refine Jc ?_ li9.out|refine Jc ?_ lj0.out|refine Jc ?_ lj1.out)|exact HB.out)):p:=h
set_option maxHeartbeats 8000000 in
set_option maxRecDepth 100000 in
theorem Fn.calls (k:Nat) (ae:Option Addr) (ac:Nat) (ab:List Int) (ag:Option Addr) (af:Nat) (aa:List (List Int)) (r1:List Int) (r2:List (List Int)) (w:World) (ca:Kd.C (Kd.int .i64) w ae ab.length ab) (ce:ab.length<=ac) (cb:Kd.C (Kd.slice 3 (Kd.int .i64)) w ag aa.length aa) (cg:aa.length<=af) (h:Fn.f k ab aa=some (r1,r2)) :
  Calls Try.prog 111 #[.agg #[.slice ae ab.length ac, .slice ag aa.length af]] w fun e w'=>∃v0_ v1_:Value,e = .returned (.agg #[v0_,v1_])/\Kd.R (Kd.int .i64) 3 w' w.heap.size (fun _=>True) v0_ r1/\Kd.S (Kd.slice 3 (Kd.int .i64)) 22 w' w.heap.size (fun k_=>some k_≠(v0_:Value).ownBlock) v1_ r2/\Below w.heap.size w w':=by
 have hu25:=Try.underlying25
 have bg:=A_ ca
 have bs:=A_ ce
 clear ca ce
 have bd:=A_ cb
 have bv:=A_ cg
 clear cb cg
 have HB:=A_ (Below.refl w.heap.size w)
 have H:=h
 unfold Fn.f at H
 clear h
 obtain⟨bi2,hyq⟩:∃y_:List Int,y_=(([]:List Int)):=⟨_,rfl⟩
 replace H:(if bi2.length + ab.length < 17592186044416 then(Fn.l0 k aa (aa.length:Int) 0 (bi2 ++ ab) ([]:List (List Int))) else(none))=some (r1,r2):=qh_
 have iy2:=A_ hyq
 clear hyq
 obtain⟨c2,H⟩:=pos_ H
 have fz2:=A_ c2
 clear c2
 obtain⟨qo,hyq⟩:∃y_:List Int,y_=(bi2 ++ ab):=⟨_,rfl⟩
 replace H:(Fn.l0 k aa (aa.length:Int) 0 qo ([]:List (List Int)))=some (r1,r2):=qh_
 have lj2:=A_ hyq
 clear hyq
 have H':=A_ H
 clear H
 go_enter Try.func111,Try.ntmps111
 go_wp2_with (first|((with_reducible refine gd_ 1 ?_);refine bx_ (N:=1) #[.slice ae ab.length ac, .slice ag aa.length af] 25 ?_;intro ah5 hg w3 hbox hb;have n8:=A_ (hbox);have ob1:=A_ ((g77_:w.heap.size<=ah5));have li9:=ob1;replace HB:=hs_ (yc) hb;clear hb hbox hg)|((with_reducible refine gd_ 2 ?_);refine bx_ (N:=2) #[.slice none 0 0, .slice none 0 0] 25 ?_;intro xo hg w4 hbox hb;have o4:=A_ (hbox);have ob2:=A_ ((g77_:w.heap.size<=xo));have lj0:=ob2;replace HB:=hs_ (yc) hb;have iy3:=nl_ n8 hg;have iy4:=nr_ n8 hg;replace n8:=bb_ n8 hb;clear hb hbox hg)|((with_reducible refine gd_ 6 ?_);refine rle_ 6 [] ?_;intro lj3 w5 ho6 hb hg_ hnew_;clear hg_ hnew_;(first|rw[<- iy2.out] at ho6|(simp only[Int.reduceToNat] at ho6;rw[<- iy2.out] at ho6));have ff4:=A_ (Kd.R_lower ho6 (G9 (yc)));replace n8:=bb_ n8 hb;replace o4:=bb_ o4 hb;replace HB:=hs_ (yc) hb;clear hb ho6;have da6:=iy3.out;have da7:=iy4.out;obtain⟨bf1,bf2,bf3,bf4⟩:=blk2_ n8)|((with_reducible refine gate_builtin (b:=.append) (xs:=#[.tmp 6, .tmp 8]) rfl ?_);at_builtin;refine Kd.R_append_rows (Kd.int .i64) (w0:=w) w.heap.size rfl (.tmp 6) (.tmp 8) 22 3 (.int .i64 0) 8 rfl Try.underlying22 info3 rfl (by decide) (by omega) lj3 bi2 ab _ _ _ (fun _=>True) (fun _=>False) rfl rfl ?aO ?aR (fun _ _ h=>h) (fun _ h=>h.elim) ?aF ?aB ?aS ?aL ?_;(case aR=>exact uC_ bg);(case aB=>exact(yc));(case aF=>exact(fun _ _=>trivial));(case aO=>exact(uR_ ff4));(case aS=>exact(G9 (yc)));(case aL=>have:=fz2.out;omega);intro ob3 w9 ho hb hg hat;rw[<- lj2.out] at ho;replace n8:=(bg_ n8 hg (Kd.R_ne ff4.out n8.out (by decide)));replace o4:=(bg_ o4 hg (Kd.R_ne ff4.out o4.out (by decide)));replace HB:=A_ (hb);have ff5:=A_ (ho);clear ff4;clear ho hb hg hat;obtain⟨h7,gg,yj⟩:=Kd.R_slice ff5.out;subst yj)|((with_reducible refine gd_ 3 ?_);refine bx_ (N:=3) #[.slice none 0 0, .slice none 0 0] 25 ?_;intro zc hg kj hbox hb;replace ff5:=rb_ ff5 hb;have mz:=A_ (hbox);have ob4:=A_ ((g77_:w.heap.size<=zc));have lj1:=ob4;replace HB:=hs_ (yc) hb;have dg7:=nl_ n8 hg;have gr2:=nr_ n8 hg;replace n8:=bb_ n8 hb;have dg8:=nl_ o4 hg;have gr3:=nr_ o4 hg;replace o4:=bb_ o4 hb;clear hb hbox hg;have cj9:=gr2.out;have ck0:=dg7.out;have fz6:=gr3.out;have fz7:=dg8.out;obtain⟨ub,uc,ud,ue⟩:=blk2_ mz;obtain⟨ch0,ch1,ch2,ch3⟩:=blk2_ n8))
 go_loopg [14] k (fun kq v14 w'=>∃(ab3:Int) (as1:List (List Int)) (bb0:Value),v14 = .int .i64 ab3/\G7 (Fn.l0 kq aa (aa.length:Int) ab3 qo as1=some (r1,r2))/\G7 (kq<=k)/\G7 (Kd.R (Kd.int .i64) 3 w' w.heap.size (fun _=>True) (.slice h7 qo.length gg) qo)/\G7 (Kd.S (Kd.slice 3 (Kd.int .i64)) 22 w' w.heap.size (fun k_=>some k_≠((.slice h7 qo.length gg):Value).ownBlock) bb0 as1)/\G7 (hc_ w' ah5 #[(.slice ae ab.length ac),(.slice ag aa.length af)] 25)/\G7 (hc_ w' xo #[(.slice none 0 0),(.slice none 0 0)] 25)/\G7 (hc_ w' zc #[(.slice h7 qo.length gg),bb0] 25)/\G7 (Below w.heap.size w w'))
 case atStart=>exact⟨(0),(([]:List (List Int))),(.slice none 0 0),(g3_),H',⟨Nat.le_refl _⟩,⟨ra_ ff5⟩,⟨g38_⟩,⟨ba_ n8⟩,⟨ba_ o4⟩,⟨ba_ mz⟩,⟨yc⟩⟩
 clear H'
 obtain⟨ab3,as1,bb0,rfl,HA,HK1,ah6,xp,n8,o4,mz,HB⟩:=hrel
 cases gk with
 | zero=>exact absurd HA.out (by simp[Fn.l0])
 | succ k1=>?_
 have H:=HA.out
 clear HA
 simp only[Fn.l0] at H
 by_cases i8:ab3 < (aa.length:Int)
 case neg=>
  rw[if_neg i8] at H
  have af8:=decide_eq_false i8
  clear i8
  simp only[Option.some.injEq,Prod.mk.injEq] at H
  obtain⟨rfl,rfl⟩:=H
  have dx9:=gr2.out
  have dy0:=dg7.out
  have ga1:=gr3.out
  have ga2:=dg8.out
  obtain⟨cl0,cl1,cl2,cl3⟩:=blk2_ mz
  have ed0:=iy4.out
  have ed1:=iy3.out
  obtain⟨hv9,hw0,hw2,hw3⟩:=blk2_ o4
  obtain⟨oj,nu,cm4⟩:=Kd.S_slice xp.out
  subst cm4
  go_wp2
  refine bodyPost_ret (results_cell_row rfl _ _ xo 25 #[.slice h7 qo.length gg, .slice oj as1.length nu] (0,0) _ rfl (ba_ o4) Try.underlying25 rfl (g1_)) rfl ?_
  exact⟨_,_,g4_,ra_ ah6,sa_ xp,yc⟩
 rw[if_pos i8] at H
 have af8:=decide_eq_true i8
 clear i8
 obtain⟨ak3,H⟩:=pd_ H
 obtain⟨bg0,H⟩:=pd_ H
 obtain⟨cs6,hyq⟩:∃y_:List Int,y_=(([]:List Int)):=⟨_,rfl⟩
 replace H:(if cs6.length + (Jm aa ab3).length < 17592186044416 then(if as1.length < 5864062014805 then(Fn.l0 k1 aa (aa.length:Int) (wrap64 (ab3 + 1)) qo (as1 ++ [(cs6 ++ (Jm aa ab3))])) else(none)) else(none))=some (r1,r2):=qh_
 have iy5:=A_ hyq
 clear hyq
 obtain⟨fc,H⟩:=pos_ H
 have gr4:=A_ fc
 clear fc
 obtain⟨eh2,hyq⟩:∃y_:List Int,y_=(cs6 ++ (Jm aa ab3)):=⟨_,rfl⟩
 replace H:(if as1.length < 5864062014805 then(Fn.l0 k1 aa (aa.length:Int) (wrap64 (ab3 + 1)) qo (as1 ++ [eh2])) else(none))=some (r1,r2):=qh_
 have lj4:=A_ hyq
 clear hyq
 obtain⟨o0,H⟩:=pos_ H
 have ex7:=A_ o0
 clear o0
 obtain⟨eh3,hyq⟩:∃y_:List (List Int),y_=(as1 ++ [eh2]):=⟨_,rfl⟩
 replace H:(Fn.l0 k1 aa (aa.length:Int) (wrap64 (ab3 + 1)) qo eh3)=some (r1,r2):=qh_
 have lj5:=A_ hyq
 clear hyq
 have H':=A_ H
 clear H
 obtain⟨⟨iy6,ob5,ob6,lj6,iy7,iy8,iy9⟩,gr5,gr6⟩:=rdp_ (at_L1 bd.out ab3)
 cases lj6
 replace iy7:=cl_ HB iy7
 have lj7:=A_ iy9
 have ob7:=A_ iy8
 clear iy9 iy8
 try go_wp2
 replace ah6:=rd_ ah6
 replace xp:=sd_ xp
 replace n8:=bd_ n8
 replace o4:=bd_ o4
 replace mz:=bd_ mz
 replace HB:=A_ (Jd HB.out)
 refine start_ (n:=9) (S:=fun w'=>w'.cell? ⟨zc,0,none⟩=some (.slice h7 qo.length gg)/\w'.cell? ⟨zc,1,none⟩=some (bb0)) (ds:=[8]) (tl_ 9 0) (g1_) rfl (g1_) ⟨(G8 mz.out 0).trans rfl,(G8 mz.out 1).trans rfl⟩ (fun hHeld=>?_);refine Js Fn.tab5 Fn.bits5 (fun HT_ HW_=>?_)
 generalize wr.drew=w21 at ah6 xp n8 o4 mz HB hHeld |-
 refine pw_ 0 18 (tl_ 9 1) ?_
 refine pw_ 3 21 (tl_ 9 9) ?_
 refine tk6_ 1 19 (tl_ 9 11) hHeld ?_
 refine one_ (i:=2) (N:=some 20) (tl_ 9 15) rfl rfl (Ju HT_.out (g1_)) (by decide) (fun K hK=>?_)
 refine rls_ 20 [] ?_
 intro lj8 uj sv hb hg_ hnew_
 clear hg_ hnew_
 (first|rw[<- iy5.out] at sv|(simp only[Int.reduceToNat] at sv;rw[<- iy5.out] at sv))
 replace xp:=A_ (Kd.S_elder' (uS_ xp) (Kd.R_base sv) hb)
 have eh4:=A_ (Kd.R_lower (Kd.R_new' sv (Kd.R_lt (uR_ ah6))) (G9 (yc)))
 replace ah6:=A_ (Kd.R_elder' (uR_ ah6) (Kd.R_base sv) hb)
 replace n8:=bb_ n8 hb
 replace o4:=bb_ o4 hb
 replace mz:=bb_ mz hb
 replace HB:=hs_ (yc) hb
 clear hb sv
 refine hK.out _ _ ⟨(G8 mz.out 0).trans rfl,(G8 mz.out 1).trans rfl⟩ (fun hHeld=>?_)
 clear hK K
 refine nm_ ?_
 refine one_ (i:=4) (N:=some 22) (tl_ 9 31) rfl rfl (Ju HT_.out (g1_)) (by decide) (fun K hK=>?_)
 refine Kd.R_append_rows_step (Kd.int .i64) (w0:=w) w.heap.size (by rfl) (.tmp 20) (.tmp 21) 22 3 (.int .i64 0) 8 rfl Try.underlying22 info3 rfl (by decide) (by omega) lj8 cs6 (Jm aa ab3) _ _ _ (fun k_=>some k_≠(.slice h7 qo.length gg:Value).ownBlock) (fun _=>False) rfl rfl ?aO ?aR (fun _ _ h=>h) (fun _ h=>h.elim) ?aF ?aB ?aS ?aL ?_
 (case aR=>exact uC_ lj7)
 (case aB=>exact(yc))
 (case aF=>exact(fun k_ hk=>Kd.fresh' (Kd.R_lt (uR_ ah6)) k_ hk))
 (case aO=>exact(yR_ eh4 (fun _ hk=>hk.2)))
 (case aS=>exact(G9 (yc)))
 (case aL=>have:=gr4.out;omega)
 intro ob8 w24 ho hb hg hat
 rw[<- lj4.out] at ho
 replace ah6:=A_ (Kd.R_after (ok:=(fun _=>True)) (uR_ ah6) hg hat)
 replace xp:=A_ (Kd.S_after (ok:=(fun k_=>some k_≠(.slice h7 qo.length gg:Value).ownBlock)) (uS_ xp) hg hat)
 replace n8:=(bg_ n8 hg (Kd.R_ne eh4.out n8.out (by decide)))
 replace o4:=(bg_ o4 hg (Kd.R_ne eh4.out o4.out (by decide)))
 replace mz:=(bg_ mz hg (Kd.R_ne eh4.out mz.out (by decide)))
 replace HB:=A_ (hb)
 have ff6:=A_ (ho)
 clear eh4
 clear ho hb hg hat
 obtain⟨kl,km,qu⟩:=Kd.R_slice ff6.out
 (first|subst qu|(injection qu with f1_ f2_ f3_;have f4_:=f1_.symm;have f5_:=f3_.symm;clear f1_ f2_ f3_;subst f4_;subst f5_))
 refine hK.out _ _ ⟨(G8 mz.out 0).trans rfl,(G8 mz.out 1).trans rfl⟩ (fun hHeld=>?_)
 clear hK K
 refine nm_ ?_
 refine one_ (i:=5) (N:=some 23) (tl_ 9 63) rfl rfl (Ju HT_.out (g1_)) (by decide) (fun K hK=>?_)
 refine value_ (w1:=?_) (v:=?_) (by rfl) rfl ?_ ?_
 rotate_left 2
 ·go_simp
  constructor
  ·rfl
  rfl
 refine hK.out _ _ ⟨(G8 (Jg mz.out _) 0).trans rfl,(G8 (Jg mz.out _) 1).trans rfl⟩ (fun hHeld=>?_)
 clear hK K
 refine nm_ ?_
 refine one_ (i:=6) (N:=some 24) (tl_ 9 127) rfl rfl (Ju HT_.out (g1_)) (by decide) (fun K hK=>?_)
 refine Kd.S_append_step (Kd.slice 3 (Kd.int .i64)) (w0:=w) w.heap.size (by rfl) (.tmp 19) (.tmp 23) 23 22 (.slice none 0 0) 24 rfl Try.underlying23 info22 rfl (by decide) (by omega) bb0 as1 eh2 [.slice kl eh2.length km] (fun k_=>some k_≠(.slice h7 qo.length gg:Value).ownBlock) (fun k_=>some k_=(.slice kl eh2.length km:Value).ownBlock) rfl rfl ?aP (fun k_ hk_=>((Kd.R_mono (ok':=fun k_=>((fun k_=>some k_≠(.slice h7 qo.length gg:Value).ownBlock)) k_/\some k_≠(bb0:Value).ownBlock) (Kd.R_apart' (ff6.out) (Kd.S_typed xp.out) (by decide)) (fun k_ hk=>⟨hk.1,hk.2⟩))).1 k_ hk_.symm) ?aF ?aO ?aB ?aS ?aL ?_
 (case aP=>exact Kd.M_row (Kd.R_mono (Kd.R_tight rfl (Kd.R_mono (ok':=fun k_=>((fun k_=>some k_≠(.slice h7 qo.length gg:Value).ownBlock)) k_/\some k_≠(bb0:Value).ownBlock) (Kd.R_apart' (ff6.out) (Kd.S_typed xp.out) (by decide)) (fun k_ hk=>⟨hk.1,hk.2⟩))) (fun _ h_=>h_)))
 (case aB=>exact(yc))
 (case aF=>exact(fun k_ hk=>Kd.fresh' (Kd.R_lt (uR_ ah6)) k_ hk))
 (case aO=>exact(by(with_reducible repeat(first|apply Kd.S_alloc|apply Kd.S_drewN|apply Kd.S_drew));exact Kd.S_mono xp.out (fun k_ hk=>⟨hk.1,fun e_=>hk.2 e_⟩)))
 (case aS=>exact(G9 (yc)))
 (case aL=>have:=ex7.out;omega)
 intro ob9 w25 ho hb hg hat
 rw[<- lj5.out] at ho
 replace ah6:=A_ (Kd.R_over' (uR_ ah6) (Kd.S_typed (uS_ xp)) (by decide) hg)
 replace n8:=(bg_ n8 hg (Kd.S_ne xp.out n8.out (by decide)))
 replace o4:=(bg_ o4 hg (Kd.S_ne xp.out o4.out (by decide)))
 replace mz:=(bg_ mz hg (Kd.S_ne xp.out mz.out (by decide)))
 replace HB:=A_ (hb)
 have iz0:=A_ (ho)
 clear xp ff6
 clear ho hb hg hat
 obtain⟨l8,lz,qj⟩:=Kd.S_slice iz0.out
 (first|subst qj|(injection qj with f1_ f2_ f3_;have f4_:=f1_.symm;have f5_:=f3_.symm;clear f1_ f2_ f3_;subst f4_;subst f5_))
 refine hK.out _ _ ⟨(G8 mz.out 0).trans rfl,(G8 mz.out 1).trans rfl⟩ (fun hHeld=>?_)
 clear hK K
 refine nm_ ?_
 refine pw_ 7 25 (tl_ 9 255) ?_
 refine last_ (i:=8) (N:=none) (tl_ 9 511) rfl rfl (Ju HT_.out (g1_)) (by decide) (fun K hK=>?_)
 have oc0:w25.cell? ⟨zc,1,none⟩=some (bb0):=(G8 mz.out 1).trans rfl
 have oc1:=Jj mz.out 1
 have oc2:=dg7.out
 have oc3:=dg8.out
 have oc4:=gr2.out
 have oc5:=gr3.out
 refine skip_ (w1:=?_) (by rfl) rfl ?_ ?_
 rotate_left
 ·go_simp
  rfl
 refine hK.out _ _ ?_
 clear hK K
 refine done_ (done_of HT_.out (g1_)) ?_
 try go_wp2
 go_roundg k1
 case measure=>have:=HK1.out;omega
 case rel=>exact⟨(wrap64 (ab3 + 1)),(eh3),(.slice l8 eh3.length lz),(g3_),H',⟨g8_⟩,⟨ra_ ah6⟩,⟨sa_ iz0⟩,⟨ba_ n8⟩,⟨ba_ o4⟩,⟨ba_ mz⟩,⟨yc⟩⟩
def Fh.l0:Nat->List (S25)->Int->Int->List Int->List (List Int)->List (S25)->Option (List Int × (List (List Int)) × (List (S25)))
 | 0,_,_,_,_,_,_=>none
 | k + 1,qw,vx,k7,iz1,iz2,gr7=>if k7 < vx then(if 0<=k7 then(if k7 < (qw.length:Int) then((Fn.f k ((Jn qw k7).f0) ((Jn qw k7).f1)).bind fun bt427=>(if gr7.length < 2932031007402 then(Fh.l0 k qw vx (wrap64 (k7 + 1)) iz1 iz2 (gr7 ++ [(⟨bt427.1,bt427.2⟩:S25)])) else(none))) else(none)) else(none)) else(some (iz1,iz2,gr7))
def Fh.f (k:Nat) (ab:List Int) (aa:List (List Int)) (ai:List (S25)):Option (List Int × (List (List Int)) × (List (S25))):=(Fn.f k ab aa).bind fun bt418=>(Fh.l0 k ai (ai.length:Int) 0 bt418.1 bt418.2 ([]:List (S25)))
def Fh.T5:Bool × List (List Nat × List Nat):=(true,[([],[]),([0],[0]),([],[]),([2],[2]),([3],[3]),([1,4,3],[1,4]),([0,1,2,3,4,5],[]),([6,5,5,0,1,2,3,4,5],[5,6])])
def Fh.B5:List Nat:=[0,1,0,4,12,31,63,127]
theorem Fh.tab5:rtab .any (opsOf Try.f104 5)=Fh.T5:=by kernel_rfl
theorem Fh.bits5:waitsOk Fh.T5.2 Fh.B5=true:=by kernel_rfl
theorem Fh.calls_s_q0 {p:Prop} (h:p:=by repeat(first|(with_reducible first|exact HB.out|apply Jf|apply Je|apply Jd|refine Jc ?_ lj9.out|refine Jc ?_ lk0.out|refine Jc ?_ lk1.out|refine Jc ?_ lk2.out)|exact HB.out)):p:=h
set_option maxHeartbeats 8000000 in
set_option maxRecDepth 100000 in
theorem Fh.calls_s (k:Nat) (ae:Option Addr) (ac:Nat) (ab:List Int) (ag:Option Addr) (af:Nat) (aa:List (List Int)) (av:Option Addr) (au:Nat) (ai:List (S25)) (r1:List Int) (r2:List (List Int)) (r3:List (S25)) (w:World) (ca:Kd.C (Kd.int .i64) w ae ab.length ab) (ce:ab.length<=ac) (cb:Kd.C (Kd.slice 3 (Kd.int .i64)) w ag aa.length aa) (cg:aa.length<=af) (g8:Kd.C k25 w av ai.length ai) (g9:ai.length<=au) (h:Fh.f k ab aa ai=some (r1,r2,r3)) :
  Calls Try.prog 104 #[.agg #[.slice ae ab.length ac, .slice ag aa.length af, .slice av ai.length au]] w fun e w'=>∃v0_ v1_ v2_:Value,e = .returned (.agg #[v0_,v1_,v2_])/\DkS w.heap.size w.heap.size w'.heap.size v0_ v1_ v2_ r1 r2 r3 w'/\Below w.heap.size w w':=by
 have hu28:=Try.underlying28
 have hu25:=Try.underlying25
 have bg:=A_ ca
 have bs:=A_ ce
 clear ca ce
 have bd:=A_ cb
 have bv:=A_ cg
 clear cb cg
 have gc:=A_ g8
 have gx:=A_ g9
 clear g8 g9
 have HB:=A_ (Below.refl w.heap.size w)
 have H:=h
 unfold Fh.f at H
 clear h
 replace H:=Option.bind_eq_some_iff.mp H
 obtain⟨⟨o5,n9⟩,vm,H⟩:=H
 try dsimp only at H
 have A2:=A_ vm
 clear vm
 have H':=A_ H
 clear H
 go_enter Try.func104,Try.ntmps104
 go_wp2_with (first|((with_reducible refine gd_ 1 ?_);refine bx_ (N:=1) #[.slice ae ab.length ac, .slice ag aa.length af, .slice av ai.length au] 28 ?_;intro xq hg w3 hbox hb;have nh:=A_ (hbox);have oc6:=A_ ((g46_:w.heap.size<=xq));have lj9:=oc6;replace HB:=A_ (Jr (Fh.calls_s_q0) hb);clear hb hbox hg)|((with_reducible refine gd_ 2 ?_);refine bx_ (N:=2) #[.slice none 0 0, .slice none 0 0, .slice none 0 0] 28 ?_;intro qf hg w4 hbox hb;have oa:=A_ (hbox);have oc7:=A_ ((g46_:w.heap.size<=qf));have lk0:=oc7;replace HB:=A_ (Jr (Fh.calls_s_q0) hb);have iz3:=nl_ nh hg;have iz4:=nr_ nh hg;replace nh:=bb_ nh hb;clear hb hbox hg;have eu2:=iz3.out;have eu3:=iz4.out;obtain⟨uf,ug,bl5,uh,ui,bl6⟩:=blk3_ nh)|((with_reducible refine gc_ 111 ?_);refine gl_ 8 Try.func111 #[.agg #[.slice ae ab.length ac, .slice ag aa.length af]] ?_;(refine(Fn.calls k _ _ ab _ _ aa o5 n9 _ (uC_ bg) bs.out (uC_ bd) bv.out A2.out).mono ?_);rintro e w7 ⟨oc8,oc9,rfl,ah,ak,hb⟩;refine⟨_,rfl,?_⟩;have ff7:=A_ (Kd.R_lower ah (G9 (Fh.calls_s_q0)));have ff8:=A_ (Kd.S_lower ak (G9 (Fh.calls_s_q0)));replace nh:=bb_ nh hb;replace oa:=bb_ oa hb;replace HB:=A_ (Jr (Fh.calls_s_q0) hb);obtain⟨jx,jy,eo8⟩:=Kd.S_slice ff8.out;subst eo8;obtain⟨g3,gu,eo9⟩:=Kd.R_slice ff7.out;subst eo9)|((with_reducible refine gd_ 3 ?_);refine bx_ (N:=3) #[.slice none 0 0, .slice none 0 0, .slice none 0 0] 28 ?_;intro kr hg w10 hbox hb;replace ff7:=A_ (Kd.R_mono (ok':=fun k_=>k_ < kr) (Kd.R_old (uR_ ff7) hb) (fun k_ hk=>hg ▸ hk.2));replace ff8:=A_ (Kd.S_mono (ok':=fun k_=>k_ < kr/\some k_≠(.slice g3 o5.length gu:Value).ownBlock) (Kd.S_old (uS_ ff8) hb) (fun k_ hk=>⟨hg ▸ hk.2,hk.1⟩));have kf:=A_ (hbox);have lk3:=A_ ((g46_:w.heap.size<=kr));have lk1:=lk3;replace HB:=A_ (Jr (Fh.calls_s_q0) hb);have cs7:=nl_ nh hg;have gr8:=nr_ nh hg;replace nh:=bb_ nh hb;have cs8:=nl_ oa hg;have gr9:=nr_ oa hg;replace oa:=bb_ oa hb;clear hb hbox hg;have bf6:=gr8.out;have bf7:=cs7.out;have cj9:=gr9.out;have ck0:=cs8.out;obtain⟨sm,sn,bw5,so,sp,bw6⟩:=blk3_ kf;obtain⟨ub,uc,cz2,ud,ue,cz3⟩:=blk3_ nh))
 go_loopg [13] k (fun kq v13 w'=>∃(bz:Int) (bi3:List (S25)) (ab4:Value),v13 = .int .i64 bz/\G7 (Fh.l0 kq ai (ai.length:Int) bz o5 n9 bi3=some (r1,r2,r3))/\G7 (kq<=k)/\G7 (Kd.R (Kd.int .i64) 3 w' w.heap.size (fun k_=>k_ < kr) (.slice g3 o5.length gu) o5)/\G7 (Kd.S (Kd.slice 3 (Kd.int .i64)) 22 w' w.heap.size (fun k_=>k_ < kr/\some k_≠((.slice g3 o5.length gu):Value).ownBlock) (.slice jx n9.length jy) n9)/\G7 (Kd.S k25s 25 w' w.heap.size (fun k_=>kr < k_/\some k_≠((.slice jx n9.length jy):Value).ownBlock) ab4 bi3)/\G7 (hc_ w' xq #[(.slice ae ab.length ac),(.slice ag aa.length af),(.slice av ai.length au)] 28)/\G7 (hc_ w' qf #[(.slice none 0 0),(.slice none 0 0),(.slice none 0 0)] 28)/\G7 (hc_ w' kr #[(.slice g3 o5.length gu),(.slice jx n9.length jy),ab4] 28)/\G7 (Below w.heap.size w w'))
 case atStart=>exact⟨(0),(([]:List (S25))),(.slice none 0 0),(g3_),H',⟨Nat.le_refl _⟩,⟨ra_ ff7⟩,⟨sa_ ff8⟩,⟨g25_⟩,⟨ba_ nh⟩,⟨ba_ oa⟩,⟨ba_ kf⟩,⟨Fh.calls_s_q0⟩⟩
 clear H'
 obtain⟨bz,bi3,ab4,rfl,HA,HK1,zd,xr,r7,nh,oa,kf,HB⟩:=hrel
 cases gk with
 | zero=>exact absurd HA.out (by simp[Fh.l0])
 | succ k1=>?_
 have H:=HA.out
 clear HA
 simp only[Fh.l0] at H
 by_cases er:bz < (ai.length:Int)
 case neg=>
  rw[if_neg er] at H
  have pc:=decide_eq_false er
  clear er
  simp only[Option.some.injEq,Prod.mk.injEq] at H
  obtain⟨rfl,rfl,rfl⟩:=H
  have bz8:=gr8.out
  have bz9:=cs7.out
  have ef0:=gr9.out
  have ef1:=cs8.out
  obtain⟨bm8,bm9,cd1,bn0,bn1,cd2⟩:=blk3_ kf
  have ik8:=iz4.out
  have ik9:=iz3.out
  obtain⟨cn8,cn9,fg1,co0,co1,fg2⟩:=blk3_ oa
  obtain⟨kw,jn,ap8⟩:=Kd.S_slice r7.out
  subst ap8
  go_wp2
  refine bodyPost_ret (results_cell_row rfl _ _ qf 28 #[.slice g3 o5.length gu, .slice jx n9.length jy, .slice kw bi3.length jn] (0,0) _ rfl (ba_ oa) Try.underlying28 rfl (g1_)) rfl ?_
  exact⟨_,_,_,g4_,DkS.mk_ (mid:=kr) (ra_ zd) (sa_ xr) (sa_ r7) lk3.out (G9 (Fh.calls_s_q0)),Fh.calls_s_q0⟩
 rw[if_pos er] at H
 have pc:=decide_eq_true er
 clear er
 obtain⟨af8,H⟩:=pd_ H
 obtain⟨ak3,H⟩:=pd_ H
 replace H:=Option.bind_eq_some_iff.mp H
 obtain⟨⟨eh5,eh6⟩,eh7,H⟩:=H
 try dsimp only at H
 have A18:=A_ eh7
 clear eh7
 obtain⟨fc,H⟩:=pos_ H
 have gr4:=A_ fc
 clear fc
 obtain⟨dg9,hyq⟩:∃y_:List (S25),y_=(bi3 ++ [(⟨eh5,eh6⟩:S25)]):=⟨_,rfl⟩
 replace H:(Fh.l0 k1 ai (ai.length:Int) (wrap64 (bz + 1)) o5 n9 dg9)=some (r1,r2,r3):=qh_
 have lk4:=A_ hyq
 clear hyq
 have H':=A_ H
 clear H
 obtain⟨⟨ff9,un,uo,vy,vz,lk5,iz5,iz6,iz7,iz8,iz9,ja0⟩,gs0,gs1⟩:=rdp_ (at_T25 gc.out bz)
 cases lk5
 replace iz5:=cl_ HB iz5
 replace iz6:=cl_ HB iz6
 have lk6:=A_ iz8
 have lk7:=A_ iz7
 clear iz8 iz7
 have lk8:=A_ ja0
 have lk9:=A_ iz9
 clear ja0 iz9
 try go_wp2_with (first|((with_reducible refine gd_ 5 ?_);refine bx_ (N:=5) #[.slice none 0 0, .slice none 0 0] 25 ?_;intro jk hg w20 hbox hb;replace zd:=rb_ zd hb;replace xr:=sb_ xr hb;replace r7:=A_ (Kd.S_below (Kd.S_elderB (uS_ r7) jk (Nat.le_of_eq hg.symm)) hb);have q8:=A_ (hbox);have od0:=A_ ((g46_:w.heap.size<=jk));have lk2:=od0;replace HB:=A_ (Jr (Fh.calls_s_q0) hb);have gs2:=nl_ nh hg;have ll0:=nr_ nh hg;replace nh:=bb_ nh hb;have gs3:=nl_ oa hg;have ll1:=nr_ oa hg;replace oa:=bb_ oa hb;have fg0:=nl_ kf hg;have ja1:=nr_ kf hg;replace kf:=bb_ kf hb;clear hb hbox hg;have ih8:=ll0.out;have ih9:=gs2.out;have od1:=ll1.out;have od2:=gs3.out;have ij7:=ja1.out;have ij8:=fg0.out;obtain⟨ij9,ik0,ik1,ik2⟩:=blk2_ q8))
 generalize hw_:((w20.setCell ⟨jk,0,none⟩ (.slice un ((Jn ai bz).f0).length uo)).setCell ⟨jk,1,none⟩ (.slice vy ((Jn ai bz).f1).length vz))=w25
 have n0_:G7 (Kd.R (Kd.int .i64) 3 w25 w.heap.size (fun k_=>k_ < kr) (.slice g3 o5.length gu) o5):=A_ (by rw[<- hw_];exact ra_ zd)
 have n1_:G7 (Kd.S (Kd.slice 3 (Kd.int .i64)) 22 w25 w.heap.size (fun k_=>k_ < kr/\some k_≠(.slice g3 o5.length gu:Value).ownBlock) (.slice jx n9.length jy) n9):=A_ (by rw[<- hw_];exact sa_ xr)
 have n2_:G7 (Kd.S k25s 25 w25 w.heap.size (fun k_=>kr < k_/\some k_≠(.slice jx n9.length jy:Value).ownBlock/\k_≠jk) ab4 bi3):=A_ (by rw[<- hw_];exact sa_ r7)
 have n3_:G7 (hc_ w25 xq #[.slice ae ab.length ac, .slice ag aa.length af, .slice (some ff9) ai.length au] 28):=A_ (by rw[<- hw_];exact ba_ nh)
 have n4_:G7 (hc_ w25 qf #[.slice none 0 0, .slice none 0 0, .slice none 0 0] 28):=A_ (by rw[<- hw_];exact ba_ oa)
 have n5_:G7 (hc_ w25 kr #[.slice g3 o5.length gu, .slice jx n9.length jy,ab4] 28):=A_ (by rw[<- hw_];exact ba_ kf)
 have n6_:G7 (hc_ w25 jk #[.slice un ((Jn ai bz).f0).length uo, .slice vy ((Jn ai bz).f1).length vz] 25):=A_ (by rw[<- hw_];exact ba_ q8)
 have n7_:G7 (Below w.heap.size w w25):=A_ (by rw[<- hw_];exact Fh.calls_s_q0)
 clear hw_
 have zd:=n0_
 have xr:=n1_
 have r7:=n2_
 have nh:=n3_
 have oa:=n4_
 have kf:=n5_
 have q8:=n6_
 have HB:=n7_
 clear n0_ n1_ n2_ n3_ n4_ n5_ n6_ n7_
 replace zd:=rd_ zd
 replace xr:=sd_ xr
 replace r7:=sd_ r7
 replace nh:=bd_ nh
 replace oa:=bd_ oa
 replace kf:=bd_ kf
 replace q8:=bd_ q8
 replace HB:=A_ (Jd HB.out)
 refine start_ (n:=8) (S:=fun w'=>w'.cell? ⟨kr,0,none⟩=some (.slice g3 o5.length gu)/\w'.cell? ⟨kr,1,none⟩=some (.slice jx n9.length jy)/\w'.cell? ⟨kr,2,none⟩=some (ab4)/\w'.cell? ⟨jk,0,none⟩=some (.slice un ((Jn ai bz).f0).length uo)/\w'.cell? ⟨jk,1,none⟩=some (.slice vy ((Jn ai bz).f1).length vz)) (ds:=[7]) (tl_ 8 0) (g1_) rfl (g1_) ⟨(G8 kf.out 0).trans rfl,(G8 kf.out 1).trans rfl,(G8 kf.out 2).trans rfl,(G8 q8.out 0).trans rfl,(G8 q8.out 1).trans rfl⟩ (fun hHeld=>?_);refine Js Fh.tab5 Fh.bits5 (fun HT_ HW_=>?_)
 generalize w25.drew=w26 at zd xr r7 nh oa kf q8 HB hHeld |-
 refine pw_ 0 17 (tl_ 8 1) ?_
 refine tk4_ 1 18 (tl_ 8 3) hHeld ?_
 refine tk4_ 2 19 (tl_ 8 7) hHeld ?_
 refine one_ (i:=3) (N:=some 20) (tl_ 8 15) rfl rfl (Ju HT_.out (g1_)) (by decide) (fun K hK=>?_)
 refine goes_ Try.func111 (g1_) rfl #[.agg #[.slice un ((Jn ai bz).f0).length uo, .slice vy ((Jn ai bz).f1).length vz]] (by rfl) rfl rfl (gM_) ?_
 refine(Fn.calls k1 _ _ ((Jn ai bz).f0) _ _ ((Jn ai bz).f1) eh5 eh6 _ (uC_ lk6) lk7.out (uC_ lk8) lk9.out A18.out).mono ?_
 rintro e w27 ⟨ja2,ll2,rfl,ah,ak,hb⟩
 refine⟨_,rfl,?_⟩
 have hfr_:∀k_,w26.heap.size<=k_->(fun k_=>kr < k_/\some k_≠(.slice jx n9.length jy:Value).ownBlock/\k_≠jk) k_:=(fun k_ hk=>⟨Nat.lt_of_lt_of_le (blk_lt (uB_ kf)) hk,Kd.fresh' (Kd.S_lt (uS_ xr)) k_ hk,Kd.freshB (g:=jk) (o:=.cells #[.slice un ((Jn ai bz).f0).length uo, .slice vy ((Jn ai bz).f1).length vz] 25 (0,0)) (uB_ q8) k_ hk⟩)
 have HP1:G7 (Kd.R (Kd.int .i64) 3 w27 w.heap.size (fun k_=>w26.heap.size<=k_/\(fun k_=>kr < k_/\some k_≠(.slice jx n9.length jy:Value).ownBlock/\k_≠jk) k_/\some k_≠(ab4:Value).ownBlock) ja2 _):=A_ (Kd.R_lower (Kd.R_mono (Kd.R_bound ah) (fun _ hk=>⟨hk.2.1,hfr_ _ hk.2.1,Kd.fresh' (Kd.S_lt r7.out) _ hk.2.1⟩)) (G9 (Fh.calls_s_q0)))
 have HP2:G7 (Kd.S (Kd.slice 3 (Kd.int .i64)) 22 w27 w.heap.size (fun k_=>(fun k_=>w26.heap.size<=k_/\(fun k_=>kr < k_/\some k_≠(.slice jx n9.length jy:Value).ownBlock/\k_≠jk) k_/\some k_≠(ab4:Value).ownBlock) k_/\some k_≠(ja2:Value).ownBlock) ll2 _):=A_ (Kd.S_lower (Kd.S_mono (Kd.S_bound ak) (fun _ hk=>⟨⟨hk.2.1,hfr_ _ hk.2.1,Kd.fresh' (Kd.S_lt r7.out) _ hk.2.1⟩,hk.1⟩)) (G9 (Fh.calls_s_q0)))
 have HP3:=A_ (Kd.S_old (uS_ r7) hb)
 clear hfr_
 replace r7:=A_ (Kd.S_mono (Kd.S_told (Kd.S_told (Kd.S_old (uS_ r7) hb) (Kd.R_base ah)) (Kd.S_base ak)) (fun _ h_=>h_.1))
 have ja3:=A_ (Kd.R_lower (Kd.R_new' ah (Kd.R_lt (uR_ zd))) (G9 (Fh.calls_s_q0)))
 have ja4:=A_ (Kd.S_lower (Kd.S_new' (Kd.S_new' ak (Kd.R_lt (uR_ zd))) (Kd.S_lt (uS_ xr))) (G9 (Fh.calls_s_q0)))
 replace zd:=A_ (Kd.R_elder' (uR_ zd) (Kd.R_base ah) hb)
 replace xr:=A_ (Kd.S_mono (Kd.S_told (Kd.S_told (Kd.S_old (uS_ xr) hb) (Kd.R_base ah)) (Kd.S_base ak)) (fun _ h_=>h_.1))
 replace nh:=bb_ nh hb
 replace oa:=bb_ oa hb
 replace kf:=bb_ kf hb
 replace q8:=bb_ q8 hb
 replace HB:=A_ (Jr (Fh.calls_s_q0) hb)
 obtain⟨dc9,ca8,ay9⟩:=Kd.R_slice ja3.out
 (first|subst ay9|(injection ay9 with f1_ f2_ f3_;have f4_:=f1_.symm;have f5_:=f3_.symm;clear f1_ f2_ f3_;subst f4_;subst f5_))
 obtain⟨ll3,ll4,ja5⟩:=Kd.S_slice ja4.out
 (first|subst ja5|(injection ja5 with f1_ f2_ f3_;have f4_:=f1_.symm;have f5_:=f3_.symm;clear f1_ f2_ f3_;subst f4_;subst f5_))
 refine hK.out _ _ ⟨(G8 kf.out 0).trans rfl,(G8 kf.out 1).trans rfl,(G8 kf.out 2).trans rfl,(G8 q8.out 0).trans rfl,(G8 q8.out 1).trans rfl⟩ (fun hHeld=>?_)
 clear hK K
 refine nm_ ?_
 refine one_ (i:=4) (N:=some 21) (tl_ 8 31) rfl rfl (Ju HT_.out (g1_)) (by decide) (fun K hK=>?_)
 refine value_ (w1:=?_) (v:=?_) (by rfl) rfl ?_ ?_
 rotate_left 2
 ·go_simp
  constructor
  ·rfl
  rfl
 refine hK.out _ _ ⟨(G8 (Jg kf.out _) 0).trans rfl,(G8 (Jg kf.out _) 1).trans rfl,(G8 (Jg kf.out _) 2).trans rfl,(G8 (Jg q8.out _) 0).trans rfl,(G8 (Jg q8.out _) 1).trans rfl⟩ (fun hHeld=>?_)
 clear hK K
 refine nm_ ?_
 refine one_ (i:=5) (N:=some 22) (tl_ 8 63) rfl rfl (Ju HT_.out (g1_)) (by decide) (fun K hK=>?_)
 refine Kd.S_append_step k25s (w0:=w) w.heap.size (by rfl) (.tmp 18) (.tmp 21) 26 25 (.agg #[(.slice none 0 0),(.slice none 0 0)]) 48 rfl Try.underlying26 info25 rfl (by decide) (by omega) ab4 bi3 (⟨eh5,eh6⟩:S25) [.slice dc9 eh5.length ca8, .slice ll3 eh6.length ll4] (fun k_=>kr < k_/\some k_≠(.slice jx n9.length jy:Value).ownBlock/\k_≠jk) (fun k_=>w26.heap.size<=k_/\(fun k_=>kr < k_/\some k_≠(.slice jx n9.length jy:Value).ownBlock/\k_≠jk) k_/\some k_≠(ab4:Value).ownBlock) rfl rfl ?aP (fun _ hk=>hk.2) ?aF ?aO ?aB ?aS ?aL ?_
 (case aP=>exact k25s_mkM _ _ _ (⟨eh5,eh6⟩:S25) HP1.out HP2.out)
 (case aB=>exact(Fh.calls_s_q0))
 (case aF=>exact(fun k_ hk=>⟨Nat.lt_of_lt_of_le (blk_lt (uB_ kf)) hk,Kd.fresh' (Kd.S_lt (uS_ xr)) k_ hk,Kd.freshB (g:=jk) (o:=.cells #[.slice un ((Jn ai bz).f0).length uo, .slice vy ((Jn ai bz).f1).length vz] 25 (0,0)) (uB_ q8) k_ hk⟩))
 (case aO=>exact Kd.S_mono HP3.out (fun _ hk=>⟨hk.1,fun h_=>Nat.not_le.2 hk.2 h_.1⟩))
 (case aS=>exact(G9 (Fh.calls_s_q0)))
 (case aL=>have:=gr4.out;omega)
 intro od3 w28 ho hb hg hat
 rw[<- lk4.out] at ho
 replace zd:=A_ (Kd.R_over' (uR_ zd) (Kd.S_typed (uS_ r7)) (by decide) hg)
 replace xr:=A_ (Kd.S_over' (uS_ xr) (Kd.S_typed (uS_ r7)) (by decide) hg)
 replace nh:=(bg_ nh hg (Kd.S_ne r7.out nh.out (by decide)))
 replace oa:=(bg_ oa hg (Kd.S_ne r7.out oa.out (by decide)))
 replace kf:=(bg_ kf hg (Kd.S_ne r7.out kf.out (by decide)))
 replace q8:=(bg_ q8 hg (Kd.S_away r7.out (fun _ hk=>hk.1.1.2.2)))
 replace HB:=A_ (hb)
 have ja6:=A_ (ho)
 clear r7 ja3 ja4
 clear ho hb hg hat
 obtain⟨bh,bf,cs9⟩:=Kd.S_slice ja6.out
 (first|subst cs9|(injection cs9 with f1_ f2_ f3_;have f4_:=f1_.symm;have f5_:=f3_.symm;clear f1_ f2_ f3_;subst f4_;subst f5_))
 refine hK.out _ _ ⟨(G8 kf.out 0).trans rfl,(G8 kf.out 1).trans rfl,(G8 kf.out 2).trans rfl,(G8 q8.out 0).trans rfl,(G8 q8.out 1).trans rfl⟩ (fun hHeld=>?_)
 clear hK K
 refine nm_ ?_
 refine pw_ 6 23 (tl_ 8 127) ?_
 refine last_ (i:=7) (N:=none) (tl_ 8 255) rfl rfl (Ju HT_.out (g1_)) (by decide) (fun K hK=>?_)
 have ll5:w28.cell? ⟨kr,2,none⟩=some (ab4):=(G8 kf.out 2).trans rfl
 have ll6:=Jj kf.out 2
 have ll7:=cs7.out
 have ll8:=cs8.out
 have od4:=ja1.out
 have ll9:=gr8.out
 have lm0:=gr9.out
 have od5:=fg0.out
 refine skip_ (w1:=?_) (by rfl) rfl ?_ ?_
 rotate_left
 ·go_simp
  rfl
 refine hK.out _ _ ?_
 clear hK K
 refine done_ (done_of HT_.out (g1_)) ?_
 try go_wp2
 go_roundg k1
 case measure=>have:=HK1.out;omega
 case rel=>exact⟨(wrap64 (bz + 1)),(dg9),(.slice bh dg9.length bf),(g3_),H',⟨g8_⟩,⟨ra_ zd⟩,⟨sa_ xr⟩,⟨sa_ ja6⟩,⟨ba_ nh⟩,⟨ba_ oa⟩,⟨ba_ kf⟩,⟨Fh.calls_s_q0⟩⟩
def Gp.f (k:Nat) (ab:List Int) (aa:List (List Int)) (a1:Int):Option (Bool):=(Fi.f k ab aa).bind fun eh8=>(if eh8=true then(if a1 ≥ 0 then(some (decide (a1 < (ab.length:Int)))) else(some false)) else(some false))
theorem bk3 {p:Prop} (h:p:=by repeat(first|(with_reducible first|exact HB.out|apply Jf|apply Je|apply Jd|refine Jc ?_ gs4.out)|exact HB.out)):p:=h
set_option maxHeartbeats 8000000 in
set_option maxRecDepth 100000 in
theorem Gp.calls (k:Nat) (ae:Option Addr) (ac:Nat) (ab:List Int) (ag:Option Addr) (af:Nat) (aa:List (List Int)) (a1:Int) (r:Bool) (w:World) (ca:Kd.C (Kd.int .i64) w ae ab.length ab) (ce:ab.length<=ac) (cb:Kd.C (Kd.slice 3 (Kd.int .i64)) w ag aa.length aa) (cg:aa.length<=af) (h:Gp.f k ab aa a1=some r) :
  Calls Try.prog 83 #[.agg #[.slice ae ab.length ac, .slice ag aa.length af], .int .i64 a1] w fun e w'=>e = .returned (.bool r)/\Below w.heap.size w w':=by
 have hu25:=Try.underlying25
 have bg:=A_ ca
 have bs:=A_ ce
 clear ca ce
 have bd:=A_ cb
 have bv:=A_ cg
 clear cb cg
 have HB:=A_ (Below.refl w.heap.size w)
 have H:=h
 unfold Gp.f at H
 clear h
 obtain⟨eh8,A3,H⟩:=bind_ H
 by_cases c4:eh8=true
 case neg=>
  replace c4:=Bool.eq_false_iff.mpr c4
  subst c4
  replace H:=ifn_ H
  obtain rfl:=Option.some.inj H
  go_enter Try.func83,Try.ntmps83
  go_wp2_with (first|((with_reducible refine gd_ 2 ?_);(try(refine gate_guard (by rfl) ?_;dsimp only));refine bx_ (N:=2) #[.slice ae ab.length ac, .slice ag aa.length af] 25 ?_;intro cd9 hg ps hbox hb;have as2:=A_ (hbox);have ja7:=A_ ((g78_:w.heap.size<=cd9));have gs4:=ja7;replace HB:=hs_ (bk3) hb;clear hb hbox hg;obtain⟨ub,uc,ud,ue⟩:=blk2_ as2)|((with_reducible refine gc_ 73 ?_);refine gl_ 6 Try.func73 #[.agg #[.slice ae ab.length ac, .slice ag aa.length af]] ?_;(refine(Fi.calls k _ _ ab _ _ aa false _ (uC_ bg) bs.out (uC_ bd) bv.out A3.out).mono ?_);rintro e w15 ⟨rfl,hb⟩;refine⟨_,rfl,?_⟩;replace as2:=bb_ as2 hb;replace HB:=hs_ (bk3) hb))
  go_ret
  exact⟨g4_,bk3⟩
 subst c4
 replace H:=ifp_ H
 by_cases c5:a1 ≥ 0
 ·rw[if_pos c5] at H
  have ki:=decide_eq_true c5
  clear c5
  obtain rfl:=Option.some.inj H
  go_enter Try.func83,Try.ntmps83
  go_wp2_with (first|((with_reducible refine gd_ 2 ?_);(try(refine gate_guard (by rfl) ?_;dsimp only));refine bx_ (N:=2) #[.slice ae ab.length ac, .slice ag aa.length af] 25 ?_;intro cd9 hg w6 hbox hb;have as2:=A_ (hbox);have ja7:=A_ ((g78_:w.heap.size<=cd9));have gs4:=ja7;replace HB:=hs_ (bk3) hb;clear hb hbox hg;obtain⟨z8,z9,aa0,aa1⟩:=blk2_ as2)|((with_reducible refine gc_ 73 ?_);refine gl_ 6 Try.func73 #[.agg #[.slice ae ab.length ac, .slice ag aa.length af]] ?_;(refine(Fi.calls k _ _ ab _ _ aa true _ (uC_ bg) bs.out (uC_ bd) bv.out A3.out).mono ?_);rintro e w8 ⟨rfl,hb⟩;refine⟨_,rfl,?_⟩;replace as2:=bb_ as2 hb;replace HB:=hs_ (bk3) hb;obtain⟨af4,af5,af6,af7⟩:=blk2_ as2))
  go_ret
  exact⟨g4_,bk3⟩
 rw[if_neg c5] at H
 have ki:=decide_eq_false c5
 clear c5
 obtain rfl:=Option.some.inj H
 go_enter Try.func83,Try.ntmps83
 go_wp2_with (first|((with_reducible refine gd_ 2 ?_);(try(refine gate_guard (by rfl) ?_;dsimp only));refine bx_ (N:=2) #[.slice ae ab.length ac, .slice ag aa.length af] 25 ?_;intro cd9 hg w10 hbox hb;have as2:=A_ (hbox);have ja7:=A_ ((g78_:w.heap.size<=cd9));have gs4:=ja7;replace HB:=hs_ (bk3) hb;clear hb hbox hg;obtain⟨si,sj,sk,sl⟩:=blk2_ as2)|((with_reducible refine gc_ 73 ?_);refine gl_ 6 Try.func73 #[.agg #[.slice ae ab.length ac, .slice ag aa.length af]] ?_;(refine(Fi.calls k _ _ ab _ _ aa true _ (uC_ bg) bs.out (uC_ bd) bv.out A3.out).mono ?_);rintro e t5 ⟨rfl,hb⟩;refine⟨_,rfl,?_⟩;replace as2:=bb_ as2 hb;replace HB:=hs_ (bk3) hb))
 go_ret
 exact⟨g4_,bk3⟩
def G5.f (k:Nat) (ab:List Int) (aa:List (List Int)) (a1:Int) (a2:Int):Option (List Int × (List (List Int))):=(Fn.f k ab aa).bind fun bt440=>(if 0<=a1 then(if a1 < (bt440.1.length:Int) then(some ((bt440.1.set (a1:Int).toNat a2),bt440.2)) else(none)) else(none))
theorem bw1 {p:Prop} (h:p:=by repeat(first|(with_reducible first|exact HB.out|apply Jf|apply Je|apply Jd|refine Jc ?_ lm1.out|refine Jc ?_ lm2.out|refine Jc ?_ lm3.out)|exact HB.out)):p:=h
set_option maxHeartbeats 8000000 in
set_option maxRecDepth 100000 in
theorem G5.calls (k:Nat) (ae:Option Addr) (ac:Nat) (ab:List Int) (ag:Option Addr) (af:Nat) (aa:List (List Int)) (a1:Int) (a2:Int) (r1:List Int) (r2:List (List Int)) (w:World) (ca:Kd.C (Kd.int .i64) w ae ab.length ab) (ce:ab.length<=ac) (cb:Kd.C (Kd.slice 3 (Kd.int .i64)) w ag aa.length aa) (cg:aa.length<=af) (h:G5.f k ab aa a1 a2=some (r1,r2)) :
  Calls Try.prog 84 #[.agg #[.slice ae ab.length ac, .slice ag aa.length af], .int .i64 a1, .int .i64 a2] w fun e w'=>∃v0_ v1_:Value,e = .returned (.agg #[v0_,v1_])/\Kd.R (Kd.int .i64) 3 w' w.heap.size (fun _=>True) v0_ r1/\Kd.S (Kd.slice 3 (Kd.int .i64)) 22 w' w.heap.size (fun k_=>some k_≠(v0_:Value).ownBlock) v1_ r2/\Below w.heap.size w w':=by
 have hu25:=Try.underlying25
 have bg:=A_ ca
 have bs:=A_ ce
 clear ca ce
 have bd:=A_ cb
 have bv:=A_ cg
 clear cb cg
 have HB:=A_ (Below.refl w.heap.size w)
 have H:=h
 unfold G5.f at H
 clear h
 replace H:=Option.bind_eq_some_iff.mp H
 obtain⟨⟨uq,as3⟩,A40,H⟩:=H
 try dsimp only at H
 have A4:=A_ A40
 clear A40
 obtain⟨ki,H⟩:=pd_ H
 obtain⟨kb,H⟩:=pd_ H
 obtain⟨ja8,hyq⟩:∃y_:List Int,y_=(uq.set (a1:Int).toNat a2):=⟨_,rfl⟩
 replace H:(some (ja8,as3))=some (r1,r2):=qh_
 have lm4:=A_ hyq
 clear hyq
 simp only[Option.some.injEq,Prod.mk.injEq] at H
 obtain⟨rfl,rfl⟩:=H
 go_enter Try.func84,Try.ntmps84
 go_wp2_with (first|((with_reducible refine gd_ 3 ?_);refine bx_ (N:=3) #[.slice ae ab.length ac, .slice ag aa.length af] 25 ?_;intro as4 hg w8 hbox hb;have ze:=A_ (hbox);have od6:=A_ ((g79_:w.heap.size<=as4));have lm1:=od6;replace HB:=hs_ (bw1) hb;clear hb hbox hg)|((with_reducible refine gd_ 6 ?_);refine bx_ (N:=6) #[.slice none 0 0, .slice none 0 0] 25 ?_;intro ab5 hg w9 hbox hb;have ab6:=A_ (hbox);have od7:=A_ ((g79_:w.heap.size<=ab5));have lm2:=od7;replace HB:=hs_ (bw1) hb;have lm5:=nl_ ze hg;have lm6:=nr_ ze hg;replace ze:=bb_ ze hb;clear hb hbox hg;have cr9:=lm5.out;have cs0:=lm6.out;obtain⟨si,sj,sk,sl⟩:=blk2_ ze)|((with_reducible refine gc_ 111 ?_);refine gl_ 9 Try.func111 #[.agg #[.slice ae ab.length ac, .slice ag aa.length af]] ?_;(refine(Fn.calls k _ _ ab _ _ aa uq as3 _ (uC_ bg) bs.out (uC_ bd) bv.out A4.out).mono ?_);rintro e t5 ⟨od8,od9,rfl,ah,ak,hb⟩;refine⟨_,rfl,?_⟩;have ah7:=A_ (Kd.R_lower ah (G9 (bw1)));have ce0:=A_ (Kd.S_lower ak (G9 (bw1)));replace ze:=bb_ ze hb;replace ab6:=bb_ ab6 hb;replace HB:=hs_ (bw1) hb)|((with_reducible refine gd_ 7 ?_);refine bx_ (N:=7) #[.slice none 0 0, .slice none 0 0] 25 ?_;intro ah8 hg ps hbox hb;replace ah7:=rb_ ah7 hb;replace ce0:=sb_ ce0 hb;have bi4:=A_ (hbox);have oe0:=A_ ((g79_:w.heap.size<=ah8));have lm3:=oe0;replace HB:=hs_ (bw1) hb;have gs5:=nl_ ze hg;have lm7:=nr_ ze hg;replace ze:=bb_ ze hb;have gs6:=nl_ ab6 hg;have lm8:=nr_ ab6 hg;replace ab6:=bb_ ab6 hb;clear hb hbox hg;obtain⟨nt,k0,bm1⟩:=Kd.R_slice ah7.out;subst bm1;have dc5:=lm7.out;have dc6:=gs5.out;have fb7:=lm8.out;have fb8:=gs6.out;obtain⟨dt1,dt2,dt3,dt4⟩:=blk2_ bi4;obtain⟨nc,kz,gl6⟩:=Kd.S_slice ce0.out;subst gl6)|((with_reducible refine gate_store (t:=25) (p:=7) rfl ?_);refine store_event (t:=25) (p:=7) (v:=?vo_w19) (w1:=((ps.setCell ⟨ah8,0,none⟩ (.slice nt uq.length k0)).setCell ⟨ah8,1,none⟩ (.slice nc as3.length kz))) ?hg ?ho ?hn ?hr ?_;(case ho=>rfl);(case hg=>rfl);(case hn=>rfl);(case hr=>first|(go_simp;done)|(go_simp;rfl));intro w19 hw;replace ah7:G7 (Kd.R (Kd.int .i64) 3 w19 w.heap.size (fun _=>True) (.slice nt uq.length k0) uq):=⟨(by rw[hw];exact(ra_ ah7))⟩;replace ce0:G7 (Kd.S (Kd.slice 3 (Kd.int .i64)) 22 w19 w.heap.size (fun k_=>some k_≠(.slice nt uq.length k0:Value).ownBlock) (.slice nc as3.length kz) as3):=⟨(by rw[hw];exact(sa_ ce0))⟩;replace ze:G7 (hc_ w19 as4 #[.slice ae ab.length ac, .slice ag aa.length af] 25):=⟨(by rw[hw];exact(ba_ ze))⟩;replace ab6:G7 (hc_ w19 ab5 #[.slice none 0 0, .slice none 0 0] 25):=⟨(by rw[hw];exact(ba_ ab6))⟩;replace bi4:G7 (hc_ w19 ah8 #[.slice nt uq.length k0, .slice nc as3.length kz] 25):=⟨(by rw[hw];exact(ba_ bi4))⟩;replace HB:G7 (Below w.heap.size w w19):=⟨(by rw[hw];exact(bw1))⟩;clear hw;obtain⟨bk5,bk6,bk7,bk8⟩:=blk2_ bi4;have p7:0<=(a1:Int):=od_;have q7:(a1:Int) < ((uq.length:Int):Int):=od_;obtain⟨go7,co7,eo7,gb7,gl7,cl7,HG7⟩:=Kd.R_form ah7.out (by omega);(first|cases eo7|(injection eo7 with ea_ en_ ec_;(first|subst ea_|(injection ea_ with ea_;subst ea_));subst ec_;clear en_));have GB7:=A_ gb7;have GG7:=A_ HG7;clear gb7 gl7 HG7;obtain⟨oe1,hf7_0⟩:=Kd.R_celln 0 ah7.out (a1:Int) p7 q7;replace p7:=eq_true p7;replace q7:=eq_true q7;obtain⟨hy21_,hz21_⟩:=Kd.R_celln 0 ah7.out (a1:Int) (od_) (od_);have HP21:=Kd.R_putg ah7.out (a1:Int) a2)|((with_reducible refine gate_store (t:=3) (p:=14) rfl ?_);refine store_event (t:=3) (p:=14) (v:=?vo_w22) (w1:=(w19.setCell ⟨go7,(a1:Int).toNat,none⟩ (.int .i64 a2))) ?hg ?ho ?hn ?hr ?_;(case ho=>rfl);(case hg=>rfl);(case hn=>rfl);(case hr=>first|(go_simp;done)|(go_simp;rfl));intro uj hw;have hg:w19.grownBy uj (some go7):=(by rw[hw];exact HP21.2);have hp_:Kd.R (Kd.int .i64) 3 uj w.heap.size (fun _=>True) (.slice (some ⟨go7,0,none⟩) uq.length k0) ja8:=(by rw[hw,lm4.out];exact HP21.1);clear HP21;replace ze:=(bg_ ze hg (Kd.R_ne ah7.out ze.out (by decide)));replace ab6:=(bg_ ab6 hg (Kd.R_ne ah7.out ab6.out (by decide)));replace ce0:=A_ (Kd.S_after (v:=(.slice (some ⟨go7,0,none⟩) uq.length k0)) (v1:=(.slice (some ⟨go7,0,none⟩) uq.length k0)) (ok:=(fun _=>True)) (yS_ ce0 (fun _ hk=>⟨trivial,hk⟩)) hg (.inl rfl));replace bi4:=(bg_ bi4 hg (Kd.R_ne ah7.out bi4.out (by decide)));replace ah7:=A_ (hp_);replace HB:=A_ ((by rw[hw];exact Jc (HB.out) GB7.out:Below w.heap.size w uj));clear hg hw hp_;obtain⟨bw7,bw8,bw9,bx0⟩:=blk2_ bi4;obtain⟨ij9,ik0,ik1,ik2⟩:=blk2_ ab6))
 refine bodyPost_ret (results_cell_row rfl _ _ ab5 25 #[.slice (some ⟨go7,0,none⟩) uq.length k0, .slice nc as3.length kz] (0,0) _ rfl (ba_ ab6) Try.underlying25 rfl (g1_)) rfl ?_
 exact⟨_,_,g4_,ra_ ah7,sa_ ce0,bw1⟩
mutual
def Ft.l0:Nat->List (List Int)->Int->Int->List Int->List (List Int)->List Int->List (List Int)->Option (List Int × (List (List Int)))
 | 0,_,_,_,_,_,_,_=>none
 | k + 1,qw,vx,k7,fg3,ct0,eh9,ce1=>if k7 < vx then(if 0<=k7 then(if k7 < (qw.length:Int) then(Ft.l1 k k7 qw vx k7 (Jm qw k7) ((Jm qw k7).length:Int) 0 fg3 ct0 eh9 ce1) else(none)) else(none)) else(some (eh9,ce1))
def Ft.l1:Nat->Int->List (List Int)->Int->Int->List Int->Int->Int->List Int->List (List Int)->List Int->List (List Int)->Option (List Int × (List (List Int)))
 | 0,_,_,_,_,_,_,_,_,_,_,_=>none
 | k + 1,x4,qw,vx,k7,x18,x19,x20,fg3,ct0,eh9,ce1=>if x20 < x19 then(if 0<=x20 then(if x20 < (x18.length:Int) then(if 0<=x4 then(if x4 < (ce1.length:Int) then(if x20 < (ct0.length:Int) then(if x4 < ((Jm ct0 x20).length:Int) then(if x20 < ((Jm ce1 x4).length:Int) then(Ft.l1 k x4 qw vx k7 x18 x19 (wrap64 (x20 + 1)) fg3 ct0 eh9 (ce1.set (x4:Int).toNat ((Jm ce1 x4).set (x20:Int).toNat (wrap64 ((rd x18 x20) - (mn (rd x18 x20) (rd (Jm ct0 x20) x4))))))) else(none)) else(none)) else(none)) else(none)) else(none)) else(none)) else(none)) else(Ft.l0 k qw vx (wrap64 (k7 + 1)) fg3 ct0 eh9 ce1)
end
def Ft.f (k:Nat) (ab:List Int) (aa:List (List Int)):Option (List Int × (List (List Int))):=(Fn.f k ab aa).bind fun bt450=>(Ft.l0 k aa (aa.length:Int) 0 ab aa bt450.1 bt450.2)
def Ft.T8:Bool × List (List Nat × List Nat):=(true,[([],[]),([0],[0]),([],[]),([1,2],[1,2]),([3],[3]),([],[]),([],[]),([],[]),([],[]),([8],[8]),([],[]),([9,10],[9,10]),([11],[11]),([],[]),([12,13],[12,13]),([14],[14]),([7,15],[7,15]),([6,16],[6,16]),([4,5,0,1,2,3,4,5,6,7,8,9,10,11,12,13,14,15,16,17],[4,5]),([18,17,0,1,2,3,4,5,6,7,8,9,10,11,12,13,14,15,16,17],[17,18])])
def Ft.B8:List Nat:=[0,1,0,7,15,0,0,0,0,256,0,1792,3840,0,16128,32512,65408,131008,262143,524287]
theorem Ft.tab8:rtab .any (opsOf Try.f92 8)=Ft.T8:=by kernel_rfl
theorem Ft.bits8:waitsOk Ft.T8.2 Ft.B8=true:=by kernel_rfl
theorem av5 {p:Prop} (h:p:=by repeat(first|(with_reducible first|exact HB.out|apply Jf|apply Je|apply Jd|refine Jc ?_ lm9.out|refine Jc ?_ ln0.out|refine Jc ?_ ln1.out|refine Jc ?_ GB27.out)|exact HB.out)):p:=h
set_option maxHeartbeats 8000000 in
set_option maxRecDepth 100000 in
theorem Ft.calls (k:Nat) (ae:Option Addr) (ac:Nat) (ab:List Int) (ag:Option Addr) (af:Nat) (aa:List (List Int)) (r1:List Int) (r2:List (List Int)) (w:World) (ca:Kd.C (Kd.int .i64) w ae ab.length ab) (ce:ab.length<=ac) (cb:Kd.C (Kd.slice 3 (Kd.int .i64)) w ag aa.length aa) (cg:aa.length<=af) (h:Ft.f k ab aa=some (r1,r2)) :
  Calls Try.prog 92 #[.agg #[.slice ae ab.length ac, .slice ag aa.length af]] w fun e w'=>∃v0_ v1_:Value,e = .returned (.agg #[v0_,v1_])/\Kd.R (Kd.int .i64) 3 w' w.heap.size (fun _=>True) v0_ r1/\Kd.S (Kd.slice 3 (Kd.int .i64)) 22 w' w.heap.size (fun k_=>some k_≠(v0_:Value).ownBlock) v1_ r2/\Below w.heap.size w w':=by
 have hu25:=Try.underlying25
 have bg:=A_ ca
 have bs:=A_ ce
 clear ca ce
 have bd:=A_ cb
 have bv:=A_ cg
 clear cb cg
 have HB:=A_ (Below.refl w.heap.size w)
 have H:=h
 unfold Ft.f at H
 clear h
 replace H:=Option.bind_eq_some_iff.mp H
 obtain⟨⟨dh0,ei0⟩,vm,H⟩:=H
 try dsimp only at H
 have A2:=A_ vm
 clear vm
 have H':=A_ H
 clear H
 go_enter Try.func92,Try.ntmps92
 go_wp2_with (first|((with_reducible refine gd_ 1 ?_);refine bx_ (N:=1) #[.slice ae ab.length ac, .slice ag aa.length af] 25 ?_;intro ah9 hg w3 hbox hb;have qp:=A_ (hbox);have oe2:=A_ ((g80_:w.heap.size<=ah9));have lm9:=oe2;replace HB:=hs_ (av5) hb;clear hb hbox hg)|((with_reducible refine gd_ 2 ?_);refine bx_ (N:=2) #[.slice none 0 0, .slice none 0 0] 25 ?_;intro ab7 hg w4 hbox hb;have tm:=A_ (hbox);have oe3:=A_ ((g80_:w.heap.size<=ab7));have ln0:=oe3;replace HB:=hs_ (av5) hb;have ja9:=nl_ qp hg;have jb0:=nr_ qp hg;replace qp:=bb_ qp hb;clear hb hbox hg;have eu2:=ja9.out;have eu3:=jb0.out;obtain⟨uf,ug,uh,ui⟩:=blk2_ qp)|((with_reducible refine gc_ 111 ?_);refine gl_ 9 Try.func111 #[.agg #[.slice ae ab.length ac, .slice ag aa.length af]] ?_;(refine(Fn.calls k _ _ ab _ _ aa dh0 ei0 _ (uC_ bg) bs.out (uC_ bd) bv.out A2.out).mono ?_);rintro e w7 ⟨oe4,oe5,rfl,ah,ak,hb⟩;refine⟨_,rfl,?_⟩;have fg4:=A_ (Kd.R_lower ah (G9 (av5)));have fg5:=A_ (Kd.S_lower ak (G9 (av5)));replace qp:=bb_ qp hb;replace tm:=bb_ tm hb;replace HB:=hs_ (av5) hb)|((with_reducible refine gd_ 3 ?_);refine bx_ (N:=3) #[.slice none 0 0, .slice none 0 0] 25 ?_;intro ai0 hg w8 hbox hb;replace fg4:=rb_ fg4 hb;replace fg5:=sb_ fg5 hb;have zf:=A_ (hbox);have oe6:=A_ ((g80_:w.heap.size<=ai0));have ln1:=oe6;replace HB:=hs_ (av5) hb;have fg6:=nl_ qp hg;have jb1:=nr_ qp hg;replace qp:=bb_ qp hb;have fg7:=nl_ tm hg;have jb2:=nr_ tm hg;replace tm:=bb_ tm hb;clear hb hbox hg;obtain⟨g3,gu,eo9⟩:=Kd.R_slice fg4.out;subst eo9;have cr9:=jb1.out;have cs0:=fg6.out;have bf6:=jb2.out;have bf7:=fg7.out;obtain⟨vi,vj,vk,vl⟩:=blk2_ zf;obtain⟨jc,gv,bn5⟩:=Kd.S_slice fg5.out;subst bn5;obtain⟨ub,uc,ud,ue⟩:=blk2_ qp))
 go_loopg [13] k (fun kq v13 w'=>∃(bz:Int) (ce2:List Int) (ct1:List (List Int)) (am7:Value) (br0:Value),v13 = .int .i64 bz/\G7 (Ft.l0 kq aa (aa.length:Int) bz ab aa ce2 ct1=some (r1,r2))/\G7 (kq<=k)/\G7 (Kd.R (Kd.int .i64) 3 w' w.heap.size (fun _=>True) am7 ce2)/\G7 (Kd.S (Kd.slice 3 (Kd.int .i64)) 22 w' w.heap.size (fun k_=>some k_≠(am7:Value).ownBlock) br0 ct1)/\G7 (hc_ w' ah9 #[(.slice ae ab.length ac),(.slice ag aa.length af)] 25)/\G7 (hc_ w' ab7 #[(.slice none 0 0),(.slice none 0 0)] 25)/\G7 (hc_ w' ai0 #[am7,br0] 25)/\G7 (Below w.heap.size w w'))
 case atStart=>exact⟨(0),(dh0),(ei0),(.slice g3 dh0.length gu),(.slice jc ei0.length gv),(g3_),H',⟨Nat.le_refl _⟩,⟨ra_ fg4⟩,⟨sa_ fg5⟩,⟨ba_ qp⟩,⟨ba_ tm⟩,⟨ba_ zf⟩,⟨av5⟩⟩
 clear H'
 obtain⟨bz,ce2,ct1,am7,br0,rfl,HA,HK1,br1,ab8,qp,tm,zf,HB⟩:=hrel
 cases gk with
 | zero=>exact absurd HA.out (by simp[Ft.l0])
 | succ k1=>?_
 have H:=HA.out
 clear HA
 simp only[Ft.l0] at H
 by_cases er:bz < (aa.length:Int)
 case neg=>
  rw[if_neg er] at H
  have pc:=decide_eq_false er
  clear er
  simp only[Option.some.injEq,Prod.mk.injEq] at H
  obtain⟨rfl,rfl⟩:=H
  have ed0:=jb1.out
  have ed1:=fg6.out
  have bz8:=jb2.out
  have bz9:=fg7.out
  obtain⟨db7,db8,db9,dc0⟩:=blk2_ zf
  obtain⟨b3,bn,ay6⟩:=Kd.R_slice br1.out
  subst ay6
  have ik8:=jb0.out
  have ik9:=ja9.out
  obtain⟨cn8,cn9,co0,co1⟩:=blk2_ tm
  obtain⟨kw,jn,ap8⟩:=Kd.S_slice ab8.out
  subst ap8
  go_wp2
  refine bodyPost_ret (results_cell_row rfl _ _ ab7 25 #[.slice b3 ce2.length bn, .slice kw ct1.length jn] (0,0) _ rfl (ba_ tm) Try.underlying25 rfl (g1_)) rfl ?_
  exact⟨_,_,g4_,ra_ br1,sa_ ab8,av5⟩
 rw[if_pos er] at H
 have pc:=decide_eq_true er
 clear er
 obtain⟨af8,H⟩:=pd_ H
 obtain⟨ak3,H⟩:=pd_ H
 have H':=A_ H
 clear H
 obtain⟨⟨fh0,oe7,oe8,ln2,gs7,jb3,jb4⟩,fg8,fg9⟩:=rdp_ (at_L1 bd.out bz)
 cases ln2
 replace gs7:=cl_ HB gs7
 have ln3:=A_ jb4
 have oe9:=A_ jb3
 clear jb4 jb3
 go_wp2
 go_loopg [20] k1 (fun kq v20 w'=>∃(ld:Int) (ce3:List Int) (ur:List (List Int)) (am7:Value) (br0:Value),v20 = .int .i64 ld/\G7 (Ft.l1 kq bz aa (aa.length:Int) bz (Jm aa bz) ((Jm aa bz).length:Int) ld ab aa ce3 ur=some (r1,r2))/\G7 (kq<=k1)/\G7 (Kd.R (Kd.int .i64) 3 w' w.heap.size (fun _=>True) am7 ce3)/\G7 (Kd.S (Kd.slice 3 (Kd.int .i64)) 22 w' w.heap.size (fun k_=>some k_≠(am7:Value).ownBlock) br0 ur)/\G7 (hc_ w' ah9 #[(.slice ae ab.length ac),(.slice (some fh0) aa.length af)] 25)/\G7 (hc_ w' ab7 #[(.slice none 0 0),(.slice none 0 0)] 25)/\G7 (hc_ w' ai0 #[am7,br0] 25)/\G7 (Below w.heap.size w w'))
 case atStart=>exact⟨(0),(ce2),(ct1),(am7),(br0),(g3_),H',⟨Nat.le_refl _⟩,⟨uR_ br1⟩,⟨uS_ ab8⟩,⟨uB_ qp⟩,⟨uB_ tm⟩,⟨uB_ zf⟩,⟨av5⟩⟩
 clear H'
 obtain⟨ld,ce3,ur,am7,br0,rfl,HA,HK2,br1,ab8,qp,tm,zf,HB⟩:=hrel
 cases gk with
 | zero=>exact absurd HA.out (by simp[Ft.l1])
 | succ k2=>?_
 have H:=HA.out
 clear HA
 simp only[Ft.l1] at H
 by_cases jw:ld < ((Jm aa bz).length:Int)
 case neg=>
  rw[if_neg jw] at H
  have bg0:=decide_eq_false jw
  clear jw
  have H':=A_ H
  clear H
  go_wp2
  go_roundg k2
  case measure=>have:=HK1.out;have:=HK2.out;omega
  case rel=>exact⟨(wrap64 (bz + 1)),(ce3),(ur),(am7),(br0),(g3_),H',⟨g40_⟩,⟨uR_ br1⟩,⟨uS_ ab8⟩,⟨uB_ qp⟩,⟨uB_ tm⟩,⟨uB_ zf⟩,⟨av5⟩⟩
 rw[if_pos jw] at H
 have bg0:=decide_eq_true jw
 clear jw
 obtain⟨th,H⟩:=pd_ H
 obtain⟨eg8,H⟩:=pd_ H
 obtain⟨if4,H⟩:=pd_ H
 obtain⟨ax5,H⟩:=pd_ H
 obtain⟨bm4,H⟩:=pd_ H
 obtain⟨yl,H⟩:=pd_ H
 obtain⟨ji25,hji25⟩:∃j_:Int,(mn (rd (Jm aa bz) ld) (rd (Jm aa ld) bz))=j_:=⟨_,rfl⟩
 first|rw[hji25] at H|simp only[hji25] at H
 have hji25_:(if (rd (Jm aa ld) bz) < (rd (Jm aa bz) ld) then(rd (Jm aa ld) bz) else(rd (Jm aa bz) ld))=ji25:=hji25
 obtain⟨cm6,H⟩:=pd_ H
 obtain⟨gs8,hyq⟩:∃y_:List Int,y_=((Jm ur bz).set (ld:Int).toNat (wrap64 ((rd (Jm aa bz) ld) - (ji25)))):=⟨_,rfl⟩
 replace H:(Ft.l1 k2 bz aa (aa.length:Int) bz (Jm aa bz) ((Jm aa bz).length:Int) (wrap64 (ld + 1)) ab aa ce3 (ur.set (bz:Int).toNat gs8))=some (r1,r2):=qh_
 have ln4:=A_ hyq
 clear hyq
 obtain⟨jb5,hyq⟩:∃y_:List (List Int),y_=(ur.set (bz:Int).toNat gs8):=⟨_,rfl⟩
 replace H:(Ft.l1 k2 bz aa (aa.length:Int) bz (Jm aa bz) ((Jm aa bz).length:Int) (wrap64 (ld + 1)) ab aa ce3 jb5)=some (r1,r2):=qh_
 have ln5:=A_ hyq
 clear hyq
 have H':=A_ H
 clear H
 obtain⟨⟨of0,ln6,jb6⟩,gs9,gt0⟩:=rdp_ (Kd.at_int ln3.out ld)
 cases ln6
 replace jb6:=cl_ HB jb6
 try go_wp2
 replace br1:=rd_ br1
 replace ab8:=sd_ ab8
 replace qp:=bd_ qp
 replace tm:=bd_ tm
 replace zf:=bd_ zf
 replace HB:=A_ (Jd HB.out)
 obtain⟨dc9,ca8,ay9⟩:=Kd.S_slice ab8.out
 (first|subst ay9|(injection ay9 with f1_ f2_ f3_;have f4_:=f1_.symm;have f5_:=f3_.symm;clear f1_ f2_ f3_;subst f4_;subst f5_))
 have fh1:0<=(bz:Int):=od_
 have fh2:bz < (ur.length:Int):=od_
 obtain⟨gt1,of1,ln7,ln8,fh3,jb7,jb8⟩:=at_L1 (Kd.S_reads' ab8.out).2.2 bz fh1 fh2
 cases ln8
 obtain⟨ce459,hce459,hMe459,hcc459⟩:=Kd.S_get ab8.out [] bz fh1 (by first|exact fh2|exact od_|(have e_:=(Kd.S_reads' ab8.out).1;omega))
 obtain⟨ve459_0,rfl,ge459_0⟩:=hMe459
 have hv459_0:=hcc459 0 _ rfl
 rw[Nat.add_zero,show((Kd.slice 3 (Kd.int .i64))).sz=1 from rfl,Nat.mul_one] at hv459_0
 replace hv459_0:=Option.some.inj (hv459_0.symm.trans fh3)
 rw[hv459_0] at ge459_0
 have ct2:=A_ (show Kd.R (Kd.int .i64) 3 _ _ _ _ (Jm ur bz) from ge459_0)
 clear hv459_0 ge459_0
 have HX459_0:=A_ fh3
 clear hcc459 hce459
 have ln9:=A_ jb8
 have of2:=A_ jb7
 clear jb8 jb7
 replace fh1:=eq_true fh1
 replace fh2:=eq_true fh2
 obtain⟨⟨lo0,of3,lo1,lo2,fh4,jb9,jc0⟩,gt2,gt3⟩:=rdp_ (at_L1 bd.out ld)
 have lo3:=fh4
 obtain rfl:fh0=lo0:=(by injection lo2)
 replace fh4:=cl_ HB fh4
 have jc1:=A_ jc0
 have of4:=A_ jb9
 clear jc0 jb9
 obtain⟨⟨jc2,lo4,fh5⟩,gt4,gt5⟩:=rdp_ (Kd.at_int jc1.out bz)
 have lo5:=fh5
 cases lo4
 replace fh5:=cl_ HB fh5
 have p27:0<=(ld:Int):=od_
 have q27:(ld:Int) < (((Jm ur bz).length:Int):Int):=od_
 obtain⟨jc3,lz,qj,jc4,gl27,cl27,HG27⟩:=Kd.R_form ct2.out (by omega)
 (first|cases qj|(injection qj with ea_ en_ ec_;(first|subst ea_|(injection ea_ with ea_;subst ea_));subst ec_;clear en_))
 have GB27:=A_ jc4
 have GG27:=A_ HG27
 clear jc4 gl27 HG27
 obtain⟨lo6,hf27_0⟩:=Kd.R_celln 0 ct2.out (ld:Int) p27 q27
 replace p27:=eq_true p27
 replace q27:=eq_true q27
 have hq30:(bz:Int) < (ur.length:Int):=(by have h_:(bz:Int) < ((ur.length:Int):Int):=od_;first|exact h_|(have e_:=(Kd.S_reads' ab8.out).1;omega)|simpa only[List.length_set,List.length_set] using h_)
 obtain⟨oki30,ce30,hcl30,hM30,hcc30,hok30,hbk30⟩:=Kd.S_borrow ab8.out [] (bz:Int) (od_) (by first|exact hq30|exact od_|(have e_:=(Kd.S_reads' ab8.out).1;omega))
 obtain⟨ve30_0,rfl,ge30_0⟩:=hM30
 have hv30:=hcc30 0 _ rfl
 rw[Nat.add_zero,show((Kd.slice 3 (Kd.int .i64))).sz=1 from rfl,Nat.mul_one] at hv30
 replace hv30:=Option.some.inj (hv30.symm.trans HX459_0.out)
 subst hv30
 clear hcc30 hcl30
 replace ge30_0:=(show Kd.R (Kd.int .i64) 3 _ _ _ _ (Jm ur bz) from ge30_0)
 have HP30:=Kd.R_putg ge30_0 (ld:Int) (wrap64 ((rd (Jm aa bz) ld) - (ji25)))
 rw[<- ln4.out] at HP30
 have HS30:=hbk30 HP30.2 (fun k_ e_=>by injection e_ with e_;subst e_;exact ge30_0.1 _ rfl) (x':=gs8) (Kd.M_row HP30.1)
 rw[<- ln5.out] at HS30
 have HQ30:=A_ HS30
 clear HP30 HS30 hbk30 hok30
 refine start_ (n:=20) (S:=fun w'=>w'.cell? ⟨ai0,0,none⟩=some (am7)/\w'.cell? ⟨ai0,1,none⟩=some (.slice (some gt1) ur.length ca8)/\w'.cell? ⟨ah9,0,none⟩=some (.slice ae ab.length ac)/\w'.cell? ⟨ah9,1,none⟩=some (.slice (some fh0) aa.length af)/\w'.cell? (gt1.add (bz).toNat)=some (.slice (some ⟨jc3,0,none⟩) (Jm ur bz).length ln7)/\w'.cell? (fh0.add (ld).toNat)=some (.slice (some jc2) (Jm aa ld).length lo1)/\w'.cell? (jc2.add (bz).toNat)=some (.int .i64 (rd (Jm aa ld) bz))) (ds:=[19]) (tl_ 20 0) (g1_) rfl (g1_) ⟨(G8 zf.out 0).trans rfl,(G8 zf.out 1).trans rfl,(G8 qp.out 0).trans rfl,(G8 qp.out 1).trans rfl,fh3,((cl_ HB lo3).trans rfl),((cl_ HB lo5).trans rfl)⟩ (fun hHeld=>?_);refine Js Ft.tab8 Ft.bits8 (fun HT_ HW_=>?_)
 generalize wr.drew=w28 at br1 ab8 qp tm zf HB GG27 ct2 HQ30 ln9 jc1 HX459_0 hf27_0 lo6 fh3 fh4 fh5 hHeld |-
 refine pw_ 0 25 (tl_ 20 1) ?_
 refine pw_ 2 27 (tl_ 20 5) ?_
 refine pw_ 5 30 (tl_ 20 37) ?_
 refine pw_ 6 31 (tl_ 20 101) ?_
 refine pw_ 7 32 (tl_ 20 229) ?_
 refine pw_ 8 33 (tl_ 20 485) ?_
 refine pw_ 10 35 (tl_ 20 1509) ?_
 refine pw_ 13 38 (tl_ 20 9701) ?_
 refine tk3_ 1 26 (tl_ 20 9703) hHeld ?_
 refine pw_ 3 28 (tl_ 20 9711) ?_
 refine tk3_ 4 29 (tl_ 20 9727) hHeld ?_
 refine tk3_ 9 34 (tl_ 20 10239) hHeld ?_
 refine pw_ 11 36 (tl_ 20 12287) ?_
 refine tk3_ 12 37 (tl_ 20 16383) hHeld ?_
 refine pw_ 14 39 (tl_ 20 32767) ?_
 refine tk3_ 15 40 (tl_ 20 65535) hHeld ?_
 refine pw_ 16 41 (tl_ 20 131071) ?_
 refine pw_ 17 42 (tl_ 20 262143) ?_
 refine pw_ 18 43 (tl_ 20 524287) ?_
 refine last_ (i:=19) (N:=none) (tl_ 20 1048575) rfl rfl (Ju HT_.out (g1_)) (by decide) (fun K hK=>?_)
 refine skip_ (w1:=?_) (by rfl) rfl ?_ ?_
 rotate_left
 ·go_simp
  rfl
 refine hK.out _ _ ?_
 clear hK K
 refine done_ (done_of HT_.out (g1_)) ?_
 try go_wp2
 go_roundg k2
 case measure=>have:=HK1.out;have:=HK2.out;omega
 case rel=>exact⟨(wrap64 (ld + 1)),(ce3),(jb5),(am7),(.slice (some gt1) ur.length ca8),(g3_),H',⟨g40_⟩,⟨by(with_reducible repeat(first|apply Kd.R_alloc|apply Kd.R_drewN|apply Kd.R_drew));exact Kd.R_mono (Kd.R_far (p:=⟨jc3,(ld:Int).toNat,none⟩) (Kd.R_far1 br1.out rfl ((ct2.out.1 _ rfl).1)) (fun _ hk=>hk.2) (.int .i64 (wrap64 ((rd (Jm aa bz) ld) - (ji25))))) (fun _ hk=>trivial)⟩,⟨uS_ HQ30⟩,⟨by(with_reducible repeat(first|refine Jh ?_ _|refine Ji ?_|refine Jg ?_ _));refine Jp ?_ (by have h_:=Kd.R_ne ct2.out qp.out (by decide);intro e_;exact h_ (g6_)) _;exact uB_ qp⟩,⟨by(with_reducible repeat(first|refine Jh ?_ _|refine Ji ?_|refine Jg ?_ _));refine Jp ?_ (by have h_:=Kd.R_ne ct2.out tm.out (by decide);intro e_;exact h_ (g6_)) _;exact uB_ tm⟩,⟨by(with_reducible repeat(first|refine Jh ?_ _|refine Ji ?_|refine Jg ?_ _));refine Jp ?_ (by have h_:=Kd.R_ne ct2.out zf.out (by decide);intro e_;exact h_ (g6_)) _;exact uB_ zf⟩,⟨av5⟩⟩
def Gi.f (a0:Int):Option (Bool):=some (a0 != a0)
set_option maxHeartbeats 8000000 in
set_option maxRecDepth 100000 in
theorem Gi.calls (a0:Int) (r:Bool) (w:World) (h:Gi.f a0=some r) :
  Calls Try.prog 130 #[.int .i64 a0] w fun e w'=>e = .returned (.bool r)/\Drawn0 w w':=by
 have H:(some (a0 != a0))=some r:=h
 clear h
 obtain rfl:=Option.some.inj H
 go_enter Try.func130,Try.ntmps130
 go_wp2
 go_ret
 exact⟨g3_,g5_⟩
def Gq.f (a0:Int) (a1:Int):Option (Int):=(Gi.f a0).bind fun du8=>((Gi.f a1).bind fun by0=>(if du8=true then(if by0=true then(some 0) else(some (-1))) else(if by0=true then(some 1) else(if a0 < a1 then(some (-1)) else(if a0 > a1 then(some 1) else(some 0))))))
set_option maxHeartbeats 8000000 in
set_option maxRecDepth 100000 in
theorem Gq.calls (a0:Int) (a1:Int) (r:Int) (w:World) (h:Gq.f a0 a1=some r) :
  Calls Try.prog 120 #[.int .i64 a0, .int .i64 a1] w fun e w'=>e = .returned (.int .i64 r)/\Drawn0 w w':=by
 have H:=h
 unfold Gq.f at H
 clear h
 obtain⟨du8,A3,H⟩:=bind_ H
 obtain⟨by0,A4,H⟩:=bind_ H
 by_cases c5:du8=true
 ·subst c5
  replace H:=ifp_ H
  by_cases c6:by0=true
  ·subst c6
   replace H:=ifp_ H
   obtain rfl:=Option.some.inj H
   go_enter Try.func120,Try.ntmps120
   go_wp2_with (first|((with_reducible refine gc_ 130 ?_);refine gl_ 8 Try.func130 #[.int .i64 a0] ?_;(with_reducible refine(Gi.calls a0 true _ A3.out).mono ?_);rintro e w' ⟨rfl,⟨nd,rfl⟩⟩;refine⟨_,rfl,?_⟩)|((with_reducible refine gc_ 130 ?_);refine gl_ 10 Try.func130 #[.int .i64 a1] ?_;(with_reducible refine(Gi.calls a1 true _ A4.out).mono ?_);rintro e w' ⟨rfl,⟨nd,rfl⟩⟩;refine⟨_,rfl,?_⟩))
   go_ret
   exact⟨g3_,g5_⟩
  replace c6:=Bool.eq_false_iff.mpr c6
  subst c6
  replace H:=ifn_ H
  obtain rfl:=Option.some.inj H
  go_enter Try.func120,Try.ntmps120
  go_wp2_with (first|((with_reducible refine gc_ 130 ?_);refine gl_ 8 Try.func130 #[.int .i64 a0] ?_;(with_reducible refine(Gi.calls a0 true _ A3.out).mono ?_);rintro e w' ⟨rfl,⟨nd,rfl⟩⟩;refine⟨_,rfl,?_⟩)|((with_reducible refine gc_ 130 ?_);refine gl_ 10 Try.func130 #[.int .i64 a1] ?_;(with_reducible refine(Gi.calls a1 false _ A4.out).mono ?_);rintro e w' ⟨rfl,⟨nd,rfl⟩⟩;refine⟨_,rfl,?_⟩))
  go_ret
  exact⟨g3_,g5_⟩
 replace c5:=Bool.eq_false_iff.mpr c5
 subst c5
 replace H:=ifn_ H
 by_cases c7:by0=true
 ·subst c7
  replace H:=ifp_ H
  obtain rfl:=Option.some.inj H
  go_enter Try.func120,Try.ntmps120
  go_wp2_with (first|((with_reducible refine gc_ 130 ?_);refine gl_ 8 Try.func130 #[.int .i64 a0] ?_;(with_reducible refine(Gi.calls a0 false _ A3.out).mono ?_);rintro e w' ⟨rfl,⟨nd,rfl⟩⟩;refine⟨_,rfl,?_⟩)|((with_reducible refine gc_ 130 ?_);refine gl_ 10 Try.func130 #[.int .i64 a1] ?_;(with_reducible refine(Gi.calls a1 true _ A4.out).mono ?_);rintro e w' ⟨rfl,⟨nd,rfl⟩⟩;refine⟨_,rfl,?_⟩))
  go_ret
  exact⟨g3_,g5_⟩
 replace c7:=Bool.eq_false_iff.mpr c7
 subst c7
 replace H:=ifn_ H
 by_cases c8:a0 < a1
 ·rw[if_pos c8] at H
  have wx:=decide_eq_true c8
  clear c8
  obtain rfl:=Option.some.inj H
  go_enter Try.func120,Try.ntmps120
  go_wp2_with (first|((with_reducible refine gc_ 130 ?_);refine gl_ 8 Try.func130 #[.int .i64 a0] ?_;(with_reducible refine(Gi.calls a0 false _ A3.out).mono ?_);rintro e w' ⟨rfl,⟨nd,rfl⟩⟩;refine⟨_,rfl,?_⟩)|((with_reducible refine gc_ 130 ?_);refine gl_ 10 Try.func130 #[.int .i64 a1] ?_;(with_reducible refine(Gi.calls a1 false _ A4.out).mono ?_);rintro e w' ⟨rfl,⟨nd,rfl⟩⟩;refine⟨_,rfl,?_⟩))
  go_ret
  exact⟨g3_,g5_⟩
 rw[if_neg c8] at H
 have wx:=decide_eq_false c8
 clear c8
 by_cases c9:a0 > a1
 ·rw[if_pos c9] at H
  have wy:=decide_eq_true c9
  clear c9
  obtain rfl:=Option.some.inj H
  go_enter Try.func120,Try.ntmps120
  go_wp2_with (first|((with_reducible refine gc_ 130 ?_);refine gl_ 8 Try.func130 #[.int .i64 a0] ?_;(with_reducible refine(Gi.calls a0 false _ A3.out).mono ?_);rintro e w' ⟨rfl,⟨nd,rfl⟩⟩;refine⟨_,rfl,?_⟩)|((with_reducible refine gc_ 130 ?_);refine gl_ 10 Try.func130 #[.int .i64 a1] ?_;(with_reducible refine(Gi.calls a1 false _ A4.out).mono ?_);rintro e w' ⟨rfl,⟨nd,rfl⟩⟩;refine⟨_,rfl,?_⟩))
  go_ret
  exact⟨g3_,g5_⟩
 rw[if_neg c9] at H
 have wy:=decide_eq_false c9
 clear c9
 obtain rfl:=Option.some.inj H
 go_enter Try.func120,Try.ntmps120
 go_wp2_with (first|((with_reducible refine gc_ 130 ?_);refine gl_ 8 Try.func130 #[.int .i64 a0] ?_;(with_reducible refine(Gi.calls a0 false _ A3.out).mono ?_);rintro e w' ⟨rfl,⟨nd,rfl⟩⟩;refine⟨_,rfl,?_⟩)|((with_reducible refine gc_ 130 ?_);refine gl_ 10 Try.func130 #[.int .i64 a1] ?_;(with_reducible refine(Gi.calls a1 false _ A4.out).mono ?_);rintro e w' ⟨rfl,⟨nd,rfl⟩⟩;refine⟨_,rfl,?_⟩))
 go_ret
 exact⟨g3_,g5_⟩
def Fw.l0:Nat->List Int->List Int->List Int->Int->Int->Option (Int)
 | 0,_,_,_,_,_=>none
 | k + 1,x0,x1,x9,x10,qw=>if qw < x10 then(if 0<=qw then(if qw < (x9.length:Int) then(if qw ≥ (x1.length:Int) then(some 1) else(if qw < (x1.length:Int) then((Gq.f (rd x9 qw) (rd x1 qw)).bind fun bg5=>(if bg5=0 then(Fw.l0 k x0 x1 x9 x10 (wrap64 (qw + 1))) else(some bg5))) else(none))) else(none)) else(none)) else(if (x0.length:Int) < (x1.length:Int) then(some (-1)) else(some 0))
def Fw.f (k:Nat) (l0:List Int) (l1:List Int):Option (Int):=Fw.l0 k l0 l1 l0 (l0.length:Int) 0
set_option maxHeartbeats 8000000 in
set_option maxRecDepth 100000 in
theorem Fw.calls (k:Nat) (A0:Option Addr) (c0:Nat) (l0:List Int) (A1:Option Addr) (c1:Nat) (l1:List Int) (r:Int) (w:World) (e8:Kd.C (Kd.int .i64) w A0 l0.length l0) (d4:l0.length<=c0) (il:Kd.C (Kd.int .i64) w A1 l1.length l1) (iu:l1.length<=c1) (h:Fw.f k l0 l1=some r) :
  Calls Try.prog 121 #[.slice A0 l0.length c0, .slice A1 l1.length c1] w fun e w'=>e = .returned (.int .i64 r)/\Drawn0 w w':=by
 have fo:=A_ e8
 have oh:=A_ d4
 clear e8 d4
 have fq:=A_ il
 have pb:=A_ iu
 clear il iu
 have H:=h
 unfold Fw.f at H
 clear h
 have H':=A_ H
 clear H
 go_enter Try.func121,Try.ntmps121
 go_wp2
 go_loopg [11] k (fun kq v11 w'=>∃(nw:Int),v11 = .int .i64 nw/\G7 (Fw.l0 kq l0 l1 l0 (l0.length:Int) nw=some r)/\G7 (kq<=k)/\Drawn0 w w')
 case atStart=>exact⟨(0),(g3_),H',⟨Nat.le_refl _⟩,g5_⟩
 clear H'
 obtain⟨nw,rfl,HA,HK1,⟨m1,rfl⟩⟩:=hrel
 cases gk with
 | zero=>exact absurd HA.out (by simp[Fw.l0])
 | succ k1=>?_
 have H:=HA.out
 clear HA
 simp only[Fw.l0] at H
 by_cases c3:nw < (l0.length:Int)
 case neg=>
  rw[if_neg c3] at H
  have gm:=decide_eq_false c3
  clear c3
  by_cases iv:(l0.length:Int) < (l1.length:Int)
  ·rw[if_pos iv] at H
   have aa6:=decide_eq_true iv
   have cm9:decide (l0.length < l1.length)=true:=decide_eq_true (Int.ofNat_lt.mp iv)
   clear iv
   obtain rfl:=Option.some.inj H
   go_wp2
   go_ret
   exact⟨g3_,g5_⟩
  rw[if_neg iv] at H
  have aa6:=decide_eq_false iv
  have cm9:decide (l0.length < l1.length)=false:=decide_eq_false (fun h=>iv (Int.ofNat_lt.mpr h))
  clear iv
  obtain rfl:=Option.some.inj H
  go_wp2
  go_ret
  exact⟨g3_,g5_⟩
 rw[if_pos c3] at H
 have gm:=decide_eq_true c3
 clear c3
 obtain⟨ib,H⟩:=pd_ H
 obtain⟨ki,H⟩:=pd_ H
 by_cases c6:nw ≥ (l1.length:Int)
 ·rw[if_pos c6] at H
  have kb:=decide_eq_true c6
  clear c6
  obtain rfl:=Option.some.inj H
  obtain⟨⟨id0,ea4,id1⟩,az0,az1⟩:=rdp_ (Kd.at_int fo.out nw)
  cases ea4
  go_wp2
  go_ret
  exact⟨g3_,g5_⟩
 rw[if_neg c6] at H
 have kb:=decide_eq_false c6
 clear c6
 obtain⟨pw,H⟩:=pd_ H
 obtain⟨bg5,A8,H⟩:=bind_ H
 by_cases c9:bg5=0
 ·rw[if_pos c9] at H
  have wy:(bg5 == 0)=true:=beq_iff_eq.mpr c9
  have kl7:(bg5 != 0)=false:=bne_eq_false_iff_eq.mpr c9
  clear c9
  have H':=A_ H
  clear H
  obtain⟨⟨id0,ea4,id1⟩,az0,az1⟩:=rdp_ (Kd.at_int fo.out nw)
  cases ea4
  obtain⟨⟨kl8,gf5,kl9⟩,cp1,cp2⟩:=rdp_ (Kd.at_int fq.out nw)
  cases gf5
  go_wp2_with (first|((with_reducible refine gc_ 120 ?_);refine gl_ 26 Try.func120 #[.int .i64 (rd l0 nw), .int .i64 (rd l1 nw)] ?_;(with_reducible refine(Gq.calls (rd l0 nw) (rd l1 nw) bg5 _ A8.out).mono ?_);rintro e w' ⟨rfl,⟨nd,rfl⟩⟩;refine⟨_,rfl,?_⟩))
  go_roundg k1
  case measure=>have:=HK1.out;omega
  case rel=>exact⟨(wrap64 (nw + 1)),(g3_),H',⟨g8_⟩,g5_⟩
 rw[if_neg c9] at H
 have wy:(bg5 == 0)=false:=beq_eq_false_iff_ne.mpr c9
 have kl7:(bg5 != 0)=true:=bne_iff_ne.mpr c9
 obtain rfl:=Option.some.inj H
 obtain⟨⟨id0,ea4,id1⟩,az0,az1⟩:=rdp_ (Kd.at_int fo.out nw)
 cases ea4
 obtain⟨⟨kl8,gf5,kl9⟩,cp1,cp2⟩:=rdp_ (Kd.at_int fq.out nw)
 cases gf5
 go_wp2_with (first|((with_reducible refine gc_ 120 ?_);refine gl_ 26 Try.func120 #[.int .i64 (rd l0 nw), .int .i64 (rd l1 nw)] ?_;(with_reducible refine(Gq.calls (rd l0 nw) (rd l1 nw) bg5 _ A8.out).mono ?_);rintro e w' ⟨rfl,⟨nd,rfl⟩⟩;refine⟨_,rfl,?_⟩))
 go_ret
 exact⟨g3_,g5_⟩
def F1.l0:Nat->Int->List Int->Int->Int->Option (Int)
 | 0,_,_,_,_=>none
 | k + 1,x3,x6,x7,x8=>if x8 < x7 then(if 0<=x8 then(if x8 < (x6.length:Int) then(if (rd x6 x8)=x3 then(F1.l0 k x3 x6 x7 (wrap64 (x8 + 1))) else(some (rd x6 x8))) else(none)) else(none)) else(some x3)
def F1.f (k:Nat) (l0:List Int):Option (Int):=F1.l0 k 0 l0 (l0.length:Int) 0
theorem F1.mq {p:Prop} (h:p:=by
 repeat' first
 | (with_reducible exact ih0 _ _ _ _)
 | (with_reducible exact LeO.refl _)
 | (with_reducible exact LeO.none _)
 | (with_reducible refine LeO.ite ?_ ?_)
 | (with_reducible refine LeO.bind ?_ (fun _=>?_))
 | exact ih0 _ _ _ _
 | exact LeO.none _
 | refine LeO.ite ?_ ?_
 | refine LeO.bind ?_ (fun _=>?_)):p:=h
theorem F1.mono_l:∀k,(∀y0 y1 y2 y3,LeO (F1.l0 k y0 y1 y2 y3) (F1.l0 (k + 1) y0 y1 y2 y3))
 | 0=>fun _ _ _ _ r h=>by simp[F1.l0] at h
 | k + 1=>by
  have ih0:=F1.mono_l k
  ·intro y0 y1 y2 y3
   unfold F1.l0
   exact F1.mq
theorem F1.mono:∀a0 k,LeO (F1.f k a0) (F1.f (k + 1) a0):=by
 intro a0 k
 have ih0:=F1.mono_l k
 unfold F1.f
 exact F1.mq
set_option maxHeartbeats 8000000 in
set_option maxRecDepth 100000 in
theorem F1.calls (k:Nat) (A0:Option Addr) (c0:Nat) (l0:List Int) (r:Int) (w:World) (e8:Kd.C (Kd.int .i64) w A0 l0.length l0) (d4:l0.length<=c0) (h:F1.f k l0=some r) :
  Calls Try.prog 119 #[.slice A0 l0.length c0] w fun e w'=>e = .returned (.int .i64 r)/\Drawn0 w w':=by
 have fo:=A_ e8
 have oh:=A_ d4
 clear e8 d4
 have H:(F1.l0 k 0 l0 (l0.length:Int) 0)=some r:=h
 clear h
 have H':=A_ H
 clear H
 go_enter Try.func119,Try.ntmps119
 go_wp2
 go_loopg [8] k (fun kq v8 w'=>∃(ma:Int),v8 = .int .i64 ma/\G7 (F1.l0 kq 0 l0 (l0.length:Int) ma=some r)/\G7 (kq<=k)/\Drawn0 w w')
 case atStart=>exact⟨(0),(g3_),H',⟨Nat.le_refl _⟩,g5_⟩
 clear H'
 obtain⟨ma,rfl,HA,HK1,⟨m1,rfl⟩⟩:=hrel
 cases gk with
 | zero=>exact absurd HA.out (by simp[F1.l0])
 | succ k1=>?_
 have H:=HA.out
 clear HA
 simp only[F1.l0] at H
 by_cases c2:ma < (l0.length:Int)
 case neg=>
  rw[if_neg c2] at H
  have bl9:=decide_eq_false c2
  clear c2
  obtain rfl:=Option.some.inj H
  go_wp2
  go_ret
  exact⟨g3_,g5_⟩
 rw[if_pos c2] at H
 have bl9:=decide_eq_true c2
 clear c2
 obtain⟨gm,H⟩:=pd_ H
 obtain⟨ib,H⟩:=pd_ H
 by_cases c5:(rd l0 ma)=0
 ·rw[if_pos c5] at H
  have ki:((rd l0 ma) == 0)=true:=beq_iff_eq.mpr c5
  have aw6:((rd l0 ma) != 0)=false:=bne_eq_false_iff_eq.mpr c5
  clear c5
  have H':=A_ H
  clear H
  obtain⟨⟨li7,gr0,li8⟩,cs4,cs5⟩:=rdp_ (Kd.at_int fo.out ma)
  cases gr0
  go_wp2
  go_roundg k1
  case measure=>have:=HK1.out;omega
  case rel=>exact⟨(wrap64 (ma + 1)),(g3_),H',⟨g8_⟩,g5_⟩
 rw[if_neg c5] at H
 have ki:((rd l0 ma) == 0)=false:=beq_eq_false_iff_ne.mpr c5
 have aw6:((rd l0 ma) != 0)=true:=bne_iff_ne.mpr c5
 obtain rfl:=Option.some.inj H
 obtain⟨⟨li7,gr0,li8⟩,cs4,cs5⟩:=rdp_ (Kd.at_int fo.out ma)
 cases gr0
 go_wp2
 go_ret
 exact⟨g3_,g5_⟩
def Fy.l0:Nat->List Int->Int->Int->Int->Option (Int)
 | 0,_,_,_,_=>none
 | k + 1,x0,x1,x7,x8=>if x8 < x7 then(if 0<=x8 then(if x8 < (x0.length:Int) then(if x1=(rd x0 x8) then(some x8) else(Fy.l0 k x0 x1 x7 (wrap64 (x8 + 1)))) else(none)) else(none)) else(some (-1))
def Fy.f (k:Nat) (l0:List Int) (a1:Int):Option (Int):=Fy.l0 k l0 a1 (l0.length:Int) 0
set_option maxHeartbeats 8000000 in
set_option maxRecDepth 100000 in
theorem Fy.calls (k:Nat) (A0:Option Addr) (c0:Nat) (l0:List Int) (a1:Int) (r:Int) (w:World) (e8:Kd.C (Kd.int .i64) w A0 l0.length l0) (d4:l0.length<=c0) (h:Fy.f k l0 a1=some r) :
  Calls Try.prog 128 #[.slice A0 l0.length c0, .int .i64 a1] w fun e w'=>e = .returned (.int .i64 r)/\Drawn0 w w':=by
 have fo:=A_ e8
 have oh:=A_ d4
 clear e8 d4
 have H:=h
 unfold Fy.f at H
 clear h
 have H':=A_ H
 clear H
 go_enter Try.func128,Try.ntmps128
 go_wp2
 go_loopg [8] k (fun kq v8 w'=>∃(ma:Int),v8 = .int .i64 ma/\G7 (Fy.l0 kq l0 a1 (l0.length:Int) ma=some r)/\G7 (kq<=k)/\Drawn0 w w')
 case atStart=>exact⟨(0),(g3_),H',⟨Nat.le_refl _⟩,g5_⟩
 clear H'
 obtain⟨ma,rfl,HA,HK1,⟨m1,rfl⟩⟩:=hrel
 cases gk with
 | zero=>exact absurd HA.out (by simp[Fy.l0])
 | succ k1=>?_
 have H:=HA.out
 clear HA
 simp only[Fy.l0] at H
 by_cases c3:ma < (l0.length:Int)
 case neg=>
  rw[if_neg c3] at H
  have gm:=decide_eq_false c3
  clear c3
  obtain rfl:=Option.some.inj H
  go_wp2
  go_ret
  exact⟨g3_,g5_⟩
 rw[if_pos c3] at H
 have gm:=decide_eq_true c3
 clear c3
 obtain⟨ib,H⟩:=pd_ H
 obtain⟨ki,H⟩:=pd_ H
 by_cases c6:a1=(rd l0 ma)
 ·rw[if_pos c6] at H
  have kb:(a1 == (rd l0 ma))=true:=beq_iff_eq.mpr c6
  have bq9:(a1 != (rd l0 ma))=false:=bne_eq_false_iff_eq.mpr c6
  clear c6
  obtain rfl:=Option.some.inj H
  obtain⟨⟨lo7,gt6,lo8⟩,ct3,ct4⟩:=rdp_ (Kd.at_int fo.out ma)
  cases gt6
  go_wp2
  go_ret
  exact⟨g3_,g5_⟩
 rw[if_neg c6] at H
 have kb:(a1 == (rd l0 ma))=false:=beq_eq_false_iff_ne.mpr c6
 have bq9:(a1 != (rd l0 ma))=true:=bne_iff_ne.mpr c6
 have H':=A_ H
 clear H
 obtain⟨⟨lo7,gt6,lo8⟩,ct3,ct4⟩:=rdp_ (Kd.at_int fo.out ma)
 cases gt6
 go_wp2
 go_roundg k1
 case measure=>have:=HK1.out;omega
 case rel=>exact⟨(wrap64 (ma + 1)),(g3_),H',⟨g8_⟩,g5_⟩
def Gn.f (k:Nat) (l0:List Int) (a1:Int):Option (Bool):=(Fy.f k l0 a1).bind fun ej7=>(some (decide (ej7 ≥ 0)))
set_option maxHeartbeats 8000000 in
set_option maxRecDepth 100000 in
theorem Gn.calls (k:Nat) (A0:Option Addr) (c0:Nat) (l0:List Int) (a1:Int) (r:Bool) (w:World) (e8:Kd.C (Kd.int .i64) w A0 l0.length l0) (d4:l0.length<=c0) (h:Gn.f k l0 a1=some r) :
  Calls Try.prog 116 #[.slice A0 l0.length c0, .int .i64 a1] w fun e w'=>e = .returned (.bool r)/\Drawn0 w w':=by
 have fo:=A_ e8
 have oh:=A_ d4
 clear e8 d4
 have H:=h
 unfold Gn.f at H
 clear h
 obtain⟨ej7,A3,H⟩:=bind_ H
 obtain rfl:=Option.some.inj H
 go_enter Try.func116,Try.ntmps116
 go_wp2_with (first|((with_reducible refine gc_ 128 ?_);refine gl_ 7 Try.func128 #[.slice A0 l0.length c0, .int .i64 a1] ?_;(refine(Fy.calls k _ _ l0 a1 ej7 _ (cu_ fo.out) oh.out A3.out).mono ?_);rintro e w' ⟨rfl,⟨nd,rfl⟩⟩;refine⟨_,rfl,?_⟩))
 go_ret
 exact⟨g3_,g5_⟩
end Go.Proofs.Ytfooakkhkehpiaa.PE
