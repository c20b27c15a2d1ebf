/- FnExactDeskDo: for every input the law holds, and each argument reads as it read before. No condition. -/
import Derived.Test.YtfooakkhkehpiaaZFnExactDeskDo1
import Derived.Test.YtfooakkhkehpiaaZFnExactDeskDo2
import Derived.Test.YtfooakkhkehpiaaZFnExactDeskDo3
import Derived.Test.YtfooakkhkehpiaaZFnExactDeskDo4
namespace Go.Proofs.Ytfooakkhkehpiaa.PE
open Go.RowKit Go.Proofs.YtfooakkhkehpiaaW.PrintWords Go.Proofs.YtfooakkhkehpiaaW.PrintLast Go.Proofs.YtfooakkhkehpiaaW.PrintMore Go.Proofs.Ytfooakkhkehpiaa.Qe
attribute [local go_sem] max2_int min2_int max_two min_two max_three min_three max_four min_four
set_option linter.unusedVariables false
set_option linter.unusedSimpArgs false
def F0.l0:Nat->List (S40)->List (S25)->Int->Option ((List (S25)))
 | 0,_,_,_=>none
 | k + 1,x0,x3,x4=>if x4 < (x0.length:Int) then(if 0<=x4 then((G4.f k ((rd_T40 x0 x4).f0) ((rd_T40 x0 x4).f1)).bind fun bt175=>(if x4 < (x3.length:Int) then(F0.l0 k x0 (x3.set (x4:Int).toNat (⟨bt175.1,bt175.2⟩:S25)) (wrap64 (x4 + 1))) else(none))) else(none)) else(some x3)
def F0.f (k:Nat) (l0:List (S40)):Option ((List (S25))):=if 0<=(l0.length:Int) then(if ((l0.length:Int):Int).toNat<=5864062014805 then(F0.l0 k l0 (List.replicate ((l0.length:Int):Int).toNat z25) 0) else(none)) else(none)
theorem F0.calls_s_q0 {p:Prop} (h:p:=by repeat(first|(with_reducible first|exact HB.out|apply Jf|apply Je|apply Jd)|exact HB.out)):p:=h
set_option maxHeartbeats 8000000 in
set_option maxRecDepth 100000 in
theorem F0.calls_s (k:Nat) (A0:Option Addr) (c0:Nat) (l0:List (S40)) (r:List (S25)) (w:World) (e8:Kd.C k40 w A0 l0.length l0) (d4:l0.length<=c0) (h:F0.f k l0=some r) :
  Calls Try.prog 76 #[.slice A0 l0.length c0] w fun e w'=>∃v0_:Value,e = .returned (v0_)/\Kd.S k25s 25 w' w.heap.size (fun _=>True) v0_ r/\Below w.heap.size w w':=by
 have hu40:=Try.underlying40
 have hu25:=Try.underlying25
 have fo:=A_ e8
 have oh:=A_ d4
 clear e8 d4
 have HB:=A_ (Below.refl w.heap.size w)
 have H:=h
 unfold F0.f at H
 clear h
 obtain⟨c2,H⟩:=pos_ H
 have bl9:=eq_true c2
 have cj8:=decide_eq_true c2
 clear c2
 obtain⟨c3,H⟩:=pos_ H
 have gm:=eq_true c3
 have ns:=decide_eq_true c3
 clear c3
 obtain⟨hq4,hyq⟩:∃y_:List (S25),y_=(List.replicate ((l0.length:Int):Int).toNat z25):=⟨_,rfl⟩
 replace H:(F0.l0 k l0 hq4 0)=some r:=qh_
 have hq5:=A_ hyq
 clear hyq
 have H':=A_ H
 clear H
 go_enter Try.func76,Try.ntmps76
 go_wp2_with (first|((with_reducible refine gd_ 7 ?_);refine Kd.S_make k25s _ 25 rfl (N:=7) rfl 26 _ _ rfl (l0.length:Int) rfl rfl Try.underlying26 (.agg #[(.slice none 0 0),(.slice none 0 0)]) 48 info25 rfl (by decide) (by omega) z25 (ok:=fun _=>True) (okp:=fun _=>True) (k25s_mkM _ _ _ z25 (Kd.R_nil _ _ _ _ _) (Kd.S_nil _ _ _ _ _)) (fun _ hk=>hk) trivial (od_) (Nat.le_trans (Nat.mul_le_mul_right _ (od_:(l0.length:Int).toNat<=5864062014805)) (by omega)) (Below.refl _ _) (Nat.le_refl _) ?_;intro jy3 w4 kd hb hg_ hnew_;clear hg_ hnew_;(first|rw[<- hq5.out] at kd|(simp only[Int.reduceToNat] at kd;rw[<- hq5.out] at kd));have jy4:=A_ (Kd.S_lower kd (G9 (F0.calls_s_q0)));replace HB:=A_ (Jr (F0.calls_s_q0) hb);clear hb kd))
 go_loopg [4] k (fun kq v4 w'=>∃(ch:List (S25)) (ar:Int),v4 = .int .i64 ar/\G7 (F0.l0 kq l0 ch ar=some r)/\G7 (kq<=k)/\G7 (Kd.S k25s 25 w' w.heap.size (fun _=>True) jy3 ch)/\G7 (Below w.heap.size w w'))
 case atStart=>exact⟨(hq4),(0),(g3_),H',⟨Nat.le_refl _⟩,⟨uS_ jy4⟩,⟨F0.calls_s_q0⟩⟩
 clear H'
 obtain⟨ch,ar,rfl,HA,HK1,a7,HB⟩:=hrel
 cases gk with
 | zero=>exact absurd HA.out (by simp[F0.l0])
 | succ k1=>?_
 have H:=HA.out
 clear HA
 simp only[F0.l0] at H
 by_cases c6:ar < (l0.length:Int)
 case neg=>
  rw[if_neg c6] at H
  have kb:=decide_eq_false c6
  clear c6
  obtain rfl:=Option.some.inj H
  go_wp2
  go_ret
  exact⟨_,g4_,uS_ a7,F0.calls_s_q0⟩
 rw[if_pos c6] at H
 have kb:=decide_eq_true c6
 clear c6
 obtain⟨pw,H⟩:=pd_ H
 replace H:=Option.bind_eq_some_iff.mp H
 obtain⟨⟨es0,es1⟩,A80,H⟩:=H
 try dsimp only at H
 have A8:=A_ A80
 clear A80
 obtain⟨wy,H⟩:=pd_ H
 obtain⟨fv4,hyq⟩:∃y_:List (S25),y_=(ch.set (ar:Int).toNat (⟨es0,es1⟩:S25)):=⟨_,rfl⟩
 replace H:(F0.l0 k1 l0 fv4 (wrap64 (ar + 1)))=some r:=qh_
 have jy5:=A_ hyq
 clear hyq
 have H':=A_ H
 clear H
 obtain⟨⟨nf8,jy6,jy7,jy8,jy9,jz0,hq6,hq7,hq8,hq9,hr3,hr4⟩,fv5,fv6⟩:=rdp_ (at_T40 fo.out ar)
 cases jz0
 replace hq6:=cl_ HB hq6
 replace hq7:=cl_ HB hq7
 have jz1:=A_ hq9
 have jz2:=A_ hq8
 clear hq9 hq8
 have jz3:=A_ hr4
 have jz4:=A_ hr3
 clear hr4 hr3
 go_wp2_with (first|((with_reducible refine gc_ 33 ?_);refine gl_ 20 Try.func33 #[.agg #[.slice jy6 ((rd_T40 l0 ar).f0).length jy7, .slice jy8 ((rd_T40 l0 ar).f1).length jy9]] ?_;(refine(G4.calls k1 _ _ ((rd_T40 l0 ar).f0) _ _ ((rd_T40 l0 ar).f1) es0 es1 _ (uC_ jz1) jz2.out (uC_ jz3) jz4.out A8.out).mono ?_);rintro e kj ⟨dv0,fv7,rfl,ah,ak,hb⟩;refine⟨_,rfl,?_⟩;have hs0_:=Kd.R_lower (Kd.R_mono (Kd.R_bound ah) (fun _ hk=>hk.2.1)) (G9 (F0.calls_s_q0));have hs1_:=Kd.S_lower (Kd.S_mono (Kd.S_bound ak) (fun _ hk=>(⟨hk.2.1,hk.1⟩:_/\some _≠(dv0:Value).ownBlock))) (G9 (F0.calls_s_q0));have n0_:=A_ (Kd.S_old (uS_ a7) hb);obtain⟨NB,n0_,hs0_,hs1_⟩:∃NB:Nat,G7 (Kd.S k25s 25 kj w.heap.size (fun k_=>True/\k_ < NB) _ _)/\Kd.R (Kd.int .i64) 3 kj w.heap.size (fun k_=>NB<=k_) dv0 _/\Kd.S (Kd.slice 3 (Kd.int .i64)) 22 kj w.heap.size (fun k_=>NB<=k_/\some k_≠(dv0:Value).ownBlock) fv7 _:=⟨_,n0_,hs0_,hs1_⟩;have n1_:=A_ hs0_;have n2_:=A_ hs1_;clear hs0_ hs1_;have n3_:=A_ (Jr (F0.calls_s_q0) hb);clear a7;clear HB;have a7:=n0_;have fv8:=n1_;have fv9:=n2_;have HB:=n3_;clear n0_ n1_ n2_ n3_;have p10:0<=(ar:Int):=od_;have q10:(ar:Int) < ((ch.length:Int):Int):=od_;obtain⟨lx,gg,yj,bx9,gl10,cl10,HG10⟩:=Kd.S_form a7.out (by omega);(first|cases yj|(injection yj with ea_ en_ ec_;(first|subst ea_|(injection ea_ with ea_;subst ea_));subst ec_;clear en_));have GB10:=A_ bx9;have GG10:=A_ HG10;clear bx9 gl10 HG10;obtain⟨_,ce10,hcl10,hM10,hcc10,hfr10,_,_⟩:=Kd.S_elem a7.out z25 (ar:Int) p10 q10;obtain⟨ve10_0,ve10_1,rfl,ge10_0,ge10_1⟩:=hM10;have fv0:kj.cell? ⟨lx,(ar:Int).toNat * 2,none⟩=some (ve10_0):=hcc10 0 _ rfl;have jz5:kj.cell? ⟨lx,(ar:Int).toNat * 2 + 1,none⟩=some (ve10_1):=hcc10 1 _ rfl;have hf10_0:kj.frozen? ⟨lx,(ar:Int).toNat * 2,none⟩=false:=hfr10 0;have hf10_1:kj.frozen? ⟨lx,(ar:Int).toNat * 2 + 1,none⟩=false:=hfr10 1;replace p10:=eq_true p10;replace q10:=eq_true q10;have hgo_:lx < NB:=((Kd.S_R a7.out).1 lx rfl).2;have HX12:=A_ (show Kd.S k25s 25 kj w.heap.size (fun k_=>((fun _=>True)) k_/\¬ ((fun k_=>NB<=k_)) k_) (.slice (some ⟨lx,0,none⟩) ch.length gg) ch from(by(with_reducible repeat(first|apply Kd.S_alloc|apply Kd.S_drewN|apply Kd.S_drew));exact Kd.S_mono a7.out (fun k_ hk=>⟨trivial,Nat.not_le.2 hk.2⟩)));obtain⟨_,ce12,hcl12,hM12,hcc12,hfr12,hok12,hH12⟩:=Kd.S_elem HX12.out z25 (ar:Int) (od_) (by have h_:(ar:Int) < ((ch.length:Int):Int):=od_;first|exact h_|(have e_:=(Kd.S_reads' a7.out).1;omega)|simpa using h_);obtain⟨ve12_0,ve12_1,rfl,ge12_0,ge12_1⟩:=hM12;have HP12:=Kd.S_seg hH12 (od_) (by have h_:(ar:Int) < ((ch.length:Int):Int):=od_;first|exact h_|(have e_:=(Kd.S_reads' a7.out).1;omega)|simpa using h_) (seg:=[dv0,fv7]) (j:=0) (show 2<=2 from by decide) (x':=(⟨es0,es1⟩:S25)) (k25s_mkM _ _ _ (⟨es0,es1⟩:S25) fv8.out fv9.out) (fun _ hk=>Or.inr hk) (fun k_ hk=>⟨trivial,fun e_=>by rw[e_] at hk;exact Nat.lt_irrefl _ (Nat.lt_of_lt_of_le hgo_ hk)⟩);have du7:=hcc12 0 _ rfl;(try simp only[show(k25s).sz=2 from rfl,Nat.mul_one,Nat.add_zero] at du7);have hf12_0:=hfr12 0;(try simp only[show(k25s).sz=2 from rfl,Nat.mul_one,Nat.add_zero] at hf12_0);have fw0:=hcc12 1 _ rfl;(try simp only[show(k25s).sz=2 from rfl,Nat.mul_one,Nat.add_zero] at fw0);have hf12_1:=hfr12 1;(try simp only[show(k25s).sz=2 from rfl,Nat.mul_one,Nat.add_zero] at hf12_1))|((with_reducible refine gate_store (t:=25) (p:=21) rfl ?_);refine store_event (t:=25) (p:=21) (v:=?vo_w13) (w1:=((kj.setCell ⟨lx,(ar:Int).toNat * 2,none⟩ (dv0)).setCell ⟨lx,(ar:Int).toNat * 2 + 1,none⟩ (fv7))) ?hg ?ho ?hn ?hr ?_;(case ho=>rfl);(case hg=>rfl);(case hn=>rfl);(case hr=>first|(go_simp;done)|(go_simp;rfl)|(obtain⟨_,_,e0_⟩:=Kd.R_slice fv8.out;obtain⟨_,_,e1_⟩:=Kd.S_slice fv9.out;rw[e0_,e1_];first|(go_simp;done)|(go_simp;rfl)));intro ps hw;have hg:kj.grownBy ps (some lx):=(by rw[hw];exact HP12.2);have hp_:Kd.S k25s 25 ps w.heap.size (fun _=>True) (.slice (some ⟨lx,0,none⟩) ch.length gg) fv4:=(by rw[hw,jy5.out];exact HP12.1);clear HP12;replace a7:=A_ (hp_);replace HB:=A_ ((by rw[hw];exact Jc (Jc (HB.out) GB10.out) GB10.out:Below w.heap.size w ps));clear fv8 fv9;clear hg hw hp_))
 go_roundg k1
 case measure=>have:=HK1.out;omega
 case rel=>exact⟨(fv4),(wrap64 (ar + 1)),(g3_),H',⟨g8_⟩,⟨uS_ a7⟩,⟨F0.calls_s_q0⟩⟩
def Gf.f (k:Nat) (ab:List Int) (aa:List (List Int)) (ai:List (S40)):Option (List Int × (List (List Int)) × (List (S25))):=(G4.f k ab aa).bind fun bt185=>((F0.f k ai).bind fun db0=>(some (bt185.1,bt185.2,db0)))
theorem Gf.calls_s_q0 {p:Prop} (h:p:=by repeat(first|(with_reducible first|exact HB.out|apply Jf|apply Je|apply Jd|refine Jc ?_ jz6.out|refine Jc ?_ jz7.out|refine Jc ?_ jz8.out)|exact HB.out)):p:=h
set_option maxHeartbeats 8000000 in
set_option maxRecDepth 100000 in
theorem Gf.calls_s (k:Nat) (ae:Option Addr) (ac:Nat) (ab:List Int) (ag:Option Addr) (af:Nat) (aa:List (List Int)) (av:Option Addr) (au:Nat) (ai:List (S40)) (r1:List Int) (r2:List (List Int)) (r3:List (S25)) (w:World) (ca:Kd.C (Kd.int .i64) w ae ab.length ab) (ce:ab.length<=ac) (cb:Kd.C (Kd.slice 3 (Kd.int .i64)) w ag aa.length aa) (cg:aa.length<=af) (g8:Kd.C k40 w av ai.length ai) (g9:ai.length<=au) (h:Gf.f k ab aa ai=some (r1,r2,r3)) :
  Calls Try.prog 29 #[.agg #[.slice ae ab.length ac, .slice ag aa.length af, .slice av ai.length au]] w fun e w'=>∃v0_ v1_ v2_:Value,e = .returned (.agg #[v0_,v1_,v2_])/\DkS w.heap.size w.heap.size w'.heap.size v0_ v1_ v2_ r1 r2 r3 w'/\Below w.heap.size w w':=by
 have hu43:=Try.underlying43
 have hu28:=Try.underlying28
 have hu40:=Try.underlying40
 have hu25:=Try.underlying25
 have bg:=A_ ca
 have bs:=A_ ce
 clear ca ce
 have bd:=A_ cb
 have bv:=A_ cg
 clear cb cg
 have gc:=A_ g8
 have gx:=A_ g9
 clear g8 g9
 have HB:=A_ (Below.refl w.heap.size w)
 have H:=h
 unfold Gf.f at H
 clear h
 replace H:=Option.bind_eq_some_iff.mp H
 obtain⟨⟨by1,db1⟩,vm,H⟩:=H
 try dsimp only at H
 have A2:=A_ vm
 clear vm
 obtain⟨db0,A3,H⟩:=bind_ H
 simp only[Option.some.injEq,Prod.mk.injEq] at H
 obtain⟨rfl,rfl,rfl⟩:=H
 go_enter Try.func29,Try.ntmps29
 go_wp2_with (first|((with_reducible refine gd_ 1 ?_);refine bx_ (N:=1) #[.slice ae ab.length ac, .slice ag aa.length af, .slice av ai.length au] 43 ?_;intro ax1 hg w4 hbox hb;have zy:=A_ (hbox);have nf9:=A_ ((g62_:w.heap.size<=ax1));have jz6:=nf9;replace HB:=A_ (Jr (Gf.calls_s_q0) hb);clear hb hbox hg)|((with_reducible refine gd_ 2 ?_);refine bx_ (N:=2) #[.slice none 0 0, .slice none 0 0, .slice none 0 0] 28 ?_;intro be8 hg w5 hbox hb;have ax2:=A_ (hbox);have ng0:=A_ ((g62_:w.heap.size<=be8));have jz7:=ng0;replace HB:=A_ (Jr (Gf.calls_s_q0) hb);have jz9:=nl_ zy hg;have ka0:=nr_ zy hg;replace zy:=bb_ zy hb;clear hb hbox hg)|((with_reducible refine gd_ 3 ?_);refine bx_ (N:=3) #[.slice none 0 0, .slice none 0 0, .slice none 0 0] 28 ?_;intro ax3 hg w6 hbox hb;have bm0:=A_ (hbox);have ng1:=A_ ((g62_:w.heap.size<=ax3));have jz8:=ng1;replace HB:=A_ (Jr (Gf.calls_s_q0) hb);have fw1:=nl_ zy hg;have ka1:=nr_ zy hg;replace zy:=bb_ zy hb;have es2:=nl_ ax2 hg;have ka2:=nr_ ax2 hg;replace ax2:=bb_ ax2 hb;clear hb hbox hg;have da6:=jz9.out;have da7:=ka0.out;have da8:=fw1.out;have da9:=ka1.out;obtain⟨af4,af5,ck2,af6,af7,ck3⟩:=blk3_ zy)|((with_reducible refine gc_ 33 ?_);refine gl_ 6 Try.func33 #[.agg #[.slice ae ab.length ac, .slice ag aa.length af]] ?_;(refine(G4.calls k _ _ ab _ _ aa by1 db1 _ (uC_ bg) bs.out (uC_ bd) bv.out A2.out).mono ?_);rintro e w10 ⟨ng2,ng3,rfl,ah,ak,hb⟩;refine⟨_,rfl,?_⟩;have fw2:=A_ (Kd.R_lower ah (G9 (Gf.calls_s_q0)));have fw3:=A_ (Kd.S_lower ak (G9 (Gf.calls_s_q0)));replace zy:=bb_ zy hb;replace ax2:=bb_ ax2 hb;replace bm0:=bb_ bm0 hb;replace HB:=A_ (Jr (Gf.calls_s_q0) hb);obtain⟨zw,zx,fv3⟩:=Kd.R_slice fw2.out;subst fv3;have cj9:=ka2.out;have ck0:=es2.out;obtain⟨sm,sn,bw5,so,sp,bw6⟩:=blk3_ bm0;obtain⟨nt,k0,bm1⟩:=Kd.S_slice fw3.out;subst bm1;obtain⟨ch0,ch1,fs6,ch2,ch3,fs7⟩:=blk3_ zy)|((with_reducible refine gc_ 76 ?_);refine gl_ 10 Try.func76 #[.slice av ai.length au] ?_;(refine(F0.calls_s k _ _ ai db0 _ (Kd.C_below gc.out (Gf.calls_s_q0)) gx.out A3.out).mono ?_);rintro e pu ⟨ng4,rfl,ah,hb⟩;refine⟨_,rfl,?_⟩;have hs_:=ah;have ah:=k25s_R hs_;have n99_:=A_ (DkS.of_ (base:=w.heap.size) (G9 (Gf.calls_s_q0)) (ra_ fw2) (sa_ fw3) hs_ hb);obtain⟨HI,n99_⟩:∃HI:Nat,G7 (DkS w.heap.size w.heap.size HI _ _ _ _ _ _ _):=⟨_,n99_⟩;have ka3:=A_ (Kd.R_lower (Kd.R_new' (Kd.R_new' ah (Kd.R_lt (ra_ fw2))) (Kd.S_lt (sa_ fw3))) (G9 (Gf.calls_s_q0)));replace fw2:=A_ (Kd.R_below (ra_ fw2) hb);replace fw3:=A_ (Kd.S_below (sa_ fw3) hb);replace zy:=A_ (Jk (g:=ax1) (o:=.cells #[.slice ae ab.length ac, .slice ag aa.length af, .slice av ai.length au] 43 (0,0)) (ba_ zy) hb);replace ax2:=A_ (Jk (g:=be8) (o:=.cells #[.slice none 0 0, .slice none 0 0, .slice none 0 0] 28 (0,0)) (ba_ ax2) hb);replace bm0:=A_ (Jk (g:=ax3) (o:=.cells #[.slice zw by1.length zx, .slice nt db1.length k0, .slice none 0 0] 28 (0,0)) (ba_ bm0) hb);replace HB:=A_ (Jr (Gf.calls_s_q0) hb);have HDS:=n99_;clear n99_ hs_;obtain⟨fz,f4,ax4⟩:=Kd.R_slice ka3.out;subst ax4;obtain⟨ao6,ao7,cj6,ao8,ao9,cj7⟩:=blk3_ bm0;obtain⟨cz4,cz5,cz6,cz7,cz8,cz9⟩:=blk3_ ax2))
 refine bodyPost_ret (results_cell_row rfl _ _ be8 28 #[.slice zw by1.length zx, .slice nt db1.length k0, .slice fz db0.length f4] (0,0) _ rfl (ba_ ax2) Try.underlying28 rfl (g1_)) rfl ?_
 exact⟨_,_,_,g4_,DkS.fin (hi:=HI) (by repeat(first|(with_reducible exact HDS.out)|(with_reducible refine DkS.alloc ?_ _)|(with_reducible refine DkS.drewN ?_ _)|(with_reducible refine DkS.drew ?_)|(refine DkS.setT ?_ (by repeat(first|(with_reducible refine Ty0.set ?_ _)|exact Ty0.of zy.out (by decide)|exact Ty0.of ax2.out (by decide)|exact Ty0.of bm0.out (by decide))) _))) (Nat.le_refl _),Gf.calls_s_q0⟩
def Gv.f (l0:List Int) (a1:Int):Option (Int):=if (wrap64 (a1 - (l0.length:Int))) < 0 then(some (-1)) else(some (wrap64 (a1 - (l0.length:Int))))
set_option maxHeartbeats 8000000 in
set_option maxRecDepth 100000 in
theorem Gv.calls (A0:Option Addr) (c0:Nat) (l0:List Int) (a1:Int) (r:Int) (w:World) (e8:Kd.C (Kd.int .i64) w A0 l0.length l0) (d4:l0.length<=c0) (h:Gv.f l0 a1=some r) :
  Calls Try.prog 78 #[.slice A0 l0.length c0, .int .i64 a1] w fun e w'=>e = .returned (.int .i64 r)/\Drawn0 w w':=by
 have fo:=A_ e8
 have oh:=A_ d4
 clear e8 d4
 have H:=h
 unfold Gv.f at H
 clear h
 by_cases c3:(wrap64 (a1 - (l0.length:Int))) < 0
 ·rw[if_pos c3] at H
  have gm:=decide_eq_true c3
  clear c3
  obtain rfl:=Option.some.inj H
  go_enter Try.func78,Try.ntmps78
  go_wp2
  go_ret
  exact⟨g3_,g5_⟩
 rw[if_neg c3] at H
 have gm:=decide_eq_false c3
 clear c3
 obtain rfl:=Option.some.inj H
 go_enter Try.func78,Try.ntmps78
 go_wp2
 go_ret
 exact⟨g3_,g5_⟩
def Gc.l0:Nat->List (List Int)->Int->Int->Option (Int)
 | 0,_,_,_=>none
 | k + 1,x0,x1,x5=>if x5 < (x0.length:Int) then(if 0<=x5 then((Gv.f (Jm x0 x5) x1).bind fun cj0=>(if cj0 < 0 then(some (-1)) else(Gc.l0 k x0 cj0 (wrap64 (x5 + 1))))) else(none)) else(some x1)
def Gc.f (k:Nat) (l0:List (List Int)) (a1:Int):Option (Int):=if (wrap64 (a1 - (l0.length:Int))) < 0 then(some (-1)) else(Gc.l0 k l0 (wrap64 (a1 - (l0.length:Int))) 0)
set_option maxHeartbeats 8000000 in
set_option maxRecDepth 100000 in
theorem Gc.calls (k:Nat) (A0:Option Addr) (c0:Nat) (l0:List (List Int)) (a1:Int) (r:Int) (w:World) (e8:Kd.C (Kd.slice 3 (Kd.int .i64)) w A0 l0.length l0) (d4:l0.length<=c0) (h:Gc.f k l0 a1=some r) :
  Calls Try.prog 79 #[.slice A0 l0.length c0, .int .i64 a1] w fun e w'=>e = .returned (.int .i64 r)/\Drawn0 w w':=by
 have fo:=A_ e8
 have oh:=A_ d4
 clear e8 d4
 have H:=h
 unfold Gc.f at H
 clear h
 by_cases c3:(wrap64 (a1 - (l0.length:Int))) < 0
 ·rw[if_pos c3] at H
  have gm:=decide_eq_true c3
  clear c3
  obtain rfl:=Option.some.inj H
  go_enter Try.func79,Try.ntmps79
  go_wp2
  go_ret
  exact⟨g3_,g5_⟩
 rw[if_neg c3] at H
 have gm:=decide_eq_false c3
 clear c3
 have H':=A_ H
 clear H
 go_enter Try.func79,Try.ntmps79
 go_wp2
 go_loopg [1,5] k (fun kq v1 v5 w'=>∃(ic:Int) (aj:Int),v1 = .int .i64 ic/\v5 = .int .i64 aj/\G7 (Gc.l0 kq l0 ic aj=some r)/\G7 (kq<=k)/\Drawn0 w w')
 case atStart=>exact⟨(wrap64 (a1 - (l0.length:Int))),(0),(g3_),(g3_),H',⟨Nat.le_refl _⟩,g5_⟩
 clear H'
 obtain⟨ic,aj,rfl,rfl,HA,HK1,⟨m1,rfl⟩⟩:=hrel
 cases gk with
 | zero=>exact absurd HA.out (by simp[Gc.l0])
 | succ k1=>?_
 have H:=HA.out
 clear HA
 simp only[Gc.l0] at H
 by_cases c4:aj < (l0.length:Int)
 case neg=>
  rw[if_neg c4] at H
  have ib:=decide_eq_false c4
  clear c4
  obtain rfl:=Option.some.inj H
  go_wp2
  go_ret
  exact⟨g3_,g5_⟩
 rw[if_pos c4] at H
 have ib:=decide_eq_true c4
 clear c4
 obtain⟨ki,H⟩:=pd_ H
 obtain⟨cj0,A6,H⟩:=bind_ H
 by_cases c7:cj0 < 0
 ·rw[if_pos c7] at H
  have pw:=decide_eq_true c7
  clear c7
  obtain rfl:=Option.some.inj H
  obtain⟨⟨jw1,fs8,fs9,ft0,jw2,dt5,dt6⟩,cj1,cj2⟩:=rdp_ (at_L1 fo.out aj)
  cases ft0
  have ft1:=A_ dt6
  have ft2:=A_ dt5
  clear dt6 dt5
  go_wp2_with (first|((with_reducible refine gc_ 78 ?_);refine gl_ 23 Try.func78 #[.slice fs8 (Jm l0 aj).length fs9, .int .i64 ic] ?_;(refine(Gv.calls _ _ (Jm l0 aj) ic cj0 _ (cu_ ft1.out) ft2.out A6.out).mono ?_);rintro e w' ⟨rfl,⟨nd,rfl⟩⟩;refine⟨_,rfl,?_⟩))
  go_ret
  exact⟨g3_,g5_⟩
 rw[if_neg c7] at H
 have pw:=decide_eq_false c7
 clear c7
 have H':=A_ H
 clear H
 obtain⟨⟨jw1,fs8,fs9,ft0,jw2,dt5,dt6⟩,cj1,cj2⟩:=rdp_ (at_L1 fo.out aj)
 cases ft0
 have ft1:=A_ dt6
 have ft2:=A_ dt5
 clear dt6 dt5
 go_wp2_with (first|((with_reducible refine gc_ 78 ?_);refine gl_ 23 Try.func78 #[.slice fs8 (Jm l0 aj).length fs9, .int .i64 ic] ?_;(refine(Gv.calls _ _ (Jm l0 aj) ic cj0 _ (cu_ ft1.out) ft2.out A6.out).mono ?_);rintro e w' ⟨rfl,⟨nd,rfl⟩⟩;refine⟨_,rfl,?_⟩))
 go_roundg k1
 case measure=>have:=HK1.out;omega
 case rel=>exact⟨(cj0),(wrap64 (aj + 1)),(g3_),(g3_),H',⟨g8_⟩,g5_⟩
def Gs.f (k:Nat) (ab:List Int) (aa:List (List Int)) (a1:Int):Option (Int):=(Gv.f ab a1).bind fun af1=>(if af1 < 0 then(some (-1)) else((Gc.f k aa af1).bind fun bl7=>(if bl7 < 0 then(some (-1)) else(some bl7))))
theorem bw0 {p:Prop} (h:p:=by repeat(first|(with_reducible first|exact HB.out|apply Jf|apply Je|apply Jd|refine Jc ?_ ft3.out)|exact HB.out)):p:=h
set_option maxHeartbeats 8000000 in
set_option maxRecDepth 100000 in
theorem Gs.calls (k:Nat) (ae:Option Addr) (ac:Nat) (ab:List Int) (ag:Option Addr) (af:Nat) (aa:List (List Int)) (a1:Int) (r:Int) (w:World) (ca:Kd.C (Kd.int .i64) w ae ab.length ab) (ce:ab.length<=ac) (cb:Kd.C (Kd.slice 3 (Kd.int .i64)) w ag aa.length aa) (cg:aa.length<=af) (h:Gs.f k ab aa a1=some r) :
  Calls Try.prog 31 #[.agg #[.slice ae ab.length ac, .slice ag aa.length af], .int .i64 a1] w fun e w'=>e = .returned (.int .i64 r)/\Below w.heap.size w w':=by
 have hu40:=Try.underlying40
 have bg:=A_ ca
 have bs:=A_ ce
 clear ca ce
 have bd:=A_ cb
 have bv:=A_ cg
 clear cb cg
 have HB:=A_ (Below.refl w.heap.size w)
 have H:=h
 unfold Gs.f at H
 clear h
 obtain⟨af1,A3,H⟩:=bind_ H
 by_cases c4:af1 < 0
 ·rw[if_pos c4] at H
  have ib:=decide_eq_true c4
  clear c4
  obtain rfl:=Option.some.inj H
  go_enter Try.func31,Try.ntmps31
  go_wp2_with (first|((with_reducible refine gd_ 2 ?_);refine bx_ (N:=2) #[.slice ae ab.length ac, .slice ag aa.length af] 40 ?_;intro bx7 hg w5 hbox hb;have dt7:=A_ (hbox);have hn8:=A_ ((g59_:w.heap.size<=bx7));have ft3:=hn8;replace HB:=hs_ (bw0) hb;clear hb hbox hg;obtain⟨uf,ug,uh,ui⟩:=blk2_ dt7)|((with_reducible refine gc_ 78 ?_);refine gl_ 8 Try.func78 #[.slice ae ab.length ac, .int .i64 a1] ?_;(refine(Gv.calls _ _ ab a1 af1 _ (uC_ bg) bs.out A3.out).mono ?_);rintro e w' ⟨rfl,⟨nd,rfl⟩⟩;refine⟨_,rfl,?_⟩))
  go_ret
  exact⟨g4_,bw0⟩
 rw[if_neg c4] at H
 have ib:=decide_eq_false c4
 clear c4
 obtain⟨bl7,A7,H⟩:=bind_ H
 by_cases c8:bl7 < 0
 ·rw[if_pos c8] at H
  have wx:=decide_eq_true c8
  clear c8
  obtain rfl:=Option.some.inj H
  go_enter Try.func31,Try.ntmps31
  go_wp2_with (first|((with_reducible refine gd_ 2 ?_);refine bx_ (N:=2) #[.slice ae ab.length ac, .slice ag aa.length af] 40 ?_;intro bx7 hg w9 hbox hb;have dt7:=A_ (hbox);have hn8:=A_ ((g59_:w.heap.size<=bx7));have ft3:=hn8;replace HB:=hs_ (bw0) hb;clear hb hbox hg;obtain⟨ye,yf,yg,yh⟩:=blk2_ dt7)|((with_reducible refine gc_ 78 ?_);refine gl_ 8 Try.func78 #[.slice ae ab.length ac, .int .i64 a1] ?_;(refine(Gv.calls _ _ ab a1 af1 _ (uC_ bg) bs.out A3.out).mono ?_);rintro e w' ⟨rfl,⟨nd,rfl⟩⟩;refine⟨_,rfl,?_⟩)|((with_reducible refine gc_ 79 ?_);refine gl_ 14 Try.func79 #[.slice ag aa.length af, .int .i64 af1] ?_;(refine(Gc.calls k _ _ aa af1 bl7 _ (cu_ (Kd.C_below bd.out (bw0))) bv.out A7.out).mono ?_);rintro e w' ⟨rfl,⟨nd,rfl⟩⟩;refine⟨_,rfl,?_⟩))
  go_ret
  exact⟨g4_,bw0⟩
 rw[if_neg c8] at H
 have wx:=decide_eq_false c8
 clear c8
 obtain rfl:=Option.some.inj H
 go_enter Try.func31,Try.ntmps31
 go_wp2_with (first|((with_reducible refine gd_ 2 ?_);refine bx_ (N:=2) #[.slice ae ab.length ac, .slice ag aa.length af] 40 ?_;intro bx7 hg kj hbox hb;have dt7:=A_ (hbox);have hn8:=A_ ((g59_:w.heap.size<=bx7));have ft3:=hn8;replace HB:=hs_ (bw0) hb;clear hb hbox hg;obtain⟨vi,vj,vk,vl⟩:=blk2_ dt7)|((with_reducible refine gc_ 78 ?_);refine gl_ 8 Try.func78 #[.slice ae ab.length ac, .int .i64 a1] ?_;(refine(Gv.calls _ _ ab a1 af1 _ (uC_ bg) bs.out A3.out).mono ?_);rintro e w' ⟨rfl,⟨nd,rfl⟩⟩;refine⟨_,rfl,?_⟩)|((with_reducible refine gc_ 79 ?_);refine gl_ 14 Try.func79 #[.slice ag aa.length af, .int .i64 af1] ?_;(refine(Gc.calls k _ _ aa af1 bl7 _ (cu_ (Kd.C_below bd.out (bw0))) bv.out A7.out).mono ?_);rintro e w' ⟨rfl,⟨nd,rfl⟩⟩;refine⟨_,rfl,?_⟩))
 go_ret
 exact⟨g4_,bw0⟩
def Gd.l0:Nat->List (S40)->Int->Int->Option (Int)
 | 0,_,_,_=>none
 | k + 1,x0,x1,x5=>if x5 < (x0.length:Int) then(if 0<=x5 then((Gs.f k ((rd_T40 x0 x5).f0) ((rd_T40 x0 x5).f1) x1).bind fun cj3=>(if cj3 < 0 then(some (-1)) else(Gd.l0 k x0 cj3 (wrap64 (x5 + 1))))) else(none)) else(some x1)
def Gd.f (k:Nat) (l0:List (S40)) (a1:Int):Option (Int):=if (wrap64 (a1 - (l0.length:Int))) < 0 then(some (-1)) else(Gd.l0 k l0 (wrap64 (a1 - (l0.length:Int))) 0)
theorem cy7 {p:Prop} (h:p:=by repeat(first|(with_reducible first|exact HB.out|apply Jf|apply Je|apply Jd)|exact HB.out)):p:=h
set_option maxHeartbeats 8000000 in
set_option maxRecDepth 100000 in
theorem Gd.calls (k:Nat) (A0:Option Addr) (c0:Nat) (l0:List (S40)) (a1:Int) (r:Int) (w:World) (e8:Kd.C k40 w A0 l0.length l0) (d4:l0.length<=c0) (h:Gd.f k l0 a1=some r) :
  Calls Try.prog 75 #[.slice A0 l0.length c0, .int .i64 a1] w fun e w'=>e = .returned (.int .i64 r)/\Below w.heap.size w w':=by
 have hu40:=Try.underlying40
 have fo:=A_ e8
 have oh:=A_ d4
 clear e8 d4
 have HB:=A_ (Below.refl w.heap.size w)
 have H:=h
 unfold Gd.f at H
 clear h
 by_cases c3:(wrap64 (a1 - (l0.length:Int))) < 0
 ·rw[if_pos c3] at H
  have gm:=decide_eq_true c3
  clear c3
  obtain rfl:=Option.some.inj H
  go_enter Try.func75,Try.ntmps75
  go_wp2
  go_ret
  exact⟨g4_,cy7⟩
 rw[if_neg c3] at H
 have gm:=decide_eq_false c3
 clear c3
 have H':=A_ H
 clear H
 go_enter Try.func75,Try.ntmps75
 go_wp2
 go_loopg [1,5] k (fun kq v1 v5 w'=>∃(ic:Int) (aj:Int),v1 = .int .i64 ic/\v5 = .int .i64 aj/\G7 (Gd.l0 kq l0 ic aj=some r)/\G7 (kq<=k)/\G7 (Below w.heap.size w w'))
 case atStart=>exact⟨(wrap64 (a1 - (l0.length:Int))),(0),(g3_),(g3_),H',⟨Nat.le_refl _⟩,⟨cy7⟩⟩
 clear H'
 obtain⟨ic,aj,rfl,rfl,HA,HK1,HB⟩:=hrel
 cases gk with
 | zero=>exact absurd HA.out (by simp[Gd.l0])
 | succ k1=>?_
 have H:=HA.out
 clear HA
 simp only[Gd.l0] at H
 by_cases c4:aj < (l0.length:Int)
 case neg=>
  rw[if_neg c4] at H
  have ib:=decide_eq_false c4
  clear c4
  obtain rfl:=Option.some.inj H
  go_wp2
  go_ret
  exact⟨g4_,cy7⟩
 rw[if_pos c4] at H
 have ib:=decide_eq_true c4
 clear c4
 obtain⟨ki,H⟩:=pd_ H
 obtain⟨cj3,A6,H⟩:=bind_ H
 by_cases c7:cj3 < 0
 ·rw[if_pos c7] at H
  have pw:=decide_eq_true c7
  clear c7
  obtain rfl:=Option.some.inj H
  obtain⟨⟨jw3,ft4,ft5,ft6,ft7,ft8,dt8,dt9,du0,du1,du2,du3⟩,cj4,cj5⟩:=rdp_ (at_T40 fo.out aj)
  cases ft8
  replace dt8:=cl_ HB dt8
  replace dt9:=cl_ HB dt9
  have ft9:=A_ du1
  have fu0:=A_ du0
  clear du1 du0
  have fu1:=A_ du3
  have fu2:=A_ du2
  clear du3 du2
  go_wp2_with (first|((with_reducible refine gc_ 31 ?_);refine gl_ 23 Try.func31 #[.agg #[.slice ft4 ((rd_T40 l0 aj).f0).length ft5, .slice ft6 ((rd_T40 l0 aj).f1).length ft7], .int .i64 ic] ?_;(refine(Gs.calls k1 _ _ ((rd_T40 l0 aj).f0) _ _ ((rd_T40 l0 aj).f1) ic cj3 _ (uC_ ft9) fu0.out (uC_ fu1) fu2.out A6.out).mono ?_);rintro e w8 ⟨rfl,hb⟩;refine⟨_,rfl,?_⟩;replace HB:=hs_ (cy7) hb))
  go_ret
  exact⟨g4_,cy7⟩
 rw[if_neg c7] at H
 have pw:=decide_eq_false c7
 clear c7
 have H':=A_ H
 clear H
 obtain⟨⟨jw3,ft4,ft5,ft6,ft7,ft8,dt8,dt9,du0,du1,du2,du3⟩,cj4,cj5⟩:=rdp_ (at_T40 fo.out aj)
 cases ft8
 replace dt8:=cl_ HB dt8
 replace dt9:=cl_ HB dt9
 have ft9:=A_ du1
 have fu0:=A_ du0
 clear du1 du0
 have fu1:=A_ du3
 have fu2:=A_ du2
 clear du3 du2
 go_wp2_with (first|((with_reducible refine gc_ 31 ?_);refine gl_ 23 Try.func31 #[.agg #[.slice ft4 ((rd_T40 l0 aj).f0).length ft5, .slice ft6 ((rd_T40 l0 aj).f1).length ft7], .int .i64 ic] ?_;(refine(Gs.calls k1 _ _ ((rd_T40 l0 aj).f0) _ _ ((rd_T40 l0 aj).f1) ic cj3 _ (uC_ ft9) fu0.out (uC_ fu1) fu2.out A6.out).mono ?_);rintro e w9 ⟨rfl,hb⟩;refine⟨_,rfl,?_⟩;replace HB:=hs_ (cy7) hb))
 go_roundg k1
 case measure=>have:=HK1.out;omega
 case rel=>exact⟨(cj3),(wrap64 (aj + 1)),(g3_),(g3_),H',⟨g8_⟩,⟨cy7⟩⟩
def Gw.f (k:Nat) (ab:List Int) (aa:List (List Int)) (ai:List (S40)) (a1:Int):Option (Int):=(Gs.f k ab aa a1).bind fun af2=>(if af2 < 0 then(some (-1)) else((Gd.f k ai af2).bind fun bl8=>(if bl8 < 0 then(some (-1)) else(some bl8))))
theorem av3 {p:Prop} (h:p:=by repeat(first|(with_reducible first|exact HB.out|apply Jf|apply Je|apply Jd|refine Jc ?_ fu3.out)|exact HB.out)):p:=h
set_option maxHeartbeats 8000000 in
set_option maxRecDepth 100000 in
theorem Gw.calls (k:Nat) (ae:Option Addr) (ac:Nat) (ab:List Int) (ag:Option Addr) (af:Nat) (aa:List (List Int)) (av:Option Addr) (au:Nat) (ai:List (S40)) (a1:Int) (r:Int) (w:World) (ca:Kd.C (Kd.int .i64) w ae ab.length ab) (ce:ab.length<=ac) (cb:Kd.C (Kd.slice 3 (Kd.int .i64)) w ag aa.length aa) (cg:aa.length<=af) (g8:Kd.C k40 w av ai.length ai) (g9:ai.length<=au) (h:Gw.f k ab aa ai a1=some r) :
  Calls Try.prog 27 #[.agg #[.slice ae ab.length ac, .slice ag aa.length af, .slice av ai.length au], .int .i64 a1] w fun e w'=>e = .returned (.int .i64 r)/\Below w.heap.size w w':=by
 have hu43:=Try.underlying43
 have hu40:=Try.underlying40
 have bg:=A_ ca
 have bs:=A_ ce
 clear ca ce
 have bd:=A_ cb
 have bv:=A_ cg
 clear cb cg
 have gc:=A_ g8
 have gx:=A_ g9
 clear g8 g9
 have HB:=A_ (Below.refl w.heap.size w)
 have H:=h
 unfold Gw.f at H
 clear h
 obtain⟨af2,A3,H⟩:=bind_ H
 by_cases c4:af2 < 0
 ·rw[if_pos c4] at H
  have ib:=decide_eq_true c4
  clear c4
  obtain rfl:=Option.some.inj H
  go_enter Try.func27,Try.ntmps27
  go_wp2_with (first|((with_reducible refine gd_ 2 ?_);refine bx_ (N:=2) #[.slice ae ab.length ac, .slice ag aa.length af, .slice av ai.length au] 43 ?_;intro bx8 hg w5 hbox hb;have xa:=A_ (hbox);have hn9:=A_ ((g60_:w.heap.size<=bx8));have fu3:=hn9;replace HB:=hs_ (av3) hb;clear hb hbox hg;obtain⟨uf,ug,bl5,uh,ui,bl6⟩:=blk3_ xa)|((with_reducible refine gc_ 31 ?_);refine gl_ 8 Try.func31 #[.agg #[.slice ae ab.length ac, .slice ag aa.length af], .int .i64 a1] ?_;(refine(Gs.calls k _ _ ab _ _ aa a1 af2 _ (uC_ bg) bs.out (uC_ bd) bv.out A3.out).mono ?_);rintro e w7 ⟨rfl,hb⟩;refine⟨_,rfl,?_⟩;replace xa:=bb_ xa hb;replace HB:=hs_ (av3) hb))
  go_ret
  exact⟨g4_,av3⟩
 rw[if_neg c4] at H
 have ib:=decide_eq_false c4
 clear c4
 obtain⟨bl8,A8,H⟩:=bind_ H
 by_cases c9:bl8 < 0
 ·rw[if_pos c9] at H
  have wy:=decide_eq_true c9
  clear c9
  obtain rfl:=Option.some.inj H
  go_enter Try.func27,Try.ntmps27
  go_wp2_with (first|((with_reducible refine gd_ 2 ?_);refine bx_ (N:=2) #[.slice ae ab.length ac, .slice ag aa.length af, .slice av ai.length au] 43 ?_;intro bx8 hg w10 hbox hb;have xa:=A_ (hbox);have hn9:=A_ ((g60_:w.heap.size<=bx8));have fu3:=hn9;replace HB:=hs_ (av3) hb;clear hb hbox hg;obtain⟨si,sj,aw4,sk,sl,aw5⟩:=blk3_ xa)|((with_reducible refine gc_ 31 ?_);refine gl_ 8 Try.func31 #[.agg #[.slice ae ab.length ac, .slice ag aa.length af], .int .i64 a1] ?_;(refine(Gs.calls k _ _ ab _ _ aa a1 af2 _ (uC_ bg) bs.out (uC_ bd) bv.out A3.out).mono ?_);rintro e t5 ⟨rfl,hb⟩;refine⟨_,rfl,?_⟩;replace xa:=bb_ xa hb;replace HB:=hs_ (av3) hb;obtain⟨sm,sn,bw5,so,sp,bw6⟩:=blk3_ xa)|((with_reducible refine gc_ 75 ?_);refine gl_ 14 Try.func75 #[.slice av ai.length au, .int .i64 af2] ?_;(refine(Gd.calls k _ _ ai af2 bl8 _ (uC_ gc) gx.out A8.out).mono ?_);rintro e w14 ⟨rfl,hb⟩;refine⟨_,rfl,?_⟩;replace xa:=bb_ xa hb;replace HB:=hs_ (av3) hb))
  go_ret
  exact⟨g4_,av3⟩
 rw[if_neg c9] at H
 have wy:=decide_eq_false c9
 clear c9
 obtain rfl:=Option.some.inj H
 go_enter Try.func27,Try.ntmps27
 go_wp2_with (first|((with_reducible refine gd_ 2 ?_);refine bx_ (N:=2) #[.slice ae ab.length ac, .slice ag aa.length af, .slice av ai.length au] 43 ?_;intro bx8 hg w15 hbox hb;have xa:=A_ (hbox);have hn9:=A_ ((g60_:w.heap.size<=bx8));have fu3:=hn9;replace HB:=hs_ (av3) hb;clear hb hbox hg;obtain⟨ae0,ae1,du4,ae2,ae3,du5⟩:=blk3_ xa)|((with_reducible refine gc_ 31 ?_);refine gl_ 8 Try.func31 #[.agg #[.slice ae ab.length ac, .slice ag aa.length af], .int .i64 a1] ?_;(refine(Gs.calls k _ _ ab _ _ aa a1 af2 _ (uC_ bg) bs.out (uC_ bd) bv.out A3.out).mono ?_);rintro e zu ⟨rfl,hb⟩;refine⟨_,rfl,?_⟩;replace xa:=bb_ xa hb;replace HB:=hs_ (av3) hb;obtain⟨ao6,ao7,cj6,ao8,ao9,cj7⟩:=blk3_ xa)|((with_reducible refine gc_ 75 ?_);refine gl_ 14 Try.func75 #[.slice av ai.length au, .int .i64 af2] ?_;(refine(Gd.calls k _ _ ai af2 bl8 _ (uC_ gc) gx.out A8.out).mono ?_);rintro e w19 ⟨rfl,hb⟩;refine⟨_,rfl,?_⟩;replace xa:=bb_ xa hb;replace HB:=hs_ (av3) hb))
 go_ret
 exact⟨g4_,av3⟩
def Gx.f (mi:Int) (my:Int) (ng:Int) (n7:Int):Option (Int × Int × Int × Int):=some (mi,my,ng,n7)
theorem er2 {p:Prop} (h:p:=by repeat(first|(with_reducible first|exact HB.out|apply Jf|apply Je|apply Jd|refine Jc ?_ lh3.out|refine Jc ?_ lh4.out|refine Jc ?_ lh5.out)|exact HB.out)):p:=h
set_option maxHeartbeats 8000000 in
set_option maxRecDepth 100000 in
theorem Gx.calls (mi:Int) (my:Int) (ng:Int) (n7:Int) (r1:Int) (r2:Int) (r3:Int) (r4:Int) (w:World) (h:Gx.f mi my ng n7=some (r1,r2,r3,r4)) :
  Calls Try.prog 55 #[.agg #[.int .i64 mi, .int .i64 my, .int .i64 ng, .int .i64 n7]] w fun e w'=>e = .returned (.agg #[.int .i64 r1, .int .i64 r2, .int .i64 r3, .int .i64 r4])/\Below w.heap.size w w':=by
 have hu66:=Try.underlying66
 have hu69:=Try.underlying69
 have HB:=A_ (Below.refl w.heap.size w)
 have H:(some (mi,my,ng,n7))=some (r1,r2,r3,r4):=h
 clear h
 simp only[Option.some.injEq,Prod.mk.injEq] at H
 obtain⟨rfl,rfl,rfl,rfl⟩:=H
 go_enter Try.func55,Try.ntmps55
 go_wp2_with (first|((with_reducible refine gd_ 1 ?_);refine bx_ (N:=1) #[.int .i64 mi, .int .i64 my, .int .i64 ng, .int .i64 n7] 66 ?_;intro bi0 hg w2 hbox hb;have bq7:=A_ (hbox);have nz7:=A_ ((g76_:w.heap.size<=bi0));have lh3:=nz7;replace HB:=hs_ (er2) hb;clear hb hbox hg)|((with_reducible refine gd_ 2 ?_);refine bx_ (N:=2) #[.int .i64 0, .int .i64 0, .int .i64 0, .int .i64 0] 69 ?_;intro bq8 hg w3 hbox hb;have dg3:=A_ (hbox);have nz8:=A_ ((g76_:w.heap.size<=bq8));have lh4:=nz8;replace HB:=hs_ (er2) hb;have lh6:=nl_ bq7 hg;have lh7:=nr_ bq7 hg;replace bq7:=bb_ bq7 hb;clear hb hbox hg)|((with_reducible refine gd_ 3 ?_);refine bx_ (N:=3) #[.int .i64 0, .int .i64 0, .int .i64 0, .int .i64 0] 69 ?_;intro dg4 hg w4 hbox hb;have lh8:=A_ (hbox);have nz9:=A_ ((g76_:w.heap.size<=dg4));have lh5:=nz9;replace HB:=hs_ (er2) hb;have lh9:=nl_ bq7 hg;have li0:=nr_ bq7 hg;replace bq7:=bb_ bq7 hb;have eg3:=nl_ dg3 hg;have li1:=nr_ dg3 hg;replace dg3:=bb_ dg3 hb;clear hb hbox hg;have eu2:=lh6.out;have eu3:=lh7.out;have if0:=lh9.out;have if1:=li0.out;obtain⟨z8,z9,oa0,oa1,aa0,aa1,oa2,oa3⟩:=blk4_ bq7;have da8:=li1.out;have da9:=eg3.out;obtain⟨af4,af5,ck2,oa4,af6,af7,ck3,oa5⟩:=blk4_ lh8;obtain⟨ye,yf,hm9,li2,yg,yh,hn0,li3⟩:=blk4_ dg3))
 refine bodyPost_ret (results_cell_row rfl _ _ bq8 69 #[.int .i64 mi, .int .i64 my, .int .i64 ng, .int .i64 n7] (0,0) _ rfl (ba_ dg3) Try.underlying69 rfl (g1_)) rfl ?_
 exact⟨g4_,er2⟩
end Go.Proofs.Ytfooakkhkehpiaa.PE
namespace Go.Proofs.Ytfooakkhkehpiaa.PE
open Go.RowKit Go.Proofs.YtfooakkhkehpiaaW.PrintWords Go.Proofs.YtfooakkhkehpiaaW.PrintLast Go.Proofs.YtfooakkhkehpiaaW.PrintMore
set_option linter.unusedVariables false
set_option linter.unusedSimpArgs false
abbrev B_:=S25
structure Fc where
  lo:Nat
  hi:Nat
  P:World->Prop
  sz:∀W,P W->hi<=W.heap.size
  st:∀W W1,P W->(∀k,lo<=k->k < hi->W1.heap[k]? = W.heap[k]?)->hi<=W1.heap.size->P W1
def bx (g:Nat) (cs:Array Value) (t:Nat):Fc where
  lo:=g
  hi:=g + 1
  P:=fun W=>W.heap[g]? = some (.cells cs t (0,0))
  sz:=fun _ h=>blk_lt h
  st:=fun _ _ h hm _=>(hm g (Nat.le_refl _) (Nat.lt_succ_self _)).trans h
def DqS (lo hi:Nat) (u0 u1 u2:Value) (c:List Int) (d:List (List Int)) (ps:List B_) (W:World):Prop:=
  hi<=W.heap.size/\Kd.R (Kd.int .i64) 3 W 0 (fun k=>lo<=k/\k < hi) u0 c/\Kd.S (Kd.slice 3 (Kd.int .i64)) 22 W 0 (fun k=>lo<=k/\k < hi) u1 d/\Kd.Q k25 25 W 0 (fun k=>lo<=k/\k < hi) u2 ps
def dq (lo hi:Nat) (u0 u1 u2:Value) (c:List Int) (d:List (List Int)) (ps:List B_):Fc where
  lo:=lo
  hi:=hi
  P:=DqS lo hi u0 u1 u2 c d ps
  sz:=fun _ h=>h.1
  st:=fun _ _ h hm hs=>⟨hs,Kd.R_step h.2.1 (fun k hk _=>hm k hk.1 hk.2),Kd.S_step h.2.2.1 (fun k hk _=>hm k hk.1 hk.2),Kd.Q_step h.2.2.2 (fun k hk _=>hm k hk.1 hk.2)⟩
def Bn (w:World) (L:List Fc) (W:World):Prop:=Below w.heap.size w W/\∀f ∈ L,f.P W
section
variable {w W W1:World} {L:List Fc}
theorem Bn.below (h:Bn w L W) (hb:Below W.heap.size W W1):Bn w L W1:=
  ⟨Jr h.1 hb,fun f hf=>f.st W W1 (h.2 f hf) (fun k _ hk=>hb.block k (Nat.lt_of_lt_of_le hk (f.sz W (h.2 f hf)))) (Nat.le_trans (f.sz W (h.2 f hf)) hb.size)⟩
theorem Bn.drew (h:Bn w L W):Bn w L W.drew:=h.below (below_drew (Below.refl _ _))
theorem Bn.push (h:Bn w L W) {f:Fc} (hf:f.P W):Bn w (f :: L) W:=⟨h.1,fun x hx=>by rcases List.mem_cons.1 hx with rfl|hx;exact hf;exact h.2 x hx⟩
def Dj (lo hi:Nat) (L:List Fc):Prop:=∀f ∈ L,f.hi<=lo ∨ hi<=f.lo
theorem Bn.far (h:Bn w L W) {g j:Nat} (hg:Dj g (g + 1) L) (hw:w.heap.size<=g) (u:Value):Bn w L (W.setCell ⟨g,j,none⟩ u):=
  ⟨Jc h.1 hw,fun f hf=>f.st W _ (h.2 f hf) (fun k h1 h2=>Below.heap_setCell W ⟨g,j,none⟩ u k (fun e=>by have:=hg f hf;have e:k=g:=e;omega)) (by rw[World.size_setCell];exact f.sz W (h.2 f hf))⟩
theorem Bn.kept (h:Bn w L W) {lo hi:Nat} (hb:Below w.heap.size w W1) (hk:Kept W W1 (fun k=>lo<=k/\k < hi)) (hd:Dj lo hi L):Bn w L W1:=
  ⟨hb,fun f hf=>f.st W W1 (h.2 f hf) (fun k h1 h2=>hk.2 k (Nat.lt_of_lt_of_le h2 (f.sz W (h.2 f hf))) (fun hs=>by have:=hd f hf;omega)) (Nat.le_trans (f.sz W (h.2 f hf)) hk.1)⟩
theorem Dj.cons {lo hi:Nat} {f:Fc} (h:f.hi<=lo ∨ hi<=f.lo) (hd:Dj lo hi L):Dj lo hi (f :: L):=fun x hx=>by rcases List.mem_cons.1 hx with rfl|hx;exact h;exact hd x hx
theorem Bn.mv (x:G7 (Bn w L W)) {w1 w2:World} (hb:Below w1.heap.size w1 w2) (h:Bn w L W->Bn w L w1:=by intro x_;repeat(first|(with_reducible exact x_)|(with_reducible refine Bn.alloc ?_ _)|(with_reducible refine Bn.drewN ?_ _)|(with_reducible refine Bn.drew ?_))):G7 (Bn w L w2):=⟨(h x.out).below hb⟩
theorem Bn.go (x:G7 (Bn w L W)) {w1:World} (h:Bn w L W->Bn w L w1:=by intro x_;repeat(first|(with_reducible exact x_)|(with_reducible refine Bn.alloc ?_ _)|(with_reducible refine Bn.drewN ?_ _)|(with_reducible refine Bn.drew ?_))):Bn w L w1:=h x.out
theorem Bn.has (x:G7 (Bn w L W)) (f:Fc) (hm:f ∈ L:=by(repeat(first|exact List.mem_cons_self|apply List.mem_cons_of_mem))):f.P W:=x.out.2 f hm
theorem cells3 {g t:Nat} {a b c:Value} (h:W.heap[g]? = some (.cells #[a,b,c] t (0,0))):W.cell? ⟨g,0,none⟩=some a/\W.cell? ⟨g,1,none⟩=some b/\W.cell? ⟨g,2,none⟩=some c:=⟨(G8 h 0).trans rfl,(G8 h 1).trans rfl,(G8 h 2).trans rfl⟩
theorem cells4 {g t:Nat} {a b c d:Value} (h:W.heap[g]? = some (.cells #[a,b,c,d] t (0,0))):W.cell? ⟨g,0,none⟩=some a/\W.cell? ⟨g,1,none⟩=some b/\W.cell? ⟨g,2,none⟩=some c/\W.cell? ⟨g,3,none⟩=some d:=⟨(G8 h 0).trans rfl,(G8 h 1).trans rfl,(G8 h 2).trans rfl,(G8 h 3).trans rfl⟩
theorem Bn.b3 (x:G7 (Bn w L W)) (g:Nat) {t:Nat} {a b c:Value} (hm:bx g #[a,b,c] t ∈ L:=by(repeat(first|exact List.mem_cons_self|apply List.mem_cons_of_mem))):W.cell? ⟨g,0,none⟩=some a/\W.cell? ⟨g,1,none⟩=some b/\W.cell? ⟨g,2,none⟩=some c:=cells3 (x.out.2 _ hm)
theorem Bn.b4 (x:G7 (Bn w L W)) (g:Nat) {t:Nat} {a b c d:Value} (hm:bx g #[a,b,c,d] t ∈ L:=by(repeat(first|exact List.mem_cons_self|apply List.mem_cons_of_mem))):W.cell? ⟨g,0,none⟩=some a/\W.cell? ⟨g,1,none⟩=some b/\W.cell? ⟨g,2,none⟩=some c/\W.cell? ⟨g,3,none⟩=some d:=cells4 (x.out.2 _ hm)
theorem Bn.dj (x:G7 (Bn w L W)) {w1:World} {g n:Nat} (hg:g=w1.heap.size) (h:Bn w L W->Bn w L w1:=by intro x_;repeat(first|(with_reducible exact x_)|(with_reducible refine Bn.alloc ?_ _)|(with_reducible refine Bn.drewN ?_ _)|(with_reducible refine Bn.drew ?_))):G7 (Dj g n L):=⟨fun f hf=>.inl (hg ▸ f.sz w1 ((h x.out).2 f hf))⟩
theorem Bn.wg (x:G7 (Bn w L W)) {w1:World} {g:Nat} (hg:g=w1.heap.size) (h:Bn w L W->Bn w L w1:=by intro x_;repeat(first|(with_reducible exact x_)|(with_reducible refine Bn.alloc ?_ _)|(with_reducible refine Bn.drewN ?_ _)|(with_reducible refine Bn.drew ?_))):G7 (w.heap.size<=g):=⟨hg ▸ (h x.out).1.size⟩
theorem Bn.box (x:G7 (Bn w L W)) {w1 w2:World} {g t:Nat} {cs:Array Value} (hb:Below w1.heap.size w1 w2) (hx:w2.heap[g]? = some (.cells cs t (0,0))) (h:Bn w L W->Bn w L w1:=by intro x_;repeat(first|(with_reducible exact x_)|(with_reducible refine Bn.alloc ?_ _)|(with_reducible refine Bn.drewN ?_ _)|(with_reducible refine Bn.drew ?_))):G7 (Bn w (bx g cs t :: L) w2):=⟨((h x.out).below hb).push hx⟩
theorem Bn.put3 (x:G7 (Bn w L W)) {g t:Nat} {z0 z1 z2:Value} (b:G7 (W.heap[g]? = some (.cells #[z0,z1,z2] t (0,0)))) (hg:G7 (Dj g (g + 1) L)) (hw:G7 (w.heap.size<=g)) (v0 v1 v2:Value):G7 (Bn w (bx g #[v0,v1,v2] t :: L) (((W.setCell ⟨g,0,none⟩ v0).setCell ⟨g,1,none⟩ v1).setCell ⟨g,2,none⟩ v2)):=
  ⟨((((x.out.far hg.out hw.out v0).far hg.out hw.out v1).far hg.out hw.out v2).push (show _ from Jq (Jq (Jq b.out 0 v0 rfl) 1 v1 rfl) 2 v2 rfl))⟩
theorem blk_mv {g:Nat} {o:Obj} (x:G7 (W.heap[g]? = some o)) {w1 w2:World} (hb:Below w1.heap.size w1 w2) (h:W.heap[g]? = some o->w1.heap[g]? = some o:=by intro x_;repeat(first|(with_reducible exact x_)|(refine Jg ?_ _)|(refine Jh ?_ _)|(refine Ji ?_))):G7 (w2.heap[g]? = some o):=⟨Jk (h x.out) hb⟩
theorem blk_ge {g lo:Nat} {o:Obj} (x:G7 (W.heap[g]? = some o)) {w1:World} (hl:lo=w1.heap.size) (h:W.heap[g]? = some o->w1.heap[g]? = some o:=by intro x_;repeat(first|(with_reducible exact x_)|(refine Jg ?_ _)|(refine Jh ?_ _)|(refine Ji ?_))):G7 (g < lo):=⟨hl ▸ blk_lt (h x.out)⟩
end
section
variable {base lo hi:Nat} {u0 u1 u2:Value} {c:List Int} {d:List (List Int)} {ps:List B_} {W:World}
theorem DkS.mw (x:G7 (DkS base lo hi u0 u1 u2 c d ps W)) {w1 w2:World} (hb:Below w1.heap.size w1 w2) (h:DkS base lo hi u0 u1 u2 c d ps W->DkS base lo hi u0 u1 u2 c d ps w1:=by intro x_;repeat(first|(with_reducible exact x_)|(with_reducible refine DkS.alloc ?_ _)|(with_reducible refine DkS.drewN ?_ _)|(with_reducible refine DkS.drew ?_))):G7 (DkS base lo hi u0 u1 u2 c d ps w2):=⟨(h x.out).below hb⟩
theorem DkS.gw (x:G7 (DkS base lo hi u0 u1 u2 c d ps W)) {w1:World} (h:DkS base lo hi u0 u1 u2 c d ps W->DkS base lo hi u0 u1 u2 c d ps w1:=by intro x_;repeat(first|(with_reducible exact x_)|(with_reducible refine DkS.alloc ?_ _)|(with_reducible refine DkS.drewN ?_ _)|(with_reducible refine DkS.drew ?_))):DkS base lo hi u0 u1 u2 c d ps w1:=h x.out
theorem DkS.gg (x:G7 (DkS base lo hi u0 u1 u2 c d ps W)) {w1:World} {g:Nat} (hg:g=w1.heap.size) (h:DkS base lo hi u0 u1 u2 c d ps W->DkS base lo hi u0 u1 u2 c d ps w1:=by intro x_;repeat(first|(with_reducible exact x_)|(with_reducible refine DkS.alloc ?_ _)|(with_reducible refine DkS.drewN ?_ _)|(with_reducible refine DkS.drew ?_))):G7 (hi<=g):=⟨hg ▸ (h x.out).1⟩
theorem DkS.put3 (x:G7 (DkS base lo hi u0 u1 u2 c d ps W)) {g:Nat} (hg:g < lo ∨ hi<=g) (v0 v1 v2:Value):G7 (DkS base lo hi u0 u1 u2 c d ps (((W.setCell ⟨g,0,none⟩ v0).setCell ⟨g,1,none⟩ v1).setCell ⟨g,2,none⟩ v2)):=⟨((x.out.set (p:=⟨g,0,none⟩) hg v0).set (p:=⟨g,1,none⟩) hg v1).set (p:=⟨g,2,none⟩) hg v2⟩
theorem DqS.step {W1:World} (h:DqS lo hi u0 u1 u2 c d ps W) (hm:∀k,lo<=k->k < hi->W1.heap[k]? = W.heap[k]?) (hs:hi<=W1.heap.size):DqS lo hi u0 u1 u2 c d ps W1:=(dq lo hi u0 u1 u2 c d ps).st W W1 h hm hs
theorem DqS.below {W1:World} (h:DqS lo hi u0 u1 u2 c d ps W) (hb:Below W.heap.size W W1):DqS lo hi u0 u1 u2 c d ps W1:=h.step (fun k _ hk=>hb.block k (Nat.lt_of_lt_of_le hk h.1)) (Nat.le_trans h.1 hb.size)
theorem DqS.mw (x:G7 (DqS lo hi u0 u1 u2 c d ps W)) {w1 w2:World} (hb:Below w1.heap.size w1 w2) (h:DqS lo hi u0 u1 u2 c d ps W->DqS lo hi u0 u1 u2 c d ps w1:=by intro x_;repeat(first|(with_reducible exact x_)|(with_reducible refine DqS.below ?_ (Jf (Below.refl _ _) _))|(with_reducible refine DqS.below ?_ (Je (Below.refl _ _) _))|(with_reducible refine DqS.below ?_ (below_drew (Below.refl _ _))))):G7 (DqS lo hi u0 u1 u2 c d ps w2):=⟨(h x.out).below hb⟩
theorem DqS.gg (x:G7 (DqS lo hi u0 u1 u2 c d ps W)) {w1:World} {g:Nat} (hg:g=w1.heap.size) (h:DqS lo hi u0 u1 u2 c d ps W->DqS lo hi u0 u1 u2 c d ps w1:=by intro x_;repeat(first|(with_reducible exact x_)|(with_reducible refine DqS.below ?_ (Jf (Below.refl _ _) _))|(with_reducible refine DqS.below ?_ (Je (Below.refl _ _) _))|(with_reducible refine DqS.below ?_ (below_drew (Below.refl _ _))))):G7 (hi<=g):=⟨hg ▸ (h x.out).1⟩
theorem DqS.put3 (x:G7 (DqS lo hi u0 u1 u2 c d ps W)) {g:Nat} (hg:g < lo ∨ hi<=g) (v0 v1 v2:Value):G7 (DqS lo hi u0 u1 u2 c d ps (((W.setCell ⟨g,0,none⟩ v0).setCell ⟨g,1,none⟩ v1).setCell ⟨g,2,none⟩ v2)):=⟨x.out.step (fun k h1 h2=>by rw[Below.heap_setCell _ _ v2 k (fun e=>by have e:k=g:=e;omega),Below.heap_setCell _ _ v1 k (fun e=>by have e:k=g:=e;omega),Below.heap_setCell _ _ v0 k (fun e=>by have e:k=g:=e;omega)]) (by rw[World.size_setCell,World.size_setCell,World.size_setCell];exact x.out.1)⟩
abbrev c3_ (W:World) (g:Nat) (a b c:Value):Prop:=W.cell? ⟨g,0,none⟩=some a/\W.cell? ⟨g,1,none⟩=some b/\W.cell? ⟨g,2,none⟩=some c
abbrev c4_ (W:World) (g:Nat) (a b c d:Value):Prop:=W.cell? ⟨g,0,none⟩=some a/\W.cell? ⟨g,1,none⟩=some b/\W.cell? ⟨g,2,none⟩=some c/\W.cell? ⟨g,3,none⟩=some d
end
section
variable {w W:World}
theorem toDeskB (k:Nat) (A0:Option Addr) (c0:Nat) (l0:List Int) (A1:Option Addr) (c1:Nat) (l1:List (List Int)) (A2:Option Addr) (c2:Nat) (l2:List (S40)) (r1:List Int) (r2:List (List Int)) (r3:List B_) (hb:Below w.heap.size w W) (h0:Kd.C (Kd.int .i64) w A0 l0.length l0) (e0:l0.length<=c0) (h1:Kd.C (Kd.slice 3 (Kd.int .i64)) w A1 l1.length l1) (e1:l1.length<=c1) (h2:Kd.C k40 w A2 l2.length l2) (e2:l2.length<=c2) (h:Gf.f k l0 l1 l2=some (r1,r2,r3)) :
    Calls Try.prog 29 #[.agg #[.slice A0 l0.length c0, .slice A1 l1.length c1, .slice A2 l2.length c2]] W fun e w'=>∃A0 c0 A1 c1 A2 c2 lo hi,e = .returned (.agg #[.slice A0 r1.length c0, .slice A1 r2.length c1, .slice A2 r3.length c2])/\lo=W.heap.size/\lo<=hi/\DkS w.heap.size lo hi (.slice A0 r1.length c0) (.slice A1 r2.length c1) (.slice A2 r3.length c2) r1 r2 r3 w'/\Below W.heap.size W w':=by
  refine(Gf.calls_s k A0 c0 l0 A1 c1 l1 A2 c2 l2 r1 r2 r3 W (Kd.C_below h0 hb) e0 (Kd.C_below h1 hb) e1 (Kd.C_below h2 hb) e2 h).mono ?_
  rintro e w' ⟨v0,v1,v2,rfl,hd,hb2⟩
  obtain⟨g0,g1,g2⟩:=hd.tellR
  obtain⟨A0,c0,rfl⟩:=Kd.R_slice g0
  obtain⟨A1,c1,rfl⟩:=Kd.S_slice g1
  obtain⟨A2,c2,rfl⟩:=Kd.R_slice g2
  exact⟨A0,c0,A1,c1,A2,c2,W.heap.size,w'.heap.size,rfl,rfl,hb2.size,hd.lower hb.size,hb2⟩
theorem doB (k base lo hi:Nat) (A0:Option Addr) (n0 c0:Nat) (A1:Option Addr) (n1 c1:Nat) (A2:Option Addr) (n2 c2:Nat) (l0:List Int) (l1:List (List Int)) (l2:List B_) (a0 a1 a2 a3:Int) (r1:List Int) (r2:List (List Int)) (r3:List B_) (r4:Bool) (hb:Below w.heap.size w W) (hd:DkS base lo hi (.slice A0 n0 c0) (.slice A1 n1 c1) (.slice A2 n2 c2) l0 l1 l2 W) (h:F2.f k l0 l1 l2 a0 a1 a2 a3=some (r1,r2,r3,r4)) :
    Calls Try.prog 56 #[.agg #[.slice A0 n0 c0, .slice A1 n1 c1, .slice A2 n2 c2], .agg #[.int .i64 a0, .int .i64 a1, .int .i64 a2, .int .i64 a3]] W fun e w'=>∃A0 c0 A1 c1 A2 c2 lo hi,e = .returned (.tuple #[.agg #[.slice A0 r1.length c0, .slice A1 r2.length c1, .slice A2 r3.length c2], .bool r4])/\lo=W.heap.size/\lo<=hi/\DkS w.heap.size lo hi (.slice A0 r1.length c0) (.slice A1 r2.length c1) (.slice A2 r3.length c2) r1 r2 r3 w'/\Below W.heap.size W w':=by
  obtain⟨⟨rfl,q1,q2⟩,⟨rfl,q3,q4⟩,rfl,q5,q6⟩:=hd.reads
  refine(F2.calls_s k A0 c0 l0 A1 c1 l1 A2 c2 l2 a0 a1 a2 a3 r1 r2 r3 r4 W q2 q1 q4 q3 q6 q5 h).mono ?_
  rintro e w' ⟨v0,v1,v2,rfl,hd,hb2⟩
  obtain⟨g0,g1,g2⟩:=hd.tellR
  obtain⟨A0,c0,rfl⟩:=Kd.R_slice g0
  obtain⟨A1,c1,rfl⟩:=Kd.S_slice g1
  obtain⟨A2,c2,rfl⟩:=Kd.R_slice g2
  exact⟨A0,c0,A1,c1,A2,c2,W.heap.size,w'.heap.size,rfl,rfl,hb2.size,hd.lower hb.size,hb2⟩
theorem DqS.reads {lo hi:Nat} {A0:Option Addr} {n0 c0:Nat} {A1:Option Addr} {n1 c1:Nat} {A2:Option Addr} {n2 c2:Nat} {c:List Int} {d:List (List Int)} {ps:List B_} (h:DqS lo hi (.slice A0 n0 c0) (.slice A1 n1 c1) (.slice A2 n2 c2) c d ps W):(n0=c.length/\n0<=c0/\Kd.C (Kd.int .i64) W A0 c.length c)/\(n1=d.length/\n1<=c1/\Kd.C (Kd.slice 3 (Kd.int .i64)) W A1 d.length d)/\n2=ps.length/\n2<=c2/\Kd.C k25 W A2 ps.length ps:=by
  obtain⟨_,h0,h1,h2⟩:=h
  obtain⟨rfl,e1,e2⟩:=Kd.R_reads' h0
  obtain⟨rfl,e3,e4⟩:=Kd.S_reads' h1
  obtain⟨rfl,e5,e6⟩:=Kd.Q_reads' h2
  exact⟨⟨rfl,e1,e2⟩,⟨rfl,e3,e4⟩,rfl,e5,e6⟩
theorem doS (k base lo hi:Nat) (A0:Option Addr) (n0 c0:Nat) (A1:Option Addr) (n1 c1:Nat) (A2:Option Addr) (n2 c2:Nat) (l0:List Int) (l1:List (List Int)) (l2:List B_) (a0 a1 a2 a3:Int) (r1:List Int) (r2:List (List Int)) (r3:List B_) (r4:Bool) (hd:DkS base lo hi (.slice A0 n0 c0) (.slice A1 n1 c1) (.slice A2 n2 c2) l0 l1 l2 W) (h:Gy.f k l0 l1 l2 a0 a1 a2 a3=some (r1,r2,r3,r4)) :
    Calls Try.prog 54 #[.agg #[.slice A0 n0 c0, .slice A1 n1 c1, .slice A2 n2 c2], .agg #[.int .i64 a0, .int .i64 a1, .int .i64 a2, .int .i64 a3]] W fun e w'=>∃A0 c0 A1 c1 A2 c2 lo hi,e = .returned (.tuple #[.agg #[.slice A0 r1.length c0, .slice A1 r2.length c1, .slice A2 r3.length c2], .bool r4])/\lo=W.heap.size/\lo<=hi/\DqS lo hi (.slice A0 r1.length c0) (.slice A1 r2.length c1) (.slice A2 r3.length c2) r1 r2 r3 w'/\Below W.heap.size W w':=by
  obtain⟨⟨rfl,q1,q2⟩,⟨rfl,q3,q4⟩,rfl,q5,q6⟩:=hd.reads
  refine(Gy.calls k A0 c0 l0 A1 c1 l1 A2 c2 l2 a0 a1 a2 a3 r1 r2 r3 r4 W q2 q1 q4 q3 q6 q5 h).mono ?_
  rintro e w' ⟨v0,v1,v2,rfl,g0,g1,g2,hb2⟩
  obtain⟨A0,c0,rfl⟩:=Kd.R_slice g0
  obtain⟨A1,c1,rfl⟩:=Kd.S_slice g1
  obtain⟨A2,c2,rfl,_⟩:=Kd.Q_slice g2
  exact⟨A0,c0,A1,c1,A2,c2,W.heap.size,w'.heap.size,rfl,rfl,hb2.size,⟨Nat.le_refl _,Kd.R_lower (Kd.R_mono (Kd.R_bound g0) (fun _ hk=>⟨hk.2.1,hk.2.2.1⟩)) (Nat.zero_le _),Kd.S_lower (Kd.S_mono (Kd.S_bound g1) (fun _ hk=>⟨hk.2.1,hk.2.2.1⟩)) (Nat.zero_le _),Kd.Q_lower (Kd.Q_mono (Kd.Q_bound g2) (fun _ hk=>⟨hk.2.1,hk.2.2.1⟩)) (Nat.zero_le _)⟩,hb2⟩
theorem eqDD (k base lo hi base' lo' hi':Nat) (A0:Option Addr) (n0 c0:Nat) (A1:Option Addr) (n1 c1:Nat) (A2:Option Addr) (n2 c2:Nat) (A3:Option Addr) (n3 c3:Nat) (A4:Option Addr) (n4 c4:Nat) (A5:Option Addr) (n5 c5:Nat) (l0:List Int) (l1:List (List Int)) (l2:List B_) (l3:List Int) (l4:List (List Int)) (l5:List B_) (r:Bool) (hd:DkS base lo hi (.slice A0 n0 c0) (.slice A1 n1 c1) (.slice A2 n2 c2) l0 l1 l2 W) (hd':DkS base' lo' hi' (.slice A3 n3 c3) (.slice A4 n4 c4) (.slice A5 n5 c5) l3 l4 l5 W) (h:Gr.f k l0 l1 l2 l3 l4 l5=some r) :
    Calls Try.prog 17 #[.agg #[.slice A0 n0 c0, .slice A1 n1 c1, .slice A2 n2 c2], .agg #[.slice A3 n3 c3, .slice A4 n4 c4, .slice A5 n5 c5]] W fun e w'=>e = .returned (.bool r)/\Below W.heap.size W w':=by
  obtain⟨⟨rfl,q1,q2⟩,⟨rfl,q3,q4⟩,rfl,q5,q6⟩:=hd.reads
  obtain⟨⟨rfl,s1,s2⟩,⟨rfl,s3,s4⟩,rfl,s5,s6⟩:=hd'.reads
  exact Gr.calls k A0 c0 l0 A1 c1 l1 A2 c2 l2 A3 c3 l3 A4 c4 l4 A5 c5 l5 r W q2 q1 q4 q3 q6 q5 s2 s1 s4 s3 s6 s5 h
theorem eqDQ (k base lo hi lo' hi':Nat) (A0:Option Addr) (n0 c0:Nat) (A1:Option Addr) (n1 c1:Nat) (A2:Option Addr) (n2 c2:Nat) (A3:Option Addr) (n3 c3:Nat) (A4:Option Addr) (n4 c4:Nat) (A5:Option Addr) (n5 c5:Nat) (l0:List Int) (l1:List (List Int)) (l2:List B_) (l3:List Int) (l4:List (List Int)) (l5:List B_) (r:Bool) (hd:DkS base lo hi (.slice A0 n0 c0) (.slice A1 n1 c1) (.slice A2 n2 c2) l0 l1 l2 W) (hd':DqS lo' hi' (.slice A3 n3 c3) (.slice A4 n4 c4) (.slice A5 n5 c5) l3 l4 l5 W) (h:Gr.f k l0 l1 l2 l3 l4 l5=some r) :
    Calls Try.prog 17 #[.agg #[.slice A0 n0 c0, .slice A1 n1 c1, .slice A2 n2 c2], .agg #[.slice A3 n3 c3, .slice A4 n4 c4, .slice A5 n5 c5]] W fun e w'=>e = .returned (.bool r)/\Below W.heap.size W w':=by
  obtain⟨⟨rfl,q1,q2⟩,⟨rfl,q3,q4⟩,rfl,q5,q6⟩:=hd.reads
  obtain⟨⟨rfl,s1,s2⟩,⟨rfl,s3,s4⟩,rfl,s5,s6⟩:=hd'.reads
  exact Gr.calls k A0 c0 l0 A1 c1 l1 A2 c2 l2 A3 c3 l3 A4 c4 l4 A5 c5 l5 r W q2 q1 q4 q3 q6 q5 s2 s1 s4 s3 s6 s5 h
theorem heldD (k base lo hi:Nat) (A0:Option Addr) (n0 c0:Nat) (A1:Option Addr) (n1 c1:Nat) (A2:Option Addr) (n2 c2:Nat) (l0:List Int) (l1:List (List Int)) (l2:List B_) (a r:Int) (hd:DkS base lo hi (.slice A0 n0 c0) (.slice A1 n1 c1) (.slice A2 n2 c2) l0 l1 l2 W) (h:Gz.f k l0 l1 l2 a=some r) :
    Calls Try.prog 19 #[.agg #[.slice A0 n0 c0, .slice A1 n1 c1, .slice A2 n2 c2], .int .i64 a] W fun e w'=>e = .returned (.int .i64 r)/\Below W.heap.size W w':=by
  obtain⟨⟨rfl,q1,q2⟩,⟨rfl,q3,q4⟩,rfl,q5,q6⟩:=hd.reads
  exact Gz.calls k A0 c0 l0 A1 c1 l1 A2 c2 l2 a r W q2 q1 q4 q3 q6 q5 h
end
def Fp.T5:Bool × List (List Nat × List Nat):=(true,[([],[]),([0],[0]),([],[]),([2,1],[2]),([1,3,3],[1,3]),([4],[4]),([5],[5]),([5],[5]),([],[]),([8,6,4,0,1,2,3,4,5,6,8],[6,8]),([7,9,0,1,2,3,4,5,6,7,8,9],[7])])
def Fp.B5:List Nat:=[0,1,0,7,15,31,63,63,0,383,1023]
theorem Fp.tab5:rtab .any (opsOf Try.f11 5)=Fp.T5:=by kernel_rfl
theorem Fp.bits5:waitsOk Fp.T5.2 Fp.B5=true:=by kernel_rfl
def Fp.T7:Bool × List (List Nat × List Nat):=(true,[([],[]),([],[]),([1],[1]),([0,2,2],[0,2]),([3],[3]),([4],[4]),([4],[4]),([],[]),([7,5,3,0,1,2,3,4,5,7],[5,7]),([6,8,0,1,2,3,4,5,6,7,8],[6])])
def Fp.B7:List Nat:=[0,0,2,7,15,31,31,0,191,511]
theorem Fp.tab7:rtab .any (opsOf Try.f11 7)=Fp.T7:=by kernel_rfl
theorem Fp.bits7:waitsOk Fp.T7.2 Fp.B7=true:=by kernel_rfl
def Fp.T24:Bool × List (List Nat × List Nat):=(true,[([],[]),([0],[0]),([],[]),([2,1],[2]),([1,3,3],[1,3]),([4],[4]),([5],[5]),([5],[5]),([],[]),([8,6,4,0,1,2,3,4,5,6,8],[6,8]),([7,9,0,1,2,3,4,5,6,7,8,9],[7])])
def Fp.B24:List Nat:=[0,1,0,7,15,31,63,63,0,383,1023]
theorem Fp.tab24:rtab .any (opsOf Try.f11 24)=Fp.T24:=by kernel_rfl
theorem Fp.bits24:waitsOk Fp.T24.2 Fp.B24=true:=by kernel_rfl
set_option maxHeartbeats 16000000 in
set_option maxRecDepth 100000 in
theorem deskDo_neg (k:Nat) (A0_0:Option Addr) (c0_0:Nat) (l0_0:List Int) (A0_1:Option Addr) (c0_1:Nat) (l0_1:List (List Int)) (A0_2:Option Addr) (c0_2:Nat) (l0_2:List (S40)) (a0 a1 a2 a3 t:Int) (w:World) (hr0:Kd.C (Kd.int .i64) w A0_0 l0_0.length l0_0) (hc0:l0_0.length<=c0_0) (hr1:Kd.C (Kd.slice 3 (Kd.int .i64)) w A0_1 l0_1.length l0_1) (hc1:l0_1.length<=c0_1) (hr2:Kd.C k40 w A0_2 l0_2.length l0_2) (hc2:l0_2.length<=c0_2) (hneg:t < 0) (hsz:Gw.f k l0_0 l0_1 l0_2 1048576=some t) :
    Calls Try.prog 11 #[.agg #[.slice A0_0 l0_0.length c0_0, .slice A0_1 l0_1.length c0_1, .slice A0_2 l0_2.length c0_2], .agg #[.int .i64 a0, .int .i64 a1, .int .i64 a2, .int .i64 a3]] w fun e w'=>e = .returned (.bool true)/\Below w.heap.size w w':=by
  have hu43:=Try.underlying43
  have hu66:=Try.underlying66
  have hu28:=Try.underlying28
  have hu69:=Try.underlying69
  have HR0:=G7.mk hr0
  have HC0:=G7.mk hc0
  have HR1:=G7.mk hr1
  have HC1:=G7.mk hc1
  have HR2:=G7.mk hr2
  have HC2:=G7.mk hc2
  clear hr0 hc0 hr1 hc1 hr2 hc2
  have HA:=G7.mk (show Bn w [] w from⟨Below.refl _ _,fun _ h_=>by simp at h_⟩)
  have hd0:decide (t < 0)=true:=decide_eq_true hneg
  clear hneg
  have HSZ:=G7.mk hsz
  clear hsz
  go_enter Try.func11,Try.ntmps11
  go_wp2_with (first|((with_reducible refine Jb (N:=2) rfl ?_);refine box_event ?hg (N:=2) ?hd (cs:=#[.slice A0_0 l0_0.length c0_0, .slice A0_1 l0_1.length c0_1, .slice A0_2 l0_2.length c0_2]) (t:=43) ?hr ?_;(case hd=>rfl);(case hg=>rfl);(case hr=>first|(go_simp;done)|(go_simp;rfl));intro gD hg w1 hbox hb;replace HA:=Bn.box HA hb hbox;clear hb hbox hg;obtain⟨z2,z3,z4⟩:=Bn.b3 HA gD)|((with_reducible refine Jb (N:=3) rfl ?_);refine box_event ?hg (N:=3) ?hd (cs:=#[.int .i64 a0, .int .i64 a1, .int .i64 a2, .int .i64 a3]) (t:=66) ?hr ?_;(case hd=>rfl);(case hg=>rfl);(case hr=>first|(go_simp;done)|(go_simp;rfl));intro gA hg w5 hbox hb;replace HA:=Bn.box HA hb hbox;clear hb hbox hg;obtain⟨z6,z7,z8⟩:=Bn.b3 HA gD;obtain⟨z9,z10,z11,z12⟩:=Bn.b4 HA gA)|((with_reducible refine Ja (f:=27) rfl ?_);refine goesL_ (some 18) rfl rfl Try.func27 (by kernel_rfl) rfl #[.agg #[.slice A0_0 l0_0.length c0_0, .slice A0_1 l0_1.length c0_1, .slice A0_2 l0_2.length c0_2], .int .i64 1048576] rfl (by(try simp only[List.map_toArray,List.map_cons,List.map_nil]);first|done|rfl|(simp only[List.length_drop,List.length_take];rfl)) ?_;(with_reducible refine(Gw.calls k A0_0 c0_0 l0_0 A0_1 c0_1 l0_1 A0_2 c0_2 l0_2 1048576 t _ ?side1 HC0.out ?side2 HC1.out ?side3 HC2.out HSZ.out).mono ?_);(case side1=>exact Kd.C_below HR0.out (Bn.go HA).1);(case side2=>exact Kd.C_below HR1.out (Bn.go HA).1);(case side3=>exact Kd.C_below HR2.out (Bn.go HA).1);rintro e w13 ⟨rfl,hb⟩;refine⟨_,rfl,?_⟩;replace HA:=Bn.mv HA hb;clear hb;obtain⟨z14,z15,z16⟩:=Bn.b3 HA gD;obtain⟨z17,z18,z19,z20⟩:=Bn.b4 HA gA))
  go_ret
  exact⟨by first|rfl|(simp;done)|(simp[*];done),(Bn.go HA).1⟩
set_option maxHeartbeats 16000000 in
set_option maxRecDepth 100000 in
theorem deskDo_walk (k:Nat) (A0_0:Option Addr) (c0_0:Nat) (l0_0:List Int) (A0_1:Option Addr) (c0_1:Nat) (l0_1:List (List Int)) (A0_2:Option Addr) (c0_2:Nat) (l0_2:List (S40)) (a0 a1 a2 a3 t:Int) (w:World) (hr0:Kd.C (Kd.int .i64) w A0_0 l0_0.length l0_0) (hc0:l0_0.length<=c0_0) (hr1:Kd.C (Kd.slice 3 (Kd.int .i64)) w A0_1 l0_1.length l0_1) (hc1:l0_1.length<=c0_1) (hr2:Kd.C k40 w A0_2 l0_2.length l0_2) (hc2:l0_2.length<=c0_2) (m0 m:Int) (ps r3 x3 y3:List B_) (r1 x1 y1:List Int) (r2 x2 y2:List (List Int)) (r4:Bool) (hneg:¬ t < 0) (hneg0:¬ m0 < 0) (hnegm:¬ m < 0) (hsz:Gw.f k l0_0 l0_1 l0_2 1048576=some t) (hto:Gf.f k l0_0 l0_1 l0_2=some (l0_0,l0_1,ps)) (hde:Gx.f a0 a1 a2 a3=some (a0,a1,a2,a3)) (hsp:Gy.f k l0_0 l0_1 ps a0 a1 a2 a3=some (r1,r2,r3,r4)) (him:F2.f k l0_0 l0_1 ps a0 a1 a2 a3=some (r1,r2,r3,r4)) (he1:Gr.f k r1 r2 r3 r1 r2 r3=some true) (he2:Gr.f k l0_0 l0_1 ps l0_0 l0_1 ps=some true) (hm0:Gu.f k l0_0 l0_1 ps 1=some (m0,x1,x2,x3)) (hm:Gu.f k r1 r2 r3 1=some (m,y1,y2,y3)) (hhd:Gz.f k y1 y2 y3 1=some m) :
    Calls Try.prog 11 #[.agg #[.slice A0_0 l0_0.length c0_0, .slice A0_1 l0_1.length c0_1, .slice A0_2 l0_2.length c0_2], .agg #[.int .i64 a0, .int .i64 a1, .int .i64 a2, .int .i64 a3]] w fun e w'=>e = .returned (.bool true)/\Below w.heap.size w w':=by
  have hu43:=Try.underlying43
  have hu66:=Try.underlying66
  have hu28:=Try.underlying28
  have hu69:=Try.underlying69
  have HR0:=G7.mk hr0
  have HC0:=G7.mk hc0
  have HR1:=G7.mk hr1
  have HC1:=G7.mk hc1
  have HR2:=G7.mk hr2
  have HC2:=G7.mk hc2
  clear hr0 hc0 hr1 hc1 hr2 hc2
  have HA:=G7.mk (show Bn w [] w from⟨Below.refl _ _,fun _ h_=>by simp at h_⟩)
  have hd0:decide (t < 0)=false:=decide_eq_false hneg
  have hd1:decide (m0 < 0)=false:=decide_eq_false hneg0
  have hd2:decide (m < 0)=false:=decide_eq_false hnegm
  clear hneg hneg0 hnegm
  have HSZ:=G7.mk hsz
  have HTO:=G7.mk hto
  have HDE:=G7.mk hde
  have HSP:=G7.mk hsp
  have HIM:=G7.mk him
  have HE1:=G7.mk he1
  have HE2:=G7.mk he2
  have HM0:=G7.mk hm0
  have HM:=G7.mk hm
  have HHD:=G7.mk hhd
  clear hsz hto hde hsp him he1 he2 hm0 hm hhd
  go_enter Try.func11,Try.ntmps11
  go_wp2_with (first|((with_reducible refine Jb (N:=2) rfl ?_);refine box_event ?hg (N:=2) ?hd (cs:=#[.slice A0_0 l0_0.length c0_0, .slice A0_1 l0_1.length c0_1, .slice A0_2 l0_2.length c0_2]) (t:=43) ?hr ?_;(case hd=>rfl);(case hg=>rfl);(case hr=>first|(go_simp;done)|(go_simp;rfl));intro gD hg w1 hbox hb;replace HA:=Bn.box HA hb hbox;clear hb hbox hg;obtain⟨z2,z3,z4⟩:=Bn.b3 HA gD)|((with_reducible refine Jb (N:=3) rfl ?_);refine box_event ?hg (N:=3) ?hd (cs:=#[.int .i64 a0, .int .i64 a1, .int .i64 a2, .int .i64 a3]) (t:=66) ?hr ?_;(case hd=>rfl);(case hg=>rfl);(case hr=>first|(go_simp;done)|(go_simp;rfl));intro gA hg w5 hbox hb;replace HA:=Bn.box HA hb hbox;clear hb hbox hg;obtain⟨z6,z7,z8⟩:=Bn.b3 HA gD;obtain⟨z9,z10,z11,z12⟩:=Bn.b4 HA gA)|((with_reducible refine Ja (f:=27) rfl ?_);refine goesL_ (some 18) rfl rfl Try.func27 (by kernel_rfl) rfl #[.agg #[.slice A0_0 l0_0.length c0_0, .slice A0_1 l0_1.length c0_1, .slice A0_2 l0_2.length c0_2], .int .i64 1048576] rfl (by(try simp only[List.map_toArray,List.map_cons,List.map_nil]);first|done|rfl|(simp only[List.length_drop,List.length_take];rfl)) ?_;(with_reducible refine(Gw.calls k A0_0 c0_0 l0_0 A0_1 c0_1 l0_1 A0_2 c0_2 l0_2 1048576 t _ ?side1 HC0.out ?side2 HC1.out ?side3 HC2.out HSZ.out).mono ?_);(case side1=>exact Kd.C_below HR0.out (Bn.go HA).1);(case side2=>exact Kd.C_below HR1.out (Bn.go HA).1);(case side3=>exact Kd.C_below HR2.out (Bn.go HA).1);rintro e w13 ⟨rfl,hb⟩;refine⟨_,rfl,?_⟩;replace HA:=Bn.mv HA hb;clear hb;obtain⟨z14,z15,z16⟩:=Bn.b3 HA gD;obtain⟨z17,z18,z19,z20⟩:=Bn.b4 HA gA))
  replace HA:=G7.mk (Bn.drew HA.out)
  refine start_ (n:=11) (S:=fun w'=>c3_ w' gD (.slice A0_0 l0_0.length c0_0) (.slice A0_1 l0_1.length c0_1) (.slice A0_2 l0_2.length c0_2)/\c4_ w' gA (.int .i64 a0) (.int .i64 a1) (.int .i64 a2) (.int .i64 a3)) (ds:=[]) #[false,false,false,false,false,false,false,false,false,false,false] (by kernel_rfl) rfl rfl ⟨Bn.b3 HA gD,Bn.b4 HA gA⟩ (fun hHeld=>?_);refine Js Fp.tab5 Fp.bits5 (fun HT_ HW_=>?_)
  generalize w13.drew=w21 at HA hHeld |-
  refine take_ (i:=0) (N:=some 22) (v:=?_) (a':=?_) #[true,false,false,false,false,false,false,false,false,false,false] rfl rfl (take_ofW HT_.out HW_.out (by kernel_rfl)) (fun _ _ _ h=>h) (Or.inl ⟨by rfl,?_⟩) hHeld ?_ ?_
  rotate_left
  · rintro w' ⟨⟨s0,s1,s2⟩,⟨s3,s4,s5,s6⟩⟩
    go_simp
    with_reducible rfl
  rotate_left
  · simp only[Act.put,List.setIfInBounds_toArray,List.set_cons_zero,List.set_cons_succ,i64_w,i32_w]
    rfl
  refine take_ (i:=2) (N:=some 24) (v:=?_) (a':=?_) #[true,false,true,false,false,false,false,false,false,false,false] rfl rfl (take_ofW HT_.out HW_.out (by kernel_rfl)) (fun _ _ _ h=>h) (Or.inl ⟨by rfl,?_⟩) hHeld ?_ ?_
  rotate_left
  · rintro w' ⟨⟨s0,s1,s2⟩,⟨s3,s4,s5,s6⟩⟩
    go_simp
    with_reducible rfl
  rotate_left
  · simp only[Act.put,List.setIfInBounds_toArray,List.set_cons_zero,List.set_cons_succ,i64_w,i32_w]
    rfl
  refine join_ (σ:=Option Addr × Nat × Option Addr × Nat × Option Addr × Nat × Option Addr × Nat × Option Addr × Nat × Option Addr × Nat × Nat) 2 #[true,true,true,true,true,true,true,true,true,false,false] (fun s_=>[(23, .agg #[.slice s_.1 l0_0.length s_.2.1, .slice s_.2.2.1 l0_1.length s_.2.2.2.1, .slice s_.2.2.2.2.1 ps.length s_.2.2.2.2.2.1]),(25, .agg #[.int .i64 a0, .int .i64 a1, .int .i64 a2, .int .i64 a3]),(26, .tuple #[.agg #[.slice s_.2.2.2.2.2.2.1 r1.length s_.2.2.2.2.2.2.2.1, .slice s_.2.2.2.2.2.2.2.2.1 r2.length s_.2.2.2.2.2.2.2.2.2.1, .slice s_.2.2.2.2.2.2.2.2.2.2.1 r3.length s_.2.2.2.2.2.2.2.2.2.2.2.1], .bool r4]),(6, .pointer (some ⟨s_.2.2.2.2.2.2.2.2.2.2.2.2,0,none⟩)),(21, .tuple #[.agg #[.slice s_.2.2.2.2.2.2.1 r1.length s_.2.2.2.2.2.2.2.1, .slice s_.2.2.2.2.2.2.2.2.1 r2.length s_.2.2.2.2.2.2.2.2.2.1, .slice s_.2.2.2.2.2.2.2.2.2.2.1 r3.length s_.2.2.2.2.2.2.2.2.2.2.2.1], .bool r4]),(27, .agg #[.slice s_.2.2.2.2.2.2.1 r1.length s_.2.2.2.2.2.2.2.1, .slice s_.2.2.2.2.2.2.2.2.1 r2.length s_.2.2.2.2.2.2.2.2.2.1, .slice s_.2.2.2.2.2.2.2.2.2.2.1 r3.length s_.2.2.2.2.2.2.2.2.2.2.2.1]),(28, .bool r4)]) (fun s_ w'=>(c3_ w' gD (.slice A0_0 l0_0.length c0_0) (.slice A0_1 l0_1.length c0_1) (.slice A0_2 l0_2.length c0_2)/\c4_ w' gA (.int .i64 a0) (.int .i64 a1) (.int .i64 a2) (.int .i64 a3))/\Bn w [bx gA #[.int .i64 a0, .int .i64 a1, .int .i64 a2, .int .i64 a3] 66,bx gD #[.slice A0_0 l0_0.length c0_0, .slice A0_1 l0_1.length c0_1, .slice A0_2 l0_2.length c0_2] 43] w'/\(∃lo_ hi_:Nat,DqS lo_ hi_ (.slice s_.2.2.2.2.2.2.1 r1.length s_.2.2.2.2.2.2.2.1) (.slice s_.2.2.2.2.2.2.2.2.1 r2.length s_.2.2.2.2.2.2.2.2.2.1) (.slice s_.2.2.2.2.2.2.2.2.2.2.1 r3.length s_.2.2.2.2.2.2.2.2.2.2.2.1) r1 r2 r3 w'/\w'.heap[s_.2.2.2.2.2.2.2.2.2.2.2.2]? = some (.cells #[.slice none 0 0, .slice none 0 0, .slice none 0 0] 28 (0,0))/\(hi_<=s_.2.2.2.2.2.2.2.2.2.2.2.2 ∨ s_.2.2.2.2.2.2.2.2.2.2.2.2 < lo_)/\Dj s_.2.2.2.2.2.2.2.2.2.2.2.2 (s_.2.2.2.2.2.2.2.2.2.2.2.2 + 1) [bx gA #[.int .i64 a0, .int .i64 a1, .int .i64 a2, .int .i64 a3] 66,bx gD #[.slice A0_0 l0_0.length c0_0, .slice A0_1 l0_1.length c0_1, .slice A0_2 l0_2.length c0_2] 43]/\w.heap.size<=s_.2.2.2.2.2.2.2.2.2.2.2.2/\Dj lo_ hi_ [bx gA #[.int .i64 a0, .int .i64 a1, .int .i64 a2, .int .i64 a3] 66,bx gD #[.slice A0_0 l0_0.length c0_0, .slice A0_1 l0_1.length c0_1, .slice A0_2 l0_2.length c0_2] 43]/\lo_<=hi_)) ?_ ?_
  rotate_left
  · intro hCont
    refine two_ (i:=1) (j:=8) (Ni:=some 23) (Nj:=some 6) #[true,true,true,false,false,false,false,false,false,false,false] #[true,false,true,false,false,false,false,false,true,false,false] rfl rfl rfl rfl (two_of HT_.out (by kernel_rfl)) (by decide) (by decide) (fun K hK=>?_) (fun K hK=>?_)
    · skip
      refine goes_ Try.func29 (by kernel_rfl) rfl #[.agg #[.slice A0_0 l0_0.length c0_0, .slice A0_1 l0_1.length c0_1, .slice A0_2 l0_2.length c0_2]] (by rfl) rfl rfl (by(try simp only[List.map_toArray,List.map_cons,List.map_nil]);first|done|rfl|(simp only[List.length_drop,List.length_take];rfl)) ?_
      with_reducible refine(toDeskB k A0_0 c0_0 l0_0 A0_1 c0_1 l0_1 A0_2 c0_2 l0_2 l0_0 l0_1 ps ?side1 HR0.out HC0.out HR1.out HC1.out HR2.out HC2.out HTO.out).mono ?_
      (case side1=>exact(Bn.go HA).1)
      rintro e w22 ⟨AP0,cP0,AP1,cP1,AP2,cP2,loP,hiP,rfl,hlo_,hle_,hd_,hb⟩
      refine⟨_,rfl,?_⟩
      have DJP:=Bn.dj (n:=hiP) HA hlo_
      replace HA:=Bn.mv HA hb
      have HP:=G7.mk hd_
      have OLP:=G7.mk hle_
      clear hb hlo_ hle_ hd_
      refine hK.out _ _ ⟨Bn.b3 HA gD,Bn.b4 HA gA⟩ (fun hHeld=>?_)
      clear hK K
      refine norm_ (a':=?_) ?_ ?_
      rotate_left
      · show Act.put _ (some 23) _=_
        simp only[Act.put,List.setIfInBounds_toArray,List.set_cons_zero,List.set_cons_succ,i64_w,i32_w]
        rfl
      refine two_ (i:=3) (j:=8) (Ni:=some 25) (Nj:=some 6) #[true,true,true,true,false,false,false,false,false,false,false] #[true,true,true,false,false,false,false,false,true,false,false] rfl rfl rfl rfl (two_of HT_.out (by kernel_rfl)) (by decide) (by decide) (fun K hK=>?_) (fun K hK=>?_)
      · skip
        refine goes_ Try.func55 (by kernel_rfl) rfl #[.agg #[.int .i64 a0, .int .i64 a1, .int .i64 a2, .int .i64 a3]] (by rfl) rfl rfl (by(try simp only[List.map_toArray,List.map_cons,List.map_nil]);first|done|rfl|(simp only[List.length_drop,List.length_take];rfl)) ?_
        with_reducible refine(Gx.calls a0 a1 a2 a3 a0 a1 a2 a3 _ HDE.out).mono ?_
        rintro e w23 ⟨rfl,hb⟩
        refine⟨_,rfl,?_⟩
        replace HA:=Bn.mv HA hb
        replace HP:=DkS.mw HP hb
        clear hb
        refine hK.out _ _ ⟨Bn.b3 HA gD,Bn.b4 HA gA⟩ (fun hHeld=>?_)
        clear hK K
        refine norm_ (a':=?_) ?_ ?_
        rotate_left
        · show Act.put _ (some 25) _=_
          simp only[Act.put,List.setIfInBounds_toArray,List.set_cons_zero,List.set_cons_succ,i64_w,i32_w]
          rfl
        refine two_ (i:=4) (j:=8) (Ni:=some 26) (Nj:=some 6) #[true,true,true,true,true,false,false,false,false,false,false] #[true,true,true,true,false,false,false,false,true,false,false] rfl rfl rfl rfl (two_of HT_.out (by kernel_rfl)) (by decide) (by decide) (fun K hK=>?_) (fun K hK=>?_)
        · skip
          refine goes_ Try.func54 (by kernel_rfl) rfl #[.agg #[.slice AP0 l0_0.length cP0, .slice AP1 l0_1.length cP1, .slice AP2 ps.length cP2], .agg #[.int .i64 a0, .int .i64 a1, .int .i64 a2, .int .i64 a3]] (by rfl) rfl rfl (by(try simp only[List.map_toArray,List.map_cons,List.map_nil]);first|done|rfl|(simp only[List.length_drop,List.length_take];rfl)) ?_
          with_reducible refine(doS k w.heap.size loP hiP _ _ _ _ _ _ _ _ _ l0_0 l0_1 ps a0 a1 a2 a3 r1 r2 r3 r4 ?side1 HSP.out).mono ?_
          (case side1=>exact DkS.gw HP)
          rintro e w24 ⟨AW0,cW0,AW1,cW1,AW2,cW2,loW,hiW,rfl,hlo_,hle_,hd_,hb⟩
          refine⟨_,rfl,?_⟩
          have OPW:=DkS.gg HP hlo_
          have DJW:=Bn.dj (n:=hiW) HA hlo_
          replace HA:=Bn.mv HA hb
          replace HP:=DkS.mw HP hb
          have HW:=G7.mk hd_
          have OLW:=G7.mk hle_
          clear hb hlo_ hle_ hd_
          refine hK.out _ _ ⟨Bn.b3 HA gD,Bn.b4 HA gA⟩ (fun hHeld=>?_)
          clear hK K
          refine norm_ (a':=?_) ?_ ?_
          rotate_left
          · show Act.put _ (some 26) _=_
            simp only[Act.put,List.setIfInBounds_toArray,List.set_cons_zero,List.set_cons_succ,i64_w,i32_w]
            rfl
          refine pure_ (i:=5) (N:=some 21) (v:=?_) (a':=?_) #[true,true,true,true,true,true,false,false,false,false,false] rfl rfl (any_of HT_.out (by kernel_rfl)) (fun _ _ _ h=>h) (Or.inl ⟨by rfl,?_⟩) ?_ ?_
          rotate_left
          · intro w'
            go_simp
            with_reducible rfl
          rotate_left
          · simp only[Act.put,List.setIfInBounds_toArray,List.set_cons_zero,List.set_cons_succ,i64_w,i32_w]
            rfl
          refine pure_ (i:=6) (N:=some 27) (v:=?_) (a':=?_) #[true,true,true,true,true,true,true,false,false,false,false] rfl rfl (any_of HT_.out (by kernel_rfl)) (fun _ _ _ h=>h) (Or.inl ⟨by rfl,?_⟩) ?_ ?_
          rotate_left
          · intro w'
            go_simp
            with_reducible rfl
          rotate_left
          · simp only[Act.put,List.setIfInBounds_toArray,List.set_cons_zero,List.set_cons_succ,i64_w,i32_w]
            rfl
          refine pure_ (i:=7) (N:=some 28) (v:=?_) (a':=?_) #[true,true,true,true,true,true,true,true,false,false,false] rfl rfl (any_of HT_.out (by kernel_rfl)) (fun _ _ _ h=>h) (Or.inl ⟨by rfl,?_⟩) ?_ ?_
          rotate_left
          · intro w'
            go_simp
            with_reducible rfl
          rotate_left
          · simp only[Act.put,List.setIfInBounds_toArray,List.set_cons_zero,List.set_cons_succ,i64_w,i32_w]
            rfl
          refine one_ (i:=8) (N:=some 6) #[true,true,true,true,true,true,true,true,true,false,false] rfl rfl (Ju HT_.out (by kernel_rfl)) (by decide) (fun K hK=>?_)
          refine box_step ?hg (N:=6) ?hd (cs:=#[.slice none 0 0, .slice none 0 0, .slice none 0 0]) (t:=28) ?hr ?_;(case hd=>rfl);(case hg=>rfl);(case hr=>first|(go_simp;done)|(go_simp;rfl))
          intro g6 hg w25 hbox hb
          have DG:=Bn.dj (n:=g6 + 1) HA hg
          have GW:=Bn.wg HA hg
          have OBP:=DkS.gg HP hg
          have OBW:=DqS.gg HW hg
          replace HA:=Bn.mv HA hb
          replace HP:=DkS.mw HP hb
          replace HW:=DqS.mw HW hb
          have BKp:=G7.mk hbox
          clear hb hbox hg
          refine hK.out _ _ ⟨Bn.b3 HA gD,Bn.b4 HA gA⟩ (fun hHeld=>?_)
          clear hK K
          refine norm_ (a':=?_) ?_ ?_
          rotate_left
          · show Act.put _ (some 6) _=_
            simp only[Act.put,List.setIfInBounds_toArray,List.set_cons_zero,List.set_cons_succ,i64_w,i32_w]
            rfl
          exact norm_ (by simp only[putAll,Act.put,List.setIfInBounds_toArray,List.set_cons_zero,List.set_cons_succ]) (hCont (AP0,cP0,AP1,cP1,AP2,cP2,AW0,cW0,AW1,cW1,AW2,cW2,g6) _ ⟨hHeld,HA.out,⟨loW,hiW,HW.out,BKp.out,(.inl OBW.out),DG.out,GW.out,DJW.out,OLW.out⟩⟩)
        · skip
          refine box_step ?hg (N:=6) ?hd (cs:=#[.slice none 0 0, .slice none 0 0, .slice none 0 0]) (t:=28) ?hr ?_;(case hd=>rfl);(case hg=>rfl);(case hr=>first|(go_simp;done)|(go_simp;rfl))
          intro g6 hg w26 hbox hb
          have DG:=Bn.dj (n:=g6 + 1) HA hg
          have GW:=Bn.wg HA hg
          have OBP:=DkS.gg HP hg
          replace HA:=Bn.mv HA hb
          replace HP:=DkS.mw HP hb
          have BKp:=G7.mk hbox
          clear hb hbox hg
          refine hK.out _ _ ⟨Bn.b3 HA gD,Bn.b4 HA gA⟩ (fun hHeld=>?_)
          clear hK K
          refine norm_ (a':=?_) ?_ ?_
          rotate_left
          · show Act.put _ (some 6) _=_
            simp only[Act.put,List.setIfInBounds_toArray,List.set_cons_zero,List.set_cons_succ,i64_w,i32_w]
            rfl
          refine one_ (i:=4) (N:=some 26) #[true,true,true,true,true,false,false,false,true,false,false] rfl rfl (Ju HT_.out (by kernel_rfl)) (by decide) (fun K hK=>?_)
          refine goes_ Try.func54 (by kernel_rfl) rfl #[.agg #[.slice AP0 l0_0.length cP0, .slice AP1 l0_1.length cP1, .slice AP2 ps.length cP2], .agg #[.int .i64 a0, .int .i64 a1, .int .i64 a2, .int .i64 a3]] (by rfl) rfl rfl (by(try simp only[List.map_toArray,List.map_cons,List.map_nil]);first|done|rfl|(simp only[List.length_drop,List.length_take];rfl)) ?_
          with_reducible refine(doS k w.heap.size loP hiP _ _ _ _ _ _ _ _ _ l0_0 l0_1 ps a0 a1 a2 a3 r1 r2 r3 r4 ?side1 HSP.out).mono ?_
          (case side1=>exact DkS.gw HP)
          rintro e w27 ⟨AW0,cW0,AW1,cW1,AW2,cW2,loW,hiW,rfl,hlo_,hle_,hd_,hb⟩
          refine⟨_,rfl,?_⟩
          have OPW:=DkS.gg HP hlo_
          have DJW:=Bn.dj (n:=hiW) HA hlo_
          have OPW:=blk_ge BKp hlo_
          replace HA:=Bn.mv HA hb
          replace HP:=DkS.mw HP hb
          replace BKp:=blk_mv BKp hb
          have HW:=G7.mk hd_
          have OLW:=G7.mk hle_
          clear hb hlo_ hle_ hd_
          refine hK.out _ _ ⟨Bn.b3 HA gD,Bn.b4 HA gA⟩ (fun hHeld=>?_)
          clear hK K
          refine norm_ (a':=?_) ?_ ?_
          rotate_left
          · show Act.put _ (some 26) _=_
            simp only[Act.put,List.setIfInBounds_toArray,List.set_cons_zero,List.set_cons_succ,i64_w,i32_w]
            rfl
          refine pure_ (i:=5) (N:=some 21) (v:=?_) (a':=?_) #[true,true,true,true,true,true,false,false,true,false,false] rfl rfl (any_of HT_.out (by kernel_rfl)) (fun _ _ _ h=>h) (Or.inl ⟨by rfl,?_⟩) ?_ ?_
          rotate_left
          · intro w'
            go_simp
            with_reducible rfl
          rotate_left
          · simp only[Act.put,List.setIfInBounds_toArray,List.set_cons_zero,List.set_cons_succ,i64_w,i32_w]
            rfl
          refine pure_ (i:=6) (N:=some 27) (v:=?_) (a':=?_) #[true,true,true,true,true,true,true,false,true,false,false] rfl rfl (any_of HT_.out (by kernel_rfl)) (fun _ _ _ h=>h) (Or.inl ⟨by rfl,?_⟩) ?_ ?_
          rotate_left
          · intro w'
            go_simp
            with_reducible rfl
          rotate_left
          · simp only[Act.put,List.setIfInBounds_toArray,List.set_cons_zero,List.set_cons_succ,i64_w,i32_w]
            rfl
          refine pure_ (i:=7) (N:=some 28) (v:=?_) (a':=?_) #[true,true,true,true,true,true,true,true,true,false,false] rfl rfl (any_of HT_.out (by kernel_rfl)) (fun _ _ _ h=>h) (Or.inl ⟨by rfl,?_⟩) ?_ ?_
          rotate_left
          · intro w'
            go_simp
            with_reducible rfl
          rotate_left
          · simp only[Act.put,List.setIfInBounds_toArray,List.set_cons_zero,List.set_cons_succ,i64_w,i32_w]
            rfl
          exact norm_ (by simp only[putAll,Act.put,List.setIfInBounds_toArray,List.set_cons_zero,List.set_cons_succ]) (hCont (AP0,cP0,AP1,cP1,AP2,cP2,AW0,cW0,AW1,cW1,AW2,cW2,g6) _ ⟨hHeld,HA.out,⟨loW,hiW,HW.out,BKp.out,(.inr OPW.out),DG.out,GW.out,DJW.out,OLW.out⟩⟩)
      · skip
        refine box_step ?hg (N:=6) ?hd (cs:=#[.slice none 0 0, .slice none 0 0, .slice none 0 0]) (t:=28) ?hr ?_;(case hd=>rfl);(case hg=>rfl);(case hr=>first|(go_simp;done)|(go_simp;rfl))
        intro g6 hg w28 hbox hb
        have DG:=Bn.dj (n:=g6 + 1) HA hg
        have GW:=Bn.wg HA hg
        have OBP:=DkS.gg HP hg
        replace HA:=Bn.mv HA hb
        replace HP:=DkS.mw HP hb
        have BKp:=G7.mk hbox
        clear hb hbox hg
        refine hK.out _ _ ⟨Bn.b3 HA gD,Bn.b4 HA gA⟩ (fun hHeld=>?_)
        clear hK K
        refine norm_ (a':=?_) ?_ ?_
        rotate_left
        · show Act.put _ (some 6) _=_
          simp only[Act.put,List.setIfInBounds_toArray,List.set_cons_zero,List.set_cons_succ,i64_w,i32_w]
          rfl
        refine one_ (i:=3) (N:=some 25) #[true,true,true,true,false,false,false,false,true,false,false] rfl rfl (Ju HT_.out (by kernel_rfl)) (by decide) (fun K hK=>?_)
        refine goes_ Try.func55 (by kernel_rfl) rfl #[.agg #[.int .i64 a0, .int .i64 a1, .int .i64 a2, .int .i64 a3]] (by rfl) rfl rfl (by(try simp only[List.map_toArray,List.map_cons,List.map_nil]);first|done|rfl|(simp only[List.length_drop,List.length_take];rfl)) ?_
        with_reducible refine(Gx.calls a0 a1 a2 a3 a0 a1 a2 a3 _ HDE.out).mono ?_
        rintro e w29 ⟨rfl,hb⟩
        refine⟨_,rfl,?_⟩
        replace HA:=Bn.mv HA hb
        replace HP:=DkS.mw HP hb
        replace BKp:=blk_mv BKp hb
        clear hb
        refine hK.out _ _ ⟨Bn.b3 HA gD,Bn.b4 HA gA⟩ (fun hHeld=>?_)
        clear hK K
        refine norm_ (a':=?_) ?_ ?_
        rotate_left
        · show Act.put _ (some 25) _=_
          simp only[Act.put,List.setIfInBounds_toArray,List.set_cons_zero,List.set_cons_succ,i64_w,i32_w]
          rfl
        refine one_ (i:=4) (N:=some 26) #[true,true,true,true,true,false,false,false,true,false,false] rfl rfl (Ju HT_.out (by kernel_rfl)) (by decide) (fun K hK=>?_)
        refine goes_ Try.func54 (by kernel_rfl) rfl #[.agg #[.slice AP0 l0_0.length cP0, .slice AP1 l0_1.length cP1, .slice AP2 ps.length cP2], .agg #[.int .i64 a0, .int .i64 a1, .int .i64 a2, .int .i64 a3]] (by rfl) rfl rfl (by(try simp only[List.map_toArray,List.map_cons,List.map_nil]);first|done|rfl|(simp only[List.length_drop,List.length_take];rfl)) ?_
        with_reducible refine(doS k w.heap.size loP hiP _ _ _ _ _ _ _ _ _ l0_0 l0_1 ps a0 a1 a2 a3 r1 r2 r3 r4 ?side1 HSP.out).mono ?_
        (case side1=>exact DkS.gw HP)
        rintro e w30 ⟨AW0,cW0,AW1,cW1,AW2,cW2,loW,hiW,rfl,hlo_,hle_,hd_,hb⟩
        refine⟨_,rfl,?_⟩
        have OPW:=DkS.gg HP hlo_
        have DJW:=Bn.dj (n:=hiW) HA hlo_
        have OPW:=blk_ge BKp hlo_
        replace HA:=Bn.mv HA hb
        replace HP:=DkS.mw HP hb
        replace BKp:=blk_mv BKp hb
        have HW:=G7.mk hd_
        have OLW:=G7.mk hle_
        clear hb hlo_ hle_ hd_
        refine hK.out _ _ ⟨Bn.b3 HA gD,Bn.b4 HA gA⟩ (fun hHeld=>?_)
        clear hK K
        refine norm_ (a':=?_) ?_ ?_
        rotate_left
        · show Act.put _ (some 26) _=_
          simp only[Act.put,List.setIfInBounds_toArray,List.set_cons_zero,List.set_cons_succ,i64_w,i32_w]
          rfl
        refine pure_ (i:=5) (N:=some 21) (v:=?_) (a':=?_) #[true,true,true,true,true,true,false,false,true,false,false] rfl rfl (any_of HT_.out (by kernel_rfl)) (fun _ _ _ h=>h) (Or.inl ⟨by rfl,?_⟩) ?_ ?_
        rotate_left
        · intro w'
          go_simp
          with_reducible rfl
        rotate_left
        · simp only[Act.put,List.setIfInBounds_toArray,List.set_cons_zero,List.set_cons_succ,i64_w,i32_w]
          rfl
        refine pure_ (i:=6) (N:=some 27) (v:=?_) (a':=?_) #[true,true,true,true,true,true,true,false,true,false,false] rfl rfl (any_of HT_.out (by kernel_rfl)) (fun _ _ _ h=>h) (Or.inl ⟨by rfl,?_⟩) ?_ ?_
        rotate_left
        · intro w'
          go_simp
          with_reducible rfl
        rotate_left
        · simp only[Act.put,List.setIfInBounds_toArray,List.set_cons_zero,List.set_cons_succ,i64_w,i32_w]
          rfl
        refine pure_ (i:=7) (N:=some 28) (v:=?_) (a':=?_) #[true,true,true,true,true,true,true,true,true,false,false] rfl rfl (any_of HT_.out (by kernel_rfl)) (fun _ _ _ h=>h) (Or.inl ⟨by rfl,?_⟩) ?_ ?_
        rotate_left
        · intro w'
          go_simp
          with_reducible rfl
        rotate_left
        · simp only[Act.put,List.setIfInBounds_toArray,List.set_cons_zero,List.set_cons_succ,i64_w,i32_w]
          rfl
        exact norm_ (by simp only[putAll,Act.put,List.setIfInBounds_toArray,List.set_cons_zero,List.set_cons_succ]) (hCont (AP0,cP0,AP1,cP1,AP2,cP2,AW0,cW0,AW1,cW1,AW2,cW2,g6) _ ⟨hHeld,HA.out,⟨loW,hiW,HW.out,BKp.out,(.inr OPW.out),DG.out,GW.out,DJW.out,OLW.out⟩⟩)
    · skip
      refine box_step ?hg (N:=6) ?hd (cs:=#[.slice none 0 0, .slice none 0 0, .slice none 0 0]) (t:=28) ?hr ?_;(case hd=>rfl);(case hg=>rfl);(case hr=>first|(go_simp;done)|(go_simp;rfl))
      intro g6 hg w31 hbox hb
      have DG:=Bn.dj (n:=g6 + 1) HA hg
      have GW:=Bn.wg HA hg
      replace HA:=Bn.mv HA hb
      have BKp:=G7.mk hbox
      clear hb hbox hg
      refine hK.out _ _ ⟨Bn.b3 HA gD,Bn.b4 HA gA⟩ (fun hHeld=>?_)
      clear hK K
      refine norm_ (a':=?_) ?_ ?_
      rotate_left
      · show Act.put _ (some 6) _=_
        simp only[Act.put,List.setIfInBounds_toArray,List.set_cons_zero,List.set_cons_succ,i64_w,i32_w]
        rfl
      refine one_ (i:=1) (N:=some 23) #[true,true,true,false,false,false,false,false,true,false,false] rfl rfl (Ju HT_.out (by kernel_rfl)) (by decide) (fun K hK=>?_)
      refine goes_ Try.func29 (by kernel_rfl) rfl #[.agg #[.slice A0_0 l0_0.length c0_0, .slice A0_1 l0_1.length c0_1, .slice A0_2 l0_2.length c0_2]] (by rfl) rfl rfl (by(try simp only[List.map_toArray,List.map_cons,List.map_nil]);first|done|rfl|(simp only[List.length_drop,List.length_take];rfl)) ?_
      with_reducible refine(toDeskB k A0_0 c0_0 l0_0 A0_1 c0_1 l0_1 A0_2 c0_2 l0_2 l0_0 l0_1 ps ?side1 HR0.out HC0.out HR1.out HC1.out HR2.out HC2.out HTO.out).mono ?_
      (case side1=>exact(Bn.go HA).1)
      rintro e w32 ⟨AP0,cP0,AP1,cP1,AP2,cP2,loP,hiP,rfl,hlo_,hle_,hd_,hb⟩
      refine⟨_,rfl,?_⟩
      have DJP:=Bn.dj (n:=hiP) HA hlo_
      have OPP:=blk_ge BKp hlo_
      replace HA:=Bn.mv HA hb
      replace BKp:=blk_mv BKp hb
      have HP:=G7.mk hd_
      have OLP:=G7.mk hle_
      clear hb hlo_ hle_ hd_
      refine hK.out _ _ ⟨Bn.b3 HA gD,Bn.b4 HA gA⟩ (fun hHeld=>?_)
      clear hK K
      refine norm_ (a':=?_) ?_ ?_
      rotate_left
      · show Act.put _ (some 23) _=_
        simp only[Act.put,List.setIfInBounds_toArray,List.set_cons_zero,List.set_cons_succ,i64_w,i32_w]
        rfl
      refine one_ (i:=3) (N:=some 25) #[true,true,true,true,false,false,false,false,true,false,false] rfl rfl (Ju HT_.out (by kernel_rfl)) (by decide) (fun K hK=>?_)
      refine goes_ Try.func55 (by kernel_rfl) rfl #[.agg #[.int .i64 a0, .int .i64 a1, .int .i64 a2, .int .i64 a3]] (by rfl) rfl rfl (by(try simp only[List.map_toArray,List.map_cons,List.map_nil]);first|done|rfl|(simp only[List.length_drop,List.length_take];rfl)) ?_
      with_reducible refine(Gx.calls a0 a1 a2 a3 a0 a1 a2 a3 _ HDE.out).mono ?_
      rintro e w33 ⟨rfl,hb⟩
      refine⟨_,rfl,?_⟩
      replace HA:=Bn.mv HA hb
      replace HP:=DkS.mw HP hb
      replace BKp:=blk_mv BKp hb
      clear hb
      refine hK.out _ _ ⟨Bn.b3 HA gD,Bn.b4 HA gA⟩ (fun hHeld=>?_)
      clear hK K
      refine norm_ (a':=?_) ?_ ?_
      rotate_left
      · show Act.put _ (some 25) _=_
        simp only[Act.put,List.setIfInBounds_toArray,List.set_cons_zero,List.set_cons_succ,i64_w,i32_w]
        rfl
      refine one_ (i:=4) (N:=some 26) #[true,true,true,true,true,false,false,false,true,false,false] rfl rfl (Ju HT_.out (by kernel_rfl)) (by decide) (fun K hK=>?_)
      refine goes_ Try.func54 (by kernel_rfl) rfl #[.agg #[.slice AP0 l0_0.length cP0, .slice AP1 l0_1.length cP1, .slice AP2 ps.length cP2], .agg #[.int .i64 a0, .int .i64 a1, .int .i64 a2, .int .i64 a3]] (by rfl) rfl rfl (by(try simp only[List.map_toArray,List.map_cons,List.map_nil]);first|done|rfl|(simp only[List.length_drop,List.length_take];rfl)) ?_
      with_reducible refine(doS k w.heap.size loP hiP _ _ _ _ _ _ _ _ _ l0_0 l0_1 ps a0 a1 a2 a3 r1 r2 r3 r4 ?side1 HSP.out).mono ?_
      (case side1=>exact DkS.gw HP)
      rintro e w34 ⟨AW0,cW0,AW1,cW1,AW2,cW2,loW,hiW,rfl,hlo_,hle_,hd_,hb⟩
      refine⟨_,rfl,?_⟩
      have OPW:=DkS.gg HP hlo_
      have DJW:=Bn.dj (n:=hiW) HA hlo_
      have OPW:=blk_ge BKp hlo_
      replace HA:=Bn.mv HA hb
      replace HP:=DkS.mw HP hb
      replace BKp:=blk_mv BKp hb
      have HW:=G7.mk hd_
      have OLW:=G7.mk hle_
      clear hb hlo_ hle_ hd_
      refine hK.out _ _ ⟨Bn.b3 HA gD,Bn.b4 HA gA⟩ (fun hHeld=>?_)
      clear hK K
      refine norm_ (a':=?_) ?_ ?_
      rotate_left
      · show Act.put _ (some 26) _=_
        simp only[Act.put,List.setIfInBounds_toArray,List.set_cons_zero,List.set_cons_succ,i64_w,i32_w]
        rfl
      refine pure_ (i:=5) (N:=some 21) (v:=?_) (a':=?_) #[true,true,true,true,true,true,false,false,true,false,false] rfl rfl (any_of HT_.out (by kernel_rfl)) (fun _ _ _ h=>h) (Or.inl ⟨by rfl,?_⟩) ?_ ?_
      rotate_left
      · intro w'
        go_simp
        with_reducible rfl
      rotate_left
      · simp only[Act.put,List.setIfInBounds_toArray,List.set_cons_zero,List.set_cons_succ,i64_w,i32_w]
        rfl
      refine pure_ (i:=6) (N:=some 27) (v:=?_) (a':=?_) #[true,true,true,true,true,true,true,false,true,false,false] rfl rfl (any_of HT_.out (by kernel_rfl)) (fun _ _ _ h=>h) (Or.inl ⟨by rfl,?_⟩) ?_ ?_
      rotate_left
      · intro w'
        go_simp
        with_reducible rfl
      rotate_left
      · simp only[Act.put,List.setIfInBounds_toArray,List.set_cons_zero,List.set_cons_succ,i64_w,i32_w]
        rfl
      refine pure_ (i:=7) (N:=some 28) (v:=?_) (a':=?_) #[true,true,true,true,true,true,true,true,true,false,false] rfl rfl (any_of HT_.out (by kernel_rfl)) (fun _ _ _ h=>h) (Or.inl ⟨by rfl,?_⟩) ?_ ?_
      rotate_left
      · intro w'
        go_simp
        with_reducible rfl
      rotate_left
      · simp only[Act.put,List.setIfInBounds_toArray,List.set_cons_zero,List.set_cons_succ,i64_w,i32_w]
        rfl
      exact norm_ (by simp only[putAll,Act.put,List.setIfInBounds_toArray,List.set_cons_zero,List.set_cons_succ]) (hCont (AP0,cP0,AP1,cP1,AP2,cP2,AW0,cW0,AW1,cW1,AW2,cW2,g6) _ ⟨hHeld,HA.out,⟨loW,hiW,HW.out,BKp.out,(.inr OPW.out),DG.out,GW.out,DJW.out,OLW.out⟩⟩)
  rintro⟨AP0,cP0,AP1,cP1,AP2,cP2,AW0,cW0,AW1,cW1,AW2,cW2,g6⟩ w35 ⟨hHeld,hA_,loW,hiW,hW_,hbx_,hor_,hdg_,hgw_,hdj_,hle_⟩
  replace HA:=G7.mk hA_
  have HW:=G7.mk hW_
  have BKp:=G7.mk hbx_
  have DG:=G7.mk hdg_
  have GW:=G7.mk hgw_
  have DJW:=G7.mk hdj_
  have OLW:=G7.mk hle_
  have ORW:=G7.mk hor_
  clear hA_ hbx_ hor_ hdg_ hgw_ hdj_ hle_ hW_
  refine norm_ (a':=?_) ?_ ?_
  rotate_left
  · simp only[putAll,Act.put,List.setIfInBounds_toArray,List.set_cons_zero,List.set_cons_succ]
    rfl
  refine one_ (i:=9) (N:=none) #[true,true,true,true,true,true,true,true,true,true,false] rfl rfl (Ju HT_.out (by kernel_rfl)) (by decide) (fun K hK=>?_)
  have z0_:=G8 BKp.out 0
  have z1_:=G8 BKp.out 1
  have z2_:=G8 BKp.out 2
  have y0_:=Jj BKp.out 0
  have y1_:=Jj BKp.out 1
  have y2_:=Jj BKp.out 2
  refine skip_ (w1:=?_) (by rfl) rfl ?_ ?_
  rotate_left
  · go_simp
    rfl
  have nA_:=Bn.put3 HA BKp DG GW (.slice AW0 r1.length cW0) (.slice AW1 r2.length cW1) (.slice AW2 r3.length cW2)
  have nW_:=DqS.put3 HW (ORW.out.symm) (.slice AW0 r1.length cW0) (.slice AW1 r2.length cW1) (.slice AW2 r3.length cW2)
  clear HA BKp GW HW
  have HA:=nA_
  have HW:=nW_
  clear nA_ nW_
  refine hK.out _ _ ⟨Bn.b3 HA gD,Bn.b4 HA gA⟩ (fun hHeld=>?_)
  clear hK K z0_ z1_ z2_ y0_ y1_ y2_
  generalize (((w35.setCell ⟨g6,0,none⟩ (.slice AW0 r1.length cW0)).setCell ⟨g6,1,none⟩ (.slice AW1 r2.length cW1)).setCell ⟨g6,2,none⟩ (.slice AW2 r3.length cW2))=w36 at HA HW hHeld |-
  refine pure_ (i:=10) (N:=some 7) (v:=?_) (a':=?_) #[true,true,true,true,true,true,true,true,true,true,true] rfl rfl (any_of HT_.out (by kernel_rfl)) (fun _ _ _ h=>h) (Or.inl ⟨by rfl,?_⟩) ?_ ?_
  rotate_left
  · intro w'
    go_simp
    with_reducible rfl
  rotate_left
  · simp only[Act.put,List.setIfInBounds_toArray,List.set_cons_zero,List.set_cons_succ,i64_w,i32_w]
    rfl
  refine done_ (done_of HT_.out (by kernel_rfl)) ?_
  clear HT_ HW_ hHeld
  replace HA:=G7.mk (Bn.push HA.out (f:=dq loW hiW (.slice AW0 r1.length cW0) (.slice AW1 r2.length cW1) (.slice AW2 r3.length cW2) r1 r2 r3) HW.out)
  clear HW
  obtain⟨z37,z38,z39⟩:=Bn.b3 HA gD
  obtain⟨z40,z41,z42,z43⟩:=Bn.b4 HA gA
  obtain⟨z44,z45,z46⟩:=Bn.b3 HA g6
  go_wp2_with (first|((with_reducible refine Ja (f:=29) rfl ?_);refine goesL_ (some 30) rfl rfl Try.func29 (by kernel_rfl) rfl #[.agg #[.slice A0_0 l0_0.length c0_0, .slice A0_1 l0_1.length c0_1, .slice A0_2 l0_2.length c0_2]] rfl (by(try simp only[List.map_toArray,List.map_cons,List.map_nil]);first|done|rfl|(simp only[List.length_drop,List.length_take];rfl)) ?_;(with_reducible refine(toDeskB k A0_0 c0_0 l0_0 A0_1 c0_1 l0_1 A0_2 c0_2 l0_2 l0_0 l0_1 ps ?side1 HR0.out HC0.out HR1.out HC1.out HR2.out HC2.out HTO.out).mono ?_);(case side1=>exact(Bn.go HA).1);rintro e w47 ⟨AX0,cX0,AX1,cX1,AX2,cX2,loX,hiX,rfl,hlo_,hle_,hd_,hb⟩;refine⟨_,rfl,?_⟩;have DJX:=Bn.dj (n:=hiX) HA hlo_;replace HA:=Bn.mv HA hb;have HX:=G7.mk hd_;have OLX:=G7.mk hle_;clear hb hlo_ hle_ hd_;obtain⟨z48,z49,z50⟩:=Bn.b3 HA gD;obtain⟨z51,z52,z53,z54⟩:=Bn.b4 HA gA;obtain⟨z55,z56,z57⟩:=Bn.b3 HA g6)|((with_reducible refine Jb (N:=8) rfl ?_);refine box_event ?hg (N:=8) ?hd (cs:=#[.slice none 0 0, .slice none 0 0, .slice none 0 0]) (t:=28) ?hr ?_;(case hd=>rfl);(case hg=>rfl);(case hr=>first|(go_simp;done)|(go_simp;rfl));intro g8 hg w58 hbox hb;have DG:=Bn.dj (n:=g8 + 1) HA hg;have GW:=Bn.wg HA hg;have OBX:=DkS.gg HX hg;replace HA:=Bn.mv HA hb;replace HX:=DkS.mw HX hb;have BKp:=G7.mk hbox;clear hb hbox hg;obtain⟨z59,z60,z61⟩:=Bn.b3 HA gD;obtain⟨z62,z63,z64,z65⟩:=Bn.b4 HA gA;obtain⟨z66,z67,z68⟩:=Bn.b3 HA g6;have z0_:=G8 BKp.out 0;have z1_:=G8 BKp.out 1;have z2_:=G8 BKp.out 2;have y0_:=Jj BKp.out 0;have y1_:=Jj BKp.out 1;have y2_:=Jj BKp.out 2))
  have nA_:=Bn.put3 HA BKp DG GW (.slice AX0 l0_0.length cX0) (.slice AX1 l0_1.length cX1) (.slice AX2 ps.length cX2)
  have nX_:=DkS.put3 HX (.inr OBX.out) (.slice AX0 l0_0.length cX0) (.slice AX1 l0_1.length cX1) (.slice AX2 ps.length cX2)
  generalize (((w58.setCell ⟨g8,0,none⟩ (.slice AX0 l0_0.length cX0)).setCell ⟨g8,1,none⟩ (.slice AX1 l0_1.length cX1)).setCell ⟨g8,2,none⟩ (.slice AX2 ps.length cX2))=w69 at nA_ nX_ |-
  clear HA BKp GW HX
  have HA:=nA_
  have HX:=nX_
  clear nA_ nX_
  have DXx:=G7.mk (Dj.cons (f:=bx g8 #[.slice AX0 l0_0.length cX0, .slice AX1 l0_1.length cX1, .slice AX2 ps.length cX2] 28) (.inr (show hiX<=g8 from OBX.out)) DJX.out)
  replace HA:=G7.mk (Bn.drew HA.out)
  replace HX:=G7.mk (DkS.drew HX.out)
  refine start_ (n:=10) (S:=fun w'=>c3_ w' g8 (.slice AX0 l0_0.length cX0) (.slice AX1 l0_1.length cX1) (.slice AX2 ps.length cX2)/\c4_ w' gA (.int .i64 a0) (.int .i64 a1) (.int .i64 a2) (.int .i64 a3)) (ds:=[]) #[false,false,false,false,false,false,false,false,false,false] (by kernel_rfl) rfl rfl ⟨Bn.b3 HA g8,Bn.b4 HA gA⟩ (fun hHeld=>?_);refine Js Fp.tab7 Fp.bits7 (fun HT_ HW_=>?_)
  generalize w69.drew=w70 at HA HX hHeld |-
  refine take_ (i:=0) (N:=some 32) (v:=?_) (a':=?_) #[true,false,false,false,false,false,false,false,false,false] rfl rfl (take_ofW HT_.out HW_.out (by kernel_rfl)) (fun _ _ _ h=>h) (Or.inl ⟨by rfl,?_⟩) hHeld ?_ ?_
  rotate_left
  · rintro w' ⟨⟨s0,s1,s2⟩,⟨s3,s4,s5,s6⟩⟩
    go_simp
    with_reducible rfl
  rotate_left
  · simp only[Act.put,List.setIfInBounds_toArray,List.set_cons_zero,List.set_cons_succ,i64_w,i32_w]
    rfl
  refine take_ (i:=1) (N:=some 33) (v:=?_) (a':=?_) #[true,true,false,false,false,false,false,false,false,false] rfl rfl (take_ofW HT_.out HW_.out (by kernel_rfl)) (fun _ _ _ h=>h) (Or.inl ⟨by rfl,?_⟩) hHeld ?_ ?_
  rotate_left
  · rintro w' ⟨⟨s0,s1,s2⟩,⟨s3,s4,s5,s6⟩⟩
    go_simp
    with_reducible rfl
  rotate_left
  · simp only[Act.put,List.setIfInBounds_toArray,List.set_cons_zero,List.set_cons_succ,i64_w,i32_w]
    rfl
  refine join_ (σ:=Option Addr × Nat × Option Addr × Nat × Option Addr × Nat × Nat) 2 #[true,true,true,true,true,true,true,true,false,false] (fun s_=>[(34, .agg #[.int .i64 a0, .int .i64 a1, .int .i64 a2, .int .i64 a3]),(35, .tuple #[.agg #[.slice s_.1 r1.length s_.2.1, .slice s_.2.2.1 r2.length s_.2.2.2.1, .slice s_.2.2.2.2.1 r3.length s_.2.2.2.2.2.1], .bool r4]),(9, .pointer (some ⟨s_.2.2.2.2.2.2,0,none⟩)),(31, .tuple #[.agg #[.slice s_.1 r1.length s_.2.1, .slice s_.2.2.1 r2.length s_.2.2.2.1, .slice s_.2.2.2.2.1 r3.length s_.2.2.2.2.2.1], .bool r4]),(36, .agg #[.slice s_.1 r1.length s_.2.1, .slice s_.2.2.1 r2.length s_.2.2.2.1, .slice s_.2.2.2.2.1 r3.length s_.2.2.2.2.2.1]),(37, .bool r4)]) (fun s_ w'=>(c3_ w' g8 (.slice AX0 l0_0.length cX0) (.slice AX1 l0_1.length cX1) (.slice AX2 ps.length cX2)/\c4_ w' gA (.int .i64 a0) (.int .i64 a1) (.int .i64 a2) (.int .i64 a3))/\Bn w [bx g8 #[.slice AX0 l0_0.length cX0, .slice AX1 l0_1.length cX1, .slice AX2 ps.length cX2] 28,dq loW hiW (.slice AW0 r1.length cW0) (.slice AW1 r2.length cW1) (.slice AW2 r3.length cW2) r1 r2 r3,bx g6 #[.slice AW0 r1.length cW0, .slice AW1 r2.length cW1, .slice AW2 r3.length cW2] 28,bx gA #[.int .i64 a0, .int .i64 a1, .int .i64 a2, .int .i64 a3] 66,bx gD #[.slice A0_0 l0_0.length c0_0, .slice A0_1 l0_1.length c0_1, .slice A0_2 l0_2.length c0_2] 43] w'/\DkS w.heap.size loX hiX (.slice AX0 l0_0.length cX0) (.slice AX1 l0_1.length cX1) (.slice AX2 ps.length cX2) l0_0 l0_1 ps w'/\(∃lo_ hi_:Nat,DkS w.heap.size lo_ hi_ (.slice s_.1 r1.length s_.2.1) (.slice s_.2.2.1 r2.length s_.2.2.2.1) (.slice s_.2.2.2.2.1 r3.length s_.2.2.2.2.2.1) r1 r2 r3 w'/\w'.heap[s_.2.2.2.2.2.2]? = some (.cells #[.slice none 0 0, .slice none 0 0, .slice none 0 0] 28 (0,0))/\(hi_<=s_.2.2.2.2.2.2 ∨ s_.2.2.2.2.2.2 < lo_)/\Dj s_.2.2.2.2.2.2 (s_.2.2.2.2.2.2 + 1) [bx g8 #[.slice AX0 l0_0.length cX0, .slice AX1 l0_1.length cX1, .slice AX2 ps.length cX2] 28,dq loW hiW (.slice AW0 r1.length cW0) (.slice AW1 r2.length cW1) (.slice AW2 r3.length cW2) r1 r2 r3,bx g6 #[.slice AW0 r1.length cW0, .slice AW1 r2.length cW1, .slice AW2 r3.length cW2] 28,bx gA #[.int .i64 a0, .int .i64 a1, .int .i64 a2, .int .i64 a3] 66,bx gD #[.slice A0_0 l0_0.length c0_0, .slice A0_1 l0_1.length c0_1, .slice A0_2 l0_2.length c0_2] 43]/\w.heap.size<=s_.2.2.2.2.2.2/\Dj lo_ hi_ [bx g8 #[.slice AX0 l0_0.length cX0, .slice AX1 l0_1.length cX1, .slice AX2 ps.length cX2] 28,dq loW hiW (.slice AW0 r1.length cW0) (.slice AW1 r2.length cW1) (.slice AW2 r3.length cW2) r1 r2 r3,bx g6 #[.slice AW0 r1.length cW0, .slice AW1 r2.length cW1, .slice AW2 r3.length cW2] 28,bx gA #[.int .i64 a0, .int .i64 a1, .int .i64 a2, .int .i64 a3] 66,bx gD #[.slice A0_0 l0_0.length c0_0, .slice A0_1 l0_1.length c0_1, .slice A0_2 l0_2.length c0_2] 43]/\lo_<=hi_/\hiX<=s_.2.2.2.2.2.2/\hiX<=lo_)) ?_ ?_
  rotate_left
  · intro hCont
    refine two_ (i:=2) (j:=7) (Ni:=some 34) (Nj:=some 9) #[true,true,true,false,false,false,false,false,false,false] #[true,true,false,false,false,false,false,true,false,false] rfl rfl rfl rfl (two_of HT_.out (by kernel_rfl)) (by decide) (by decide) (fun K hK=>?_) (fun K hK=>?_)
    · skip
      refine goes_ Try.func55 (by kernel_rfl) rfl #[.agg #[.int .i64 a0, .int .i64 a1, .int .i64 a2, .int .i64 a3]] (by rfl) rfl rfl (by(try simp only[List.map_toArray,List.map_cons,List.map_nil]);first|done|rfl|(simp only[List.length_drop,List.length_take];rfl)) ?_
      with_reducible refine(Gx.calls a0 a1 a2 a3 a0 a1 a2 a3 _ HDE.out).mono ?_
      rintro e w71 ⟨rfl,hb⟩
      refine⟨_,rfl,?_⟩
      replace HA:=Bn.mv HA hb
      replace HX:=DkS.mw HX hb
      clear hb
      refine hK.out _ _ ⟨Bn.b3 HA g8,Bn.b4 HA gA⟩ (fun hHeld=>?_)
      clear hK K
      refine norm_ (a':=?_) ?_ ?_
      rotate_left
      · show Act.put _ (some 34) _=_
        simp only[Act.put,List.setIfInBounds_toArray,List.set_cons_zero,List.set_cons_succ,i64_w,i32_w]
        rfl
      refine two_ (i:=3) (j:=7) (Ni:=some 35) (Nj:=some 9) #[true,true,true,true,false,false,false,false,false,false] #[true,true,true,false,false,false,false,true,false,false] rfl rfl rfl rfl (two_of HT_.out (by kernel_rfl)) (by decide) (by decide) (fun K hK=>?_) (fun K hK=>?_)
      · skip
        refine goes_ Try.func56 (by kernel_rfl) rfl #[.agg #[.slice AX0 l0_0.length cX0, .slice AX1 l0_1.length cX1, .slice AX2 ps.length cX2], .agg #[.int .i64 a0, .int .i64 a1, .int .i64 a2, .int .i64 a3]] (by rfl) rfl rfl (by(try simp only[List.map_toArray,List.map_cons,List.map_nil]);first|done|rfl|(simp only[List.length_drop,List.length_take];rfl)) ?_
        with_reducible refine(doB (w:=w) k w.heap.size loX hiX _ _ _ _ _ _ _ _ _ l0_0 l0_1 ps a0 a1 a2 a3 r1 r2 r3 r4 ?side1 ?side2 HIM.out).mono ?_
        (case side1=>exact(Bn.go HA).1)
        (case side2=>exact DkS.gw HX)
        rintro e w72 ⟨AG0,cG0,AG1,cG1,AG2,cG2,loG,hiG,rfl,hlo_,hle_,hd_,hb⟩
        refine⟨_,rfl,?_⟩
        have OXG:=DkS.gg HX hlo_
        have DJG:=Bn.dj (n:=hiG) HA hlo_
        replace HA:=Bn.mv HA hb
        replace HX:=DkS.mw HX hb
        have HG:=G7.mk hd_
        have OLG:=G7.mk hle_
        clear hb hlo_ hle_ hd_
        refine hK.out _ _ ⟨Bn.b3 HA g8,Bn.b4 HA gA⟩ (fun hHeld=>?_)
        clear hK K
        refine norm_ (a':=?_) ?_ ?_
        rotate_left
        · show Act.put _ (some 35) _=_
          simp only[Act.put,List.setIfInBounds_toArray,List.set_cons_zero,List.set_cons_succ,i64_w,i32_w]
          rfl
        refine pure_ (i:=4) (N:=some 31) (v:=?_) (a':=?_) #[true,true,true,true,true,false,false,false,false,false] rfl rfl (any_of HT_.out (by kernel_rfl)) (fun _ _ _ h=>h) (Or.inl ⟨by rfl,?_⟩) ?_ ?_
        rotate_left
        · intro w'
          go_simp
          with_reducible rfl
        rotate_left
        · simp only[Act.put,List.setIfInBounds_toArray,List.set_cons_zero,List.set_cons_succ,i64_w,i32_w]
          rfl
        refine pure_ (i:=5) (N:=some 36) (v:=?_) (a':=?_) #[true,true,true,true,true,true,false,false,false,false] rfl rfl (any_of HT_.out (by kernel_rfl)) (fun _ _ _ h=>h) (Or.inl ⟨by rfl,?_⟩) ?_ ?_
        rotate_left
        · intro w'
          go_simp
          with_reducible rfl
        rotate_left
        · simp only[Act.put,List.setIfInBounds_toArray,List.set_cons_zero,List.set_cons_succ,i64_w,i32_w]
          rfl
        refine pure_ (i:=6) (N:=some 37) (v:=?_) (a':=?_) #[true,true,true,true,true,true,true,false,false,false] rfl rfl (any_of HT_.out (by kernel_rfl)) (fun _ _ _ h=>h) (Or.inl ⟨by rfl,?_⟩) ?_ ?_
        rotate_left
        · intro w'
          go_simp
          with_reducible rfl
        rotate_left
        · simp only[Act.put,List.setIfInBounds_toArray,List.set_cons_zero,List.set_cons_succ,i64_w,i32_w]
          rfl
        refine one_ (i:=7) (N:=some 9) #[true,true,true,true,true,true,true,true,false,false] rfl rfl (Ju HT_.out (by kernel_rfl)) (by decide) (fun K hK=>?_)
        refine box_step ?hg (N:=9) ?hd (cs:=#[.slice none 0 0, .slice none 0 0, .slice none 0 0]) (t:=28) ?hr ?_;(case hd=>rfl);(case hg=>rfl);(case hr=>first|(go_simp;done)|(go_simp;rfl))
        intro g9 hg w73 hbox hb
        have DG:=Bn.dj (n:=g9 + 1) HA hg
        have GW:=Bn.wg HA hg
        have OBX:=DkS.gg HX hg
        have OBG:=DkS.gg HG hg
        replace HA:=Bn.mv HA hb
        replace HX:=DkS.mw HX hb
        replace HG:=DkS.mw HG hb
        have BKp:=G7.mk hbox
        clear hb hbox hg
        refine hK.out _ _ ⟨Bn.b3 HA g8,Bn.b4 HA gA⟩ (fun hHeld=>?_)
        clear hK K
        refine norm_ (a':=?_) ?_ ?_
        rotate_left
        · show Act.put _ (some 9) _=_
          simp only[Act.put,List.setIfInBounds_toArray,List.set_cons_zero,List.set_cons_succ,i64_w,i32_w]
          rfl
        exact norm_ (by simp only[putAll,Act.put,List.setIfInBounds_toArray,List.set_cons_zero,List.set_cons_succ]) (hCont (AG0,cG0,AG1,cG1,AG2,cG2,g9) _ ⟨hHeld,HA.out,HX.out,⟨loG,hiG,HG.out,BKp.out,(.inl OBG.out),DG.out,GW.out,DJG.out,OLG.out,OBX.out,OXG.out⟩⟩)
      · skip
        refine box_step ?hg (N:=9) ?hd (cs:=#[.slice none 0 0, .slice none 0 0, .slice none 0 0]) (t:=28) ?hr ?_;(case hd=>rfl);(case hg=>rfl);(case hr=>first|(go_simp;done)|(go_simp;rfl))
        intro g9 hg w74 hbox hb
        have DG:=Bn.dj (n:=g9 + 1) HA hg
        have GW:=Bn.wg HA hg
        have OBX:=DkS.gg HX hg
        replace HA:=Bn.mv HA hb
        replace HX:=DkS.mw HX hb
        have BKp:=G7.mk hbox
        clear hb hbox hg
        refine hK.out _ _ ⟨Bn.b3 HA g8,Bn.b4 HA gA⟩ (fun hHeld=>?_)
        clear hK K
        refine norm_ (a':=?_) ?_ ?_
        rotate_left
        · show Act.put _ (some 9) _=_
          simp only[Act.put,List.setIfInBounds_toArray,List.set_cons_zero,List.set_cons_succ,i64_w,i32_w]
          rfl
        refine one_ (i:=3) (N:=some 35) #[true,true,true,true,false,false,false,true,false,false] rfl rfl (Ju HT_.out (by kernel_rfl)) (by decide) (fun K hK=>?_)
        refine goes_ Try.func56 (by kernel_rfl) rfl #[.agg #[.slice AX0 l0_0.length cX0, .slice AX1 l0_1.length cX1, .slice AX2 ps.length cX2], .agg #[.int .i64 a0, .int .i64 a1, .int .i64 a2, .int .i64 a3]] (by rfl) rfl rfl (by(try simp only[List.map_toArray,List.map_cons,List.map_nil]);first|done|rfl|(simp only[List.length_drop,List.length_take];rfl)) ?_
        with_reducible refine(doB (w:=w) k w.heap.size loX hiX _ _ _ _ _ _ _ _ _ l0_0 l0_1 ps a0 a1 a2 a3 r1 r2 r3 r4 ?side1 ?side2 HIM.out).mono ?_
        (case side1=>exact(Bn.go HA).1)
        (case side2=>exact DkS.gw HX)
        rintro e w75 ⟨AG0,cG0,AG1,cG1,AG2,cG2,loG,hiG,rfl,hlo_,hle_,hd_,hb⟩
        refine⟨_,rfl,?_⟩
        have OXG:=DkS.gg HX hlo_
        have DJG:=Bn.dj (n:=hiG) HA hlo_
        have OPG:=blk_ge BKp hlo_
        replace HA:=Bn.mv HA hb
        replace HX:=DkS.mw HX hb
        replace BKp:=blk_mv BKp hb
        have HG:=G7.mk hd_
        have OLG:=G7.mk hle_
        clear hb hlo_ hle_ hd_
        refine hK.out _ _ ⟨Bn.b3 HA g8,Bn.b4 HA gA⟩ (fun hHeld=>?_)
        clear hK K
        refine norm_ (a':=?_) ?_ ?_
        rotate_left
        · show Act.put _ (some 35) _=_
          simp only[Act.put,List.setIfInBounds_toArray,List.set_cons_zero,List.set_cons_succ,i64_w,i32_w]
          rfl
        refine pure_ (i:=4) (N:=some 31) (v:=?_) (a':=?_) #[true,true,true,true,true,false,false,true,false,false] rfl rfl (any_of HT_.out (by kernel_rfl)) (fun _ _ _ h=>h) (Or.inl ⟨by rfl,?_⟩) ?_ ?_
        rotate_left
        · intro w'
          go_simp
          with_reducible rfl
        rotate_left
        · simp only[Act.put,List.setIfInBounds_toArray,List.set_cons_zero,List.set_cons_succ,i64_w,i32_w]
          rfl
        refine pure_ (i:=5) (N:=some 36) (v:=?_) (a':=?_) #[true,true,true,true,true,true,false,true,false,false] rfl rfl (any_of HT_.out (by kernel_rfl)) (fun _ _ _ h=>h) (Or.inl ⟨by rfl,?_⟩) ?_ ?_
        rotate_left
        · intro w'
          go_simp
          with_reducible rfl
        rotate_left
        · simp only[Act.put,List.setIfInBounds_toArray,List.set_cons_zero,List.set_cons_succ,i64_w,i32_w]
          rfl
        refine pure_ (i:=6) (N:=some 37) (v:=?_) (a':=?_) #[true,true,true,true,true,true,true,true,false,false] rfl rfl (any_of HT_.out (by kernel_rfl)) (fun _ _ _ h=>h) (Or.inl ⟨by rfl,?_⟩) ?_ ?_
        rotate_left
        · intro w'
          go_simp
          with_reducible rfl
        rotate_left
        · simp only[Act.put,List.setIfInBounds_toArray,List.set_cons_zero,List.set_cons_succ,i64_w,i32_w]
          rfl
        exact norm_ (by simp only[putAll,Act.put,List.setIfInBounds_toArray,List.set_cons_zero,List.set_cons_succ]) (hCont (AG0,cG0,AG1,cG1,AG2,cG2,g9) _ ⟨hHeld,HA.out,HX.out,⟨loG,hiG,HG.out,BKp.out,(.inr OPG.out),DG.out,GW.out,DJG.out,OLG.out,OBX.out,OXG.out⟩⟩)
    · skip
      refine box_step ?hg (N:=9) ?hd (cs:=#[.slice none 0 0, .slice none 0 0, .slice none 0 0]) (t:=28) ?hr ?_;(case hd=>rfl);(case hg=>rfl);(case hr=>first|(go_simp;done)|(go_simp;rfl))
      intro g9 hg w76 hbox hb
      have DG:=Bn.dj (n:=g9 + 1) HA hg
      have GW:=Bn.wg HA hg
      have OBX:=DkS.gg HX hg
      replace HA:=Bn.mv HA hb
      replace HX:=DkS.mw HX hb
      have BKp:=G7.mk hbox
      clear hb hbox hg
      refine hK.out _ _ ⟨Bn.b3 HA g8,Bn.b4 HA gA⟩ (fun hHeld=>?_)
      clear hK K
      refine norm_ (a':=?_) ?_ ?_
      rotate_left
      · show Act.put _ (some 9) _=_
        simp only[Act.put,List.setIfInBounds_toArray,List.set_cons_zero,List.set_cons_succ,i64_w,i32_w]
        rfl
      refine one_ (i:=2) (N:=some 34) #[true,true,true,false,false,false,false,true,false,false] rfl rfl (Ju HT_.out (by kernel_rfl)) (by decide) (fun K hK=>?_)
      refine goes_ Try.func55 (by kernel_rfl) rfl #[.agg #[.int .i64 a0, .int .i64 a1, .int .i64 a2, .int .i64 a3]] (by rfl) rfl rfl (by(try simp only[List.map_toArray,List.map_cons,List.map_nil]);first|done|rfl|(simp only[List.length_drop,List.length_take];rfl)) ?_
      with_reducible refine(Gx.calls a0 a1 a2 a3 a0 a1 a2 a3 _ HDE.out).mono ?_
      rintro e w77 ⟨rfl,hb⟩
      refine⟨_,rfl,?_⟩
      replace HA:=Bn.mv HA hb
      replace HX:=DkS.mw HX hb
      replace BKp:=blk_mv BKp hb
      clear hb
      refine hK.out _ _ ⟨Bn.b3 HA g8,Bn.b4 HA gA⟩ (fun hHeld=>?_)
      clear hK K
      refine norm_ (a':=?_) ?_ ?_
      rotate_left
      · show Act.put _ (some 34) _=_
        simp only[Act.put,List.setIfInBounds_toArray,List.set_cons_zero,List.set_cons_succ,i64_w,i32_w]
        rfl
      refine one_ (i:=3) (N:=some 35) #[true,true,true,true,false,false,false,true,false,false] rfl rfl (Ju HT_.out (by kernel_rfl)) (by decide) (fun K hK=>?_)
      refine goes_ Try.func56 (by kernel_rfl) rfl #[.agg #[.slice AX0 l0_0.length cX0, .slice AX1 l0_1.length cX1, .slice AX2 ps.length cX2], .agg #[.int .i64 a0, .int .i64 a1, .int .i64 a2, .int .i64 a3]] (by rfl) rfl rfl (by(try simp only[List.map_toArray,List.map_cons,List.map_nil]);first|done|rfl|(simp only[List.length_drop,List.length_take];rfl)) ?_
      with_reducible refine(doB (w:=w) k w.heap.size loX hiX _ _ _ _ _ _ _ _ _ l0_0 l0_1 ps a0 a1 a2 a3 r1 r2 r3 r4 ?side1 ?side2 HIM.out).mono ?_
      (case side1=>exact(Bn.go HA).1)
      (case side2=>exact DkS.gw HX)
      rintro e w78 ⟨AG0,cG0,AG1,cG1,AG2,cG2,loG,hiG,rfl,hlo_,hle_,hd_,hb⟩
      refine⟨_,rfl,?_⟩
      have OXG:=DkS.gg HX hlo_
      have DJG:=Bn.dj (n:=hiG) HA hlo_
      have OPG:=blk_ge BKp hlo_
      replace HA:=Bn.mv HA hb
      replace HX:=DkS.mw HX hb
      replace BKp:=blk_mv BKp hb
      have HG:=G7.mk hd_
      have OLG:=G7.mk hle_
      clear hb hlo_ hle_ hd_
      refine hK.out _ _ ⟨Bn.b3 HA g8,Bn.b4 HA gA⟩ (fun hHeld=>?_)
      clear hK K
      refine norm_ (a':=?_) ?_ ?_
      rotate_left
      · show Act.put _ (some 35) _=_
        simp only[Act.put,List.setIfInBounds_toArray,List.set_cons_zero,List.set_cons_succ,i64_w,i32_w]
        rfl
      refine pure_ (i:=4) (N:=some 31) (v:=?_) (a':=?_) #[true,true,true,true,true,false,false,true,false,false] rfl rfl (any_of HT_.out (by kernel_rfl)) (fun _ _ _ h=>h) (Or.inl ⟨by rfl,?_⟩) ?_ ?_
      rotate_left
      · intro w'
        go_simp
        with_reducible rfl
      rotate_left
      · simp only[Act.put,List.setIfInBounds_toArray,List.set_cons_zero,List.set_cons_succ,i64_w,i32_w]
        rfl
      refine pure_ (i:=5) (N:=some 36) (v:=?_) (a':=?_) #[true,true,true,true,true,true,false,true,false,false] rfl rfl (any_of HT_.out (by kernel_rfl)) (fun _ _ _ h=>h) (Or.inl ⟨by rfl,?_⟩) ?_ ?_
      rotate_left
      · intro w'
        go_simp
        with_reducible rfl
      rotate_left
      · simp only[Act.put,List.setIfInBounds_toArray,List.set_cons_zero,List.set_cons_succ,i64_w,i32_w]
        rfl
      refine pure_ (i:=6) (N:=some 37) (v:=?_) (a':=?_) #[true,true,true,true,true,true,true,true,false,false] rfl rfl (any_of HT_.out (by kernel_rfl)) (fun _ _ _ h=>h) (Or.inl ⟨by rfl,?_⟩) ?_ ?_
      rotate_left
      · intro w'
        go_simp
        with_reducible rfl
      rotate_left
      · simp only[Act.put,List.setIfInBounds_toArray,List.set_cons_zero,List.set_cons_succ,i64_w,i32_w]
        rfl
      exact norm_ (by simp only[putAll,Act.put,List.setIfInBounds_toArray,List.set_cons_zero,List.set_cons_succ]) (hCont (AG0,cG0,AG1,cG1,AG2,cG2,g9) _ ⟨hHeld,HA.out,HX.out,⟨loG,hiG,HG.out,BKp.out,(.inr OPG.out),DG.out,GW.out,DJG.out,OLG.out,OBX.out,OXG.out⟩⟩)
  rintro⟨AG0,cG0,AG1,cG1,AG2,cG2,g9⟩ w79 ⟨hHeld,hA_,hX_,loG,hiG,hG_,hbx_,hor_,hdg_,hgw_,hdj_,hle_,hogX_,holX_⟩
  replace HA:=G7.mk hA_
  replace HX:=G7.mk hX_
  have HG:=G7.mk hG_
  have BKp:=G7.mk hbx_
  have DG:=G7.mk hdg_
  have GW:=G7.mk hgw_
  have DJG:=G7.mk hdj_
  have OLG:=G7.mk hle_
  have ORG:=G7.mk hor_
  have OBX:=G7.mk hogX_
  have OXG:=G7.mk holX_
  clear hA_ hbx_ hor_ hdg_ hgw_ hdj_ hle_ hG_ hX_ hogX_ holX_
  refine norm_ (a':=?_) ?_ ?_
  rotate_left
  · simp only[putAll,Act.put,List.setIfInBounds_toArray,List.set_cons_zero,List.set_cons_succ]
    rfl
  refine one_ (i:=8) (N:=none) #[true,true,true,true,true,true,true,true,true,false] rfl rfl (Ju HT_.out (by kernel_rfl)) (by decide) (fun K hK=>?_)
  have z0_:=G8 BKp.out 0
  have z1_:=G8 BKp.out 1
  have z2_:=G8 BKp.out 2
  have y0_:=Jj BKp.out 0
  have y1_:=Jj BKp.out 1
  have y2_:=Jj BKp.out 2
  refine skip_ (w1:=?_) (by rfl) rfl ?_ ?_
  rotate_left
  · go_simp
    rfl
  have nA_:=Bn.put3 HA BKp DG GW (.slice AG0 r1.length cG0) (.slice AG1 r2.length cG1) (.slice AG2 r3.length cG2)
  have nX_:=DkS.put3 HX (.inr OBX.out) (.slice AG0 r1.length cG0) (.slice AG1 r2.length cG1) (.slice AG2 r3.length cG2)
  have nG_:=DkS.put3 HG (ORG.out.symm) (.slice AG0 r1.length cG0) (.slice AG1 r2.length cG1) (.slice AG2 r3.length cG2)
  clear HA BKp GW HX HG
  have HA:=nA_
  have HX:=nX_
  have HG:=nG_
  clear nA_ nX_ nG_
  refine hK.out _ _ ⟨Bn.b3 HA g8,Bn.b4 HA gA⟩ (fun hHeld=>?_)
  clear hK K z0_ z1_ z2_ y0_ y1_ y2_
  generalize (((w79.setCell ⟨g9,0,none⟩ (.slice AG0 r1.length cG0)).setCell ⟨g9,1,none⟩ (.slice AG1 r2.length cG1)).setCell ⟨g9,2,none⟩ (.slice AG2 r3.length cG2))=w80 at HA HX HG hHeld |-
  refine pure_ (i:=9) (N:=some 10) (v:=?_) (a':=?_) #[true,true,true,true,true,true,true,true,true,true] rfl rfl (any_of HT_.out (by kernel_rfl)) (fun _ _ _ h=>h) (Or.inl ⟨by rfl,?_⟩) ?_ ?_
  rotate_left
  · intro w'
    go_simp
    with_reducible rfl
  rotate_left
  · simp only[Act.put,List.setIfInBounds_toArray,List.set_cons_zero,List.set_cons_succ,i64_w,i32_w]
    rfl
  refine done_ (done_of HT_.out (by kernel_rfl)) ?_
  clear HT_ HW_ hHeld
  have DXy:=G7.mk (Dj.cons (f:=bx g9 #[.slice AG0 r1.length cG0, .slice AG1 r2.length cG1, .slice AG2 r3.length cG2] 28) (.inr (show hiX<=g9 from OBX.out)) DXx.out)
  have DGy:=G7.mk (Dj.cons (lo:=loG) (hi:=hiG) (f:=bx g9 #[.slice AG0 r1.length cG0, .slice AG1 r2.length cG1, .slice AG2 r3.length cG2] 28) (ORG.out.elim (fun h_=>.inr h_) (fun h_=>.inl h_)) DJG.out)
  clear DG
  obtain⟨z81,z82,z83⟩:=Bn.b3 HA gD
  obtain⟨z84,z85,z86,z87⟩:=Bn.b4 HA gA
  obtain⟨z88,z89,z90⟩:=Bn.b3 HA g6
  obtain⟨z91,z92,z93⟩:=Bn.b3 HA g8
  obtain⟨z94,z95,z96⟩:=Bn.b3 HA g9
  go_wp2_with (first|((with_reducible refine Ja (f:=17) rfl ?_);refine goesL_ (some 40) rfl rfl Try.func17 (by kernel_rfl) rfl #[.agg #[.slice AG0 r1.length cG0, .slice AG1 r2.length cG1, .slice AG2 r3.length cG2], .agg #[.slice AW0 r1.length cW0, .slice AW1 r2.length cW1, .slice AW2 r3.length cW2]] rfl (by(try simp only[List.map_toArray,List.map_cons,List.map_nil]);first|done|rfl|(simp only[List.length_drop,List.length_take];rfl)) ?_;(with_reducible refine(eqDQ k w.heap.size loG hiG loW hiW _ _ _ _ _ _ _ _ _ _ _ _ _ _ _ _ _ _ r1 r2 r3 r1 r2 r3 true ?side1 ?side2 HE1.out).mono ?_);(case side1=>exact DkS.gw HG);(case side2=>exact Bn.has (G7.mk (Bn.go HA)) (dq loW hiW _ _ _ r1 r2 r3));rintro e w97 ⟨rfl,hb⟩;refine⟨_,rfl,?_⟩;replace HA:=Bn.mv HA hb;replace HX:=DkS.mw HX hb;replace HG:=DkS.mw HG hb;clear hb;obtain⟨z98,z99,z100⟩:=Bn.b3 HA gD;obtain⟨z101,z102,z103,z104⟩:=Bn.b4 HA gA;obtain⟨z105,z106,z107⟩:=Bn.b3 HA g6;obtain⟨z108,z109,z110⟩:=Bn.b3 HA g8;obtain⟨z111,z112,z113⟩:=Bn.b3 HA g9))
  replace HA:=G7.mk (Bn.drew HA.out)
  replace HX:=G7.mk (DkS.drew HX.out)
  replace HG:=G7.mk (DkS.drew HG.out)
  refine start_ (n:=5) (S:=fun w'=>c3_ w' g8 (.slice AX0 l0_0.length cX0) (.slice AX1 l0_1.length cX1) (.slice AX2 ps.length cX2)/\c3_ w' gD (.slice A0_0 l0_0.length c0_0) (.slice A0_1 l0_1.length c0_1) (.slice A0_2 l0_2.length c0_2)) (ds:=[]) #[false,false,false,false,false] (by kernel_rfl) rfl rfl ⟨Bn.b3 HA g8,Bn.b3 HA gD⟩ (fun hHeld=>?_)
  generalize w97.drew=w114 at HA HX HG hHeld |-
  refine take_ (i:=0) (N:=some 47) (v:=?_) (a':=?_) #[true,false,false,false,false] rfl rfl (by kernel_rfl) (fun _ _ _ h=>h) (Or.inl ⟨by rfl,?_⟩) hHeld ?_ ?_
  rotate_left
  · rintro w' ⟨⟨s0,s1,s2⟩,⟨s3,s4,s5⟩⟩
    go_simp
    with_reducible rfl
  rotate_left
  · simp only[Act.put,List.setIfInBounds_toArray,List.set_cons_zero,List.set_cons_succ,i64_w,i32_w]
    rfl
  refine take_ (i:=1) (N:=some 48) (v:=?_) (a':=?_) #[true,true,false,false,false] rfl rfl (by kernel_rfl) (fun _ _ _ h=>h) (Or.inl ⟨by rfl,?_⟩) hHeld ?_ ?_
  rotate_left
  · rintro w' ⟨⟨s0,s1,s2⟩,⟨s3,s4,s5⟩⟩
    go_simp
    with_reducible rfl
  rotate_left
  · simp only[Act.put,List.setIfInBounds_toArray,List.set_cons_zero,List.set_cons_succ,i64_w,i32_w]
    rfl
  refine one_ (i:=2) (N:=some 49) #[true,true,true,false,false] rfl rfl (by kernel_rfl) (by decide) (fun K hK=>?_)
  refine goes_ Try.func29 (by kernel_rfl) rfl #[.agg #[.slice A0_0 l0_0.length c0_0, .slice A0_1 l0_1.length c0_1, .slice A0_2 l0_2.length c0_2]] (by rfl) rfl rfl (by(try simp only[List.map_toArray,List.map_cons,List.map_nil]);first|done|rfl|(simp only[List.length_drop,List.length_take];rfl)) ?_
  with_reducible refine(toDeskB k A0_0 c0_0 l0_0 A0_1 c0_1 l0_1 A0_2 c0_2 l0_2 l0_0 l0_1 ps ?side1 HR0.out HC0.out HR1.out HC1.out HR2.out HC2.out HTO.out).mono ?_
  (case side1=>exact(Bn.go HA).1)
  rintro e w115 ⟨AY0,cY0,AY1,cY1,AY2,cY2,loY,hiY,rfl,hlo_,hle_,hd_,hb⟩
  refine⟨_,rfl,?_⟩
  have OXY:=DkS.gg HX hlo_
  have OGY:=DkS.gg HG hlo_
  have DJY:=Bn.dj (n:=hiY) HA hlo_
  replace HA:=Bn.mv HA hb
  replace HX:=DkS.mw HX hb
  replace HG:=DkS.mw HG hb
  have HY:=G7.mk hd_
  have OLY:=G7.mk hle_
  clear hb hlo_ hle_ hd_
  refine hK.out _ _ ⟨Bn.b3 HA g8,Bn.b3 HA gD⟩ (fun hHeld=>?_)
  clear hK K
  refine norm_ (a':=?_) ?_ ?_
  rotate_left
  · show Act.put _ (some 49) _=_
    simp only[Act.put,List.setIfInBounds_toArray,List.set_cons_zero,List.set_cons_succ,i64_w,i32_w]
    rfl
  refine one_ (i:=3) (N:=some 50) #[true,true,true,true,false] rfl rfl (by kernel_rfl) (by decide) (fun K hK=>?_)
  refine goes_ Try.func17 (by kernel_rfl) rfl #[.agg #[.slice AX0 l0_0.length cX0, .slice AX1 l0_1.length cX1, .slice AX2 ps.length cX2], .agg #[.slice AY0 l0_0.length cY0, .slice AY1 l0_1.length cY1, .slice AY2 ps.length cY2]] (by rfl) rfl rfl (by(try simp only[List.map_toArray,List.map_cons,List.map_nil]);first|done|rfl|(simp only[List.length_drop,List.length_take];rfl)) ?_
  with_reducible refine(eqDD k w.heap.size loX hiX w.heap.size loY hiY _ _ _ _ _ _ _ _ _ _ _ _ _ _ _ _ _ _ l0_0 l0_1 ps l0_0 l0_1 ps true ?side1 ?side2 HE2.out).mono ?_
  (case side1=>exact DkS.gw HX)
  (case side2=>exact DkS.gw HY)
  rintro e w116 ⟨rfl,hb⟩
  refine⟨_,rfl,?_⟩
  replace HA:=Bn.mv HA hb
  replace HX:=DkS.mw HX hb
  replace HG:=DkS.mw HG hb
  replace HY:=DkS.mw HY hb
  clear hb
  refine hK.out _ _ ⟨Bn.b3 HA g8,Bn.b3 HA gD⟩ (fun hHeld=>?_)
  clear hK K
  refine norm_ (a':=?_) ?_ ?_
  rotate_left
  · show Act.put _ (some 50) _=_
    simp only[Act.put,List.setIfInBounds_toArray,List.set_cons_zero,List.set_cons_succ,i64_w,i32_w]
    rfl
  refine pure_ (i:=4) (N:=some 51) (v:=?_) (a':=?_) #[true,true,true,true,true] rfl rfl (by kernel_rfl) (fun _ _ _ h=>h) (Or.inl ⟨by rfl,?_⟩) ?_ ?_
  rotate_left
  · intro w'
    go_simp
    with_reducible rfl
  rotate_left
  · simp only[Act.put,List.setIfInBounds_toArray,List.set_cons_zero,List.set_cons_succ,i64_w,i32_w]
    rfl
  refine done_ (by kernel_rfl) ?_
  clear HY OXY OGY DJY OLY hHeld
  obtain⟨z117,z118,z119⟩:=Bn.b3 HA gD
  obtain⟨z120,z121,z122,z123⟩:=Bn.b4 HA gA
  obtain⟨z124,z125,z126⟩:=Bn.b3 HA g6
  obtain⟨z127,z128,z129⟩:=Bn.b3 HA g8
  obtain⟨z130,z131,z132⟩:=Bn.b3 HA g9
  go_wp2_with (first|((with_reducible refine Ja (f:=18) rfl ?_);refine goesL_ (some 54) rfl rfl Try.func18 (by kernel_rfl) rfl #[.agg #[.slice AX0 l0_0.length cX0, .slice AX1 l0_1.length cX1, .slice AX2 ps.length cX2], .int .i64 1] rfl (by(try simp only[List.map_toArray,List.map_cons,List.map_nil]);first|done|rfl|(simp only[List.length_drop,List.length_take];rfl)) ?_;(with_reducible refine(Gu.calls k loX hiX _ _ _ _ _ _ _ _ _ l0_0 l0_1 ps 1 m0 x1 x2 x3 w _ ?side1 ?side2 HM0.out).mono ?_);(case side1=>exact(Bn.go HA).1);(case side2=>exact DkS.gw HX);rintro e w133 ⟨rfl,hd_,hb,hkp⟩;refine⟨_,rfl,?_⟩;have nA_:=G7.mk (Bn.kept (Bn.go HA) hb hkp DXy.out);have nG_:=G7.mk (DkS.kept (DkS.gw HG) hkp (.inr OXG.out));have nX_:=G7.mk hd_;clear HA hb hkp hd_ HX HG;have HA:=nA_;have HX:=nX_;have HG:=nG_;clear nA_ nX_ nG_;obtain⟨z134,z135,z136⟩:=Bn.b3 HA gD;obtain⟨z137,z138,z139,z140⟩:=Bn.b4 HA gA;obtain⟨z141,z142,z143⟩:=Bn.b3 HA g6;obtain⟨z144,z145,z146⟩:=Bn.b3 HA g8;obtain⟨z147,z148,z149⟩:=Bn.b3 HA g9)|(go_at_call 17;(with_reducible refine(eqDQ k w.heap.size loG hiG loW hiW _ _ _ _ _ _ _ _ _ _ _ _ _ _ _ _ _ _ r1 r2 r3 r1 r2 r3 true ?side1 ?side2 HE1.out).mono ?_);(case side1=>exact DkS.gw HG);(case side2=>exact Bn.has (G7.mk (Bn.go HA)) (dq loW hiW _ _ _ r1 r2 r3));rintro e w150 ⟨rfl,hb⟩;replace HA:=Bn.mv HA hb;replace HX:=DkS.mw HX hb;replace HG:=DkS.mw HG hb;clear hb;obtain⟨z151,z152,z153⟩:=Bn.b3 HA gD;obtain⟨z154,z155,z156,z157⟩:=Bn.b4 HA gA;obtain⟨z158,z159,z160⟩:=Bn.b3 HA g6;obtain⟨z161,z162,z163⟩:=Bn.b3 HA g8;obtain⟨z164,z165,z166⟩:=Bn.b3 HA g9)|((with_reducible refine Ja (f:=18) rfl ?_);refine goesL_ (some 70) rfl rfl Try.func18 (by kernel_rfl) rfl #[.agg #[.slice AG0 r1.length cG0, .slice AG1 r2.length cG1, .slice AG2 r3.length cG2], .int .i64 1] rfl (by(try simp only[List.map_toArray,List.map_cons,List.map_nil]);first|done|rfl|(simp only[List.length_drop,List.length_take];rfl)) ?_;(with_reducible refine(Gu.calls k loG hiG _ _ _ _ _ _ _ _ _ r1 r2 r3 1 m y1 y2 y3 w _ ?side1 ?side2 HM.out).mono ?_);(case side1=>exact(Bn.go HA).1);(case side2=>exact DkS.gw HG);rintro e w167 ⟨rfl,hd_,hb,hkp⟩;refine⟨_,rfl,?_⟩;have nA_:=G7.mk (Bn.kept (Bn.go HA) hb hkp DGy.out);have nX_:=G7.mk (DkS.kept (DkS.gw HX) hkp (.inl OXG.out));have nG_:=G7.mk hd_;clear HA hb hkp hd_ HG HX;have HA:=nA_;have HG:=nG_;have HX:=nX_;clear nA_ nG_ nX_;obtain⟨z168,z169,z170⟩:=Bn.b3 HA gD;obtain⟨z171,z172,z173,z174⟩:=Bn.b4 HA gA;obtain⟨z175,z176,z177⟩:=Bn.b3 HA g6;obtain⟨z178,z179,z180⟩:=Bn.b3 HA g8;obtain⟨z181,z182,z183⟩:=Bn.b3 HA g9)|((with_reducible refine Ja (f:=19) rfl ?_);refine goesL_ (some 73) rfl rfl Try.func19 (by kernel_rfl) rfl #[.agg #[.slice AG0 r1.length cG0, .slice AG1 r2.length cG1, .slice AG2 r3.length cG2], .int .i64 1] rfl (by(try simp only[List.map_toArray,List.map_cons,List.map_nil]);first|done|rfl|(simp only[List.length_drop,List.length_take];rfl)) ?_;(with_reducible refine(heldD k w.heap.size loG hiG _ _ _ _ _ _ _ _ _ y1 y2 y3 1 m ?side1 HHD.out).mono ?_);(case side1=>exact DkS.gw HG);rintro e w184 ⟨rfl,hb⟩;refine⟨_,rfl,?_⟩;replace HA:=Bn.mv HA hb;replace HX:=DkS.mw HX hb;replace HG:=DkS.mw HG hb;clear hb;obtain⟨z185,z186,z187⟩:=Bn.b3 HA gD;obtain⟨z188,z189,z190,z191⟩:=Bn.b4 HA gA;obtain⟨z192,z193,z194⟩:=Bn.b3 HA g6;obtain⟨z195,z196,z197⟩:=Bn.b3 HA g8;obtain⟨z198,z199,z200⟩:=Bn.b3 HA g9))
  clear HX OXG OBX DJX OLX
  replace HA:=G7.mk (Bn.drew HA.out)
  replace HG:=G7.mk (DkS.drew HG.out)
  refine start_ (n:=11) (S:=fun w'=>c3_ w' gD (.slice A0_0 l0_0.length c0_0) (.slice A0_1 l0_1.length c0_1) (.slice A0_2 l0_2.length c0_2)/\c4_ w' gA (.int .i64 a0) (.int .i64 a1) (.int .i64 a2) (.int .i64 a3)) (ds:=[]) #[false,false,false,false,false,false,false,false,false,false,false] (by kernel_rfl) rfl rfl ⟨Bn.b3 HA gD,Bn.b4 HA gA⟩ (fun hHeld=>?_);refine Js Fp.tab24 Fp.bits24 (fun HT_ HW_=>?_)
  generalize w184.drew=w201 at HA HG hHeld |-
  refine take_ (i:=0) (N:=some 80) (v:=?_) (a':=?_) #[true,false,false,false,false,false,false,false,false,false,false] rfl rfl (take_ofW HT_.out HW_.out (by kernel_rfl)) (fun _ _ _ h=>h) (Or.inl ⟨by rfl,?_⟩) hHeld ?_ ?_
  rotate_left
  · rintro w' ⟨⟨s0,s1,s2⟩,⟨s3,s4,s5,s6⟩⟩
    go_simp
    with_reducible rfl
  rotate_left
  · simp only[Act.put,List.setIfInBounds_toArray,List.set_cons_zero,List.set_cons_succ,i64_w,i32_w]
    rfl
  refine take_ (i:=2) (N:=some 82) (v:=?_) (a':=?_) #[true,false,true,false,false,false,false,false,false,false,false] rfl rfl (take_ofW HT_.out HW_.out (by kernel_rfl)) (fun _ _ _ h=>h) (Or.inl ⟨by rfl,?_⟩) hHeld ?_ ?_
  rotate_left
  · rintro w' ⟨⟨s0,s1,s2⟩,⟨s3,s4,s5,s6⟩⟩
    go_simp
    with_reducible rfl
  rotate_left
  · simp only[Act.put,List.setIfInBounds_toArray,List.set_cons_zero,List.set_cons_succ,i64_w,i32_w]
    rfl
  refine join_ (σ:=Option Addr × Nat × Option Addr × Nat × Option Addr × Nat × Option Addr × Nat × Option Addr × Nat × Option Addr × Nat × Nat) 2 #[true,true,true,true,true,true,true,true,true,false,false] (fun s_=>[(81, .agg #[.slice s_.1 l0_0.length s_.2.1, .slice s_.2.2.1 l0_1.length s_.2.2.2.1, .slice s_.2.2.2.2.1 ps.length s_.2.2.2.2.2.1]),(83, .agg #[.int .i64 a0, .int .i64 a1, .int .i64 a2, .int .i64 a3]),(84, .tuple #[.agg #[.slice s_.2.2.2.2.2.2.1 r1.length s_.2.2.2.2.2.2.2.1, .slice s_.2.2.2.2.2.2.2.2.1 r2.length s_.2.2.2.2.2.2.2.2.2.1, .slice s_.2.2.2.2.2.2.2.2.2.2.1 r3.length s_.2.2.2.2.2.2.2.2.2.2.2.1], .bool r4]),(14, .pointer (some ⟨s_.2.2.2.2.2.2.2.2.2.2.2.2,0,none⟩)),(79, .tuple #[.agg #[.slice s_.2.2.2.2.2.2.1 r1.length s_.2.2.2.2.2.2.2.1, .slice s_.2.2.2.2.2.2.2.2.1 r2.length s_.2.2.2.2.2.2.2.2.2.1, .slice s_.2.2.2.2.2.2.2.2.2.2.1 r3.length s_.2.2.2.2.2.2.2.2.2.2.2.1], .bool r4]),(85, .agg #[.slice s_.2.2.2.2.2.2.1 r1.length s_.2.2.2.2.2.2.2.1, .slice s_.2.2.2.2.2.2.2.2.1 r2.length s_.2.2.2.2.2.2.2.2.2.1, .slice s_.2.2.2.2.2.2.2.2.2.2.1 r3.length s_.2.2.2.2.2.2.2.2.2.2.2.1]),(86, .bool r4)]) (fun s_ w'=>(c3_ w' gD (.slice A0_0 l0_0.length c0_0) (.slice A0_1 l0_1.length c0_1) (.slice A0_2 l0_2.length c0_2)/\c4_ w' gA (.int .i64 a0) (.int .i64 a1) (.int .i64 a2) (.int .i64 a3))/\Bn w [bx g9 #[.slice AG0 r1.length cG0, .slice AG1 r2.length cG1, .slice AG2 r3.length cG2] 28,bx g8 #[.slice AX0 l0_0.length cX0, .slice AX1 l0_1.length cX1, .slice AX2 ps.length cX2] 28,dq loW hiW (.slice AW0 r1.length cW0) (.slice AW1 r2.length cW1) (.slice AW2 r3.length cW2) r1 r2 r3,bx g6 #[.slice AW0 r1.length cW0, .slice AW1 r2.length cW1, .slice AW2 r3.length cW2] 28,bx gA #[.int .i64 a0, .int .i64 a1, .int .i64 a2, .int .i64 a3] 66,bx gD #[.slice A0_0 l0_0.length c0_0, .slice A0_1 l0_1.length c0_1, .slice A0_2 l0_2.length c0_2] 43] w'/\DkS w.heap.size loG hiG (.slice AG0 r1.length cG0) (.slice AG1 r2.length cG1) (.slice AG2 r3.length cG2) y1 y2 y3 w'/\(∃lo_ hi_:Nat,DkS w.heap.size lo_ hi_ (.slice s_.2.2.2.2.2.2.1 r1.length s_.2.2.2.2.2.2.2.1) (.slice s_.2.2.2.2.2.2.2.2.1 r2.length s_.2.2.2.2.2.2.2.2.2.1) (.slice s_.2.2.2.2.2.2.2.2.2.2.1 r3.length s_.2.2.2.2.2.2.2.2.2.2.2.1) r1 r2 r3 w'/\w'.heap[s_.2.2.2.2.2.2.2.2.2.2.2.2]? = some (.cells #[.slice none 0 0, .slice none 0 0, .slice none 0 0] 28 (0,0))/\(hi_<=s_.2.2.2.2.2.2.2.2.2.2.2.2 ∨ s_.2.2.2.2.2.2.2.2.2.2.2.2 < lo_)/\Dj s_.2.2.2.2.2.2.2.2.2.2.2.2 (s_.2.2.2.2.2.2.2.2.2.2.2.2 + 1) [bx g9 #[.slice AG0 r1.length cG0, .slice AG1 r2.length cG1, .slice AG2 r3.length cG2] 28,bx g8 #[.slice AX0 l0_0.length cX0, .slice AX1 l0_1.length cX1, .slice AX2 ps.length cX2] 28,dq loW hiW (.slice AW0 r1.length cW0) (.slice AW1 r2.length cW1) (.slice AW2 r3.length cW2) r1 r2 r3,bx g6 #[.slice AW0 r1.length cW0, .slice AW1 r2.length cW1, .slice AW2 r3.length cW2] 28,bx gA #[.int .i64 a0, .int .i64 a1, .int .i64 a2, .int .i64 a3] 66,bx gD #[.slice A0_0 l0_0.length c0_0, .slice A0_1 l0_1.length c0_1, .slice A0_2 l0_2.length c0_2] 43]/\w.heap.size<=s_.2.2.2.2.2.2.2.2.2.2.2.2/\Dj lo_ hi_ [bx g9 #[.slice AG0 r1.length cG0, .slice AG1 r2.length cG1, .slice AG2 r3.length cG2] 28,bx g8 #[.slice AX0 l0_0.length cX0, .slice AX1 l0_1.length cX1, .slice AX2 ps.length cX2] 28,dq loW hiW (.slice AW0 r1.length cW0) (.slice AW1 r2.length cW1) (.slice AW2 r3.length cW2) r1 r2 r3,bx g6 #[.slice AW0 r1.length cW0, .slice AW1 r2.length cW1, .slice AW2 r3.length cW2] 28,bx gA #[.int .i64 a0, .int .i64 a1, .int .i64 a2, .int .i64 a3] 66,bx gD #[.slice A0_0 l0_0.length c0_0, .slice A0_1 l0_1.length c0_1, .slice A0_2 l0_2.length c0_2] 43]/\lo_<=hi_/\hiG<=s_.2.2.2.2.2.2.2.2.2.2.2.2/\hiG<=lo_)) ?_ ?_
  rotate_left
  · intro hCont
    refine two_ (i:=1) (j:=8) (Ni:=some 81) (Nj:=some 14) #[true,true,true,false,false,false,false,false,false,false,false] #[true,false,true,false,false,false,false,false,true,false,false] rfl rfl rfl rfl (two_of HT_.out (by kernel_rfl)) (by decide) (by decide) (fun K hK=>?_) (fun K hK=>?_)
    · skip
      refine goes_ Try.func29 (by kernel_rfl) rfl #[.agg #[.slice A0_0 l0_0.length c0_0, .slice A0_1 l0_1.length c0_1, .slice A0_2 l0_2.length c0_2]] (by rfl) rfl rfl (by(try simp only[List.map_toArray,List.map_cons,List.map_nil]);first|done|rfl|(simp only[List.length_drop,List.length_take];rfl)) ?_
      with_reducible refine(toDeskB k A0_0 c0_0 l0_0 A0_1 c0_1 l0_1 A0_2 c0_2 l0_2 l0_0 l0_1 ps ?side1 HR0.out HC0.out HR1.out HC1.out HR2.out HC2.out HTO.out).mono ?_
      (case side1=>exact(Bn.go HA).1)
      rintro e w202 ⟨AZ0,cZ0,AZ1,cZ1,AZ2,cZ2,loZ,hiZ,rfl,hlo_,hle_,hd_,hb⟩
      refine⟨_,rfl,?_⟩
      have OGZ:=DkS.gg HG hlo_
      have DJZ:=Bn.dj (n:=hiZ) HA hlo_
      replace HA:=Bn.mv HA hb
      replace HG:=DkS.mw HG hb
      have HZ:=G7.mk hd_
      have OLZ:=G7.mk hle_
      clear hb hlo_ hle_ hd_
      refine hK.out _ _ ⟨Bn.b3 HA gD,Bn.b4 HA gA⟩ (fun hHeld=>?_)
      clear hK K
      refine norm_ (a':=?_) ?_ ?_
      rotate_left
      · show Act.put _ (some 81) _=_
        simp only[Act.put,List.setIfInBounds_toArray,List.set_cons_zero,List.set_cons_succ,i64_w,i32_w]
        rfl
      refine two_ (i:=3) (j:=8) (Ni:=some 83) (Nj:=some 14) #[true,true,true,true,false,false,false,false,false,false,false] #[true,true,true,false,false,false,false,false,true,false,false] rfl rfl rfl rfl (two_of HT_.out (by kernel_rfl)) (by decide) (by decide) (fun K hK=>?_) (fun K hK=>?_)
      · skip
        refine goes_ Try.func55 (by kernel_rfl) rfl #[.agg #[.int .i64 a0, .int .i64 a1, .int .i64 a2, .int .i64 a3]] (by rfl) rfl rfl (by(try simp only[List.map_toArray,List.map_cons,List.map_nil]);first|done|rfl|(simp only[List.length_drop,List.length_take];rfl)) ?_
        with_reducible refine(Gx.calls a0 a1 a2 a3 a0 a1 a2 a3 _ HDE.out).mono ?_
        rintro e w203 ⟨rfl,hb⟩
        refine⟨_,rfl,?_⟩
        replace HA:=Bn.mv HA hb
        replace HG:=DkS.mw HG hb
        replace HZ:=DkS.mw HZ hb
        clear hb
        refine hK.out _ _ ⟨Bn.b3 HA gD,Bn.b4 HA gA⟩ (fun hHeld=>?_)
        clear hK K
        refine norm_ (a':=?_) ?_ ?_
        rotate_left
        · show Act.put _ (some 83) _=_
          simp only[Act.put,List.setIfInBounds_toArray,List.set_cons_zero,List.set_cons_succ,i64_w,i32_w]
          rfl
        refine two_ (i:=4) (j:=8) (Ni:=some 84) (Nj:=some 14) #[true,true,true,true,true,false,false,false,false,false,false] #[true,true,true,true,false,false,false,false,true,false,false] rfl rfl rfl rfl (two_of HT_.out (by kernel_rfl)) (by decide) (by decide) (fun K hK=>?_) (fun K hK=>?_)
        · skip
          refine goes_ Try.func56 (by kernel_rfl) rfl #[.agg #[.slice AZ0 l0_0.length cZ0, .slice AZ1 l0_1.length cZ1, .slice AZ2 ps.length cZ2], .agg #[.int .i64 a0, .int .i64 a1, .int .i64 a2, .int .i64 a3]] (by rfl) rfl rfl (by(try simp only[List.map_toArray,List.map_cons,List.map_nil]);first|done|rfl|(simp only[List.length_drop,List.length_take];rfl)) ?_
          with_reducible refine(doB (w:=w) k w.heap.size loZ hiZ _ _ _ _ _ _ _ _ _ l0_0 l0_1 ps a0 a1 a2 a3 r1 r2 r3 r4 ?side1 ?side2 HIM.out).mono ?_
          (case side1=>exact(Bn.go HA).1)
          (case side2=>exact DkS.gw HZ)
          rintro e w204 ⟨AH0,cH0,AH1,cH1,AH2,cH2,loH,hiH,rfl,hlo_,hle_,hd_,hb⟩
          refine⟨_,rfl,?_⟩
          have OGH:=DkS.gg HG hlo_
          have OZH:=DkS.gg HZ hlo_
          have DJH:=Bn.dj (n:=hiH) HA hlo_
          replace HA:=Bn.mv HA hb
          replace HG:=DkS.mw HG hb
          replace HZ:=DkS.mw HZ hb
          have HH:=G7.mk hd_
          have OLH:=G7.mk hle_
          clear hb hlo_ hle_ hd_
          refine hK.out _ _ ⟨Bn.b3 HA gD,Bn.b4 HA gA⟩ (fun hHeld=>?_)
          clear hK K
          refine norm_ (a':=?_) ?_ ?_
          rotate_left
          · show Act.put _ (some 84) _=_
            simp only[Act.put,List.setIfInBounds_toArray,List.set_cons_zero,List.set_cons_succ,i64_w,i32_w]
            rfl
          refine pure_ (i:=5) (N:=some 79) (v:=?_) (a':=?_) #[true,true,true,true,true,true,false,false,false,false,false] rfl rfl (any_of HT_.out (by kernel_rfl)) (fun _ _ _ h=>h) (Or.inl ⟨by rfl,?_⟩) ?_ ?_
          rotate_left
          · intro w'
            go_simp
            with_reducible rfl
          rotate_left
          · simp only[Act.put,List.setIfInBounds_toArray,List.set_cons_zero,List.set_cons_succ,i64_w,i32_w]
            rfl
          refine pure_ (i:=6) (N:=some 85) (v:=?_) (a':=?_) #[true,true,true,true,true,true,true,false,false,false,false] rfl rfl (any_of HT_.out (by kernel_rfl)) (fun _ _ _ h=>h) (Or.inl ⟨by rfl,?_⟩) ?_ ?_
          rotate_left
          · intro w'
            go_simp
            with_reducible rfl
          rotate_left
          · simp only[Act.put,List.setIfInBounds_toArray,List.set_cons_zero,List.set_cons_succ,i64_w,i32_w]
            rfl
          refine pure_ (i:=7) (N:=some 86) (v:=?_) (a':=?_) #[true,true,true,true,true,true,true,true,false,false,false] rfl rfl (any_of HT_.out (by kernel_rfl)) (fun _ _ _ h=>h) (Or.inl ⟨by rfl,?_⟩) ?_ ?_
          rotate_left
          · intro w'
            go_simp
            with_reducible rfl
          rotate_left
          · simp only[Act.put,List.setIfInBounds_toArray,List.set_cons_zero,List.set_cons_succ,i64_w,i32_w]
            rfl
          refine one_ (i:=8) (N:=some 14) #[true,true,true,true,true,true,true,true,true,false,false] rfl rfl (Ju HT_.out (by kernel_rfl)) (by decide) (fun K hK=>?_)
          refine box_step ?hg (N:=14) ?hd (cs:=#[.slice none 0 0, .slice none 0 0, .slice none 0 0]) (t:=28) ?hr ?_;(case hd=>rfl);(case hg=>rfl);(case hr=>first|(go_simp;done)|(go_simp;rfl))
          intro g14 hg w205 hbox hb
          have DG:=Bn.dj (n:=g14 + 1) HA hg
          have GW:=Bn.wg HA hg
          have OBG:=DkS.gg HG hg
          have OBZ:=DkS.gg HZ hg
          have OBH:=DkS.gg HH hg
          replace HA:=Bn.mv HA hb
          replace HG:=DkS.mw HG hb
          replace HZ:=DkS.mw HZ hb
          replace HH:=DkS.mw HH hb
          have BKp:=G7.mk hbox
          clear hb hbox hg
          refine hK.out _ _ ⟨Bn.b3 HA gD,Bn.b4 HA gA⟩ (fun hHeld=>?_)
          clear hK K
          refine norm_ (a':=?_) ?_ ?_
          rotate_left
          · show Act.put _ (some 14) _=_
            simp only[Act.put,List.setIfInBounds_toArray,List.set_cons_zero,List.set_cons_succ,i64_w,i32_w]
            rfl
          exact norm_ (by simp only[putAll,Act.put,List.setIfInBounds_toArray,List.set_cons_zero,List.set_cons_succ]) (hCont (AZ0,cZ0,AZ1,cZ1,AZ2,cZ2,AH0,cH0,AH1,cH1,AH2,cH2,g14) _ ⟨hHeld,HA.out,HG.out,⟨loH,hiH,HH.out,BKp.out,(.inl OBH.out),DG.out,GW.out,DJH.out,OLH.out,OBG.out,OGH.out⟩⟩)
        · skip
          refine box_step ?hg (N:=14) ?hd (cs:=#[.slice none 0 0, .slice none 0 0, .slice none 0 0]) (t:=28) ?hr ?_;(case hd=>rfl);(case hg=>rfl);(case hr=>first|(go_simp;done)|(go_simp;rfl))
          intro g14 hg w206 hbox hb
          have DG:=Bn.dj (n:=g14 + 1) HA hg
          have GW:=Bn.wg HA hg
          have OBG:=DkS.gg HG hg
          have OBZ:=DkS.gg HZ hg
          replace HA:=Bn.mv HA hb
          replace HG:=DkS.mw HG hb
          replace HZ:=DkS.mw HZ hb
          have BKp:=G7.mk hbox
          clear hb hbox hg
          refine hK.out _ _ ⟨Bn.b3 HA gD,Bn.b4 HA gA⟩ (fun hHeld=>?_)
          clear hK K
          refine norm_ (a':=?_) ?_ ?_
          rotate_left
          · show Act.put _ (some 14) _=_
            simp only[Act.put,List.setIfInBounds_toArray,List.set_cons_zero,List.set_cons_succ,i64_w,i32_w]
            rfl
          refine one_ (i:=4) (N:=some 84) #[true,true,true,true,true,false,false,false,true,false,false] rfl rfl (Ju HT_.out (by kernel_rfl)) (by decide) (fun K hK=>?_)
          refine goes_ Try.func56 (by kernel_rfl) rfl #[.agg #[.slice AZ0 l0_0.length cZ0, .slice AZ1 l0_1.length cZ1, .slice AZ2 ps.length cZ2], .agg #[.int .i64 a0, .int .i64 a1, .int .i64 a2, .int .i64 a3]] (by rfl) rfl rfl (by(try simp only[List.map_toArray,List.map_cons,List.map_nil]);first|done|rfl|(simp only[List.length_drop,List.length_take];rfl)) ?_
          with_reducible refine(doB (w:=w) k w.heap.size loZ hiZ _ _ _ _ _ _ _ _ _ l0_0 l0_1 ps a0 a1 a2 a3 r1 r2 r3 r4 ?side1 ?side2 HIM.out).mono ?_
          (case side1=>exact(Bn.go HA).1)
          (case side2=>exact DkS.gw HZ)
          rintro e w207 ⟨AH0,cH0,AH1,cH1,AH2,cH2,loH,hiH,rfl,hlo_,hle_,hd_,hb⟩
          refine⟨_,rfl,?_⟩
          have OGH:=DkS.gg HG hlo_
          have OZH:=DkS.gg HZ hlo_
          have DJH:=Bn.dj (n:=hiH) HA hlo_
          have OPH:=blk_ge BKp hlo_
          replace HA:=Bn.mv HA hb
          replace HG:=DkS.mw HG hb
          replace HZ:=DkS.mw HZ hb
          replace BKp:=blk_mv BKp hb
          have HH:=G7.mk hd_
          have OLH:=G7.mk hle_
          clear hb hlo_ hle_ hd_
          refine hK.out _ _ ⟨Bn.b3 HA gD,Bn.b4 HA gA⟩ (fun hHeld=>?_)
          clear hK K
          refine norm_ (a':=?_) ?_ ?_
          rotate_left
          · show Act.put _ (some 84) _=_
            simp only[Act.put,List.setIfInBounds_toArray,List.set_cons_zero,List.set_cons_succ,i64_w,i32_w]
            rfl
          refine pure_ (i:=5) (N:=some 79) (v:=?_) (a':=?_) #[true,true,true,true,true,true,false,false,true,false,false] rfl rfl (any_of HT_.out (by kernel_rfl)) (fun _ _ _ h=>h) (Or.inl ⟨by rfl,?_⟩) ?_ ?_
          rotate_left
          · intro w'
            go_simp
            with_reducible rfl
          rotate_left
          · simp only[Act.put,List.setIfInBounds_toArray,List.set_cons_zero,List.set_cons_succ,i64_w,i32_w]
            rfl
          refine pure_ (i:=6) (N:=some 85) (v:=?_) (a':=?_) #[true,true,true,true,true,true,true,false,true,false,false] rfl rfl (any_of HT_.out (by kernel_rfl)) (fun _ _ _ h=>h) (Or.inl ⟨by rfl,?_⟩) ?_ ?_
          rotate_left
          · intro w'
            go_simp
            with_reducible rfl
          rotate_left
          · simp only[Act.put,List.setIfInBounds_toArray,List.set_cons_zero,List.set_cons_succ,i64_w,i32_w]
            rfl
          refine pure_ (i:=7) (N:=some 86) (v:=?_) (a':=?_) #[true,true,true,true,true,true,true,true,true,false,false] rfl rfl (any_of HT_.out (by kernel_rfl)) (fun _ _ _ h=>h) (Or.inl ⟨by rfl,?_⟩) ?_ ?_
          rotate_left
          · intro w'
            go_simp
            with_reducible rfl
          rotate_left
          · simp only[Act.put,List.setIfInBounds_toArray,List.set_cons_zero,List.set_cons_succ,i64_w,i32_w]
            rfl
          exact norm_ (by simp only[putAll,Act.put,List.setIfInBounds_toArray,List.set_cons_zero,List.set_cons_succ]) (hCont (AZ0,cZ0,AZ1,cZ1,AZ2,cZ2,AH0,cH0,AH1,cH1,AH2,cH2,g14) _ ⟨hHeld,HA.out,HG.out,⟨loH,hiH,HH.out,BKp.out,(.inr OPH.out),DG.out,GW.out,DJH.out,OLH.out,OBG.out,OGH.out⟩⟩)
      · skip
        refine box_step ?hg (N:=14) ?hd (cs:=#[.slice none 0 0, .slice none 0 0, .slice none 0 0]) (t:=28) ?hr ?_;(case hd=>rfl);(case hg=>rfl);(case hr=>first|(go_simp;done)|(go_simp;rfl))
        intro g14 hg w208 hbox hb
        have DG:=Bn.dj (n:=g14 + 1) HA hg
        have GW:=Bn.wg HA hg
        have OBG:=DkS.gg HG hg
        have OBZ:=DkS.gg HZ hg
        replace HA:=Bn.mv HA hb
        replace HG:=DkS.mw HG hb
        replace HZ:=DkS.mw HZ hb
        have BKp:=G7.mk hbox
        clear hb hbox hg
        refine hK.out _ _ ⟨Bn.b3 HA gD,Bn.b4 HA gA⟩ (fun hHeld=>?_)
        clear hK K
        refine norm_ (a':=?_) ?_ ?_
        rotate_left
        · show Act.put _ (some 14) _=_
          simp only[Act.put,List.setIfInBounds_toArray,List.set_cons_zero,List.set_cons_succ,i64_w,i32_w]
          rfl
        refine one_ (i:=3) (N:=some 83) #[true,true,true,true,false,false,false,false,true,false,false] rfl rfl (Ju HT_.out (by kernel_rfl)) (by decide) (fun K hK=>?_)
        refine goes_ Try.func55 (by kernel_rfl) rfl #[.agg #[.int .i64 a0, .int .i64 a1, .int .i64 a2, .int .i64 a3]] (by rfl) rfl rfl (by(try simp only[List.map_toArray,List.map_cons,List.map_nil]);first|done|rfl|(simp only[List.length_drop,List.length_take];rfl)) ?_
        with_reducible refine(Gx.calls a0 a1 a2 a3 a0 a1 a2 a3 _ HDE.out).mono ?_
        rintro e w209 ⟨rfl,hb⟩
        refine⟨_,rfl,?_⟩
        replace HA:=Bn.mv HA hb
        replace HG:=DkS.mw HG hb
        replace HZ:=DkS.mw HZ hb
        replace BKp:=blk_mv BKp hb
        clear hb
        refine hK.out _ _ ⟨Bn.b3 HA gD,Bn.b4 HA gA⟩ (fun hHeld=>?_)
        clear hK K
        refine norm_ (a':=?_) ?_ ?_
        rotate_left
        · show Act.put _ (some 83) _=_
          simp only[Act.put,List.setIfInBounds_toArray,List.set_cons_zero,List.set_cons_succ,i64_w,i32_w]
          rfl
        refine one_ (i:=4) (N:=some 84) #[true,true,true,true,true,false,false,false,true,false,false] rfl rfl (Ju HT_.out (by kernel_rfl)) (by decide) (fun K hK=>?_)
        refine goes_ Try.func56 (by kernel_rfl) rfl #[.agg #[.slice AZ0 l0_0.length cZ0, .slice AZ1 l0_1.length cZ1, .slice AZ2 ps.length cZ2], .agg #[.int .i64 a0, .int .i64 a1, .int .i64 a2, .int .i64 a3]] (by rfl) rfl rfl (by(try simp only[List.map_toArray,List.map_cons,List.map_nil]);first|done|rfl|(simp only[List.length_drop,List.length_take];rfl)) ?_
        with_reducible refine(doB (w:=w) k w.heap.size loZ hiZ _ _ _ _ _ _ _ _ _ l0_0 l0_1 ps a0 a1 a2 a3 r1 r2 r3 r4 ?side1 ?side2 HIM.out).mono ?_
        (case side1=>exact(Bn.go HA).1)
        (case side2=>exact DkS.gw HZ)
        rintro e w210 ⟨AH0,cH0,AH1,cH1,AH2,cH2,loH,hiH,rfl,hlo_,hle_,hd_,hb⟩
        refine⟨_,rfl,?_⟩
        have OGH:=DkS.gg HG hlo_
        have OZH:=DkS.gg HZ hlo_
        have DJH:=Bn.dj (n:=hiH) HA hlo_
        have OPH:=blk_ge BKp hlo_
        replace HA:=Bn.mv HA hb
        replace HG:=DkS.mw HG hb
        replace HZ:=DkS.mw HZ hb
        replace BKp:=blk_mv BKp hb
        have HH:=G7.mk hd_
        have OLH:=G7.mk hle_
        clear hb hlo_ hle_ hd_
        refine hK.out _ _ ⟨Bn.b3 HA gD,Bn.b4 HA gA⟩ (fun hHeld=>?_)
        clear hK K
        refine norm_ (a':=?_) ?_ ?_
        rotate_left
        · show Act.put _ (some 84) _=_
          simp only[Act.put,List.setIfInBounds_toArray,List.set_cons_zero,List.set_cons_succ,i64_w,i32_w]
          rfl
        refine pure_ (i:=5) (N:=some 79) (v:=?_) (a':=?_) #[true,true,true,true,true,true,false,false,true,false,false] rfl rfl (any_of HT_.out (by kernel_rfl)) (fun _ _ _ h=>h) (Or.inl ⟨by rfl,?_⟩) ?_ ?_
        rotate_left
        · intro w'
          go_simp
          with_reducible rfl
        rotate_left
        · simp only[Act.put,List.setIfInBounds_toArray,List.set_cons_zero,List.set_cons_succ,i64_w,i32_w]
          rfl
        refine pure_ (i:=6) (N:=some 85) (v:=?_) (a':=?_) #[true,true,true,true,true,true,true,false,true,false,false] rfl rfl (any_of HT_.out (by kernel_rfl)) (fun _ _ _ h=>h) (Or.inl ⟨by rfl,?_⟩) ?_ ?_
        rotate_left
        · intro w'
          go_simp
          with_reducible rfl
        rotate_left
        · simp only[Act.put,List.setIfInBounds_toArray,List.set_cons_zero,List.set_cons_succ,i64_w,i32_w]
          rfl
        refine pure_ (i:=7) (N:=some 86) (v:=?_) (a':=?_) #[true,true,true,true,true,true,true,true,true,false,false] rfl rfl (any_of HT_.out (by kernel_rfl)) (fun _ _ _ h=>h) (Or.inl ⟨by rfl,?_⟩) ?_ ?_
        rotate_left
        · intro w'
          go_simp
          with_reducible rfl
        rotate_left
        · simp only[Act.put,List.setIfInBounds_toArray,List.set_cons_zero,List.set_cons_succ,i64_w,i32_w]
          rfl
        exact norm_ (by simp only[putAll,Act.put,List.setIfInBounds_toArray,List.set_cons_zero,List.set_cons_succ]) (hCont (AZ0,cZ0,AZ1,cZ1,AZ2,cZ2,AH0,cH0,AH1,cH1,AH2,cH2,g14) _ ⟨hHeld,HA.out,HG.out,⟨loH,hiH,HH.out,BKp.out,(.inr OPH.out),DG.out,GW.out,DJH.out,OLH.out,OBG.out,OGH.out⟩⟩)
    · skip
      refine box_step ?hg (N:=14) ?hd (cs:=#[.slice none 0 0, .slice none 0 0, .slice none 0 0]) (t:=28) ?hr ?_;(case hd=>rfl);(case hg=>rfl);(case hr=>first|(go_simp;done)|(go_simp;rfl))
      intro g14 hg w211 hbox hb
      have DG:=Bn.dj (n:=g14 + 1) HA hg
      have GW:=Bn.wg HA hg
      have OBG:=DkS.gg HG hg
      replace HA:=Bn.mv HA hb
      replace HG:=DkS.mw HG hb
      have BKp:=G7.mk hbox
      clear hb hbox hg
      refine hK.out _ _ ⟨Bn.b3 HA gD,Bn.b4 HA gA⟩ (fun hHeld=>?_)
      clear hK K
      refine norm_ (a':=?_) ?_ ?_
      rotate_left
      · show Act.put _ (some 14) _=_
        simp only[Act.put,List.setIfInBounds_toArray,List.set_cons_zero,List.set_cons_succ,i64_w,i32_w]
        rfl
      refine one_ (i:=1) (N:=some 81) #[true,true,true,false,false,false,false,false,true,false,false] rfl rfl (Ju HT_.out (by kernel_rfl)) (by decide) (fun K hK=>?_)
      refine goes_ Try.func29 (by kernel_rfl) rfl #[.agg #[.slice A0_0 l0_0.length c0_0, .slice A0_1 l0_1.length c0_1, .slice A0_2 l0_2.length c0_2]] (by rfl) rfl rfl (by(try simp only[List.map_toArray,List.map_cons,List.map_nil]);first|done|rfl|(simp only[List.length_drop,List.length_take];rfl)) ?_
      with_reducible refine(toDeskB k A0_0 c0_0 l0_0 A0_1 c0_1 l0_1 A0_2 c0_2 l0_2 l0_0 l0_1 ps ?side1 HR0.out HC0.out HR1.out HC1.out HR2.out HC2.out HTO.out).mono ?_
      (case side1=>exact(Bn.go HA).1)
      rintro e w212 ⟨AZ0,cZ0,AZ1,cZ1,AZ2,cZ2,loZ,hiZ,rfl,hlo_,hle_,hd_,hb⟩
      refine⟨_,rfl,?_⟩
      have OGZ:=DkS.gg HG hlo_
      have DJZ:=Bn.dj (n:=hiZ) HA hlo_
      have OPZ:=blk_ge BKp hlo_
      replace HA:=Bn.mv HA hb
      replace HG:=DkS.mw HG hb
      replace BKp:=blk_mv BKp hb
      have HZ:=G7.mk hd_
      have OLZ:=G7.mk hle_
      clear hb hlo_ hle_ hd_
      refine hK.out _ _ ⟨Bn.b3 HA gD,Bn.b4 HA gA⟩ (fun hHeld=>?_)
      clear hK K
      refine norm_ (a':=?_) ?_ ?_
      rotate_left
      · show Act.put _ (some 81) _=_
        simp only[Act.put,List.setIfInBounds_toArray,List.set_cons_zero,List.set_cons_succ,i64_w,i32_w]
        rfl
      refine one_ (i:=3) (N:=some 83) #[true,true,true,true,false,false,false,false,true,false,false] rfl rfl (Ju HT_.out (by kernel_rfl)) (by decide) (fun K hK=>?_)
      refine goes_ Try.func55 (by kernel_rfl) rfl #[.agg #[.int .i64 a0, .int .i64 a1, .int .i64 a2, .int .i64 a3]] (by rfl) rfl rfl (by(try simp only[List.map_toArray,List.map_cons,List.map_nil]);first|done|rfl|(simp only[List.length_drop,List.length_take];rfl)) ?_
      with_reducible refine(Gx.calls a0 a1 a2 a3 a0 a1 a2 a3 _ HDE.out).mono ?_
      rintro e w213 ⟨rfl,hb⟩
      refine⟨_,rfl,?_⟩
      replace HA:=Bn.mv HA hb
      replace HG:=DkS.mw HG hb
      replace HZ:=DkS.mw HZ hb
      replace BKp:=blk_mv BKp hb
      clear hb
      refine hK.out _ _ ⟨Bn.b3 HA gD,Bn.b4 HA gA⟩ (fun hHeld=>?_)
      clear hK K
      refine norm_ (a':=?_) ?_ ?_
      rotate_left
      · show Act.put _ (some 83) _=_
        simp only[Act.put,List.setIfInBounds_toArray,List.set_cons_zero,List.set_cons_succ,i64_w,i32_w]
        rfl
      refine one_ (i:=4) (N:=some 84) #[true,true,true,true,true,false,false,false,true,false,false] rfl rfl (Ju HT_.out (by kernel_rfl)) (by decide) (fun K hK=>?_)
      refine goes_ Try.func56 (by kernel_rfl) rfl #[.agg #[.slice AZ0 l0_0.length cZ0, .slice AZ1 l0_1.length cZ1, .slice AZ2 ps.length cZ2], .agg #[.int .i64 a0, .int .i64 a1, .int .i64 a2, .int .i64 a3]] (by rfl) rfl rfl (by(try simp only[List.map_toArray,List.map_cons,List.map_nil]);first|done|rfl|(simp only[List.length_drop,List.length_take];rfl)) ?_
      with_reducible refine(doB (w:=w) k w.heap.size loZ hiZ _ _ _ _ _ _ _ _ _ l0_0 l0_1 ps a0 a1 a2 a3 r1 r2 r3 r4 ?side1 ?side2 HIM.out).mono ?_
      (case side1=>exact(Bn.go HA).1)
      (case side2=>exact DkS.gw HZ)
      rintro e w214 ⟨AH0,cH0,AH1,cH1,AH2,cH2,loH,hiH,rfl,hlo_,hle_,hd_,hb⟩
      refine⟨_,rfl,?_⟩
      have OGH:=DkS.gg HG hlo_
      have OZH:=DkS.gg HZ hlo_
      have DJH:=Bn.dj (n:=hiH) HA hlo_
      have OPH:=blk_ge BKp hlo_
      replace HA:=Bn.mv HA hb
      replace HG:=DkS.mw HG hb
      replace HZ:=DkS.mw HZ hb
      replace BKp:=blk_mv BKp hb
      have HH:=G7.mk hd_
      have OLH:=G7.mk hle_
      clear hb hlo_ hle_ hd_
      refine hK.out _ _ ⟨Bn.b3 HA gD,Bn.b4 HA gA⟩ (fun hHeld=>?_)
      clear hK K
      refine norm_ (a':=?_) ?_ ?_
      rotate_left
      · show Act.put _ (some 84) _=_
        simp only[Act.put,List.setIfInBounds_toArray,List.set_cons_zero,List.set_cons_succ,i64_w,i32_w]
        rfl
      refine pure_ (i:=5) (N:=some 79) (v:=?_) (a':=?_) #[true,true,true,true,true,true,false,false,true,false,false] rfl rfl (any_of HT_.out (by kernel_rfl)) (fun _ _ _ h=>h) (Or.inl ⟨by rfl,?_⟩) ?_ ?_
      rotate_left
      · intro w'
        go_simp
        with_reducible rfl
      rotate_left
      · simp only[Act.put,List.setIfInBounds_toArray,List.set_cons_zero,List.set_cons_succ,i64_w,i32_w]
        rfl
      refine pure_ (i:=6) (N:=some 85) (v:=?_) (a':=?_) #[true,true,true,true,true,true,true,false,true,false,false] rfl rfl (any_of HT_.out (by kernel_rfl)) (fun _ _ _ h=>h) (Or.inl ⟨by rfl,?_⟩) ?_ ?_
      rotate_left
      · intro w'
        go_simp
        with_reducible rfl
      rotate_left
      · simp only[Act.put,List.setIfInBounds_toArray,List.set_cons_zero,List.set_cons_succ,i64_w,i32_w]
        rfl
      refine pure_ (i:=7) (N:=some 86) (v:=?_) (a':=?_) #[true,true,true,true,true,true,true,true,true,false,false] rfl rfl (any_of HT_.out (by kernel_rfl)) (fun _ _ _ h=>h) (Or.inl ⟨by rfl,?_⟩) ?_ ?_
      rotate_left
      · intro w'
        go_simp
        with_reducible rfl
      rotate_left
      · simp only[Act.put,List.setIfInBounds_toArray,List.set_cons_zero,List.set_cons_succ,i64_w,i32_w]
        rfl
      exact norm_ (by simp only[putAll,Act.put,List.setIfInBounds_toArray,List.set_cons_zero,List.set_cons_succ]) (hCont (AZ0,cZ0,AZ1,cZ1,AZ2,cZ2,AH0,cH0,AH1,cH1,AH2,cH2,g14) _ ⟨hHeld,HA.out,HG.out,⟨loH,hiH,HH.out,BKp.out,(.inr OPH.out),DG.out,GW.out,DJH.out,OLH.out,OBG.out,OGH.out⟩⟩)
  rintro⟨AZ0,cZ0,AZ1,cZ1,AZ2,cZ2,AH0,cH0,AH1,cH1,AH2,cH2,g14⟩ w215 ⟨hHeld,hA_,hG_,loH,hiH,hH_,hbx_,hor_,hdg_,hgw_,hdj_,hle_,hogG_,holG_⟩
  replace HA:=G7.mk hA_
  replace HG:=G7.mk hG_
  have HH:=G7.mk hH_
  have BKp:=G7.mk hbx_
  have DG:=G7.mk hdg_
  have GW:=G7.mk hgw_
  have DJH:=G7.mk hdj_
  have OLH:=G7.mk hle_
  have ORH:=G7.mk hor_
  have OBG:=G7.mk hogG_
  have OGH:=G7.mk holG_
  clear hA_ hbx_ hor_ hdg_ hgw_ hdj_ hle_ hH_ hG_ hogG_ holG_
  refine norm_ (a':=?_) ?_ ?_
  rotate_left
  · simp only[putAll,Act.put,List.setIfInBounds_toArray,List.set_cons_zero,List.set_cons_succ]
    rfl
  refine one_ (i:=9) (N:=none) #[true,true,true,true,true,true,true,true,true,true,false] rfl rfl (Ju HT_.out (by kernel_rfl)) (by decide) (fun K hK=>?_)
  have z0_:=G8 BKp.out 0
  have z1_:=G8 BKp.out 1
  have z2_:=G8 BKp.out 2
  have y0_:=Jj BKp.out 0
  have y1_:=Jj BKp.out 1
  have y2_:=Jj BKp.out 2
  refine skip_ (w1:=?_) (by rfl) rfl ?_ ?_
  rotate_left
  · go_simp
    rfl
  have nA_:=Bn.put3 HA BKp DG GW (.slice AH0 r1.length cH0) (.slice AH1 r2.length cH1) (.slice AH2 r3.length cH2)
  have nG_:=DkS.put3 HG (.inr OBG.out) (.slice AH0 r1.length cH0) (.slice AH1 r2.length cH1) (.slice AH2 r3.length cH2)
  have nH_:=DkS.put3 HH (ORH.out.symm) (.slice AH0 r1.length cH0) (.slice AH1 r2.length cH1) (.slice AH2 r3.length cH2)
  clear HA BKp GW HG HH
  have HA:=nA_
  have HG:=nG_
  have HH:=nH_
  clear nA_ nG_ nH_
  refine hK.out _ _ ⟨Bn.b3 HA gD,Bn.b4 HA gA⟩ (fun hHeld=>?_)
  clear hK K z0_ z1_ z2_ y0_ y1_ y2_
  generalize (((w215.setCell ⟨g14,0,none⟩ (.slice AH0 r1.length cH0)).setCell ⟨g14,1,none⟩ (.slice AH1 r2.length cH1)).setCell ⟨g14,2,none⟩ (.slice AH2 r3.length cH2))=w216 at HA HG HH hHeld |-
  refine pure_ (i:=10) (N:=some 15) (v:=?_) (a':=?_) #[true,true,true,true,true,true,true,true,true,true,true] rfl rfl (any_of HT_.out (by kernel_rfl)) (fun _ _ _ h=>h) (Or.inl ⟨by rfl,?_⟩) ?_ ?_
  rotate_left
  · intro w'
    go_simp
    with_reducible rfl
  rotate_left
  · simp only[Act.put,List.setIfInBounds_toArray,List.set_cons_zero,List.set_cons_succ,i64_w,i32_w]
    rfl
  refine done_ (done_of HT_.out (by kernel_rfl)) ?_
  clear HT_ HW_ hHeld
  obtain⟨z217,z218,z219⟩:=Bn.b3 HA gD
  obtain⟨z220,z221,z222,z223⟩:=Bn.b4 HA gA
  obtain⟨z224,z225,z226⟩:=Bn.b3 HA g6
  obtain⟨z227,z228,z229⟩:=Bn.b3 HA g8
  obtain⟨z230,z231,z232⟩:=Bn.b3 HA g9
  obtain⟨z233,z234,z235⟩:=Bn.b3 HA g14
  go_wp2_with (first|((with_reducible refine Ja (f:=17) rfl ?_);refine goesL_ (some 89) rfl rfl Try.func17 (by kernel_rfl) rfl #[.agg #[.slice AH0 r1.length cH0, .slice AH1 r2.length cH1, .slice AH2 r3.length cH2], .agg #[.slice AW0 r1.length cW0, .slice AW1 r2.length cW1, .slice AW2 r3.length cW2]] rfl (by(try simp only[List.map_toArray,List.map_cons,List.map_nil]);first|done|rfl|(simp only[List.length_drop,List.length_take];rfl)) ?_;(with_reducible refine(eqDQ k w.heap.size loH hiH loW hiW _ _ _ _ _ _ _ _ _ _ _ _ _ _ _ _ _ _ r1 r2 r3 r1 r2 r3 true ?side1 ?side2 HE1.out).mono ?_);(case side1=>exact DkS.gw HH);(case side2=>exact Bn.has (G7.mk (Bn.go HA)) (dq loW hiW _ _ _ r1 r2 r3));rintro e w236 ⟨rfl,hb⟩;refine⟨_,rfl,?_⟩;replace HA:=Bn.mv HA hb;replace HG:=DkS.mw HG hb;replace HH:=DkS.mw HH hb;clear hb;obtain⟨z237,z238,z239⟩:=Bn.b3 HA gD;obtain⟨z240,z241,z242,z243⟩:=Bn.b4 HA gA;obtain⟨z244,z245,z246⟩:=Bn.b3 HA g6;obtain⟨z247,z248,z249⟩:=Bn.b3 HA g8;obtain⟨z250,z251,z252⟩:=Bn.b3 HA g9;obtain⟨z253,z254,z255⟩:=Bn.b3 HA g14)|((with_reducible refine Ja (f:=19) rfl ?_);refine goesL_ (some 98) rfl rfl Try.func19 (by kernel_rfl) rfl #[.agg #[.slice AG0 r1.length cG0, .slice AG1 r2.length cG1, .slice AG2 r3.length cG2], .int .i64 1] rfl (by(try simp only[List.map_toArray,List.map_cons,List.map_nil]);first|done|rfl|(simp only[List.length_drop,List.length_take];rfl)) ?_;(with_reducible refine(heldD k w.heap.size loG hiG _ _ _ _ _ _ _ _ _ y1 y2 y3 1 m ?side1 HHD.out).mono ?_);(case side1=>exact DkS.gw HG);rintro e w256 ⟨rfl,hb⟩;refine⟨_,rfl,?_⟩;replace HA:=Bn.mv HA hb;replace HG:=DkS.mw HG hb;replace HH:=DkS.mw HH hb;clear hb;obtain⟨z257,z258,z259⟩:=Bn.b3 HA gD;obtain⟨z260,z261,z262,z263⟩:=Bn.b4 HA gA;obtain⟨z264,z265,z266⟩:=Bn.b3 HA g6;obtain⟨z267,z268,z269⟩:=Bn.b3 HA g8;obtain⟨z270,z271,z272⟩:=Bn.b3 HA g9;obtain⟨z273,z274,z275⟩:=Bn.b3 HA g14))
  go_ret
  exact⟨by first|rfl|(simp;done)|(simp[*];done),(Bn.go HA).1⟩
end Go.Proofs.Ytfooakkhkehpiaa.PE
namespace Go.Proofs.Ytfooakkhkehpiaa.Qh
open Go.RowKit Go.Proofs.YtfooakkhkehpiaaW.PrintWords Go.Proofs.YtfooakkhkehpiaaW.PrintMore
set_option linter.unusedVariables false
set_option linter.unusedSimpArgs false
theorem w64 {n:Int} (h1 : -9223372036854775808<=n) (h2:n<=9223372036854775807):wrap64 n=n:=by unfold wrap64;omega
theorem wsucc {i n:Nat} (h:i < n) (hn:n<=4611686018427387904):wrap64 ((i:Int) + 1)=((i + 1:Nat):Int):=by unfold wrap64;omega
section
variable {α β:Type} {r:α}
theorem evPos {c:Prop} [Decidable c] {g f:Nat->Option α} (h:c) (k:Ev g r):Ev (fun n=>if c then g n else f n) r:=by
  simp only[if_pos h];exact k
theorem evNeg {c:Prop} [Decidable c] {g f:Nat->Option α} (h:¬ c) (k:Ev f r):Ev (fun n=>if c then g n else f n) r:=by
  simp only[if_neg h];exact k
theorem evBind0 {g:Option β} {f:Nat->β->Option α} {a:β} (h:g=some a) (k:Ev (fun n=>f n a) r):Ev (fun n=>g.bind (f n)) r:=by
  subst h;exact k
theorem evNow {g:Option α} (h:g=some r):Ev (fun _=>g) r:=by subst h;exact Ev.now r
theorem evEq {g:Nat->Option α} {q:α} (h:Ev g q) (e:q=r):Ev g r:=e ▸ h
end
theorem rd_get (xs:List Int) (i:Nat) (h:i < xs.length):rd xs (i:Int)=xs[i]:=by
  simp[rd,List.getD_eq_getElem?_getD,List.getElem?_eq_getElem h]
theorem drop_rd (xs:List Int) (i:Nat) (h:i < xs.length):xs.drop i=rd xs (i:Int) :: xs.drop (i + 1):=by
  rw[rd_get xs i h,List.drop_eq_getElem_cons h]
theorem getD_set {α:Type} (xs:List α) (d v:α) (i j:Nat) (h:i < xs.length):(xs.set i v).getD j d=if i=j then v else xs.getD j d:=by
  simp only[List.getD_eq_getElem?_getD,List.getElem?_set]
  by_cases e:i=j
  · subst e;simp[h]
  · simp[e]
theorem rd_set (xs:List Int) (v:Int) (i j:Int) (h0:0<=i) (h:i < xs.length) (hj:0<=j):rd (xs.set i.toNat v) j=if i=j then v else rd xs j:=by
  unfold rd
  rw[getD_set xs 0 v i.toNat j.toNat (by omega)]
  by_cases e:i=j
  · subst e;simp
  · rw[if_neg e,if_neg (by omega)]
theorem rd_app (xs:List Int) (v:Int) (j:Nat):rd (xs ++ [v]) (j:Int)=if j < xs.length then rd xs j else if j=xs.length then v else 0:=by
  unfold rd
  simp only[Int.toNat_natCast,List.getD_eq_getElem?_getD,List.getElem?_append]
  by_cases h:j < xs.length
  · simp[h]
  · by_cases e:j=xs.length
    · subst e;simp
    · rw[if_neg h,if_neg h,if_neg e]
      have:1<=j - xs.length:=by omega
      rw[List.getElem?_eq_none (by simp;omega)];rfl
theorem ext_rd (xs ys:List Int) (hl:xs.length=ys.length) (h:∀i:Nat,i < xs.length->rd xs (i:Int)=rd ys (i:Int)):xs=ys:=by
  apply List.ext_getElem hl
  intro i h1 h2
  have:=h i h1
  rwa [rd_get xs i h1,rd_get ys i h2] at this
theorem ext_getD {α:Type} (d:α) (xs ys:List α) (hl:xs.length=ys.length) (h:∀i:Nat,i < xs.length->xs.getD i d=ys.getD i d):xs=ys:=by
  apply List.ext_getElem hl
  intro i h1 h2
  have:=h i h1
  simpa [List.getD_eq_getElem?_getD,List.getElem?_eq_getElem h1,List.getElem?_eq_getElem h2] using this
theorem getD_map {α β:Type} (f:α->β) (d:α) (e:β) (xs:List α) (i:Nat) (h:i < xs.length):(xs.map f).getD i e=f (xs.getD i d):=by
  simp[List.getD_eq_getElem?_getD,List.getElem?_eq_getElem h]
theorem getD_mem {α:Type} (d:α) (xs:List α) (i:Nat) (h:i < xs.length):xs.getD i d ∈ xs:=by
  simp[List.getD_eq_getElem?_getD,List.getElem?_eq_getElem h]
def EvB (g:Nat->Option Bool) (p:Prop):Prop:=∃b,(b=true ↔ p)/\Ev g b
section
variable {g f:Nat->Option Bool} {p q:Prop}
theorem EvB.congr (h:EvB g p) (e:p ↔ q):EvB g q:=by obtain⟨b,h1,h2⟩:=h;exact⟨b,h1.trans e,h2⟩
theorem EvB.tt (h:p):EvB (fun _=>some true) p:=⟨true,by simp[h],Ev.now _⟩
theorem EvB.ff (h:¬ p):EvB (fun _=>some false) p:=⟨false,by simp[h],Ev.now _⟩
theorem EvB.pos {c:Prop} [Decidable c] (h:c) (k:EvB g p):EvB (fun n=>if c then g n else f n) p:=by obtain⟨b,h1,h2⟩:=k;exact⟨b,h1,evPos h h2⟩
theorem EvB.neg {c:Prop} [Decidable c] (h:¬ c) (k:EvB f p):EvB (fun n=>if c then g n else f n) p:=by obtain⟨b,h1,h2⟩:=k;exact⟨b,h1,evNeg h h2⟩
theorem EvB.step {g f:Nat->Option Bool} (h:∀k,g (k + 1)=f k) (k:EvB f p):EvB g p:=by obtain⟨b,h1,h2⟩:=k;exact⟨b,h1,Ev.step h h2⟩
theorem EvB.bind {β:Type} {g:Nat->Option β} {f:Nat->β->Option Bool} {a:β} (h:Ev g a) (k:EvB (fun n=>f n a) p):EvB (fun n=>(g n).bind (f n)) p:=by obtain⟨b,h1,h2⟩:=k;exact⟨b,h1,Ev.bind h h2⟩
theorem EvB.bind0 {β:Type} {g:Option β} {f:Nat->β->Option Bool} {a:β} (h:g=some a) (k:EvB (fun n=>f n a) p):EvB (fun n=>g.bind (f n)) p:=by obtain⟨b,h1,h2⟩:=k;exact⟨b,h1,evBind0 h h2⟩
theorem EvB.yes (h:EvB g p) (hp:p):Ev g true:=by obtain⟨b,h1,h2⟩:=h;rw[h1.2 hp] at h2;exact h2
theorem EvB.no (h:EvB g p) (hp:¬ p):Ev g false:=by
  obtain⟨b,h1,h2⟩:=h
  have:b=false:=by cases b with
    | true=>exact absurd (h1.1 rfl) hp
    | false=>rfl
  rw[this] at h2;exact h2
end
end Go.Proofs.Ytfooakkhkehpiaa.Qh
namespace Go.Proofs.Ytfooakkhkehpiaa.TiE
open Go.RowKit Go.Proofs.Ytfooakkhkehpiaa.PE Go.Proofs.Ytfooakkhkehpiaa.Qh Go.Proofs.YtfooakkhkehpiaaW.PrintWords Go.Proofs.YtfooakkhkehpiaaW.PrintMore
set_option linter.unusedVariables false
set_option linter.unusedSimpArgs false
theorem toI_l (l:List Int) (hl:l.length<=1048576):∀(d i:Nat) (o:List Int),l.length - i=d->i<=l.length->o.length=l.length->(∀j:Nat,j < i->rd o (j:Int)=rd l (j:Int)) ->
    Ev (fun k=>Gj.l0 k l o (i:Int)) l:=by
  intro d
  induction d with
  | zero=>
    intro i o hd hi ho hj
    obtain rfl:i=l.length:=by omega
    refine Ev.step (fun k=>by rw[Gj.l0]) ?_
    refine evNeg (by omega) ?_
    exact evNow (by rw[ext_rd o l ho (fun j h=>hj j (by omega))])
  | succ d ih=>
    intro i o hd hi ho hj
    have hlt:i < l.length:=by omega
    have hs:wrap64 ((i:Int) + 1)=((i + 1:Nat):Int):=wsucc hlt (by omega)
    refine Ev.step (fun k=>by rw[Gj.l0]) ?_
    refine evPos (by omega) (evPos (by omega) (evPos (by omega) ?_))
    rw[hs]
    refine ih (i + 1) _ (by omega) (by omega) (by simp[ho]) (fun j h=>?_)
    rw[rd_set _ _ _ _ (by omega) (by omega) (by omega)]
    by_cases e:(i:Int)=j
    · rw[if_pos e,e]
    · rw[if_neg e];exact hj j (by omega)
theorem toI (l:List Int) (hl:l.length<=1048576):Ev (fun k=>Gj.f k l) l:=by
  unfold Gj.f
  refine evPos (by omega) (evPos (by omega) ?_)
  exact toI_l l hl l.length 0 _ (by omega) (by omega) (by simp) (fun j h=>by omega)
theorem eqI_l (l:List Int) (hl:l.length<=4611686018427387904):∀(d i:Nat),l.length - i=d->i<=l.length->Ev (fun k=>F9.l0 k l l (i:Int)) true:=by
  intro d
  induction d with
  | zero=>
    intro i hd hi
    refine Ev.step (fun k=>by rw[F9.l0]) ?_
    exact evNeg (by omega) (Ev.now _)
  | succ d ih=>
    intro i hd hi
    have hlt:i < l.length:=by omega
    have hs:wrap64 ((i:Int) + 1)=((i + 1:Nat):Int):=wsucc hlt (by omega)
    refine Ev.step (fun k=>by rw[F9.l0]) ?_
    refine evPos (by omega) (evPos (by omega) (evPos (by omega) (evPos rfl ?_)))
    rw[hs]
    exact ih (i + 1) (by omega) (by omega)
theorem eqI (l:List Int) (hl:l.length<=4611686018427387904):Ev (fun k=>F9.f k l l) true:=by
  unfold F9.f
  exact evPos rfl (eqI_l l hl l.length 0 (by omega) (by omega))
end Go.Proofs.Ytfooakkhkehpiaa.TiE
namespace Go.Proofs.Ytfooakkhkehpiaa.TbE
open Go.RowKit Go.Proofs.Ytfooakkhkehpiaa.PE Go.Proofs.Ytfooakkhkehpiaa.Qh Go.Proofs.YtfooakkhkehpiaaW.PrintWords Go.Proofs.YtfooakkhkehpiaaW.PrintMore
set_option linter.unusedVariables false
set_option linter.unusedSimpArgs false
def Small (c:List Int) (d:List (List Int)):Prop:=c.length<=1048576/\d.length<=1048576/\∀i:Nat,i < d.length->(Jm d (i:Int)).length<=1048576
theorem rL2 (xs:List (List Int)) (i:Nat):Jm xs (i:Int)=xs.getD i []:=rfl
theorem szI (l:List Int) (hm:l.length<=9223372036854775807) (a:Int) (h0:0<=a) (h1:a<=1048576):Gv.f l a=some (if (l.length:Int)<=a then a - (l.length:Int) else -1):=by
  unfold Gv.f
  rw[w64 (by omega) (by omega)]
  by_cases h:(l.length:Int)<=a
  · rw[if_neg (by omega),if_pos h]
  · rw[if_pos (by omega),if_neg h]
theorem szSS_l (d:List (List Int)) (hd:d.length<=1048576) (hr:∀y ∈ d,y.length<=9223372036854775807):∀(e i:Nat) (a:Int),d.length - i=e->i<=d.length->0<=a->a<=1048576 ->
    (∃t:Int,0<=t/\t<=1048576/\(∀i':Nat,i<=i'->i' < d.length->(Jm d (i':Int)).length<=1048576)/\Ev (fun k=>Gc.l0 k d a (i:Int)) t) ∨ Ev (fun k=>Gc.l0 k d a (i:Int)) (-1):=by
  intro e
  induction e with
  | zero=>
    intro i a he hi h0 h1
    refine .inl ⟨a,h0,h1,fun i' h2 h3=>by omega,Ev.step (fun k=>by rw[Gc.l0]) (evNeg (by omega) (Ev.now _))⟩
  | succ e ih=>
    intro i a he hi h0 h1
    have hlt:i < d.length:=by omega
    have hs:wrap64 ((i:Int) + 1)=((i + 1:Nat):Int):=wsucc hlt (by omega)
    have hm:(Jm d (i:Int)).length<=9223372036854775807:=hr _ (by rw[rL2];exact getD_mem [] d i hlt)
    by_cases h:((Jm d (i:Int)).length:Int)<=a
    · have hz:=szI _ hm a h0 h1
      rw[if_pos h] at hz
      rcases ih (i + 1) (a - ((Jm d (i:Int)).length:Int)) (by omega) (by omega) (by omega) (by omega) with⟨t,t0,t1,t2,t3⟩|h3
      · refine .inl ⟨t,t0,t1,fun i' h5 h6=>?_,?_⟩
        · by_cases e':i'=i
          · subst e';omega
          · exact t2 i' (by omega) h6
        · refine Ev.step (fun k=>by rw[Gc.l0]) ?_
          refine evPos (by omega) (evPos (by omega) (evBind0 hz (evNeg (by omega) ?_)))
          rw[hs];exact t3
      · refine .inr ?_
        refine Ev.step (fun k=>by rw[Gc.l0]) ?_
        refine evPos (by omega) (evPos (by omega) (evBind0 hz (evNeg (by omega) ?_)))
        rw[hs];exact h3
    · have hz:=szI _ hm a h0 h1
      rw[if_neg h] at hz
      refine .inr ?_
      refine Ev.step (fun k=>by rw[Gc.l0]) ?_
      refine evPos (by omega) (evPos (by omega) (evBind0 hz ?_))
      exact evPos (by omega) (Ev.now _)
theorem szB (c:List Int) (d:List (List Int)) (hc:c.length<=9223372036854775807) (hd:d.length<=9223372036854775807) (hr:∀y ∈ d,y.length<=9223372036854775807) (a:Int) (h0:0<=a) (h1:a<=1048576) :
    (∃t:Int,0<=t/\t<=1048576/\Small c d/\Ev (fun k=>Gs.f k c d a) t) ∨ Ev (fun k=>Gs.f k c d a) (-1):=by
  unfold Gs.f
  have hz:=szI c hc a h0 h1
  by_cases h:(c.length:Int)<=a
  · rw[if_pos h] at hz
    have hz2:=szI
    by_cases h2:(d.length:Int)<=a - c.length
    · have hw:wrap64 (a - (c.length:Int) - (d.length:Int))=a - (c.length:Int) - (d.length:Int):=w64 (by omega) (by omega)
      rcases szSS_l d (by omega) hr _ 0 (a - (c.length:Int) - (d.length:Int)) rfl (by omega) (by omega) (by omega) with⟨t,t0,t1,t2,t3⟩|h3
      · refine .inl ⟨t,t0,t1,⟨by omega,by omega,fun i hi=>t2 i (by omega) hi⟩,evBind0 hz (evNeg (by omega) (Ev.bind (a:=t) ?_ (evNeg (by omega) (Ev.now _))))⟩
        unfold Gc.f
        rw[hw]
        exact evNeg (by omega) t3
      · refine .inr (evBind0 hz (evNeg (by omega) (Ev.bind (a := -1) ?_ (evPos (by omega) (Ev.now _)))))
        unfold Gc.f
        rw[hw]
        exact evNeg (by omega) h3
    · have hw:wrap64 (a - (c.length:Int) - (d.length:Int))=a - (c.length:Int) - (d.length:Int):=w64 (by omega) (by omega)
      refine .inr (evBind0 hz (evNeg (by omega) (Ev.bind (a := -1) ?_ (evPos (by omega) (Ev.now _)))))
      unfold Gc.f
      rw[hw]
      exact evPos (by omega) (Ev.now _)
  · rw[if_neg h] at hz
    exact .inr (evBind0 hz (evPos (by omega) (Ev.now _)))
theorem toSS_l (l:List (List Int)) (hl:l.length<=1048576) (hr:∀i:Nat,i < l.length->(Jm l (i:Int)).length<=1048576):∀(d i:Nat) (o:List (List Int)),l.length - i=d->i<=l.length->o.length=l.length->(∀j:Nat,j < i->o.getD j []=l.getD j []) ->
    Ev (fun k=>Gk.l0 k l o (i:Int)) l:=by
  intro d
  induction d with
  | zero=>
    intro i o hd hi ho hj
    refine Ev.step (fun k=>by rw[Gk.l0]) ?_
    refine evNeg (by omega) (evEq (Ev.now _) ?_)
    exact ext_getD [] _ _ ho (fun j h=>hj j (by omega))
  | succ d ih=>
    intro i o hd hi ho hj
    have hlt:i < l.length:=by omega
    have hs:wrap64 ((i:Int) + 1)=((i + 1:Nat):Int):=wsucc hlt (by omega)
    refine Ev.step (fun k=>by rw[Gk.l0]) ?_
    refine evPos (by omega) (evPos (by omega) (Ev.bind (TiE.toI _ (hr i hlt)) ?_))
    refine evPos (by omega) ?_
    rw[hs,Int.toNat_natCast]
    refine ih (i + 1) _ (by omega) (by omega) (by rw[List.length_set];exact ho) (fun j h=>?_)
    rw[getD_set _ _ _ _ _ (by omega)]
    by_cases e:i=j
    · subst e;rw[if_pos rfl];rfl
    · rw[if_neg e];exact hj j (by omega)
theorem toSS (l:List (List Int)) (hl:l.length<=1048576) (hr:∀i:Nat,i < l.length->(Jm l (i:Int)).length<=1048576):Ev (fun k=>Gk.f k l) l:=by
  unfold Gk.f
  refine evPos (by omega) (evPos (by omega) ?_)
  exact toSS_l l hl hr l.length 0 _ (by omega) (by omega) (by simp) (fun j h=>by omega)
theorem toB (c:List Int) (d:List (List Int)) (h:Small c d):Ev (fun k=>G4.f k c d) (c,d):=by
  unfold G4.f
  exact Ev.bind (TiE.toI c h.1) (Ev.bind (toSS d h.2.1 h.2.2) (Ev.now _))
theorem eqSS_l (l:List (List Int)) (hl:l.length<=1048576) (hr:∀i:Nat,i < l.length->(Jm l (i:Int)).length<=1048576):∀(d i:Nat),l.length - i=d->i<=l.length->Ev (fun k=>Gm.l0 k l l (i:Int)) true:=by
  intro d
  induction d with
  | zero=>
    intro i hd hi
    exact Ev.step (fun k=>by rw[Gm.l0]) (evNeg (by omega) (Ev.now _))
  | succ d ih=>
    intro i hd hi
    have hlt:i < l.length:=by omega
    have hs:wrap64 ((i:Int) + 1)=((i + 1:Nat):Int):=wsucc hlt (by omega)
    refine Ev.step (fun k=>by rw[Gm.l0]) ?_
    refine evPos (by omega) (evPos (by omega) (evPos (by omega) (Ev.bind (TiE.eqI _ (by have:=hr i hlt;omega)) ?_)))
    refine evPos rfl ?_
    rw[hs]
    exact ih (i + 1) (by omega) (by omega)
theorem eqB (c:List Int) (d:List (List Int)) (h:Small c d):Ev (fun k=>Gt.f k c d c d) true:=by
  unfold Gt.f
  refine Ev.bind (TiE.eqI c (by have:=h.1;omega)) (evPos rfl (Ev.bind (a:=true) ?_ (evPos rfl (Ev.now _))))
  unfold Gm.f
  exact evPos rfl (eqSS_l d h.2.1 h.2.2 d.length 0 (by omega) (by omega))
end Go.Proofs.Ytfooakkhkehpiaa.TbE
namespace Go.Proofs.Ytfooakkhkehpiaa.MrE
open Go.RowKit Go.Proofs.Ytfooakkhkehpiaa.PE Go.Proofs.Ytfooakkhkehpiaa.Qh Go.Proofs.Ytfooakkhkehpiaa.TbE Go.Proofs.YtfooakkhkehpiaaW.PrintWords Go.Proofs.YtfooakkhkehpiaaW.PrintMore
set_option linter.unusedVariables false
set_option linter.unusedSimpArgs false
def mkI (n:Nat) (a:Int):List Int:=(List.range n).map (fun i:Nat=>a + (i:Int))
theorem mkI_len (n:Nat) (a:Int):(mkI n a).length=n:=by simp[mkI]
theorem mkI_get {n i:Nat} {a:Int} (h:i < n):rd (mkI n a) (i:Int)=a + i:=by
  rw[rd_get _ _ (by rw[mkI_len];exact h)];simp[mkI]
theorem mI_l (n:Nat) (a:Int) (h0:0<=a) (h1:a + n<=4611686018427387904):∀(e i:Nat) (o:List Int),n - i=e->i<=n->o.length=n->(∀j:Nat,j < i->rd o (j:Int)=a + j) ->
    Ev (fun k=>F3.l0 k o (a + i) (i:Int)) (a + n,mkI n a):=by
  intro e
  induction e with
  | zero=>
    intro i o he hi ho hj
    obtain rfl:i=n:=by omega
    refine Ev.step (fun k=>by rw[F3.l0]) ?_
    refine evNeg (by omega) (evEq (Ev.now _) ?_)
    rw[ext_rd o (mkI i a) (by rw[mkI_len,ho]) (fun j h=>by rw[hj j (by omega),mkI_get (by omega)])]
  | succ e ih=>
    intro i o he hi ho hj
    have hlt:i < n:=by omega
    have hs:wrap64 ((i:Int) + 1)=((i + 1:Nat):Int):=wsucc hlt (by omega)
    have ha:wrap64 (a + (i:Int) + 1)=a + ((i + 1:Nat):Int):=by rw[w64 (by omega) (by omega)];omega
    refine Ev.step (fun k=>by rw[F3.l0]) ?_
    refine evPos (by omega) (evPos (by omega) ?_)
    rw[hs,ha]
    refine ih (i + 1) _ (by omega) (by omega) (by simp[ho]) (fun j h=>?_)
    rw[rd_set _ _ _ _ (by omega) (by omega) (by omega)]
    by_cases z:(i:Int)=(j:Int)
    · rw[if_pos z,z]
    · rw[if_neg z];exact hj j (by omega)
theorem mI (l:List Int) (a:Int) (h0:0<=a) (h1:a + l.length<=4611686018427387904):Ev (fun k=>F3.f k l a) (a + l.length,mkI l.length a):=by
  unfold F3.f
  have:=mI_l l.length a h0 h1 l.length 0 l rfl (by omega) rfl (fun j h=>by omega)
  rw[show a + ((0:Nat):Int)=a by omega] at this
  exact this
theorem hI_l (n:Nat) (a:Int) (h0:0<=a) (h1:a + n<=4611686018427387904):∀(e i:Nat),n - i=e->i<=n->Ev (fun k=>Fx.l0 k (mkI n a) (a + i) (i:Int)) (a + n):=by
  have hl:=mkI_len n a
  intro e
  induction e with
  | zero=>
    intro i he hi
    obtain rfl:i=n:=by omega
    refine Ev.step (fun k=>by rw[Fx.l0]) ?_
    exact evNeg (by omega) (Ev.now _)
  | succ e ih=>
    intro i he hi
    have hlt:i < n:=by omega
    have hs:wrap64 ((i:Int) + 1)=((i + 1:Nat):Int):=wsucc hlt (by omega)
    have ha:wrap64 (a + (i:Int) + 1)=a + ((i + 1:Nat):Int):=by rw[w64 (by omega) (by omega)];omega
    refine Ev.step (fun k=>by rw[Fx.l0]) ?_
    refine evPos (by omega) (evPos (by omega) (evPos (mkI_get hlt) ?_))
    rw[hs,ha]
    exact ih (i + 1) (by omega) (by omega)
theorem hI (n:Nat) (a:Int) (h0:0<=a) (h1:a + n<=4611686018427387904):Ev (fun k=>Fx.f k (mkI n a) a) (a + n):=by
  unfold Fx.f
  have:=hI_l n a h0 h1 n 0 rfl (by omega)
  rw[show a + ((0:Nat):Int)=a by omega] at this
  exact this
def st (l:List (List Int)) (a:Int):Nat->Int
  | 0=>a
  | j + 1=>st l a j + (Jm l (j:Int)).length
def mkSS (l:List (List Int)) (a:Int):List (List Int):=(List.range l.length).map (fun j:Nat=>mkI (Jm l (j:Int)).length (st l a j))
theorem mkSS_len (l:List (List Int)) (a:Int):(mkSS l a).length=l.length:=by simp[mkSS]
theorem mkSS_get {l:List (List Int)} {a:Int} {j:Nat} (h:j < l.length):(mkSS l a).getD j []=mkI (Jm l (j:Int)).length (st l a j):=by
  rw[List.getD_eq_getElem?_getD,List.getElem?_eq_getElem (by rw[mkSS_len];exact h)];simp[mkSS]
variable {l:List (List Int)} {a:Int}
theorem st_bd (h0:0<=a) (hr:∀i:Nat,i < l.length->(Jm l (i:Int)).length<=1048576):∀j:Nat,j<=l.length->0<=st l a j/\st l a j<=a + 1048576 * j
  | 0,_=>by simp[st,h0]
  | j + 1,hj=>by
    have:=st_bd h0 hr j (by omega)
    have:=hr j (by omega)
    simp only[st];omega
theorem mSS_l (hl:l.length<=1048576) (hr:∀i:Nat,i < l.length->(Jm l (i:Int)).length<=1048576) (h0:0<=a) (h1:a<=2305843009213693952):∀(e i:Nat) (cur:List (List Int)),l.length - i=e->i<=l.length->cur.length=l.length->(∀j:Nat,j < i->cur.getD j []=(mkSS l a).getD j [])->(∀j:Nat,i<=j->j < l.length->cur.getD j []=l.getD j []) ->
    Ev (fun k=>F7.l0 k cur (st l a i) (i:Int)) (st l a l.length,mkSS l a):=by
  have hml:=mkSS_len l a
  intro e
  induction e with
  | zero=>
    intro i cur he hi hc h2 h3
    obtain rfl:i=l.length:=by omega
    refine Ev.step (fun k=>by rw[F7.l0]) ?_
    refine evNeg (by omega) (evEq (Ev.now _) ?_)
    rw[ext_getD [] cur (mkSS l a) (by omega) (fun j h=>h2 j (by omega))]
  | succ e ih=>
    intro i cur he hi hc h2 h3
    have hlt:i < l.length:=by omega
    have hs:wrap64 ((i:Int) + 1)=((i + 1:Nat):Int):=wsucc hlt (by omega)
    have hb:=st_bd h0 hr i (by omega)
    have hri:=hr i hlt
    have e1:cur.getD (i:Int).toNat []=Jm l (i:Int):=by rw[Int.toNat_natCast,h3 i (Nat.le_refl _) hlt];rfl
    refine Ev.step (fun k=>by rw[F7.l0]) ?_
    refine evPos (by omega) (evPos (by omega) (Ev.bind (by rw[e1];exact mI _ _ hb.1 (by omega)) ?_))
    rw[hs,Int.toNat_natCast]
    refine ih (i + 1) _ (by omega) (by omega) (by simp[hc]) (fun j h=>?_) (fun j h4 h5=>?_)
    · rw[getD_set _ _ _ _ _ (by omega)]
      by_cases z:i=j
      · subst z;rw[if_pos rfl,mkSS_get hlt]
      · rw[if_neg z];exact h2 j (by omega)
    · rw[getD_set _ _ _ _ _ (by omega),if_neg (by omega)];exact h3 j (by omega) h5
theorem mSS (hl:l.length<=1048576) (hr:∀i:Nat,i < l.length->(Jm l (i:Int)).length<=1048576) (h0:0<=a) (h1:a<=2305843009213693952):Ev (fun k=>F7.f k l a) (st l a l.length,mkSS l a):=by
  unfold F7.f
  exact mSS_l hl hr h0 h1 l.length 0 l rfl (by omega) rfl (fun j h=>by omega) (fun j _ _=>rfl)
theorem hSS_l (hl:l.length<=1048576) (hr:∀i:Nat,i < l.length->(Jm l (i:Int)).length<=1048576) (h0:0<=a) (h1:a<=2305843009213693952):∀(e i:Nat),l.length - i=e->i<=l.length ->
    Ev (fun k=>F4.l0 k (mkSS l a) (st l a i) (i:Int)) (st l a l.length):=by
  have hml:=mkSS_len l a
  intro e
  induction e with
  | zero=>
    intro i he hi
    obtain rfl:i=l.length:=by omega
    refine Ev.step (fun k=>by rw[F4.l0]) ?_
    exact evNeg (by omega) (Ev.now _)
  | succ e ih=>
    intro i he hi
    have hlt:i < l.length:=by omega
    have hs:wrap64 ((i:Int) + 1)=((i + 1:Nat):Int):=wsucc hlt (by omega)
    have hb:=st_bd h0 hr i (by omega)
    have hb2:=st_bd h0 hr (i + 1) (by omega)
    have hri:=hr i hlt
    have e1:Jm (mkSS l a) (i:Int)=mkI (Jm l (i:Int)).length (st l a i):=mkSS_get hlt
    refine Ev.step (fun k=>by rw[F4.l0]) ?_
    refine evPos (by omega) (evPos (by omega) (Ev.bind (by rw[e1];exact hI _ _ hb.1 (by omega)) ?_))
    rw[hs]
    exact evNeg (by omega) (ih (i + 1) (by omega) (by omega))
theorem hSS (hl:l.length<=1048576) (hr:∀i:Nat,i < l.length->(Jm l (i:Int)).length<=1048576) (h0:0<=a) (h1:a<=2305843009213693952):Ev (fun k=>F4.f k (mkSS l a) a) (st l a l.length):=by
  unfold F4.f
  exact hSS_l hl hr h0 h1 l.length 0 rfl (by omega)
end Go.Proofs.Ytfooakkhkehpiaa.MrE
namespace Go.Proofs.Ytfooakkhkehpiaa.DtE
open Go.RowKit Go.Proofs.Ytfooakkhkehpiaa.PE Go.Proofs.Ytfooakkhkehpiaa.Qh Go.Proofs.Ytfooakkhkehpiaa.TbE Go.Proofs.YtfooakkhkehpiaaW.PrintWords Go.Proofs.YtfooakkhkehpiaaW.PrintMore
set_option linter.unusedVariables false
set_option linter.unusedSimpArgs false
abbrev B:=S25
abbrev L:=S40
def cv (x:L):B:=⟨x.f0,x.f1⟩
theorem rL (xs:List L) (i:Nat):rd_T40 xs (i:Int)=xs.getD i z40:=rfl
def SmallS (l:List L):Prop:=l.length<=1048576/\∀i:Nat,i < l.length->Small (rd_T40 l (i:Int)).f0 (rd_T40 l (i:Int)).f1
def Fit (x:L):Prop:=x.f0.length<=9223372036854775807/\x.f1.length<=9223372036854775807/\∀y ∈ x.f1,y.length<=9223372036854775807
theorem sz_l (l:List L) (hl:l.length<=1048576) (hf:∀x ∈ l,Fit x):∀(e i:Nat) (a:Int),l.length - i=e->i<=l.length->0<=a->a<=1048576 ->
    (∃t:Int,0<=t/\t<=1048576/\(∀j:Nat,i<=j->j < l.length->Small (rd_T40 l (j:Int)).f0 (rd_T40 l (j:Int)).f1)/\Ev (fun k=>Gd.l0 k l a (i:Int)) t) ∨ Ev (fun k=>Gd.l0 k l a (i:Int)) (-1):=by
  intro e
  induction e with
  | zero=>
    intro i a he hi h0 h1
    left
    refine⟨a,h0,h1,fun j h2 h3=>by omega,Ev.step (fun k=>by rw[Gd.l0]) ?_⟩
    exact evNeg (by omega) (Ev.now _)
  | succ e ih=>
    intro i a he hi h0 h1
    have hlt:i < l.length:=by omega
    have hs:G7 (wrap64 ((i:Int) + 1)=((i + 1:Nat):Int)):=⟨wsucc hlt (by omega)⟩
    have hx:=hf _ (getD_mem z40 l i hlt)
    rcases szB (rd_T40 l (i:Int)).f0 (rd_T40 l (i:Int)).f1 hx.1 hx.2.1 hx.2.2 a h0 h1 with⟨t,t0,t1,sm,ht⟩|ht
    · rcases ih (i + 1) t (by omega) (by omega) t0 t1 with⟨q,q0,q1,q2,q3⟩|q3
      · left
        refine⟨q,q0,q1,fun j h2 h3=>?_,Ev.step (fun k=>by rw[Gd.l0]) ?_⟩
        · by_cases e':j=i
          · subst e';exact sm
          · exact q2 j (by omega) h3
        · rw[hs.out];exact evPos (by omega) (evPos (by omega) (Ev.bind ht (evNeg (by omega) q3)))
      · right
        refine Ev.step (fun k=>by rw[Gd.l0]) ?_
        rw[hs.out];exact evPos (by omega) (evPos (by omega) (Ev.bind ht (evNeg (by omega) q3)))
    · right
      refine Ev.step (fun k=>by rw[Gd.l0]) ?_
      exact evPos (by omega) (evPos (by omega) (Ev.bind ht (evPos (by omega) (Ev.now _))))
theorem sz (l:List L) (hl:l.length<=9223372036854775807) (hf:∀x ∈ l,Fit x) (a:Int) (h0:0<=a) (h1:a<=1048576) :
    (∃t:Int,0<=t/\t<=1048576/\SmallS l/\Ev (fun k=>Gd.f k l a) t) ∨ Ev (fun k=>Gd.f k l a) (-1):=by
  have hw:wrap64 (a - (l.length:Int))=a - (l.length:Int):=w64 (by omega) (by omega)
  unfold Gd.f
  rw[hw]
  by_cases h:a - (l.length:Int) < 0
  · exact .inr (evPos h (Ev.now _))
  · rcases sz_l l (by omega) hf l.length 0 (a - (l.length:Int)) rfl (by omega) (by omega) (by omega) with⟨t,t0,t1,t2,t3⟩|t3
    · exact .inl ⟨t,t0,t1,⟨by omega,fun i hi=>t2 i (by omega) hi⟩,evNeg h t3⟩
    · exact .inr (evNeg h t3)
theorem to_l (l:List L) (hs:SmallS l):∀(e i:Nat) (o:List B),l.length - i=e->i<=l.length->o.length=l.length->(∀j:Nat,j < i->o.getD j z25=cv (l.getD j z40)) ->
    Ev (fun k=>F0.l0 k l o (i:Int)) (l.map cv):=by
  have hl:=hs.1
  intro d
  induction d with
  | zero=>
    intro i o hd hi ho hj
    obtain rfl:i=l.length:=by omega
    refine Ev.step (fun k=>by rw[F0.l0]) ?_
    refine evNeg (by omega) ?_
    refine evNow ?_
    rw[ext_getD z25 o (l.map cv) (by simp[ho]) (fun j h=>by rw[hj j (by omega),getD_map cv z40 _ l j (by omega)])]
  | succ d ih=>
    intro i o hd hi ho hj
    have hlt:i < l.length:=by omega
    have hw:wrap64 ((i:Int) + 1)=((i + 1:Nat):Int):=wsucc hlt (by omega)
    refine Ev.step (fun k=>by rw[F0.l0]) ?_
    refine evPos (by omega) (evPos (by omega) (Ev.bind (toB _ _ (hs.2 i hlt)) (evPos (by omega) ?_)))
    rw[hw,Int.toNat_natCast]
    refine ih (i + 1) _ (by omega) (by omega) (by simp[ho]) (fun j h=>?_)
    rw[getD_set _ _ _ _ _ (by omega)]
    by_cases e:i=j
    · subst e;rw[if_pos rfl];rfl
    · rw[if_neg e];exact hj j (by omega)
theorem to_ (l:List L) (hs:SmallS l):Ev (fun k=>F0.f k l) (l.map cv):=by
  have hl:=hs.1
  unfold F0.f
  refine evPos (by omega) (evPos (by omega) ?_)
  exact to_l l hs l.length 0 _ (by omega) (by omega) (by simp) (fun j h=>by omega)
theorem eq_l (l:List B) (hl:l.length<=1048576) (hs:∀i:Nat,i < l.length->Small (Jn l (i:Int)).f0 (Jn l (i:Int)).f1):∀(e i:Nat),l.length - i=e->i<=l.length->Ev (fun k=>Fz.l0 k l l (i:Int)) true:=by
  intro e
  induction e with
  | zero=>
    intro i he hi
    refine Ev.step (fun k=>by rw[Fz.l0]) ?_
    exact evNeg (by omega) (Ev.now _)
  | succ e ih=>
    intro i he hi
    have hlt:i < l.length:=by omega
    have hw:wrap64 ((i:Int) + 1)=((i + 1:Nat):Int):=wsucc hlt (by omega)
    refine Ev.step (fun k=>by rw[Fz.l0]) ?_
    refine evPos (by omega) (evPos (by omega) (evPos (by omega) (Ev.bind (eqB _ _ (hs i hlt)) (evPos rfl ?_))))
    rw[hw]
    exact ih (i + 1) (by omega) (by omega)
end Go.Proofs.Ytfooakkhkehpiaa.DtE
namespace Go.Proofs.Ytfooakkhkehpiaa.MsE
open Go.RowKit Go.Proofs.Ytfooakkhkehpiaa.PE Go.Proofs.Ytfooakkhkehpiaa.Qh Go.Proofs.Ytfooakkhkehpiaa.TbE Go.Proofs.Ytfooakkhkehpiaa.MrE Go.Proofs.YtfooakkhkehpiaaW.PrintWords Go.Proofs.YtfooakkhkehpiaaW.PrintMore
set_option linter.unusedVariables false
set_option linter.unusedSimpArgs false
abbrev B:=S25
def en (x:B) (a:Int):Int:=st x.f1 (a + x.f0.length) x.f1.length
def mkB (x:B) (a:Int):B:=⟨mkI x.f0.length a,mkSS x.f1 (a + x.f0.length)⟩
def sb (l:List B) (a:Int):Nat->Int
  | 0=>a
  | j + 1=>en (l.getD j z25) (sb l a j)
def mkBS (l:List B) (a:Int):List B:=(List.range l.length).map (fun j:Nat=>mkB (l.getD j z25) (sb l a j))
theorem mkBS_len (l:List B) (a:Int):(mkBS l a).length=l.length:=by simp[mkBS]
theorem mkBS_get {l:List B} {a:Int} {j:Nat} (h:j < l.length):(mkBS l a).getD j z25=mkB (l.getD j z25) (sb l a j):=by
  rw[List.getD_eq_getElem?_getD,List.getElem?_eq_getElem (by rw[mkBS_len];exact h)];simp[mkBS]
theorem en_bd {x:B} (h:Small x.f0 x.f1) {a:Int} (h0:0<=a):a<=en x a/\en x a<=a + 1099512676352:=by
  have hc:=h.1
  have hd:=h.2.1
  have h2:∀j:Nat,j<=x.f1.length->a + x.f0.length<=st x.f1 (a + x.f0.length) j:=by
    intro j
    induction j with
    | zero=>intro _;simp[st]
    | succ j ih=>intro hj;have:=ih (by omega);simp only[st];omega
  have h3:=h2 x.f1.length (Nat.le_refl _)
  have hb:=st_bd (l:=x.f1) (a:=a + x.f0.length) (by omega) h.2.2 x.f1.length (Nat.le_refl _)
  unfold en
  omega
section
variable {l:List B} {a:Int}
theorem sb_bd (h0:0<=a) (hr:∀i:Nat,i < l.length->Small (l.getD i z25).f0 (l.getD i z25).f1):∀j:Nat,j<=l.length->0<=sb l a j/\sb l a j<=a + 1099512676352 * j
  | 0,_=>by simp[sb,h0]
  | j + 1,hj=>by
    have h1:=sb_bd h0 hr j (by omega)
    have:=en_bd (hr j (by omega)) h1.1
    simp only[sb];omega
theorem bk_ (x:B) (h:Small x.f0 x.f1) (h0:0<=a) (h1:a<=1152925902653358080):Ev (fun k=>F3.f k x.f0 a) (a + x.f0.length,mkI x.f0.length a)/\Ev (fun k=>F7.f k x.f1 (a + x.f0.length)) (en x a,mkSS x.f1 (a + x.f0.length))/\Ev (fun k=>Fx.f k (mkI x.f0.length a) a) (a + x.f0.length)/\Ev (fun k=>F4.f k (mkSS x.f1 (a + x.f0.length)) (a + x.f0.length)) (en x a):=by
  have hc:=h.1
  exact⟨mI _ _ h0 (by omega),mSS h.2.1 h.2.2 (by omega) (by omega),hI _ _ h0 (by omega),hSS h.2.1 h.2.2 (by omega) (by omega)⟩
theorem mBS_l (hl:l.length<=1048576) (hr:∀i:Nat,i < l.length->Small (l.getD i z25).f0 (l.getD i z25).f1) (h0:0<=a) (h1:a<=1099513724928):∀(e i:Nat) (cur:List B),l.length - i=e->i<=l.length->cur.length=l.length->(∀j:Nat,j < i->cur.getD j z25=(mkBS l a).getD j z25)->(∀j:Nat,i<=j->j < l.length->cur.getD j z25=l.getD j z25) ->
    Ev (fun k=>Gg.l0 k cur (sb l a i) (i:Int)) (sb l a l.length,mkBS l a):=by
  have hml:=mkBS_len l a
  intro e
  induction e with
  | zero=>
    intro i cur he hi hc h2 h3
    obtain rfl:i=l.length:=by omega
    refine Ev.step (fun k=>by rw[Gg.l0]) ?_
    refine evNeg (by omega) (evEq (Ev.now _) ?_)
    rw[ext_getD z25 cur (mkBS l a) (by omega) (fun j h=>h2 j (by omega))]
  | succ e ih=>
    intro i cur he hi hc h2 h3
    have hlt:i < l.length:=by omega
    have hs:wrap64 ((i:Int) + 1)=((i + 1:Nat):Int):=wsucc hlt (by omega)
    have hb:=sb_bd h0 hr i (by omega)
    have e1:cur.getD (i:Int).toNat z25=l.getD i z25:=by rw[Int.toNat_natCast,h3 i (Nat.le_refl _) hlt]
    obtain⟨k1,k2,_,_⟩:=bk_ _ (hr i hlt) hb.1 (by omega)
    refine Ev.step (fun k=>by rw[Gg.l0]) ?_
    refine evPos (by omega) (evPos (by omega) (Ev.bind (by rw[e1];exact k1) (Ev.bind (by rw[e1];exact k2) ?_)))
    rw[hs,Int.toNat_natCast]
    refine ih (i + 1) _ (by omega) (by omega) (by simp[hc]) (fun j h=>?_) (fun j h4 h5=>?_)
    · rw[getD_set _ _ _ _ _ (by omega)]
      by_cases z:i=j
      · subst z;rw[if_pos rfl,mkBS_get hlt];rfl
      · rw[if_neg z];exact h2 j (by omega)
    · rw[getD_set _ _ _ _ _ (by omega),if_neg (by omega)];exact h3 j (by omega) h5
theorem hBS_l (hl:l.length<=1048576) (hr:∀i:Nat,i < l.length->Small (l.getD i z25).f0 (l.getD i z25).f1) (h0:0<=a) (h1:a<=1099513724928):∀(e i:Nat),l.length - i=e->i<=l.length ->
    Ev (fun k=>Gh.l0 k (mkBS l a) (sb l a i) (i:Int)) (sb l a l.length):=by
  have hml:=mkBS_len l a
  intro e
  induction e with
  | zero=>
    intro i he hi
    obtain rfl:i=l.length:=by omega
    refine Ev.step (fun k=>by rw[Gh.l0]) ?_
    exact evNeg (by omega) (Ev.now _)
  | succ e ih=>
    intro i he hi
    have hlt:i < l.length:=by omega
    have hs:wrap64 ((i:Int) + 1)=((i + 1:Nat):Int):=wsucc hlt (by omega)
    have hb:=sb_bd h0 hr i (by omega)
    have hb2:=sb_bd h0 hr (i + 1) (by omega)
    have e1:Jn (mkBS l a) (i:Int)=mkB (l.getD i z25) (sb l a i):=mkBS_get hlt
    obtain⟨_,_,k3,k4⟩:=bk_ _ (hr i hlt) hb.1 (by omega)
    refine Ev.step (fun k=>by rw[Gh.l0]) ?_
    refine evPos (by omega) (evPos (by omega) (Ev.bind (by rw[e1];exact k3) (evNeg (by omega) (Ev.bind (by rw[e1];exact k4) ?_))))
    rw[hs]
    exact evNeg (show ¬ en _ _ < 0 from by have:=hb2.1;simp only[sb] at this;omega) (ih (i + 1) (by omega) (by omega))
end
theorem marks {c:List Int} {d:List (List Int)} {ps:List B} (h:Small c d) (hl:ps.length<=1048576) (hr:∀i:Nat,i < ps.length->Small (ps.getD i z25).f0 (ps.getD i z25).f1):∃(m:Int) (c':List Int) (d':List (List Int)) (ps':List B),0<=m/\Ev (fun k=>Gu.f k c d ps 1) (m,c',d',ps')/\Ev (fun k=>Gz.f k c' d' ps' 1) m:=by
  have hb:=en_bd (x:=⟨c,d⟩) h (a:=1) (by omega)
  have hs:=sb_bd (l:=ps) (a:=en ⟨c,d⟩ 1) (by omega) hr ps.length (Nat.le_refl _)
  obtain⟨k1,k2,k3,k4⟩:=bk_ (a:=1) ⟨c,d⟩ h (by omega) (by omega)
  refine⟨sb ps (en ⟨c,d⟩ 1) ps.length,mkI c.length 1,mkSS d (1 + c.length),mkBS ps (en ⟨c,d⟩ 1),hs.1,?_,?_⟩
  · unfold Gu.f G6.f Gg.f
    exact Ev.bind (Ev.bind k1 (Ev.bind k2 (Ev.now _))) (Ev.bind (mBS_l hl hr (by omega) (by omega) ps.length 0 ps rfl (by omega) rfl (fun j h=>by omega) (fun j _ _=>rfl)) (Ev.now _))
  · unfold Gz.f G1.f Gh.f
    refine Ev.bind (Ev.bind k3 (evNeg (by omega) (Ev.bind k4 (evNeg (by omega) (Ev.now _))))) (evNeg (by omega) ?_)
    exact Ev.bind (hBS_l hl hr (by omega) (by omega) ps.length 0 rfl (by omega)) (evNeg (by omega) (Ev.now _))
end Go.Proofs.Ytfooakkhkehpiaa.MsE
namespace Go.Proofs.Ytfooakkhkehpiaa.BkE
open Go.RowKit Go.Proofs.Ytfooakkhkehpiaa.PE Go.Proofs.Ytfooakkhkehpiaa.Qh Go.Proofs.YtfooakkhkehpiaaW.PrintWords Go.Proofs.YtfooakkhkehpiaaW.PrintMore
set_option linter.unusedVariables false
set_option linter.unusedSimpArgs false
def RowP (c:List Int) (d:List (List Int)) (i:Nat):Prop:=
  0<=rd c (i:Int)/\rd c (i:Int)<=20/\(Jm d (i:Int)).length=c.length/\rd (Jm d (i:Int)) (i:Int)=0/\∀j:Nat,j < c.length->0<=rd (Jm d (i:Int)) (j:Int)/\rd (Jm d (i:Int)) (j:Int)<=9
def BookP (c:List Int) (d:List (List Int)):Prop:=1<=c.length/\c.length<=4/\d.length=c.length/\∀i:Nat,i < c.length->RowP c d i
theorem ib_l1 (c:List Int) (d:List (List Int)) (row:List Int) (x3:Int) (i:Nat) (hrow:row.length<=4) (hi:i < d.length) (hd:d.length<=4) {R:Prop}
    (hR:EvB (fun k=>Fi.l0 k x3 d (d.length:Int) ((i + 1:Nat):Int) c d) R):∀(e j:Nat),row.length - j=e->j<=row.length ->
    EvB (fun k=>Fi.l1 k x3 d (d.length:Int) (i:Int) row (row.length:Int) (j:Int) c d) ((∀j':Nat,j<=j'->j' < row.length->0<=rd row (j':Int)/\rd row (j':Int)<=9)/\R):=by
  have hs:wrap64 ((i:Int) + 1)=((i + 1:Nat):Int):=wsucc hi (by omega)
  intro e
  induction e with
  | zero=>
    intro j he hj
    refine EvB.step (fun k=>by rw[Fi.l1]) ?_
    rw[hs]
    exact EvB.neg (by omega) (hR.congr ⟨fun h=>⟨fun j' h1 h2=>by omega,h⟩,fun h=>h.2⟩)
  | succ e ih=>
    intro j he hj
    have hlt:j < row.length:=by omega
    have hj1:wrap64 ((j:Int) + 1)=((j + 1:Nat):Int):=wsucc hlt (by omega)
    refine EvB.step (fun k=>by rw[Fi.l1]) ?_
    refine EvB.pos (by omega) (EvB.pos (by omega) (EvB.pos (by omega) ?_))
    by_cases h1:rd row (j:Int) < 0
    · exact EvB.pos h1 (EvB.ff (fun h=>by have:=h.1 j (Nat.le_refl _) hlt;omega))
    · refine EvB.neg h1 ?_
      by_cases h2:rd row (j:Int) > 9
      · exact EvB.pos h2 (EvB.ff (fun h=>by have:=h.1 j (Nat.le_refl _) hlt;omega))
      · refine EvB.neg h2 ?_
        rw[hj1]
        refine(ih (j + 1) (by omega) (by omega)).congr ⟨fun h=>⟨fun j' h3 h4=>?_,h.2⟩,fun h=>⟨fun j' h3 h4=>h.1 j' (by omega) h4,h.2⟩⟩
        by_cases e':j'=j
        · subst e';exact⟨by omega,by omega⟩
        · exact h.1 j' (by omega) h4
theorem ib_l0 (c:List Int) (d:List (List Int)) (h4:c.length<=4) (hl:d.length=c.length):∀(e i:Nat),c.length - i=e->i<=c.length ->
    EvB (fun k=>Fi.l0 k (c.length:Int) d (d.length:Int) (i:Int) c d) (∀i':Nat,i<=i'->i' < c.length->RowP c d i'):=by
  intro e
  induction e with
  | zero=>
    intro i he hi
    refine EvB.step (fun k=>by rw[Fi.l0]) ?_
    exact EvB.neg (by omega) (EvB.tt (fun i' h1 h2=>by omega))
  | succ e ih=>
    intro i he hi
    have hlt:i < c.length:=by omega
    refine EvB.step (fun k=>by rw[Fi.l0]) ?_
    refine EvB.pos (by omega) (EvB.pos (by omega) (EvB.pos (by omega) (EvB.pos (by omega) ?_)))
    have bad:∀(P:Prop),(P->¬ RowP c d i)->P->EvB (fun k=>Fi.j2 k (c.length:Int) (Jm d (i:Int)) d (d.length:Int) (i:Int) true c d) (∀i':Nat,i<=i'->i' < c.length->RowP c d i'):=by
      intro P hP p
      refine EvB.step (fun k=>by rw[Fi.j2]) ?_
      exact EvB.pos rfl (EvB.ff (fun h=>hP p (h i (Nat.le_refl _) hlt)))
    by_cases h1:rd c (i:Int) < 0
    · exact EvB.pos h1 (bad _ (fun p h=>by have:=h.1;omega) h1)
    refine EvB.neg h1 ?_
    by_cases h2:rd c (i:Int) > 20
    · exact EvB.pos h2 (bad _ (fun p h=>by have:=h.2.1;omega) h2)
    refine EvB.neg h2 ?_
    by_cases h3:((Jm d (i:Int)).length:Int)=(c.length:Int)
    · refine EvB.pos h3 (EvB.pos (by omega) ?_)
      by_cases h5:rd (Jm d (i:Int)) (i:Int)=0
      · refine EvB.step (fun k=>by rw[Fi.j2]) ?_
        refine EvB.neg (by rw[h5];decide) ?_
        refine(ib_l1 c d (Jm d (i:Int)) (c.length:Int) i (by omega) (by omega) (by omega) (ih (i + 1) (by omega) (by omega)) _ 0 rfl (by omega)).congr ?_
        constructor
        · intro h i' h6 h7
          by_cases e':i'=i
          · subst e';exact⟨by omega,by omega,by omega,h5,fun j hj=>h.1 j (by omega) (by omega)⟩
          · exact h.2 i' (by omega) h7
        · intro h
          have hr:=h i (Nat.le_refl _) hlt
          exact⟨fun j' _ h7=>hr.2.2.2.2 j' (by omega),fun i' h6 h7=>h i' (by omega) h7⟩
      · have hb:(rd (Jm d (i:Int)) (i:Int) != 0)=true:=bne_iff_ne.mpr h5
        rw[hb]
        exact bad _ (fun p h=>p h.2.2.2.1) h5
    · exact EvB.neg h3 (bad _ (fun p h=>p (by rw[h.2.2.1])) h3)
theorem isBook (c:List Int) (d:List (List Int)):EvB (fun k=>Fi.f k c d) (BookP c d):=by
  unfold Fi.f
  by_cases h1:(c.length:Int) < 1
  · refine EvB.pos h1 (EvB.step (fun k=>by rw[Fi.j0]) ?_)
    exact EvB.pos rfl (EvB.ff (fun h=>by have:=h.1;omega))
  refine EvB.neg h1 ?_
  by_cases h2:(c.length:Int) > 4
  · refine EvB.pos h2 (EvB.step (fun k=>by rw[Fi.j0]) ?_)
    exact EvB.pos rfl (EvB.ff (fun h=>by have:=h.2.1;omega))
  refine EvB.neg h2 (EvB.step (fun k=>by rw[Fi.j0]) ?_)
  by_cases h3:d.length=c.length
  · refine EvB.neg (by rw[h3];simp) ?_
    refine(ib_l0 c d (by omega) h3 _ 0 rfl (by omega)).congr ⟨fun h=>⟨by omega,by omega,h3,fun i hi=>h i (by omega) hi⟩,fun h i _ hi=>h.2.2.2 i hi⟩
  · exact EvB.pos (bne_iff_ne.mpr (by omega)) (EvB.ff (fun h=>h3 h.2.2.1))
theorem sIn (a lo hi:Int):F6.f a lo hi=some (decide (lo<=a/\a<=hi)):=by
  unfold F6.f
  by_cases h:a ≥ lo
  · rw[if_pos h];simp[h]
  · rw[if_neg h];congr 1;symm;exact decide_eq_false (fun h'=>h h'.1)
theorem sb_l1 (c:List Int) (d:List (List Int)) (i:Nat) (hrow:(Jm d (i:Int)).length<=4) (hi:i < d.length) (hd:d.length<=4) {R:Prop}
    (hR:EvB (fun k=>Fg.l0 k ((i + 1:Nat):Int) c d) R):∀(e j:Nat),(Jm d (i:Int)).length - j=e->j<=(Jm d (i:Int)).length ->
    EvB (fun k=>Fg.l1 k (i:Int) (j:Int) c d) ((∀j':Nat,j<=j'->j' < (Jm d (i:Int)).length->0<=rd (Jm d (i:Int)) (j':Int)/\rd (Jm d (i:Int)) (j':Int)<=9)/\R):=by
  have hs:wrap64 ((i:Int) + 1)=((i + 1:Nat):Int):=wsucc hi (by omega)
  intro e
  induction e with
  | zero=>
    intro j he hj
    refine EvB.step (fun k=>by rw[Fg.l1]) ?_
    rw[hs]
    exact EvB.pos (by omega) (EvB.pos (by omega) (EvB.neg (by omega) (hR.congr ⟨fun h=>⟨fun j' h1 h2=>by omega,h⟩,fun h=>h.2⟩)))
  | succ e ih=>
    intro j he hj
    have hlt:j < (Jm d (i:Int)).length:=by omega
    have hj1:wrap64 ((j:Int) + 1)=((j + 1:Nat):Int):=wsucc hlt (by omega)
    refine EvB.step (fun k=>by rw[Fg.l1]) ?_
    refine EvB.pos (by omega) (EvB.pos (by omega) (EvB.pos (by omega) (EvB.pos (by omega) (EvB.bind0 (sIn _ _ _) ?_))))
    by_cases h1:0<=rd (Jm d (i:Int)) (j:Int)/\rd (Jm d (i:Int)) (j:Int)<=9
    · refine EvB.pos (decide_eq_true h1) ?_
      rw[hj1]
      refine(ih (j + 1) (by omega) (by omega)).congr ⟨fun h=>⟨fun j' h3 h4=>?_,h.2⟩,fun h=>⟨fun j' h3 h4=>h.1 j' (by omega) h4,h.2⟩⟩
      by_cases e':j'=j
      · subst e';exact h1
      · exact h.1 j' (by omega) h4
    · exact EvB.neg (by simpa using h1) (EvB.ff (fun h=>h1 (h.1 j (Nat.le_refl _) hlt)))
theorem sb_l0 (c:List Int) (d:List (List Int)) (h4:c.length<=4) (hl:d.length=c.length):∀(e i:Nat),c.length - i=e->i<=c.length ->
    EvB (fun k=>Fg.l0 k (i:Int) c d) (∀i':Nat,i<=i'->i' < c.length->RowP c d i'):=by
  intro e
  induction e with
  | zero=>
    intro i he hi
    refine EvB.step (fun k=>by rw[Fg.l0]) ?_
    exact EvB.neg (by omega) (EvB.tt (fun i' h1 h2=>by omega))
  | succ e ih=>
    intro i he hi
    have hlt:i < c.length:=by omega
    refine EvB.step (fun k=>by rw[Fg.l0]) ?_
    refine EvB.pos (by omega) (EvB.pos (by omega) (EvB.bind0 (sIn _ _ _) ?_))
    have bad:∀(P:Prop),(P->¬ RowP c d i)->P->EvB (fun k=>Fg.j2 k (i:Int) true c d) (∀i':Nat,i<=i'->i' < c.length->RowP c d i'):=by
      intro P hP p
      refine EvB.step (fun k=>by rw[Fg.j2]) ?_
      exact EvB.pos rfl (EvB.ff (fun h=>hP p (h i (Nat.le_refl _) hlt)))
    by_cases h1:0<=rd c (i:Int)/\rd c (i:Int)<=20
    · refine EvB.pos (decide_eq_true h1) (EvB.pos (by omega) ?_)
      by_cases h3:((Jm d (i:Int)).length:Int)=(c.length:Int)
      · refine EvB.pos h3 (EvB.pos (by omega) ?_)
        by_cases h5:rd (Jm d (i:Int)) (i:Int)=0
        · refine EvB.step (fun k=>by rw[Fg.j2]) ?_
          refine EvB.neg (by rw[h5];decide) ?_
          refine(sb_l1 c d i (by omega) (by omega) (by omega) (ih (i + 1) (by omega) (by omega)) _ 0 rfl (by omega)).congr ?_
          constructor
          · intro h i' h6 h7
            by_cases e':i'=i
            · subst e';exact⟨h1.1,h1.2,by omega,h5,fun j hj=>h.1 j (by omega) (by omega)⟩
            · exact h.2 i' (by omega) h7
          · intro h
            have hr:=h i (Nat.le_refl _) hlt
            exact⟨fun j' _ h7=>hr.2.2.2.2 j' (by omega),fun i' h6 h7=>h i' (by omega) h7⟩
        · have hb:(rd (Jm d (i:Int)) (i:Int) != 0)=true:=bne_iff_ne.mpr h5
          rw[hb]
          exact bad _ (fun p h=>p h.2.2.2.1) h5
      · exact EvB.neg h3 (bad _ (fun p h=>p (by rw[h.2.2.1])) h3)
    · exact EvB.neg (by simpa using h1) (bad _ (fun p h=>p ⟨h.1,h.2.1⟩) h1)
theorem bookOk (c:List Int) (d:List (List Int)):EvB (fun k=>Fg.f k c d) (BookP c d):=by
  unfold Fg.f
  refine EvB.bind0 (sIn _ _ _) ?_
  by_cases h1:1<=(c.length:Int)/\(c.length:Int)<=4
  · refine EvB.pos (decide_eq_true h1) (EvB.step (fun k=>by rw[Fg.j0]) ?_)
    by_cases h3:d.length=c.length
    · refine EvB.neg (by rw[h3];simp) ?_
      refine(sb_l0 c d (by omega) h3 _ 0 rfl (by omega)).congr ⟨fun h=>⟨by omega,by omega,h3,fun i hi=>h i (by omega) hi⟩,fun h i _ hi=>h.2.2.2 i hi⟩
    · exact EvB.pos (bne_iff_ne.mpr (by omega)) (EvB.ff (fun h=>h3 h.2.2.1))
  · refine EvB.neg (by simpa using h1) (EvB.step (fun k=>by rw[Fg.j0]) ?_)
    exact EvB.pos rfl (EvB.ff (fun h=>h1 ⟨by have:=h.1;omega,by have:=h.2.1;omega⟩))
end Go.Proofs.Ytfooakkhkehpiaa.BkE
namespace Go.Proofs.Ytfooakkhkehpiaa.MxE
open Go.RowKit Go.Proofs.Ytfooakkhkehpiaa.PE Go.Proofs.Ytfooakkhkehpiaa.Qh Go.Proofs.Ytfooakkhkehpiaa.BkE Go.Proofs.YtfooakkhkehpiaaW.PrintWords Go.Proofs.YtfooakkhkehpiaaW.PrintMore
set_option linter.unusedVariables false
set_option linter.unusedSimpArgs false
abbrev db (d:List (List Int)) (i j:Nat):Int:=rd (Jm d (i:Int)) (j:Int)
theorem rL (xs:List (List Int)) (i:Nat):Jm xs (i:Int)=xs.getD i []:=rfl
def rowF (n:Nat) (f:Nat->Int):List Int:=(List.range n).map f
def mk (n:Nat) (f:Nat->Nat->Int):List (List Int):=(List.range n).map (fun i=>rowF n (f i))
theorem rowF_len (n:Nat) (f:Nat->Int):(rowF n f).length=n:=by simp[rowF]
theorem mk_len (n:Nat) (f:Nat->Nat->Int):(mk n f).length=n:=by simp[mk]
theorem rd_rowF {n j:Nat} {f:Nat->Int} (h:j < n):rd (rowF n f) (j:Int)=f j:=by
  rw[rd_get _ _ (by rw[rowF_len];exact h)];simp[rowF]
theorem mk_get {n i:Nat} {f:Nat->Nat->Int} (h:i < n):Jm (mk n f) (i:Int)=rowF n (f i):=by
  rw[rL,List.getD_eq_getElem?_getD,List.getElem?_eq_getElem (by rw[mk_len];exact h)];simp[mk]
theorem rowF_congr {n:Nat} {f g:Nat->Int} (h:∀j,j < n->f j=g j):rowF n f=rowF n g:=by
  unfold rowF
  exact List.map_congr_left (fun j hj=>h j (List.mem_range.mp hj))
theorem mk_congr {n:Nat} {f g:Nat->Nat->Int} (h:∀i,i < n->∀j,j < n->f i j=g i j):mk n f=mk n g:=by
  unfold mk
  exact List.map_congr_left (fun i hi=>rowF_congr (h i (List.mem_range.mp hi)))
theorem rowF_of (l:List Int) {n:Nat} (h:l.length=n):l=rowF n (fun j=>rd l (j:Int)):=by
  apply List.ext_getElem (by rw[rowF_len,h])
  intro i h1 h2
  rw[<- rd_get l i h1, <- rd_get _ i h2,rd_rowF (by rw[rowF_len] at h2;exact h2)]
theorem mk_of {c:List Int} {d:List (List Int)} (h:BookP c d):d=mk c.length (db d):=by
  apply List.ext_getElem (by rw[mk_len,h.2.2.1])
  intro i h1 h2
  have hi:i < c.length:=by rw[mk_len] at h2;exact h2
  have hr:=(h.2.2.2 i hi).2.2.1
  have e1:d[i]=Jm d (i:Int):=by rw[rL,List.getD_eq_getElem?_getD,List.getElem?_eq_getElem h1];rfl
  have e2:(mk c.length (db d))[i]=rowF c.length (db d i):=by simp[mk]
  rw[e1,e2]
  exact rowF_of _ hr
theorem rowF_set {n j:Nat} {f:Nat->Int} {v:Int} (h:j < n):(rowF n f).set j v=rowF n (fun j'=>if j'=j then v else f j'):=by
  apply List.ext_getElem (by simp[rowF])
  intro i h1 h2
  have hi:i < n:=by rw[rowF_len] at h2;exact h2
  rw[List.getElem_set]
  by_cases e:j=i
  · subst e;simp[rowF]
  · rw[if_neg e];simp only[rowF,List.getElem_map,List.getElem_range];rw[if_neg (fun z=>e z.symm)]
theorem mk_set {n i j:Nat} {f:Nat->Nat->Int} {v:Int} (hi:i < n) (hj:j < n):(mk n f).set i ((Jm (mk n f) (i:Int)).set j v)=mk n (fun i' j'=>if i'=i/\j'=j then v else f i' j'):=by
  rw[mk_get hi,rowF_set hj]
  apply List.ext_getElem (by simp[mk])
  intro a h1 h2
  have ha:a < n:=by rw[mk_len] at h2;exact h2
  rw[List.getElem_set]
  by_cases e:i=a
  · subst e
    rw[if_pos rfl]
    simp only[mk,List.getElem_map,List.getElem_range]
    exact rowF_congr (fun j' _=>by simp)
  · rw[if_neg e]
    simp only[mk,List.getElem_map,List.getElem_range]
    exact rowF_congr (fun j' _=>by rw[if_neg (fun z=>e z.1.symm)])
theorem icopy {c:List Int} {d:List (List Int)} (h:BookP c d):Ev (fun k=>Fn.f k c d) (c,d):=by
  have h4:=h.2.1
  have hdl:=h.2.2.1
  unfold Fn.f
  refine evBind0 rfl (evPos (by simp only[List.length_nil];omega) ?_)
  rw[List.nil_append]
  have key:∀(e i:Nat),d.length - i=e->i<=d.length->Ev (fun k=>Fn.l0 k d (d.length:Int) (i:Int) c (d.take i)) (c,d):=by
    intro e
    induction e with
    | zero=>
      intro i he hi
      obtain rfl:i=d.length:=by omega
      refine Ev.step (fun k=>by rw[Fn.l0]) ?_
      rw[List.take_length]
      exact evNeg (by omega) (Ev.now _)
    | succ e ih=>
      intro i he hi
      have hlt:i < d.length:=by omega
      have hr:=(h.2.2.2 i (by omega)).2.2.1
      have hs:G7 (wrap64 ((i:Int) + 1)=((i + 1:Nat):Int)):=⟨wsucc hlt (by omega)⟩
      have htl:(d.take i).length=i:=by rw[List.length_take];omega
      have e2:d.take i ++ [Jm d (i:Int)]=d.take (i + 1):=by
        rw[rL,List.getD_eq_getElem?_getD,List.getElem?_eq_getElem hlt,List.take_succ_eq_append_getElem hlt];rfl
      refine Ev.step (fun k=>by rw[Fn.l0]) ?_
      rw[hs.out]
      refine evPos (by omega) (evPos (by omega) (evPos (by omega) (evBind0 rfl (evPos (by simp only[List.length_nil];omega) (evPos (by omega) ?_)))))
      rw[List.nil_append,e2]
      exact ih (i + 1) (by omega) (by omega)
  exact key d.length 0 rfl (by omega)
theorem scopy {c:List Int} {d:List (List Int)} (h:BookP c d):Ev (fun k=>Fr.f k c d) (c,d):=by
  have h4:=h.2.1
  have hdl:=h.2.2.1
  unfold Fr.f
  refine evBind0 rfl (evPos (by simp only[List.length_nil];omega) ?_)
  rw[List.nil_append]
  have key:∀(e i:Nat),d.length - i=e->i<=d.length->Ev (fun k=>Fr.l0 k (i:Int) c d c (d.take i)) (c,d):=by
    intro e
    induction e with
    | zero=>
      intro i he hi
      obtain rfl:i=d.length:=by omega
      refine Ev.step (fun k=>by rw[Fr.l0]) ?_
      rw[List.take_length]
      exact evNeg (by omega) (Ev.now _)
    | succ e ih=>
      intro i he hi
      have hlt:i < d.length:=by omega
      have hr:=(h.2.2.2 i (by omega)).2.2.1
      have hs:G7 (wrap64 ((i:Int) + 1)=((i + 1:Nat):Int)):=⟨wsucc hlt (by omega)⟩
      have htl:(d.take i).length=i:=by rw[List.length_take];omega
      have e2:d.take i ++ [Jm d (i:Int)]=d.take (i + 1):=by
        rw[rL,List.getD_eq_getElem?_getD,List.getElem?_eq_getElem hlt,List.take_succ_eq_append_getElem hlt];rfl
      refine Ev.step (fun k=>by rw[Fr.l0]) ?_
      rw[hs.out]
      refine evPos (by omega) (evBind0 rfl (evPos (by omega) (evPos (by simp only[List.length_nil];omega) (evPos (by omega) ?_))))
      rw[List.nil_append,e2]
      exact ih (i + 1) (by omega) (by omega)
  exact key d.length 0 rfl (by omega)
end Go.Proofs.Ytfooakkhkehpiaa.MxE
namespace Go.Proofs.Ytfooakkhkehpiaa.CrE
open Go.RowKit Go.Proofs.Ytfooakkhkehpiaa.PE Go.Proofs.Ytfooakkhkehpiaa.Qh Go.Proofs.Ytfooakkhkehpiaa.BkE Go.Proofs.Ytfooakkhkehpiaa.MxE Go.Proofs.YtfooakkhkehpiaaW.PrintWords Go.Proofs.YtfooakkhkehpiaaW.PrintMore
set_option linter.unusedVariables false
set_option linter.unusedSimpArgs false
theorem wpred {n:Nat} (h:0 < n) (hn:n<=4611686018427387904):wrap64 ((n:Int) - 1)=((n - 1:Nat):Int):=by rw[w64 (by omega) (by omega)];omega
def la (p:List Int):Int:=rd p ((p.length - 1:Nat):Int)
def self (d:List (List Int)) (p:List Int):List (List Int):=if 1 < p.length/\0 < rd (Jm d (la p)) (rd p 0) then[p] else[]
def rest (F:List Int->List (List Int)) (d:List (List Int)) (p:List Int):Nat->Nat->List (List Int)
  | 0,_=>[]
  | e + 1,j=>(if rd (Jm d (la p)) (j:Int)=0 ∨ (j:Int) ∈ p then[] else F (p ++ [(j:Int)])) ++ rest F d p e (j + 1)
def P (n:Nat) (d:List (List Int)):Nat->List Int->List (List Int)
  | 0,_=>[]
  | m + 1,p=>self d p ++ rest (P n d m) d p (n - ((rd p 0).toNat + 1)) ((rd p 0).toNat + 1)
def PathP (n:Nat) (d:List (List Int)) (p:List Int):Prop:=
  0 < p.length/\p.Nodup/\(∀x ∈ p,rd p 0<=x/\0<=x/\x < (n:Int))/\∀i:Nat,i + 1 < p.length->0 < rd (Jm d (rd p (i:Int))) (rd p ((i + 1:Nat):Int))
theorem pigeon:∀(n:Nat) (p:List Int),p.Nodup->(∀x ∈ p,0<=x/\x < (n:Int))->p.length<=n
  | 0,p,_,h=>by
    cases p with
    | nil=>simp
    | cons a r=>have:=h a List.mem_cons_self;omega
  | n + 1,p,hd,h=>by
    by_cases hm:(n:Int) ∈ p
    · have h1:=pigeon n (p.erase (n:Int)) (hd.erase _) (fun x hx=>by
        have h2:=h x (List.mem_of_mem_erase hx)
        have h3:x≠(n:Int):=(List.Nodup.mem_erase_iff hd).1 hx |>.1
        omega)
      have h2:=List.length_erase_of_mem hm
      omega
    · have h1:=pigeon n p hd (fun x hx=>by
        have h2:=h x hx
        have h3:x≠(n:Int):=fun e=>hm (e ▸ hx)
        omega)
      omega
theorem rd_mem {p:List Int} {i:Nat} (h:i < p.length):rd p (i:Int) ∈ p:=by rw[rd_get p i h];exact List.getElem_mem h
theorem mem_rd {p:List Int} {x:Int} (h:x ∈ p):∃i:Nat,i < p.length/\rd p (i:Int)=x:=by
  obtain⟨i,hi,e⟩:=List.mem_iff_getElem.mp h
  exact⟨i,hi,by rw[rd_get p i hi];exact e⟩
theorem rd0 (p:List Int):rd p 0=rd p ((0:Nat):Int):=rfl
theorem la_mem {p:List Int} (h:0 < p.length):la p ∈ p:=rd_mem (by omega)
section
variable {n:Nat} {d:List (List Int)} {p:List Int}
theorem PathP.len (h:PathP n d p):p.length<=n:=pigeon n p h.2.1 (fun x hx=>(h.2.2.1 x hx).2)
theorem PathP.head (h:PathP n d p):0<=rd p 0/\rd p 0 < (n:Int):=by
  have:=h.2.2.1 (rd p 0) (by rw[rd0];exact rd_mem h.1)
  exact⟨this.2.1,this.2.2⟩
theorem PathP.last (h:PathP n d p):0<=la p/\la p < (n:Int):=by
  have:=h.2.2.1 (la p) (la_mem h.1)
  exact⟨this.2.1,this.2.2⟩
theorem PathP.one {i:Nat} (hi:i < n):PathP n d [(i:Int)]:=
  ⟨by simp,by simp,fun x hx=>by rw[List.mem_singleton.1 hx];exact⟨Int.le_refl _,by omega,by omega⟩,fun k hk=>by simp at hk⟩
theorem PathP.snoc (h:PathP n d p) {j:Nat} (hj:rd p 0 < (j:Int)) (hn:j < n) (hm:(j:Int) ∉ p) (he:0 < rd (Jm d (la p)) (j:Int)):PathP n d (p ++ [(j:Int)]):=by
  have h0:rd (p ++ [(j:Int)]) 0=rd p 0:=by rw[rd0,rd_app,if_pos h.1];rfl
  refine⟨by simp,?_,fun x hx=>?_,fun i hi=>?_⟩
  · rw[List.nodup_append]
    exact⟨h.2.1,by simp,fun a ha b hb e=>hm (by rw[List.mem_singleton.1 hb] at e;exact e ▸ ha)⟩
  · rw[h0]
    rcases List.mem_append.1 hx with hx|hx
    · exact h.2.2.1 x hx
    · rw[List.mem_singleton.1 hx];exact⟨by omega,by omega,by omega⟩
  · rw[List.length_append,List.length_singleton] at hi
    rw[rd_app,rd_app,if_pos (by omega)]
    by_cases hl:i + 1 < p.length
    · rw[if_pos hl];exact h.2.2.2 i hl
    · rw[if_neg hl,if_pos (by omega)]
      have:i=p.length - 1:=by omega
      rw[this]
      exact he
end
def CirP (n:Nat) (d:List (List Int)) (q:List Int):Prop:=PathP n d q/\1 < q.length/\0 < rd (Jm d (la q)) (rd q 0)
theorem mem_rest {F:List Int->List (List Int)} {d:List (List Int)} {p:List Int} {y:List Int}:∀(e j:Nat),y ∈ rest F d p e j->∃j':Nat,j<=j'/\j' < j + e/\rd (Jm d (la p)) (j':Int)≠0/\(j':Int) ∉ p/\y ∈ F (p ++ [(j':Int)])
  | 0,j,h=>by simp[rest] at h
  | e + 1,j,h=>by
    rw[rest] at h
    rcases List.mem_append.1 h with h|h
    · by_cases hc:rd (Jm d (la p)) (j:Int)=0 ∨ (j:Int) ∈ p
      · rw[if_pos hc] at h;simp at h
      · rw[if_neg hc] at h
        exact⟨j,by omega,by omega,fun z=>hc (.inl z),fun z=>hc (.inr z),h⟩
    · obtain⟨j',h1,h2,h3⟩:=mem_rest e (j + 1) h
      exact⟨j',by omega,by omega,h3⟩
theorem row_ge {c:List Int} {d:List (List Int)} (h:BookP c d) {i j:Int} (hi:0<=i/\i < (c.length:Int)) (hj:0<=j/\j < (c.length:Int)):0<=rd (Jm d i) j/\rd (Jm d i) j<=9:=by
  obtain⟨i,rfl⟩:=Int.eq_ofNat_of_zero_le hi.1
  obtain⟨j,rfl⟩:=Int.eq_ofNat_of_zero_le hj.1
  exact(h.2.2.2 i (by omega)).2.2.2.2 j (by omega)
theorem row_len {c:List Int} {d:List (List Int)} (h:BookP c d) {i:Int} (hi:0<=i/\i < (c.length:Int)):(Jm d i).length=c.length:=by
  obtain⟨i,rfl⟩:=Int.eq_ofNat_of_zero_le hi.1
  exact(h.2.2.2 i (by omega)).2.2.1
theorem mem_P {c:List Int} {d:List (List Int)} (h:BookP c d) {y:List Int}:∀(m:Nat) (p:List Int),PathP c.length d p->y ∈ P c.length d m p->CirP c.length d y
  | 0,p,_,hy=>by simp[P] at hy
  | m + 1,p,hp,hy=>by
    rw[P] at hy
    rcases List.mem_append.1 hy with hy|hy
    · unfold self at hy
      by_cases hc:1 < p.length/\0 < rd (Jm d (la p)) (rd p 0)
      · rw[if_pos hc] at hy
        rw[List.mem_singleton.1 hy]
        exact⟨hp,hc.1,hc.2⟩
      · rw[if_neg hc] at hy;simp at hy
    · obtain⟨j,h1,h2,h3,h4,h5⟩:=mem_rest _ _ hy
      have hh:=hp.head
      have hjn:j < c.length:=by omega
      have hge:=row_ge h hp.last (j:=(j:Int)) ⟨by omega,by omega⟩
      exact mem_P h m _ (hp.snoc (by omega) hjn h4 (by omega)) h5
theorem rest_len {F:List Int->List (List Int)} {d:List (List Int)} {p:List Int} {B:Nat} (hF:∀q,(F q).length<=B):∀(e j:Nat),(rest F d p e j).length<=e * B
  | 0,j=>by simp[rest]
  | e + 1,j=>by
    have ih:=rest_len hF (d:=d) (p:=p) e (j + 1)
    rw[rest,List.length_append,Nat.succ_mul]
    have:(if rd (Jm d (la p)) (j:Int)=0 ∨ (j:Int) ∈ p then[] else F (p ++ [(j:Int)])).length<=B:=by
      split
      · simp
      · exact hF _
    omega
theorem P_len {n:Nat} (hn:n<=4) (d:List (List Int)):∀(m:Nat) (p:List Int),(P n d m p).length<=5 ^ m
  | 0,p=>by simp[P]
  | m + 1,p=>by
    have h1:=rest_len (P_len hn d m) (d:=d) (p:=p) (n - ((rd p 0).toNat + 1)) ((rd p 0).toNat + 1)
    have h2:(self d p).length<=1:=by unfold self;split <;> simp
    have h3:(n - ((rd p 0).toNat + 1)) * 5 ^ m<=4 * 5 ^ m:=Nat.mul_le_mul_right _ (by omega)
    have h4:1<=5 ^ m:=Nat.one_le_pow _ _ (by omega)
    rw[P,List.length_append,Nat.pow_succ]
    omega
theorem inL (p:List Int) (j:Int) (i:Nat) (h:∀i':Nat,i' < i->rd p (i':Int)≠j) (hi:p.length<=i):j ∉ p:=fun hm=>by
  obtain⟨k,hk,e⟩:=mem_rd hm
  exact h k (by omega) e
section
variable {c:List Int} {d:List (List Int)}
theorem paths (h:BookP c d):∀(m:Nat) (p:List Int),PathP c.length d p->c.length + 1<=m + p.length->m<=4->Ev (fun k=>Fa.f k c d p) (P c.length d m p)
  | 0,p,hp,hm,_=>by have:=hp.len;omega
  | m + 1,p,hp,hm,hm4=>by
    have h4:=h.2.1
    have hdl:=h.2.2.1
    have hpl:=hp.len
    have hp0:=hp.1
    have hh:=hp.head
    have hl:=hp.last
    have hrl:=row_len h hl
    have hlw:G7 (wrap64 ((p.length:Int) - 1)=((p.length - 1:Nat):Int)):=⟨wpred hp0 (by omega)⟩
    have hla:rd p ((p.length - 1:Nat):Int)=la p:=rfl
    have h5:5 ^ m<=125:=by
      have:m<=3:=by omega
      calc 5 ^ m<=5 ^ 3:=Nat.pow_le_pow_right (by omega) this
        _=125:=rfl
    obtain⟨a,ha⟩:=Int.eq_ofNat_of_zero_le hh.1
    have haw:G7 (wrap64 (rd p 0 + 1)=((a + 1:Nat):Int)):=⟨by rw[ha];exact wsucc (n:=c.length) (by omega) (by omega)⟩
-- the banks that may follow
    have loop:∀(e j:Nat) (acc:List (List Int)),c.length - j=e->j<=c.length->a < j->acc.length + e * 5 ^ m<=1000->Ev (fun k=>Fa.l0 k p acc (la p) (j:Int) c d) (acc ++ rest (P c.length d m) d p e j):=by
      intro e
      induction e with
      | zero=>
        intro j acc he hj _ _
        refine Ev.step (fun k=>by rw[Fa.l0]) ?_
        exact evNeg (by omega) (evEq (Ev.now _) (by simp[rest]))
      | succ e ih=>
        intro j acc he hj haj hacc
        have hlt:j < c.length:=by omega
        have hj1:G7 (wrap64 ((j:Int) + 1)=((j + 1:Nat):Int)):=⟨wsucc hlt (by omega)⟩
        have hmul:acc.length + (e * 5 ^ m + 5 ^ m)<=1000:=by have z:=hacc;rw[Nat.succ_mul] at z;exact z
        have h1p:1<=5 ^ m:=Nat.one_le_pow _ _ (by omega)
        refine Ev.step (fun k=>by rw[Fa.l0]) ?_
        rw[hj1.out]
        refine evPos (by omega) (evPos hl.1 (evPos (by omega) (evPos (by omega) (evPos (by omega) ?_))))
        by_cases hz:rd (Jm d (la p)) (j:Int)=0
        · refine evPos hz (evEq (ih (j + 1) acc (by omega) (by omega) (by omega) (by omega)) ?_)
          rw[rest,if_pos (.inl hz),List.nil_append]
        · refine evNeg hz ?_
          have inner:∀(f i:Nat),p.length - i=f->i<=p.length->(∀i':Nat,i' < i->rd p (i':Int)≠(j:Int))->Ev (fun k=>Fa.l1 k p acc (la p) (j:Int) (i:Int) c d) (acc ++ rest (P c.length d m) d p (e + 1) j):=by
            intro f
            induction f with
            | zero=>
              intro i hf hi hno
              have hmem:=inL p (j:Int) i hno (by omega)
              have hge:=row_ge h hl (j:=(j:Int)) ⟨by omega,by omega⟩
              have hps:=hp.snoc (j:=j) (by omega) hlt hmem (by omega)
              refine Ev.step (fun k=>by rw[Fa.l1]) ?_
              rw[hj1.out]
              refine evNeg (by omega) (evBind0 rfl (evPos (by simp;omega) (evBind0 rfl (evBind0 rfl (evPos (by simp;omega) ?_)))))
              rw[List.nil_append]
              have hlen:(p ++ [(j:Int)]).length=p.length + 1:=by simp
              have hPl:=P_len h4 d m (p ++ [(j:Int)])
              refine Ev.bind (paths h m _ hps (by omega) (by omega)) (evPos (by omega) ?_)
              refine evEq (ih (j + 1) _ (by omega) (by omega) (by omega) (by rw[List.length_append];omega)) ?_
              rw[rest,if_neg (fun z=>z.elim hz hmem),List.append_assoc]
            | succ f ih2=>
              intro i hf hi hno
              have hi1:G7 (wrap64 ((i:Int) + 1)=((i + 1:Nat):Int)):=⟨wsucc (n:=p.length) (by omega) (by omega)⟩
              refine Ev.step (fun k=>by rw[Fa.l1]) ?_
              rw[hj1.out,hi1.out]
              refine evPos (by omega) (evPos (by omega) ?_)
              by_cases hij:rd p (i:Int)=(j:Int)
              · refine evPos hij (evEq (ih (j + 1) acc (by omega) (by omega) (by omega) (by omega)) ?_)
                rw[rest,if_pos (.inr (hij ▸ rd_mem (by omega))),List.nil_append]
              · refine evNeg hij (ih2 (i + 1) (by omega) (by omega) (fun i' hi'=>?_))
                by_cases e':i'=i
                · subst e';exact hij
                · exact hno i' (by omega)
          exact inner p.length 0 rfl (by omega) (fun i' hi'=>by omega)
    have ha':(rd p 0).toNat=a:=by rw[ha];rfl
    have he4:(c.length - (a + 1)) * 5 ^ m<=3 * 5 ^ m:=Nat.mul_le_mul_right _ (by omega)
    have tail:∀acc:List (List Int),acc.length<=1->Ev (fun k=>Fa.j1 k p acc (la p) c d) (acc ++ rest (P c.length d m) d p (c.length - ((rd p 0).toNat + 1)) ((rd p 0).toNat + 1)):=by
      intro acc hacc
      refine Ev.step (fun k=>by rw[Fa.j1]) ?_
      rw[haw.out,ha']
      refine evPos (by omega) (loop _ (a + 1) acc rfl (by omega) (by omega) (by omega))
    refine Ev.step (fun k=>by rw[Fa.f]) ?_
    rw[hlw.out,hla]
    refine evBind0 rfl (evPos (by omega) (evPos (by omega) ?_))
    rw[P]
    by_cases h1:1 < p.length
    · refine evPos (by omega) (evPos hl.1 (evPos (by omega) (evPos (by omega) (evPos hh.1 (evPos (by omega) ?_)))))
      refine Ev.step (fun k=>by rw[Fa.j0]) ?_
      by_cases hc:0 < rd (Jm d (la p)) (rd p 0)
      · refine evPos (decide_eq_true (by omega)) (evBind0 rfl (evPos (by simp;omega) (evBind0 rfl (evPos (by simp) ?_))))
        rw[List.nil_append,List.nil_append]
        have:self d p=[p]:=if_pos ⟨h1,hc⟩
        rw[this]
        exact tail [p] (by simp)
      · refine evNeg (by simpa using hc) ?_
        have:self d p=[]:=if_neg (fun z=>hc z.2)
        rw[this]
        exact tail [] (by simp)
    · refine evNeg (by omega) ?_
      refine Ev.step (fun k=>by rw[Fa.j0]) ?_
      refine evNeg (by decide) ?_
      have:self d p=[]:=if_neg (fun z=>h1 z.1)
      rw[this]
      exact tail [] (by simp)
end
def lexlt:List Int->List Int->Bool
  | a :: r,b :: s=>if a=b then lexlt r s else decide (a < b)
  | _,_=>false
def bef (a b:List Int):Bool:=if a.length=b.length then lexlt a b else decide (a.length < b.length)
theorem before (a b:List Int) (ha:a.length<=4611686018427387904):Ev (fun k=>Ge.f k a b) (bef a b):=by
  unfold Ge.f bef
  by_cases hl:a.length=b.length
  · rw[if_pos hl]
    refine evPos (by omega) ?_
    have key:∀(e i:Nat),a.length - i=e->i<=a.length->Ev (fun k=>Ge.l0 k a b (i:Int)) (lexlt (a.drop i) (b.drop i)):=by
      intro e
      induction e with
      | zero=>
        intro i he hi
        refine Ev.step (fun k=>by rw[Ge.l0]) ?_
        rw[List.drop_of_length_le (by omega)]
        exact evNeg (by omega) (evEq (Ev.now _) (by simp[lexlt]))
      | succ e ih=>
        intro i he hi
        have hi1:G7 (wrap64 ((i:Int) + 1)=((i + 1:Nat):Int)):=⟨wsucc (n:=a.length) (by omega) ha⟩
        refine Ev.step (fun k=>by rw[Ge.l0]) ?_
        rw[hi1.out]
        refine evPos (by omega) (evPos (by omega) (evPos (by omega) ?_))
        rw[drop_rd a i (by omega),drop_rd b i (by omega),lexlt]
        by_cases hc:rd a (i:Int)=rd b (i:Int)
        · rw[if_pos hc];exact evPos hc (ih (i + 1) (by omega) (by omega))
        · rw[if_neg hc];exact evNeg hc (Ev.now _)
    have:=key a.length 0 rfl (by omega)
    simpa using this
  · rw[if_neg hl]
    refine evNeg (by omega) (evEq (Ev.now _) ?_)
    rw[decide_eq_decide];omega
def ins (lt:List Int->List Int->Bool):Nat->List (List Int)->List (List Int)
  | 0,xs=>xs
  | j + 1,xs=>if lt (xs.getD (j + 1) []) (xs.getD j [])=true then ins lt j ((xs.set (j + 1) (xs.getD j [])).set j (xs.getD (j + 1) [])) else xs
def srt (lt:List Int->List Int->Bool):Nat->Nat->List (List Int)->List (List Int)
  | 0,_,xs=>xs
  | e + 1,i,xs=>srt lt e (i + 1) (ins lt i xs)
theorem ins_len (lt:List Int->List Int->Bool):∀(j:Nat) (xs:List (List Int)),(ins lt j xs).length=xs.length
  | 0,xs=>rfl
  | j + 1,xs=>by
    rw[ins];split
    · rw[ins_len];simp
    · rfl
theorem ins_mem (lt:List Int->List Int->Bool) {y:List Int}:∀(j:Nat) (xs:List (List Int)),j < xs.length->y ∈ ins lt j xs->y ∈ xs
  | 0,xs,_,h=>h
  | j + 1,xs,hj,h=>by
    rw[ins] at h;split at h
    · have h1:=ins_mem lt j _ (by simp;omega) h
      rcases List.mem_or_eq_of_mem_set h1 with h2|h2
      · rcases List.mem_or_eq_of_mem_set h2 with h3|h3
        · exact h3
        · rw[h3];exact getD_mem [] xs j (by omega)
      · rw[h2];exact getD_mem [] xs (j + 1) hj
    · exact h
theorem srt_len (lt:List Int->List Int->Bool):∀(e i:Nat) (xs:List (List Int)),(srt lt e i xs).length=xs.length
  | 0,_,xs=>rfl
  | e + 1,i,xs=>by rw[srt,srt_len,ins_len]
theorem srt_mem (lt:List Int->List Int->Bool) {y:List Int}:∀(e i:Nat) (xs:List (List Int)),i + e<=xs.length->y ∈ srt lt e i xs->y ∈ xs
  | 0,_,xs,_,h=>h
  | e + 1,i,xs,hi,h=>by
    rw[srt] at h
    exact ins_mem lt i xs (by omega) (srt_mem lt e (i + 1) _ (by rw[ins_len];omega) h)
def found (n:Nat) (d:List (List Int)):Nat->Nat->List (List Int)
  | 0,_=>[]
  | e + 1,i=>P n d 4 [(i:Int)] ++ found n d e (i + 1)
theorem found_len {n:Nat} (hn:n<=4) (d:List (List Int)):∀(e i:Nat),(found n d e i).length<=e * 625
  | 0,i=>by simp[found]
  | e + 1,i=>by
    have h1:=P_len hn d 4 [(i:Int)]
    have h2:=found_len hn d e (i + 1)
    rw[found,List.length_append,Nat.succ_mul];omega
def circ (c:List Int) (d:List (List Int)):List (List Int):=srt bef ((found c.length d c.length 0).length - 1) 1 (found c.length d c.length 0)
section
variable {c:List Int} {d:List (List Int)}
theorem mem_found (h:BookP c d) {y:List Int}:∀(e i:Nat),i + e=c.length->y ∈ found c.length d e i->CirP c.length d y
  | 0,i,_,hy=>by simp[found] at hy
  | e + 1,i,hi,hy=>by
    rw[found] at hy
    rcases List.mem_append.1 hy with hy|hy
    · exact mem_P h 4 _ (PathP.one (by omega)) hy
    · exact mem_found h e (i + 1) (by omega) hy
theorem circ_len (c:List Int) (d:List (List Int)):(circ c d).length=(found c.length d c.length 0).length:=srt_len _ _ _ _
theorem mem_circ (h:BookP c d) {y:List Int} (hy:y ∈ circ c d):CirP c.length d y:=by
  by_cases h0:(found c.length d c.length 0).length=0
  · have:=circ_len c d
    rw[h0,List.length_eq_zero_iff] at this
    rw[this] at hy;simp at hy
  · exact mem_found h c.length 0 (by omega) (srt_mem bef _ 1 _ (by omega) hy)
theorem sort_l2 {r:List (List Int)} (n:Nat) (hn:n<=100000) (x5:Int) (hrow:Nat) (hr4:hrow<=4611686018427387904):∀(j:Nat) (xs:List (List Int)),j < xs.length->xs.length=n->(∀y ∈ xs,y.length<=hrow) ->
    Ev (fun k=>Ff.l1 k (ins bef j xs) (wrap64 (x5 + 1))) r->Ev (fun k=>Ff.l2 k xs x5 (j:Int)) r
  | 0,xs,hj,hxn,hrw,hR=>by
    refine Ev.step (fun k=>by rw[Ff.l2]) ?_
    exact evNeg (by omega) hR
  | j + 1,xs,hj,hxn,hrw,hR=>by
    have hj1:G7 (wrap64 (((j + 1:Nat):Int) - 1)=(j:Int)):=⟨by rw[w64 (by omega) (by omega)];omega⟩
    refine Ev.step (fun k=>by rw[Ff.l2]) ?_
    rw[hj1.out]
    refine evPos (by omega) (evPos (by omega) (evPos (by omega) (evPos (by omega) (evPos (by omega) ?_))))
    have e1:Jm xs ((j + 1:Nat):Int)=xs.getD (j + 1) []:=rfl
    have e2:Jm xs (j:Int)=xs.getD j []:=rfl
    rw[e1,e2]
    have m1:=hrw _ (getD_mem [] xs (j + 1) hj)
    have m2:=hrw _ (getD_mem [] xs j (by omega))
    refine Ev.bind (before _ _ (by omega)) ?_
    rw[ins] at hR
    by_cases hb:bef (xs.getD (j + 1) []) (xs.getD j [])=true
    · rw[if_pos hb] at hR
      refine evPos hb ?_
      refine sort_l2 n hn x5 hrow hr4 j _ (by simp;omega) (by simp[hxn]) (fun y hy=>?_) hR
      rcases List.mem_or_eq_of_mem_set hy with h2|h2
      · rcases List.mem_or_eq_of_mem_set h2 with h3|h3
        · exact hrw y h3
        · rw[h3];exact m2
      · rw[h2];exact m1
    · rw[if_neg hb] at hR
      exact evNeg hb hR
theorem sort_l1 (n:Nat) (hn:n<=100000) (hrow:Nat) (hr4:hrow<=4611686018427387904):∀(e i:Nat) (xs:List (List Int)),xs.length=n->n - i=e->(∀y ∈ xs,y.length<=hrow)->Ev (fun k=>Ff.l1 k xs (i:Int)) (srt bef e i xs)
  | 0,i,xs,hxn,he,hrw=>by
    refine Ev.step (fun k=>by rw[Ff.l1]) ?_
    exact evNeg (by omega) (Ev.now _)
  | e + 1,i,xs,hxn,he,hrw=>by
    have hi1:wrap64 ((i:Int) + 1)=((i + 1:Nat):Int):=wsucc (n:=n) (by omega) (by omega)
    refine Ev.step (fun k=>by rw[Ff.l1]) ?_
    refine evPos (by omega) ?_
    refine sort_l2 n hn (i:Int) hrow hr4 i xs (by omega) hxn hrw ?_
    rw[hi1,srt]
    exact sort_l1 n hn hrow hr4 e (i + 1) _ (by rw[ins_len,hxn]) (by omega) (fun y hy=>hrw y (ins_mem bef i xs (by omega) hy))
theorem sCircles (h:BookP c d):Ev (fun k=>Ff.f k c d) (circ c d):=by
  have h4:=h.2.1
  unfold Ff.f circ
  have key:∀(e i:Nat) (acc:List (List Int)),c.length - i=e->i<=c.length->acc.length<=i * 625->acc ++ found c.length d e i=found c.length d c.length 0->Ev (fun k=>Ff.l0 k acc (i:Int) c d) (srt bef ((found c.length d c.length 0).length - 1) 1 (found c.length d c.length 0)):=by
    intro e
    induction e with
    | zero=>
      intro i acc he hi hacc hE
      refine Ev.step (fun k=>by rw[Ff.l0]) ?_
      refine evNeg (by omega) (Ev.step (fun k=>by rw[Ff.j1]) ?_)
      rw[found,List.append_nil] at hE
      have hfl:=found_len h4 d c.length 0
      rw[hE]
      exact sort_l1 (found c.length d c.length 0).length (by omega) c.length (by omega) _ 1 _ rfl rfl (fun y hy=>(mem_found h c.length 0 (by omega) hy).1.len)
    | succ e ih=>
      intro i acc he hi hacc hE
      have hlt:i < c.length:=by omega
      have hi1:G7 (wrap64 ((i:Int) + 1)=((i + 1:Nat):Int)):=⟨wsucc hlt (by omega)⟩
      have hPl:=P_len h4 d 4 [(i:Int)]
      refine Ev.step (fun k=>by rw[Ff.l0]) ?_
      rw[hi1.out]
      refine evPos (by omega) (Ev.bind ((bookOk c d).yes h) (evPos rfl (Ev.bind (paths h 4 _ (PathP.one hlt) (by simp;omega) (by omega)) (evPos (by omega) ?_))))
      refine ih (i + 1) _ (by omega) (by omega) (by rw[List.length_append,Nat.succ_mul];omega) ?_
      rw[List.append_assoc]
      rw[found] at hE
      exact hE
  exact key c.length 0 [] rfl (by omega) (by simp) (by simp)
end
end Go.Proofs.Ytfooakkhkehpiaa.CrE
namespace Go.Proofs.Ytfooakkhkehpiaa.SkE
open Go.RowKit Go.Proofs.Ytfooakkhkehpiaa.PE Go.Proofs.Ytfooakkhkehpiaa.Qh Go.Proofs.Ytfooakkhkehpiaa.BkE Go.Proofs.Ytfooakkhkehpiaa.MxE Go.Proofs.Ytfooakkhkehpiaa.CrE Go.Proofs.YtfooakkhkehpiaaW.PrintWords Go.Proofs.YtfooakkhkehpiaaW.PrintMore
set_option linter.unusedVariables false
set_option linter.unusedSimpArgs false
theorem mn_le (a b:Int):mn a b<=a/\mn a b<=b/\(mn a b=a ∨ mn a b=b):=by
  unfold mn
  split <;> omega
def nx (q:List Int) (k:Nat):Nat:=(k + 1) % q.length
def edge (d:List (List Int)) (q:List Int) (k:Nat):Int:=rd (Jm d (rd q (k:Int))) (rd q ((nx q k:Nat):Int))
def low (d:List (List Int)) (q:List Int):Nat->Nat->Int->Int
  | 0,_,x=>x
  | e + 1,k,x=>low d q e (k + 1) (mn x (edge d q k))
theorem low_le (d:List (List Int)) (q:List Int):∀(e k:Nat) (x:Int),low d q e k x<=x/\(∀i,k<=i->i < k + e->low d q e k x<=edge d q i)/\(low d q e k x=x ∨ ∃i,k<=i/\i < k + e/\low d q e k x=edge d q i)
  | 0,k,x=>⟨Int.le_refl _,fun i _ _=>by omega, .inl rfl⟩
  | e + 1,k,x=>by
    obtain⟨h1,h2,h3⟩:=low_le d q e (k + 1) (mn x (edge d q k))
    obtain⟨m1,m2,m3⟩:=mn_le x (edge d q k)
    refine⟨by rw[low];omega,fun i hi hi2=>?_,?_⟩
    · rw[low]
      by_cases e':i=k
      · subst e';omega
      · exact h2 i (by omega) (by omega)
    · rw[low]
      rcases h3 with h3 | ⟨i,i1,i2,i3⟩
      · rcases m3 with m3|m3
        · left;omega
        · right;exact⟨k,by omega,by omega,by omega⟩
      · right;exact⟨i,by omega,by omega,i3⟩
def lowest (d:List (List Int)) (q:List Int):Int:=low d q q.length 0 9
def hit (q:List Int) (k i j:Nat):Bool:=(List.range k).any (fun k'=>decide (rd q (k':Int)=(i:Int)/\rd q ((nx q k':Nat):Int)=(j:Int)))
theorem hit_iff {q:List Int} {k i j:Nat}:hit q k i j=true ↔ ∃k',k' < k/\rd q (k':Int)=(i:Int)/\rd q ((nx q k':Nat):Int)=(j:Int):=by
  unfold hit
  rw[List.any_eq_true]
  constructor
  · rintro⟨k',h1,h2⟩
    exact⟨k',List.mem_range.1 h1,(of_decide_eq_true h2).1,(of_decide_eq_true h2).2⟩
  · rintro⟨k',h1,h2,h3⟩
    exact⟨k',List.mem_range.2 h1,decide_eq_true ⟨h2,h3⟩⟩
def part (d:List (List Int)) (q:List Int) (k i j:Nat):Int:=if hit q k i j=true then db d i j - lowest d q else db d i j
def struck (c:List Int) (d:List (List Int)) (q:List Int):List (List Int):=mk c.length (part d q q.length)
section
variable {c:List Int} {d:List (List Int)} {q:List Int}
theorem nx_lt {q:List Int} (h:0 < q.length) (k:Nat):nx q k < q.length:=Nat.mod_lt _ h
theorem cir_at (hq:CirP c.length d q) {k:Nat} (hk:k < q.length):0<=rd q (k:Int)/\rd q (k:Int) < (c.length:Int):=by
  have:=hq.1.2.2.1 _ (rd_mem hk)
  exact⟨this.2.1,this.2.2⟩
theorem cir_inj (hq:CirP c.length d q) {k l:Nat} (hk:k < q.length) (hl:l < q.length) (h:rd q (k:Int)=rd q (l:Int)):k=l:=by
  rw[rd_get q k hk,rd_get q l hl] at h
  exact(List.getElem_inj hq.1.2.1).1 h
theorem nx_ne (hq:CirP c.length d q) {k:Nat} (hk:k < q.length):nx q k≠k:=by
  have:=hq.2.1
  unfold nx
  by_cases h:k + 1=q.length
  · rw[h,Nat.mod_self];omega
  · rw[Nat.mod_eq_of_lt (by omega)];omega
theorem edge_pos (hq:CirP c.length d q) {k:Nat} (hk:k < q.length):0 < edge d q k:=by
  unfold edge nx
  by_cases h:k + 1=q.length
  · rw[h,Nat.mod_self]
    have:k=q.length - 1:=by omega
    rw[this]
    exact hq.2.2
  · rw[Nat.mod_eq_of_lt (by omega)]
    exact hq.1.2.2.2 k (by omega)
theorem edge_le (h:BookP c d) (hq:CirP c.length d q) {k:Nat} (hk:k < q.length):edge d q k<=9:=
  (row_ge h (cir_at hq hk) (cir_at hq (nx_lt hq.1.1 k))).2
theorem lowest_pos (hq:CirP c.length d q):1<=lowest d q:=by
  have h0:=hq.1.1
  rcases(low_le d q q.length 0 9).2.2 with h | ⟨i,_,h2,h3⟩
  · unfold lowest;omega
  · have:=edge_pos hq (k:=i) (by omega)
    unfold lowest;omega
theorem lowest_le (hq:CirP c.length d q) {k:Nat} (hk:k < q.length):lowest d q<=edge d q k:=(low_le d q q.length 0 9).2.1 k (by omega) (by omega)
theorem hit_edge (hq:CirP c.length d q) {k i j:Nat} (hk:k<=q.length) (h:hit q k i j=true):lowest d q<=db d i j/\i≠j:=by
  obtain⟨k',h1,h2,h3⟩:=hit_iff.1 h
  have hk':k' < q.length:=by omega
  have:=lowest_le hq hk'
  refine⟨?_,fun e=>?_⟩
  · unfold edge at this
    rw[h2,h3] at this
    exact this
  · rw[<- e, <- h2] at h3
    exact nx_ne hq hk' (cir_inj hq (nx_lt hq.1.1 k') hk' h3)
theorem part_bd (h:BookP c d) (hq:CirP c.length d q) {k i j:Nat} (hk:k<=q.length) (hi:i < c.length) (hj:j < c.length):0<=part d q k i j/\part d q k i j<=db d i j:=by
  have hb:=(h.2.2.2 i hi).2.2.2.2 j hj
  have hp:=lowest_pos hq
  unfold part
  by_cases hh:hit q k i j=true
  · rw[if_pos hh]
    have:=(hit_edge hq hk hh).1
    omega
  · rw[if_neg hh];exact⟨hb.1,Int.le_refl _⟩
theorem struck_get {i j:Nat} (hi:i < c.length) (hj:j < c.length):db (struck c d q) i j=part d q q.length i j:=by
  show rd (Jm (mk c.length (part d q q.length)) (i:Int)) (j:Int)=_
  rw[mk_get hi,rd_rowF hj]
theorem struck_ok (h:BookP c d) (hq:CirP c.length d q):BookP c (struck c d q):=by
  refine⟨h.1,h.2.1,mk_len _ _,fun i hi=>?_⟩
  have hc:=h.2.2.2 i hi
  refine⟨hc.1,hc.2.1,?_,?_,fun j hj=>?_⟩
  · show(Jm (mk c.length (part d q q.length)) (i:Int)).length=_
    rw[mk_get hi,rowF_len]
  · refine(struck_get hi hi).trans ?_
    unfold part
    rw[if_neg (fun z=>(hit_edge hq (Nat.le_refl _) z).2 rfl)]
    exact hc.2.2.2.1
  · have h1:=struck_get (c:=c) (d:=d) (q:=q) hi hj
    have h2:=part_bd h hq (Nat.le_refl _) hi hj
    have h3:=hc.2.2.2.2 j hj
    show 0<=db (struck c d q) i j/\db (struck c d q) i j<=9
    have h4:db d i j<=9:=h3.2
    rw[h1];omega
theorem ki (q:List Int) (k:Nat) (h:k < q.length) (hq:q.length<=4):wrap64 ((k:Int) + 1)=((k + 1:Nat):Int):=wsucc h (by omega)
theorem tm (q:List Int) (k:Nat):Int.tmod ((k + 1:Nat):Int) (q.length:Int)=((nx q k:Nat):Int):=by
  unfold nx
  rw[Int.tmod_eq_emod_of_nonneg (by omega)]
  rfl
theorem st_l0 (h:BookP c d) (hq:CirP c.length d q) {r:List Int × List (List Int)} (hR:Ev (fun k=>Fl.l1 k q (lowest d q) 0 c d c d) r):∀(e k:Nat) (x:Int),q.length - k=e->k<=q.length->low d q e k x=lowest d q->Ev (fun n=>Fl.l0 n q x (k:Int) c d c d) r:=by
  have h4:=h.2.1
  have hdl:=h.2.2.1
  have hql:=hq.1.len
  have hq0:=hq.1.1
  intro e
  induction e with
  | zero=>
    intro k x he hk hx
    refine Ev.step (fun n=>by rw[Fl.l0]) ?_
    refine evNeg (by omega) ?_
    rw[low] at hx
    rw[hx]
    exact hR
  | succ e ih=>
    intro k x he hk hx
    have hlt:k < q.length:=by omega
    have hk1:G7 (wrap64 ((k:Int) + 1)=((k + 1:Nat):Int)):=⟨ki q k hlt (by omega)⟩
    have htm:G7 (Int.tmod ((k + 1:Nat):Int) (q.length:Int)=((nx q k:Nat):Int)):=⟨tm q k⟩
    have a1:=cir_at hq hlt
    have a2:=cir_at hq (nx_lt hq0 k)
    have hn:=nx_lt hq0 k
    have hrl:=row_len h a1
    refine Ev.step (fun n=>by rw[Fl.l0]) ?_
    rw[hk1.out,htm.out]
    refine evPos (by omega) (evPos (by omega) (evPos a1.1 (evPos (by omega) (evNeg (by omega) (evPos (by omega) (evPos (by omega) (evPos a2.1 (evPos (by omega) ?_))))))))
    exact ih (k + 1) _ (by omega) (by omega) (by rw[low] at hx;exact hx)
theorem st_l1 (h:BookP c d) (hq:CirP c.length d q):∀(e k:Nat),q.length - k=e->k<=q.length->Ev (fun n=>Fl.l1 n q (lowest d q) (k:Int) c d c (mk c.length (part d q k))) (c,struck c d q):=by
  have h4:=h.2.1
  have hdl:=h.2.2.1
  have hql:=hq.1.len
  have hq0:=hq.1.1
  intro e
  induction e with
  | zero=>
    intro k he hk
    refine Ev.step (fun n=>by rw[Fl.l1]) ?_
    have:k=q.length:=by omega
    subst this
    exact evNeg (by omega) (Ev.now _)
  | succ e ih=>
    intro k he hk
    have hlt:k < q.length:=by omega
    have hk1:G7 (wrap64 ((k:Int) + 1)=((k + 1:Nat):Int)):=⟨ki q k hlt (by omega)⟩
    have htm:G7 (Int.tmod ((k + 1:Nat):Int) (q.length:Int)=((nx q k:Nat):Int)):=⟨tm q k⟩
    have a1:=cir_at hq hlt
    have a2:=cir_at hq (nx_lt hq0 k)
    have hn:=nx_lt hq0 k
    have hrl:=row_len h a1
    have hml:=mk_len c.length (part d q k)
    have hle:=lowest_le hq hlt
    have hlp:=lowest_pos hq
    have hee:=edge_le h hq hlt
    obtain⟨a,ha⟩:=Int.eq_ofNat_of_zero_le a1.1
    obtain⟨b,hb⟩:=Int.eq_ofNat_of_zero_le a2.1
    have hac:a < c.length:=by omega
    have hbc:b < c.length:=by omega
    have hmr:(Jm (mk c.length (part d q k)) (rd q (k:Int))).length=c.length:=by rw[ha,mk_get hac,rowF_len]
    have hw:G7 (wrap64 (rd (Jm d (rd q (k:Int))) (rd q ((nx q k:Nat):Int)) - lowest d q)=db d a b - lowest d q):=⟨by
      have e1:rd (Jm d (rd q (k:Int))) (rd q ((nx q k:Nat):Int))=edge d q k:=rfl
      rw[e1,w64 (by omega) (by omega)]
      have e2:edge d q k=db d a b:=by unfold edge;rw[ha,hb]
      rw[e2]⟩
    refine Ev.step (fun n=>by rw[Fl.l1]) ?_
    rw[hk1.out,htm.out]
    refine evPos (by omega) (evPos (by omega) (evNeg (by omega) (evPos (by omega) (evPos (by omega) (evPos a1.1 (evPos (by omega) (evPos (by omega) (evPos a2.1 (evPos (by omega) (evPos (by omega) ?_))))))))))
    rw[hw.out,ha,hb,Int.toNat_natCast,Int.toNat_natCast,mk_set hac hbc]
    have:mk c.length (fun i' j'=>if i'=a/\j'=b then db d a b - lowest d q else part d q k i' j')=mk c.length (part d q (k + 1)):=mk_congr (fun i hi j hj=>by
      by_cases z:i=a/\j=b
      · rw[if_pos z]
        unfold part
        rw[if_pos (hit_iff.2 ⟨k,by omega,by rw[ha,z.1],by rw[hb,z.2]⟩),z.1,z.2]
      · rw[if_neg z]
        unfold part
        have:hit q (k + 1) i j=hit q k i j:=by
          rw[Bool.eq_iff_iff,hit_iff,hit_iff]
          constructor
          · rintro⟨k',h1,h2,h3⟩
            by_cases e':k'=k
            · subst e'
              rw[ha] at h2;rw[hb] at h3
              exact absurd ⟨by omega,by omega⟩ z
            · exact⟨k',by omega,h2,h3⟩
          · rintro⟨k',h1,h2⟩
            exact⟨k',by omega,h2⟩
        rw[this])
    rw[this]
    exact ih (k + 1) (by omega) (by omega)
theorem sStruck (h:BookP c d) (hq:CirP c.length d q):Ev (fun k=>Fl.f k c d q) (c,struck c d q):=by
  unfold Fl.f
  refine Ev.bind (scopy h) (st_l0 h hq ?_ q.length 0 9 rfl (by omega) rfl)
  have:=st_l1 h hq q.length 0 rfl (by omega)
  have e:mk c.length (part d q 0)=d:=(mk_congr (fun i _ j _=>by unfold part hit;simp)).trans (mk_of h).symm
  rw[e] at this
  exact this
def s1 (f:Nat->Int):Nat->Int
  | 0=>0
  | m + 1=>s1 f m + f m
theorem s1_le {f g:Nat->Int}:∀m:Nat,(∀i,i < m->f i<=g i)->s1 f m<=s1 g m
  | 0,_=>Int.le_refl _
  | m + 1,h=>by
    have:=s1_le m (fun i hi=>h i (by omega))
    have:=h m (by omega)
    simp only[s1];omega
theorem s1_lt {f g:Nat->Int}:∀m:Nat,(∀i,i < m->f i<=g i)->(∃i,i < m/\f i < g i)->s1 f m < s1 g m
  | 0,_,⟨i,hi,_⟩=>by omega
  | m + 1,h,⟨i,hi,hl⟩=>by
    have h1:=s1_le m (fun i hi=>h i (by omega))
    have h2:=h m (by omega)
    simp only[s1]
    by_cases e:i=m
    · subst e;omega
    · have:=s1_lt m (fun i hi=>h i (by omega)) ⟨i,by omega,hl⟩
      omega
theorem s1_ge {f:Nat->Int} {a b:Int}:∀m:Nat,(∀i,i < m->a<=f i/\f i<=b)->a * m<=s1 f m/\s1 f m<=b * m
  | 0,_=>by simp[s1]
  | m + 1,h=>by
    have h1:=s1_ge m (fun i hi=>h i (by omega))
    have h2:=h m (by omega)
    have e1:a * ((m + 1:Nat):Int)=a * m + a:=by rw[Int.natCast_add,Int.mul_add];simp
    have e2:b * ((m + 1:Nat):Int)=b * m + b:=by rw[Int.natCast_add,Int.mul_add];simp
    simp only[s1]
    rw[e1,e2];omega
def tot (c:List Int) (d:List (List Int)):Int:=s1 (fun i=>s1 (db d i) c.length) c.length
theorem tot_bd (h:BookP c d):0<=tot c d/\tot c d<=144:=by
  have h4:=h.2.1
  have hr:∀i,i < c.length->0<=s1 (db d i) c.length/\s1 (db d i) c.length<=36:=fun i hi=>by
    have:=s1_ge (f:=db d i) (a:=0) (b:=9) c.length (fun j hj=>(h.2.2.2 i hi).2.2.2.2 j hj)
    omega
  have:=s1_ge (f:=fun i=>s1 (db d i) c.length) (a:=0) (b:=36) c.length hr
  unfold tot
  omega
theorem struck_less (h:BookP c d) (hq:CirP c.length d q):tot c (struck c d q) < tot c d:=by
  have hb:∀i,i < c.length->∀j,j < c.length->db (struck c d q) i j<=db d i j:=fun i hi j hj=>by
    rw[struck_get hi hj];exact(part_bd h hq (Nat.le_refl _) hi hj).2
  have h0:=hq.1.1
  have a1:=cir_at hq h0
  have a2:=cir_at hq (nx_lt h0 0)
  obtain⟨a,ha⟩:=Int.eq_ofNat_of_zero_le a1.1
  obtain⟨b,hb2⟩:=Int.eq_ofNat_of_zero_le a2.1
  have hlp:=lowest_pos hq
  refine s1_lt c.length (fun i hi=>s1_le c.length (hb i hi)) ⟨a,by omega,s1_lt c.length (hb a (by omega)) ⟨b,by omega,?_⟩⟩
  rw[struck_get (by omega) (by omega)]
  unfold part
  rw[if_pos (hit_iff.2 ⟨0,h0,ha,hb2⟩)]
  omega
def woc (c:List Int):Nat->List (List Int)->Int->List (List Int) × Int
  | 0,d,n=>(d,n)
  | N + 1,d,n=>if (circ c d).length=0 then(d,n) else woc c N (struck c d ((circ c d).getD 0 [])) (n + 1)
theorem woc_ok:∀(N:Nat) (d:List (List Int)) (n:Int),BookP c d->BookP c (woc c N d n).1
  | 0,d,n,h=>h
  | N + 1,d,n,h=>by
    rw[woc]
    split
    · exact h
    · next hz=>exact woc_ok N _ _ (struck_ok h (mem_circ h (getD_mem [] _ 0 (by omega))))
theorem sWoc:∀(N:Nat) (d:List (List Int)) (n:Int),BookP c d->tot c d<=(N:Int)->0<=n->n + N<=1000->Ev (fun k=>Fd.l0 k n c d) (c,(woc c N d n).1,(woc c N d n).2):=by
  intro N
  induction N with
  | zero=>
    intro d n h ht hn hN
    have hb:=tot_bd h
    refine Ev.step (fun k=>by rw[Fd.l0]) ?_
    refine Ev.bind (sCircles h) ?_
    have hz:(circ c d).length=0:=by
      apply Classical.byContradiction
      intro hz
      have hq:=mem_circ h (getD_mem [] (circ c d) 0 (by omega))
      have h1:=struck_less h hq
      have h2:=tot_bd (struck_ok h hq)
      omega
    exact evPos (by omega) (Ev.now _)
  | succ N ih=>
    intro d n h ht hn hN
    refine Ev.step (fun k=>by rw[Fd.l0]) ?_
    refine Ev.bind (sCircles h) ?_
    by_cases hz:(circ c d).length=0
    · refine evPos (by omega) (evEq (Ev.now _) ?_)
      rw[woc,if_pos hz]
    · refine evNeg (by omega) (evPos (by omega) ?_)
      have hq:=mem_circ h (getD_mem [] (circ c d) 0 (by omega))
      have e1:Jm (circ c d) 0=(circ c d).getD 0 []:=rfl
      rw[e1]
      refine Ev.bind (sStruck h hq) ?_
      have hw:wrap64 (n + 1)=n + 1:=w64 (by omega) (by omega)
      rw[hw]
      have h1:=struck_less h hq
      refine evEq (ih _ (n + 1) (struck_ok h hq) (by show tot c (struck c d ((circ c d).getD 0 []))<=(N:Int);omega) (by omega) (by omega)) ?_
      rw[woc,if_neg hz]
def without (c:List Int) (d:List (List Int)):List (List Int) × Int:=woc c 144 d 0
theorem without_ok (h:BookP c d):BookP c (without c d).1:=woc_ok _ _ _ h
theorem sWithout (c:List Int) (d:List (List Int)):Ev (fun k=>Fd.f k c d) (@ite _ (BookP c d) (Classical.propDecidable _) (c,(without c d).1,(without c d).2) ([],[], -1)):=by
  unfold Fd.f
  by_cases h:BookP c d
  · rw[if_pos h]
    refine Ev.bind ((bookOk c d).yes h) (evPos rfl (Ev.bind (scopy h) ?_))
    exact sWoc 144 d 0 h (tot_bd h).2 (by omega) (by omega)
  · rw[if_neg h]
    exact Ev.bind ((bookOk c d).no h) (evNeg (by decide) (Ev.now _))
end
end Go.Proofs.Ytfooakkhkehpiaa.SkE
namespace Go.Proofs.Ytfooakkhkehpiaa.NtE
open Go.RowKit Go.Proofs.Ytfooakkhkehpiaa.PE Go.Proofs.Ytfooakkhkehpiaa.Qh Go.Proofs.Ytfooakkhkehpiaa.BkE Go.Proofs.Ytfooakkhkehpiaa.MxE Go.Proofs.YtfooakkhkehpiaaW.PrintWords Go.Proofs.YtfooakkhkehpiaaW.PrintMore
set_option linter.unusedVariables false
set_option linter.unusedSimpArgs false
def N (d:List (List Int)) (i j:Nat):Int:=db d i j - mn (db d i j) (db d j i)
def netL (c:List Int) (d:List (List Int)):List (List Int):=mk c.length (N d)
variable {c:List Int} {d:List (List Int)}
theorem db_bd (h:BookP c d) {i j:Nat} (hi:i < c.length) (hj:j < c.length):0<=db d i j/\db d i j<=9:=(h.2.2.2 i hi).2.2.2.2 j hj
theorem db_diag (h:BookP c d) {i:Nat} (hi:i < c.length):db d i i=0:=(h.2.2.2 i hi).2.2.2.1
theorem mn_le (a b:Int):mn a b<=a/\mn a b<=b/\(mn a b=a ∨ mn a b=b):=by
  unfold mn
  split <;> omega
theorem mn_comm (a b:Int):mn a b=mn b a:=by
  have h1:=mn_le a b
  have h2:=mn_le b a
  omega
theorem N_bd (h:BookP c d) {i j:Nat} (hi:i < c.length) (hj:j < c.length):0<=N d i j/\N d i j<=db d i j:=by
  have h1:=mn_le (db d i j) (db d j i)
  have h2:=db_bd h hi hj
  have h3:=db_bd h hj hi
  unfold N
  omega
theorem N_diag (h:BookP c d) {i:Nat} (hi:i < c.length):N d i i=0:=by
  have h1:=N_bd h hi hi
  have h2:=db_diag h hi
  omega
theorem net_len (c:List Int) (d:List (List Int)):(netL c d).length=c.length:=mk_len _ _
theorem net_get (h:BookP c d) {i j:Nat} (hi:i < c.length) (hj:j < c.length):db (netL c d) i j=N d i j:=by
  show rd (Jm (mk c.length (N d)) (i:Int)) (j:Int)=_
  rw[mk_get hi,rd_rowF hj]
theorem net_ok (h:BookP c d):BookP c (netL c d):=by
  refine⟨h.1,h.2.1,net_len c d,fun i hi=>?_⟩
  have hc:=h.2.2.2 i hi
  refine⟨hc.1,hc.2.1,?_,?_,fun j hj=>?_⟩
  · show(Jm (mk c.length (N d)) (i:Int)).length=_
    rw[mk_get hi,rowF_len]
  · exact(net_get h hi hi).trans (N_diag h hi)
  · have h1:=net_get h hi hj
    have h2:=N_bd h hi hj
    have h3:=db_bd h hi hj
    show 0<=db (netL c d) i j/\db (netL c d) i j<=9
    rw[h1];omega
def fi (d:List (List Int)) (i k:Nat) (i' j':Nat):Int:=if i' < i ∨ i'=i/\j' < k then N d i' j' else db d i' j'
theorem in_l1 (h:BookP c d) {i:Nat} (hi:i < c.length) {r:List Int × List (List Int)} (hR:Ev (fun n=>Ft.l0 n d (c.length:Int) ((i + 1:Nat):Int) c d c (mk c.length (fi d (i + 1) 0))) r):∀(e k:Nat),c.length - k=e->k<=c.length ->
    Ev (fun n=>Ft.l1 n (i:Int) d (c.length:Int) (i:Int) (Jm d (i:Int)) (c.length:Int) (k:Int) c d c (mk c.length (fi d i k))) r:=by
  have h4:=h.2.1
  have hdl:=h.2.2.1
  have hri:=(h.2.2.2 i hi).2.2.1
  have hs:G7 (wrap64 ((i:Int) + 1)=((i + 1:Nat):Int)):=⟨wsucc hi (by omega)⟩
  intro e
  induction e with
  | zero=>
    intro k he hk
    obtain rfl:k=c.length:=by omega
    refine Ev.step (fun n=>by rw[Ft.l1]) ?_
    rw[hs.out]
    refine evNeg (by omega) ?_
    have:mk c.length (fi d i c.length)=mk c.length (fi d (i + 1) 0):=mk_congr (fun a ha b hb=>by
      unfold fi
      by_cases z:a < i ∨ a=i/\b < c.length
      · rw[if_pos z,if_pos (by omega)]
      · rw[if_neg z,if_neg (by omega)])
    rw[this]
    exact hR
  | succ e ih=>
    intro k he hk
    have hlt:k < c.length:=by omega
    have hk1:G7 (wrap64 ((k:Int) + 1)=((k + 1:Nat):Int)):=⟨wsucc hlt (by omega)⟩
    have hrk:=(h.2.2.2 k hlt).2.2.1
    have hml:=mk_len c.length (fi d i k)
    have hmr:(Jm (mk c.length (fi d i k)) (i:Int)).length=c.length:=by rw[mk_get hi,rowF_len]
    have b1:=db_bd h hi hlt
    have b2:=N_bd h hi hlt
    have hw:G7 (wrap64 (rd (Jm d (i:Int)) (k:Int) - mn (rd (Jm d (i:Int)) (k:Int)) (rd (Jm d (k:Int)) (i:Int)))=N d i k):=⟨by
      have e1:rd (Jm d (i:Int)) (k:Int) - mn (rd (Jm d (i:Int)) (k:Int)) (rd (Jm d (k:Int)) (i:Int))=N d i k:=rfl
      rw[e1,w64 (by omega) (by omega)]⟩
    refine Ev.step (fun n=>by rw[Ft.l1]) ?_
    rw[hk1.out,hw.out,Int.toNat_natCast,Int.toNat_natCast,mk_set hi hlt]
    refine evPos (by omega) (evPos (by omega) (evPos (by omega) (evPos (by omega) (evPos (by omega) (evPos (by omega) (evPos (by omega) (evPos (by omega) ?_)))))))
    have:mk c.length (fun i' j'=>if i'=i/\j'=k then N d i k else fi d i k i' j')=mk c.length (fi d i (k + 1)):=mk_congr (fun a ha b hb=>by
      unfold fi
      by_cases z:a=i/\b=k
      · rw[if_pos z,if_pos (by omega),z.1,z.2]
      · rw[if_neg z]
        by_cases y:a < i ∨ a=i/\b < k
        · rw[if_pos y,if_pos (by omega)]
        · rw[if_neg y,if_neg (by omega)])
    rw[this]
    exact ih (k + 1) (by omega) (by omega)
theorem in_l0 (h:BookP c d):∀(e i:Nat),c.length - i=e->i<=c.length->Ev (fun n=>Ft.l0 n d (c.length:Int) (i:Int) c d c (mk c.length (fi d i 0))) (c,netL c d):=by
  have hdl:=h.2.2.1
  intro e
  induction e with
  | zero=>
    intro i he hi
    obtain rfl:i=c.length:=by omega
    refine Ev.step (fun n=>by rw[Ft.l0]) ?_
    refine evNeg (by omega) (evEq (Ev.now _) ?_)
    have:mk c.length (fi d c.length 0)=netL c d:=mk_congr (fun a ha b hb=>by unfold fi;rw[if_pos (by omega)])
    rw[this]
  | succ e ih=>
    intro i he hi
    have hlt:i < c.length:=by omega
    have hri:=(h.2.2.2 i hlt).2.2.1
    refine Ev.step (fun n=>by rw[Ft.l0]) ?_
    rw[hri]
    refine evPos (by omega) (evPos (by omega) (evPos (by omega) ?_))
    exact in_l1 h hlt (ih (i + 1) (by omega) (by omega)) c.length 0 rfl (by omega)
theorem inetted (h:BookP c d):Ev (fun n=>Ft.f n c d) (c,netL c d):=by
  have hdl:=h.2.2.1
  unfold Ft.f
  refine Ev.bind (icopy h) ?_
  have e:mk c.length (fi d 0 0)=d:=(mk_congr (fun a ha b hb=>by unfold fi;rw[if_neg (by omega)])).trans (mk_of h).symm
  have:=in_l0 h c.length 0 rfl (by omega)
  rw[e] at this
  show Ev (fun n=>Ft.l0 n d (d.length:Int) 0 c d c d) (c,netL c d)
  rw[hdl]
  exact this
def fs (d:List (List Int)) (i k:Nat) (a b:Nat):Int:=if a≠b/\(max a b < i ∨ max a b=i/\min a b < k) then N d a b else db d a b
theorem sn_l1 (h:BookP c d) {i:Nat} (hi:i < c.length) {r:List Int × List (List Int)} (hR:Ev (fun n=>Fk.l0 n ((i + 1:Nat):Int) c d c (mk c.length (fs d (i + 1) 0))) r):∀(e k:Nat),i - k=e->k<=i ->
    Ev (fun n=>Fk.l1 n (i:Int) (k:Int) c d c (mk c.length (fs d i k))) r:=by
  have h4:=h.2.1
  have hdl:=h.2.2.1
  have hri:=(h.2.2.2 i hi).2.2.1
  have hs:G7 (wrap64 ((i:Int) + 1)=((i + 1:Nat):Int)):=⟨wsucc hi (by omega)⟩
  intro e
  induction e with
  | zero=>
    intro k he hk
    obtain rfl:k=i:=by omega
    refine Ev.step (fun n=>by rw[Fk.l1]) ?_
    rw[hs.out]
    refine evNeg (by omega) ?_
    have:mk c.length (fs d k k)=mk c.length (fs d (k + 1) 0):=mk_congr (fun a ha b hb=>by
      unfold fs
      by_cases z:a≠b/\(max a b < k ∨ max a b=k/\min a b < k)
      · rw[if_pos z,if_pos (by omega)]
      · rw[if_neg z,if_neg (by omega)])
    rw[this]
    exact hR
  | succ e ih=>
    intro k he hk
    have hlt:k < c.length:=by omega
    have hk1:G7 (wrap64 ((k:Int) + 1)=((k + 1:Nat):Int)):=⟨wsucc hlt (by omega)⟩
    have hrk:=(h.2.2.2 k hlt).2.2.1
    have hml:=mk_len c.length (fs d i k)
    have hmr:(Jm (mk c.length (fs d i k)) (i:Int)).length=c.length:=by rw[mk_get hi,rowF_len]
    have b1:=db_bd h hi hlt
    have b2:=N_bd h hi hlt
    have b3:=db_bd h hlt hi
    have b4:=N_bd h hlt hi
    have hw:G7 (wrap64 (rd (Jm d (i:Int)) (k:Int) - mn (rd (Jm d (i:Int)) (k:Int)) (rd (Jm d (k:Int)) (i:Int)))=N d i k):=⟨by
      have e1:rd (Jm d (i:Int)) (k:Int) - mn (rd (Jm d (i:Int)) (k:Int)) (rd (Jm d (k:Int)) (i:Int))=N d i k:=rfl
      rw[e1,w64 (by omega) (by omega)]⟩
    have hw2:G7 (wrap64 (rd (Jm d (k:Int)) (i:Int) - mn (rd (Jm d (i:Int)) (k:Int)) (rd (Jm d (k:Int)) (i:Int)))=N d k i):=⟨by
      have e1:rd (Jm d (k:Int)) (i:Int) - mn (rd (Jm d (i:Int)) (k:Int)) (rd (Jm d (k:Int)) (i:Int))=N d k i:=by
        rw[mn_comm];rfl
      rw[e1,w64 (by omega) (by omega)]⟩
    refine Ev.step (fun n=>by rw[Fk.l1]) ?_
    rw[hk1.out,hw.out,hw2.out,Int.toNat_natCast,Int.toNat_natCast,mk_set hi hlt]
    refine evPos (by omega) (evPos (by omega) (evPos (by omega) (evPos (by omega) (evPos (by omega) (evPos (by omega) (evPos (by omega) (evPos (by omega) (evPos (by omega) (evBind0 rfl ?_)))))))))
    have hml2:=mk_len c.length (fun i' j'=>if i'=i/\j'=k then N d i k else fs d i k i' j')
    have hmr2:(Jm (mk c.length (fun i' j'=>if i'=i/\j'=k then N d i k else fs d i k i' j')) (k:Int)).length=c.length:=by rw[mk_get hlt,rowF_len]
    refine evPos (by omega) (evPos (by omega) ?_)
    rw[mk_set hlt hi]
    have:mk c.length (fun i' j'=>if i'=k/\j'=i then N d k i else if i'=i/\j'=k then N d i k else fs d i k i' j')=mk c.length (fs d i (k + 1)):=mk_congr (fun a ha b hb=>by
      unfold fs
      by_cases z:a=k/\b=i
      · rw[if_pos z,if_pos (by omega),z.1,z.2]
      · rw[if_neg z]
        by_cases z2:a=i/\b=k
        · rw[if_pos z2,if_pos (by omega),z2.1,z2.2]
        · rw[if_neg z2]
          by_cases y:a≠b/\(max a b < i ∨ max a b=i/\min a b < k)
          · rw[if_pos y,if_pos (by omega)]
          · rw[if_neg y,if_neg (by omega)])
    rw[this]
    exact ih (k + 1) (by omega) (by omega)
theorem sn_l0 (h:BookP c d):∀(e i:Nat),c.length - i=e->i<=c.length->Ev (fun n=>Fk.l0 n (i:Int) c d c (mk c.length (fs d i 0))) (c,netL c d):=by
  have hdl:=h.2.2.1
  intro e
  induction e with
  | zero=>
    intro i he hi
    obtain rfl:i=c.length:=by omega
    refine Ev.step (fun n=>by rw[Fk.l0]) ?_
    refine evNeg (by omega) (evEq (Ev.now _) ?_)
    have:mk c.length (fs d c.length 0)=netL c d:=mk_congr (fun a ha b hb=>by
      unfold fs
      by_cases z:a=b
      · subst z;rw[if_neg (by omega),db_diag h ha,N_diag h ha]
      · rw[if_pos (by omega)])
    rw[this]
  | succ e ih=>
    intro i he hi
    have hlt:i < c.length:=by omega
    refine Ev.step (fun n=>by rw[Fk.l0]) ?_
    refine evPos (by omega) ?_
    exact sn_l1 h hlt (ih (i + 1) (by omega) (by omega)) i 0 rfl (by omega)
theorem sNetted (c:List Int) (d:List (List Int)):Ev (fun n=>Fk.f n c d) (@ite _ (BookP c d) (Classical.propDecidable _) (c,netL c d) ([],[])):=by
  unfold Fk.f
  by_cases h:BookP c d
  · rw[if_pos h]
    refine Ev.bind ((bookOk c d).yes h) (evPos rfl (Ev.bind (scopy h) ?_))
    have e:mk c.length (fs d 0 0)=d:=(mk_congr (fun a ha b hb=>by unfold fs;rw[if_neg (by omega)])).trans (mk_of h).symm
    have:=sn_l0 h c.length 0 rfl (by omega)
    rw[e] at this
    exact this
  · rw[if_neg h];exact Ev.bind ((bookOk c d).no h) (evNeg (by decide) (Ev.now _))
end Go.Proofs.Ytfooakkhkehpiaa.NtE
namespace Go.Proofs.Ytfooakkhkehpiaa.DkE
open Go.RowKit Go.Proofs.Ytfooakkhkehpiaa.PE Go.Proofs.Ytfooakkhkehpiaa.Qh Go.Proofs.Ytfooakkhkehpiaa.BkE Go.Proofs.YtfooakkhkehpiaaW.PrintWords Go.Proofs.YtfooakkhkehpiaaW.PrintMore
set_option linter.unusedVariables false
set_option linter.unusedSimpArgs false
abbrev B:=S25
def OkB (n:Nat) (x:B):Prop:=BookP x.f0 x.f1/\x.f0.length=n
def DeskP (c:List Int) (d:List (List Int)) (ps:List B):Prop:=BookP c d/\ps.length<=8/\∀x ∈ ps,OkB c.length x
theorem bad (n:Nat):∀(l:List B) (i:Nat),∃q:Int,(q ≥ 0 ↔ ¬ ∀x ∈ l,OkB n x)/\Ev (fun k=>F5.bad k (n:Int) l i) q
  | [],i=>⟨-1,by simp,Ev.now _⟩
  | x :: r,i=>by
    obtain⟨b,hb,e⟩:=isBook x.f0 x.f1
    by_cases h1:BookP x.f0 x.f1
    · by_cases h2:x.f0.length=n
      · obtain⟨q,hq,eq⟩:=bad n r (i + 1)
        refine⟨q,hq.trans ⟨fun z w=>z (fun y hy=>w y (List.mem_cons_of_mem _ hy)),fun z w=>z (fun y hy=>?_)⟩,?_⟩
        · rcases List.mem_cons.mp hy with rfl|h
          · exact⟨h1,h2⟩
          · exact w y h
        · show Ev (fun k=>(Fi.f k x.f0 x.f1).bind fun t=>if t=true then(if (x.f0.length:Int)=(n:Int) then F5.bad k (n:Int) r (i + 1) else some (i:Int)) else some (i:Int)) q
          exact Ev.bind e (evPos (hb.2 h1) (evPos (by omega) eq))
      · refine⟨(i:Int),⟨fun _ w=>h2 (w x (List.mem_cons_self)).2,fun _=>by omega⟩,?_⟩
        show Ev (fun k=>(Fi.f k x.f0 x.f1).bind fun t=>if t=true then(if (x.f0.length:Int)=(n:Int) then F5.bad k (n:Int) r (i + 1) else some (i:Int)) else some (i:Int)) (i:Int)
        exact Ev.bind e (evPos (hb.2 h1) (evNeg (by omega) (Ev.now _)))
    · refine⟨(i:Int),⟨fun _ w=>h1 (w x (List.mem_cons_self)).1,fun _=>by omega⟩,?_⟩
      show Ev (fun k=>(Fi.f k x.f0 x.f1).bind fun t=>if t=true then(if (x.f0.length:Int)=(n:Int) then F5.bad k (n:Int) r (i + 1) else some (i:Int)) else some (i:Int)) (i:Int)
      exact Ev.bind e (evNeg (fun z=>h1 (hb.1 z)) (Ev.now _))
theorem isDesk (c:List Int) (d:List (List Int)) (ps:List B):EvB (fun k=>F5.f k c d ps) (DeskP c d ps):=by
  unfold F5.f
  obtain⟨b,hb,e⟩:=isBook c d
  refine EvB.bind e ?_
  by_cases h:BookP c d
  · refine EvB.pos (hb.2 h) ?_
    by_cases h8:(ps.length:Int)<=8
    · refine EvB.pos h8 ?_
      obtain⟨q,hq,eq⟩:=bad c.length ps 0
      refine EvB.bind eq ⟨_,?_,Ev.now _⟩
      constructor
      · intro z
        have z2:¬ q ≥ 0:=by simpa using z
        exact⟨h,by omega,Classical.byContradiction (fun w=>z2 (hq.2 w))⟩
      · intro z
        have:¬ q ≥ 0:=fun w=>hq.1 w z.2.2
        simpa using this
    · exact EvB.neg h8 (EvB.ff (fun z=>h8 (by have:=z.2.1;omega)))
  · exact EvB.neg (fun z=>h (hb.1 z)) (EvB.ff (fun z=>h z.1))
theorem rT (xs:List B) (i:Nat):Jn xs (i:Int)=xs.getD i z25:=rfl
theorem sd_l0 (c:List Int) (d:List (List Int)) (ps:List B) (hp:ps.length<=4611686018427387904):∀(e i:Nat),ps.length - i=e->i<=ps.length ->
    EvB (fun k=>Fv.l0 k (i:Int) c d ps) ((∀j:Nat,i<=j->j < ps.length->OkB c.length (Jn ps (j:Int)))/\BookP c d/\ps.length<=8):=by
  intro e
  induction e with
  | zero=>
    intro i he hi
    refine EvB.step (fun k=>by rw[Fv.l0]) ?_
    refine EvB.neg (by omega) ?_
    obtain⟨b,hb,eb⟩:=bookOk c d
    refine EvB.bind eb ?_
    by_cases h:BookP c d
    · refine EvB.pos (hb.2 h) ⟨_,?_,Ev.now _⟩
      constructor
      · intro z
        have:=of_decide_eq_true z
        exact⟨fun j h1 h2=>by omega,h,by omega⟩
      · intro z
        exact decide_eq_true (by have:=z.2.2;omega)
    · exact EvB.neg (fun z=>h (hb.1 z)) (EvB.ff (fun z=>h z.2.1))
  | succ e ih=>
    intro i he hi
    have hlt:i < ps.length:=by omega
    have hs:wrap64 ((i:Int) + 1)=((i + 1:Nat):Int):=wsucc hlt hp
    refine EvB.step (fun k=>by rw[Fv.l0]) ?_
    refine EvB.pos (by omega) (EvB.pos (by omega) ?_)
    obtain⟨b,hb,eb⟩:=bookOk (Jn ps (i:Int)).f0 (Jn ps (i:Int)).f1
    refine EvB.bind eb ?_
    by_cases h:BookP (Jn ps (i:Int)).f0 (Jn ps (i:Int)).f1
    · refine EvB.pos (hb.2 h) ?_
      by_cases h2:(Jn ps (i:Int)).f0.length=c.length
      · refine EvB.pos (by omega) ?_
        rw[hs]
        refine(ih (i + 1) (by omega) (by omega)).congr ⟨fun z=>⟨fun j h5 h6=>?_,z.2⟩,fun z=>⟨fun j h5 h6=>z.1 j (by omega) h6,z.2⟩⟩
        by_cases e':j=i
        · subst e';exact⟨h,h2⟩
        · exact z.1 j (by omega) h6
      · exact EvB.neg (by omega) (EvB.ff (fun z=>h2 (z.1 i (Nat.le_refl _) hlt).2))
    · exact EvB.neg (fun z=>h (hb.1 z)) (EvB.ff (fun z=>h (z.1 i (Nat.le_refl _) hlt).1))
theorem deskOk (c:List Int) (d:List (List Int)) (ps:List B) (hp:ps.length<=4611686018427387904):EvB (fun k=>Fv.f k c d ps) (DeskP c d ps):=by
  unfold Fv.f
  refine(sd_l0 c d ps hp ps.length 0 rfl (by omega)).congr ⟨fun z=>⟨z.2.1,z.2.2,fun x hx=>?_⟩,fun z=>⟨fun j _ h2=>z.2.2 _ ?_,z.1,z.2.1⟩⟩
  · obtain⟨i,hi,rfl⟩:=List.mem_iff_getElem.mp hx
    have:=z.1 i (by omega) hi
    rwa [rT,List.getD_eq_getElem?_getD,List.getElem?_eq_getElem hi] at this
  · rw[rT];exact getD_mem _ ps j h2
end Go.Proofs.Ytfooakkhkehpiaa.DkE
namespace Go.Proofs.Ytfooakkhkehpiaa.DdE
open Go.RowKit Go.Proofs.Ytfooakkhkehpiaa.PE Go.Proofs.Ytfooakkhkehpiaa.Qh Go.Proofs.Ytfooakkhkehpiaa.BkE Go.Proofs.Ytfooakkhkehpiaa.MxE Go.Proofs.Ytfooakkhkehpiaa.NtE Go.Proofs.Ytfooakkhkehpiaa.DkE Go.Proofs.Ytfooakkhkehpiaa.SkE Go.Proofs.YtfooakkhkehpiaaW.PrintWords Go.Proofs.YtfooakkhkehpiaaW.PrintMore
set_option linter.unusedVariables false
set_option linter.unusedSimpArgs false
section
variable {c c':List Int} {d d':List (List Int)}
theorem ext_book (h:BookP c d) (h':BookP c' d') (hl:c'.length=c.length) (e:∀i:Nat,i < c.length->rd c' (i:Int)=rd c (i:Int)/\∀j:Nat,j < c.length->db d' i j=db d i j):c'=c/\d'=d:=by
  constructor
  · exact ext_rd _ _ hl (fun i hi=>(e i (by omega)).1)
  · rw[mk_of h,mk_of h',hl]
    exact mk_congr (fun i hi j hj=>(e i hi).2 j hj)
theorem same (h:BookP c d) (h':BookP c' d') (hl:c'.length=c.length):EvB (fun k=>Fu.f k c' d' c d) (c'=c/\d'=d):=by
  have h4:=h.2.1
  have hd:=h.2.2.1
  have hd':=h'.2.2.1
  unfold Fu.f
  have l1:∀(i:Nat),i < c.length->∀ {R:Prop},EvB (fun k=>Fu.l0 k ((i + 1:Nat):Int) c' d' c d) R->∀(e j:Nat),c.length - j=e->j<=c.length->EvB (fun k=>Fu.l1 k (i:Int) (j:Int) c' d' c d) ((∀j':Nat,j<=j'->j' < c.length->db d' i j'=db d i j')/\R):=by
    intro i hi R hR e
    have hs:G7 (wrap64 ((i:Int) + 1)=((i + 1:Nat):Int)):=⟨wsucc hi (by omega)⟩
    have hri:=(h.2.2.2 i hi).2.2.1
    have hri':=(h'.2.2.2 i (by omega)).2.2.1
    induction e with
    | zero=>
      intro j he hj
      refine EvB.step (fun k=>by rw[Fu.l1]) ?_
      rw[hs.out]
      exact EvB.neg (by omega) (hR.congr ⟨fun z=>⟨fun j' h1 h2=>by omega,z⟩,fun z=>z.2⟩)
    | succ e ih=>
      intro j he hj
      have hlt:j < c.length:=by omega
      have hj1:G7 (wrap64 ((j:Int) + 1)=((j + 1:Nat):Int)):=⟨wsucc hlt (by omega)⟩
      refine EvB.step (fun k=>by rw[Fu.l1]) ?_
      rw[hj1.out]
      refine EvB.pos (by omega) (EvB.pos (by omega) (EvB.pos (by omega) (EvB.pos (by omega) (EvB.pos (by omega) (EvB.pos (by omega) (EvB.pos (by omega) ?_))))))
      by_cases he2:rd (Jm d' (i:Int)) (j:Int)=rd (Jm d (i:Int)) (j:Int)
      · refine EvB.pos he2 ((ih (j + 1) (by omega) (by omega)).congr ⟨fun z=>⟨fun j' h1 h2=>?_,z.2⟩,fun z=>⟨fun j' h1 h2=>z.1 j' (by omega) h2,z.2⟩⟩)
        by_cases e':j'=j
        · subst e';exact he2
        · exact z.1 j' (by omega) h2
      · exact EvB.neg he2 (EvB.ff (fun z=>he2 (z.1 j (Nat.le_refl _) hlt)))
  have l0:∀(e i:Nat),c.length - i=e->i<=c.length->EvB (fun k=>Fu.l0 k (i:Int) c' d' c d) (∀i':Nat,i<=i'->i' < c.length->rd c' (i':Int)=rd c (i':Int)/\∀j:Nat,j < c.length->db d' i' j=db d i' j):=by
    intro e
    induction e with
    | zero=>
      intro i he hi
      refine EvB.step (fun k=>by rw[Fu.l0]) ?_
      exact EvB.neg (by omega) (EvB.tt (fun i' h1 h2=>by omega))
    | succ e ih=>
      intro i he hi
      have hlt:i < c.length:=by omega
      refine EvB.step (fun k=>by rw[Fu.l0]) ?_
      refine EvB.pos (by omega) (EvB.pos (by omega) (EvB.pos (by omega) ?_))
      by_cases he2:rd c' (i:Int)=rd c (i:Int)
      · refine EvB.pos he2 ((l1 i hlt (ih (i + 1) (by omega) (by omega)) c.length 0 rfl (by omega)).congr ⟨fun z i' h1 h2=>?_,fun z=>⟨fun j' _ h2=>(z i (Nat.le_refl _) hlt).2 j' h2,fun i' h1 h2=>z i' (by omega) h2⟩⟩)
        by_cases e':i'=i
        · subst e';exact⟨he2,fun j hj=>z.1 j (by omega) hj⟩
        · exact z.2 i' (by omega) h2
      · exact EvB.neg he2 (EvB.ff (fun z=>he2 (z i (Nat.le_refl _) hlt).1))
  refine(l0 c.length 0 rfl (by omega)).congr ⟨fun z=>ext_book h h' hl (fun i hi=>z i (by omega) hi),fun z i' _ _=>?_⟩
  rw[z.1,z.2]
  exact⟨rfl,fun _ _=>rfl⟩
end
def made (c:List Int) (d:List (List Int)) (a0 a1 a2 a3:Int):Option (List Int × List (List Int)):=
  if a0=0/\(0<=a1/\a1 < (c.length:Int))/\a2=0/\0<=a3/\a3<=20 then some (c.set a1.toNat a3,d)
  else if a0=1/\(0<=a1/\a1 < (c.length:Int))/\(0<=a2/\a2 < (c.length:Int))/\a1≠a2/\0<=a3/\a3<=9 then some (c,d.set a1.toNat ((Jm d a1).set a2.toNat a3))
  else if a0=2/\a1=0/\a2=0/\a3=0 then some (c,netL c d)
  else if a0=3/\a1=0/\a2=0/\a3=0 then some (c,(without c d).1)
  else none
section
variable {c:List Int} {d:List (List Int)} {a0 a1 a2 a3:Int}
theorem cash_ok (h:BookP c d) (h1:0<=a1/\a1 < (c.length:Int)) (h2:0<=a3/\a3<=20):BookP (c.set a1.toNat a3) d:=by
  have hl:(c.set a1.toNat a3).length=c.length:=List.length_set
  refine⟨by rw[hl];exact h.1,by rw[hl];exact h.2.1,by rw[hl];exact h.2.2.1,fun i hi=>?_⟩
  rw[hl] at hi
  have hr:=h.2.2.2 i hi
  unfold RowP
  rw[hl,rd_set c a3 a1 (i:Int) h1.1 h1.2 (by omega)]
  refine⟨?_,?_,hr.2.2⟩
  · split
    · exact h2.1
    · exact hr.1
  · split
    · exact h2.2
    · exact hr.2.1
theorem debt_mk (h:BookP c d) (h1:0<=a1/\a1 < (c.length:Int)) (h2:0<=a2/\a2 < (c.length:Int)) (v:Int):d.set a1.toNat ((Jm d a1).set a2.toNat v)=mk c.length (fun i j=>if i=a1.toNat/\j=a2.toNat then v else db d i j):=by
  obtain⟨i,rfl⟩:=Int.eq_ofNat_of_zero_le h1.1
  obtain⟨j,rfl⟩:=Int.eq_ofNat_of_zero_le h2.1
  rw[Int.toNat_natCast,Int.toNat_natCast]
  have:=mk_set (n:=c.length) (i:=i) (j:=j) (f:=db d) (v:=v) (by omega) (by omega)
  rw[<- mk_of h] at this
  exact this
theorem mk_ok (h:BookP c d) (f:Nat->Nat->Int) (hf:∀i,i < c.length->f i i=0/\∀j,j < c.length->0<=f i j/\f i j<=9):BookP c (mk c.length f):=by
  refine⟨h.1,h.2.1,mk_len _ _,fun i hi=>?_⟩
  have hc:=h.2.2.2 i hi
  refine⟨hc.1,hc.2.1,?_,?_,fun j hj=>?_⟩
  · rw[mk_get hi,rowF_len]
  · rw[mk_get hi,rd_rowF hi];exact(hf i hi).1
  · rw[mk_get hi,rd_rowF hj];exact(hf i hi).2 j hj
theorem debt_ok (h:BookP c d) (h1:0<=a1/\a1 < (c.length:Int)) (h2:0<=a2/\a2 < (c.length:Int)) (hne:a1≠a2) (h3:0<=a3/\a3<=9):BookP c (d.set a1.toNat ((Jm d a1).set a2.toNat a3)):=by
  rw[debt_mk h h1 h2]
  refine mk_ok h _ (fun i hi=>⟨?_,fun j hj=>?_⟩)
  · rw[if_neg (fun z=>hne (by omega))]
    exact(h.2.2.2 i hi).2.2.2.1
  · have:=(h.2.2.2 i hi).2.2.2.2 j hj
    show 0<=(if i=a1.toNat/\j=a2.toNat then a3 else db d i j)/\(if i=a1.toNat/\j=a2.toNat then a3 else db d i j)<=9
    split
    · exact h3
    · exact this
theorem made_ok (h:BookP c d) {x:List Int × List (List Int)} (hm:made c d a0 a1 a2 a3=some x):BookP x.1 x.2/\x.1.length=c.length:=by
  unfold made at hm
  split at hm
  · next g=>obtain rfl:=Option.some.inj hm;exact⟨cash_ok h g.2.1 g.2.2.2,List.length_set⟩
  split at hm
  · next g=>obtain rfl:=Option.some.inj hm;exact⟨debt_ok h g.2.1 g.2.2.1 g.2.2.2.1 g.2.2.2.2,rfl⟩
  split at hm
  · obtain rfl:=Option.some.inj hm;exact⟨net_ok h,rfl⟩
  split at hm
  · obtain rfl:=Option.some.inj hm;exact⟨without_ok h,rfl⟩
  · cases hm
def Mp (c:List Int) (d:List (List Int)) (o:Option (List Int × List (List Int))) (g:Nat->Option (List Int × List (List Int) × Bool)):Prop:=
  ∃c' d' b,Ev g (c',d',b)/\(b=true ↔ ∃x,o=some x/\x≠(c,d))/\(b=true->o=some (c',d'))
theorem Mp.step {o:Option (List Int × List (List Int))} {g f:Nat->Option (List Int × List (List Int) × Bool)} (e:∀k,g (k + 1)=f k) (h:Mp c d o f):Mp c d o g:=by
  obtain⟨c',d',b,h1,h2⟩:=h
  exact⟨c',d',b,Ev.step e h1,h2⟩
theorem Mp.pos {o:Option (List Int × List (List Int))} {p:Prop} [Decidable p] {g f:Nat->Option (List Int × List (List Int) × Bool)} (hp:p) (h:Mp c d o g):Mp c d o (fun k=>if p then g k else f k):=by
  obtain⟨c',d',b,h1,h2⟩:=h
  exact⟨c',d',b,evPos hp h1,h2⟩
theorem Mp.neg {o:Option (List Int × List (List Int))} {p:Prop} [Decidable p] {g f:Nat->Option (List Int × List (List Int) × Bool)} (hp:¬ p) (h:Mp c d o f):Mp c d o (fun k=>if p then g k else f k):=by
  obtain⟨c',d',b,h1,h2⟩:=h
  exact⟨c',d',b,evNeg hp h1,h2⟩
theorem Mp.bind {β:Type} {o:Option (List Int × List (List Int))} {g:Nat->Option β} {f:Nat->β->Option (List Int × List (List Int) × Bool)} {a:β} (e:Ev g a) (h:Mp c d o (fun k=>f k a)):Mp c d o (fun k=>(g k).bind (f k)):=by
  obtain⟨c',d',b,h1,h2⟩:=h
  exact⟨c',d',b,Ev.bind e h1,h2⟩
theorem Mp.bind0 {β:Type} {o:Option (List Int × List (List Int))} {g:Option β} {f:Nat->β->Option (List Int × List (List Int) × Bool)} {a:β} (e:g=some a) (h:Mp c d o (fun k=>f k a)):Mp c d o (fun k=>g.bind (f k)):=by
  obtain⟨c',d',b,h1,h2⟩:=h
  exact⟨c',d',b,evBind0 e h1,h2⟩
theorem Mp.fin (h:BookP c d) {c':List Int} {d':List (List Int)} (h':BookP c' d') (hl:c'.length=c.length):Mp c d (some (c',d')) (fun k=>(Fu.f k c' d' c d).bind fun t=>(some (c',d', !t))):=by
  obtain⟨b,hb,he⟩:=same h h' hl
  refine⟨c',d', !b,Ev.bind he (Ev.now _),?_,fun _=>rfl⟩
  constructor
  · intro z
    refine⟨_,rfl,fun e=>?_⟩
    have:b=true:=hb.2 (by simpa using e)
    rw[this] at z;simp at z
  · rintro⟨x,hx,hne⟩
    obtain rfl:=Option.some.inj hx
    have:¬ b=true:=fun z=>hne (by have:=hb.1 z;rw[this.1,this.2])
    simpa using this
theorem Mp.none_:Mp c d none (fun _=>some ([],[],false)):=⟨[],[],false,Ev.now _,by simp,by simp⟩
theorem j1f (h:BookP c d) (h01:¬ (a0=0/\(0<=a1/\a1 < (c.length:Int))/\a2=0/\0<=a3/\a3<=20)) (h02:¬ (a0=1/\(0<=a1/\a1 < (c.length:Int))/\(0<=a2/\a2 < (c.length:Int))/\a1≠a2/\0<=a3/\a3<=9)) :
    Mp c d (made c d a0 a1 a2 a3) (fun k=>Fq.j1 k false c d a0 a1 a2 a3 c d):=by
  refine Mp.step (fun k=>by rw[Fq.j1]) ?_
  refine Mp.neg (by decide) ?_
  unfold made
  rw[if_neg h01,if_neg h02]
  by_cases g2:a0=2/\a1=0/\a2=0/\a3=0
  · rw[if_pos g2]
    refine Mp.pos (by simp[g2]) (Mp.bind (sNetted c d) ?_)
    rw[if_pos h]
    exact Mp.fin h (net_ok h) rfl
  rw[if_neg g2]
  refine Mp.neg (by simpa using g2) ?_
  by_cases g3:a0=3/\a1=0/\a2=0/\a3=0
  · rw[if_pos g3]
    refine Mp.pos (by simp[g3]) (Mp.bind (sWithout c d) ?_)
    rw[if_pos h]
    exact Mp.fin h (without_ok h) rfl
  rw[if_neg g3]
  exact Mp.neg (by simpa using g3) Mp.none_
theorem j0f (h:BookP c d) (h01:¬ (a0=0/\(0<=a1/\a1 < (c.length:Int))/\a2=0/\0<=a3/\a3<=20)) :
    Mp c d (made c d a0 a1 a2 a3) (fun k=>Fq.j0 k (c.length:Int) false c d a0 a1 a2 a3 c d):=by
  have h4:=h.2.1
  have h1l:=h.1
  have hdl:=h.2.2.1
  have hw:G7 (wrap64 ((c.length:Int) - 1)=(c.length:Int) - 1):=⟨w64 (by omega) (by omega)⟩
  refine Mp.step (fun k=>by rw[Fq.j0]) ?_
  rw[hw.out]
  refine Mp.neg (by decide) ?_
  by_cases k1:a0=1
  · refine Mp.pos k1 (Mp.bind0 (sIn _ _ _) ?_)
    by_cases k2:0<=a1/\a1<=(c.length:Int) - 1
    · refine Mp.pos (decide_eq_true k2) (Mp.bind0 (sIn _ _ _) ?_)
      by_cases k3:0<=a2/\a2<=(c.length:Int) - 1
      · refine Mp.pos (decide_eq_true k3) ?_
        by_cases k4:a1=a2
        · exact Mp.pos k4 (j1f h h01 (fun z=>z.2.2.2.1 k4))
        · refine Mp.neg k4 (Mp.bind0 (sIn _ _ _) ?_)
          by_cases k5:0<=a3/\a3<=9
          · rw[decide_eq_true k5]
            refine Mp.step (fun k=>by rw[Fq.j1]) ?_
            have hrl:=(CrE.row_len h (i:=a1) ⟨by omega,by omega⟩)
            refine Mp.pos rfl (Mp.pos (by omega) (Mp.pos (by omega) (Mp.pos (by omega) (Mp.pos (by omega) (Mp.bind0 rfl ?_)))))
            unfold made
            rw[if_neg h01,if_pos ⟨k1,⟨by omega,by omega⟩,⟨by omega,by omega⟩,k4,k5⟩]
            exact Mp.fin h (debt_ok h ⟨by omega,by omega⟩ ⟨by omega,by omega⟩ k4 k5) rfl
          · rw[decide_eq_false k5]
            exact j1f h h01 (fun z=>k5 z.2.2.2.2)
      · exact Mp.neg (by simpa using k3) (j1f h h01 (fun z=>k3 ⟨by omega,by omega⟩))
    · exact Mp.neg (by simpa using k2) (j1f h h01 (fun z=>k2 ⟨by omega,by omega⟩))
  · exact Mp.neg k1 (j1f h h01 (fun z=>k1 z.1))
theorem sMade (h:BookP c d):Mp c d (made c d a0 a1 a2 a3) (fun k=>Fq.f k c d a0 a1 a2 a3):=by
  have h4:=h.2.1
  have h1l:=h.1
  have hw:G7 (wrap64 ((c.length:Int) - 1)=(c.length:Int) - 1):=⟨w64 (by omega) (by omega)⟩
  unfold Fq.f
  refine Mp.bind (scopy h) ?_
  by_cases k1:a0=0
  · refine Mp.pos k1 ?_
    rw[hw.out]
    refine Mp.bind0 (sIn _ _ _) ?_
    by_cases k2:0<=a1/\a1<=(c.length:Int) - 1
    · refine Mp.pos (decide_eq_true k2) ?_
      by_cases k3:a2=0
      · refine Mp.pos k3 (Mp.bind0 (sIn _ _ _) ?_)
        by_cases k4:0<=a3/\a3<=20
        · rw[decide_eq_true k4]
          refine Mp.step (fun k=>by rw[Fq.j0]) ?_
          refine Mp.pos rfl (Mp.pos (by omega) (Mp.pos (by show a1 < (c.length:Int);omega) (Mp.bind0 rfl ?_)))
          unfold made
          rw[if_pos ⟨k1,⟨by omega,by omega⟩,k3,k4⟩]
          exact Mp.fin h (cash_ok h ⟨by omega,by omega⟩ k4) List.length_set
        · rw[decide_eq_false k4]
          exact j0f h (fun z=>k4 z.2.2.2)
      · exact Mp.neg k3 (j0f h (fun z=>k3 z.2.2.1))
    · exact Mp.neg (by simpa using k2) (j0f h (fun z=>k2 ⟨by omega,by omega⟩))
  · exact Mp.neg k1 (j0f h (fun z=>k1 z.1))
end
section
variable {c:List Int} {d:List (List Int)} {ps:List B} {a0 a1 a2 a3:Int}
theorem sDcopy (h:DeskP c d ps):Ev (fun k=>Fm.f k c d ps) (c,d,ps):=by
  unfold Fm.f
  refine Ev.bind (scopy h.1) ?_
  have h8:=h.2.1
  have key:∀(e i:Nat),ps.length - i=e->i<=ps.length->Ev (fun k=>Fm.l0 k (i:Int) c d ps c d (ps.take i)) (c,d,ps):=by
    intro e
    induction e with
    | zero=>
      intro i he hi
      obtain rfl:i=ps.length:=by omega
      refine Ev.step (fun k=>by rw[Fm.l0]) ?_
      rw[List.take_length]
      exact evNeg (by omega) (Ev.now _)
    | succ e ih=>
      intro i he hi
      have hlt:i < ps.length:=by omega
      have hs:G7 (wrap64 ((i:Int) + 1)=((i + 1:Nat):Int)):=⟨wsucc hlt (by omega)⟩
      have htl:(ps.take i).length=i:=by rw[List.length_take];omega
      have hmem:Jn ps (i:Int) ∈ ps:=by rw[rT];exact getD_mem _ ps i hlt
      have e2:ps.take i ++ [Jn ps (i:Int)]=ps.take (i + 1):=by
        rw[rT,List.getD_eq_getElem?_getD,List.getElem?_eq_getElem hlt,List.take_succ_eq_append_getElem hlt];rfl
      refine Ev.step (fun k=>by rw[Fm.l0]) ?_
      rw[hs.out]
      refine evPos (by omega) (evPos (by omega) (Ev.bind (scopy (h.2.2 _ hmem).1) (evPos (by omega) ?_)))
      show Ev (fun k=>Fm.l0 k ((i + 1:Nat):Int) c d ps c d (ps.take i ++ [Jn ps (i:Int)])) _
      rw[e2]
      exact ih (i + 1) (by omega) (by omega)
  exact key ps.length 0 rfl (by omega)
def push (c:List Int) (d:List (List Int)) (ps:List B):List B:=if ps.length + 1 > 8 then(ps ++ [(⟨c,d⟩:B)]).drop 1 else ps ++ [(⟨c,d⟩:B)]
open Classical in
noncomputable def dd (c:List Int) (d:List (List Int)) (ps:List B) (a0 a1 a2 a3:Int):List Int × List (List Int) × List B × Bool:=
  if DeskP c d ps then
    (if (a0=4/\a1=0/\a2=0/\a3=0)/\0 < ps.length then((Jn ps ((ps.length - 1:Nat):Int)).f0,(Jn ps ((ps.length - 1:Nat):Int)).f1,ps.take (ps.length - 1),true)
    else if made c d a0 a1 a2 a3=none ∨ made c d a0 a1 a2 a3=some (c,d) then(c,d,ps,false)
    else(((made c d a0 a1 a2 a3).getD (c,d)).1,((made c d a0 a1 a2 a3).getD (c,d)).2,push c d ps,true))
  else([],[],[],false)
theorem sDo (hp:ps.length<=4611686018427387904):Ev (fun k=>Gy.f k c d ps a0 a1 a2 a3) (dd c d ps a0 a1 a2 a3):=by
  unfold Gy.f dd
  have eA:((a0 == 4 && (a1 == 0 && (a2 == 0 && (a3 == 0))))=true)=(a0=4/\a1=0/\a2=0/\a3=0):=by simp
  by_cases h:DeskP c d ps
  · rw[if_pos h]
    have h8:=h.2.1
    by_cases hb:(a0=4/\a1=0/\a2=0/\a3=0)/\0 < ps.length
    · rw[if_pos hb]
      refine evPos (by rw[eA];exact hb) (Ev.bind ((deskOk c d ps hp).yes h) (evPos rfl (Ev.bind (sDcopy h) ?_)))
      exact evPos ⟨by show 0 < ps.length;exact hb.2,by show ps.length < 2932031007402;omega⟩ (Ev.now _)
    · rw[if_neg hb]
      refine evNeg (by rw[eA];exact hb) ?_
      unfold Gl.f
      refine Ev.bind ((deskOk c d ps hp).yes h) (evPos rfl (Ev.bind (sDcopy h) ?_))
      have key:Ev (fun k=>Gl.j0 k false c d ps a0 a1 a2 a3 c d ps) (if made c d a0 a1 a2 a3=none ∨ made c d a0 a1 a2 a3=some (c,d) then(c,d,ps,false) else(((made c d a0 a1 a2 a3).getD (c,d)).1,((made c d a0 a1 a2 a3).getD (c,d)).2,push c d ps,true)):=by
        obtain⟨c',d',b,h1,h2,h3⟩:=sMade (a0:=a0) (a1:=a1) (a2:=a2) (a3:=a3) h.1
        refine Ev.step (fun k=>by rw[Gl.j0]) ?_
        refine evNeg (by decide) (Ev.bind h1 ?_)
        by_cases hbt:b=true
        · have hm:=h3 hbt
          obtain⟨x,hx,hne⟩:=h2.1 hbt
          rw[hm] at hx
          obtain rfl:=Option.some.inj hx
          have hR:(if made c d a0 a1 a2 a3=none ∨ made c d a0 a1 a2 a3=some (c,d) then(c,d,ps,false) else(((made c d a0 a1 a2 a3).getD (c,d)).1,((made c d a0 a1 a2 a3).getD (c,d)).2,push c d ps,true))=(c',d',push c d ps,true):=by
            rw[hm]
            exact if_neg (fun z=>z.elim (fun z=>by cases z) (fun z=>hne (Option.some.inj z)))
          rw[hR]
          refine evPos hbt (evPos (by omega) (evBind0 rfl ?_))
          have hlen:(ps ++ [(⟨c,d⟩:B)]).length=ps.length + 1:=by simp
          unfold push
          by_cases h9:ps.length + 1 > 8
          · rw[if_pos h9]
            exact evPos (by omega) (evPos (by omega) (Ev.now _))
          · rw[if_neg h9]
            exact evNeg (by omega) (Ev.now _)
        · have hR:(if made c d a0 a1 a2 a3=none ∨ made c d a0 a1 a2 a3=some (c,d) then(c,d,ps,false) else(((made c d a0 a1 a2 a3).getD (c,d)).1,((made c d a0 a1 a2 a3).getD (c,d)).2,push c d ps,true))=(c,d,ps,false):=by
            refine if_pos ?_
            cases hm:made c d a0 a1 a2 a3 with
            | none=>exact .inl rfl
            | some x=>
              right
              apply Classical.byContradiction
              intro hne
              exact hbt (h2.2 ⟨x,hm,fun e=>hne (by rw[e])⟩)
          rw[hR]
          exact evNeg hbt (Ev.now _)
      by_cases hA:a0=4/\a1=0/\a2=0/\a3=0
      · have hz:decide ((ps.length:Int) > 0)=false:=decide_eq_false (fun z=>hb ⟨hA,by omega⟩)
        refine evPos (by rw[eA];exact hA) ?_
        rw[hz]
        exact key
      · exact evNeg (by rw[eA];exact hA) key
  · rw[if_neg h]
    by_cases hb:(a0=4/\a1=0/\a2=0/\a3=0)/\0 < ps.length
    · exact evPos (by rw[eA];exact hb) (Ev.bind ((deskOk c d ps hp).no h) (evNeg (by decide) (Ev.now _)))
    · refine evNeg (by rw[eA];exact hb) ?_
      unfold Gl.f
      exact Ev.bind ((deskOk c d ps hp).no h) (evNeg (by decide) (Ev.now _))
theorem push_len (h8:ps.length<=8):(push c d ps).length<=8/\(push c d ps).length<=ps.length + 1:=by
  unfold push
  split
  · simp;omega
  · simp;omega
theorem push_mem {x:B} (h:x ∈ push c d ps):x ∈ ps ∨ x=⟨c,d⟩:=by
  unfold push at h
  split at h
  · have:=List.mem_of_mem_drop h
    simpa using this
  · simpa using h
theorem dd_ok (h:DeskP c d ps):DeskP (dd c d ps a0 a1 a2 a3).1 (dd c d ps a0 a1 a2 a3).2.1 (dd c d ps a0 a1 a2 a3).2.2.1/\(dd c d ps a0 a1 a2 a3).1.length=c.length/\(dd c d ps a0 a1 a2 a3).2.2.1.length<=ps.length + 1:=by
  have h8:=h.2.1
  unfold dd
  rw[if_pos h]
  split
  · next hb=>
    have hmem:Jn ps ((ps.length - 1:Nat):Int) ∈ ps:=by rw[rT];exact getD_mem _ ps _ (by omega)
    have hk:=h.2.2 _ hmem
    refine⟨⟨hk.1,by simp;omega,fun x hx=>?_⟩,hk.2,by simp;omega⟩
    have:=h.2.2 x (List.mem_of_mem_take hx)
    exact⟨this.1,by rw[this.2,hk.2]⟩
  split
  · exact⟨h,rfl,by show ps.length<=_;omega⟩
  · next hm=>
    have hl:=push_len (c:=c) (d:=d) h8
    cases hq:made c d a0 a1 a2 a3 with
    | none=>exact absurd (.inl hq) hm
    | some x=>
      have hx:=made_ok h.1 hq
      refine⟨⟨hx.1,hl.1,fun y hy=>?_⟩,hx.2,hl.2⟩
      rcases push_mem hy with hy|rfl
      · have:=h.2.2 y hy
        exact⟨this.1,by rw[this.2];exact hx.2.symm⟩
      · exact⟨h.1,hx.2.symm⟩
end
end Go.Proofs.Ytfooakkhkehpiaa.DdE
namespace Go.Proofs.Ytfooakkhkehpiaa.NeE
open Go.RowKit Go.Proofs.Ytfooakkhkehpiaa.PE Go.Proofs.Ytfooakkhkehpiaa.Qh Go.Proofs.Ytfooakkhkehpiaa.BkE Go.Proofs.Ytfooakkhkehpiaa.MxE Go.Proofs.Ytfooakkhkehpiaa.OwE Go.Proofs.YtfooakkhkehpiaaW.PrintWords Go.Proofs.YtfooakkhkehpiaaW.PrintMore
set_option linter.unusedVariables false
set_option linter.unusedSimpArgs false
variable {c:List Int} {d:List (List Int)}
def cs (d:List (List Int)):Nat->Nat->Int
  | 0,_=>0
  | i + 1,j=>cs d i j + db d i j
end Go.Proofs.Ytfooakkhkehpiaa.NeE
namespace Go.Proofs.Ytfooakkhkehpiaa.SiE
open Go.RowKit Go.Proofs.Ytfooakkhkehpiaa.PE Go.Proofs.Ytfooakkhkehpiaa.Qh Go.Proofs.Ytfooakkhkehpiaa.BkE Go.Proofs.Ytfooakkhkehpiaa.MxE Go.Proofs.Ytfooakkhkehpiaa.CrE Go.Proofs.Ytfooakkhkehpiaa.SkE Go.Proofs.YtfooakkhkehpiaaW.PrintWords Go.Proofs.YtfooakkhkehpiaaW.PrintMore
set_option linter.unusedVariables false
set_option linter.unusedSimpArgs false
variable {c:List Int} {d:List (List Int)} {q:List Int}
theorem is_l0 (h:BookP c d) (hq:CirP c.length d q) {r:List Int × List (List Int)} (hR:Ev (fun k=>Fj.l1 k q (lowest d q) q (q.length:Int) 0 c d) r):∀(e k:Nat) (x:Int),q.length - k=e->k<=q.length->low d q e k x=lowest d q->Ev (fun n=>Fj.l0 n q x q (q.length:Int) (k:Int) c d c d) r:=by
  have h4:=h.2.1
  have hdl:=h.2.2.1
  have hql:=hq.1.len
  have hq0:=hq.1.1
  intro e
  induction e with
  | zero=>
    intro k x he hk hx
    refine Ev.step (fun n=>by rw[Fj.l0]) ?_
    refine evNeg (by omega) ?_
    rw[low] at hx
    rw[hx]
    exact hR
  | succ e ih=>
    intro k x he hk hx
    have hlt:k < q.length:=by omega
    have hk1:G7 (wrap64 ((k:Int) + 1)=((k + 1:Nat):Int)):=⟨ki q k hlt (by omega)⟩
    have htm:G7 (Int.tmod ((k + 1:Nat):Int) (q.length:Int)=((nx q k:Nat):Int)):=⟨tm q k⟩
    have a1:=cir_at hq hlt
    have a2:=cir_at hq (nx_lt hq0 k)
    have hn:=nx_lt hq0 k
    have hrl:=row_len h a1
    refine Ev.step (fun n=>by rw[Fj.l0]) ?_
    rw[hk1.out,htm.out]
    refine evPos (by omega) (evPos (by omega) (evPos (by omega) (evPos a1.1 (evPos (by omega) (evNeg (by omega) (evPos (by omega) (evPos (by omega) (evPos a2.1 (evPos (by omega) ?_)))))))))
    exact ih (k + 1) _ (by omega) (by omega) (by rw[low] at hx;exact hx)
theorem is_l1 (h:BookP c d) (hq:CirP c.length d q):∀(e k:Nat),q.length - k=e->k<=q.length->Ev (fun n=>Fj.l1 n q (lowest d q) q (q.length:Int) (k:Int) c (mk c.length (SkE.part d q k))) (c,struck c d q):=by
  have h4:=h.2.1
  have hdl:=h.2.2.1
  have hql:=hq.1.len
  have hq0:=hq.1.1
  intro e
  induction e with
  | zero=>
    intro k he hk
    refine Ev.step (fun n=>by rw[Fj.l1]) ?_
    have:k=q.length:=by omega
    subst this
    exact evNeg (by omega) (Ev.now _)
  | succ e ih=>
    intro k he hk
    have hlt:k < q.length:=by omega
    have hk1:G7 (wrap64 ((k:Int) + 1)=((k + 1:Nat):Int)):=⟨ki q k hlt (by omega)⟩
    have htm:G7 (Int.tmod ((k + 1:Nat):Int) (q.length:Int)=((nx q k:Nat):Int)):=⟨tm q k⟩
    have a1:=cir_at hq hlt
    have a2:=cir_at hq (nx_lt hq0 k)
    have hn:=nx_lt hq0 k
    have hml:=mk_len c.length (SkE.part d q k)
    have hle:=lowest_le hq hlt
    have hlp:=lowest_pos hq
    have hee:=edge_le h hq hlt
    obtain⟨a,ha⟩:=Int.eq_ofNat_of_zero_le a1.1
    obtain⟨b,hb⟩:=Int.eq_ofNat_of_zero_le a2.1
    have hac:a < c.length:=by omega
    have hbc:b < c.length:=by omega
    have hmr:(Jm (mk c.length (SkE.part d q k)) (rd q (k:Int))).length=c.length:=by rw[ha,mk_get hac,rowF_len]
    have hnot:¬ hit q k a b=true:=fun z=>by
      obtain⟨k',h1,h2,_⟩:=hit_iff.1 z
      have:=cir_inj hq (show k' < q.length by omega) hlt (by rw[h2,ha])
      omega
    have hw:G7 (wrap64 (rd (Jm (mk c.length (SkE.part d q k)) (rd q (k:Int))) (rd q ((nx q k:Nat):Int)) - lowest d q)=db d a b - lowest d q):=⟨by
      have e2:edge d q k=db d a b:=by unfold edge;rw[ha,hb]
      rw[ha,hb,mk_get hac,rd_rowF hbc]
      have e3:SkE.part d q k a b=db d a b:=if_neg hnot
      rw[e3, <- e2,w64 (by omega) (by omega)]⟩
    refine Ev.step (fun n=>by rw[Fj.l1]) ?_
    rw[hk1.out,htm.out]
    refine evPos (by omega) (evPos (by omega) (evPos (by omega) (evPos a1.1 (evPos (by omega) (evNeg (by omega) (evPos (by omega) (evPos (by omega) (evPos a2.1 (evPos (by omega) ?_)))))))))
    rw[hw.out,ha,hb,Int.toNat_natCast,Int.toNat_natCast,mk_set hac hbc]
    have:mk c.length (fun i' j'=>if i'=a/\j'=b then db d a b - lowest d q else SkE.part d q k i' j')=mk c.length (SkE.part d q (k + 1)):=mk_congr (fun i hi j hj=>by
      by_cases z:i=a/\j=b
      · rw[if_pos z]
        unfold SkE.part
        rw[if_pos (hit_iff.2 ⟨k,by omega,by rw[ha,z.1],by rw[hb,z.2]⟩),z.1,z.2]
      · rw[if_neg z]
        unfold SkE.part
        have:hit q (k + 1) i j=hit q k i j:=by
          rw[Bool.eq_iff_iff,hit_iff,hit_iff]
          constructor
          · rintro⟨k',h1,h2,h3⟩
            by_cases e':k'=k
            · subst e'
              rw[ha] at h2;rw[hb] at h3
              exact absurd ⟨by omega,by omega⟩ z
            · exact⟨k',by omega,h2,h3⟩
          · rintro⟨k',h1,h2⟩
            exact⟨k',by omega,h2⟩
        rw[this])
    rw[this]
    exact ih (k + 1) (by omega) (by omega)
theorem iStruck (h:BookP c d) (hq:CirP c.length d q):Ev (fun k=>Fj.f k c d q) (c,struck c d q):=by
  unfold Fj.f
  refine Ev.bind (icopy h) (is_l0 h hq ?_ q.length 0 9 rfl (by omega) rfl)
  have:=is_l1 h hq q.length 0 rfl (by omega)
  have e:mk c.length (SkE.part d q 0)=d:=(mk_congr (fun i _ j _=>by unfold SkE.part hit;simp)).trans (mk_of h).symm
  rw[e] at this
  exact this
end Go.Proofs.Ytfooakkhkehpiaa.SiE
