/- FnExactDeskRun: for every input the law holds, and each argument reads as it read before. No condition. -/
import Derived.Test.YtfooakkhkehpiaaZFnExactDeskRun1
import Derived.Test.YtfooakkhkehpiaaZFnExactDeskRun2
import Derived.Test.YtfooakkhkehpiaaZFnExactDeskRun3
import Derived.Test.YtfooakkhkehpiaaZFnExactDeskRun4
namespace Go.Proofs.Ytfooakkhkehpiaa.PE
open Go.RowKit Go.Proofs.YtfooakkhkehpiaaW.PrintWords Go.Proofs.YtfooakkhkehpiaaW.PrintLast Go.Proofs.YtfooakkhkehpiaaW.PrintMore Go.Proofs.Ytfooakkhkehpiaa.Qe
attribute [local go_sem] max2_int min2_int max_two min_two max_three min_three max_four min_four
set_option linter.unusedVariables false
set_option linter.unusedSimpArgs false
def F2.l0:Nat->List (S40)->List (S25)->Int->Option ((List (S25)))
 | 0,_,_,_=>none
 | k + 1,x0,x3,x4=>if x4 < (x0.length:Int) then(if 0<=x4 then((G7.f k ((rd_T40 x0 x4).f0) ((rd_T40 x0 x4).f1)).bind fun bt175=>(if x4 < (x3.length:Int) then(F2.l0 k x0 (x3.set (x4:Int).toNat (⟨bt175.1,bt175.2⟩:S25)) (wrap64 (x4 + 1))) else(none))) else(none)) else(some x3)
def F2.f (k:Nat) (l0:List (S40)):Option ((List (S25))):=if 0<=(l0.length:Int) then(if ((l0.length:Int):Int).toNat<=5864062014805 then(F2.l0 k l0 (List.replicate ((l0.length:Int):Int).toNat z25) 0) else(none)) else(none)
theorem F2.calls_s_q0 {p:Prop} (h:p:=by repeat(first|(with_reducible first|exact HB.out|apply Jk|apply Jj|apply Ji)|exact HB.out)):p:=h
set_option maxHeartbeats 8000000 in
set_option maxRecDepth 100000 in
theorem F2.calls_s (k:Nat) (A0:Option Addr) (c0:Nat) (l0:List (S40)) (r:List (S25)) (w:World) (fa:Kd.C k40 w A0 l0.length l0) (ec:l0.length<=c0) (h:F2.f k l0=some r) :
  Calls Try.prog 76 #[.slice A0 l0.length c0] w fun e w'=>∃v0_:Value,e = .returned (v0_)/\Kd.S k25s 25 w' w.heap.size (fun _=>True) v0_ r/\Below w.heap.size w w':=by
 have hu40:=Try.underlying40
 have hu25:=Try.underlying25
 have fp:=A_ fa
 have op:=A_ ec
 clear fa ec
 have HB:=A_ (Below.refl w.heap.size w)
 have H:=h
 unfold F2.f at H
 clear h
 obtain⟨c2,H⟩:=pos_ H
 have bn2:=eq_true c2
 have cl2:=decide_eq_true c2
 clear c2
 obtain⟨c3,H⟩:=pos_ H
 have gj:=eq_true c3
 have ny:=decide_eq_true c3
 clear c3
 obtain⟨hs1,hyq⟩:∃y_:List (S25),y_=(List.replicate ((l0.length:Int):Int).toNat z25):=⟨_,rfl⟩
 replace H:(F2.l0 k l0 hs1 0)=some r:=qh_
 have hs2:=A_ hyq
 clear hyq
 have H':=A_ H
 clear H
 go_enter Try.func76,Try.ntmps76
 go_wp2_with (first|((with_reducible refine gd_ 7 ?_);refine Kd.S_make k25s _ 25 rfl (N:=7) rfl 26 _ _ rfl (l0.length:Int) rfl rfl Try.underlying26 (.agg #[(.slice none 0 0),(.slice none 0 0)]) 48 info25 rfl (by decide) (by omega) z25 (ok:=fun _=>True) (okp:=fun _=>True) (k25s_mkM _ _ _ z25 (Kd.R_nil _ _ _ _ _) (Kd.S_nil _ _ _ _ _)) (fun _ hk=>hk) trivial (od_) (Nat.le_trans (Nat.mul_le_mul_right _ (od_:(l0.length:Int).toNat<=5864062014805)) (by omega)) (Below.refl _ _) (Nat.le_refl _) ?_;intro ka0 w4 kh hb hg_ hnew_;clear hg_ hnew_;(first|rw[<- hs2.out] at kh|(simp only[Int.reduceToNat] at kh;rw[<- hs2.out] at kh));have ka1:=A_ (Kd.S_lower kh (Je (F2.calls_s_q0)));replace HB:=A_ (Jw (F2.calls_s_q0) hb);clear hb kh))
 go_loopg [4] k (fun kq v4 w'=>∃(ci:List (S25)) (ar:Int),v4 = .int .i64 ar/\Jc (F2.l0 kq l0 ci ar=some r)/\Jc (kq<=k)/\Jc (Kd.S k25s 25 w' w.heap.size (fun _=>True) ka0 ci)/\Jc (Below w.heap.size w w'))
 case atStart=>exact⟨(hs1),(0),(g3_),H',⟨Nat.le_refl _⟩,⟨uS_ ka1⟩,⟨F2.calls_s_q0⟩⟩
 clear H'
 obtain⟨ci,ar,rfl,HA,HK1,a8,HB⟩:=hrel
 cases gk with
 | zero=>exact absurd HA.out (by simp[F2.l0])
 | succ k1=>?_
 have H:=HA.out
 clear HA
 simp only[F2.l0] at H
 by_cases c6:ar < (l0.length:Int)
 case neg=>
  rw[if_neg c6] at H
  have kf:=decide_eq_false c6
  clear c6
  obtain rfl:=Option.some.inj H
  go_wp2
  go_ret
  exact⟨_,g4_,uS_ a8,F2.calls_s_q0⟩
 rw[if_pos c6] at H
 have kf:=decide_eq_true c6
 clear c6
 obtain⟨pz,H⟩:=pd_ H
 replace H:=Option.bind_eq_some_iff.mp H
 obtain⟨⟨et3,et4⟩,A80,H⟩:=H
 try dsimp only at H
 have A8:=A_ A80
 clear A80
 obtain⟨xg,H⟩:=pd_ H
 obtain⟨fw5,hyq⟩:∃y_:List (S25),y_=(ci.set (ar:Int).toNat (⟨et3,et4⟩:S25)):=⟨_,rfl⟩
 replace H:(F2.l0 k1 l0 fw5 (wrap64 (ar + 1)))=some r:=qh_
 have ka2:=A_ hyq
 clear hyq
 have H':=A_ H
 clear H
 obtain⟨⟨ni0,ka3,ka4,ka5,ka6,ka7,hs3,hs4,hs5,hs6,hs7,hs8⟩,fw6,fw7⟩:=rdp_ (at_T40 fp.out ar)
 cases ka7
 replace hs3:=cl_ HB hs3
 replace hs4:=cl_ HB hs4
 have ka8:=A_ hs6
 have ka9:=A_ hs5
 clear hs6 hs5
 have kb0:=A_ hs8
 have kb1:=A_ hs7
 clear hs8 hs7
 go_wp2_with (first|((with_reducible refine gc_ 33 ?_);refine gl_ 20 Try.func33 #[.agg #[.slice ka3 ((rd_T40 l0 ar).f0).length ka4, .slice ka5 ((rd_T40 l0 ar).f1).length ka6]] ?_;(refine(G7.calls k1 _ _ ((rd_T40 l0 ar).f0) _ _ ((rd_T40 l0 ar).f1) et3 et4 _ (uC_ ka8) ka9.out (uC_ kb0) kb1.out A8.out).mono ?_);rintro e g8 ⟨dw3,fw8,rfl,ai,ak,hb⟩;refine⟨_,rfl,?_⟩;have hs0_:=Kd.R_lower (Kd.R_mono (Kd.R_bound ai) (fun _ hk=>hk.2.1)) (Je (F2.calls_s_q0));have hs1_:=Kd.S_lower (Kd.S_mono (Kd.S_bound ak) (fun _ hk=>(⟨hk.2.1,hk.1⟩:_/\some _≠(dw3:Value).ownBlock))) (Je (F2.calls_s_q0));have n0_:=A_ (Kd.S_old (uS_ a8) hb);obtain⟨NB,n0_,hs0_,hs1_⟩:∃NB:Nat,Jc (Kd.S k25s 25 g8 w.heap.size (fun k_=>True/\k_ < NB) _ _)/\Kd.R (Kd.int .i64) 3 g8 w.heap.size (fun k_=>NB<=k_) dw3 _/\Kd.S (Kd.slice 3 (Kd.int .i64)) 22 g8 w.heap.size (fun k_=>NB<=k_/\some k_≠(dw3:Value).ownBlock) fw8 _:=⟨_,n0_,hs0_,hs1_⟩;have n1_:=A_ hs0_;have n2_:=A_ hs1_;clear hs0_ hs1_;have n3_:=A_ (Jw (F2.calls_s_q0) hb);clear a8;clear HB;have a8:=n0_;have fw9:=n1_;have fx0:=n2_;have HB:=n3_;clear n0_ n1_ n2_ n3_;have p10:0<=(ar:Int):=od_;have q10:(ar:Int) < ((ci.length:Int):Int):=od_;obtain⟨l5,gl,yu,by6,gl10,cl10,HG10⟩:=Kd.S_form a8.out (by omega);(first|cases yu|(injection yu with ea_ en_ ec_;(first|subst ea_|(injection ea_ with ea_;subst ea_));subst ec_;clear en_));have GB10:=A_ by6;have GG10:=A_ HG10;clear by6 gl10 HG10;obtain⟨_,ce10,hcl10,hM10,hcc10,hfr10,_,_⟩:=Kd.S_elem a8.out z25 (ar:Int) p10 q10;obtain⟨ve10_0,ve10_1,rfl,ge10_0,ge10_1⟩:=hM10;have dv9:g8.cell? ⟨l5,(ar:Int).toNat * 2,none⟩=some (ve10_0):=hcc10 0 _ rfl;have kb2:g8.cell? ⟨l5,(ar:Int).toNat * 2 + 1,none⟩=some (ve10_1):=hcc10 1 _ rfl;have hf10_0:g8.frozen? ⟨l5,(ar:Int).toNat * 2,none⟩=false:=hfr10 0;have hf10_1:g8.frozen? ⟨l5,(ar:Int).toNat * 2 + 1,none⟩=false:=hfr10 1;replace p10:=eq_true p10;replace q10:=eq_true q10;have hgo_:l5 < NB:=((Kd.S_R a8.out).1 l5 rfl).2;have HX12:=A_ (show Kd.S k25s 25 g8 w.heap.size (fun k_=>((fun _=>True)) k_/\¬ ((fun k_=>NB<=k_)) k_) (.slice (some ⟨l5,0,none⟩) ci.length gl) ci from(by(with_reducible repeat(first|apply Kd.S_alloc|apply Kd.S_drewN|apply Kd.S_drew));exact Kd.S_mono a8.out (fun k_ hk=>⟨trivial,Nat.not_le.2 hk.2⟩)));obtain⟨_,ce12,hcl12,hM12,hcc12,hfr12,hok12,hH12⟩:=Kd.S_elem HX12.out z25 (ar:Int) (od_) (by have h_:(ar:Int) < ((ci.length:Int):Int):=od_;first|exact h_|(have e_:=(Kd.S_reads' a8.out).1;omega)|simpa using h_);obtain⟨ve12_0,ve12_1,rfl,ge12_0,ge12_1⟩:=hM12;have HP12:=Kd.S_seg hH12 (od_) (by have h_:(ar:Int) < ((ci.length:Int):Int):=od_;first|exact h_|(have e_:=(Kd.S_reads' a8.out).1;omega)|simpa using h_) (seg:=[dw3,fw8]) (j:=0) (show 2<=2 from by decide) (x':=(⟨et3,et4⟩:S25)) (k25s_mkM _ _ _ (⟨et3,et4⟩:S25) fw9.out fx0.out) (fun _ hk=>Or.inr hk) (fun k_ hk=>⟨trivial,fun e_=>by rw[e_] at hk;exact Nat.lt_irrefl _ (Nat.lt_of_lt_of_le hgo_ hk)⟩);have dw0:=hcc12 0 _ rfl;(try simp only[show(k25s).sz=2 from rfl,Nat.mul_one,Nat.add_zero] at dw0);have hf12_0:=hfr12 0;(try simp only[show(k25s).sz=2 from rfl,Nat.mul_one,Nat.add_zero] at hf12_0);have dw4:=hcc12 1 _ rfl;(try simp only[show(k25s).sz=2 from rfl,Nat.mul_one,Nat.add_zero] at dw4);have hf12_1:=hfr12 1;(try simp only[show(k25s).sz=2 from rfl,Nat.mul_one,Nat.add_zero] at hf12_1))|((with_reducible refine gate_store (t:=25) (p:=21) rfl ?_);refine store_event (t:=25) (p:=21) (v:=?vo_w13) (w1:=((g8.setCell ⟨l5,(ar:Int).toNat * 2,none⟩ (dw3)).setCell ⟨l5,(ar:Int).toNat * 2 + 1,none⟩ (fw8))) ?hg ?ho ?hn ?hr ?_;(case ho=>rfl);(case hg=>rfl);(case hn=>rfl);(case hr=>first|(go_simp;done)|(go_simp;rfl)|(obtain⟨_,_,e0_⟩:=Kd.R_slice fw9.out;obtain⟨_,_,e1_⟩:=Kd.S_slice fx0.out;rw[e0_,e1_];first|(go_simp;done)|(go_simp;rfl)));intro km hw;have hg:g8.grownBy km (some l5):=(by rw[hw];exact HP12.2);have hp_:Kd.S k25s 25 km w.heap.size (fun _=>True) (.slice (some ⟨l5,0,none⟩) ci.length gl) fw5:=(by rw[hw,ka2.out];exact HP12.1);clear HP12;replace a8:=A_ (hp_);replace HB:=A_ ((by rw[hw];exact Jh (Jh (HB.out) GB10.out) GB10.out:Below w.heap.size w km));clear fw9 fx0;clear hg hw hp_))
 go_roundg k1
 case measure=>have:=HK1.out;omega
 case rel=>exact⟨(fw5),(wrap64 (ar + 1)),(g3_),H',⟨g8_⟩,⟨uS_ a8⟩,⟨F2.calls_s_q0⟩⟩
def Gh.f (k:Nat) (ab:List Int) (aa:List (List Int)) (aj:List (S40)):Option (List Int × (List (List Int)) × (List (S25))):=(G7.f k ab aa).bind fun bt185=>((F2.f k aj).bind fun dc4=>(some (bt185.1,bt185.2,dc4)))
theorem Gh.calls_s_q0 {p:Prop} (h:p:=by repeat(first|(with_reducible first|exact HB.out|apply Jk|apply Jj|apply Ji|refine Jh ?_ kb3.out|refine Jh ?_ kb4.out|refine Jh ?_ kb5.out)|exact HB.out)):p:=h
set_option maxHeartbeats 8000000 in
set_option maxRecDepth 100000 in
theorem Gh.calls_s (k:Nat) (af:Option Addr) (ac:Nat) (ab:List Int) (ah:Option Addr) (ag:Nat) (aa:List (List Int)) (av:Option Addr) (au:Nat) (aj:List (S40)) (r1:List Int) (r2:List (List Int)) (r3:List (S25)) (w:World) (cb:Kd.C (Kd.int .i64) w af ab.length ab) (cg:ab.length<=ac) (cc:Kd.C (Kd.slice 3 (Kd.int .i64)) w ah aa.length aa) (ch:aa.length<=ag) (h9:Kd.C k40 w av aj.length aj) (ia:aj.length<=au) (h:Gh.f k ab aa aj=some (r1,r2,r3)) :
  Calls Try.prog 29 #[.agg #[.slice af ab.length ac, .slice ah aa.length ag, .slice av aj.length au]] w fun e w'=>∃v0_ v1_ v2_:Value,e = .returned (.agg #[v0_,v1_,v2_])/\DkS w.heap.size w.heap.size w'.heap.size v0_ v1_ v2_ r1 r2 r3 w'/\Below w.heap.size w w':=by
 have hu43:=Try.underlying43
 have hu28:=Try.underlying28
 have hu40:=Try.underlying40
 have hu25:=Try.underlying25
 have bg:=A_ cb
 have bw:=A_ cg
 clear cb cg
 have bd:=A_ cc
 have b4:=A_ ch
 clear cc ch
 have gg:=A_ h9
 have g3:=A_ ia
 clear h9 ia
 have HB:=A_ (Below.refl w.heap.size w)
 have H:=h
 unfold Gh.f at H
 clear h
 replace H:=Option.bind_eq_some_iff.mp H
 obtain⟨⟨by8,dc5⟩,vy,H⟩:=H
 try dsimp only at H
 have A2:=A_ vy
 clear vy
 obtain⟨dc4,A3,H⟩:=bind_ H
 simp only[Option.some.injEq,Prod.mk.injEq] at H
 obtain⟨rfl,rfl,rfl⟩:=H
 go_enter Try.func29,Try.ntmps29
 go_wp2_with (first|((with_reducible refine gd_ 1 ?_);refine bx_ (N:=1) #[.slice af ab.length ac, .slice ah aa.length ag, .slice av aj.length au] 43 ?_;intro ay5 hg w4 hbox hb;have aa8:=A_ (hbox);have ni1:=A_ ((g64_:w.heap.size<=ay5));have kb3:=ni1;replace HB:=A_ (Jw (Gh.calls_s_q0) hb);clear hb hbox hg)|((with_reducible refine gd_ 2 ?_);refine bx_ (N:=2) #[.slice none 0 0, .slice none 0 0, .slice none 0 0] 28 ?_;intro bg0 hg w5 hbox hb;have ay6:=A_ (hbox);have ni2:=A_ ((g64_:w.heap.size<=bg0));have kb4:=ni2;replace HB:=A_ (Jw (Gh.calls_s_q0) hb);have kb6:=nl_ aa8 hg;have kb7:=nr_ aa8 hg;replace aa8:=bb_ aa8 hb;clear hb hbox hg)|((with_reducible refine gd_ 3 ?_);refine bx_ (N:=3) #[.slice none 0 0, .slice none 0 0, .slice none 0 0] 28 ?_;intro ay7 hg w6 hbox hb;have bn3:=A_ (hbox);have ni3:=A_ ((g64_:w.heap.size<=ay7));have kb5:=ni3;replace HB:=A_ (Jw (Gh.calls_s_q0) hb);have fx1:=nl_ aa8 hg;have kb8:=nr_ aa8 hg;replace aa8:=bb_ aa8 hb;have et5:=nl_ ay6 hg;have kb9:=nr_ ay6 hg;replace ay6:=bb_ ay6 hb;clear hb hbox hg;have dc0:=kb6.out;have dc1:=kb7.out;have dc2:=fx1.out;have dc3:=kb8.out;obtain⟨ag5,ag6,cl8,ag7,ag8,cm0⟩:=blk3_ aa8)|((with_reducible refine gc_ 33 ?_);refine gl_ 6 Try.func33 #[.agg #[.slice af ab.length ac, .slice ah aa.length ag]] ?_;(refine(G7.calls k _ _ ab _ _ aa by8 dc5 _ (uC_ bg) bw.out (uC_ bd) b4.out A2.out).mono ?_);rintro e w10 ⟨ni4,ni5,rfl,ai,ak,hb⟩;refine⟨_,rfl,?_⟩;have fx2:=A_ (Kd.R_lower ai (Je (Gh.calls_s_q0)));have fx3:=A_ (Kd.S_lower ak (Je (Gh.calls_s_q0)));replace aa8:=bb_ aa8 hb;replace ay6:=bb_ ay6 hb;replace bn3:=bb_ bn3 hb;replace HB:=A_ (Jw (Gh.calls_s_q0) hb);obtain⟨aa6,aa7,fw4⟩:=Kd.R_slice fx2.out;subst fw4;have cl3:=kb9.out;have cl4:=et5.out;obtain⟨sv,sw,bx2,sx,sy,bx3⟩:=blk3_ bn3;obtain⟨nz,k8,bn4⟩:=Kd.S_slice fx3.out;subst bn4;obtain⟨ci5,ci6,ft8,ci7,ci8,ft9⟩:=blk3_ aa8)|((with_reducible refine gc_ 76 ?_);refine gl_ 10 Try.func76 #[.slice av aj.length au] ?_;(refine(F2.calls_s k _ _ aj dc4 _ (Kd.C_below gg.out (Gh.calls_s_q0)) g3.out A3.out).mono ?_);rintro e pw ⟨ni6,rfl,ai,hb⟩;refine⟨_,rfl,?_⟩;have hs_:=ai;have ai:=k25s_R hs_;have n99_:=A_ (DkS.of_ (base:=w.heap.size) (Je (Gh.calls_s_q0)) (ra_ fx2) (sa_ fx3) hs_ hb);obtain⟨HI,n99_⟩:∃HI:Nat,Jc (DkS w.heap.size w.heap.size HI _ _ _ _ _ _ _):=⟨_,n99_⟩;have kc0:=A_ (Kd.R_lower (Kd.R_new' (Kd.R_new' ai (Kd.R_lt (ra_ fx2))) (Kd.S_lt (sa_ fx3))) (Je (Gh.calls_s_q0)));replace fx2:=A_ (Kd.R_below (ra_ fx2) hb);replace fx3:=A_ (Kd.S_below (sa_ fx3) hb);replace aa8:=A_ (Jp (g:=ay5) (o:=.cells #[.slice af ab.length ac, .slice ah aa.length ag, .slice av aj.length au] 43 (0,0)) (ba_ aa8) hb);replace ay6:=A_ (Jp (g:=bg0) (o:=.cells #[.slice none 0 0, .slice none 0 0, .slice none 0 0] 28 (0,0)) (ba_ ay6) hb);replace bn3:=A_ (Jp (g:=ay7) (o:=.cells #[.slice aa6 by8.length aa7, .slice nz dc5.length k8, .slice none 0 0] 28 (0,0)) (ba_ bn3) hb);replace HB:=A_ (Jw (Gh.calls_s_q0) hb);have HDS:=n99_;clear n99_ hs_;obtain⟨f5,f6,ay8⟩:=Kd.R_slice kc0.out;subst ay8;obtain⟨ap7,ap8,cl0,ap9,aq0,cl1⟩:=blk3_ bn3;obtain⟨da8,da9,db0,db1,db2,db3⟩:=blk3_ ay6))
 refine bodyPost_ret (results_cell_row rfl _ _ bg0 28 #[.slice aa6 by8.length aa7, .slice nz dc5.length k8, .slice f5 dc4.length f6] (0,0) _ rfl (ba_ ay6) Try.underlying28 rfl (g1_)) rfl ?_
 exact⟨_,_,_,g4_,DkS.fin (hi:=HI) (by repeat(first|(with_reducible exact HDS.out)|(with_reducible refine DkS.alloc ?_ _)|(with_reducible refine DkS.drewN ?_ _)|(with_reducible refine DkS.drew ?_)|(refine DkS.setT ?_ (by repeat(first|(with_reducible refine Ty0.set ?_ _)|exact Ty0.of aa8.out (by decide)|exact Ty0.of ay6.out (by decide)|exact Ty0.of bn3.out (by decide))) _))) (Nat.le_refl _),Gh.calls_s_q0⟩
def G2.f (l0:List Int) (a1:Int):Option (Int):=if (wrap64 (a1 - (l0.length:Int))) < 0 then(some (-1)) else(some (wrap64 (a1 - (l0.length:Int))))
set_option maxHeartbeats 8000000 in
set_option maxRecDepth 100000 in
theorem G2.calls (A0:Option Addr) (c0:Nat) (l0:List Int) (a1:Int) (r:Int) (w:World) (fa:Kd.C (Kd.int .i64) w A0 l0.length l0) (ec:l0.length<=c0) (h:G2.f l0 a1=some r) :
  Calls Try.prog 78 #[.slice A0 l0.length c0, .int .i64 a1] w fun e w'=>e = .returned (.int .i64 r)/\Drawn0 w w':=by
 have fp:=A_ fa
 have op:=A_ ec
 clear fa ec
 have H:=h
 unfold G2.f at H
 clear h
 by_cases c3:(wrap64 (a1 - (l0.length:Int))) < 0
 ·rw[if_pos c3] at H
  have gj:=decide_eq_true c3
  clear c3
  obtain rfl:=Option.some.inj H
  go_enter Try.func78,Try.ntmps78
  go_wp2
  go_ret
  exact⟨g3_,g5_⟩
 rw[if_neg c3] at H
 have gj:=decide_eq_false c3
 clear c3
 obtain rfl:=Option.some.inj H
 go_enter Try.func78,Try.ntmps78
 go_wp2
 go_ret
 exact⟨g3_,g5_⟩
def Ge.l0:Nat->List (List Int)->Int->Int->Option (Int)
 | 0,_,_,_=>none
 | k + 1,x0,x1,x5=>if x5 < (x0.length:Int) then(if 0<=x5 then((G2.f (Jr x0 x5) x1).bind fun ck4=>(if ck4 < 0 then(some (-1)) else(Ge.l0 k x0 ck4 (wrap64 (x5 + 1))))) else(none)) else(some x1)
def Ge.f (k:Nat) (l0:List (List Int)) (a1:Int):Option (Int):=if (wrap64 (a1 - (l0.length:Int))) < 0 then(some (-1)) else(Ge.l0 k l0 (wrap64 (a1 - (l0.length:Int))) 0)
set_option maxHeartbeats 8000000 in
set_option maxRecDepth 100000 in
theorem Ge.calls (k:Nat) (A0:Option Addr) (c0:Nat) (l0:List (List Int)) (a1:Int) (r:Int) (w:World) (fa:Kd.C (Kd.slice 3 (Kd.int .i64)) w A0 l0.length l0) (ec:l0.length<=c0) (h:Ge.f k l0 a1=some r) :
  Calls Try.prog 79 #[.slice A0 l0.length c0, .int .i64 a1] w fun e w'=>e = .returned (.int .i64 r)/\Drawn0 w w':=by
 have fp:=A_ fa
 have op:=A_ ec
 clear fa ec
 have H:=h
 unfold Ge.f at H
 clear h
 by_cases c3:(wrap64 (a1 - (l0.length:Int))) < 0
 ·rw[if_pos c3] at H
  have gj:=decide_eq_true c3
  clear c3
  obtain rfl:=Option.some.inj H
  go_enter Try.func79,Try.ntmps79
  go_wp2
  go_ret
  exact⟨g3_,g5_⟩
 rw[if_neg c3] at H
 have gj:=decide_eq_false c3
 clear c3
 have H':=A_ H
 clear H
 go_enter Try.func79,Try.ntmps79
 go_wp2
 go_loopg [1,5] k (fun kq v1 v5 w'=>∃(eg:Int) (ae:Int),v1 = .int .i64 eg/\v5 = .int .i64 ae/\Jc (Ge.l0 kq l0 eg ae=some r)/\Jc (kq<=k)/\Drawn0 w w')
 case atStart=>exact⟨(wrap64 (a1 - (l0.length:Int))),(0),(g3_),(g3_),H',⟨Nat.le_refl _⟩,g5_⟩
 clear H'
 obtain⟨eg,ae,rfl,rfl,HA,HK1,⟨m1,rfl⟩⟩:=hrel
 cases gk with
 | zero=>exact absurd HA.out (by simp[Ge.l0])
 | succ k1=>?_
 have H:=HA.out
 clear HA
 simp only[Ge.l0] at H
 by_cases c4:ae < (l0.length:Int)
 case neg=>
  rw[if_neg c4] at H
  have ic:=decide_eq_false c4
  clear c4
  obtain rfl:=Option.some.inj H
  go_wp2
  go_ret
  exact⟨g3_,g5_⟩
 rw[if_pos c4] at H
 have ic:=decide_eq_true c4
 clear c4
 obtain⟨kn,H⟩:=pd_ H
 obtain⟨ck4,A6,H⟩:=bind_ H
 by_cases c7:ck4 < 0
 ·rw[if_pos c7] at H
  have pz:=decide_eq_true c7
  clear c7
  obtain rfl:=Option.some.inj H
  obtain⟨⟨jx8,fu0,fu1,fu2,jx9,du7,du8⟩,ck5,ck6⟩:=rdp_ (at_L1 fp.out ae)
  cases fu2
  have fu3:=A_ du8
  have fu4:=A_ du7
  clear du8 du7
  go_wp2_with (first|((with_reducible refine gc_ 78 ?_);refine gl_ 23 Try.func78 #[.slice fu0 (Jr l0 ae).length fu1, .int .i64 eg] ?_;(refine(G2.calls _ _ (Jr l0 ae) eg ck4 _ (cu_ fu3.out) fu4.out A6.out).mono ?_);rintro e w' ⟨rfl,⟨nd,rfl⟩⟩;refine⟨_,rfl,?_⟩))
  go_ret
  exact⟨g3_,g5_⟩
 rw[if_neg c7] at H
 have pz:=decide_eq_false c7
 clear c7
 have H':=A_ H
 clear H
 obtain⟨⟨jx8,fu0,fu1,fu2,jx9,du7,du8⟩,ck5,ck6⟩:=rdp_ (at_L1 fp.out ae)
 cases fu2
 have fu3:=A_ du8
 have fu4:=A_ du7
 clear du8 du7
 go_wp2_with (first|((with_reducible refine gc_ 78 ?_);refine gl_ 23 Try.func78 #[.slice fu0 (Jr l0 ae).length fu1, .int .i64 eg] ?_;(refine(G2.calls _ _ (Jr l0 ae) eg ck4 _ (cu_ fu3.out) fu4.out A6.out).mono ?_);rintro e w' ⟨rfl,⟨nd,rfl⟩⟩;refine⟨_,rfl,?_⟩))
 go_roundg k1
 case measure=>have:=HK1.out;omega
 case rel=>exact⟨(ck4),(wrap64 (ae + 1)),(g3_),(g3_),H',⟨g8_⟩,g5_⟩
def Gx.f (k:Nat) (ab:List Int) (aa:List (List Int)) (a1:Int):Option (Int):=(G2.f ab a1).bind fun ag2=>(if ag2 < 0 then(some (-1)) else((Ge.f k aa ag2).bind fun bn0=>(if bn0 < 0 then(some (-1)) else(some bn0))))
theorem bw7 {p:Prop} (h:p:=by repeat(first|(with_reducible first|exact HB.out|apply Jk|apply Jj|apply Ji|refine Jh ?_ fu5.out)|exact HB.out)):p:=h
set_option maxHeartbeats 8000000 in
set_option maxRecDepth 100000 in
theorem Gx.calls (k:Nat) (af:Option Addr) (ac:Nat) (ab:List Int) (ah:Option Addr) (ag:Nat) (aa:List (List Int)) (a1:Int) (r:Int) (w:World) (cb:Kd.C (Kd.int .i64) w af ab.length ab) (cg:ab.length<=ac) (cc:Kd.C (Kd.slice 3 (Kd.int .i64)) w ah aa.length aa) (ch:aa.length<=ag) (h:Gx.f k ab aa a1=some r) :
  Calls Try.prog 31 #[.agg #[.slice af ab.length ac, .slice ah aa.length ag], .int .i64 a1] w fun e w'=>e = .returned (.int .i64 r)/\Below w.heap.size w w':=by
 have hu40:=Try.underlying40
 have bg:=A_ cb
 have bw:=A_ cg
 clear cb cg
 have bd:=A_ cc
 have b4:=A_ ch
 clear cc ch
 have HB:=A_ (Below.refl w.heap.size w)
 have H:=h
 unfold Gx.f at H
 clear h
 obtain⟨ag2,A3,H⟩:=bind_ H
 by_cases c4:ag2 < 0
 ·rw[if_pos c4] at H
  have ic:=decide_eq_true c4
  clear c4
  obtain rfl:=Option.some.inj H
  go_enter Try.func31,Try.ntmps31
  go_wp2_with (first|((with_reducible refine gd_ 2 ?_);refine bx_ (N:=2) #[.slice af ab.length ac, .slice ah aa.length ag] 40 ?_;intro by4 hg w5 hbox hb;have du9:=A_ (hbox);have hq5:=A_ ((g61_:w.heap.size<=by4));have fu5:=hq5;replace HB:=hs_ (bw7) hb;clear hb hbox hg;obtain⟨ur,us,ut,uu⟩:=blk2_ du9)|((with_reducible refine gc_ 78 ?_);refine gl_ 8 Try.func78 #[.slice af ab.length ac, .int .i64 a1] ?_;(refine(G2.calls _ _ ab a1 ag2 _ (uC_ bg) bw.out A3.out).mono ?_);rintro e w' ⟨rfl,⟨nd,rfl⟩⟩;refine⟨_,rfl,?_⟩))
  go_ret
  exact⟨g4_,bw7⟩
 rw[if_neg c4] at H
 have ic:=decide_eq_false c4
 clear c4
 obtain⟨bn0,A7,H⟩:=bind_ H
 by_cases c8:bn0 < 0
 ·rw[if_pos c8] at H
  have xf:=decide_eq_true c8
  clear c8
  obtain rfl:=Option.some.inj H
  go_enter Try.func31,Try.ntmps31
  go_wp2_with (first|((with_reducible refine gd_ 2 ?_);refine bx_ (N:=2) #[.slice af ab.length ac, .slice ah aa.length ag] 40 ?_;intro by4 hg w9 hbox hb;have du9:=A_ (hbox);have hq5:=A_ ((g61_:w.heap.size<=by4));have fu5:=hq5;replace HB:=hs_ (bw7) hb;clear hb hbox hg;obtain⟨yo,yp,yq,yr⟩:=blk2_ du9)|((with_reducible refine gc_ 78 ?_);refine gl_ 8 Try.func78 #[.slice af ab.length ac, .int .i64 a1] ?_;(refine(G2.calls _ _ ab a1 ag2 _ (uC_ bg) bw.out A3.out).mono ?_);rintro e w' ⟨rfl,⟨nd,rfl⟩⟩;refine⟨_,rfl,?_⟩)|((with_reducible refine gc_ 79 ?_);refine gl_ 14 Try.func79 #[.slice ah aa.length ag, .int .i64 ag2] ?_;(refine(Ge.calls k _ _ aa ag2 bn0 _ (cu_ (Kd.C_below bd.out (bw7))) b4.out A7.out).mono ?_);rintro e w' ⟨rfl,⟨nd,rfl⟩⟩;refine⟨_,rfl,?_⟩))
  go_ret
  exact⟨g4_,bw7⟩
 rw[if_neg c8] at H
 have xf:=decide_eq_false c8
 clear c8
 obtain rfl:=Option.some.inj H
 go_enter Try.func31,Try.ntmps31
 go_wp2_with (first|((with_reducible refine gd_ 2 ?_);refine bx_ (N:=2) #[.slice af ab.length ac, .slice ah aa.length ag] 40 ?_;intro by4 hg g8 hbox hb;have du9:=A_ (hbox);have hq5:=A_ ((g61_:w.heap.size<=by4));have fu5:=hq5;replace HB:=hs_ (bw7) hb;clear hb hbox hg;obtain⟨vu,vv,vw,vx⟩:=blk2_ du9)|((with_reducible refine gc_ 78 ?_);refine gl_ 8 Try.func78 #[.slice af ab.length ac, .int .i64 a1] ?_;(refine(G2.calls _ _ ab a1 ag2 _ (uC_ bg) bw.out A3.out).mono ?_);rintro e w' ⟨rfl,⟨nd,rfl⟩⟩;refine⟨_,rfl,?_⟩)|((with_reducible refine gc_ 79 ?_);refine gl_ 14 Try.func79 #[.slice ah aa.length ag, .int .i64 ag2] ?_;(refine(Ge.calls k _ _ aa ag2 bn0 _ (cu_ (Kd.C_below bd.out (bw7))) b4.out A7.out).mono ?_);rintro e w' ⟨rfl,⟨nd,rfl⟩⟩;refine⟨_,rfl,?_⟩))
 go_ret
 exact⟨g4_,bw7⟩
def Gf.l0:Nat->List (S40)->Int->Int->Option (Int)
 | 0,_,_,_=>none
 | k + 1,x0,x1,x5=>if x5 < (x0.length:Int) then(if 0<=x5 then((Gx.f k ((rd_T40 x0 x5).f0) ((rd_T40 x0 x5).f1) x1).bind fun ck7=>(if ck7 < 0 then(some (-1)) else(Gf.l0 k x0 ck7 (wrap64 (x5 + 1))))) else(none)) else(some x1)
def Gf.f (k:Nat) (l0:List (S40)) (a1:Int):Option (Int):=if (wrap64 (a1 - (l0.length:Int))) < 0 then(some (-1)) else(Gf.l0 k l0 (wrap64 (a1 - (l0.length:Int))) 0)
theorem da0 {p:Prop} (h:p:=by repeat(first|(with_reducible first|exact HB.out|apply Jk|apply Jj|apply Ji)|exact HB.out)):p:=h
set_option maxHeartbeats 8000000 in
set_option maxRecDepth 100000 in
theorem Gf.calls (k:Nat) (A0:Option Addr) (c0:Nat) (l0:List (S40)) (a1:Int) (r:Int) (w:World) (fa:Kd.C k40 w A0 l0.length l0) (ec:l0.length<=c0) (h:Gf.f k l0 a1=some r) :
  Calls Try.prog 75 #[.slice A0 l0.length c0, .int .i64 a1] w fun e w'=>e = .returned (.int .i64 r)/\Below w.heap.size w w':=by
 have hu40:=Try.underlying40
 have fp:=A_ fa
 have op:=A_ ec
 clear fa ec
 have HB:=A_ (Below.refl w.heap.size w)
 have H:=h
 unfold Gf.f at H
 clear h
 by_cases c3:(wrap64 (a1 - (l0.length:Int))) < 0
 ·rw[if_pos c3] at H
  have gj:=decide_eq_true c3
  clear c3
  obtain rfl:=Option.some.inj H
  go_enter Try.func75,Try.ntmps75
  go_wp2
  go_ret
  exact⟨g4_,da0⟩
 rw[if_neg c3] at H
 have gj:=decide_eq_false c3
 clear c3
 have H':=A_ H
 clear H
 go_enter Try.func75,Try.ntmps75
 go_wp2
 go_loopg [1,5] k (fun kq v1 v5 w'=>∃(eg:Int) (ae:Int),v1 = .int .i64 eg/\v5 = .int .i64 ae/\Jc (Gf.l0 kq l0 eg ae=some r)/\Jc (kq<=k)/\Jc (Below w.heap.size w w'))
 case atStart=>exact⟨(wrap64 (a1 - (l0.length:Int))),(0),(g3_),(g3_),H',⟨Nat.le_refl _⟩,⟨da0⟩⟩
 clear H'
 obtain⟨eg,ae,rfl,rfl,HA,HK1,HB⟩:=hrel
 cases gk with
 | zero=>exact absurd HA.out (by simp[Gf.l0])
 | succ k1=>?_
 have H:=HA.out
 clear HA
 simp only[Gf.l0] at H
 by_cases c4:ae < (l0.length:Int)
 case neg=>
  rw[if_neg c4] at H
  have ic:=decide_eq_false c4
  clear c4
  obtain rfl:=Option.some.inj H
  go_wp2
  go_ret
  exact⟨g4_,da0⟩
 rw[if_pos c4] at H
 have ic:=decide_eq_true c4
 clear c4
 obtain⟨kn,H⟩:=pd_ H
 obtain⟨ck7,A6,H⟩:=bind_ H
 by_cases c7:ck7 < 0
 ·rw[if_pos c7] at H
  have pz:=decide_eq_true c7
  clear c7
  obtain rfl:=Option.some.inj H
  obtain⟨⟨jy0,fu6,fu7,fu8,fu9,fv0,dv0,dv1,dv2,dv3,dv4,dv5⟩,ck8,ck9⟩:=rdp_ (at_T40 fp.out ae)
  cases fv0
  replace dv0:=cl_ HB dv0
  replace dv1:=cl_ HB dv1
  have fv1:=A_ dv3
  have fv2:=A_ dv2
  clear dv3 dv2
  have fv3:=A_ dv5
  have fv4:=A_ dv4
  clear dv5 dv4
  go_wp2_with (first|((with_reducible refine gc_ 31 ?_);refine gl_ 23 Try.func31 #[.agg #[.slice fu6 ((rd_T40 l0 ae).f0).length fu7, .slice fu8 ((rd_T40 l0 ae).f1).length fu9], .int .i64 eg] ?_;(refine(Gx.calls k1 _ _ ((rd_T40 l0 ae).f0) _ _ ((rd_T40 l0 ae).f1) eg ck7 _ (uC_ fv1) fv2.out (uC_ fv3) fv4.out A6.out).mono ?_);rintro e w8 ⟨rfl,hb⟩;refine⟨_,rfl,?_⟩;replace HB:=hs_ (da0) hb))
  go_ret
  exact⟨g4_,da0⟩
 rw[if_neg c7] at H
 have pz:=decide_eq_false c7
 clear c7
 have H':=A_ H
 clear H
 obtain⟨⟨jy0,fu6,fu7,fu8,fu9,fv0,dv0,dv1,dv2,dv3,dv4,dv5⟩,ck8,ck9⟩:=rdp_ (at_T40 fp.out ae)
 cases fv0
 replace dv0:=cl_ HB dv0
 replace dv1:=cl_ HB dv1
 have fv1:=A_ dv3
 have fv2:=A_ dv2
 clear dv3 dv2
 have fv3:=A_ dv5
 have fv4:=A_ dv4
 clear dv5 dv4
 go_wp2_with (first|((with_reducible refine gc_ 31 ?_);refine gl_ 23 Try.func31 #[.agg #[.slice fu6 ((rd_T40 l0 ae).f0).length fu7, .slice fu8 ((rd_T40 l0 ae).f1).length fu9], .int .i64 eg] ?_;(refine(Gx.calls k1 _ _ ((rd_T40 l0 ae).f0) _ _ ((rd_T40 l0 ae).f1) eg ck7 _ (uC_ fv1) fv2.out (uC_ fv3) fv4.out A6.out).mono ?_);rintro e w9 ⟨rfl,hb⟩;refine⟨_,rfl,?_⟩;replace HB:=hs_ (da0) hb))
 go_roundg k1
 case measure=>have:=HK1.out;omega
 case rel=>exact⟨(ck7),(wrap64 (ae + 1)),(g3_),(g3_),H',⟨g8_⟩,⟨da0⟩⟩
def Gs.f (k:Nat) (ab:List Int) (aa:List (List Int)) (aj:List (S40)) (a1:Int):Option (Int):=(Gx.f k ab aa a1).bind fun ag3=>(if ag3 < 0 then(some (-1)) else((Gf.f k aj ag3).bind fun bn1=>(if bn1 < 0 then(some (-1)) else(some bn1))))
theorem aw7 {p:Prop} (h:p:=by repeat(first|(with_reducible first|exact HB.out|apply Jk|apply Jj|apply Ji|refine Jh ?_ fv5.out)|exact HB.out)):p:=h
set_option maxHeartbeats 8000000 in
set_option maxRecDepth 100000 in
theorem Gs.calls (k:Nat) (af:Option Addr) (ac:Nat) (ab:List Int) (ah:Option Addr) (ag:Nat) (aa:List (List Int)) (av:Option Addr) (au:Nat) (aj:List (S40)) (a1:Int) (r:Int) (w:World) (cb:Kd.C (Kd.int .i64) w af ab.length ab) (cg:ab.length<=ac) (cc:Kd.C (Kd.slice 3 (Kd.int .i64)) w ah aa.length aa) (ch:aa.length<=ag) (h9:Kd.C k40 w av aj.length aj) (ia:aj.length<=au) (h:Gs.f k ab aa aj a1=some r) :
  Calls Try.prog 27 #[.agg #[.slice af ab.length ac, .slice ah aa.length ag, .slice av aj.length au], .int .i64 a1] w fun e w'=>e = .returned (.int .i64 r)/\Below w.heap.size w w':=by
 have hu43:=Try.underlying43
 have hu40:=Try.underlying40
 have bg:=A_ cb
 have bw:=A_ cg
 clear cb cg
 have bd:=A_ cc
 have b4:=A_ ch
 clear cc ch
 have gg:=A_ h9
 have g3:=A_ ia
 clear h9 ia
 have HB:=A_ (Below.refl w.heap.size w)
 have H:=h
 unfold Gs.f at H
 clear h
 obtain⟨ag3,A3,H⟩:=bind_ H
 by_cases c4:ag3 < 0
 ·rw[if_pos c4] at H
  have ic:=decide_eq_true c4
  clear c4
  obtain rfl:=Option.some.inj H
  go_enter Try.func27,Try.ntmps27
  go_wp2_with (first|((with_reducible refine gd_ 2 ?_);refine bx_ (N:=2) #[.slice af ab.length ac, .slice ah aa.length ag, .slice av aj.length au] 43 ?_;intro by5 hg w5 hbox hb;have xh:=A_ (hbox);have hq6:=A_ ((g62_:w.heap.size<=by5));have fv5:=hq6;replace HB:=hs_ (aw7) hb;clear hb hbox hg;obtain⟨ur,us,bm8,ut,uu,bm9⟩:=blk3_ xh)|((with_reducible refine gc_ 31 ?_);refine gl_ 8 Try.func31 #[.agg #[.slice af ab.length ac, .slice ah aa.length ag], .int .i64 a1] ?_;(refine(Gx.calls k _ _ ab _ _ aa a1 ag3 _ (uC_ bg) bw.out (uC_ bd) b4.out A3.out).mono ?_);rintro e w7 ⟨rfl,hb⟩;refine⟨_,rfl,?_⟩;replace xh:=bb_ xh hb;replace HB:=hs_ (aw7) hb))
  go_ret
  exact⟨g4_,aw7⟩
 rw[if_neg c4] at H
 have ic:=decide_eq_false c4
 clear c4
 obtain⟨bn1,A8,H⟩:=bind_ H
 by_cases c9:bn1 < 0
 ·rw[if_pos c9] at H
  have xg:=decide_eq_true c9
  clear c9
  obtain rfl:=Option.some.inj H
  go_enter Try.func27,Try.ntmps27
  go_wp2_with (first|((with_reducible refine gd_ 2 ?_);refine bx_ (N:=2) #[.slice af ab.length ac, .slice ah aa.length ag, .slice av aj.length au] 43 ?_;intro by5 hg w10 hbox hb;have xh:=A_ (hbox);have hq6:=A_ ((g62_:w.heap.size<=by5));have fv5:=hq6;replace HB:=hs_ (aw7) hb;clear hb hbox hg;obtain⟨sr,ss,ax8,st,su,ax9⟩:=blk3_ xh)|((with_reducible refine gc_ 31 ?_);refine gl_ 8 Try.func31 #[.agg #[.slice af ab.length ac, .slice ah aa.length ag], .int .i64 a1] ?_;(refine(Gx.calls k _ _ ab _ _ aa a1 ag3 _ (uC_ bg) bw.out (uC_ bd) b4.out A3.out).mono ?_);rintro e uf ⟨rfl,hb⟩;refine⟨_,rfl,?_⟩;replace xh:=bb_ xh hb;replace HB:=hs_ (aw7) hb;obtain⟨sv,sw,bx2,sx,sy,bx3⟩:=blk3_ xh)|((with_reducible refine gc_ 75 ?_);refine gl_ 14 Try.func75 #[.slice av aj.length au, .int .i64 ag3] ?_;(refine(Gf.calls k _ _ aj ag3 bn1 _ (uC_ gg) g3.out A8.out).mono ?_);rintro e w14 ⟨rfl,hb⟩;refine⟨_,rfl,?_⟩;replace xh:=bb_ xh hb;replace HB:=hs_ (aw7) hb))
  go_ret
  exact⟨g4_,aw7⟩
 rw[if_neg c9] at H
 have xg:=decide_eq_false c9
 clear c9
 obtain rfl:=Option.some.inj H
 go_enter Try.func27,Try.ntmps27
 go_wp2_with (first|((with_reducible refine gd_ 2 ?_);refine bx_ (N:=2) #[.slice af ab.length ac, .slice ah aa.length ag, .slice av aj.length au] 43 ?_;intro by5 hg rq hbox hb;have xh:=A_ (hbox);have hq6:=A_ ((g62_:w.heap.size<=by5));have fv5:=hq6;replace HB:=hs_ (aw7) hb;clear hb hbox hg;obtain⟨af1,af2,dv6,af3,af4,dv7⟩:=blk3_ xh)|((with_reducible refine gc_ 31 ?_);refine gl_ 8 Try.func31 #[.agg #[.slice af ab.length ac, .slice ah aa.length ag], .int .i64 a1] ?_;(refine(Gx.calls k _ _ ab _ _ aa a1 ag3 _ (uC_ bg) bw.out (uC_ bd) b4.out A3.out).mono ?_);rintro e ug ⟨rfl,hb⟩;refine⟨_,rfl,?_⟩;replace xh:=bb_ xh hb;replace HB:=hs_ (aw7) hb;obtain⟨ap7,ap8,cl0,ap9,aq0,cl1⟩:=blk3_ xh)|((with_reducible refine gc_ 75 ?_);refine gl_ 14 Try.func75 #[.slice av aj.length au, .int .i64 ag3] ?_;(refine(Gf.calls k _ _ aj ag3 bn1 _ (uC_ gg) g3.out A8.out).mono ?_);rintro e w19 ⟨rfl,hb⟩;refine⟨_,rfl,?_⟩;replace xh:=bb_ xh hb;replace HB:=hs_ (aw7) hb))
 go_ret
 exact⟨g4_,aw7⟩
def Jb.f (mr:Int) (m6:Int) (nl:Int) (od:Int):Option (Int × Int × Int × Int):=some (mr,m6,nl,od)
theorem es5 {p:Prop} (h:p:=by repeat(first|(with_reducible first|exact HB.out|apply Jk|apply Jj|apply Ji|refine Jh ?_ lj0.out|refine Jh ?_ lj1.out|refine Jh ?_ lj2.out)|exact HB.out)):p:=h
set_option maxHeartbeats 8000000 in
set_option maxRecDepth 100000 in
theorem Jb.calls (mr:Int) (m6:Int) (nl:Int) (od:Int) (r1:Int) (r2:Int) (r3:Int) (r4:Int) (w:World) (h:Jb.f mr m6 nl od=some (r1,r2,r3,r4)) :
  Calls Try.prog 55 #[.agg #[.int .i64 mr, .int .i64 m6, .int .i64 nl, .int .i64 od]] w fun e w'=>e = .returned (.agg #[.int .i64 r1, .int .i64 r2, .int .i64 r3, .int .i64 r4])/\Below w.heap.size w w':=by
 have hu66:=Try.underlying66
 have hu69:=Try.underlying69
 have HB:=A_ (Below.refl w.heap.size w)
 have H:(some (mr,m6,nl,od))=some (r1,r2,r3,r4):=h
 clear h
 simp only[Option.some.injEq,Prod.mk.injEq] at H
 obtain⟨rfl,rfl,rfl,rfl⟩:=H
 go_enter Try.func55,Try.ntmps55
 go_wp2_with (first|((with_reducible refine gd_ 1 ?_);refine bx_ (N:=1) #[.int .i64 mr, .int .i64 m6, .int .i64 nl, .int .i64 od] 66 ?_;intro bj2 hg w2 hbox hb;have br8:=A_ (hbox);have ob9:=A_ ((g78_:w.heap.size<=bj2));have lj0:=ob9;replace HB:=hs_ (es5) hb;clear hb hbox hg)|((with_reducible refine gd_ 2 ?_);refine bx_ (N:=2) #[.int .i64 0, .int .i64 0, .int .i64 0, .int .i64 0] 69 ?_;intro br9 hg w3 hbox hb;have dh7:=A_ (hbox);have oc0:=A_ ((g78_:w.heap.size<=br9));have lj1:=oc0;replace HB:=hs_ (es5) hb;have lj3:=nl_ br8 hg;have lj4:=nr_ br8 hg;replace br8:=bb_ br8 hb;clear hb hbox hg)|((with_reducible refine gd_ 3 ?_);refine bx_ (N:=3) #[.int .i64 0, .int .i64 0, .int .i64 0, .int .i64 0] 69 ?_;intro dh8 hg w4 hbox hb;have lj5:=A_ (hbox);have oc1:=A_ ((g78_:w.heap.size<=dh8));have lj2:=oc1;replace HB:=hs_ (es5) hb;have lj6:=nl_ br8 hg;have lj7:=nr_ br8 hg;replace br8:=bb_ br8 hb;have eh8:=nl_ dh7 hg;have lj8:=nr_ dh7 hg;replace dh7:=bb_ dh7 hb;clear hb hbox hg;have ev5:=lj3.out;have ev6:=lj4.out;have ig4:=lj6.out;have ig5:=lj7.out;obtain⟨aa9,ab0,oc2,oc3,ab1,ab2,oc4,oc5⟩:=blk4_ br8;have dc2:=lj8.out;have dc3:=eh8.out;obtain⟨ag5,ag6,cl8,oc6,ag7,ag8,cm0,oc7⟩:=blk4_ lj5;obtain⟨yo,yp,ho8,lj9,yq,yr,hp8,lk0⟩:=blk4_ dh7))
 refine bodyPost_ret (results_cell_row rfl _ _ br9 69 #[.int .i64 mr, .int .i64 m6, .int .i64 nl, .int .i64 od] (0,0) _ rfl (ba_ dh7) Try.underlying69 rfl (g1_)) rfl ?_
 exact⟨g4_,es5⟩
end Go.Proofs.Ytfooakkhkehpiaa.PE
namespace Go.Proofs.Ytfooakkhkehpiaa.PE
open Go.RowKit Go.Proofs.YtfooakkhkehpiaaW.PrintWords Go.Proofs.YtfooakkhkehpiaaW.PrintLast Go.Proofs.YtfooakkhkehpiaaW.PrintMore
set_option linter.unusedVariables false
set_option linter.unusedSimpArgs false
abbrev B_:=S25
structure Fc where
  lo:Nat
  hi:Nat
  P:World->Prop
  sz:∀W,P W->hi<=W.heap.size
  st:∀W W1,P W->(∀k,lo<=k->k < hi->W1.heap[k]? = W.heap[k]?)->hi<=W1.heap.size->P W1
def bx (g:Nat) (cs:Array Value) (t:Nat):Fc where
  lo:=g
  hi:=g + 1
  P:=fun W=>W.heap[g]? = some (.cells cs t (0,0))
  sz:=fun _ h=>blk_lt h
  st:=fun _ _ h hm _=>(hm g (Nat.le_refl _) (Nat.lt_succ_self _)).trans h
def DqS (lo hi:Nat) (u0 u1 u2:Value) (c:List Int) (d:List (List Int)) (ps:List B_) (W:World):Prop:=
  hi<=W.heap.size/\Kd.R (Kd.int .i64) 3 W 0 (fun k=>lo<=k/\k < hi) u0 c/\Kd.S (Kd.slice 3 (Kd.int .i64)) 22 W 0 (fun k=>lo<=k/\k < hi) u1 d/\Kd.Q k25 25 W 0 (fun k=>lo<=k/\k < hi) u2 ps
def dq (lo hi:Nat) (u0 u1 u2:Value) (c:List Int) (d:List (List Int)) (ps:List B_):Fc where
  lo:=lo
  hi:=hi
  P:=DqS lo hi u0 u1 u2 c d ps
  sz:=fun _ h=>h.1
  st:=fun _ _ h hm hs=>⟨hs,Kd.R_step h.2.1 (fun k hk _=>hm k hk.1 hk.2),Kd.S_step h.2.2.1 (fun k hk _=>hm k hk.1 hk.2),Kd.Q_step h.2.2.2 (fun k hk _=>hm k hk.1 hk.2)⟩
def Bn (w:World) (L:List Fc) (W:World):Prop:=Below w.heap.size w W/\∀f ∈ L,f.P W
section
variable {w W W1:World} {L:List Fc}
theorem Bn.below (h:Bn w L W) (hb:Below W.heap.size W W1):Bn w L W1:=
  ⟨Jw h.1 hb,fun f hf=>f.st W W1 (h.2 f hf) (fun k _ hk=>hb.block k (Nat.lt_of_lt_of_le hk (f.sz W (h.2 f hf)))) (Nat.le_trans (f.sz W (h.2 f hf)) hb.size)⟩
theorem Bn.drew (h:Bn w L W):Bn w L W.drew:=h.below (below_drew (Below.refl _ _))
theorem Bn.push (h:Bn w L W) {f:Fc} (hf:f.P W):Bn w (f :: L) W:=⟨h.1,fun x hx=>by rcases List.mem_cons.1 hx with rfl|hx;exact hf;exact h.2 x hx⟩
def Dj (lo hi:Nat) (L:List Fc):Prop:=∀f ∈ L,f.hi<=lo ∨ hi<=f.lo
theorem Bn.far (h:Bn w L W) {g j:Nat} (hg:Dj g (g + 1) L) (hw:w.heap.size<=g) (u:Value):Bn w L (W.setCell ⟨g,j,none⟩ u):=
  ⟨Jh h.1 hw,fun f hf=>f.st W _ (h.2 f hf) (fun k h1 h2=>Below.heap_setCell W ⟨g,j,none⟩ u k (fun e=>by have:=hg f hf;have e:k=g:=e;omega)) (by rw[World.size_setCell];exact f.sz W (h.2 f hf))⟩
theorem Bn.kept (h:Bn w L W) {lo hi:Nat} (hb:Below w.heap.size w W1) (hk:Kept W W1 (fun k=>lo<=k/\k < hi)) (hd:Dj lo hi L):Bn w L W1:=
  ⟨hb,fun f hf=>f.st W W1 (h.2 f hf) (fun k h1 h2=>hk.2 k (Nat.lt_of_lt_of_le h2 (f.sz W (h.2 f hf))) (fun hs=>by have:=hd f hf;omega)) (Nat.le_trans (f.sz W (h.2 f hf)) hk.1)⟩
theorem Dj.cons {lo hi:Nat} {f:Fc} (h:f.hi<=lo ∨ hi<=f.lo) (hd:Dj lo hi L):Dj lo hi (f :: L):=fun x hx=>by rcases List.mem_cons.1 hx with rfl|hx;exact h;exact hd x hx
theorem Bn.mv (x:Jc (Bn w L W)) {w1 w2:World} (hb:Below w1.heap.size w1 w2) (h:Bn w L W->Bn w L w1:=by intro x_;repeat(first|(with_reducible exact x_)|(with_reducible refine Bn.alloc ?_ _)|(with_reducible refine Bn.drewN ?_ _)|(with_reducible refine Bn.drew ?_))):Jc (Bn w L w2):=⟨(h x.out).below hb⟩
theorem Bn.go (x:Jc (Bn w L W)) {w1:World} (h:Bn w L W->Bn w L w1:=by intro x_;repeat(first|(with_reducible exact x_)|(with_reducible refine Bn.alloc ?_ _)|(with_reducible refine Bn.drewN ?_ _)|(with_reducible refine Bn.drew ?_))):Bn w L w1:=h x.out
theorem Bn.has (x:Jc (Bn w L W)) (f:Fc) (hm:f ∈ L:=by(repeat(first|exact List.mem_cons_self|apply List.mem_cons_of_mem))):f.P W:=x.out.2 f hm
theorem cells3 {g t:Nat} {a b c:Value} (h:W.heap[g]? = some (.cells #[a,b,c] t (0,0))):W.cell? ⟨g,0,none⟩=some a/\W.cell? ⟨g,1,none⟩=some b/\W.cell? ⟨g,2,none⟩=some c:=⟨(Jd h 0).trans rfl,(Jd h 1).trans rfl,(Jd h 2).trans rfl⟩
theorem Bn.b3 (x:Jc (Bn w L W)) (g:Nat) {t:Nat} {a b c:Value} (hm:bx g #[a,b,c] t ∈ L:=by(repeat(first|exact List.mem_cons_self|apply List.mem_cons_of_mem))):W.cell? ⟨g,0,none⟩=some a/\W.cell? ⟨g,1,none⟩=some b/\W.cell? ⟨g,2,none⟩=some c:=cells3 (x.out.2 _ hm)
theorem Bn.dj (x:Jc (Bn w L W)) {w1:World} {g n:Nat} (hg:g=w1.heap.size) (h:Bn w L W->Bn w L w1:=by intro x_;repeat(first|(with_reducible exact x_)|(with_reducible refine Bn.alloc ?_ _)|(with_reducible refine Bn.drewN ?_ _)|(with_reducible refine Bn.drew ?_))):Jc (Dj g n L):=⟨fun f hf=>.inl (hg ▸ f.sz w1 ((h x.out).2 f hf))⟩
theorem Bn.wg (x:Jc (Bn w L W)) {w1:World} {g:Nat} (hg:g=w1.heap.size) (h:Bn w L W->Bn w L w1:=by intro x_;repeat(first|(with_reducible exact x_)|(with_reducible refine Bn.alloc ?_ _)|(with_reducible refine Bn.drewN ?_ _)|(with_reducible refine Bn.drew ?_))):Jc (w.heap.size<=g):=⟨hg ▸ (h x.out).1.size⟩
theorem Bn.box (x:Jc (Bn w L W)) {w1 w2:World} {g t:Nat} {cs:Array Value} (hb:Below w1.heap.size w1 w2) (hx:w2.heap[g]? = some (.cells cs t (0,0))) (h:Bn w L W->Bn w L w1:=by intro x_;repeat(first|(with_reducible exact x_)|(with_reducible refine Bn.alloc ?_ _)|(with_reducible refine Bn.drewN ?_ _)|(with_reducible refine Bn.drew ?_))):Jc (Bn w (bx g cs t :: L) w2):=⟨((h x.out).below hb).push hx⟩
theorem Bn.put3 (x:Jc (Bn w L W)) {g t:Nat} {z0 z1 z2:Value} (b:Jc (W.heap[g]? = some (.cells #[z0,z1,z2] t (0,0)))) (hg:Jc (Dj g (g + 1) L)) (hw:Jc (w.heap.size<=g)) (v0 v1 v2:Value):Jc (Bn w (bx g #[v0,v1,v2] t :: L) (((W.setCell ⟨g,0,none⟩ v0).setCell ⟨g,1,none⟩ v1).setCell ⟨g,2,none⟩ v2)):=
  ⟨((((x.out.far hg.out hw.out v0).far hg.out hw.out v1).far hg.out hw.out v2).push (show _ from Jv (Jv (Jv b.out 0 v0 rfl) 1 v1 rfl) 2 v2 rfl))⟩
end
section
variable {base lo hi:Nat} {u0 u1 u2:Value} {c:List Int} {d:List (List Int)} {ps:List B_} {W:World}
theorem DkS.mw (x:Jc (DkS base lo hi u0 u1 u2 c d ps W)) {w1 w2:World} (hb:Below w1.heap.size w1 w2) (h:DkS base lo hi u0 u1 u2 c d ps W->DkS base lo hi u0 u1 u2 c d ps w1:=by intro x_;repeat(first|(with_reducible exact x_)|(with_reducible refine DkS.alloc ?_ _)|(with_reducible refine DkS.drewN ?_ _)|(with_reducible refine DkS.drew ?_))):Jc (DkS base lo hi u0 u1 u2 c d ps w2):=⟨(h x.out).below hb⟩
theorem DkS.gw (x:Jc (DkS base lo hi u0 u1 u2 c d ps W)) {w1:World} (h:DkS base lo hi u0 u1 u2 c d ps W->DkS base lo hi u0 u1 u2 c d ps w1:=by intro x_;repeat(first|(with_reducible exact x_)|(with_reducible refine DkS.alloc ?_ _)|(with_reducible refine DkS.drewN ?_ _)|(with_reducible refine DkS.drew ?_))):DkS base lo hi u0 u1 u2 c d ps w1:=h x.out
theorem DkS.gg (x:Jc (DkS base lo hi u0 u1 u2 c d ps W)) {w1:World} {g:Nat} (hg:g=w1.heap.size) (h:DkS base lo hi u0 u1 u2 c d ps W->DkS base lo hi u0 u1 u2 c d ps w1:=by intro x_;repeat(first|(with_reducible exact x_)|(with_reducible refine DkS.alloc ?_ _)|(with_reducible refine DkS.drewN ?_ _)|(with_reducible refine DkS.drew ?_))):Jc (hi<=g):=⟨hg ▸ (h x.out).1⟩
theorem DkS.put3 (x:Jc (DkS base lo hi u0 u1 u2 c d ps W)) {g:Nat} (hg:g < lo ∨ hi<=g) (v0 v1 v2:Value):Jc (DkS base lo hi u0 u1 u2 c d ps (((W.setCell ⟨g,0,none⟩ v0).setCell ⟨g,1,none⟩ v1).setCell ⟨g,2,none⟩ v2)):=⟨((x.out.set (p:=⟨g,0,none⟩) hg v0).set (p:=⟨g,1,none⟩) hg v1).set (p:=⟨g,2,none⟩) hg v2⟩
theorem DqS.step {W1:World} (h:DqS lo hi u0 u1 u2 c d ps W) (hm:∀k,lo<=k->k < hi->W1.heap[k]? = W.heap[k]?) (hs:hi<=W1.heap.size):DqS lo hi u0 u1 u2 c d ps W1:=(dq lo hi u0 u1 u2 c d ps).st W W1 h hm hs
theorem DqS.below {W1:World} (h:DqS lo hi u0 u1 u2 c d ps W) (hb:Below W.heap.size W W1):DqS lo hi u0 u1 u2 c d ps W1:=h.step (fun k _ hk=>hb.block k (Nat.lt_of_lt_of_le hk h.1)) (Nat.le_trans h.1 hb.size)
theorem DqS.mw (x:Jc (DqS lo hi u0 u1 u2 c d ps W)) {w1 w2:World} (hb:Below w1.heap.size w1 w2) (h:DqS lo hi u0 u1 u2 c d ps W->DqS lo hi u0 u1 u2 c d ps w1:=by intro x_;repeat(first|(with_reducible exact x_)|(with_reducible refine DqS.below ?_ (Jk (Below.refl _ _) _))|(with_reducible refine DqS.below ?_ (Jj (Below.refl _ _) _))|(with_reducible refine DqS.below ?_ (below_drew (Below.refl _ _))))):Jc (DqS lo hi u0 u1 u2 c d ps w2):=⟨(h x.out).below hb⟩
theorem DqS.gg (x:Jc (DqS lo hi u0 u1 u2 c d ps W)) {w1:World} {g:Nat} (hg:g=w1.heap.size) (h:DqS lo hi u0 u1 u2 c d ps W->DqS lo hi u0 u1 u2 c d ps w1:=by intro x_;repeat(first|(with_reducible exact x_)|(with_reducible refine DqS.below ?_ (Jk (Below.refl _ _) _))|(with_reducible refine DqS.below ?_ (Jj (Below.refl _ _) _))|(with_reducible refine DqS.below ?_ (below_drew (Below.refl _ _))))):Jc (hi<=g):=⟨hg ▸ (h x.out).1⟩
theorem DqS.put3 (x:Jc (DqS lo hi u0 u1 u2 c d ps W)) {g:Nat} (hg:g < lo ∨ hi<=g) (v0 v1 v2:Value):Jc (DqS lo hi u0 u1 u2 c d ps (((W.setCell ⟨g,0,none⟩ v0).setCell ⟨g,1,none⟩ v1).setCell ⟨g,2,none⟩ v2)):=⟨x.out.step (fun k h1 h2=>by rw[Below.heap_setCell _ _ v2 k (fun e=>by have e:k=g:=e;omega),Below.heap_setCell _ _ v1 k (fun e=>by have e:k=g:=e;omega),Below.heap_setCell _ _ v0 k (fun e=>by have e:k=g:=e;omega)]) (by rw[World.size_setCell,World.size_setCell,World.size_setCell];exact x.out.1)⟩
abbrev c3_ (W:World) (g:Nat) (a b c:Value):Prop:=W.cell? ⟨g,0,none⟩=some a/\W.cell? ⟨g,1,none⟩=some b/\W.cell? ⟨g,2,none⟩=some c
end
section
variable {w W:World}
theorem toDeskB (k:Nat) (A0:Option Addr) (c0:Nat) (l0:List Int) (A1:Option Addr) (c1:Nat) (l1:List (List Int)) (A2:Option Addr) (c2:Nat) (l2:List (S40)) (r1:List Int) (r2:List (List Int)) (r3:List B_) (hb:Below w.heap.size w W) (h0:Kd.C (Kd.int .i64) w A0 l0.length l0) (e0:l0.length<=c0) (h1:Kd.C (Kd.slice 3 (Kd.int .i64)) w A1 l1.length l1) (e1:l1.length<=c1) (h2:Kd.C k40 w A2 l2.length l2) (e2:l2.length<=c2) (h:Gh.f k l0 l1 l2=some (r1,r2,r3)) :
    Calls Try.prog 29 #[.agg #[.slice A0 l0.length c0, .slice A1 l1.length c1, .slice A2 l2.length c2]] W fun e w'=>∃A0 c0 A1 c1 A2 c2 lo hi,e = .returned (.agg #[.slice A0 r1.length c0, .slice A1 r2.length c1, .slice A2 r3.length c2])/\lo=W.heap.size/\lo<=hi/\DkS w.heap.size lo hi (.slice A0 r1.length c0) (.slice A1 r2.length c1) (.slice A2 r3.length c2) r1 r2 r3 w'/\Below W.heap.size W w':=by
  refine(Gh.calls_s k A0 c0 l0 A1 c1 l1 A2 c2 l2 r1 r2 r3 W (Kd.C_below h0 hb) e0 (Kd.C_below h1 hb) e1 (Kd.C_below h2 hb) e2 h).mono ?_
  rintro e w' ⟨v0,v1,v2,rfl,hd,hb2⟩
  obtain⟨g0,g1,g2⟩:=hd.tellR
  obtain⟨A0,c0,rfl⟩:=Kd.R_slice g0
  obtain⟨A1,c1,rfl⟩:=Kd.S_slice g1
  obtain⟨A2,c2,rfl⟩:=Kd.R_slice g2
  exact⟨A0,c0,A1,c1,A2,c2,W.heap.size,w'.heap.size,rfl,rfl,hb2.size,hd.lower hb.size,hb2⟩
theorem DqS.reads {lo hi:Nat} {A0:Option Addr} {n0 c0:Nat} {A1:Option Addr} {n1 c1:Nat} {A2:Option Addr} {n2 c2:Nat} {c:List Int} {d:List (List Int)} {ps:List B_} (h:DqS lo hi (.slice A0 n0 c0) (.slice A1 n1 c1) (.slice A2 n2 c2) c d ps W):(n0=c.length/\n0<=c0/\Kd.C (Kd.int .i64) W A0 c.length c)/\(n1=d.length/\n1<=c1/\Kd.C (Kd.slice 3 (Kd.int .i64)) W A1 d.length d)/\n2=ps.length/\n2<=c2/\Kd.C k25 W A2 ps.length ps:=by
  obtain⟨_,h0,h1,h2⟩:=h
  obtain⟨rfl,e1,e2⟩:=Kd.R_reads' h0
  obtain⟨rfl,e3,e4⟩:=Kd.S_reads' h1
  obtain⟨rfl,e5,e6⟩:=Kd.Q_reads' h2
  exact⟨⟨rfl,e1,e2⟩,⟨rfl,e3,e4⟩,rfl,e5,e6⟩
theorem eqDD (k base lo hi base' lo' hi':Nat) (A0:Option Addr) (n0 c0:Nat) (A1:Option Addr) (n1 c1:Nat) (A2:Option Addr) (n2 c2:Nat) (A3:Option Addr) (n3 c3:Nat) (A4:Option Addr) (n4 c4:Nat) (A5:Option Addr) (n5 c5:Nat) (l0:List Int) (l1:List (List Int)) (l2:List B_) (l3:List Int) (l4:List (List Int)) (l5:List B_) (r:Bool) (hd:DkS base lo hi (.slice A0 n0 c0) (.slice A1 n1 c1) (.slice A2 n2 c2) l0 l1 l2 W) (hd':DkS base' lo' hi' (.slice A3 n3 c3) (.slice A4 n4 c4) (.slice A5 n5 c5) l3 l4 l5 W) (h:Gw.f k l0 l1 l2 l3 l4 l5=some r) :
    Calls Try.prog 17 #[.agg #[.slice A0 n0 c0, .slice A1 n1 c1, .slice A2 n2 c2], .agg #[.slice A3 n3 c3, .slice A4 n4 c4, .slice A5 n5 c5]] W fun e w'=>e = .returned (.bool r)/\Below W.heap.size W w':=by
  obtain⟨⟨rfl,q1,q2⟩,⟨rfl,q3,q4⟩,rfl,q5,q6⟩:=hd.reads
  obtain⟨⟨rfl,s1,s2⟩,⟨rfl,s3,s4⟩,rfl,s5,s6⟩:=hd'.reads
  exact Gw.calls k A0 c0 l0 A1 c1 l1 A2 c2 l2 A3 c3 l3 A4 c4 l4 A5 c5 l5 r W q2 q1 q4 q3 q6 q5 s2 s1 s4 s3 s6 s5 h
theorem eqDQ (k base lo hi lo' hi':Nat) (A0:Option Addr) (n0 c0:Nat) (A1:Option Addr) (n1 c1:Nat) (A2:Option Addr) (n2 c2:Nat) (A3:Option Addr) (n3 c3:Nat) (A4:Option Addr) (n4 c4:Nat) (A5:Option Addr) (n5 c5:Nat) (l0:List Int) (l1:List (List Int)) (l2:List B_) (l3:List Int) (l4:List (List Int)) (l5:List B_) (r:Bool) (hd:DkS base lo hi (.slice A0 n0 c0) (.slice A1 n1 c1) (.slice A2 n2 c2) l0 l1 l2 W) (hd':DqS lo' hi' (.slice A3 n3 c3) (.slice A4 n4 c4) (.slice A5 n5 c5) l3 l4 l5 W) (h:Gw.f k l0 l1 l2 l3 l4 l5=some r) :
    Calls Try.prog 17 #[.agg #[.slice A0 n0 c0, .slice A1 n1 c1, .slice A2 n2 c2], .agg #[.slice A3 n3 c3, .slice A4 n4 c4, .slice A5 n5 c5]] W fun e w'=>e = .returned (.bool r)/\Below W.heap.size W w':=by
  obtain⟨⟨rfl,q1,q2⟩,⟨rfl,q3,q4⟩,rfl,q5,q6⟩:=hd.reads
  obtain⟨⟨rfl,s1,s2⟩,⟨rfl,s3,s4⟩,rfl,s5,s6⟩:=hd'.reads
  exact Gw.calls k A0 c0 l0 A1 c1 l1 A2 c2 l2 A3 c3 l3 A4 c4 l4 A5 c5 l5 r W q2 q1 q4 q3 q6 q5 s2 s1 s4 s3 s6 s5 h
theorem heldD (k base lo hi:Nat) (A0:Option Addr) (n0 c0:Nat) (A1:Option Addr) (n1 c1:Nat) (A2:Option Addr) (n2 c2:Nat) (l0:List Int) (l1:List (List Int)) (l2:List B_) (a r:Int) (hd:DkS base lo hi (.slice A0 n0 c0) (.slice A1 n1 c1) (.slice A2 n2 c2) l0 l1 l2 W) (h:G0.f k l0 l1 l2 a=some r) :
    Calls Try.prog 19 #[.agg #[.slice A0 n0 c0, .slice A1 n1 c1, .slice A2 n2 c2], .int .i64 a] W fun e w'=>e = .returned (.int .i64 r)/\Below W.heap.size W w':=by
  obtain⟨⟨rfl,q1,q2⟩,⟨rfl,q3,q4⟩,rfl,q5,q6⟩:=hd.reads
  exact G0.calls k A0 c0 l0 A1 c1 l1 A2 c2 l2 a r W q2 q1 q4 q3 q6 q5 h
end
end Go.Proofs.Ytfooakkhkehpiaa.PE
namespace Go.Proofs.Ytfooakkhkehpiaa.PE
open Go.RowKit Go.Proofs.YtfooakkhkehpiaaW.PrintWords Go.Proofs.YtfooakkhkehpiaaW.PrintLast Go.Proofs.YtfooakkhkehpiaaW.PrintMore Go.Proofs.Ytfooakkhkehpiaa.Qe
attribute [local go_sem] max2_int min2_int max_two min_two max_three min_three max_four min_four
set_option linter.unusedVariables false
set_option linter.unusedSimpArgs false
mutual
def Fj.j0:Nat->List (S69)->Bool->List Int->List (List Int)->List (S25)->Option (List Int × (List (List Int)) × (List (S25)) × Int)
 | 0,_,_,_,_,_=>none
 | k + 1,x1,x18,ep6,ep7,ep8=>if x18=true then(some (([]:List Int),([]:List (List Int)),([]:List (S25)),0)) else((Ff.f k ep6 ep7 ep8).bind fun bt735=>(Fj.l0 k 0 x1 (x1.length:Int) 0 bt735.1 bt735.2.1 bt735.2.2))
def Fj.l0:Nat->Int->List (S69)->Int->Int->List Int->List (List Int)->List (S25)->Option (List Int × (List (List Int)) × (List (S25)) × Int)
 | 0,_,_,_,_,_,_,_=>none
 | k + 1,x6,x22,x23,x24,ep6,ep7,ep8=>if x24 < x23 then(if 0<=x24 then(if x24 < (x22.length:Int) then((Fb.f k ep6 ep7 ep8 ((rd_T69 x22 x24).f0) ((rd_T69 x22 x24).f1) ((rd_T69 x22 x24).f2) ((rd_T69 x22 x24).f3)).bind fun bt746=>(if bt746.2.2.2=true then(Fj.l0 k (wrap64 (x6 + 1)) x22 x23 (wrap64 (x24 + 1)) bt746.1 bt746.2.1 bt746.2.2.1) else(Fj.l0 k x6 x22 x23 (wrap64 (x24 + 1)) ep6 ep7 ep8))) else(none)) else(none)) else(some (ep6,ep7,ep8,x6))
end
def Fj.f (k:Nat) (ab:List Int) (aa:List (List Int)) (aj:List (S25)) (l1:List (S69)):Option (List Int × (List (List Int)) × (List (S25)) × Int):=(F7.f k ab aa aj).bind fun ep9=>(if ep9=true then(Fj.j0 k l1 (decide ((l1.length:Int) > 40)) ab aa aj) else(Fj.j0 k l1 true ab aa aj))
theorem Fj.calls_s_q0 {p:Prop} (h:p:=by repeat(first|(with_reducible first|exact HB.out|apply Jk|apply Jj|apply Ji|refine Jh ?_ mv9.out|refine Jh ?_ mw0.out|refine Jh ?_ js5.out|refine Jh ?_ js6.out)|exact HB.out)):p:=h
set_option maxHeartbeats 8000000 in
set_option maxRecDepth 100000 in
theorem Fj.calls_s (k:Nat) (af:Option Addr) (ac:Nat) (ab:List Int) (ah:Option Addr) (ag:Nat) (aa:List (List Int)) (av:Option Addr) (au:Nat) (aj:List (S25)) (A1:Option Addr) (c1:Nat) (l1:List (S69)) (r1:List Int) (r2:List (List Int)) (r3:List (S25)) (r4:Int) (w:World) (cb:Kd.C (Kd.int .i64) w af ab.length ab) (cg:ab.length<=ac) (cc:Kd.C (Kd.slice 3 (Kd.int .i64)) w ah aa.length aa) (ch:aa.length<=ag) (h9:Kd.C k25 w av aj.length aj) (ia:aj.length<=au) (iu:Kd.C k69 w A1 l1.length l1) (iz:l1.length<=c1) (h:Fj.f k ab aa aj l1=some (r1,r2,r3,r4)) :
  Calls Try.prog 61 #[.agg #[.slice af ab.length ac, .slice ah aa.length ag, .slice av aj.length au], .slice A1 l1.length c1] w fun e w'=>∃v0_ v1_ v2_:Value,e = .returned (.tuple #[.agg #[v0_,v1_,v2_], .int .i64 r4])/\DkS w.heap.size w.heap.size w'.heap.size v0_ v1_ v2_ r1 r2 r3 w'/\Below w.heap.size w w':=by
 have hu28:=Try.underlying28
 have hu69:=Try.underlying69
 have bg:=A_ cb
 have bw:=A_ cg
 clear cb cg
 have bd:=A_ cc
 have b4:=A_ ch
 clear cc ch
 have gg:=A_ h9
 have g3:=A_ ia
 clear h9 ia
 have fs:=A_ iu
 have pe:=A_ iz
 clear iu iz
 have HB:=A_ (Below.refl w.heap.size w)
 have H:=h
 unfold Fj.f at H
 clear h
 have HC3:=A_ H
 clear H
 go_enter Try.func61,Try.ntmps61
 go_upto_region 1 with(first|((with_reducible refine gd_ 2 ?_);(try(refine gate_guard (by rfl) ?_;dsimp only));refine bx_ (N:=2) #[.slice af ab.length ac, .slice ah aa.length ag, .slice av aj.length au] 28 ?_;intro jx hg w4 hbox hb;have ii:=A_ (hbox);have px0:=A_ ((g30_:w.heap.size<=jx));have mv9:=px0;replace HB:=A_ (Jw (Fj.calls_s_q0) hb);clear hb hbox hg)|((with_reducible refine gd_ 4 ?_);(try(refine gate_guard (by rfl) ?_;dsimp only));refine bx_ (N:=4) #[.slice none 0 0, .slice none 0 0, .slice none 0 0] 28 ?_;intro ub hg w5 hbox hb;have mh:=A_ (hbox);have px1:=A_ ((g30_:w.heap.size<=ub));have mw0:=px1;replace HB:=A_ (Jw (Fj.calls_s_q0) hb);have cx4:=nl_ ii hg;have ap3:=nr_ ii hg;replace ii:=bb_ ii hb;clear hb hbox hg))
 (try simp only[Act.put,List.setIfInBounds_toArray,List.set_cons_zero,List.set_cons_succ])
 go_cut [18] (fun v18 wc=>∃(kq:Nat) (bu2:Bool),v18 = .bool bu2/\Jc (Fj.j0 kq l1 bu2 ab aa aj=some (r1,r2,r3,r4))/\Jc (kq<=k)/\Jc (hc_ wc jx #[(.slice af ab.length ac),(.slice ah aa.length ag),(.slice av aj.length au)] 28)/\Jc (hc_ wc ub #[(.slice none 0 0),(.slice none 0 0),(.slice none 0 0)] 28)/\Jc (Below w.heap.size w wc))
 case first=>
  have H:=HC3.out
  clear HC3
  obtain⟨ep9,A6,H⟩:=bind_ H
  by_cases c7:ep9=true
  ·subst c7
   replace H:=ifp_ H
   have H':=A_ H
   clear H
   have dc2:=cx4.out
   have dc3:=ap3.out
   obtain⟨ag5,ag6,cl8,ag7,ag8,cm0⟩:=blk3_ ii
   go_wp2_with (first|((with_reducible refine gc_ 72 ?_);refine gl_ 12 Try.func72 #[.agg #[.slice af ab.length ac, .slice ah aa.length ag, .slice av aj.length au]] ?_;(refine(F7.calls k _ _ ab _ _ aa _ _ aj true _ (uC_ bg) bw.out (uC_ bd) b4.out (uC_ gg) g3.out A6.out).mono ?_);rintro e w10 ⟨rfl,hb⟩;refine⟨_,rfl,?_⟩;replace ii:=bb_ ii hb;replace mh:=bb_ mh hb;replace HB:=A_ (Jw (Fj.calls_s_q0) hb)))
   go_meet
   case rel=>exact⟨_,(decide ((l1.length:Int) > 40)),(g3_),H',⟨g9_⟩,⟨uB_ ii⟩,⟨uB_ mh⟩,⟨Fj.calls_s_q0⟩⟩
  replace c7:=Bool.eq_false_iff.mpr c7
  subst c7
  replace H:=ifn_ H
  have H':=A_ H
  clear H
  have bg8:=cx4.out
  have bg9:=ap3.out
  obtain⟨vu,vv,bb6,vw,vx,bb7⟩:=blk3_ ii
  go_wp2_with (first|((with_reducible refine gc_ 72 ?_);refine gl_ 12 Try.func72 #[.agg #[.slice af ab.length ac, .slice ah aa.length ag, .slice av aj.length au]] ?_;(refine(F7.calls k _ _ ab _ _ aa _ _ aj false _ (uC_ bg) bw.out (uC_ bd) b4.out (uC_ gg) g3.out A6.out).mono ?_);rintro e km ⟨rfl,hb⟩;refine⟨_,rfl,?_⟩;replace ii:=bb_ ii hb;replace mh:=bb_ mh hb;replace HB:=A_ (Jw (Fj.calls_s_q0) hb)))
  go_meet
  case rel=>exact⟨_,(true),(g3_),H',⟨g9_⟩,⟨uB_ ii⟩,⟨uB_ mh⟩,⟨Fj.calls_s_q0⟩⟩
 clear HC3
 obtain⟨kq,bu2,rfl,HA,HJ2,ii,mh,HB⟩:=hcut
 cases kq with
 | zero=>exact absurd HA.out (by simp[Fj.j0])
 | succ kj2=>?_
 have H:=HA.out
 clear HA
 simp only[Fj.j0] at H
 by_cases jl:bu2=true
 ·subst jl
  replace H:=ifp_ H
  simp only[Option.some.injEq,Prod.mk.injEq] at H
  obtain⟨rfl,rfl,rfl,rfl⟩:=H
  have dd9:=ap3.out
  have de0:=cx4.out
  obtain⟨af1,af2,dv6,af3,af4,dv7⟩:=blk3_ mh
  go_wp2
  refine bodyPost_ret (Jy rfl _ _ ub 28 #[.slice none 0 0, .slice none 0 0, .slice none 0 0] (0,0) _ rfl (ba_ mh) Try.underlying28 rfl (g1_)) rfl ?_
  exact⟨_,_,_,g4_,DkS.nil _ (Je (Fj.calls_s_q0)) (Je (Fj.calls_s_q0)),Fj.calls_s_q0⟩
 replace jl:=Bool.eq_false_iff.mpr jl
 subst jl
 replace H:=ifn_ H
 replace H:=Option.bind_eq_some_iff.mp H
 obtain⟨⟨ch3,cx5,dn6⟩,ep3,H⟩:=H
 try dsimp only at H
 have A17:=A_ ep3
 clear ep3
 have H':=A_ H
 clear H
 have ds7:=cx4.out
 have ds8:=ap3.out
 obtain⟨da8,da9,db0,db1,db2,db3⟩:=blk3_ ii
 go_wp2_with (first|((with_reducible refine gc_ 104 ?_);refine gl_ 21 Try.func104 #[.agg #[.slice af ab.length ac, .slice ah aa.length ag, .slice av aj.length au]] ?_;(refine(Ff.calls_s kj2 _ _ ab _ _ aa _ _ aj ch3 cx5 dn6 _ (uC_ bg) bw.out (uC_ bd) b4.out (uC_ gg) g3.out A17.out).mono ?_);rintro e w20 ⟨px2,px3,px4,rfl,hds_,hb⟩;obtain⟨LO,HI,HLO,HDS⟩:=hds_.tk (b:=w.heap.size) (Je (Fj.calls_s_q0));obtain⟨ai,ak,aw⟩:=hds_.tellR;clear hds_;refine⟨_,rfl,?_⟩;have js7:=A_ (Kd.R_lower ai (Je (Fj.calls_s_q0)));have js8:=A_ (Kd.S_lower ak (Je (Fj.calls_s_q0)));have js9:=A_ (Kd.R_lower aw (Je (Fj.calls_s_q0)));replace ii:=bb_ ii hb;replace mh:=bb_ mh hb;replace HB:=A_ (Jw (Fj.calls_s_q0) hb);obtain⟨dn7,dn8,mw1⟩:=Kd.R_slice js7.out;subst mw1;obtain⟨af6,af7,ds9,af8,af9,dt0⟩:=blk3_ ii;obtain⟨ku,f7,cr4⟩:=Kd.S_slice js8.out;subst cr4;obtain⟨ab5,ew,ca8⟩:=Kd.R_slice js9.out;subst ca8))
 go_loopg [6,24] kj2 (fun kq v6 v24 w'=>∃(me:Int) (fd:Int) (ps:List Int) (qw:List (List Int)) (sm:List (S25)) (bk7:Value) (bu9:Value) (ch4:Value),v6 = .int .i64 me/\v24 = .int .i64 fd/\Jc (Fj.l0 kq me l1 (l1.length:Int) fd ps qw sm=some (r1,r2,r3,r4))/\Jc (kq<=kj2)/\Jc (Kd.R (Kd.int .i64) 3 w' w.heap.size (fun _=>True) bk7 ps)/\Jc (Kd.S (Kd.slice 3 (Kd.int .i64)) 22 w' w.heap.size (fun k_=>some k_≠(bk7:Value).ownBlock) bu9 qw)/\Jc (Kd.R k25 25 w' w.heap.size (fun k_=>some k_≠(bk7:Value).ownBlock/\some k_≠(bu9:Value).ownBlock) ch4 sm)/\Jc (hc_ w' jx #[bk7,bu9,ch4] 28)/\Jc (hc_ w' ub #[(.slice none 0 0),(.slice none 0 0),(.slice none 0 0)] 28)/\Jc (Below w.heap.size w w')/\(∃LO HI:Nat,Jc (w.heap.size<=LO)/\Jc (DkS w.heap.size LO HI bk7 bu9 ch4 ps qw sm w')))
 case atStart=>exact⟨(0),(0),(ch3),(cx5),(dn6),(.slice dn7 ch3.length dn8),(.slice ku cx5.length f7),(.slice ab5 dn6.length ew),(g3_),(g3_),H',⟨Nat.le_refl _⟩,⟨ra_ js7⟩,⟨sa_ js8⟩,⟨ra_ js9⟩,⟨ba_ ii⟩,⟨ba_ mh⟩,⟨Fj.calls_s_q0⟩,⟨LO,HI,HLO,⟨DkS.go HDS (g31_)⟩⟩⟩
 clear H'
 clear HDS HLO;obtain⟨me,fd,ps,qw,sm,bk7,bu9,ch4,rfl,rfl,HA,HK2,yh,yi,yj,ii,mh,HB,⟨LO,HI,HLO,HDS⟩⟩:=hrel
 cases gk with
 | zero=>exact absurd HA.out (by simp[Fj.l0])
 | succ k2=>?_
 have H:=HA.out
 clear HA
 simp only[Fj.l0] at H
 by_cases l6:fd < (l1.length:Int)
 case neg=>
  rw[if_neg l6] at H
  have bg1:=decide_eq_false l6
  clear l6
  simp only[Option.some.injEq,Prod.mk.injEq] at H
  obtain⟨rfl,rfl,rfl,rfl⟩:=H
  obtain⟨gn9,go0,go1,go2,go3,go4⟩:=blk3_ ii
  obtain⟨hh8,hh9,mx4⟩:=Kd.R_slice yh.out
  subst mx4
  obtain⟨dj2,dj3,dj4,dj5,dj6,dj7⟩:=blk3_ mh
  obtain⟨ch1,ch2,hf9⟩:=Kd.S_slice yi.out
  subst hf9
  obtain⟨oz,o0,em3⟩:=Kd.R_slice yj.out
  subst em3
  go_wp2
  refine bodyPost_ret (Jy rfl _ _ ub 28 #[.slice hh8 ps.length hh9, .slice ch1 qw.length ch2, .slice oz sm.length o0] (0,0) _ rfl (ba_ mh) Try.underlying28 rfl (g1_)) rfl ?_
  exact⟨_,_,_,g4_,DkS.end_ HDS HLO (g31_),Fj.calls_s_q0⟩
 rw[if_pos l6] at H
 have bg1:=decide_eq_true l6
 clear l6
 obtain⟨co0,H⟩:=pd_ H
 obtain⟨cb0,H⟩:=pd_ H
 replace H:=Option.bind_eq_some_iff.mp H
 obtain⟨⟨ae3,ak4,ap4,mw2⟩,jt0,H⟩:=H
 try dsimp only at H
 have A28:=A_ jt0
 clear jt0
 by_cases o4:mw2=true
 ·subst o4
  replace H:=ifp_ H
  have H':=A_ H
  clear H
  obtain⟨⟨mw3,hg5,eq0,eq1,eq2,eq3⟩,cx6,cx7⟩:=rdp_ (at_T69 fs.out fd)
  cases hg5
  replace eq0:=cl_ HB eq0
  replace eq1:=cl_ HB eq1
  replace eq2:=cl_ HB eq2
  replace eq3:=cl_ HB eq3
  go_wp2_with (first|((with_reducible refine gd_ 8 ?_);(try(refine gate_guard (by rfl) ?_;dsimp only));refine bx_ (N:=8) #[.int .i64 0, .int .i64 0, .int .i64 0, .int .i64 0] 69 ?_;intro ly hg px hbox hb;have hd_:=DkS.mv HDS hb (g31_);clear HDS;have HDS:=hd_;clear hd_;replace yh:=rb_ yh hb;replace yi:=sb_ yi hb;replace yj:=rb_ yj hb;have uc:=A_ (hbox);have mw4:=A_ ((g30_:w.heap.size<=ly));have js5:=mw4;replace HB:=A_ (Jw (Fj.calls_s_q0) hb);have be6:=nl_ ii hg;have hg6:=nr_ ii hg;replace ii:=bb_ ii hb;have be7:=nl_ mh hg;have hg7:=nr_ mh hg;replace mh:=bb_ mh hb;clear hb hbox hg;have gb3:=hg6.out;have gb4:=be6.out;have ee4:=hg7.out;have ee5:=be7.out;obtain⟨hx9,hy1,kg1,px5,hy2,hy3,kg2,px6⟩:=blk4_ uc;have eg5:=cx4.out;have eg6:=ap3.out;obtain⟨bo1,bo2,cd8,bo3,bo4,cd9⟩:=blk3_ ii;obtain⟨gc,fq,cn6⟩:=Kd.R_slice yh.out;subst cn6;obtain⟨nn,m8,di9⟩:=Kd.S_slice yi.out;subst di9;obtain⟨k5,jr,aq9⟩:=Kd.R_slice yj.out;subst aq9)|((with_reducible refine gc_ 102 ?_);refine gl_ 31 Try.func102 #[.agg #[.slice gc ps.length fq, .slice nn qw.length m8, .slice k5 sm.length jr], .agg #[.int .i64 ((rd_T69 l1 fd).f0), .int .i64 ((rd_T69 l1 fd).f1), .int .i64 ((rd_T69 l1 fd).f2), .int .i64 ((rd_T69 l1 fd).f3)]] ?_;(with_reducible refine(Fb.calls_s k2 _ _ ps _ _ qw _ _ sm ((rd_T69 l1 fd).f0) ((rd_T69 l1 fd).f1) ((rd_T69 l1 fd).f2) ((rd_T69 l1 fd).f3) ae3 ak4 ap4 true _ ?side1 ?side2 ?side3 ?side4 ?side5 ?side6 A28.out).mono ?_);(case side1=>refine(Kd.R_reads' (e:=3) (base:=w.heap.size) (ok:=fun k_=>True) (n:=ps.length) (c:=fq) ?_).2.2;exact(ra_ yh));(case side2=>exact lR_ yh);(case side3=>refine(Kd.S_reads' (e:=22) (base:=w.heap.size) (ok:=fun k_=>some k_≠(.slice gc ps.length fq:Value).ownBlock) (n:=qw.length) (c:=m8) ?_).2.2;exact(sa_ yi));(case side4=>exact lS_ yi);(case side5=>refine(Kd.R_reads' (e:=25) (base:=w.heap.size) (ok:=fun k_=>(some k_≠(.slice gc ps.length fq:Value).ownBlock/\some k_≠(.slice nn qw.length m8:Value).ownBlock)) (n:=sm.length) (c:=jr) ?_).2.2;exact(ra_ yj));(case side6=>exact lR_ yj);rintro e w39 ⟨mw5,mw6,mw7,rfl,hds_,hb⟩;obtain⟨LN,HN,HLN,HDN⟩:=hds_.tk (b:=w.heap.size) (Je (Fj.calls_s_q0));obtain⟨ai,ak,aw⟩:=hds_.tellR;clear hds_;have hd_:=DkS.mv HDS hb (g31_);clear HDS;have HDS:=hd_;clear hd_;refine⟨_,rfl,?_⟩;have ch5:=A_ (Kd.R_lower (Kd.R_new' ai (Kd.R_lt (ra_ yh))) (Je (Fj.calls_s_q0)));have ch6:=A_ (Kd.S_lower (Kd.S_new' (Kd.S_new' ak (Kd.R_lt (ra_ yh))) (Kd.S_lt (sa_ yi))) (Je (Fj.calls_s_q0)));have ch7:=A_ (Kd.R_lower (Kd.R_new' (Kd.R_new' (Kd.R_new' aw (Kd.R_lt (ra_ yh))) (Kd.S_lt (sa_ yi))) (Kd.R_lt (ra_ yj))) (Je (Fj.calls_s_q0)));replace yh:=A_ (Kd.R_elder' (ra_ yh) (Kd.R_base ai) hb);replace yi:=A_ (Kd.S_mono (Kd.S_told (Kd.S_told (Kd.S_old (sa_ yi) hb) (Kd.R_base ai)) (Kd.S_base ak)) (fun _ h_=>h_.1));replace yj:=A_ (Kd.R_mono (Kd.R_told (Kd.R_told (Kd.R_told (Kd.R_old (ra_ yj) hb) (Kd.R_base ai)) (Kd.S_base ak)) (Kd.R_base aw)) (fun _ h_=>h_.1));replace ii:=A_ (Jp (g:=jx) (o:=.cells #[.slice gc ps.length fq, .slice nn qw.length m8, .slice k5 sm.length jr] 28 (0,0)) (ba_ ii) hb);replace mh:=A_ (Jp (g:=ub) (o:=.cells #[.slice none 0 0, .slice none 0 0, .slice none 0 0] 28 (0,0)) (ba_ mh) hb);replace uc:=A_ (Jp (g:=ly) (o:=.cells #[.int .i64 ((rd_T69 l1 fd).f0), .int .i64 ((rd_T69 l1 fd).f1), .int .i64 ((rd_T69 l1 fd).f2), .int .i64 ((rd_T69 l1 fd).f3)] 69 (0,0)) (ba_ uc) hb);replace HB:=A_ (Jw (Fj.calls_s_q0) hb))|((with_reducible refine gd_ 9 ?_);(try(refine gate_guard (by rfl) ?_;dsimp only));refine bx_ (N:=9) #[.slice none 0 0, .slice none 0 0, .slice none 0 0] 28 ?_;intro lz hg o5 hbox hb;have hd_:=DkS.mv HDS hb (g31_);clear HDS;have HDS:=hd_;clear hd_;have hd_:=DkS.mv HDN hb (g31_);clear HDN;have HDN:=hd_;clear hd_;replace yh:=rb_ yh hb;replace yi:=sb_ yi hb;replace yj:=rb_ yj hb;replace ch5:=rb_ ch5 hb;replace ch6:=sb_ ch6 hb;replace ch7:=rb_ ch7 hb;have be8:=A_ (hbox);have mw8:=A_ ((g30_:w.heap.size<=lz));have js6:=mw8;replace HB:=A_ (Jw (Fj.calls_s_q0) hb);have bv0:=nl_ ii hg;have hg8:=nr_ ii hg;replace ii:=bb_ ii hb;have bv1:=nl_ mh hg;have hg9:=nr_ mh hg;replace mh:=bb_ mh hb;have hh0:=nl_ uc hg;have hh1:=nr_ uc hg;replace uc:=bb_ uc hb;clear hb hbox hg;obtain⟨a7,ay,ac1⟩:=Kd.R_slice ch5.out;subst ac1;have gq2:=hg8.out;have gq3:=bv0.out;have is5:=hg9.out;have is6:=bv1.out;have fb8:=hh1.out;have fb9:=hh0.out;obtain⟨is7,is8,is9,it0,it1,it2⟩:=blk3_ be8;obtain⟨bs,bt,eb6⟩:=Kd.S_slice ch6.out;subst eb6;obtain⟨de,df,cr3⟩:=Kd.R_slice ch7.out;subst cr3;obtain⟨ee7,ee8,it3,ee9,ef0,it4⟩:=blk3_ ii))
  go_roundg k2
  case measure=>have:=HJ2.out;have:=HK2.out;omega
  case rel=>exact⟨(wrap64 (me + 1)),(wrap64 (fd + 1)),(ae3),(ak4),(ap4),(.slice a7 ae3.length ay),(.slice bs ak4.length bt),(.slice de ap4.length df),(g3_),(g3_),H',⟨g162_⟩,⟨ra_ ch5⟩,⟨sa_ ch6⟩,⟨ra_ ch7⟩,⟨ba_ ii⟩,⟨ba_ mh⟩,⟨Fj.calls_s_q0⟩,⟨LN,HN,HLN,⟨DkS.go HDN (g31_)⟩⟩⟩
 replace o4:=Bool.eq_false_iff.mpr o4
 subst o4
 replace H:=ifn_ H
 have H':=A_ H
 clear H
 obtain⟨⟨mw3,hg5,eq0,eq1,eq2,eq3⟩,cx6,cx7⟩:=rdp_ (at_T69 fs.out fd)
 cases hg5
 replace eq0:=cl_ HB eq0
 replace eq1:=cl_ HB eq1
 replace eq2:=cl_ HB eq2
 replace eq3:=cl_ HB eq3
 go_wp2_with (first|((with_reducible refine gd_ 8 ?_);(try(refine gate_guard (by rfl) ?_;dsimp only));refine bx_ (N:=8) #[.int .i64 0, .int .i64 0, .int .i64 0, .int .i64 0] 69 ?_;intro ly hg w49 hbox hb;have hd_:=DkS.mv HDS hb (g31_);clear HDS;have HDS:=hd_;clear hd_;replace yh:=rb_ yh hb;replace yi:=sb_ yi hb;replace yj:=rb_ yj hb;have uc:=A_ (hbox);have mw4:=A_ ((g30_:w.heap.size<=ly));have js5:=mw4;replace HB:=A_ (Jw (Fj.calls_s_q0) hb);have be6:=nl_ ii hg;have hg6:=nr_ ii hg;replace ii:=bb_ ii hb;have be7:=nl_ mh hg;have hg7:=nr_ mh hg;replace mh:=bb_ mh hb;clear hb hbox hg;have gn3:=hg6.out;have gn4:=be6.out;have px7:=hg7.out;have px8:=be7.out;obtain⟨px9,py0,py1,py2,py3,py4,py5,py6⟩:=blk4_ uc;have it9:=cx4.out;have iu0:=ap3.out;obtain⟨py7,py8,py9,pz0,pz1,pz2⟩:=blk3_ ii;obtain⟨xo,wi,cq4⟩:=Kd.R_slice yh.out;subst cq4;obtain⟨az,ax,bp8⟩:=Kd.S_slice yi.out;subst bp8;obtain⟨d4,dx,eh4⟩:=Kd.R_slice yj.out;subst eh4)|((with_reducible refine gc_ 102 ?_);refine gl_ 31 Try.func102 #[.agg #[.slice xo ps.length wi, .slice az qw.length ax, .slice d4 sm.length dx], .agg #[.int .i64 ((rd_T69 l1 fd).f0), .int .i64 ((rd_T69 l1 fd).f1), .int .i64 ((rd_T69 l1 fd).f2), .int .i64 ((rd_T69 l1 fd).f3)]] ?_;(with_reducible refine(Fb.calls_s k2 _ _ ps _ _ qw _ _ sm ((rd_T69 l1 fd).f0) ((rd_T69 l1 fd).f1) ((rd_T69 l1 fd).f2) ((rd_T69 l1 fd).f3) ae3 ak4 ap4 false _ ?side1 ?side2 ?side3 ?side4 ?side5 ?side6 A28.out).mono ?_);(case side1=>refine(Kd.R_reads' (e:=3) (base:=w.heap.size) (ok:=fun k_=>True) (n:=ps.length) (c:=wi) ?_).2.2;exact(ra_ yh));(case side2=>exact lR_ yh);(case side3=>refine(Kd.S_reads' (e:=22) (base:=w.heap.size) (ok:=fun k_=>some k_≠(.slice xo ps.length wi:Value).ownBlock) (n:=qw.length) (c:=ax) ?_).2.2;exact(sa_ yi));(case side4=>exact lS_ yi);(case side5=>refine(Kd.R_reads' (e:=25) (base:=w.heap.size) (ok:=fun k_=>(some k_≠(.slice xo ps.length wi:Value).ownBlock/\some k_≠(.slice az qw.length ax:Value).ownBlock)) (n:=sm.length) (c:=dx) ?_).2.2;exact(ra_ yj));(case side6=>exact lR_ yj);rintro e lp ⟨mw5,mw6,mw7,rfl,hds_,hb⟩;obtain⟨LN,HN,HLN,HDN⟩:=hds_.tk (b:=w.heap.size) (Je (Fj.calls_s_q0));obtain⟨ai,ak,aw⟩:=hds_.tellR;clear hds_;have hd_:=DkS.mv HDS hb (g31_);clear HDS;have HDS:=hd_;clear hd_;refine⟨_,rfl,?_⟩;have ch5:=A_ (Kd.R_lower (Kd.R_new' ai (Kd.R_lt (ra_ yh))) (Je (Fj.calls_s_q0)));have ch6:=A_ (Kd.S_lower (Kd.S_new' (Kd.S_new' ak (Kd.R_lt (ra_ yh))) (Kd.S_lt (sa_ yi))) (Je (Fj.calls_s_q0)));have ch7:=A_ (Kd.R_lower (Kd.R_new' (Kd.R_new' (Kd.R_new' aw (Kd.R_lt (ra_ yh))) (Kd.S_lt (sa_ yi))) (Kd.R_lt (ra_ yj))) (Je (Fj.calls_s_q0)));replace yh:=A_ (Kd.R_elder' (ra_ yh) (Kd.R_base ai) hb);replace yi:=A_ (Kd.S_mono (Kd.S_told (Kd.S_told (Kd.S_old (sa_ yi) hb) (Kd.R_base ai)) (Kd.S_base ak)) (fun _ h_=>h_.1));replace yj:=A_ (Kd.R_mono (Kd.R_told (Kd.R_told (Kd.R_told (Kd.R_old (ra_ yj) hb) (Kd.R_base ai)) (Kd.S_base ak)) (Kd.R_base aw)) (fun _ h_=>h_.1));replace ii:=A_ (Jp (g:=jx) (o:=.cells #[.slice xo ps.length wi, .slice az qw.length ax, .slice d4 sm.length dx] 28 (0,0)) (ba_ ii) hb);replace mh:=A_ (Jp (g:=ub) (o:=.cells #[.slice none 0 0, .slice none 0 0, .slice none 0 0] 28 (0,0)) (ba_ mh) hb);replace uc:=A_ (Jp (g:=ly) (o:=.cells #[.int .i64 ((rd_T69 l1 fd).f0), .int .i64 ((rd_T69 l1 fd).f1), .int .i64 ((rd_T69 l1 fd).f2), .int .i64 ((rd_T69 l1 fd).f3)] 69 (0,0)) (ba_ uc) hb);replace HB:=A_ (Jw (Fj.calls_s_q0) hb))|((with_reducible refine gd_ 9 ?_);(try(refine gate_guard (by rfl) ?_;dsimp only));refine bx_ (N:=9) #[.slice none 0 0, .slice none 0 0, .slice none 0 0] 28 ?_;intro lz hg w59 hbox hb;have hd_:=DkS.mv HDS hb (g31_);clear HDS;have HDS:=hd_;clear hd_;have hd_:=DkS.mv HDN hb (g31_);clear HDN;have HDN:=hd_;clear hd_;replace yh:=rb_ yh hb;replace yi:=sb_ yi hb;replace yj:=rb_ yj hb;replace ch5:=rb_ ch5 hb;replace ch6:=sb_ ch6 hb;replace ch7:=rb_ ch7 hb;have be8:=A_ (hbox);have mw8:=A_ ((g30_:w.heap.size<=lz));have js6:=mw8;replace HB:=A_ (Jw (Fj.calls_s_q0) hb);have bv0:=nl_ ii hg;have hg8:=nr_ ii hg;replace ii:=bb_ ii hb;have bv1:=nl_ mh hg;have hg9:=nr_ mh hg;replace mh:=bb_ mh hb;have hh0:=nl_ uc hg;have hh1:=nr_ uc hg;replace uc:=bb_ uc hb;clear hb hbox hg;obtain⟨hh2,hh3,mw9⟩:=Kd.R_slice ch5.out;subst mw9;have mx0:=hg8.out;have mx1:=bv0.out;have fl0:=hg9.out;have fl1:=bv1.out;have jl5:=hh1.out;have jl6:=hh0.out;obtain⟨jl7,jl8,jl9,jm0,jm1,jm2⟩:=blk3_ be8;obtain⟨hh4,hh5,mx2⟩:=Kd.S_slice ch6.out;subst mx2;obtain⟨hh6,hh7,mx3⟩:=Kd.R_slice ch7.out;subst mx3))
 go_roundg k2
 case measure=>have:=HJ2.out;have:=HK2.out;omega
 case rel=>exact⟨(me),(wrap64 (fd + 1)),(ps),(qw),(sm),(.slice xo ps.length wi),(.slice az qw.length ax),(.slice d4 sm.length dx),(g3_),(g3_),H',⟨g162_⟩,⟨ra_ yh⟩,⟨sa_ yi⟩,⟨ra_ yj⟩,⟨ba_ ii⟩,⟨ba_ mh⟩,⟨Fj.calls_s_q0⟩,⟨LO,HI,HLO,⟨DkS.go HDS (g31_)⟩⟩⟩
mutual
def Fp.j0:Nat->List (S69)->Bool->List Int->List (List Int)->List (S25)->Option (List Int × (List (List Int)) × (List (S25)) × Int)
 | 0,_,_,_,_,_=>none
 | k + 1,x1,x18,mu5,mu6,mu7=>if x18=true then(some (([]:List Int),([]:List (List Int)),([]:List (S25)),0)) else((Fn.f k mu5 mu6 mu7).bind fun bt701=>(Fp.l0 k x1 0 0 bt701.1 bt701.2.1 bt701.2.2))
def Fp.l0:Nat->List (S69)->Int->Int->List Int->List (List Int)->List (S25)->Option (List Int × (List (List Int)) × (List (S25)) × Int)
 | 0,_,_,_,_,_,_=>none
 | k + 1,x1,x7,x8,he6,he7,he8=>if x8 < (x1.length:Int) then(if 0<=x8 then((G1.f k he6 he7 he8 ((rd_T69 x1 x8).f0) ((rd_T69 x1 x8).f1) ((rd_T69 x1 x8).f2) ((rd_T69 x1 x8).f3)).bind fun bt712=>(if bt712.2.2.2=true then(Fp.l0 k x1 (wrap64 (x7 + 1)) (wrap64 (x8 + 1)) bt712.1 bt712.2.1 bt712.2.2.1) else(Fp.l0 k x1 x7 (wrap64 (x8 + 1)) he6 he7 he8))) else(none)) else(some (he6,he7,he8,x7))
end
def Fp.f (k:Nat) (ab:List Int) (aa:List (List Int)) (aj:List (S25)) (l1:List (S69)):Option (List Int × (List (List Int)) × (List (S25)) × Int):=(Fv.f k ab aa aj).bind fun ep0=>(if ep0=true then(Fp.j0 k l1 (decide ((l1.length:Int) > 40)) ab aa aj) else(Fp.j0 k l1 true ab aa aj))
def Fp.T8:Bool × List (List Nat × List Nat):=(true,[([],[]),([],[]),([],[]),([1,2],[1,2]),([3],[3]),([0,4],[0,4]),([5],[5]),([6],[6]),([6],[6]),([],[]),([9,7,5,0,1,2,3,4,5,6,7,9],[7,9]),([8,10,0,1,2,3,4,5,6,7,8,9,10],[8])])
def Fp.B8:List Nat:=[0,0,0,6,14,31,63,127,127,0,767,2047]
theorem Fp.tab8:rtab .any (opsOf Try.f59 8)=Fp.T8:=by kernel_rfl
theorem Fp.bits8:waitsOk Fp.T8.2 Fp.B8=true:=by kernel_rfl
theorem kl {p:Prop} (h:p:=by repeat(first|(with_reducible first|exact HB.out|apply Jk|apply Jj|apply Ji|refine Jh ?_ mu8.out|refine Jh ?_ mu9.out|refine Jh ?_ mv0.out|refine Jh ?_ bk6.out)|exact HB.out)):p:=h
theorem Fp.calls.z0 {p:Prop} (h:p:=by exact norm_ (g14_) (hCont (tm,yg,ao9,dc) _ ⟨hHeld,(yR_ ap0 (fun _ hk=>hk.2)),(yS_ ap1 (fun _ hk=>⟨hk.1.1,⟨hk.1.2,hk.2⟩⟩)),(yQ_ ap2 (fun _ hk=>⟨hk.1.1.1.1,⟨hk.1.1.1.2,⟨hk.1.1.2,⟨hk.1.2,hk.2⟩⟩⟩⟩)),(yR_ i6 (fun _ hk=>hk.2)),(yS_ jq (fun _ hk=>⟨hk.1.2,⟨hk.2,hk.1.1⟩⟩)),(yQ_ kb (fun _ hk=>⟨hk.1.1.2,⟨hk.1.2,⟨hk.2,⟨hk.1.1.1.1,hk.1.1.1.2⟩⟩⟩⟩)),(uB_ i4),(uB_ ip),(uB_ e9),(uB_ mw),dh.out,bk6.out,sk.out,z8.out,sl.out,z9.out,kx.out,aa0.out,(kl)⟩)):p:=h
set_option maxHeartbeats 8000000 in
set_option maxRecDepth 100000 in
theorem Fp.calls (k:Nat) (af:Option Addr) (ac:Nat) (ab:List Int) (ah:Option Addr) (ag:Nat) (aa:List (List Int)) (av:Option Addr) (au:Nat) (aj:List (S25)) (A1:Option Addr) (c1:Nat) (l1:List (S69)) (r1:List Int) (r2:List (List Int)) (r3:List (S25)) (r4:Int) (w:World) (cb:Kd.C (Kd.int .i64) w af ab.length ab) (cg:ab.length<=ac) (cc:Kd.C (Kd.slice 3 (Kd.int .i64)) w ah aa.length aa) (ch:aa.length<=ag) (h9:Kd.C k25 w av aj.length aj) (ia:aj.length<=au) (iu:Kd.C k69 w A1 l1.length l1) (iz:l1.length<=c1) (h:Fp.f k ab aa aj l1=some (r1,r2,r3,r4)) :
  Calls Try.prog 59 #[.agg #[.slice af ab.length ac, .slice ah aa.length ag, .slice av aj.length au], .slice A1 l1.length c1] w fun e w'=>∃v0_ v1_ v2_:Value,e = .returned (.tuple #[.agg #[v0_,v1_,v2_], .int .i64 r4])/\Kd.R (Kd.int .i64) 3 w' w.heap.size (fun _=>True) v0_ r1/\Kd.S (Kd.slice 3 (Kd.int .i64)) 22 w' w.heap.size (fun k_=>some k_≠(v0_:Value).ownBlock) v1_ r2/\Kd.Q k25 25 w' w.heap.size (fun k_=>some k_≠(v0_:Value).ownBlock/\some k_≠(v1_:Value).ownBlock) v2_ r3/\Below w.heap.size w w':=by
 have hu28:=Try.underlying28
 have hu69:=Try.underlying69
 have bg:=A_ cb
 have bw:=A_ cg
 clear cb cg
 have bd:=A_ cc
 have b4:=A_ ch
 clear cc ch
 have gg:=A_ h9
 have g3:=A_ ia
 clear h9 ia
 have fs:=A_ iu
 have pe:=A_ iz
 clear iu iz
 have HB:=A_ (Below.refl w.heap.size w)
 have H:=h
 unfold Fp.f at H
 clear h
 have HC3:=A_ H
 clear H
 go_enter Try.func59,Try.ntmps59
 go_upto_region 1 with(first|((with_reducible refine gd_ 2 ?_);(try(refine gate_guard (by rfl) ?_;dsimp only));refine bx_ (N:=2) #[.slice af ab.length ac, .slice ah aa.length ag, .slice av aj.length au] 28 ?_;intro nu hg w4 hbox hb;have i4:=A_ (hbox);have ps9:=A_ ((g21_:w.heap.size<=nu));have mu8:=ps9;replace HB:=hs_ (kl) hb;clear hb hbox hg)|((with_reducible refine gd_ 4 ?_);(try(refine gate_guard (by rfl) ?_;dsimp only));refine bx_ (N:=4) #[.slice none 0 0, .slice none 0 0, .slice none 0 0] 28 ?_;intro kk hg w5 hbox hb;have ip:=A_ (hbox);have pt0:=A_ ((g21_:w.heap.size<=kk));have mu9:=pt0;replace HB:=hs_ (kl) hb;have ep1:=nl_ i4 hg;have ep2:=nr_ i4 hg;replace i4:=bb_ i4 hb;clear hb hbox hg))
 (try simp only[Act.put,List.setIfInBounds_toArray,List.set_cons_zero,List.set_cons_succ])
 go_cut [18] (fun v18 wc=>∃(kq:Nat) (bu2:Bool),v18 = .bool bu2/\Jc (Fp.j0 kq l1 bu2 ab aa aj=some (r1,r2,r3,r4))/\Jc (kq<=k)/\Jc (hc_ wc nu #[(.slice af ab.length ac),(.slice ah aa.length ag),(.slice av aj.length au)] 28)/\Jc (hc_ wc kk #[(.slice none 0 0),(.slice none 0 0),(.slice none 0 0)] 28)/\Jc (Below w.heap.size w wc))
 case first=>
  have H:=HC3.out
  clear HC3
  obtain⟨ep0,A6,H⟩:=bind_ H
  by_cases c7:ep0=true
  ·subst c7
   replace H:=ifp_ H
   have H':=A_ H
   clear H
   have dc2:=ep1.out
   have dc3:=ep2.out
   obtain⟨ag5,ag6,cl8,ag7,ag8,cm0⟩:=blk3_ i4
   go_wp2_with (first|((with_reducible refine gc_ 28 ?_);refine gl_ 12 Try.func28 #[.agg #[.slice af ab.length ac, .slice ah aa.length ag, .slice av aj.length au]] ?_;(refine(Fv.calls k _ _ ab _ _ aa _ _ aj true _ (uC_ bg) bw.out (uC_ bd) b4.out (uC_ gg) g3.out A6.out).mono ?_);rintro e w10 ⟨rfl,hb⟩;refine⟨_,rfl,?_⟩;replace i4:=bb_ i4 hb;replace ip:=bb_ ip hb;replace HB:=hs_ (kl) hb))
   go_meet
   case rel=>exact⟨_,(decide ((l1.length:Int) > 40)),(g3_),H',⟨g9_⟩,⟨uB_ i4⟩,⟨uB_ ip⟩,⟨kl⟩⟩
  replace c7:=Bool.eq_false_iff.mpr c7
  subst c7
  replace H:=ifn_ H
  have H':=A_ H
  clear H
  have bg8:=ep1.out
  have bg9:=ep2.out
  obtain⟨vu,vv,bb6,vw,vx,bb7⟩:=blk3_ i4
  go_wp2_with (first|((with_reducible refine gc_ 28 ?_);refine gl_ 12 Try.func28 #[.agg #[.slice af ab.length ac, .slice ah aa.length ag, .slice av aj.length au]] ?_;(refine(Fv.calls k _ _ ab _ _ aa _ _ aj false _ (uC_ bg) bw.out (uC_ bd) b4.out (uC_ gg) g3.out A6.out).mono ?_);rintro e km ⟨rfl,hb⟩;refine⟨_,rfl,?_⟩;replace i4:=bb_ i4 hb;replace ip:=bb_ ip hb;replace HB:=hs_ (kl) hb))
  go_meet
  case rel=>exact⟨_,(true),(g3_),H',⟨g9_⟩,⟨uB_ i4⟩,⟨uB_ ip⟩,⟨kl⟩⟩
 clear HC3
 obtain⟨kq,bu2,rfl,HA,HJ2,i4,ip,HB⟩:=hcut
 cases kq with
 | zero=>exact absurd HA.out (by simp[Fp.j0])
 | succ kj2=>?_
 have H:=HA.out
 clear HA
 simp only[Fp.j0] at H
 by_cases jl:bu2=true
 ·subst jl
  replace H:=ifp_ H
  simp only[Option.some.injEq,Prod.mk.injEq] at H
  obtain⟨rfl,rfl,rfl,rfl⟩:=H
  have dd9:=ep2.out
  have de0:=ep1.out
  obtain⟨af1,af2,dv6,af3,af4,dv7⟩:=blk3_ ip
  go_wp2
  refine bodyPost_ret (Jy rfl _ _ kk 28 #[.slice none 0 0, .slice none 0 0, .slice none 0 0] (0,0) _ rfl (ba_ ip) Try.underlying28 rfl (g1_)) rfl ?_
  exact⟨_,_,_,g4_,g34_,g41_,Kd.Q_of_R (g34_),kl⟩
 replace jl:=Bool.eq_false_iff.mpr jl
 subst jl
 replace H:=ifn_ H
 replace H:=Option.bind_eq_some_iff.mp H
 obtain⟨⟨ch0,cx1,dm9⟩,ep3,H⟩:=H
 try dsimp only at H
 have A17:=A_ ep3
 clear ep3
 have H':=A_ H
 clear H
 have ds7:=ep1.out
 have ds8:=ep2.out
 obtain⟨da8,da9,db0,db1,db2,db3⟩:=blk3_ i4
 go_wp2_with (first|((with_reducible refine gc_ 100 ?_);refine gl_ 21 Try.func100 #[.agg #[.slice af ab.length ac, .slice ah aa.length ag, .slice av aj.length au]] ?_;(refine(Fn.calls kj2 _ _ ab _ _ aa _ _ aj ch0 cx1 dm9 _ (uC_ bg) bw.out (uC_ bd) b4.out (uC_ gg) g3.out A17.out).mono ?_);rintro e w20 ⟨pt1,pt2,pt3,rfl,ai,ak,aw,hb⟩;refine⟨_,rfl,?_⟩;have fp3:=A_ (Kd.R_lower ai (Je (kl)));have fp4:=A_ (Kd.S_lower ak (Je (kl)));have fp5:=A_ (Kd.R_lower aw (Je (kl)));replace i4:=bb_ i4 hb;replace ip:=bb_ ip hb;replace HB:=hs_ (kl) hb)|((with_reducible refine gd_ 6 ?_);(try(refine gate_guard (by rfl) ?_;dsimp only));refine bx_ (N:=6) #[.slice none 0 0, .slice none 0 0, .slice none 0 0] 28 ?_;intro fm hg w21 hbox hb;replace fp3:=rb_ fp3 hb;replace fp4:=sb_ fp4 hb;replace fp5:=rb_ fp5 hb;have e9:=A_ (hbox);have pt4:=A_ ((g21_:w.heap.size<=fm));have mv0:=pt4;replace HB:=hs_ (kl) hb;have bu3:=nl_ i4 hg;have he9:=nr_ i4 hg;replace i4:=bb_ i4 hb;have bu4:=nl_ ip hg;have hf1:=nr_ ip hg;replace ip:=bb_ ip hb;clear hb hbox hg;obtain⟨iv,iw,ct6⟩:=Kd.R_slice fp3.out;subst ct6;have il1:=he9.out;have il2:=bu3.out;have fd3:=hf1.out;have fd4:=bu4.out;obtain⟨fc4,fc5,jr4,fc6,fc7,jr5⟩:=blk3_ e9;obtain⟨kr,ks,qy⟩:=Kd.S_slice fp4.out;subst qy;obtain⟨mc,l7,qn⟩:=Kd.R_slice fp5.out;subst qn))
 go_loopg [7,8] kj2 (fun kq v7 v8 w'=>∃(ep4:Int) (bi:Int) (f4:List Int) (gw:List (List Int)) (i5:List (S25)) (ep5:Value) (fp6:Value) (hf2:Value),v7 = .int .i64 ep4/\v8 = .int .i64 bi/\Jc (Fp.l0 kq l1 ep4 bi f4 gw i5=some (r1,r2,r3,r4))/\Jc (kq<=kj2)/\Jc (Kd.R (Kd.int .i64) 3 w' w.heap.size (fun _=>True) ep5 f4)/\Jc (Kd.S (Kd.slice 3 (Kd.int .i64)) 22 w' w.heap.size (fun k_=>some k_≠(ep5:Value).ownBlock) fp6 gw)/\Jc (Kd.Q k25 25 w' w.heap.size (fun k_=>some k_≠(ep5:Value).ownBlock/\some k_≠(fp6:Value).ownBlock) hf2 i5)/\Jc (hc_ w' nu #[(.slice af ab.length ac),(.slice ah aa.length ag),(.slice av aj.length au)] 28)/\Jc (hc_ w' kk #[(.slice none 0 0),(.slice none 0 0),(.slice none 0 0)] 28)/\Jc (hc_ w' fm #[ep5,fp6,hf2] 28)/\Jc (Below w.heap.size w w'))
 case atStart=>exact⟨(0),(0),(ch0),(cx1),(dm9),(.slice iv ch0.length iw),(.slice kr cx1.length ks),(.slice mc dm9.length l7),(g3_),(g3_),H',⟨Nat.le_refl _⟩,⟨ra_ fp3⟩,⟨sa_ fp4⟩,⟨Kd.Q_of_R (ra_ fp5)⟩,⟨ba_ i4⟩,⟨ba_ ip⟩,⟨ba_ e9⟩,⟨kl⟩⟩
 clear H'
 obtain⟨ep4,bi,f4,gw,i5,ep5,fp6,hf2,rfl,rfl,HA,HK2,i6,jq,kb,i4,ip,e9,HB⟩:=hrel
 cases gk with
 | zero=>exact absurd HA.out (by simp[Fp.l0])
 | succ k2=>?_
 have H:=HA.out
 clear HA
 simp only[Fp.l0] at H
 by_cases lo:bi < (l1.length:Int)
 case neg=>
  rw[if_neg lo] at H
  have bp0:=decide_eq_false lo
  clear lo
  simp only[Option.some.injEq,Prod.mk.injEq] at H
  obtain⟨rfl,rfl,rfl,rfl⟩:=H
  have gn7:=he9.out
  have gn8:=bu3.out
  have kv4:=hf1.out
  have kv5:=bu4.out
  obtain⟨lg3,lg4,pw5,lg5,lg6,pw6⟩:=blk3_ e9
  obtain⟨dn0,dn1,mv2⟩:=Kd.R_slice i6.out
  subst mv2
  obtain⟨dj2,dj3,dj4,dj5,dj6,dj7⟩:=blk3_ ip
  obtain⟨ch1,ch2,hf9⟩:=Kd.S_slice jq.out
  subst hf9
  obtain⟨oz,o0,em3,_⟩:=Kd.Q_slice kb.out
  subst em3
  go_wp2
  refine bodyPost_ret (Jy rfl _ _ kk 28 #[.slice dn0 f4.length dn1, .slice ch1 gw.length ch2, .slice oz i5.length o0] (0,0) _ rfl (ba_ ip) Try.underlying28 rfl (g1_)) rfl ?_
  exact⟨_,_,_,g4_,ra_ i6,sa_ jq,qa_ kb,kl⟩
 rw[if_pos lo] at H
 have bp0:=decide_eq_true lo
 clear lo
 obtain⟨gh7,H⟩:=pd_ H
 replace H:=Option.bind_eq_some_iff.mp H
 obtain⟨⟨tl,ua,vp,mv1⟩,jr6,H⟩:=H
 try dsimp only at H
 have zg:=A_ jr6
 clear jr6
 by_cases ta:mv1=true
 ·subst ta
  replace H:=ifp_ H
  have H':=A_ H
  clear H
  obtain⟨bu,bl,bh3⟩:=Kd.R_slice i6.out
  subst bh3
  obtain⟨cl,b7,am6⟩:=Kd.S_slice jq.out
  subst am6
  obtain⟨oq,n0,cn8,_⟩:=Kd.Q_slice kb.out
  subst cn8
  try go_wp2
  replace i6:=rd_ i6
  replace jq:=sd_ jq
  replace kb:=qd_ kb
  replace i4:=bd_ i4
  replace ip:=bd_ ip
  replace e9:=bd_ e9
  replace HB:=A_ (Ji HB.out)
  obtain⟨⟨j8,hf3,bu5,bu6,bu7,bu8⟩,cx2,cx3⟩:=rdp_ (at_T69 fs.out bi)
  have lu:=bu8
  have lv:=bu7
  have lw:=bu6
  have lx:=bu5
  cases hf3
  replace bu5:=cl_ HB bu5
  replace bu6:=cl_ HB bu6
  replace bu7:=cl_ HB bu7
  replace bu8:=cl_ HB bu8
  refine start_ (n:=12) (S:=fun w'=>w'.cell? ⟨fm,0,none⟩=some (.slice bu f4.length bl)/\w'.cell? ⟨fm,1,none⟩=some (.slice cl gw.length b7)/\w'.cell? ⟨fm,2,none⟩=some (.slice oq i5.length n0)/\w'.cell? (j8.add ((bi).toNat * 4))=some (.int .i64 ((rd_T69 l1 bi).f0))/\w'.cell? ⟨(j8.add ((bi).toNat * 4)).block,(j8.add ((bi).toNat * 4)).off + 1,none⟩=some (.int .i64 ((rd_T69 l1 bi).f1))/\w'.cell? ⟨(j8.add ((bi).toNat * 4)).block,(j8.add ((bi).toNat * 4)).off + 2,none⟩=some (.int .i64 ((rd_T69 l1 bi).f2))/\w'.cell? ⟨(j8.add ((bi).toNat * 4)).block,(j8.add ((bi).toNat * 4)).off + 3,none⟩=some (.int .i64 ((rd_T69 l1 bi).f3))) (ds:=[]) (tl_ 12 0) (g1_) rfl (g1_) ⟨(Jd e9.out 0).trans rfl,(Jd e9.out 1).trans rfl,(Jd e9.out 2).trans rfl,((cl_ HB lx).trans rfl),((cl_ HB lw).trans rfl),((cl_ HB lv).trans rfl),((cl_ HB lu).trans rfl)⟩ (fun hHeld=>?_);refine Jx Fp.tab8 Fp.bits8 (fun HT_ HW_=>?_)
  generalize wr.drew=w35 at i6 jq kb i4 ip e9 HB bu5 bu6 bu7 bu8 hHeld |-
  refine pw_ 1 30 (tl_ 12 2) ?_
  refine pw_ 2 31 (tl_ 12 6) ?_
  refine pw_ 3 32 (tl_ 12 14) ?_
  refine tk3_ 0 29 (tl_ 12 15) hHeld ?_
  refine tk3_ 4 33 (tl_ 12 31) hHeld ?_
  refine join_ (σ:=Value × Value × Value × Nat) 2 (tl_ 12 1023) (fun s_=>[(34, .tuple #[.agg #[s_.1,s_.2.1,s_.2.2.1], .bool true]),(9, .pointer (some ⟨s_.2.2.2,0,none⟩)),(28, .tuple #[.agg #[s_.1,s_.2.1,s_.2.2.1], .bool true]),(35, .agg #[s_.1,s_.2.1,s_.2.2.1]),(36, .bool true)]) (fun s_ w'=>(w'.cell? ⟨fm,0,none⟩=some (.slice bu f4.length bl)/\w'.cell? ⟨fm,1,none⟩=some (.slice cl gw.length b7)/\w'.cell? ⟨fm,2,none⟩=some (.slice oq i5.length n0)/\w'.cell? (j8.add ((bi).toNat * 4))=some (.int .i64 ((rd_T69 l1 bi).f0))/\w'.cell? ⟨(j8.add ((bi).toNat * 4)).block,(j8.add ((bi).toNat * 4)).off + 1,none⟩=some (.int .i64 ((rd_T69 l1 bi).f1))/\w'.cell? ⟨(j8.add ((bi).toNat * 4)).block,(j8.add ((bi).toNat * 4)).off + 2,none⟩=some (.int .i64 ((rd_T69 l1 bi).f2))/\w'.cell? ⟨(j8.add ((bi).toNat * 4)).block,(j8.add ((bi).toNat * 4)).off + 3,none⟩=some (.int .i64 ((rd_T69 l1 bi).f3)))/\(Kd.R (Kd.int .i64) 3 w' w.heap.size (fun k_=>some k_≠(.slice bu f4.length bl:Value).ownBlock) s_.1 tl)/\(Kd.S (Kd.slice 3 (Kd.int .i64)) 22 w' w.heap.size (fun k_=>some k_≠(s_.1:Value).ownBlock/\some k_≠(.slice bu f4.length bl:Value).ownBlock/\some k_≠(.slice cl gw.length b7:Value).ownBlock) s_.2.1 ua)/\(Kd.Q k25 25 w' w.heap.size (fun k_=>some k_≠(s_.1:Value).ownBlock/\some k_≠(s_.2.1:Value).ownBlock/\some k_≠(.slice bu f4.length bl:Value).ownBlock/\some k_≠(.slice cl gw.length b7:Value).ownBlock/\some k_≠(.slice oq i5.length n0:Value).ownBlock) s_.2.2.1 vp)/\(Kd.R (Kd.int .i64) 3 w' w.heap.size (fun k_=>some k_≠(s_.1:Value).ownBlock) (.slice bu f4.length bl) f4)/\(Kd.S (Kd.slice 3 (Kd.int .i64)) 22 w' w.heap.size (fun k_=>some k_≠(s_.1:Value).ownBlock/\some k_≠(s_.2.1:Value).ownBlock/\some k_≠(.slice bu f4.length bl:Value).ownBlock) (.slice cl gw.length b7) gw)/\(Kd.Q k25 25 w' w.heap.size (fun k_=>some k_≠(s_.1:Value).ownBlock/\some k_≠(s_.2.1:Value).ownBlock/\some k_≠(s_.2.2.1:Value).ownBlock/\some k_≠(.slice bu f4.length bl:Value).ownBlock/\some k_≠(.slice cl gw.length b7:Value).ownBlock) (.slice oq i5.length n0) i5)/\(hc_ w' nu #[.slice af ab.length ac, .slice ah aa.length ag, .slice av aj.length au] 28)/\(hc_ w' kk #[.slice none 0 0, .slice none 0 0, .slice none 0 0] 28)/\(hc_ w' fm #[.slice bu f4.length bl, .slice cl gw.length b7, .slice oq i5.length n0] 28)/\(hc_ w' s_.2.2.2 #[.slice none 0 0, .slice none 0 0, .slice none 0 0] 28)/\(w.heap.size<=s_.2.2.2)/\(w.heap.size<=s_.2.2.2)/\(nu≠s_.2.2.2)/\(s_.2.2.2≠nu)/\(kk≠s_.2.2.2)/\(s_.2.2.2≠kk)/\(fm≠s_.2.2.2)/\(s_.2.2.2≠fm)/\(Below w.heap.size w w')) ?_ ?_
  rotate_left
  ·intro hCont
   refine two_ (i:=5) (j:=9) (Ni:=some 34) (Nj:=some 9) (tl_ 12 63) (tl_ 12 543) rfl rfl rfl rfl (two_of HT_.out (g1_)) (by decide) (by decide) (fun K hK=>?_) (fun K hK=>?_)
   ·skip
    refine goes_ Try.func54 (g1_) rfl #[.agg #[.slice bu f4.length bl, .slice cl gw.length b7, .slice oq i5.length n0], .agg #[.int .i64 ((rd_T69 l1 bi).f0), .int .i64 ((rd_T69 l1 bi).f1), .int .i64 ((rd_T69 l1 bi).f2), .int .i64 ((rd_T69 l1 bi).f3)]] (by rfl) rfl rfl (gM_) ?_
    refine(G1.calls k2 _ _ f4 _ _ gw _ _ i5 ((rd_T69 l1 bi).f0) ((rd_T69 l1 bi).f1) ((rd_T69 l1 bi).f2) ((rd_T69 l1 bi).f3) tl ua vp true _ (cR_ i6) (lR_ i6) (cS_ jq) (lS_ jq) (cQ_ kb) (lQ_ kb) zg.out).mono ?_
    rintro e kt ⟨tm,yg,ao9,rfl,ai,ak,aw,hb⟩
    refine⟨_,rfl,?_⟩
    have ap0:=A_ (Kd.R_lower (Kd.R_new' ai (Kd.R_lt (uR_ i6))) (Je (kl)))
    have ap1:=A_ (Kd.S_lower (Kd.S_new' (Kd.S_new' ak (Kd.R_lt (uR_ i6))) (Kd.S_lt (uS_ jq))) (Je (kl)))
    have ap2:=A_ (Kd.Q_lower (Kd.Q_new' (Kd.Q_new' (Kd.Q_new' aw (Kd.R_lt (uR_ i6))) (Kd.S_lt (uS_ jq))) (Kd.Q_lt (uQ_ kb))) (Je (kl)))
    replace i6:=A_ (Kd.R_elder' (uR_ i6) (Kd.R_base ai) hb)
    replace jq:=A_ (Kd.S_mono (Kd.S_told (Kd.S_told (Kd.S_old (uS_ jq) hb) (Kd.R_base ai)) (Kd.S_base ak)) (fun _ h_=>h_.1))
    replace kb:=A_ (Kd.Q_mono (Kd.Q_told (Kd.Q_told (Kd.Q_told (Kd.Q_old (uQ_ kb) hb) (Kd.R_base ai)) (Kd.S_base ak)) (Kd.Q_base aw)) (fun _ h_=>h_.1))
    replace i4:=bb_ i4 hb
    replace ip:=bb_ ip hb
    replace e9:=bb_ e9 hb
    replace HB:=hs_ (kl) hb
    refine hK.out _ _ ⟨(Jd e9.out 0).trans rfl,(Jd e9.out 1).trans rfl,(Jd e9.out 2).trans rfl,((cl_ HB lx).trans rfl),((cl_ HB lw).trans rfl),((cl_ HB lv).trans rfl),((cl_ HB lu).trans rfl)⟩ (fun hHeld=>?_)
    clear hK K
    refine nm_ ?_
    refine pw_ 6 28 (tl_ 12 127) ?_
    refine pw_ 7 35 (tl_ 12 255) ?_
    refine pw_ 8 36 (tl_ 12 511) ?_
    refine one_ (i:=9) (N:=some 9) (tl_ 12 1023) rfl rfl (Jz HT_.out (g1_)) (by decide) (fun K hK=>?_)
    refine bs_ (N:=9) #[.slice none 0 0, .slice none 0 0, .slice none 0 0] 28 ?_
    intro dc hg tb hbox hb
    replace i6:=rb_ i6 hb
    replace jq:=sb_ jq hb
    replace kb:=qb_ kb hb
    replace ap0:=rb_ ap0 hb
    replace ap1:=sb_ ap1 hb
    replace ap2:=qb_ ap2 hb
    have mw:=A_ (hbox)
    have dh:=A_ ((g21_:w.heap.size<=dc))
    have bk6:=dh
    replace HB:=hs_ (kl) hb
    have sk:=nl_ i4 hg
    have z8:=nr_ i4 hg
    replace i4:=bb_ i4 hb
    have sl:=nl_ ip hg
    have z9:=nr_ ip hg
    replace ip:=bb_ ip hb
    have kx:=nl_ e9 hg
    have aa0:=nr_ e9 hg
    replace e9:=bb_ e9 hb
    clear hb hbox hg
    refine hK.out _ _ ⟨(Jd e9.out 0).trans rfl,(Jd e9.out 1).trans rfl,(Jd e9.out 2).trans rfl,((cl_ HB lx).trans rfl),((cl_ HB lw).trans rfl),((cl_ HB lv).trans rfl),((cl_ HB lu).trans rfl)⟩ (fun hHeld=>?_)
    clear hK K
    refine nm_ ?_
    exact Fp.calls.z0
   skip
   refine bs_ (N:=9) #[.slice none 0 0, .slice none 0 0, .slice none 0 0] 28 ?_
   intro dc hg kt hbox hb
   replace i6:=rb_ i6 hb
   replace jq:=sb_ jq hb
   replace kb:=qb_ kb hb
   have mw:=A_ (hbox)
   have dh:=A_ ((g21_:w.heap.size<=dc))
   have bk6:=dh
   replace HB:=hs_ (kl) hb
   have sk:=nl_ i4 hg
   have z8:=nr_ i4 hg
   replace i4:=bb_ i4 hb
   have sl:=nl_ ip hg
   have z9:=nr_ ip hg
   replace ip:=bb_ ip hb
   have kx:=nl_ e9 hg
   have aa0:=nr_ e9 hg
   replace e9:=bb_ e9 hb
   clear hb hbox hg
   refine hK.out _ _ ⟨(Jd e9.out 0).trans rfl,(Jd e9.out 1).trans rfl,(Jd e9.out 2).trans rfl,((cl_ HB lx).trans rfl),((cl_ HB lw).trans rfl),((cl_ HB lv).trans rfl),((cl_ HB lu).trans rfl)⟩ (fun hHeld=>?_)
   clear hK K
   refine nm_ ?_
   refine one_ (i:=5) (N:=some 34) (tl_ 12 575) rfl rfl (Jz HT_.out (g1_)) (by decide) (fun K hK=>?_)
   refine goes_ Try.func54 (g1_) rfl #[.agg #[.slice bu f4.length bl, .slice cl gw.length b7, .slice oq i5.length n0], .agg #[.int .i64 ((rd_T69 l1 bi).f0), .int .i64 ((rd_T69 l1 bi).f1), .int .i64 ((rd_T69 l1 bi).f2), .int .i64 ((rd_T69 l1 bi).f3)]] (by rfl) rfl rfl (gM_) ?_
   refine(G1.calls k2 _ _ f4 _ _ gw _ _ i5 ((rd_T69 l1 bi).f0) ((rd_T69 l1 bi).f1) ((rd_T69 l1 bi).f2) ((rd_T69 l1 bi).f3) tl ua vp true _ (cR_ i6) (lR_ i6) (cS_ jq) (lS_ jq) (cQ_ kb) (lQ_ kb) zg.out).mono ?_
   rintro e tb ⟨tm,yg,ao9,rfl,ai,ak,aw,hb⟩
   refine⟨_,rfl,?_⟩
   have ap0:=A_ (Kd.R_lower (Kd.R_new' ai (Kd.R_lt (uR_ i6))) (Je (kl)))
   have ap1:=A_ (Kd.S_lower (Kd.S_new' (Kd.S_new' ak (Kd.R_lt (uR_ i6))) (Kd.S_lt (uS_ jq))) (Je (kl)))
   have ap2:=A_ (Kd.Q_lower (Kd.Q_new' (Kd.Q_new' (Kd.Q_new' aw (Kd.R_lt (uR_ i6))) (Kd.S_lt (uS_ jq))) (Kd.Q_lt (uQ_ kb))) (Je (kl)))
   replace i6:=A_ (Kd.R_elder' (uR_ i6) (Kd.R_base ai) hb)
   replace jq:=A_ (Kd.S_mono (Kd.S_told (Kd.S_told (Kd.S_old (uS_ jq) hb) (Kd.R_base ai)) (Kd.S_base ak)) (fun _ h_=>h_.1))
   replace kb:=A_ (Kd.Q_mono (Kd.Q_told (Kd.Q_told (Kd.Q_told (Kd.Q_old (uQ_ kb) hb) (Kd.R_base ai)) (Kd.S_base ak)) (Kd.Q_base aw)) (fun _ h_=>h_.1))
   replace i4:=bb_ i4 hb
   replace ip:=bb_ ip hb
   replace e9:=bb_ e9 hb
   replace mw:=bb_ mw hb
   replace HB:=hs_ (kl) hb
   refine hK.out _ _ ⟨(Jd e9.out 0).trans rfl,(Jd e9.out 1).trans rfl,(Jd e9.out 2).trans rfl,((cl_ HB lx).trans rfl),((cl_ HB lw).trans rfl),((cl_ HB lv).trans rfl),((cl_ HB lu).trans rfl)⟩ (fun hHeld=>?_)
   clear hK K
   refine nm_ ?_
   refine pw_ 6 28 (tl_ 12 639) ?_
   refine pw_ 7 35 (tl_ 12 767) ?_
   refine pw_ 8 36 (tl_ 12 1023) ?_
   exact Fp.calls.z0
  rintro⟨tm,yg,ao9,dc⟩ lh ⟨hS_,h0_,h1_,h2_,h3_,h4_,h5_,h6_,h7_,h8_,h9_,h10_,h11_,h12_,h13_,h14_,h15_,h16_,h17_,h18_⟩
  have ap0:Jc (Kd.R (Kd.int .i64) 3 lh w.heap.size (fun k_=>some k_≠(.slice bu f4.length bl:Value).ownBlock) tm tl):=⟨h0_⟩
  have ap1:Jc (Kd.S (Kd.slice 3 (Kd.int .i64)) 22 lh w.heap.size (fun k_=>some k_≠(tm:Value).ownBlock/\some k_≠(.slice bu f4.length bl:Value).ownBlock/\some k_≠(.slice cl gw.length b7:Value).ownBlock) yg ua):=⟨h1_⟩
  have ap2:Jc (Kd.Q k25 25 lh w.heap.size (fun k_=>some k_≠(tm:Value).ownBlock/\some k_≠(yg:Value).ownBlock/\some k_≠(.slice bu f4.length bl:Value).ownBlock/\some k_≠(.slice cl gw.length b7:Value).ownBlock/\some k_≠(.slice oq i5.length n0:Value).ownBlock) ao9 vp):=⟨h2_⟩
  replace i6:Jc (Kd.R (Kd.int .i64) 3 lh w.heap.size (fun k_=>some k_≠(tm:Value).ownBlock) (.slice bu f4.length bl) f4):=⟨h3_⟩
  replace jq:Jc (Kd.S (Kd.slice 3 (Kd.int .i64)) 22 lh w.heap.size (fun k_=>some k_≠(tm:Value).ownBlock/\some k_≠(yg:Value).ownBlock/\some k_≠(.slice bu f4.length bl:Value).ownBlock) (.slice cl gw.length b7) gw):=⟨h4_⟩
  replace kb:Jc (Kd.Q k25 25 lh w.heap.size (fun k_=>some k_≠(tm:Value).ownBlock/\some k_≠(yg:Value).ownBlock/\some k_≠(ao9:Value).ownBlock/\some k_≠(.slice bu f4.length bl:Value).ownBlock/\some k_≠(.slice cl gw.length b7:Value).ownBlock) (.slice oq i5.length n0) i5):=⟨h5_⟩
  replace i4:Jc (hc_ lh nu #[.slice af ab.length ac, .slice ah aa.length ag, .slice av aj.length au] 28):=⟨h6_⟩
  replace ip:Jc (hc_ lh kk #[.slice none 0 0, .slice none 0 0, .slice none 0 0] 28):=⟨h7_⟩
  replace e9:Jc (hc_ lh fm #[.slice bu f4.length bl, .slice cl gw.length b7, .slice oq i5.length n0] 28):=⟨h8_⟩
  have mw:Jc (hc_ lh dc #[.slice none 0 0, .slice none 0 0, .slice none 0 0] 28):=⟨h9_⟩
  have dh:Jc (w.heap.size<=dc):=⟨h10_⟩
  have bk6:Jc (w.heap.size<=dc):=⟨h11_⟩
  have sk:Jc (nu≠dc):=⟨h12_⟩
  have z8:Jc (dc≠nu):=⟨h13_⟩
  have sl:Jc (kk≠dc):=⟨h14_⟩
  have z9:Jc (dc≠kk):=⟨h15_⟩
  have kx:Jc (fm≠dc):=⟨h16_⟩
  have aa0:Jc (dc≠fm):=⟨h17_⟩
  replace HB:Jc (Below w.heap.size w lh):=⟨h18_⟩
  clear h0_ h1_ h2_ h3_ h4_ h5_ h6_ h7_ h8_ h9_ h10_ h11_ h12_ h13_ h14_ h15_ h16_ h17_ h18_
  have hHeld:lh.cell? ⟨fm,0,none⟩=some (.slice bu f4.length bl)/\lh.cell? ⟨fm,1,none⟩=some (.slice cl gw.length b7)/\lh.cell? ⟨fm,2,none⟩=some (.slice oq i5.length n0)/\lh.cell? (j8.add ((bi).toNat * 4))=some (.int .i64 ((rd_T69 l1 bi).f0))/\lh.cell? ⟨(j8.add ((bi).toNat * 4)).block,(j8.add ((bi).toNat * 4)).off + 1,none⟩=some (.int .i64 ((rd_T69 l1 bi).f1))/\lh.cell? ⟨(j8.add ((bi).toNat * 4)).block,(j8.add ((bi).toNat * 4)).off + 2,none⟩=some (.int .i64 ((rd_T69 l1 bi).f2))/\lh.cell? ⟨(j8.add ((bi).toNat * 4)).block,(j8.add ((bi).toNat * 4)).off + 3,none⟩=some (.int .i64 ((rd_T69 l1 bi).f3)):=hS_
  obtain⟨ai0,zf,am7⟩:=Kd.R_slice ap0.out
  (first|subst am7|(injection am7 with f1_ f2_ f3_;have f4_:=f1_.symm;have f5_:=f3_.symm;clear f1_ f2_ f3_;subst f4_;subst f5_))
  obtain⟨a7,ay,ac1⟩:=Kd.S_slice ap1.out
  (first|subst ac1|(injection ac1 with f1_ f2_ f3_;have f4_:=f1_.symm;have f5_:=f3_.symm;clear f1_ f2_ f3_;subst f4_;subst f5_))
  obtain⟨n9,nj,bi4,_⟩:=Kd.Q_slice ap2.out
  (first|subst bi4|(injection bi4 with f1_ f2_ f3_;have f4_:=f1_.symm;have f5_:=f3_.symm;clear f1_ f2_ f3_;subst f4_;subst f5_))
  refine norm_ (a':=?_) ?_ ?_
  rotate_left
  · exact sq_
  refine one_ (i:=10) (N:=none) (tl_ 12 2047) rfl rfl (Jz HT_.out (g1_)) (by decide) (fun K hK=>?_)
  have lt9:lh.cell? ⟨dc,0,none⟩=some (.slice none 0 0):=(Jd mw.out 0).trans rfl
  have lu0:=Jo mw.out 0
  have lu1:=sk.out
  have lu2:=sl.out
  have pt5:=kx.out
  have lu3:=z8.out
  have lu4:=z9.out
  have pt6:=aa0.out
  have ik1:lh.cell? ⟨dc,1,none⟩=some (.slice none 0 0):=(Jd mw.out 1).trans rfl
  have ik2:=Jo mw.out 1
  have kr4:lh.cell? ⟨dc,2,none⟩=some (.slice none 0 0):=(Jd mw.out 2).trans rfl
  have kr5:=Jo mw.out 2
  refine skip_ (w1:=?_) (by rfl) rfl ?_ ?_
  rotate_left
  ·go_simp
   rfl
  refine hK.out _ _ ⟨(cf_ kx ((cf_ kx ((cf_ kx (hHeld.1)))))),(cf_ kx ((cf_ kx ((cf_ kx (hHeld.2.1)))))),(cf_ kx ((cf_ kx ((cf_ kx (hHeld.2.2.1)))))),((cell_far (p:=⟨dc,_,none⟩) (by first|exact Nat.ne_of_lt (Nat.lt_of_lt_of_le (by have:=World.block_lt_of_cell? _ _ lx;first|rwa [add_block] at this|exact this) dh.out)|(rw[add_block];exact Nat.ne_of_lt (Nat.lt_of_lt_of_le (by have:=World.block_lt_of_cell? _ _ lx;first|rwa [add_block] at this|exact this) dh.out))|(show(Addr.add _ _).block≠_;rw[add_block];exact Nat.ne_of_lt (Nat.lt_of_lt_of_le (by have:=World.block_lt_of_cell? _ _ lx;first|rwa [add_block] at this|exact this) dh.out))|(dsimp only;exact Nat.ne_of_lt (Nat.lt_of_lt_of_le (by have:=World.block_lt_of_cell? _ _ lx;first|rwa [add_block] at this|exact this) dh.out))) _).trans (((cell_far (p:=⟨dc,_,none⟩) (by first|exact Nat.ne_of_lt (Nat.lt_of_lt_of_le (by have:=World.block_lt_of_cell? _ _ lx;first|rwa [add_block] at this|exact this) dh.out)|(rw[add_block];exact Nat.ne_of_lt (Nat.lt_of_lt_of_le (by have:=World.block_lt_of_cell? _ _ lx;first|rwa [add_block] at this|exact this) dh.out))|(show(Addr.add _ _).block≠_;rw[add_block];exact Nat.ne_of_lt (Nat.lt_of_lt_of_le (by have:=World.block_lt_of_cell? _ _ lx;first|rwa [add_block] at this|exact this) dh.out))|(dsimp only;exact Nat.ne_of_lt (Nat.lt_of_lt_of_le (by have:=World.block_lt_of_cell? _ _ lx;first|rwa [add_block] at this|exact this) dh.out))) _).trans (((cell_far (p:=⟨dc,_,none⟩) (by first|exact Nat.ne_of_lt (Nat.lt_of_lt_of_le (by have:=World.block_lt_of_cell? _ _ lx;first|rwa [add_block] at this|exact this) dh.out)|(rw[add_block];exact Nat.ne_of_lt (Nat.lt_of_lt_of_le (by have:=World.block_lt_of_cell? _ _ lx;first|rwa [add_block] at this|exact this) dh.out))|(show(Addr.add _ _).block≠_;rw[add_block];exact Nat.ne_of_lt (Nat.lt_of_lt_of_le (by have:=World.block_lt_of_cell? _ _ lx;first|rwa [add_block] at this|exact this) dh.out))|(dsimp only;exact Nat.ne_of_lt (Nat.lt_of_lt_of_le (by have:=World.block_lt_of_cell? _ _ lx;first|rwa [add_block] at this|exact this) dh.out))) _).trans (hHeld.2.2.2.1)))))),((cell_far (p:=⟨dc,_,none⟩) (by first|exact Nat.ne_of_lt (Nat.lt_of_lt_of_le (by have:=World.block_lt_of_cell? _ _ lw;first|rwa [add_block] at this|exact this) dh.out)|(rw[add_block];exact Nat.ne_of_lt (Nat.lt_of_lt_of_le (by have:=World.block_lt_of_cell? _ _ lw;first|rwa [add_block] at this|exact this) dh.out))|(show(Addr.add _ _).block≠_;rw[add_block];exact Nat.ne_of_lt (Nat.lt_of_lt_of_le (by have:=World.block_lt_of_cell? _ _ lw;first|rwa [add_block] at this|exact this) dh.out))|(dsimp only;exact Nat.ne_of_lt (Nat.lt_of_lt_of_le (by have:=World.block_lt_of_cell? _ _ lw;first|rwa [add_block] at this|exact this) dh.out))) _).trans (((cell_far (p:=⟨dc,_,none⟩) (by first|exact Nat.ne_of_lt (Nat.lt_of_lt_of_le (by have:=World.block_lt_of_cell? _ _ lw;first|rwa [add_block] at this|exact this) dh.out)|(rw[add_block];exact Nat.ne_of_lt (Nat.lt_of_lt_of_le (by have:=World.block_lt_of_cell? _ _ lw;first|rwa [add_block] at this|exact this) dh.out))|(show(Addr.add _ _).block≠_;rw[add_block];exact Nat.ne_of_lt (Nat.lt_of_lt_of_le (by have:=World.block_lt_of_cell? _ _ lw;first|rwa [add_block] at this|exact this) dh.out))|(dsimp only;exact Nat.ne_of_lt (Nat.lt_of_lt_of_le (by have:=World.block_lt_of_cell? _ _ lw;first|rwa [add_block] at this|exact this) dh.out))) _).trans (((cell_far (p:=⟨dc,_,none⟩) (by first|exact Nat.ne_of_lt (Nat.lt_of_lt_of_le (by have:=World.block_lt_of_cell? _ _ lw;first|rwa [add_block] at this|exact this) dh.out)|(rw[add_block];exact Nat.ne_of_lt (Nat.lt_of_lt_of_le (by have:=World.block_lt_of_cell? _ _ lw;first|rwa [add_block] at this|exact this) dh.out))|(show(Addr.add _ _).block≠_;rw[add_block];exact Nat.ne_of_lt (Nat.lt_of_lt_of_le (by have:=World.block_lt_of_cell? _ _ lw;first|rwa [add_block] at this|exact this) dh.out))|(dsimp only;exact Nat.ne_of_lt (Nat.lt_of_lt_of_le (by have:=World.block_lt_of_cell? _ _ lw;first|rwa [add_block] at this|exact this) dh.out))) _).trans (hHeld.2.2.2.2.1)))))),((cell_far (p:=⟨dc,_,none⟩) (by first|exact Nat.ne_of_lt (Nat.lt_of_lt_of_le (by have:=World.block_lt_of_cell? _ _ lv;first|rwa [add_block] at this|exact this) dh.out)|(rw[add_block];exact Nat.ne_of_lt (Nat.lt_of_lt_of_le (by have:=World.block_lt_of_cell? _ _ lv;first|rwa [add_block] at this|exact this) dh.out))|(show(Addr.add _ _).block≠_;rw[add_block];exact Nat.ne_of_lt (Nat.lt_of_lt_of_le (by have:=World.block_lt_of_cell? _ _ lv;first|rwa [add_block] at this|exact this) dh.out))|(dsimp only;exact Nat.ne_of_lt (Nat.lt_of_lt_of_le (by have:=World.block_lt_of_cell? _ _ lv;first|rwa [add_block] at this|exact this) dh.out))) _).trans (((cell_far (p:=⟨dc,_,none⟩) (by first|exact Nat.ne_of_lt (Nat.lt_of_lt_of_le (by have:=World.block_lt_of_cell? _ _ lv;first|rwa [add_block] at this|exact this) dh.out)|(rw[add_block];exact Nat.ne_of_lt (Nat.lt_of_lt_of_le (by have:=World.block_lt_of_cell? _ _ lv;first|rwa [add_block] at this|exact this) dh.out))|(show(Addr.add _ _).block≠_;rw[add_block];exact Nat.ne_of_lt (Nat.lt_of_lt_of_le (by have:=World.block_lt_of_cell? _ _ lv;first|rwa [add_block] at this|exact this) dh.out))|(dsimp only;exact Nat.ne_of_lt (Nat.lt_of_lt_of_le (by have:=World.block_lt_of_cell? _ _ lv;first|rwa [add_block] at this|exact this) dh.out))) _).trans (((cell_far (p:=⟨dc,_,none⟩) (by first|exact Nat.ne_of_lt (Nat.lt_of_lt_of_le (by have:=World.block_lt_of_cell? _ _ lv;first|rwa [add_block] at this|exact this) dh.out)|(rw[add_block];exact Nat.ne_of_lt (Nat.lt_of_lt_of_le (by have:=World.block_lt_of_cell? _ _ lv;first|rwa [add_block] at this|exact this) dh.out))|(show(Addr.add _ _).block≠_;rw[add_block];exact Nat.ne_of_lt (Nat.lt_of_lt_of_le (by have:=World.block_lt_of_cell? _ _ lv;first|rwa [add_block] at this|exact this) dh.out))|(dsimp only;exact Nat.ne_of_lt (Nat.lt_of_lt_of_le (by have:=World.block_lt_of_cell? _ _ lv;first|rwa [add_block] at this|exact this) dh.out))) _).trans (hHeld.2.2.2.2.2.1)))))),((cell_far (p:=⟨dc,_,none⟩) (by first|exact Nat.ne_of_lt (Nat.lt_of_lt_of_le (by have:=World.block_lt_of_cell? _ _ lu;first|rwa [add_block] at this|exact this) dh.out)|(rw[add_block];exact Nat.ne_of_lt (Nat.lt_of_lt_of_le (by have:=World.block_lt_of_cell? _ _ lu;first|rwa [add_block] at this|exact this) dh.out))|(show(Addr.add _ _).block≠_;rw[add_block];exact Nat.ne_of_lt (Nat.lt_of_lt_of_le (by have:=World.block_lt_of_cell? _ _ lu;first|rwa [add_block] at this|exact this) dh.out))|(dsimp only;exact Nat.ne_of_lt (Nat.lt_of_lt_of_le (by have:=World.block_lt_of_cell? _ _ lu;first|rwa [add_block] at this|exact this) dh.out))) _).trans (((cell_far (p:=⟨dc,_,none⟩) (by first|exact Nat.ne_of_lt (Nat.lt_of_lt_of_le (by have:=World.block_lt_of_cell? _ _ lu;first|rwa [add_block] at this|exact this) dh.out)|(rw[add_block];exact Nat.ne_of_lt (Nat.lt_of_lt_of_le (by have:=World.block_lt_of_cell? _ _ lu;first|rwa [add_block] at this|exact this) dh.out))|(show(Addr.add _ _).block≠_;rw[add_block];exact Nat.ne_of_lt (Nat.lt_of_lt_of_le (by have:=World.block_lt_of_cell? _ _ lu;first|rwa [add_block] at this|exact this) dh.out))|(dsimp only;exact Nat.ne_of_lt (Nat.lt_of_lt_of_le (by have:=World.block_lt_of_cell? _ _ lu;first|rwa [add_block] at this|exact this) dh.out))) _).trans (((cell_far (p:=⟨dc,_,none⟩) (by first|exact Nat.ne_of_lt (Nat.lt_of_lt_of_le (by have:=World.block_lt_of_cell? _ _ lu;first|rwa [add_block] at this|exact this) dh.out)|(rw[add_block];exact Nat.ne_of_lt (Nat.lt_of_lt_of_le (by have:=World.block_lt_of_cell? _ _ lu;first|rwa [add_block] at this|exact this) dh.out))|(show(Addr.add _ _).block≠_;rw[add_block];exact Nat.ne_of_lt (Nat.lt_of_lt_of_le (by have:=World.block_lt_of_cell? _ _ lu;first|rwa [add_block] at this|exact this) dh.out))|(dsimp only;exact Nat.ne_of_lt (Nat.lt_of_lt_of_le (by have:=World.block_lt_of_cell? _ _ lu;first|rwa [add_block] at this|exact this) dh.out))) _).trans (hHeld.2.2.2.2.2.2))))))⟩ (fun hHeld=>?_)
  clear hK K
  refine pw_ 11 10 (tl_ 12 4095) ?_
  refine done_ (done_of HT_.out (g1_)) ?_
  obtain⟨ee7,ee8,it3,ee9,ef0,it4⟩:=blk3_ mw
  have in2:=he9.out
  have in3:=bu3.out
  have gn3:=hf1.out
  have gn4:=bu4.out
  obtain⟨ea6,ea7,fd7,ea8,ea9,fd8⟩:=blk3_ e9
  try go_wp2
  go_roundg k2
  case measure=>have:=HJ2.out;have:=HK2.out;omega
  case rel=>exact⟨(wrap64 (ep4 + 1)),(wrap64 (bi + 1)),(tl),(ua),(vp),(.slice ai0 tl.length zf),(.slice a7 ua.length ay),(.slice n9 vp.length nj),(g3_),(g3_),H',⟨g162_⟩,⟨ra_ ap0⟩,⟨sa_ ap1⟩,⟨qa_ ap2⟩,⟨ba_ i4⟩,⟨ba_ ip⟩,⟨ba_ e9⟩,⟨kl⟩⟩
 replace ta:=Bool.eq_false_iff.mpr ta
 subst ta
 replace H:=ifn_ H
 have H':=A_ H
 clear H
 obtain⟨ov,ow,ge7⟩:=Kd.R_slice i6.out
 subst ge7
 obtain⟨rk,rl,fm4⟩:=Kd.S_slice jq.out
 subst fm4
 obtain⟨bx,bq,fn7,_⟩:=Kd.Q_slice kb.out
 subst fn7
 try go_wp2
 replace i6:=rd_ i6
 replace jq:=sd_ jq
 replace kb:=qd_ kb
 replace i4:=bd_ i4
 replace ip:=bd_ ip
 replace e9:=bd_ e9
 replace HB:=A_ (Ji HB.out)
 obtain⟨⟨j8,hf3,bu5,bu6,bu7,bu8⟩,cx2,cx3⟩:=rdp_ (at_T69 fs.out bi)
 have lu:=bu8
 have lv:=bu7
 have lw:=bu6
 have lx:=bu5
 cases hf3
 replace bu5:=cl_ HB bu5
 replace bu6:=cl_ HB bu6
 replace bu7:=cl_ HB bu7
 replace bu8:=cl_ HB bu8
 refine start_ (n:=12) (S:=fun w'=>w'.cell? ⟨fm,0,none⟩=some (.slice ov f4.length ow)/\w'.cell? ⟨fm,1,none⟩=some (.slice rk gw.length rl)/\w'.cell? ⟨fm,2,none⟩=some (.slice bx i5.length bq)/\w'.cell? (j8.add ((bi).toNat * 4))=some (.int .i64 ((rd_T69 l1 bi).f0))/\w'.cell? ⟨(j8.add ((bi).toNat * 4)).block,(j8.add ((bi).toNat * 4)).off + 1,none⟩=some (.int .i64 ((rd_T69 l1 bi).f1))/\w'.cell? ⟨(j8.add ((bi).toNat * 4)).block,(j8.add ((bi).toNat * 4)).off + 2,none⟩=some (.int .i64 ((rd_T69 l1 bi).f2))/\w'.cell? ⟨(j8.add ((bi).toNat * 4)).block,(j8.add ((bi).toNat * 4)).off + 3,none⟩=some (.int .i64 ((rd_T69 l1 bi).f3))) (ds:=[]) (tl_ 12 0) (g1_) rfl (g1_) ⟨(Jd e9.out 0).trans rfl,(Jd e9.out 1).trans rfl,(Jd e9.out 2).trans rfl,((cl_ HB lx).trans rfl),((cl_ HB lw).trans rfl),((cl_ HB lv).trans rfl),((cl_ HB lu).trans rfl)⟩ (fun hHeld=>?_);refine Jx Fp.tab8 Fp.bits8 (fun HT_ HW_=>?_)
 generalize wr.drew=w55 at i6 jq kb i4 ip e9 HB bu5 bu6 bu7 bu8 hHeld |-
 refine pw_ 1 30 (tl_ 12 2) ?_
 refine pw_ 2 31 (tl_ 12 6) ?_
 refine pw_ 3 32 (tl_ 12 14) ?_
 refine tk3_ 0 29 (tl_ 12 15) hHeld ?_
 refine tk3_ 4 33 (tl_ 12 31) hHeld ?_
 refine join_ (σ:=Value × Value × Value × Nat) 2 (tl_ 12 1023) (fun s_=>[(34, .tuple #[.agg #[s_.1,s_.2.1,s_.2.2.1], .bool false]),(9, .pointer (some ⟨s_.2.2.2,0,none⟩)),(28, .tuple #[.agg #[s_.1,s_.2.1,s_.2.2.1], .bool false]),(35, .agg #[s_.1,s_.2.1,s_.2.2.1]),(36, .bool false)]) (fun s_ w'=>(w'.cell? ⟨fm,0,none⟩=some (.slice ov f4.length ow)/\w'.cell? ⟨fm,1,none⟩=some (.slice rk gw.length rl)/\w'.cell? ⟨fm,2,none⟩=some (.slice bx i5.length bq)/\w'.cell? (j8.add ((bi).toNat * 4))=some (.int .i64 ((rd_T69 l1 bi).f0))/\w'.cell? ⟨(j8.add ((bi).toNat * 4)).block,(j8.add ((bi).toNat * 4)).off + 1,none⟩=some (.int .i64 ((rd_T69 l1 bi).f1))/\w'.cell? ⟨(j8.add ((bi).toNat * 4)).block,(j8.add ((bi).toNat * 4)).off + 2,none⟩=some (.int .i64 ((rd_T69 l1 bi).f2))/\w'.cell? ⟨(j8.add ((bi).toNat * 4)).block,(j8.add ((bi).toNat * 4)).off + 3,none⟩=some (.int .i64 ((rd_T69 l1 bi).f3)))/\(Kd.R (Kd.int .i64) 3 w' w.heap.size (fun k_=>some k_≠(.slice ov f4.length ow:Value).ownBlock) s_.1 tl)/\(Kd.S (Kd.slice 3 (Kd.int .i64)) 22 w' w.heap.size (fun k_=>some k_≠(s_.1:Value).ownBlock/\some k_≠(.slice ov f4.length ow:Value).ownBlock/\some k_≠(.slice rk gw.length rl:Value).ownBlock) s_.2.1 ua)/\(Kd.Q k25 25 w' w.heap.size (fun k_=>some k_≠(s_.1:Value).ownBlock/\some k_≠(s_.2.1:Value).ownBlock/\some k_≠(.slice ov f4.length ow:Value).ownBlock/\some k_≠(.slice rk gw.length rl:Value).ownBlock/\some k_≠(.slice bx i5.length bq:Value).ownBlock) s_.2.2.1 vp)/\(Kd.R (Kd.int .i64) 3 w' w.heap.size (fun k_=>some k_≠(s_.1:Value).ownBlock) (.slice ov f4.length ow) f4)/\(Kd.S (Kd.slice 3 (Kd.int .i64)) 22 w' w.heap.size (fun k_=>some k_≠(s_.1:Value).ownBlock/\some k_≠(s_.2.1:Value).ownBlock/\some k_≠(.slice ov f4.length ow:Value).ownBlock) (.slice rk gw.length rl) gw)/\(Kd.Q k25 25 w' w.heap.size (fun k_=>some k_≠(s_.1:Value).ownBlock/\some k_≠(s_.2.1:Value).ownBlock/\some k_≠(s_.2.2.1:Value).ownBlock/\some k_≠(.slice ov f4.length ow:Value).ownBlock/\some k_≠(.slice rk gw.length rl:Value).ownBlock) (.slice bx i5.length bq) i5)/\(hc_ w' nu #[.slice af ab.length ac, .slice ah aa.length ag, .slice av aj.length au] 28)/\(hc_ w' kk #[.slice none 0 0, .slice none 0 0, .slice none 0 0] 28)/\(hc_ w' fm #[.slice ov f4.length ow, .slice rk gw.length rl, .slice bx i5.length bq] 28)/\(hc_ w' s_.2.2.2 #[.slice none 0 0, .slice none 0 0, .slice none 0 0] 28)/\(w.heap.size<=s_.2.2.2)/\(w.heap.size<=s_.2.2.2)/\(nu≠s_.2.2.2)/\(s_.2.2.2≠nu)/\(kk≠s_.2.2.2)/\(s_.2.2.2≠kk)/\(fm≠s_.2.2.2)/\(s_.2.2.2≠fm)/\(Below w.heap.size w w')) ?_ ?_
 rotate_left
 ·intro hCont
  refine two_ (i:=5) (j:=9) (Ni:=some 34) (Nj:=some 9) (tl_ 12 63) (tl_ 12 543) rfl rfl rfl rfl (two_of HT_.out (g1_)) (by decide) (by decide) (fun K hK=>?_) (fun K hK=>?_)
  ·skip
   refine goes_ Try.func54 (g1_) rfl #[.agg #[.slice ov f4.length ow, .slice rk gw.length rl, .slice bx i5.length bq], .agg #[.int .i64 ((rd_T69 l1 bi).f0), .int .i64 ((rd_T69 l1 bi).f1), .int .i64 ((rd_T69 l1 bi).f2), .int .i64 ((rd_T69 l1 bi).f3)]] (by rfl) rfl rfl (gM_) ?_
   refine(G1.calls k2 _ _ f4 _ _ gw _ _ i5 ((rd_T69 l1 bi).f0) ((rd_T69 l1 bi).f1) ((rd_T69 l1 bi).f2) ((rd_T69 l1 bi).f3) tl ua vp false _ (cR_ i6) (lR_ i6) (cS_ jq) (lS_ jq) (cQ_ kb) (lQ_ kb) zg.out).mono ?_
   rintro e w56 ⟨tm,yg,ao9,rfl,ai,ak,aw,hb⟩
   refine⟨_,rfl,?_⟩
   have ap0:=A_ (Kd.R_lower (Kd.R_new' ai (Kd.R_lt (uR_ i6))) (Je (kl)))
   have ap1:=A_ (Kd.S_lower (Kd.S_new' (Kd.S_new' ak (Kd.R_lt (uR_ i6))) (Kd.S_lt (uS_ jq))) (Je (kl)))
   have ap2:=A_ (Kd.Q_lower (Kd.Q_new' (Kd.Q_new' (Kd.Q_new' aw (Kd.R_lt (uR_ i6))) (Kd.S_lt (uS_ jq))) (Kd.Q_lt (uQ_ kb))) (Je (kl)))
   replace i6:=A_ (Kd.R_elder' (uR_ i6) (Kd.R_base ai) hb)
   replace jq:=A_ (Kd.S_mono (Kd.S_told (Kd.S_told (Kd.S_old (uS_ jq) hb) (Kd.R_base ai)) (Kd.S_base ak)) (fun _ h_=>h_.1))
   replace kb:=A_ (Kd.Q_mono (Kd.Q_told (Kd.Q_told (Kd.Q_told (Kd.Q_old (uQ_ kb) hb) (Kd.R_base ai)) (Kd.S_base ak)) (Kd.Q_base aw)) (fun _ h_=>h_.1))
   replace i4:=bb_ i4 hb
   replace ip:=bb_ ip hb
   replace e9:=bb_ e9 hb
   replace HB:=hs_ (kl) hb
   refine hK.out _ _ ⟨(Jd e9.out 0).trans rfl,(Jd e9.out 1).trans rfl,(Jd e9.out 2).trans rfl,((cl_ HB lx).trans rfl),((cl_ HB lw).trans rfl),((cl_ HB lv).trans rfl),((cl_ HB lu).trans rfl)⟩ (fun hHeld=>?_)
   clear hK K
   refine nm_ ?_
   refine pw_ 6 28 (tl_ 12 127) ?_
   refine pw_ 7 35 (tl_ 12 255) ?_
   refine pw_ 8 36 (tl_ 12 511) ?_
   refine one_ (i:=9) (N:=some 9) (tl_ 12 1023) rfl rfl (Jz HT_.out (g1_)) (by decide) (fun K hK=>?_)
   refine bs_ (N:=9) #[.slice none 0 0, .slice none 0 0, .slice none 0 0] 28 ?_
   intro dc hg w57 hbox hb
   replace i6:=rb_ i6 hb
   replace jq:=sb_ jq hb
   replace kb:=qb_ kb hb
   replace ap0:=rb_ ap0 hb
   replace ap1:=sb_ ap1 hb
   replace ap2:=qb_ ap2 hb
   have mw:=A_ (hbox)
   have dh:=A_ ((g21_:w.heap.size<=dc))
   have bk6:=dh
   replace HB:=hs_ (kl) hb
   have sk:=nl_ i4 hg
   have z8:=nr_ i4 hg
   replace i4:=bb_ i4 hb
   have sl:=nl_ ip hg
   have z9:=nr_ ip hg
   replace ip:=bb_ ip hb
   have kx:=nl_ e9 hg
   have aa0:=nr_ e9 hg
   replace e9:=bb_ e9 hb
   clear hb hbox hg
   refine hK.out _ _ ⟨(Jd e9.out 0).trans rfl,(Jd e9.out 1).trans rfl,(Jd e9.out 2).trans rfl,((cl_ HB lx).trans rfl),((cl_ HB lw).trans rfl),((cl_ HB lv).trans rfl),((cl_ HB lu).trans rfl)⟩ (fun hHeld=>?_)
   clear hK K
   refine nm_ ?_
   exact Fp.calls.z0
  skip
  refine bs_ (N:=9) #[.slice none 0 0, .slice none 0 0, .slice none 0 0] 28 ?_
  intro dc hg w56 hbox hb
  replace i6:=rb_ i6 hb
  replace jq:=sb_ jq hb
  replace kb:=qb_ kb hb
  have mw:=A_ (hbox)
  have dh:=A_ ((g21_:w.heap.size<=dc))
  have bk6:=dh
  replace HB:=hs_ (kl) hb
  have sk:=nl_ i4 hg
  have z8:=nr_ i4 hg
  replace i4:=bb_ i4 hb
  have sl:=nl_ ip hg
  have z9:=nr_ ip hg
  replace ip:=bb_ ip hb
  have kx:=nl_ e9 hg
  have aa0:=nr_ e9 hg
  replace e9:=bb_ e9 hb
  clear hb hbox hg
  refine hK.out _ _ ⟨(Jd e9.out 0).trans rfl,(Jd e9.out 1).trans rfl,(Jd e9.out 2).trans rfl,((cl_ HB lx).trans rfl),((cl_ HB lw).trans rfl),((cl_ HB lv).trans rfl),((cl_ HB lu).trans rfl)⟩ (fun hHeld=>?_)
  clear hK K
  refine nm_ ?_
  refine one_ (i:=5) (N:=some 34) (tl_ 12 575) rfl rfl (Jz HT_.out (g1_)) (by decide) (fun K hK=>?_)
  refine goes_ Try.func54 (g1_) rfl #[.agg #[.slice ov f4.length ow, .slice rk gw.length rl, .slice bx i5.length bq], .agg #[.int .i64 ((rd_T69 l1 bi).f0), .int .i64 ((rd_T69 l1 bi).f1), .int .i64 ((rd_T69 l1 bi).f2), .int .i64 ((rd_T69 l1 bi).f3)]] (by rfl) rfl rfl (gM_) ?_
  refine(G1.calls k2 _ _ f4 _ _ gw _ _ i5 ((rd_T69 l1 bi).f0) ((rd_T69 l1 bi).f1) ((rd_T69 l1 bi).f2) ((rd_T69 l1 bi).f3) tl ua vp false _ (cR_ i6) (lR_ i6) (cS_ jq) (lS_ jq) (cQ_ kb) (lQ_ kb) zg.out).mono ?_
  rintro e w57 ⟨tm,yg,ao9,rfl,ai,ak,aw,hb⟩
  refine⟨_,rfl,?_⟩
  have ap0:=A_ (Kd.R_lower (Kd.R_new' ai (Kd.R_lt (uR_ i6))) (Je (kl)))
  have ap1:=A_ (Kd.S_lower (Kd.S_new' (Kd.S_new' ak (Kd.R_lt (uR_ i6))) (Kd.S_lt (uS_ jq))) (Je (kl)))
  have ap2:=A_ (Kd.Q_lower (Kd.Q_new' (Kd.Q_new' (Kd.Q_new' aw (Kd.R_lt (uR_ i6))) (Kd.S_lt (uS_ jq))) (Kd.Q_lt (uQ_ kb))) (Je (kl)))
  replace i6:=A_ (Kd.R_elder' (uR_ i6) (Kd.R_base ai) hb)
  replace jq:=A_ (Kd.S_mono (Kd.S_told (Kd.S_told (Kd.S_old (uS_ jq) hb) (Kd.R_base ai)) (Kd.S_base ak)) (fun _ h_=>h_.1))
  replace kb:=A_ (Kd.Q_mono (Kd.Q_told (Kd.Q_told (Kd.Q_told (Kd.Q_old (uQ_ kb) hb) (Kd.R_base ai)) (Kd.S_base ak)) (Kd.Q_base aw)) (fun _ h_=>h_.1))
  replace i4:=bb_ i4 hb
  replace ip:=bb_ ip hb
  replace e9:=bb_ e9 hb
  replace mw:=bb_ mw hb
  replace HB:=hs_ (kl) hb
  refine hK.out _ _ ⟨(Jd e9.out 0).trans rfl,(Jd e9.out 1).trans rfl,(Jd e9.out 2).trans rfl,((cl_ HB lx).trans rfl),((cl_ HB lw).trans rfl),((cl_ HB lv).trans rfl),((cl_ HB lu).trans rfl)⟩ (fun hHeld=>?_)
  clear hK K
  refine nm_ ?_
  refine pw_ 6 28 (tl_ 12 639) ?_
  refine pw_ 7 35 (tl_ 12 767) ?_
  refine pw_ 8 36 (tl_ 12 1023) ?_
  exact Fp.calls.z0
 rintro⟨tm,yg,ao9,dc⟩ lp ⟨hS_,h0_,h1_,h2_,h3_,h4_,h5_,h6_,h7_,h8_,h9_,h10_,h11_,h12_,h13_,h14_,h15_,h16_,h17_,h18_⟩
 have ap0:Jc (Kd.R (Kd.int .i64) 3 lp w.heap.size (fun k_=>some k_≠(.slice ov f4.length ow:Value).ownBlock) tm tl):=⟨h0_⟩
 have ap1:Jc (Kd.S (Kd.slice 3 (Kd.int .i64)) 22 lp w.heap.size (fun k_=>some k_≠(tm:Value).ownBlock/\some k_≠(.slice ov f4.length ow:Value).ownBlock/\some k_≠(.slice rk gw.length rl:Value).ownBlock) yg ua):=⟨h1_⟩
 have ap2:Jc (Kd.Q k25 25 lp w.heap.size (fun k_=>some k_≠(tm:Value).ownBlock/\some k_≠(yg:Value).ownBlock/\some k_≠(.slice ov f4.length ow:Value).ownBlock/\some k_≠(.slice rk gw.length rl:Value).ownBlock/\some k_≠(.slice bx i5.length bq:Value).ownBlock) ao9 vp):=⟨h2_⟩
 replace i6:Jc (Kd.R (Kd.int .i64) 3 lp w.heap.size (fun k_=>some k_≠(tm:Value).ownBlock) (.slice ov f4.length ow) f4):=⟨h3_⟩
 replace jq:Jc (Kd.S (Kd.slice 3 (Kd.int .i64)) 22 lp w.heap.size (fun k_=>some k_≠(tm:Value).ownBlock/\some k_≠(yg:Value).ownBlock/\some k_≠(.slice ov f4.length ow:Value).ownBlock) (.slice rk gw.length rl) gw):=⟨h4_⟩
 replace kb:Jc (Kd.Q k25 25 lp w.heap.size (fun k_=>some k_≠(tm:Value).ownBlock/\some k_≠(yg:Value).ownBlock/\some k_≠(ao9:Value).ownBlock/\some k_≠(.slice ov f4.length ow:Value).ownBlock/\some k_≠(.slice rk gw.length rl:Value).ownBlock) (.slice bx i5.length bq) i5):=⟨h5_⟩
 replace i4:Jc (hc_ lp nu #[.slice af ab.length ac, .slice ah aa.length ag, .slice av aj.length au] 28):=⟨h6_⟩
 replace ip:Jc (hc_ lp kk #[.slice none 0 0, .slice none 0 0, .slice none 0 0] 28):=⟨h7_⟩
 replace e9:Jc (hc_ lp fm #[.slice ov f4.length ow, .slice rk gw.length rl, .slice bx i5.length bq] 28):=⟨h8_⟩
 have mw:Jc (hc_ lp dc #[.slice none 0 0, .slice none 0 0, .slice none 0 0] 28):=⟨h9_⟩
 have dh:Jc (w.heap.size<=dc):=⟨h10_⟩
 have bk6:Jc (w.heap.size<=dc):=⟨h11_⟩
 have sk:Jc (nu≠dc):=⟨h12_⟩
 have z8:Jc (dc≠nu):=⟨h13_⟩
 have sl:Jc (kk≠dc):=⟨h14_⟩
 have z9:Jc (dc≠kk):=⟨h15_⟩
 have kx:Jc (fm≠dc):=⟨h16_⟩
 have aa0:Jc (dc≠fm):=⟨h17_⟩
 replace HB:Jc (Below w.heap.size w lp):=⟨h18_⟩
 clear h0_ h1_ h2_ h3_ h4_ h5_ h6_ h7_ h8_ h9_ h10_ h11_ h12_ h13_ h14_ h15_ h16_ h17_ h18_
 have hHeld:lp.cell? ⟨fm,0,none⟩=some (.slice ov f4.length ow)/\lp.cell? ⟨fm,1,none⟩=some (.slice rk gw.length rl)/\lp.cell? ⟨fm,2,none⟩=some (.slice bx i5.length bq)/\lp.cell? (j8.add ((bi).toNat * 4))=some (.int .i64 ((rd_T69 l1 bi).f0))/\lp.cell? ⟨(j8.add ((bi).toNat * 4)).block,(j8.add ((bi).toNat * 4)).off + 1,none⟩=some (.int .i64 ((rd_T69 l1 bi).f1))/\lp.cell? ⟨(j8.add ((bi).toNat * 4)).block,(j8.add ((bi).toNat * 4)).off + 2,none⟩=some (.int .i64 ((rd_T69 l1 bi).f2))/\lp.cell? ⟨(j8.add ((bi).toNat * 4)).block,(j8.add ((bi).toNat * 4)).off + 3,none⟩=some (.int .i64 ((rd_T69 l1 bi).f3)):=hS_
 obtain⟨ez6,ez7,eb7⟩:=Kd.R_slice ap0.out
 (first|subst eb7|(injection eb7 with f1_ f2_ f3_;have f4_:=f1_.symm;have f5_:=f3_.symm;clear f1_ f2_ f3_;subst f4_;subst f5_))
 obtain⟨hf5,hf6,jr7⟩:=Kd.S_slice ap1.out
 (first|subst jr7|(injection jr7 with f1_ f2_ f3_;have f4_:=f1_.symm;have f5_:=f3_.symm;clear f1_ f2_ f3_;subst f4_;subst f5_))
 obtain⟨hf7,hf8,jr8,_⟩:=Kd.Q_slice ap2.out
 (first|subst jr8|(injection jr8 with f1_ f2_ f3_;have f4_:=f1_.symm;have f5_:=f3_.symm;clear f1_ f2_ f3_;subst f4_;subst f5_))
 refine norm_ (a':=?_) ?_ ?_
 rotate_left
 · exact sq_
 refine one_ (i:=10) (N:=none) (tl_ 12 2047) rfl rfl (Jz HT_.out (g1_)) (by decide) (fun K hK=>?_)
 have pu1:lp.cell? ⟨dc,0,none⟩=some (.slice none 0 0):=(Jd mw.out 0).trans rfl
 have pu2:=Jo mw.out 0
 have pu3:=sk.out
 have pu4:=sl.out
 have pu5:=kx.out
 have pu6:=z8.out
 have pu7:=z9.out
 have pu8:=aa0.out
 have pu9:lp.cell? ⟨dc,1,none⟩=some (.slice none 0 0):=(Jd mw.out 1).trans rfl
 have pv0:=Jo mw.out 1
 have pv7:lp.cell? ⟨dc,2,none⟩=some (.slice none 0 0):=(Jd mw.out 2).trans rfl
 have pv8:=Jo mw.out 2
 refine skip_ (w1:=?_) (by rfl) rfl ?_ ?_
 rotate_left
 ·go_simp
  rfl
 refine hK.out _ _ ⟨(cf_ kx ((cf_ kx ((cf_ kx (hHeld.1)))))),(cf_ kx ((cf_ kx ((cf_ kx (hHeld.2.1)))))),(cf_ kx ((cf_ kx ((cf_ kx (hHeld.2.2.1)))))),((cell_far (p:=⟨dc,_,none⟩) (by first|exact Nat.ne_of_lt (Nat.lt_of_lt_of_le (by have:=World.block_lt_of_cell? _ _ lx;first|rwa [add_block] at this|exact this) dh.out)|(rw[add_block];exact Nat.ne_of_lt (Nat.lt_of_lt_of_le (by have:=World.block_lt_of_cell? _ _ lx;first|rwa [add_block] at this|exact this) dh.out))|(show(Addr.add _ _).block≠_;rw[add_block];exact Nat.ne_of_lt (Nat.lt_of_lt_of_le (by have:=World.block_lt_of_cell? _ _ lx;first|rwa [add_block] at this|exact this) dh.out))|(dsimp only;exact Nat.ne_of_lt (Nat.lt_of_lt_of_le (by have:=World.block_lt_of_cell? _ _ lx;first|rwa [add_block] at this|exact this) dh.out))) _).trans (((cell_far (p:=⟨dc,_,none⟩) (by first|exact Nat.ne_of_lt (Nat.lt_of_lt_of_le (by have:=World.block_lt_of_cell? _ _ lx;first|rwa [add_block] at this|exact this) dh.out)|(rw[add_block];exact Nat.ne_of_lt (Nat.lt_of_lt_of_le (by have:=World.block_lt_of_cell? _ _ lx;first|rwa [add_block] at this|exact this) dh.out))|(show(Addr.add _ _).block≠_;rw[add_block];exact Nat.ne_of_lt (Nat.lt_of_lt_of_le (by have:=World.block_lt_of_cell? _ _ lx;first|rwa [add_block] at this|exact this) dh.out))|(dsimp only;exact Nat.ne_of_lt (Nat.lt_of_lt_of_le (by have:=World.block_lt_of_cell? _ _ lx;first|rwa [add_block] at this|exact this) dh.out))) _).trans (((cell_far (p:=⟨dc,_,none⟩) (by first|exact Nat.ne_of_lt (Nat.lt_of_lt_of_le (by have:=World.block_lt_of_cell? _ _ lx;first|rwa [add_block] at this|exact this) dh.out)|(rw[add_block];exact Nat.ne_of_lt (Nat.lt_of_lt_of_le (by have:=World.block_lt_of_cell? _ _ lx;first|rwa [add_block] at this|exact this) dh.out))|(show(Addr.add _ _).block≠_;rw[add_block];exact Nat.ne_of_lt (Nat.lt_of_lt_of_le (by have:=World.block_lt_of_cell? _ _ lx;first|rwa [add_block] at this|exact this) dh.out))|(dsimp only;exact Nat.ne_of_lt (Nat.lt_of_lt_of_le (by have:=World.block_lt_of_cell? _ _ lx;first|rwa [add_block] at this|exact this) dh.out))) _).trans (hHeld.2.2.2.1)))))),((cell_far (p:=⟨dc,_,none⟩) (by first|exact Nat.ne_of_lt (Nat.lt_of_lt_of_le (by have:=World.block_lt_of_cell? _ _ lw;first|rwa [add_block] at this|exact this) dh.out)|(rw[add_block];exact Nat.ne_of_lt (Nat.lt_of_lt_of_le (by have:=World.block_lt_of_cell? _ _ lw;first|rwa [add_block] at this|exact this) dh.out))|(show(Addr.add _ _).block≠_;rw[add_block];exact Nat.ne_of_lt (Nat.lt_of_lt_of_le (by have:=World.block_lt_of_cell? _ _ lw;first|rwa [add_block] at this|exact this) dh.out))|(dsimp only;exact Nat.ne_of_lt (Nat.lt_of_lt_of_le (by have:=World.block_lt_of_cell? _ _ lw;first|rwa [add_block] at this|exact this) dh.out))) _).trans (((cell_far (p:=⟨dc,_,none⟩) (by first|exact Nat.ne_of_lt (Nat.lt_of_lt_of_le (by have:=World.block_lt_of_cell? _ _ lw;first|rwa [add_block] at this|exact this) dh.out)|(rw[add_block];exact Nat.ne_of_lt (Nat.lt_of_lt_of_le (by have:=World.block_lt_of_cell? _ _ lw;first|rwa [add_block] at this|exact this) dh.out))|(show(Addr.add _ _).block≠_;rw[add_block];exact Nat.ne_of_lt (Nat.lt_of_lt_of_le (by have:=World.block_lt_of_cell? _ _ lw;first|rwa [add_block] at this|exact this) dh.out))|(dsimp only;exact Nat.ne_of_lt (Nat.lt_of_lt_of_le (by have:=World.block_lt_of_cell? _ _ lw;first|rwa [add_block] at this|exact this) dh.out))) _).trans (((cell_far (p:=⟨dc,_,none⟩) (by first|exact Nat.ne_of_lt (Nat.lt_of_lt_of_le (by have:=World.block_lt_of_cell? _ _ lw;first|rwa [add_block] at this|exact this) dh.out)|(rw[add_block];exact Nat.ne_of_lt (Nat.lt_of_lt_of_le (by have:=World.block_lt_of_cell? _ _ lw;first|rwa [add_block] at this|exact this) dh.out))|(show(Addr.add _ _).block≠_;rw[add_block];exact Nat.ne_of_lt (Nat.lt_of_lt_of_le (by have:=World.block_lt_of_cell? _ _ lw;first|rwa [add_block] at this|exact this) dh.out))|(dsimp only;exact Nat.ne_of_lt (Nat.lt_of_lt_of_le (by have:=World.block_lt_of_cell? _ _ lw;first|rwa [add_block] at this|exact this) dh.out))) _).trans (hHeld.2.2.2.2.1)))))),((cell_far (p:=⟨dc,_,none⟩) (by first|exact Nat.ne_of_lt (Nat.lt_of_lt_of_le (by have:=World.block_lt_of_cell? _ _ lv;first|rwa [add_block] at this|exact this) dh.out)|(rw[add_block];exact Nat.ne_of_lt (Nat.lt_of_lt_of_le (by have:=World.block_lt_of_cell? _ _ lv;first|rwa [add_block] at this|exact this) dh.out))|(show(Addr.add _ _).block≠_;rw[add_block];exact Nat.ne_of_lt (Nat.lt_of_lt_of_le (by have:=World.block_lt_of_cell? _ _ lv;first|rwa [add_block] at this|exact this) dh.out))|(dsimp only;exact Nat.ne_of_lt (Nat.lt_of_lt_of_le (by have:=World.block_lt_of_cell? _ _ lv;first|rwa [add_block] at this|exact this) dh.out))) _).trans (((cell_far (p:=⟨dc,_,none⟩) (by first|exact Nat.ne_of_lt (Nat.lt_of_lt_of_le (by have:=World.block_lt_of_cell? _ _ lv;first|rwa [add_block] at this|exact this) dh.out)|(rw[add_block];exact Nat.ne_of_lt (Nat.lt_of_lt_of_le (by have:=World.block_lt_of_cell? _ _ lv;first|rwa [add_block] at this|exact this) dh.out))|(show(Addr.add _ _).block≠_;rw[add_block];exact Nat.ne_of_lt (Nat.lt_of_lt_of_le (by have:=World.block_lt_of_cell? _ _ lv;first|rwa [add_block] at this|exact this) dh.out))|(dsimp only;exact Nat.ne_of_lt (Nat.lt_of_lt_of_le (by have:=World.block_lt_of_cell? _ _ lv;first|rwa [add_block] at this|exact this) dh.out))) _).trans (((cell_far (p:=⟨dc,_,none⟩) (by first|exact Nat.ne_of_lt (Nat.lt_of_lt_of_le (by have:=World.block_lt_of_cell? _ _ lv;first|rwa [add_block] at this|exact this) dh.out)|(rw[add_block];exact Nat.ne_of_lt (Nat.lt_of_lt_of_le (by have:=World.block_lt_of_cell? _ _ lv;first|rwa [add_block] at this|exact this) dh.out))|(show(Addr.add _ _).block≠_;rw[add_block];exact Nat.ne_of_lt (Nat.lt_of_lt_of_le (by have:=World.block_lt_of_cell? _ _ lv;first|rwa [add_block] at this|exact this) dh.out))|(dsimp only;exact Nat.ne_of_lt (Nat.lt_of_lt_of_le (by have:=World.block_lt_of_cell? _ _ lv;first|rwa [add_block] at this|exact this) dh.out))) _).trans (hHeld.2.2.2.2.2.1)))))),((cell_far (p:=⟨dc,_,none⟩) (by first|exact Nat.ne_of_lt (Nat.lt_of_lt_of_le (by have:=World.block_lt_of_cell? _ _ lu;first|rwa [add_block] at this|exact this) dh.out)|(rw[add_block];exact Nat.ne_of_lt (Nat.lt_of_lt_of_le (by have:=World.block_lt_of_cell? _ _ lu;first|rwa [add_block] at this|exact this) dh.out))|(show(Addr.add _ _).block≠_;rw[add_block];exact Nat.ne_of_lt (Nat.lt_of_lt_of_le (by have:=World.block_lt_of_cell? _ _ lu;first|rwa [add_block] at this|exact this) dh.out))|(dsimp only;exact Nat.ne_of_lt (Nat.lt_of_lt_of_le (by have:=World.block_lt_of_cell? _ _ lu;first|rwa [add_block] at this|exact this) dh.out))) _).trans (((cell_far (p:=⟨dc,_,none⟩) (by first|exact Nat.ne_of_lt (Nat.lt_of_lt_of_le (by have:=World.block_lt_of_cell? _ _ lu;first|rwa [add_block] at this|exact this) dh.out)|(rw[add_block];exact Nat.ne_of_lt (Nat.lt_of_lt_of_le (by have:=World.block_lt_of_cell? _ _ lu;first|rwa [add_block] at this|exact this) dh.out))|(show(Addr.add _ _).block≠_;rw[add_block];exact Nat.ne_of_lt (Nat.lt_of_lt_of_le (by have:=World.block_lt_of_cell? _ _ lu;first|rwa [add_block] at this|exact this) dh.out))|(dsimp only;exact Nat.ne_of_lt (Nat.lt_of_lt_of_le (by have:=World.block_lt_of_cell? _ _ lu;first|rwa [add_block] at this|exact this) dh.out))) _).trans (((cell_far (p:=⟨dc,_,none⟩) (by first|exact Nat.ne_of_lt (Nat.lt_of_lt_of_le (by have:=World.block_lt_of_cell? _ _ lu;first|rwa [add_block] at this|exact this) dh.out)|(rw[add_block];exact Nat.ne_of_lt (Nat.lt_of_lt_of_le (by have:=World.block_lt_of_cell? _ _ lu;first|rwa [add_block] at this|exact this) dh.out))|(show(Addr.add _ _).block≠_;rw[add_block];exact Nat.ne_of_lt (Nat.lt_of_lt_of_le (by have:=World.block_lt_of_cell? _ _ lu;first|rwa [add_block] at this|exact this) dh.out))|(dsimp only;exact Nat.ne_of_lt (Nat.lt_of_lt_of_le (by have:=World.block_lt_of_cell? _ _ lu;first|rwa [add_block] at this|exact this) dh.out))) _).trans (hHeld.2.2.2.2.2.2))))))⟩ (fun hHeld=>?_)
 clear hK K
 refine pw_ 11 10 (tl_ 12 4095) ?_
 refine done_ (done_of HT_.out (g1_)) ?_
 try go_wp2
 go_roundg k2
 case measure=>have:=HJ2.out;have:=HK2.out;omega
 case rel=>exact⟨(ep4),(wrap64 (bi + 1)),(f4),(gw),(i5),(.slice ov f4.length ow),(.slice rk gw.length rl),(.slice bx i5.length bq),(g3_),(g3_),H',⟨g162_⟩,⟨ra_ i6⟩,⟨sa_ jq⟩,⟨qa_ kb⟩,⟨ba_ i4⟩,⟨ba_ ip⟩,⟨ba_ e9⟩,⟨kl⟩⟩
def Gy.f (l0:List (S66)) (a1:Int):Option (Int):=if (wrap64 (a1 - (l0.length:Int))) < 0 then(some (-1)) else(some (wrap64 (a1 - (l0.length:Int))))
set_option maxHeartbeats 8000000 in
set_option maxRecDepth 100000 in
theorem Gy.calls (A0:Option Addr) (c0:Nat) (l0:List (S66)) (a1:Int) (r:Int) (w:World) (fa:Kd.C k66 w A0 l0.length l0) (ec:l0.length<=c0) (h:Gy.f l0 a1=some r) :
  Calls Try.prog 58 #[.slice A0 l0.length c0, .int .i64 a1] w fun e w'=>e = .returned (.int .i64 r)/\Drawn0 w w':=by
 have fp:=A_ fa
 have op:=A_ ec
 clear fa ec
 have H:=h
 unfold Gy.f at H
 clear h
 by_cases c3:(wrap64 (a1 - (l0.length:Int))) < 0
 ·rw[if_pos c3] at H
  have gj:=decide_eq_true c3
  clear c3
  obtain rfl:=Option.some.inj H
  go_enter Try.func58,Try.ntmps58
  go_wp2
  go_ret
  exact⟨g3_,g5_⟩
 rw[if_neg c3] at H
 have gj:=decide_eq_false c3
 clear c3
 obtain rfl:=Option.some.inj H
 go_enter Try.func58,Try.ntmps58
 go_wp2
 go_ret
 exact⟨g3_,g5_⟩
def Gi.l0:Nat->List (S66)->List (S69)->Int->Option ((List (S69)))
 | 0,_,_,_=>none
 | k + 1,x0,x3,x4=>if x4 < (x0.length:Int) then(if 0<=x4 then((Jb.f ((rd_T66 x0 x4).f0) ((rd_T66 x0 x4).f1) ((rd_T66 x0 x4).f2) ((rd_T66 x0 x4).f3)).bind fun bt727=>(if x4 < (x3.length:Int) then(Gi.l0 k x0 (x3.set (x4:Int).toNat (⟨bt727.1,bt727.2.1,bt727.2.2.1,bt727.2.2.2⟩:S69)) (wrap64 (x4 + 1))) else(none))) else(none)) else(some x3)
def Gi.f (k:Nat) (l0:List (S66)):Option ((List (S69))):=if 0<=(l0.length:Int) then(if ((l0.length:Int):Int).toNat<=8796093022208 then(Gi.l0 k l0 (List.replicate ((l0.length:Int):Int).toNat z69) 0) else(none)) else(none)
theorem dp1 {p:Prop} (h:p:=by repeat(first|(with_reducible first|exact HB.out|apply Jk|apply Jj|apply Ji)|exact HB.out)):p:=h
set_option maxHeartbeats 8000000 in
set_option maxRecDepth 100000 in
theorem Gi.calls (k:Nat) (A0:Option Addr) (c0:Nat) (l0:List (S66)) (r:List (S69)) (w:World) (fa:Kd.C k66 w A0 l0.length l0) (ec:l0.length<=c0) (h:Gi.f k l0=some r) :
  Calls Try.prog 60 #[.slice A0 l0.length c0] w fun e w'=>∃v0_:Value,e = .returned (v0_)/\Kd.R k69 69 w' w.heap.size (fun _=>True) v0_ r/\Below w.heap.size w w':=by
 have hu66:=Try.underlying66
 have hu69:=Try.underlying69
 have fp:=A_ fa
 have op:=A_ ec
 clear fa ec
 have HB:=A_ (Below.refl w.heap.size w)
 have H:=h
 unfold Gi.f at H
 clear h
 obtain⟨c2,H⟩:=pos_ H
 have bn2:=eq_true c2
 have cl2:=decide_eq_true c2
 clear c2
 obtain⟨c3,H⟩:=pos_ H
 have gj:=eq_true c3
 have ny:=decide_eq_true c3
 clear c3
 obtain⟨jr9,hyq⟩:∃y_:List (S69),y_=(List.replicate ((l0.length:Int):Int).toNat z69):=⟨_,rfl⟩
 replace H:(Gi.l0 k l0 jr9 0)=some r:=qh_
 have js0:=A_ hyq
 clear hyq
 have H':=A_ H
 clear H
 go_enter Try.func60,Try.ntmps60
 go_wp2_with (first|((with_reducible refine gd_ 7 ?_);refine Kd.R_make k69 _ 69 rfl (N:=7) rfl 78 _ _ rfl (l0.length:Int) rfl rfl Try.underlying78 (.agg #[(.int .i64 0),(.int .i64 0),(.int .i64 0),(.int .i64 0)]) 32 info69 rfl (by decide) (by omega) z69 (ok:=fun _=>True) (okp:=fun _=>True) (k69_mkM _ _ _ z69) (fun _ hk=>hk) trivial (od_) (Nat.le_trans (Nat.mul_le_mul_right _ (od_:(l0.length:Int).toNat<=8796093022208)) (by omega)) (Below.refl _ _) (Nat.le_refl _) ?_;intro mv3 w4 kh hb hg_ hnew_;clear hg_ hnew_;(first|rw[<- js0.out] at kh|(simp only[Int.reduceToNat] at kh;rw[<- js0.out] at kh));have mv4:=A_ (Kd.R_lower kh (Je (dp1)));replace HB:=hs_ (dp1) hb;clear hb kh))
 go_loopg [4] k (fun kq v4 w'=>∃(ci:List (S69)) (ar:Int),v4 = .int .i64 ar/\Jc (Gi.l0 kq l0 ci ar=some r)/\Jc (kq<=k)/\Jc (Kd.R k69 69 w' w.heap.size (fun _=>True) mv3 ci)/\Jc (Below w.heap.size w w'))
 case atStart=>exact⟨(jr9),(0),(g3_),H',⟨Nat.le_refl _⟩,⟨uR_ mv4⟩,⟨dp1⟩⟩
 clear H'
 obtain⟨ci,ar,rfl,HA,HK1,a8,HB⟩:=hrel
 cases gk with
 | zero=>exact absurd HA.out (by simp[Gi.l0])
 | succ k1=>?_
 have H:=HA.out
 clear HA
 simp only[Gi.l0] at H
 by_cases c6:ar < (l0.length:Int)
 case neg=>
  rw[if_neg c6] at H
  have kf:=decide_eq_false c6
  clear c6
  obtain rfl:=Option.some.inj H
  go_wp2
  go_ret
  exact⟨_,g4_,uR_ a8,dp1⟩
 rw[if_pos c6] at H
 have kf:=decide_eq_true c6
 clear c6
 obtain⟨pz,H⟩:=pd_ H
 replace H:=Option.bind_eq_some_iff.mp H
 obtain⟨⟨dn2,dn3,dn4,dn5⟩,A80,H⟩:=H
 try dsimp only at H
 have A8:=A_ A80
 clear A80
 obtain⟨xg,H⟩:=pd_ H
 obtain⟨hg0,hyq⟩:∃y_:List (S69),y_=(ci.set (ar:Int).toNat (⟨dn2,dn3,dn4,dn5⟩:S69)):=⟨_,rfl⟩
 replace H:(Gi.l0 k1 l0 hg0 (wrap64 (ar + 1)))=some r:=qh_
 have mv5:=A_ hyq
 clear hyq
 have H':=A_ H
 clear H
 obtain⟨⟨pw7,mv6,js1,js2,js3,js4⟩,hg3,hg4⟩:=rdp_ (at_T66 fp.out ar)
 cases mv6
 replace js1:=cl_ HB js1
 replace js2:=cl_ HB js2
 replace js3:=cl_ HB js3
 replace js4:=cl_ HB js4
 go_wp2_with (first|((with_reducible refine gc_ 55 ?_);refine gl_ 20 Try.func55 #[.agg #[.int .i64 ((rd_T66 l0 ar).f0), .int .i64 ((rd_T66 l0 ar).f1), .int .i64 ((rd_T66 l0 ar).f2), .int .i64 ((rd_T66 l0 ar).f3)]] ?_;(with_reducible refine(Jb.calls ((rd_T66 l0 ar).f0) ((rd_T66 l0 ar).f1) ((rd_T66 l0 ar).f2) ((rd_T66 l0 ar).f3) dn2 dn3 dn4 dn5 _ A8.out).mono ?_);rintro e g8 ⟨rfl,hb⟩;refine⟨_,rfl,?_⟩;replace a8:=rb_ a8 hb;replace HB:=hs_ (dp1) hb;have p10:0<=(ar:Int):=od_;have q10:(ar:Int) < ((ci.length:Int):Int):=od_;obtain⟨l5,gl,yu,by6,gl10,cl10,HG10⟩:=Kd.R_form a8.out (by omega);(first|cases yu|(injection yu with ea_ en_ ec_;(first|subst ea_|(injection ea_ with ea_;subst ea_));subst ec_;clear en_));have GB10:=A_ by6;have GG10:=A_ HG10;clear by6 gl10 HG10;obtain⟨ce10,hcl10,hM10,hcc10,hfr10⟩:=Kd.R_elem a8.out z69 (ar:Int) p10 q10;obtain rfl:=k69_openM hM10;have dv9:g8.cell? ⟨l5,(ar:Int).toNat * 4,none⟩=some (.int .i64 ((rd_T69 ci ar).f0)):=hcc10 0 _ rfl;have kb2:g8.cell? ⟨l5,(ar:Int).toNat * 4 + 1,none⟩=some (.int .i64 ((rd_T69 ci ar).f1)):=hcc10 1 _ rfl;have pw8:g8.cell? ⟨l5,(ar:Int).toNat * 4 + 2,none⟩=some (.int .i64 ((rd_T69 ci ar).f2)):=hcc10 2 _ rfl;have pw9:g8.cell? ⟨l5,(ar:Int).toNat * 4 + 3,none⟩=some (.int .i64 ((rd_T69 ci ar).f3)):=hcc10 3 _ rfl;have hf10_0:g8.frozen? ⟨l5,(ar:Int).toNat * 4,none⟩=false:=hfr10 0;have hf10_1:g8.frozen? ⟨l5,(ar:Int).toNat * 4 + 1,none⟩=false:=hfr10 1;have hf10_2:g8.frozen? ⟨l5,(ar:Int).toNat * 4 + 2,none⟩=false:=hfr10 2;have hf10_3:g8.frozen? ⟨l5,(ar:Int).toNat * 4 + 3,none⟩=false:=hfr10 3;clear hcl10 hcc10 hfr10 hM10;replace p10:=eq_true p10;replace q10:=eq_true q10;have HX12:=A_ (show Kd.R k69 69 g8 w.heap.size (fun _=>True) (.slice (some ⟨l5,0,none⟩) ci.length gl) ci from(uR_ a8));obtain⟨ce12,hcl12,hM12,hcc12,hfr12⟩:=Kd.R_elem HX12.out z69 (ar:Int) (od_) (by have h_:(ar:Int) < ((ci.length:Int):Int):=od_;first|exact h_|(have e_:=(Kd.R_reads' a8.out).1;omega)|simpa using h_);obtain rfl:=k69_openM hM12;have HP12:=Kd.R_seg HX12.out (ar:Int) (od_) (by have h_:(ar:Int) < ((ci.length:Int):Int):=od_;first|exact h_|(have e_:=(Kd.R_reads' a8.out).1;omega)|simpa using h_) (seg:=[.int .i64 dn2, .int .i64 dn3, .int .i64 dn4, .int .i64 dn5]) (j:=0) hcl12 hcc12 (show 4<=4 from by decide) (x':=(⟨dn2,dn3,dn4,dn5⟩:S69)) (k69_mkM _ _ _ (⟨dn2,dn3,dn4,dn5⟩:S69)) (fun _ hk=>hk);have dw0:=hcc12 0 _ rfl;(try simp only[show(k69).sz=4 from rfl,Nat.mul_one,Nat.add_zero] at dw0);have hf12_0:=hfr12 0;(try simp only[show(k69).sz=4 from rfl,Nat.mul_one,Nat.add_zero] at hf12_0);have dw4:=hcc12 1 _ rfl;(try simp only[show(k69).sz=4 from rfl,Nat.mul_one,Nat.add_zero] at dw4);have hf12_1:=hfr12 1;(try simp only[show(k69).sz=4 from rfl,Nat.mul_one,Nat.add_zero] at hf12_1);have mv7:=hcc12 2 _ rfl;(try simp only[show(k69).sz=4 from rfl,Nat.mul_one,Nat.add_zero] at mv7);have hf12_2:=hfr12 2;(try simp only[show(k69).sz=4 from rfl,Nat.mul_one,Nat.add_zero] at hf12_2);have mv8:=hcc12 3 _ rfl;(try simp only[show(k69).sz=4 from rfl,Nat.mul_one,Nat.add_zero] at mv8);have hf12_3:=hfr12 3;(try simp only[show(k69).sz=4 from rfl,Nat.mul_one,Nat.add_zero] at hf12_3);clear hcl12 hcc12 hfr12 hM12)|((with_reducible refine gate_store (t:=69) (p:=21) rfl ?_);refine store_event (t:=69) (p:=21) (v:=?vo_w13) (w1:=((((g8.setCell ⟨l5,(ar:Int).toNat * 4,none⟩ (.int .i64 dn2)).setCell ⟨l5,(ar:Int).toNat * 4 + 1,none⟩ (.int .i64 dn3)).setCell ⟨l5,(ar:Int).toNat * 4 + 2,none⟩ (.int .i64 dn4)).setCell ⟨l5,(ar:Int).toNat * 4 + 3,none⟩ (.int .i64 dn5))) ?hg ?ho ?hn ?hr ?_;(case ho=>rfl);(case hg=>rfl);(case hn=>rfl);(case hr=>first|(go_simp;done)|(go_simp;rfl));intro km hw;have hg:g8.grownBy km (some l5):=(by rw[hw];exact HP12.2);have hp_:Kd.R k69 69 km w.heap.size (fun _=>True) (.slice (some ⟨l5,0,none⟩) ci.length gl) hg0:=(by rw[hw,mv5.out];exact HP12.1);clear HP12;replace a8:=A_ (hp_);replace HB:=A_ ((by rw[hw];exact Jh (Jh (Jh (Jh (HB.out) GB10.out) GB10.out) GB10.out) GB10.out:Below w.heap.size w km));clear hg hw hp_))
 go_roundg k1
 case measure=>have:=HK1.out;omega
 case rel=>exact⟨(hg0),(wrap64 (ar + 1)),(g3_),H',⟨g8_⟩,⟨uR_ a8⟩,⟨dp1⟩⟩
def G9.f (mr:Int) (m6:Int) (nl:Int) (od:Int) (aq:Int) (am:Int) (an:Int) (ao:Int):Option (Bool):=if mr=aq then(if m6=am then(if nl=an then(if od=ao then(some true) else(some false)) else(some false)) else(some false)) else(some false)
theorem aa4 {p:Prop} (h:p:=by repeat(first|(with_reducible first|exact HB.out|apply Jk|apply Jj|apply Ji|refine Jh ?_ eq4.out|refine Jh ?_ eq5.out)|exact HB.out)):p:=h
set_option maxHeartbeats 8000000 in
set_option maxRecDepth 100000 in
theorem G9.calls (mr:Int) (m6:Int) (nl:Int) (od:Int) (aq:Int) (am:Int) (an:Int) (ao:Int) (r:Bool) (w:World) (h:G9.f mr m6 nl od aq am an ao=some r) :
  Calls Try.prog 105 #[.agg #[.int .i64 mr, .int .i64 m6, .int .i64 nl, .int .i64 od], .agg #[.int .i64 aq, .int .i64 am, .int .i64 an, .int .i64 ao]] w fun e w'=>e = .returned (.bool r)/\Below w.heap.size w w':=by
 have hu69:=Try.underlying69
 have HB:=A_ (Below.refl w.heap.size w)
 have H:=h
 unfold G9.f at H
 clear h
 by_cases c3:mr=aq
 case neg=>
  rw[if_neg c3] at H
  have gj:(mr == aq)=false:=beq_eq_false_iff_ne.mpr c3
  have ny:(mr != aq)=true:=bne_iff_ne.mpr c3
  obtain rfl:=Option.some.inj H
  go_enter Try.func105,Try.ntmps105
  go_wp2_with (first|((with_reducible refine gd_ 2 ?_);refine bx_ (N:=2) #[.int .i64 mr, .int .i64 m6, .int .i64 nl, .int .i64 od] 69 ?_;intro pt hg w27 hbox hb;have tn:=A_ (hbox);have fp7:=A_ ((g16_:w.heap.size<=pt));have eq4:=fp7;replace HB:=hs_ (aa4) hb;clear hb hbox hg)|((with_reducible refine gd_ 3 ?_);refine bx_ (N:=3) #[.int .i64 aq, .int .i64 am, .int .i64 an, .int .i64 ao] 69 ?_;intro qx hg w28 hbox hb;have bv2:=A_ (hbox);have fp8:=A_ ((g16_:w.heap.size<=qx));have eq5:=fp8;replace HB:=hs_ (aa4) hb;have bv3:=nl_ tn hg;have bv4:=nr_ tn hg;replace tn:=bb_ tn hb;clear hb hbox hg;have dz3:=bv3.out;have dz4:=bv4.out;obtain⟨eu3,eu4,kf9,qa3,eu5,eu6,kg0,qa4⟩:=blk4_ tn;obtain⟨cm7,cm8,eg3,gn1,cm9,cn0,eg4,gn2⟩:=blk4_ bv2))
  go_ret
  exact⟨g4_,aa4⟩
 rw[if_pos c3] at H
 have gj:(mr == aq)=true:=beq_iff_eq.mpr c3
 have ny:(mr != aq)=false:=bne_eq_false_iff_eq.mpr c3
 clear c3
 by_cases c4:m6=am
 case neg=>
  rw[if_neg c4] at H
  have ic:(m6 == am)=false:=beq_eq_false_iff_ne.mpr c4
  have fm0:(m6 != am)=true:=bne_iff_ne.mpr c4
  obtain rfl:=Option.some.inj H
  go_enter Try.func105,Try.ntmps105
  go_wp2_with (first|((with_reducible refine gd_ 2 ?_);refine bx_ (N:=2) #[.int .i64 mr, .int .i64 m6, .int .i64 nl, .int .i64 od] 69 ?_;intro pt hg uv hbox hb;have tn:=A_ (hbox);have fp7:=A_ ((g16_:w.heap.size<=pt));have eq4:=fp7;replace HB:=hs_ (aa4) hb;clear hb hbox hg)|((with_reducible refine gd_ 3 ?_);refine bx_ (N:=3) #[.int .i64 aq, .int .i64 am, .int .i64 an, .int .i64 ao] 69 ?_;intro qx hg w23 hbox hb;have bv2:=A_ (hbox);have fp8:=A_ ((g16_:w.heap.size<=qx));have eq5:=fp8;replace HB:=hs_ (aa4) hb;have bv3:=nl_ tn hg;have bv4:=nr_ tn hg;replace tn:=bb_ tn hb;clear hb hbox hg;have fd3:=bv3.out;have fd4:=bv4.out;obtain⟨fc4,fc5,jr4,pz9,fc6,fc7,jr5,qa0⟩:=blk4_ tn;obtain⟨mk1,mk2,mk3,qa1,mk4,mk5,mk6,qa2⟩:=blk4_ bv2))
  go_ret
  exact⟨g4_,aa4⟩
 rw[if_pos c4] at H
 have ic:(m6 == am)=true:=beq_iff_eq.mpr c4
 have fm0:(m6 != am)=false:=bne_eq_false_iff_eq.mpr c4
 clear c4
 by_cases c5:nl=an
 case neg=>
  rw[if_neg c5] at H
  have kn:(nl == an)=false:=beq_eq_false_iff_ne.mpr c5
  have ay0:(nl != an)=true:=bne_iff_ne.mpr c5
  obtain rfl:=Option.some.inj H
  go_enter Try.func105,Try.ntmps105
  go_wp2_with (first|((with_reducible refine gd_ 2 ?_);refine bx_ (N:=2) #[.int .i64 mr, .int .i64 m6, .int .i64 nl, .int .i64 od] 69 ?_;intro pt hg ug hbox hb;have tn:=A_ (hbox);have fp7:=A_ ((g16_:w.heap.size<=pt));have eq4:=fp7;replace HB:=hs_ (aa4) hb;clear hb hbox hg)|((with_reducible refine gd_ 3 ?_);refine bx_ (N:=3) #[.int .i64 aq, .int .i64 am, .int .i64 an, .int .i64 ao] 69 ?_;intro qx hg w18 hbox hb;have bv2:=A_ (hbox);have fp8:=A_ ((g16_:w.heap.size<=qx));have eq5:=fp8;replace HB:=hs_ (aa4) hb;have bv3:=nl_ tn hg;have bv4:=nr_ tn hg;replace tn:=bb_ tn hb;clear hb hbox hg;have bx0:=bv3.out;have bx1:=bv4.out;obtain⟨bl8,bl9,fr5,pz7,bm0,bm1,fr6,pz8⟩:=blk4_ tn;obtain⟨uh,ui,az4,gw6,uj,uk,az5,gw7⟩:=blk4_ bv2))
  go_ret
  exact⟨g4_,aa4⟩
 rw[if_pos c5] at H
 have kn:(nl == an)=true:=beq_iff_eq.mpr c5
 have ay0:(nl != an)=false:=bne_eq_false_iff_eq.mpr c5
 clear c5
 by_cases c6:od=ao
 ·rw[if_pos c6] at H
  have kf:(od == ao)=true:=beq_iff_eq.mpr c6
  have bs0:(od != ao)=false:=bne_eq_false_iff_eq.mpr c6
  clear c6
  obtain rfl:=Option.some.inj H
  go_enter Try.func105,Try.ntmps105
  go_wp2_with (first|((with_reducible refine gd_ 2 ?_);refine bx_ (N:=2) #[.int .i64 mr, .int .i64 m6, .int .i64 nl, .int .i64 od] 69 ?_;intro pt hg w7 hbox hb;have tn:=A_ (hbox);have fp7:=A_ ((g16_:w.heap.size<=pt));have eq4:=fp7;replace HB:=hs_ (aa4) hb;clear hb hbox hg)|((with_reducible refine gd_ 3 ?_);refine bx_ (N:=3) #[.int .i64 aq, .int .i64 am, .int .i64 an, .int .i64 ao] 69 ?_;intro qx hg w8 hbox hb;have bv2:=A_ (hbox);have fp8:=A_ ((g16_:w.heap.size<=qx));have eq5:=fp8;replace HB:=hs_ (aa4) hb;have bv3:=nl_ tn hg;have bv4:=nr_ tn hg;replace tn:=bb_ tn hb;clear hb hbox hg;have da4:=bv3.out;have da5:=bv4.out;obtain⟨yo,yp,ho8,lj9,yq,yr,hp8,lk0⟩:=blk4_ tn;obtain⟨sr,ss,ax8,pz3,st,su,ax9,pz4⟩:=blk4_ bv2))
  go_ret
  exact⟨g4_,aa4⟩
 rw[if_neg c6] at H
 have kf:(od == ao)=false:=beq_eq_false_iff_ne.mpr c6
 have bs0:(od != ao)=true:=bne_iff_ne.mpr c6
 obtain rfl:=Option.some.inj H
 go_enter Try.func105,Try.ntmps105
 go_wp2_with (first|((with_reducible refine gd_ 2 ?_);refine bx_ (N:=2) #[.int .i64 mr, .int .i64 m6, .int .i64 nl, .int .i64 od] 69 ?_;intro pt hg uf hbox hb;have tn:=A_ (hbox);have fp7:=A_ ((g16_:w.heap.size<=pt));have eq4:=fp7;replace HB:=hs_ (aa4) hb;clear hb hbox hg)|((with_reducible refine gd_ 3 ?_);refine bx_ (N:=3) #[.int .i64 aq, .int .i64 am, .int .i64 an, .int .i64 ao] 69 ?_;intro qx hg km hbox hb;have bv2:=A_ (hbox);have fp8:=A_ ((g16_:w.heap.size<=qx));have eq5:=fp8;replace HB:=hs_ (aa4) hb;have bv3:=nl_ tn hg;have bv4:=nr_ tn hg;replace tn:=bb_ tn hb;clear hb hbox hg;have dp7:=bv3.out;have dp8:=bv4.out;obtain⟨ci5,ci6,ft8,mj6,ci7,ci8,ft9,mj7⟩:=blk4_ tn;obtain⟨af1,af2,dv6,pz5,af3,af4,dv7,pz6⟩:=blk4_ bv2))
 go_ret
 exact⟨g4_,aa4⟩
def Fx.l0:Nat->List (S69)->List (S69)->Int->Option (Bool)
 | 0,_,_,_=>none
 | k + 1,x0,x1,x5=>if x5 < (x0.length:Int) then(if 0<=x5 then(if x5 < (x1.length:Int) then((G9.f ((rd_T69 x0 x5).f0) ((rd_T69 x0 x5).f1) ((rd_T69 x0 x5).f2) ((rd_T69 x0 x5).f3) ((rd_T69 x1 x5).f0) ((rd_T69 x1 x5).f1) ((rd_T69 x1 x5).f2) ((rd_T69 x1 x5).f3)).bind fun hi2=>(if hi2=true then(Fx.l0 k x0 x1 (wrap64 (x5 + 1))) else(some false))) else(none)) else(none)) else(some true)
def Fx.f (k:Nat) (l0:List (S69)) (l1:List (S69)):Option (Bool):=if (l0.length:Int)=(l1.length:Int) then(Fx.l0 k l0 l1 0) else(some false)
def Fx.T6:Bool × List (List Nat × List Nat):=(true,[([],[]),([],[]),([0,1],[0,1]),([2],[2]),([],[]),([],[]),([4,5],[4,5]),([6],[6]),([3,7],[3,7]),([8],[8])])
def Fx.B6:List Nat:=[0,0,3,7,0,0,48,112,255,511]
theorem Fx.tab6:rtab .any (opsOf Try.f62 6)=Fx.T6:=by kernel_rfl
theorem Fx.bits6:waitsOk Fx.T6.2 Fx.B6=true:=by kernel_rfl
theorem da2 {p:Prop} (h:p:=by repeat(first|(with_reducible first|exact HB.out|apply Jk|apply Jj|apply Ji)|exact HB.out)):p:=h
set_option maxHeartbeats 8000000 in
set_option maxRecDepth 100000 in
theorem Fx.calls (k:Nat) (A0:Option Addr) (c0:Nat) (l0:List (S69)) (A1:Option Addr) (c1:Nat) (l1:List (S69)) (r:Bool) (w:World) (fa:Kd.C k69 w A0 l0.length l0) (ec:l0.length<=c0) (iu:Kd.C k69 w A1 l1.length l1) (iz:l1.length<=c1) (h:Fx.f k l0 l1=some r) :
  Calls Try.prog 62 #[.slice A0 l0.length c0, .slice A1 l1.length c1] w fun e w'=>e = .returned (.bool r)/\Below w.heap.size w w':=by
 have hu69:=Try.underlying69
 have fp:=A_ fa
 have op:=A_ ec
 clear fa ec
 have fs:=A_ iu
 have pe:=A_ iz
 clear iu iz
 have HB:=A_ (Below.refl w.heap.size w)
 have H:=h
 unfold Fx.f at H
 clear h
 by_cases c3:(l0.length:Int)=(l1.length:Int)
 case neg=>
  rw[if_neg c3] at H
  have gj:((l0.length:Int) == (l1.length:Int))=false:=beq_eq_false_iff_ne.mpr c3
  have ny:((l0.length:Int) != (l1.length:Int))=true:=bne_iff_ne.mpr c3
  have ul:(l0.length == l1.length)=false:=by first|simpa using c3|(simp at c3 |-;omega)
  obtain rfl:=Option.some.inj H
  go_enter Try.func62,Try.ntmps62
  go_wp2
  go_ret
  exact⟨g4_,da2⟩
 rw[if_pos c3] at H
 have gj:((l0.length:Int) == (l1.length:Int))=true:=beq_iff_eq.mpr c3
 have ny:((l0.length:Int) != (l1.length:Int))=false:=bne_eq_false_iff_eq.mpr c3
 have ul:(l0.length == l1.length)=true:=by first|simpa using c3|(simp at c3 |-;omega)
 clear c3
 have H':=A_ H
 clear H
 go_enter Try.func62,Try.ntmps62
 go_wp2
 go_loopg [5] k (fun kq v5 w'=>∃(ae:Int),v5 = .int .i64 ae/\Jc (Fx.l0 kq l0 l1 ae=some r)/\Jc (kq<=k)/\Jc (Below w.heap.size w w'))
 case atStart=>exact⟨(0),(g3_),H',⟨Nat.le_refl _⟩,⟨da2⟩⟩
 clear H'
 obtain⟨ae,rfl,HA,HK1,HB⟩:=hrel
 cases gk with
 | zero=>exact absurd HA.out (by simp[Fx.l0])
 | succ k1=>?_
 have H:=HA.out
 clear HA
 simp only[Fx.l0] at H
 by_cases c4:ae < (l0.length:Int)
 case neg=>
  rw[if_neg c4] at H
  have ic:=decide_eq_false c4
  clear c4
  obtain rfl:=Option.some.inj H
  go_wp2
  go_ret
  exact⟨g4_,da2⟩
 rw[if_pos c4] at H
 have ic:=decide_eq_true c4
 clear c4
 obtain⟨kn,H⟩:=pd_ H
 obtain⟨kf,H⟩:=pd_ H
 obtain⟨hi2,A7,H⟩:=bind_ H
 by_cases c8:hi2=true
 ·subst c8
  replace H:=ifp_ H
  have H':=A_ H
  clear H
  try go_wp2
  replace HB:=A_ (Ji HB.out)
  obtain⟨⟨ae4,hi3,bv5,bv6,bv7,bv8⟩,cx8,cx9⟩:=rdp_ (at_T69 fp.out ae)
  have eq6:=bv8
  have eq7:=bv7
  have eq8:=bv6
  have eq9:=bv5
  cases hi3
  replace bv5:=cl_ HB bv5
  replace bv6:=cl_ HB bv6
  replace bv7:=cl_ HB bv7
  replace bv8:=cl_ HB bv8
  obtain⟨⟨ae5,hi4,bv9,bw0,bw1,bw2⟩,cy0,cy1⟩:=rdp_ (at_T69 fs.out ae)
  have er0:=bw2
  have er1:=bw1
  have er2:=bw0
  have er3:=bv9
  cases hi4
  replace bv9:=cl_ HB bv9
  replace bw0:=cl_ HB bw0
  replace bw1:=cl_ HB bw1
  replace bw2:=cl_ HB bw2
  refine start_ (n:=10) (S:=fun w'=>w'.cell? (ae4.add ((ae).toNat * 4))=some (.int .i64 ((rd_T69 l0 ae).f0))/\w'.cell? ⟨(ae4.add ((ae).toNat * 4)).block,(ae4.add ((ae).toNat * 4)).off + 1,none⟩=some (.int .i64 ((rd_T69 l0 ae).f1))/\w'.cell? ⟨(ae4.add ((ae).toNat * 4)).block,(ae4.add ((ae).toNat * 4)).off + 2,none⟩=some (.int .i64 ((rd_T69 l0 ae).f2))/\w'.cell? ⟨(ae4.add ((ae).toNat * 4)).block,(ae4.add ((ae).toNat * 4)).off + 3,none⟩=some (.int .i64 ((rd_T69 l0 ae).f3))/\w'.cell? (ae5.add ((ae).toNat * 4))=some (.int .i64 ((rd_T69 l1 ae).f0))/\w'.cell? ⟨(ae5.add ((ae).toNat * 4)).block,(ae5.add ((ae).toNat * 4)).off + 1,none⟩=some (.int .i64 ((rd_T69 l1 ae).f1))/\w'.cell? ⟨(ae5.add ((ae).toNat * 4)).block,(ae5.add ((ae).toNat * 4)).off + 2,none⟩=some (.int .i64 ((rd_T69 l1 ae).f2))/\w'.cell? ⟨(ae5.add ((ae).toNat * 4)).block,(ae5.add ((ae).toNat * 4)).off + 3,none⟩=some (.int .i64 ((rd_T69 l1 ae).f3))) (ds:=[]) (tl_ 10 0) (g1_) rfl (g1_) ⟨((cl_ HB eq9).trans rfl),((cl_ HB eq8).trans rfl),((cl_ HB eq7).trans rfl),((cl_ HB eq6).trans rfl),((cl_ HB er3).trans rfl),((cl_ HB er2).trans rfl),((cl_ HB er1).trans rfl),((cl_ HB er0).trans rfl)⟩ (fun hHeld=>?_);refine Jx Fx.tab6 Fx.bits6 (fun HT_ HW_=>?_)
  generalize wr.drew=w9 at HB bv5 bv6 bv7 bv8 bv9 bw0 bw1 bw2 hHeld |-
  refine pw_ 0 17 (tl_ 10 1) ?_
  refine pw_ 1 18 (tl_ 10 3) ?_
  refine pw_ 2 19 (tl_ 10 7) ?_
  refine pw_ 4 21 (tl_ 10 23) ?_
  refine pw_ 5 22 (tl_ 10 55) ?_
  refine pw_ 6 23 (tl_ 10 119) ?_
  refine tk5_ 3 20 (tl_ 10 127) hHeld ?_
  refine tk5_ 7 24 (tl_ 10 255) hHeld ?_
  refine one_ (i:=8) (N:=some 25) (tl_ 10 511) rfl rfl (Jz HT_.out (g1_)) (by decide) (fun K hK=>?_)
  refine goes_ Try.func105 (g1_) rfl #[.agg #[.int .i64 ((rd_T69 l0 ae).f0), .int .i64 ((rd_T69 l0 ae).f1), .int .i64 ((rd_T69 l0 ae).f2), .int .i64 ((rd_T69 l0 ae).f3)], .agg #[.int .i64 ((rd_T69 l1 ae).f0), .int .i64 ((rd_T69 l1 ae).f1), .int .i64 ((rd_T69 l1 ae).f2), .int .i64 ((rd_T69 l1 ae).f3)]] (by rfl) rfl rfl (gM_) ?_
  with_reducible refine(G9.calls ((rd_T69 l0 ae).f0) ((rd_T69 l0 ae).f1) ((rd_T69 l0 ae).f2) ((rd_T69 l0 ae).f3) ((rd_T69 l1 ae).f0) ((rd_T69 l1 ae).f1) ((rd_T69 l1 ae).f2) ((rd_T69 l1 ae).f3) true _ A7.out).mono ?_
  rintro e w10 ⟨rfl,hb⟩
  refine⟨_,rfl,?_⟩
  replace HB:=hs_ (da2) hb
  refine hK.out _ _ ⟨((cl_ HB eq9).trans rfl),((cl_ HB eq8).trans rfl),((cl_ HB eq7).trans rfl),((cl_ HB eq6).trans rfl),((cl_ HB er3).trans rfl),((cl_ HB er2).trans rfl),((cl_ HB er1).trans rfl),((cl_ HB er0).trans rfl)⟩ (fun hHeld=>?_)
  clear hK K
  refine nm_ ?_
  refine pw_ 9 26 (tl_ 10 1023) ?_
  refine done_ (done_of HT_.out (g1_)) ?_
  try go_wp2
  go_roundg k1
  case measure=>have:=HK1.out;omega
  case rel=>exact⟨(wrap64 (ae + 1)),(g3_),H',⟨g8_⟩,⟨da2⟩⟩
 replace c8:=Bool.eq_false_iff.mpr c8
 subst c8
 replace H:=ifn_ H
 obtain rfl:=Option.some.inj H
 try go_wp2
 replace HB:=A_ (Ji HB.out)
 obtain⟨⟨ae4,hi3,bv5,bv6,bv7,bv8⟩,cx8,cx9⟩:=rdp_ (at_T69 fp.out ae)
 have eq6:=bv8
 have eq7:=bv7
 have eq8:=bv6
 have eq9:=bv5
 cases hi3
 replace bv5:=cl_ HB bv5
 replace bv6:=cl_ HB bv6
 replace bv7:=cl_ HB bv7
 replace bv8:=cl_ HB bv8
 obtain⟨⟨ae5,hi4,bv9,bw0,bw1,bw2⟩,cy0,cy1⟩:=rdp_ (at_T69 fs.out ae)
 have er0:=bw2
 have er1:=bw1
 have er2:=bw0
 have er3:=bv9
 cases hi4
 replace bv9:=cl_ HB bv9
 replace bw0:=cl_ HB bw0
 replace bw1:=cl_ HB bw1
 replace bw2:=cl_ HB bw2
 refine start_ (n:=10) (S:=fun w'=>w'.cell? (ae4.add ((ae).toNat * 4))=some (.int .i64 ((rd_T69 l0 ae).f0))/\w'.cell? ⟨(ae4.add ((ae).toNat * 4)).block,(ae4.add ((ae).toNat * 4)).off + 1,none⟩=some (.int .i64 ((rd_T69 l0 ae).f1))/\w'.cell? ⟨(ae4.add ((ae).toNat * 4)).block,(ae4.add ((ae).toNat * 4)).off + 2,none⟩=some (.int .i64 ((rd_T69 l0 ae).f2))/\w'.cell? ⟨(ae4.add ((ae).toNat * 4)).block,(ae4.add ((ae).toNat * 4)).off + 3,none⟩=some (.int .i64 ((rd_T69 l0 ae).f3))/\w'.cell? (ae5.add ((ae).toNat * 4))=some (.int .i64 ((rd_T69 l1 ae).f0))/\w'.cell? ⟨(ae5.add ((ae).toNat * 4)).block,(ae5.add ((ae).toNat * 4)).off + 1,none⟩=some (.int .i64 ((rd_T69 l1 ae).f1))/\w'.cell? ⟨(ae5.add ((ae).toNat * 4)).block,(ae5.add ((ae).toNat * 4)).off + 2,none⟩=some (.int .i64 ((rd_T69 l1 ae).f2))/\w'.cell? ⟨(ae5.add ((ae).toNat * 4)).block,(ae5.add ((ae).toNat * 4)).off + 3,none⟩=some (.int .i64 ((rd_T69 l1 ae).f3))) (ds:=[]) (tl_ 10 0) (g1_) rfl (g1_) ⟨((cl_ HB eq9).trans rfl),((cl_ HB eq8).trans rfl),((cl_ HB eq7).trans rfl),((cl_ HB eq6).trans rfl),((cl_ HB er3).trans rfl),((cl_ HB er2).trans rfl),((cl_ HB er1).trans rfl),((cl_ HB er0).trans rfl)⟩ (fun hHeld=>?_);refine Jx Fx.tab6 Fx.bits6 (fun HT_ HW_=>?_)
 generalize wr.drew=g8 at HB bv5 bv6 bv7 bv8 bv9 bw0 bw1 bw2 hHeld |-
 refine pw_ 0 17 (tl_ 10 1) ?_
 refine pw_ 1 18 (tl_ 10 3) ?_
 refine pw_ 2 19 (tl_ 10 7) ?_
 refine pw_ 4 21 (tl_ 10 23) ?_
 refine pw_ 5 22 (tl_ 10 55) ?_
 refine pw_ 6 23 (tl_ 10 119) ?_
 refine tk5_ 3 20 (tl_ 10 127) hHeld ?_
 refine tk5_ 7 24 (tl_ 10 255) hHeld ?_
 refine one_ (i:=8) (N:=some 25) (tl_ 10 511) rfl rfl (Jz HT_.out (g1_)) (by decide) (fun K hK=>?_)
 refine goes_ Try.func105 (g1_) rfl #[.agg #[.int .i64 ((rd_T69 l0 ae).f0), .int .i64 ((rd_T69 l0 ae).f1), .int .i64 ((rd_T69 l0 ae).f2), .int .i64 ((rd_T69 l0 ae).f3)], .agg #[.int .i64 ((rd_T69 l1 ae).f0), .int .i64 ((rd_T69 l1 ae).f1), .int .i64 ((rd_T69 l1 ae).f2), .int .i64 ((rd_T69 l1 ae).f3)]] (by rfl) rfl rfl (gM_) ?_
 with_reducible refine(G9.calls ((rd_T69 l0 ae).f0) ((rd_T69 l0 ae).f1) ((rd_T69 l0 ae).f2) ((rd_T69 l0 ae).f3) ((rd_T69 l1 ae).f0) ((rd_T69 l1 ae).f1) ((rd_T69 l1 ae).f2) ((rd_T69 l1 ae).f3) false _ A7.out).mono ?_
 rintro e uf ⟨rfl,hb⟩
 refine⟨_,rfl,?_⟩
 replace HB:=hs_ (da2) hb
 refine hK.out _ _ ⟨((cl_ HB eq9).trans rfl),((cl_ HB eq8).trans rfl),((cl_ HB eq7).trans rfl),((cl_ HB eq6).trans rfl),((cl_ HB er3).trans rfl),((cl_ HB er2).trans rfl),((cl_ HB er1).trans rfl),((cl_ HB er0).trans rfl)⟩ (fun hHeld=>?_)
 clear hK K
 refine nm_ ?_
 refine pw_ 9 26 (tl_ 10 1023) ?_
 refine done_ (done_of HT_.out (g1_)) ?_
 try go_wp2
 go_ret
 exact⟨g4_,da2⟩
def F4.l0:Nat->List (S69)->Int->Int->Option (Int × (List (S69)))
 | 0,_,_,_=>none
 | k + 1,x0,x1,x5=>if x5 < (x0.length:Int) then(if 0<=x5 then((some (x0.set (x5:Int).toNat (⟨x1,(rd_T69 x0 x5).f1,(rd_T69 x0 x5).f2,(rd_T69 x0 x5).f3⟩:S69):List (S69))).bind fun ql=>((some (ql.set (x5:Int).toNat (⟨(rd_T69 ql x5).f0,wrap64 (x1 + 1),(rd_T69 ql x5).f2,(rd_T69 ql x5).f3⟩:S69):List (S69))).bind fun nv=>((some (nv.set (x5:Int).toNat (⟨(rd_T69 nv x5).f0,(rd_T69 nv x5).f1,wrap64 ((wrap64 (x1 + 1)) + 1),(rd_T69 nv x5).f3⟩:S69):List (S69))).bind fun l3=>(F4.l0 k (l3.set (x5:Int).toNat (⟨(rd_T69 l3 x5).f0,(rd_T69 l3 x5).f1,(rd_T69 l3 x5).f2,wrap64 ((wrap64 ((wrap64 (x1 + 1)) + 1)) + 1)⟩:S69)) (wrap64 ((wrap64 ((wrap64 ((wrap64 (x1 + 1)) + 1)) + 1)) + 1)) (wrap64 (x5 + 1)))))) else(none)) else(some (x1,x0))
def F4.f (k:Nat) (l0:List (S69)) (a1:Int):Option (Int × (List (S69))):=F4.l0 k l0 a1 0
theorem da3 {p:Prop} (h:p:=by repeat(first|(with_reducible first|exact HK.out|apply Kept.alloc|apply Kept.drewN|apply Kept.drew)|exact HK.out)):p:=h
theorem hn4 {p:Prop} (h:p:=by repeat(first|(with_reducible first|exact HB.out|apply Jk|apply Jj|apply Ji)|exact HB.out)):p:=h
set_option maxHeartbeats 8000000 in
set_option maxRecDepth 100000 in
theorem F4.calls (k:Nat) (P0_:Nat->Prop) (u9000_:Value) (l0:List (S69)) (a1:Int) (r1:Int) (r2:List (S69)) (w0 w:World) (hB:Below w0.heap.size w0 w) (ai:Kd.R k69 69 w w0.heap.size P0_ u9000_ l0) (h:F4.f k l0 a1=some (r1,r2)) :
  Calls Try.prog 63 #[u9000_, .int .i64 a1] w fun e w'=>e = .returned (.int .i64 r1)/\Kd.R k69 69 w' w0.heap.size (fun k_=>(P0_ k_ ∨ w.heap.size<=k_)) u9000_ r2/\Below w0.heap.size w0 w'/\Kept w w' (fun k_=>P0_ k_):=by
 have HO0:=A_ (show Kd.R k69 69 w w0.heap.size (fun k_=>(P0_ k_ ∨ w.heap.size<=k_)) u9000_ l0 from Kd.R_mono ai (fun k_ hk=>(.inl hk)))
 have HK:=A_ (Kept.refl w (fun k_=>P0_ k_))
 have HW0:=A_ hB.size
 have HB:=A_ hB
 clear hB
 have H:(F4.l0 k l0 a1 0)=some (r1,r2):=h
 clear h
 have H':=A_ H
 clear H
 go_enter Try.func63,Try.ntmps63
 go_wp2
 go_loopg [1,5] k (fun kq v1 v5 w'=>∃(je:List (S69)) (eg:Int) (ae:Int),v1 = .int .i64 eg/\v5 = .int .i64 ae/\Jc (F4.l0 kq je eg ae=some (r1,r2))/\Jc (kq<=k)/\Jc (Kd.R k69 69 w' w0.heap.size (fun k_=>(P0_ k_ ∨ w.heap.size<=k_)) u9000_ je)/\Jc (Kept w w' (fun k_=>P0_ k_))/\Jc (Below w0.heap.size w0 w'))
 case atStart=>exact⟨(l0),(a1),(0),(g3_),(g3_),H',⟨Nat.le_refl _⟩,⟨uR_ HO0⟩,⟨da3⟩,⟨hn4⟩⟩
 clear H'
 obtain⟨je,eg,ae,rfl,rfl,HA,HK1,kg,HK,HB⟩:=hrel
 cases gk with
 | zero=>exact absurd HA.out (by simp[F4.l0])
 | succ k1=>?_
 have H:=HA.out
 clear HA
 simp only[F4.l0] at H
 by_cases c3:ae < (je.length:Int)
 case neg=>
  rw[if_neg c3] at H
  have gj:=decide_eq_false c3
  clear c3
  simp only[Option.some.injEq,Prod.mk.injEq] at H
  obtain⟨rfl,rfl⟩:=H
  obtain⟨m4,ky,eg2⟩:=Kd.R_slice kg.out
  subst eg2
  go_wp2
  go_ret
  exact⟨g4_,uR_ kg,hn4,da3⟩
 rw[if_pos c3] at H
 have gj:=decide_eq_true c3
 clear c3
 obtain⟨ic,H⟩:=pd_ H
 obtain⟨ql,hyq⟩:∃y_:List (S69),y_=(je.set (ae:Int).toNat (⟨eg,(rd_T69 je ae).f1,(rd_T69 je ae).f2,(rd_T69 je ae).f3⟩:S69)):=⟨_,rfl⟩
 replace H:((some (ql.set (ae:Int).toNat (⟨(rd_T69 ql ae).f0,wrap64 (eg + 1),(rd_T69 ql ae).f2,(rd_T69 ql ae).f3⟩:S69):List (S69))).bind fun nv=>((some (nv.set (ae:Int).toNat (⟨(rd_T69 nv ae).f0,(rd_T69 nv ae).f1,wrap64 ((wrap64 (eg + 1)) + 1),(rd_T69 nv ae).f3⟩:S69):List (S69))).bind fun l3=>(F4.l0 k1 (l3.set (ae:Int).toNat (⟨(rd_T69 l3 ae).f0,(rd_T69 l3 ae).f1,(rd_T69 l3 ae).f2,wrap64 ((wrap64 ((wrap64 (eg + 1)) + 1)) + 1)⟩:S69)) (wrap64 ((wrap64 ((wrap64 ((wrap64 (eg + 1)) + 1)) + 1)) + 1)) (wrap64 (ae + 1)))))=some (r1,r2):=qh_
 have mx5:=A_ hyq
 clear hyq
 obtain⟨nv,hyq⟩:∃y_:List (S69),y_=(ql.set (ae:Int).toNat (⟨(rd_T69 ql ae).f0,wrap64 (eg + 1),(rd_T69 ql ae).f2,(rd_T69 ql ae).f3⟩:S69)):=⟨_,rfl⟩
 replace H:((some (nv.set (ae:Int).toNat (⟨(rd_T69 nv ae).f0,(rd_T69 nv ae).f1,wrap64 ((wrap64 (eg + 1)) + 1),(rd_T69 nv ae).f3⟩:S69):List (S69))).bind fun l3=>(F4.l0 k1 (l3.set (ae:Int).toNat (⟨(rd_T69 l3 ae).f0,(rd_T69 l3 ae).f1,(rd_T69 l3 ae).f2,wrap64 ((wrap64 ((wrap64 (eg + 1)) + 1)) + 1)⟩:S69)) (wrap64 ((wrap64 ((wrap64 ((wrap64 (eg + 1)) + 1)) + 1)) + 1)) (wrap64 (ae + 1))))=some (r1,r2):=qh_
 have mx6:=A_ hyq
 clear hyq
 obtain⟨l3,hyq⟩:∃y_:List (S69),y_=(nv.set (ae:Int).toNat (⟨(rd_T69 nv ae).f0,(rd_T69 nv ae).f1,wrap64 ((wrap64 (eg + 1)) + 1),(rd_T69 nv ae).f3⟩:S69)):=⟨_,rfl⟩
 replace H:(F4.l0 k1 (l3.set (ae:Int).toNat (⟨(rd_T69 l3 ae).f0,(rd_T69 l3 ae).f1,(rd_T69 l3 ae).f2,wrap64 ((wrap64 ((wrap64 (eg + 1)) + 1)) + 1)⟩:S69)) (wrap64 ((wrap64 ((wrap64 ((wrap64 (eg + 1)) + 1)) + 1)) + 1)) (wrap64 (ae + 1)))=some (r1,r2):=qh_
 have mx7:=A_ hyq
 clear hyq
 obtain⟨hi5,hyq⟩:∃y_:List (S69),y_=(l3.set (ae:Int).toNat (⟨(rd_T69 l3 ae).f0,(rd_T69 l3 ae).f1,(rd_T69 l3 ae).f2,wrap64 ((wrap64 ((wrap64 (eg + 1)) + 1)) + 1)⟩:S69)):=⟨_,rfl⟩
 replace H:(F4.l0 k1 hi5 (wrap64 ((wrap64 ((wrap64 ((wrap64 (eg + 1)) + 1)) + 1)) + 1)) (wrap64 (ae + 1)))=some (r1,r2):=qh_
 have mx8:=A_ hyq
 clear hyq
 have H':=A_ H
 clear H
 obtain⟨g5,fw,eo9⟩:=Kd.R_slice kg.out
 subst eo9
 have p5:0<=(ae:Int):=od_
 have q5:(ae:Int) < ((je.length:Int):Int):=od_
 obtain⟨g4,co5,eo5,gb5,gl5,cl5,HG5⟩:=Kd.R_form kg.out (by omega)
 (first|cases eo5|(injection eo5 with ea_ en_ ec_;(first|subst ea_|(injection ea_ with ea_;subst ea_));subst ec_;clear en_))
 have GB5:=A_ gb5
 have GG5:=A_ HG5
 clear gb5 gl5 HG5
 have HMgo5:=A_ (show(P0_ g4 ∨ w.heap.size<=g4) from(kg.out.1 _ rfl))
 obtain⟨ce5,hcl5,hM5,hcc5,hfr5⟩:=Kd.R_elem kg.out z69 (ae:Int) p5 q5
 obtain rfl:=k69_openM hM5
 have jw7:wr.cell? ⟨g4,(ae:Int).toNat * 4,none⟩=some (.int .i64 ((rd_T69 je ae).f0)):=hcc5 0 _ rfl
 have qa5:wr.cell? ⟨g4,(ae:Int).toNat * 4 + 1,none⟩=some (.int .i64 ((rd_T69 je ae).f1)):=hcc5 1 _ rfl
 have qa6:wr.cell? ⟨g4,(ae:Int).toNat * 4 + 2,none⟩=some (.int .i64 ((rd_T69 je ae).f2)):=hcc5 2 _ rfl
 have qa7:wr.cell? ⟨g4,(ae:Int).toNat * 4 + 3,none⟩=some (.int .i64 ((rd_T69 je ae).f3)):=hcc5 3 _ rfl
 have hf5_0:wr.frozen? ⟨g4,(ae:Int).toNat * 4,none⟩=false:=hfr5 0
 have hf5_1:wr.frozen? ⟨g4,(ae:Int).toNat * 4 + 1,none⟩=false:=hfr5 1
 have hf5_2:wr.frozen? ⟨g4,(ae:Int).toNat * 4 + 2,none⟩=false:=hfr5 2
 have hf5_3:wr.frozen? ⟨g4,(ae:Int).toNat * 4 + 3,none⟩=false:=hfr5 3
 clear hcl5 hcc5 hfr5 hM5
 replace p5:=eq_true p5
 replace q5:=eq_true q5
 have HX10:=A_ (show Kd.R k69 69 wr w0.heap.size (fun k_=>(P0_ k_ ∨ w.heap.size<=k_)) (.slice (some ⟨g4,0,none⟩) je.length fw) je from(uR_ kg))
 obtain⟨ce10,hcl10,hM10,hcc10,hfr10⟩:=Kd.R_elem HX10.out z69 (ae:Int) (od_) (by have h_:(ae:Int) < ((je.length:Int):Int):=od_;first|exact h_|(have e_:=(Kd.R_reads' kg.out).1;omega)|simpa using h_)
 obtain rfl:=k69_openM hM10
 have HP10:=Kd.R_seg HX10.out (ae:Int) (od_) (by have h_:(ae:Int) < ((je.length:Int):Int):=od_;first|exact h_|(have e_:=(Kd.R_reads' kg.out).1;omega)|simpa using h_) (seg:=[.int .i64 eg]) (j:=0) hcl10 hcc10 (show 1<=4 from by decide) (x':=(⟨eg,(rd_T69 je ae).f1,(rd_T69 je ae).f2,(rd_T69 je ae).f3⟩:S69)) (k69_mkM _ _ _ (⟨eg,(rd_T69 je ae).f1,(rd_T69 je ae).f2,(rd_T69 je ae).f3⟩:S69)) (fun _ hk=>hk)
 have dv9:=hcc10 0 _ rfl
 (try simp only[show(k69).sz=4 from rfl,Nat.mul_one,Nat.add_zero] at dv9)
 have hf10_0:=hfr10 0
 (try simp only[show(k69).sz=4 from rfl,Nat.mul_one,Nat.add_zero] at hf10_0)
 clear hcl10 hcc10 hfr10 hM10
 go_wp2_with (first|((with_reducible refine gate_store (t:=3) (p:=16) rfl ?_);refine store_event (t:=3) (p:=16) (v:=?vo_w11) (w1:=(wr.setCell ⟨g4,(ae:Int).toNat * 4,none⟩ (.int .i64 eg))) ?hg ?ho ?hn ?hr ?_;(case ho=>rfl);(case hg=>rfl);(case hn=>rfl);(case hr=>first|(go_simp;done)|(go_simp;rfl));intro g8 hw;have hg:wr.grownBy g8 (some g4):=(by rw[hw];exact HP10.2);have hp_:Kd.R k69 69 g8 w0.heap.size (fun k_=>(P0_ k_ ∨ w.heap.size<=k_)) (.slice (some ⟨g4,0,none⟩) je.length fw) ql:=(by rw[hw,mx5.out];exact HP10.1);clear HP10;replace HB:=A_ ((g91_:Below w0.heap.size w0 g8));replace HK:=A_ (Kept.of_grown (S:=(fun k_=>P0_ k_)) hg (da3) (fun k_ e_=>(kg.out.1 k_ e_)));replace kg:=A_ (hp_);clear hg hw hp_;have p6:0<=(ae:Int):=od_;have q6:(ae:Int) < ((je.length:Int):Int):=od_;obtain⟨ce6,hcl6,hM6,hcc6,hfr6⟩:=Kd.R_elem kg.out z69 (ae:Int) p6 q6;obtain rfl:=k69_openM hM6;have qa8:g8.cell? ⟨g4,(ae:Int).toNat * 4,none⟩=some (.int .i64 ((rd_T69 ql ae).f0)):=hcc6 0 _ rfl;have qa9:g8.cell? ⟨g4,(ae:Int).toNat * 4 + 1,none⟩=some (.int .i64 ((rd_T69 ql ae).f1)):=hcc6 1 _ rfl;have qb0:g8.cell? ⟨g4,(ae:Int).toNat * 4 + 2,none⟩=some (.int .i64 ((rd_T69 ql ae).f2)):=hcc6 2 _ rfl;have qb1:g8.cell? ⟨g4,(ae:Int).toNat * 4 + 3,none⟩=some (.int .i64 ((rd_T69 ql ae).f3)):=hcc6 3 _ rfl;have hf6_0:g8.frozen? ⟨g4,(ae:Int).toNat * 4,none⟩=false:=hfr6 0;have hf6_1:g8.frozen? ⟨g4,(ae:Int).toNat * 4 + 1,none⟩=false:=hfr6 1;have hf6_2:g8.frozen? ⟨g4,(ae:Int).toNat * 4 + 2,none⟩=false:=hfr6 2;have hf6_3:g8.frozen? ⟨g4,(ae:Int).toNat * 4 + 3,none⟩=false:=hfr6 3;clear hcl6 hcc6 hfr6 hM6;replace p6:=eq_true p6;replace q6:=eq_true q6;have HX12:=A_ (show Kd.R k69 69 g8 w0.heap.size (fun k_=>(P0_ k_ ∨ w.heap.size<=k_)) (.slice (some ⟨g4,0,none⟩) je.length fw) ql from(uR_ kg));obtain⟨ce12,hcl12,hM12,hcc12,hfr12⟩:=Kd.R_elem HX12.out z69 (ae:Int) (od_) (by have h_:(ae:Int) < ((je.length:Int):Int):=od_;first|exact h_|(have e_:=(Kd.R_reads' kg.out).1;omega)|simpa using h_);obtain rfl:=k69_openM hM12;have HP12:=Kd.R_seg HX12.out (ae:Int) (od_) (by have h_:(ae:Int) < ((je.length:Int):Int):=od_;first|exact h_|(have e_:=(Kd.R_reads' kg.out).1;omega)|simpa using h_) (seg:=[.int .i64 (wrap64 (eg + 1))]) (j:=1) hcl12 hcc12 (show 2<=4 from by decide) (x':=(⟨(rd_T69 ql ae).f0,wrap64 (eg + 1),(rd_T69 ql ae).f2,(rd_T69 ql ae).f3⟩:S69)) (k69_mkM _ _ _ (⟨(rd_T69 ql ae).f0,wrap64 (eg + 1),(rd_T69 ql ae).f2,(rd_T69 ql ae).f3⟩:S69)) (fun _ hk=>hk);have dw4:=hcc12 1 _ rfl;(try simp only[show(k69).sz=4 from rfl,Nat.mul_one,Nat.add_zero] at dw4);have hf12_1:=hfr12 1;(try simp only[show(k69).sz=4 from rfl,Nat.mul_one,Nat.add_zero] at hf12_1);clear hcl12 hcc12 hfr12 hM12)|((with_reducible refine gate_store (t:=3) (p:=23) rfl ?_);refine store_event (t:=3) (p:=23) (v:=?vo_w13) (w1:=(g8.setCell ⟨g4,(ae:Int).toNat * 4 + 1,none⟩ (.int .i64 (wrap64 (eg + 1))))) ?hg ?ho ?hn ?hr ?_;(case ho=>rfl);(case hg=>rfl);(case hn=>rfl);(case hr=>first|(go_simp;done)|(go_simp;rfl));intro km hw;have hg:g8.grownBy km (some g4):=(by rw[hw];exact HP12.2);have hp_:Kd.R k69 69 km w0.heap.size (fun k_=>(P0_ k_ ∨ w.heap.size<=k_)) (.slice (some ⟨g4,0,none⟩) je.length fw) nv:=(by rw[hw,mx6.out];exact HP12.1);clear HP12;replace HB:=A_ ((g91_:Below w0.heap.size w0 km));replace HK:=A_ (Kept.of_grown (S:=(fun k_=>P0_ k_)) hg (da3) (fun k_ e_=>(kg.out.1 k_ e_)));replace kg:=A_ (hp_);clear hg hw hp_;have p7:0<=(ae:Int):=od_;have q7:(ae:Int) < ((je.length:Int):Int):=od_;obtain⟨ce7,hcl7,hM7,hcc7,hfr7⟩:=Kd.R_elem kg.out z69 (ae:Int) p7 q7;obtain rfl:=k69_openM hM7;have lo6:km.cell? ⟨g4,(ae:Int).toNat * 4,none⟩=some (.int .i64 ((rd_T69 nv ae).f0)):=hcc7 0 _ rfl;have qb2:km.cell? ⟨g4,(ae:Int).toNat * 4 + 1,none⟩=some (.int .i64 ((rd_T69 nv ae).f1)):=hcc7 1 _ rfl;have qb3:km.cell? ⟨g4,(ae:Int).toNat * 4 + 2,none⟩=some (.int .i64 ((rd_T69 nv ae).f2)):=hcc7 2 _ rfl;have qb4:km.cell? ⟨g4,(ae:Int).toNat * 4 + 3,none⟩=some (.int .i64 ((rd_T69 nv ae).f3)):=hcc7 3 _ rfl;have hf7_0:km.frozen? ⟨g4,(ae:Int).toNat * 4,none⟩=false:=hfr7 0;have hf7_1:km.frozen? ⟨g4,(ae:Int).toNat * 4 + 1,none⟩=false:=hfr7 1;have hf7_2:km.frozen? ⟨g4,(ae:Int).toNat * 4 + 2,none⟩=false:=hfr7 2;have hf7_3:km.frozen? ⟨g4,(ae:Int).toNat * 4 + 3,none⟩=false:=hfr7 3;clear hcl7 hcc7 hfr7 hM7;replace p7:=eq_true p7;replace q7:=eq_true q7;have HX14:=A_ (show Kd.R k69 69 km w0.heap.size (fun k_=>(P0_ k_ ∨ w.heap.size<=k_)) (.slice (some ⟨g4,0,none⟩) je.length fw) nv from(uR_ kg));obtain⟨ce14,hcl14,hM14,hcc14,hfr14⟩:=Kd.R_elem HX14.out z69 (ae:Int) (od_) (by have h_:(ae:Int) < ((je.length:Int):Int):=od_;first|exact h_|(have e_:=(Kd.R_reads' kg.out).1;omega)|simpa using h_);obtain rfl:=k69_openM hM14;have HP14:=Kd.R_seg HX14.out (ae:Int) (od_) (by have h_:(ae:Int) < ((je.length:Int):Int):=od_;first|exact h_|(have e_:=(Kd.R_reads' kg.out).1;omega)|simpa using h_) (seg:=[.int .i64 (wrap64 ((wrap64 (eg + 1)) + 1))]) (j:=2) hcl14 hcc14 (show 3<=4 from by decide) (x':=(⟨(rd_T69 nv ae).f0,(rd_T69 nv ae).f1,wrap64 ((wrap64 (eg + 1)) + 1),(rd_T69 nv ae).f3⟩:S69)) (k69_mkM _ _ _ (⟨(rd_T69 nv ae).f0,(rd_T69 nv ae).f1,wrap64 ((wrap64 (eg + 1)) + 1),(rd_T69 nv ae).f3⟩:S69)) (fun _ hk=>hk);have mx9:=hcc14 2 _ rfl;(try simp only[show(k69).sz=4 from rfl,Nat.mul_one,Nat.add_zero] at mx9);have hf14_2:=hfr14 2;(try simp only[show(k69).sz=4 from rfl,Nat.mul_one,Nat.add_zero] at hf14_2);clear hcl14 hcc14 hfr14 hM14)|((with_reducible refine gate_store (t:=3) (p:=30) rfl ?_);refine store_event (t:=3) (p:=30) (v:=?vo_w15) (w1:=(km.setCell ⟨g4,(ae:Int).toNat * 4 + 2,none⟩ (.int .i64 (wrap64 ((wrap64 (eg + 1)) + 1))))) ?hg ?ho ?hn ?hr ?_;(case ho=>rfl);(case hg=>rfl);(case hn=>rfl);(case hr=>first|(go_simp;done)|(go_simp;rfl));intro rq hw;have hg:km.grownBy rq (some g4):=(by rw[hw];exact HP14.2);have hp_:Kd.R k69 69 rq w0.heap.size (fun k_=>(P0_ k_ ∨ w.heap.size<=k_)) (.slice (some ⟨g4,0,none⟩) je.length fw) l3:=(by rw[hw,mx7.out];exact HP14.1);clear HP14;replace HB:=A_ ((g91_:Below w0.heap.size w0 rq));replace HK:=A_ (Kept.of_grown (S:=(fun k_=>P0_ k_)) hg (da3) (fun k_ e_=>(kg.out.1 k_ e_)));replace kg:=A_ (hp_);clear hg hw hp_;have p8:0<=(ae:Int):=od_;have q8:(ae:Int) < ((je.length:Int):Int):=od_;obtain⟨ce8,hcl8,hM8,hcc8,hfr8⟩:=Kd.R_elem kg.out z69 (ae:Int) p8 q8;obtain rfl:=k69_openM hM8;have qb5:rq.cell? ⟨g4,(ae:Int).toNat * 4,none⟩=some (.int .i64 ((rd_T69 l3 ae).f0)):=hcc8 0 _ rfl;have qb6:rq.cell? ⟨g4,(ae:Int).toNat * 4 + 1,none⟩=some (.int .i64 ((rd_T69 l3 ae).f1)):=hcc8 1 _ rfl;have qb7:rq.cell? ⟨g4,(ae:Int).toNat * 4 + 2,none⟩=some (.int .i64 ((rd_T69 l3 ae).f2)):=hcc8 2 _ rfl;have qb8:rq.cell? ⟨g4,(ae:Int).toNat * 4 + 3,none⟩=some (.int .i64 ((rd_T69 l3 ae).f3)):=hcc8 3 _ rfl;have hf8_0:rq.frozen? ⟨g4,(ae:Int).toNat * 4,none⟩=false:=hfr8 0;have hf8_1:rq.frozen? ⟨g4,(ae:Int).toNat * 4 + 1,none⟩=false:=hfr8 1;have hf8_2:rq.frozen? ⟨g4,(ae:Int).toNat * 4 + 2,none⟩=false:=hfr8 2;have hf8_3:rq.frozen? ⟨g4,(ae:Int).toNat * 4 + 3,none⟩=false:=hfr8 3;clear hcl8 hcc8 hfr8 hM8;replace p8:=eq_true p8;replace q8:=eq_true q8;have HX16:=A_ (show Kd.R k69 69 rq w0.heap.size (fun k_=>(P0_ k_ ∨ w.heap.size<=k_)) (.slice (some ⟨g4,0,none⟩) je.length fw) l3 from(uR_ kg));obtain⟨ce16,hcl16,hM16,hcc16,hfr16⟩:=Kd.R_elem HX16.out z69 (ae:Int) (od_) (by have h_:(ae:Int) < ((je.length:Int):Int):=od_;first|exact h_|(have e_:=(Kd.R_reads' kg.out).1;omega)|simpa using h_);obtain rfl:=k69_openM hM16;have HP16:=Kd.R_seg HX16.out (ae:Int) (od_) (by have h_:(ae:Int) < ((je.length:Int):Int):=od_;first|exact h_|(have e_:=(Kd.R_reads' kg.out).1;omega)|simpa using h_) (seg:=[.int .i64 (wrap64 ((wrap64 ((wrap64 (eg + 1)) + 1)) + 1))]) (j:=3) hcl16 hcc16 (show 4<=4 from by decide) (x':=(⟨(rd_T69 l3 ae).f0,(rd_T69 l3 ae).f1,(rd_T69 l3 ae).f2,wrap64 ((wrap64 ((wrap64 (eg + 1)) + 1)) + 1)⟩:S69)) (k69_mkM _ _ _ (⟨(rd_T69 l3 ae).f0,(rd_T69 l3 ae).f1,(rd_T69 l3 ae).f2,wrap64 ((wrap64 ((wrap64 (eg + 1)) + 1)) + 1)⟩:S69)) (fun _ hk=>hk);have my0:=hcc16 3 _ rfl;(try simp only[show(k69).sz=4 from rfl,Nat.mul_one,Nat.add_zero] at my0);have hf16_3:=hfr16 3;(try simp only[show(k69).sz=4 from rfl,Nat.mul_one,Nat.add_zero] at hf16_3);clear hcl16 hcc16 hfr16 hM16)|((with_reducible refine gate_store (t:=3) (p:=37) rfl ?_);refine store_event (t:=3) (p:=37) (v:=?vo_w17) (w1:=(rq.setCell ⟨g4,(ae:Int).toNat * 4 + 3,none⟩ (.int .i64 (wrap64 ((wrap64 ((wrap64 (eg + 1)) + 1)) + 1))))) ?hg ?ho ?hn ?hr ?_;(case ho=>rfl);(case hg=>rfl);(case hn=>rfl);(case hr=>first|(go_simp;done)|(go_simp;rfl));intro ug hw;have hg:rq.grownBy ug (some g4):=(by rw[hw];exact HP16.2);have hp_:Kd.R k69 69 ug w0.heap.size (fun k_=>(P0_ k_ ∨ w.heap.size<=k_)) (.slice (some ⟨g4,0,none⟩) je.length fw) hi5:=(by rw[hw,mx8.out];exact HP16.1);clear HP16;replace HB:=A_ ((g91_:Below w0.heap.size w0 ug));replace HK:=A_ (Kept.of_grown (S:=(fun k_=>P0_ k_)) hg (da3) (fun k_ e_=>(kg.out.1 k_ e_)));replace kg:=A_ (hp_);clear hg hw hp_))
 go_roundg k1
 case measure=>have:=HK1.out;omega
 case rel=>exact⟨(hi5),(wrap64 ((wrap64 ((wrap64 ((wrap64 (eg + 1)) + 1)) + 1)) + 1)),(wrap64 (ae + 1)),(g3_),(g3_),H',⟨g8_⟩,⟨uR_ kg⟩,⟨da3⟩,⟨hn4⟩⟩
end Go.Proofs.Ytfooakkhkehpiaa.PE
namespace Go.Proofs.Ytfooakkhkehpiaa.PE
open Go.RowKit Go.Proofs.YtfooakkhkehpiaaW.PrintWords Go.Proofs.YtfooakkhkehpiaaW.PrintLast Go.Proofs.YtfooakkhkehpiaaW.PrintMore
set_option linter.unusedVariables false
set_option linter.unusedSimpArgs false
def LsS (base lo hi:Nat) (u:Value) (l:List (S69)) (W:World):Prop:=hi<=W.heap.size/\Kd.R k69 69 W base (fun k=>lo<=k/\k < hi) u l
section
variable {base lo hi:Nat} {u:Value} {l:List (S69)} {W W1:World}
theorem LsS.step (h:LsS base lo hi u l W) (hm:∀k,lo<=k->k < hi->W1.heap[k]? = W.heap[k]?) (hs:hi<=W1.heap.size):LsS base lo hi u l W1:=⟨hs,Kd.R_step h.2 (fun k hk _=>hm k hk.1 hk.2)⟩
theorem LsS.below (h:LsS base lo hi u l W) (hb:Below W.heap.size W W1):LsS base lo hi u l W1:=h.step (fun k _ hk=>hb.block k (Nat.lt_of_lt_of_le hk h.1)) (Nat.le_trans h.1 hb.size)
theorem LsS.drew (h:LsS base lo hi u l W):LsS base lo hi u l W.drew:=h.below (below_drew (Below.refl _ _))
theorem LsS.kept (h:LsS base lo hi u l W) {l2 h2:Nat} (hk:Kept W W1 (fun k=>l2<=k/\k < h2)) (ha:hi<=l2 ∨ h2<=lo):LsS base lo hi u l W1:=
  h.step (fun k h3 h4=>hk.2 k (Nat.lt_of_lt_of_le h4 h.1) (fun hs=>by omega)) (Nat.le_trans h.1 hk.1)
theorem LsS.mw (x:Jc (LsS base lo hi u l W)) {w1 w2:World} (hb:Below w1.heap.size w1 w2) (h:LsS base lo hi u l W->LsS base lo hi u l w1:=by intro x_;repeat(first|(with_reducible exact x_)|(with_reducible refine LsS.alloc ?_ _)|(with_reducible refine LsS.drewN ?_ _)|(with_reducible refine LsS.drew ?_))):Jc (LsS base lo hi u l w2):=⟨(h x.out).below hb⟩
theorem LsS.gw (x:Jc (LsS base lo hi u l W)) {w1:World} (h:LsS base lo hi u l W->LsS base lo hi u l w1:=by intro x_;repeat(first|(with_reducible exact x_)|(with_reducible refine LsS.alloc ?_ _)|(with_reducible refine LsS.drewN ?_ _)|(with_reducible refine LsS.drew ?_))):LsS base lo hi u l w1:=h x.out
theorem LsS.gg (x:Jc (LsS base lo hi u l W)) {w1:World} {g:Nat} (hg:g=w1.heap.size) (h:LsS base lo hi u l W->LsS base lo hi u l w1:=by intro x_;repeat(first|(with_reducible exact x_)|(with_reducible refine LsS.alloc ?_ _)|(with_reducible refine LsS.drewN ?_ _)|(with_reducible refine LsS.drew ?_))):Jc (hi<=g):=⟨hg ▸ (h x.out).1⟩
theorem LsS.put3 (x:Jc (LsS base lo hi u l W)) {g:Nat} (hg:g < lo ∨ hi<=g) (v0 v1 v2:Value):Jc (LsS base lo hi u l (((W.setCell ⟨g,0,none⟩ v0).setCell ⟨g,1,none⟩ v1).setCell ⟨g,2,none⟩ v2)):=⟨x.out.step (fun k h1 h2=>by rw[Below.heap_setCell _ _ v2 k (fun e=>by have e:k=g:=e;omega),Below.heap_setCell _ _ v1 k (fun e=>by have e:k=g:=e;omega),Below.heap_setCell _ _ v0 k (fun e=>by have e:k=g:=e;omega)]) (by rw[World.size_setCell,World.size_setCell,World.size_setCell];exact x.out.1)⟩
theorem LsS.reads {A:Option Addr} {n c:Nat} (h:LsS base lo hi (.slice A n c) l W):n=l.length/\n<=c/\Kd.C k69 W A l.length l:=by
  obtain⟨rfl,e1,e2⟩:=Kd.R_reads' h.2
  exact⟨rfl,e1,e2⟩
end
section
variable {w W:World}
theorem szDeedsB (A:Option Addr) (c:Nat) (l:List (S66)) (a r:Int) (hb:Below w.heap.size w W) (h0:Kd.C k66 w A l.length l) (e0:l.length<=c) (h:Gy.f l a=some r) :
    Calls Try.prog 58 #[.slice A l.length c, .int .i64 a] W fun e w'=>e = .returned (.int .i64 r)/\Below W.heap.size W w':=by
  refine(Gy.calls A c l a r W (Kd.C_below h0 hb) e0 h).mono ?_
  rintro e w' ⟨he,n,rfl⟩
  exact⟨he,Jj (Below.refl _ _) n⟩
theorem toDeedsB (k:Nat) (A:Option Addr) (c:Nat) (l:List (S66)) (r:List (S69)) (hb:Below w.heap.size w W) (h0:Kd.C k66 w A l.length l) (e0:l.length<=c) (h:Gi.f k l=some r) :
    Calls Try.prog 60 #[.slice A l.length c] W fun e w'=>∃A c lo hi,e = .returned (.slice A r.length c)/\lo=W.heap.size/\lo<=hi/\LsS w.heap.size lo hi (.slice A r.length c) r w'/\Below W.heap.size W w':=by
  refine(Gi.calls k A c l r W (Kd.C_below h0 hb) e0 h).mono ?_
  rintro e w' ⟨v,rfl,hr,hb2⟩
  obtain⟨A,c,rfl⟩:=Kd.R_slice hr
  exact⟨A,c,W.heap.size,w'.heap.size,rfl,rfl,hb2.size,⟨Nat.le_refl _,Kd.R_lower (Kd.R_mono (Kd.R_bound hr) (fun _ hk=>⟨hk.2.1,hk.2.2.1⟩)) hb.size⟩,hb2⟩
theorem eqLL (k base lo hi base' lo' hi':Nat) (A0:Option Addr) (n0 c0:Nat) (A1:Option Addr) (n1 c1:Nat) (l0 l1:List (S69)) (r:Bool) (hd:LsS base lo hi (.slice A0 n0 c0) l0 W) (hd':LsS base' lo' hi' (.slice A1 n1 c1) l1 W) (h:Fx.f k l0 l1=some r) :
    Calls Try.prog 62 #[.slice A0 n0 c0, .slice A1 n1 c1] W fun e w'=>e = .returned (.bool r)/\Below W.heap.size W w':=by
  obtain⟨rfl,q1,q2⟩:=hd.reads
  obtain⟨rfl,s1,s2⟩:=hd'.reads
  exact Fx.calls k A0 c0 l0 A1 c1 l1 r W q2 q1 s2 s1 h
theorem markL (k lo hi:Nat) (u:Value) (l r2:List (S69)) (a r1:Int) (hb:Below w.heap.size w W) (hd:LsS w.heap.size lo hi u l W) (h:F4.f k l a=some (r1,r2)) :
    Calls Try.prog 63 #[u, .int .i64 a] W fun e w'=>e = .returned (.int .i64 r1)/\Below w.heap.size w w'/\Kept W w' (fun k=>lo<=k/\k < hi):=by
  refine(F4.calls k (fun k=>lo<=k/\k < hi) u l a r1 r2 w W hb hd.2 h).mono ?_
  rintro e w' ⟨he,_,h1,h2⟩
  exact⟨he,h1,h2⟩
theorem runI (k base lo hi base' lo' hi':Nat) (A0:Option Addr) (n0 c0:Nat) (A1:Option Addr) (n1 c1:Nat) (A2:Option Addr) (n2 c2:Nat) (A3:Option Addr) (n3 c3:Nat) (l0:List Int) (l1:List (List Int)) (l2:List B_) (l3:List (S69)) (r1:List Int) (r2:List (List Int)) (r3:List B_) (r4:Int) (hb:Below w.heap.size w W) (hd:DkS base lo hi (.slice A0 n0 c0) (.slice A1 n1 c1) (.slice A2 n2 c2) l0 l1 l2 W) (hl:LsS base' lo' hi' (.slice A3 n3 c3) l3 W) (h:Fj.f k l0 l1 l2 l3=some (r1,r2,r3,r4)) :
    Calls Try.prog 61 #[.agg #[.slice A0 n0 c0, .slice A1 n1 c1, .slice A2 n2 c2], .slice A3 n3 c3] W fun e w'=>∃A0 c0 A1 c1 A2 c2 lo hi,e = .returned (.tuple #[.agg #[.slice A0 r1.length c0, .slice A1 r2.length c1, .slice A2 r3.length c2], .int .i64 r4])/\lo=W.heap.size/\lo<=hi/\DkS w.heap.size lo hi (.slice A0 r1.length c0) (.slice A1 r2.length c1) (.slice A2 r3.length c2) r1 r2 r3 w'/\Below W.heap.size W w':=by
  obtain⟨⟨rfl,q1,q2⟩,⟨rfl,q3,q4⟩,rfl,q5,q6⟩:=hd.reads
  obtain⟨rfl,s1,s2⟩:=hl.reads
  refine(Fj.calls_s k A0 c0 l0 A1 c1 l1 A2 c2 l2 A3 c3 l3 r1 r2 r3 r4 W q2 q1 q4 q3 q6 q5 s2 s1 h).mono ?_
  rintro e w' ⟨v0,v1,v2,rfl,hd,hb2⟩
  obtain⟨g0,g1,g2⟩:=hd.tellR
  obtain⟨A0,c0,rfl⟩:=Kd.R_slice g0
  obtain⟨A1,c1,rfl⟩:=Kd.S_slice g1
  obtain⟨A2,c2,rfl⟩:=Kd.R_slice g2
  exact⟨A0,c0,A1,c1,A2,c2,W.heap.size,w'.heap.size,rfl,rfl,hb2.size,hd.lower hb.size,hb2⟩
theorem runS (k base lo hi base' lo' hi':Nat) (A0:Option Addr) (n0 c0:Nat) (A1:Option Addr) (n1 c1:Nat) (A2:Option Addr) (n2 c2:Nat) (A3:Option Addr) (n3 c3:Nat) (l0:List Int) (l1:List (List Int)) (l2:List B_) (l3:List (S69)) (r1:List Int) (r2:List (List Int)) (r3:List B_) (r4:Int) (hd:DkS base lo hi (.slice A0 n0 c0) (.slice A1 n1 c1) (.slice A2 n2 c2) l0 l1 l2 W) (hl:LsS base' lo' hi' (.slice A3 n3 c3) l3 W) (h:Fp.f k l0 l1 l2 l3=some (r1,r2,r3,r4)) :
    Calls Try.prog 59 #[.agg #[.slice A0 n0 c0, .slice A1 n1 c1, .slice A2 n2 c2], .slice A3 n3 c3] W fun e w'=>∃A0 c0 A1 c1 A2 c2 lo hi,e = .returned (.tuple #[.agg #[.slice A0 r1.length c0, .slice A1 r2.length c1, .slice A2 r3.length c2], .int .i64 r4])/\lo=W.heap.size/\lo<=hi/\DqS lo hi (.slice A0 r1.length c0) (.slice A1 r2.length c1) (.slice A2 r3.length c2) r1 r2 r3 w'/\Below W.heap.size W w':=by
  obtain⟨⟨rfl,q1,q2⟩,⟨rfl,q3,q4⟩,rfl,q5,q6⟩:=hd.reads
  obtain⟨rfl,s1,s2⟩:=hl.reads
  refine(Fp.calls k A0 c0 l0 A1 c1 l1 A2 c2 l2 A3 c3 l3 r1 r2 r3 r4 W q2 q1 q4 q3 q6 q5 s2 s1 h).mono ?_
  rintro e w' ⟨v0,v1,v2,rfl,g0,g1,g2,hb2⟩
  obtain⟨A0,c0,rfl⟩:=Kd.R_slice g0
  obtain⟨A1,c1,rfl⟩:=Kd.S_slice g1
  obtain⟨A2,c2,rfl,_⟩:=Kd.Q_slice g2
  exact⟨A0,c0,A1,c1,A2,c2,W.heap.size,w'.heap.size,rfl,rfl,hb2.size,⟨Nat.le_refl _,Kd.R_lower (Kd.R_mono (Kd.R_bound g0) (fun _ hk=>⟨hk.2.1,hk.2.2.1⟩)) (Nat.zero_le _),Kd.S_lower (Kd.S_mono (Kd.S_bound g1) (fun _ hk=>⟨hk.2.1,hk.2.2.1⟩)) (Nat.zero_le _),Kd.Q_lower (Kd.Q_mono (Kd.Q_bound g2) (fun _ hk=>⟨hk.2.1,hk.2.2.1⟩)) (Nat.zero_le _)⟩,hb2⟩
end
set_option maxHeartbeats 16000000 in
set_option maxRecDepth 100000 in
theorem deskRun_neg (k:Nat) (A0_0:Option Addr) (c0_0:Nat) (l0_0:List Int) (A0_1:Option Addr) (c0_1:Nat) (l0_1:List (List Int)) (A0_2:Option Addr) (c0_2:Nat) (l0_2:List (S40)) (A1_:Option Addr) (c1_:Nat) (l1:List (S66)) (t:Int) (w:World) (hr0:Kd.C (Kd.int .i64) w A0_0 l0_0.length l0_0) (hc0:l0_0.length<=c0_0) (hr1:Kd.C (Kd.slice 3 (Kd.int .i64)) w A0_1 l0_1.length l0_1) (hc1:l0_1.length<=c0_1) (hr2:Kd.C k40 w A0_2 l0_2.length l0_2) (hc2:l0_2.length<=c0_2) (hr3:Kd.C k66 w A1_ l1.length l1) (hc3:l1.length<=c1_) (hneg:t < 0) (hsz:Gs.f k l0_0 l0_1 l0_2 1048576=some t) :
    Calls Try.prog 13 #[.agg #[.slice A0_0 l0_0.length c0_0, .slice A0_1 l0_1.length c0_1, .slice A0_2 l0_2.length c0_2], .slice A1_ l1.length c1_] w fun e w'=>e = .returned (.bool true)/\Below w.heap.size w w':=by
  have hu43:=Try.underlying43
  have hu28:=Try.underlying28
  have HR0:=Jc.mk hr0
  have HC0:=Jc.mk hc0
  have HR1:=Jc.mk hr1
  have HC1:=Jc.mk hc1
  have HR2:=Jc.mk hr2
  have HC2:=Jc.mk hc2
  have HR3:=Jc.mk hr3
  have HC3:=Jc.mk hc3
  clear hr0 hc0 hr1 hc1 hr2 hc2 hr3 hc3
  have HA:=Jc.mk (show Bn w [] w from⟨Below.refl _ _,fun _ h_=>by simp at h_⟩)
  have hd0:decide (t < 0)=true:=decide_eq_true hneg
  clear hneg
  have HSZ:=Jc.mk hsz
  clear hsz
  go_enter Try.func13,Try.ntmps13
  go_wp2_with (first|((with_reducible refine Jg (N:=2) rfl ?_);refine box_event ?hg (N:=2) ?hd (cs:=#[.slice A0_0 l0_0.length c0_0, .slice A0_1 l0_1.length c0_1, .slice A0_2 l0_2.length c0_2]) (t:=43) ?hr ?_;(case hd=>rfl);(case hg=>rfl);(case hr=>first|(go_simp;done)|(go_simp;rfl));intro gD hg w1 hbox hb;replace HA:=Bn.box HA hb hbox;clear hb hbox hg;obtain⟨z2,z3,z4⟩:=Bn.b3 HA gD)|((with_reducible refine Jf (f:=27) rfl ?_);refine goesL_ (some 19) rfl rfl Try.func27 (by kernel_rfl) rfl #[.agg #[.slice A0_0 l0_0.length c0_0, .slice A0_1 l0_1.length c0_1, .slice A0_2 l0_2.length c0_2], .int .i64 1048576] rfl (by(try simp only[List.map_toArray,List.map_cons,List.map_nil]);first|done|rfl|(simp only[List.length_drop,List.length_take];rfl)) ?_;(with_reducible refine(Gs.calls k A0_0 c0_0 l0_0 A0_1 c0_1 l0_1 A0_2 c0_2 l0_2 1048576 t _ ?side1 HC0.out ?side2 HC1.out ?side3 HC2.out HSZ.out).mono ?_);(case side1=>exact Kd.C_below HR0.out (Bn.go HA).1);(case side2=>exact Kd.C_below HR1.out (Bn.go HA).1);(case side3=>exact Kd.C_below HR2.out (Bn.go HA).1);rintro e w5 ⟨rfl,hb⟩;refine⟨_,rfl,?_⟩;replace HA:=Bn.mv HA hb;clear hb;obtain⟨z6,z7,z8⟩:=Bn.b3 HA gD))
  go_ret
  exact⟨by first|rfl|(simp;done)|(simp[*];done),(Bn.go HA).1⟩
set_option maxHeartbeats 16000000 in
set_option maxRecDepth 100000 in
theorem deskRun_neg2 (k:Nat) (A0_0:Option Addr) (c0_0:Nat) (l0_0:List Int) (A0_1:Option Addr) (c0_1:Nat) (l0_1:List (List Int)) (A0_2:Option Addr) (c0_2:Nat) (l0_2:List (S40)) (A1_:Option Addr) (c1_:Nat) (l1:List (S66)) (t:Int) (w:World) (hr0:Kd.C (Kd.int .i64) w A0_0 l0_0.length l0_0) (hc0:l0_0.length<=c0_0) (hr1:Kd.C (Kd.slice 3 (Kd.int .i64)) w A0_1 l0_1.length l0_1) (hc1:l0_1.length<=c0_1) (hr2:Kd.C k40 w A0_2 l0_2.length l0_2) (hc2:l0_2.length<=c0_2) (hr3:Kd.C k66 w A1_ l1.length l1) (hc3:l1.length<=c1_) (t2:Int) (hneg:¬ t < 0) (hneg2:t2 < 0) (hsz:Gs.f k l0_0 l0_1 l0_2 1048576=some t) (hsl:Gy.f l1 t=some t2) :
    Calls Try.prog 13 #[.agg #[.slice A0_0 l0_0.length c0_0, .slice A0_1 l0_1.length c0_1, .slice A0_2 l0_2.length c0_2], .slice A1_ l1.length c1_] w fun e w'=>e = .returned (.bool true)/\Below w.heap.size w w':=by
  have hu43:=Try.underlying43
  have hu28:=Try.underlying28
  have HR0:=Jc.mk hr0
  have HC0:=Jc.mk hc0
  have HR1:=Jc.mk hr1
  have HC1:=Jc.mk hc1
  have HR2:=Jc.mk hr2
  have HC2:=Jc.mk hc2
  have HR3:=Jc.mk hr3
  have HC3:=Jc.mk hc3
  clear hr0 hc0 hr1 hc1 hr2 hc2 hr3 hc3
  have HA:=Jc.mk (show Bn w [] w from⟨Below.refl _ _,fun _ h_=>by simp at h_⟩)
  have hd0:decide (t < 0)=false:=decide_eq_false hneg
  have hd3:decide (t2 < 0)=true:=decide_eq_true hneg2
  clear hneg hneg2
  have HSZ:=Jc.mk hsz
  have HSL:=Jc.mk hsl
  clear hsz hsl
  go_enter Try.func13,Try.ntmps13
  go_wp2_with (first|((with_reducible refine Jg (N:=2) rfl ?_);refine box_event ?hg (N:=2) ?hd (cs:=#[.slice A0_0 l0_0.length c0_0, .slice A0_1 l0_1.length c0_1, .slice A0_2 l0_2.length c0_2]) (t:=43) ?hr ?_;(case hd=>rfl);(case hg=>rfl);(case hr=>first|(go_simp;done)|(go_simp;rfl));intro gD hg w1 hbox hb;replace HA:=Bn.box HA hb hbox;clear hb hbox hg;obtain⟨z2,z3,z4⟩:=Bn.b3 HA gD)|((with_reducible refine Jf (f:=27) rfl ?_);refine goesL_ (some 19) rfl rfl Try.func27 (by kernel_rfl) rfl #[.agg #[.slice A0_0 l0_0.length c0_0, .slice A0_1 l0_1.length c0_1, .slice A0_2 l0_2.length c0_2], .int .i64 1048576] rfl (by(try simp only[List.map_toArray,List.map_cons,List.map_nil]);first|done|rfl|(simp only[List.length_drop,List.length_take];rfl)) ?_;(with_reducible refine(Gs.calls k A0_0 c0_0 l0_0 A0_1 c0_1 l0_1 A0_2 c0_2 l0_2 1048576 t _ ?side1 HC0.out ?side2 HC1.out ?side3 HC2.out HSZ.out).mono ?_);(case side1=>exact Kd.C_below HR0.out (Bn.go HA).1);(case side2=>exact Kd.C_below HR1.out (Bn.go HA).1);(case side3=>exact Kd.C_below HR2.out (Bn.go HA).1);rintro e w5 ⟨rfl,hb⟩;refine⟨_,rfl,?_⟩;replace HA:=Bn.mv HA hb;clear hb;obtain⟨z6,z7,z8⟩:=Bn.b3 HA gD)|((with_reducible refine Jf (f:=58) rfl ?_);refine goesL_ (some 24) rfl rfl Try.func58 (by kernel_rfl) rfl #[.slice A1_ l1.length c1_, .int .i64 t] rfl (by(try simp only[List.map_toArray,List.map_cons,List.map_nil]);first|done|rfl|(simp only[List.length_drop,List.length_take];rfl)) ?_;(with_reducible refine(szDeedsB (w:=w) A1_ c1_ l1 t t2 ?side1 HR3.out HC3.out HSL.out).mono ?_);(case side1=>exact(Bn.go HA).1);rintro e w9 ⟨rfl,hb⟩;refine⟨_,rfl,?_⟩;replace HA:=Bn.mv HA hb;clear hb;obtain⟨z10,z11,z12⟩:=Bn.b3 HA gD))
  go_ret
  exact⟨by first|rfl|(simp;done)|(simp[*];done),(Bn.go HA).1⟩
set_option maxHeartbeats 16000000 in
set_option maxRecDepth 100000 in
theorem deskRun_walk (k:Nat) (A0_0:Option Addr) (c0_0:Nat) (l0_0:List Int) (A0_1:Option Addr) (c0_1:Nat) (l0_1:List (List Int)) (A0_2:Option Addr) (c0_2:Nat) (l0_2:List (S40)) (A1_:Option Addr) (c1_:Nat) (l1:List (S66)) (t:Int) (w:World) (hr0:Kd.C (Kd.int .i64) w A0_0 l0_0.length l0_0) (hc0:l0_0.length<=c0_0) (hr1:Kd.C (Kd.slice 3 (Kd.int .i64)) w A0_1 l0_1.length l0_1) (hc1:l0_1.length<=c0_1) (hr2:Kd.C k40 w A0_2 l0_2.length l0_2) (hc2:l0_2.length<=c0_2) (hr3:Kd.C k66 w A1_ l1.length l1) (hc3:l1.length<=c1_) (t2 m0 m1 m r4:Int) (ps r3 x3 y3:List B_) (r1 x1 y1:List Int) (r2 x2 y2:List (List Int)) (qs qx:List (S69)) (hneg:¬ t < 0) (hneg2:¬ t2 < 0) (hneg1:¬ m1 < 0) (hnegm:¬ m < 0) (hsz:Gs.f k l0_0 l0_1 l0_2 1048576=some t) (hsl:Gy.f l1 t=some t2) (hto:Gh.f k l0_0 l0_1 l0_2=some (l0_0,l0_1,ps)) (htl:Gi.f k l1=some qs) (hsp:Fp.f k l0_0 l0_1 ps qs=some (r1,r2,r3,r4)) (him:Fj.f k l0_0 l0_1 ps qs=some (r1,r2,r3,r4)) (he1:Gw.f k r1 r2 r3 r1 r2 r3=some true) (he2:Gw.f k l0_0 l0_1 ps l0_0 l0_1 ps=some true) (hel:Fx.f k qs qs=some true) (hm0:Gv.f k l0_0 l0_1 ps 1=some (m0,x1,x2,x3)) (hm1:F4.f k qs m0=some (m1,qx)) (hm:Gv.f k r1 r2 r3 1=some (m,y1,y2,y3)) (hhd:G0.f k y1 y2 y3 1=some m) :
    Calls Try.prog 13 #[.agg #[.slice A0_0 l0_0.length c0_0, .slice A0_1 l0_1.length c0_1, .slice A0_2 l0_2.length c0_2], .slice A1_ l1.length c1_] w fun e w'=>e = .returned (.bool true)/\Below w.heap.size w w':=by
  have hu43:=Try.underlying43
  have hu28:=Try.underlying28
  have HR0:=Jc.mk hr0
  have HC0:=Jc.mk hc0
  have HR1:=Jc.mk hr1
  have HC1:=Jc.mk hc1
  have HR2:=Jc.mk hr2
  have HC2:=Jc.mk hc2
  have HR3:=Jc.mk hr3
  have HC3:=Jc.mk hc3
  clear hr0 hc0 hr1 hc1 hr2 hc2 hr3 hc3
  have HA:=Jc.mk (show Bn w [] w from⟨Below.refl _ _,fun _ h_=>by simp at h_⟩)
  have hd0:decide (t < 0)=false:=decide_eq_false hneg
  have hd3:decide (t2 < 0)=false:=decide_eq_false hneg2
  have hd1:decide (m1 < 0)=false:=decide_eq_false hneg1
  have hd2:decide (m < 0)=false:=decide_eq_false hnegm
  clear hneg hneg2 hneg1 hnegm
  have HSZ:=Jc.mk hsz
  have HSL:=Jc.mk hsl
  have HTO:=Jc.mk hto
  have HTL:=Jc.mk htl
  have HSP:=Jc.mk hsp
  have HIM:=Jc.mk him
  have HE1:=Jc.mk he1
  have HE2:=Jc.mk he2
  have HEL:=Jc.mk hel
  have HM0:=Jc.mk hm0
  have HM1:=Jc.mk hm1
  have HM:=Jc.mk hm
  have HHD:=Jc.mk hhd
  clear hsz hsl hto htl hsp him he1 he2 hel hm0 hm1 hm hhd
  go_enter Try.func13,Try.ntmps13
  go_upto_region 9 with(first|((with_reducible refine Jg (N:=2) rfl ?_);refine box_event ?hg (N:=2) ?hd (cs:=#[.slice A0_0 l0_0.length c0_0, .slice A0_1 l0_1.length c0_1, .slice A0_2 l0_2.length c0_2]) (t:=43) ?hr ?_;(case hd=>rfl);(case hg=>rfl);(case hr=>first|(go_simp;done)|(go_simp;rfl));intro gD hg w1 hbox hb;replace HA:=Bn.box HA hb hbox;clear hb hbox hg;obtain⟨z2,z3,z4⟩:=Bn.b3 HA gD)|((with_reducible refine Jf (f:=27) rfl ?_);refine goesL_ (some 19) rfl rfl Try.func27 (by kernel_rfl) rfl #[.agg #[.slice A0_0 l0_0.length c0_0, .slice A0_1 l0_1.length c0_1, .slice A0_2 l0_2.length c0_2], .int .i64 1048576] rfl (by(try simp only[List.map_toArray,List.map_cons,List.map_nil]);first|done|rfl|(simp only[List.length_drop,List.length_take];rfl)) ?_;(with_reducible refine(Gs.calls k A0_0 c0_0 l0_0 A0_1 c0_1 l0_1 A0_2 c0_2 l0_2 1048576 t _ ?side1 HC0.out ?side2 HC1.out ?side3 HC2.out HSZ.out).mono ?_);(case side1=>exact Kd.C_below HR0.out (Bn.go HA).1);(case side2=>exact Kd.C_below HR1.out (Bn.go HA).1);(case side3=>exact Kd.C_below HR2.out (Bn.go HA).1);rintro e w5 ⟨rfl,hb⟩;refine⟨_,rfl,?_⟩;replace HA:=Bn.mv HA hb;clear hb;obtain⟨z6,z7,z8⟩:=Bn.b3 HA gD)|((with_reducible refine Jf (f:=58) rfl ?_);refine goesL_ (some 24) rfl rfl Try.func58 (by kernel_rfl) rfl #[.slice A1_ l1.length c1_, .int .i64 t] rfl (by(try simp only[List.map_toArray,List.map_cons,List.map_nil]);first|done|rfl|(simp only[List.length_drop,List.length_take];rfl)) ?_;(with_reducible refine(szDeedsB (w:=w) A1_ c1_ l1 t t2 ?side1 HR3.out HC3.out HSL.out).mono ?_);(case side1=>exact(Bn.go HA).1);rintro e w9 ⟨rfl,hb⟩;refine⟨_,rfl,?_⟩;replace HA:=Bn.mv HA hb;clear hb;obtain⟨z10,z11,z12⟩:=Bn.b3 HA gD)|((with_reducible refine Jf (f:=29) rfl ?_);refine goesL_ (some 29) rfl rfl Try.func29 (by kernel_rfl) rfl #[.agg #[.slice A0_0 l0_0.length c0_0, .slice A0_1 l0_1.length c0_1, .slice A0_2 l0_2.length c0_2]] rfl (by(try simp only[List.map_toArray,List.map_cons,List.map_nil]);first|done|rfl|(simp only[List.length_drop,List.length_take];rfl)) ?_;(with_reducible refine(toDeskB k A0_0 c0_0 l0_0 A0_1 c0_1 l0_1 A0_2 c0_2 l0_2 l0_0 l0_1 ps ?side1 HR0.out HC0.out HR1.out HC1.out HR2.out HC2.out HTO.out).mono ?_);(case side1=>exact(Bn.go HA).1);rintro e w13 ⟨AP0,cP0,AP1,cP1,AP2,cP2,loP,hiP,rfl,hlo_,hle_,hd_,hb⟩;refine⟨_,rfl,?_⟩;have DJP:=Bn.dj (n:=hiP) HA hlo_;replace HA:=Bn.mv HA hb;have HP:=Jc.mk hd_;have OQP:=Jc.mk hle_;clear hb hlo_ hle_ hd_;obtain⟨z14,z15,z16⟩:=Bn.b3 HA gD)|((with_reducible refine Jf (f:=60) rfl ?_);refine goesL_ (some 31) rfl rfl Try.func60 (by kernel_rfl) rfl #[.slice A1_ l1.length c1_] rfl (by(try simp only[List.map_toArray,List.map_cons,List.map_nil]);first|done|rfl|(simp only[List.length_drop,List.length_take];rfl)) ?_;(with_reducible refine(toDeedsB k A1_ c1_ l1 qs ?side1 HR3.out HC3.out HTL.out).mono ?_);(case side1=>exact(Bn.go HA).1);rintro e w17 ⟨AT,cT,loT,hiT,rfl,hlo_,hle_,hd_,hb⟩;refine⟨_,rfl,?_⟩;have OPT:=DkS.gg HP hlo_;have DJT:=Bn.dj (n:=hiT) HA hlo_;replace HA:=Bn.mv HA hb;replace HP:=DkS.mw HP hb;have HT:=Jc.mk hd_;have OQT:=Jc.mk hle_;clear hb hlo_ hle_ hd_;obtain⟨z18,z19,z20⟩:=Bn.b3 HA gD)|((with_reducible refine Jf (f:=59) rfl ?_);refine goesL_ (some 32) rfl rfl Try.func59 (by kernel_rfl) rfl #[.agg #[.slice AP0 l0_0.length cP0, .slice AP1 l0_1.length cP1, .slice AP2 ps.length cP2], .slice AT qs.length cT] rfl (by(try simp only[List.map_toArray,List.map_cons,List.map_nil]);first|done|rfl|(simp only[List.length_drop,List.length_take];rfl)) ?_;(with_reducible refine(runS k w.heap.size loP hiP w.heap.size loT hiT _ _ _ _ _ _ _ _ _ _ _ _ l0_0 l0_1 ps qs r1 r2 r3 r4 ?side1 ?side2 HSP.out).mono ?_);(case side1=>exact DkS.gw HP);(case side2=>exact LsS.gw HT);rintro e w21 ⟨AW0,cW0,AW1,cW1,AW2,cW2,loW,hiW,rfl,hlo_,hle_,hd_,hb⟩;refine⟨_,rfl,?_⟩;have OPW:=DkS.gg HP hlo_;have OTW:=LsS.gg HT hlo_;have DJW:=Bn.dj (n:=hiW) HA hlo_;replace HA:=Bn.mv HA hb;replace HP:=DkS.mw HP hb;replace HT:=LsS.mw HT hb;have HW:=Jc.mk hd_;have OQW:=Jc.mk hle_;clear hb hlo_ hle_ hd_;obtain⟨z22,z23,z24⟩:=Bn.b3 HA gD)|((with_reducible refine Jg (N:=6) rfl ?_);refine box_event ?hg (N:=6) ?hd (cs:=#[.slice none 0 0, .slice none 0 0, .slice none 0 0]) (t:=28) ?hr ?_;(case hd=>rfl);(case hg=>rfl);(case hr=>first|(go_simp;done)|(go_simp;rfl));intro g6 hg w25 hbox hb;have DG:=Bn.dj (n:=g6 + 1) HA hg;have GW:=Bn.wg HA hg;have OBP:=DkS.gg HP hg;have OBT:=LsS.gg HT hg;have OBW:=DqS.gg HW hg;replace HA:=Bn.mv HA hb;replace HP:=DkS.mw HP hb;replace HT:=LsS.mw HT hb;replace HW:=DqS.mw HW hb;have BKp:=Jc.mk hbox;clear hb hbox hg;obtain⟨z26,z27,z28⟩:=Bn.b3 HA gD;have z0_:=Jd BKp.out 0;have z1_:=Jd BKp.out 1;have z2_:=Jd BKp.out 2;have y0_:=Jo BKp.out 0;have y1_:=Jo BKp.out 1;have y2_:=Jo BKp.out 2))
  (try simp only[Act.put,List.setIfInBounds_toArray,List.set_cons_zero,List.set_cons_succ])
  have nA_:=Bn.put3 HA BKp DG GW (.slice AW0 r1.length cW0) (.slice AW1 r2.length cW1) (.slice AW2 r3.length cW2)
  have nP_:=DkS.put3 HP (.inr OBP.out) (.slice AW0 r1.length cW0) (.slice AW1 r2.length cW1) (.slice AW2 r3.length cW2)
  have nT_:=LsS.put3 HT (.inr OBT.out) (.slice AW0 r1.length cW0) (.slice AW1 r2.length cW1) (.slice AW2 r3.length cW2)
  have nW_:=DqS.put3 HW (.inr OBW.out) (.slice AW0 r1.length cW0) (.slice AW1 r2.length cW1) (.slice AW2 r3.length cW2)
  generalize (((w25.setCell ⟨g6,0,none⟩ (.slice AW0 r1.length cW0)).setCell ⟨g6,1,none⟩ (.slice AW1 r2.length cW1)).setCell ⟨g6,2,none⟩ (.slice AW2 r3.length cW2))=w29 at nA_ nP_ nT_ nW_ |-
  clear HA BKp GW HP HT HW
  have HA:=nA_
  have HP:=nP_
  have HT:=nT_
  have HW:=nW_
  clear nA_ nP_ nT_ nW_
  (try clear z0_ z1_ z2_ y0_ y1_ y2_)
  replace HA:=Jc.mk (Bn.push HA.out (f:=dq loW hiW (.slice AW0 r1.length cW0) (.slice AW1 r2.length cW1) (.slice AW2 r3.length cW2) r1 r2 r3) HW.out)
  clear HW HP HT
  obtain⟨z30,z31,z32⟩:=Bn.b3 HA gD
  obtain⟨z33,z34,z35⟩:=Bn.b3 HA g6
  go_upto_region 10 with(first|((with_reducible refine Jf (f:=29) rfl ?_);refine goesL_ (some 36) rfl rfl Try.func29 (by kernel_rfl) rfl #[.agg #[.slice A0_0 l0_0.length c0_0, .slice A0_1 l0_1.length c0_1, .slice A0_2 l0_2.length c0_2]] rfl (by(try simp only[List.map_toArray,List.map_cons,List.map_nil]);first|done|rfl|(simp only[List.length_drop,List.length_take];rfl)) ?_;(with_reducible refine(toDeskB k A0_0 c0_0 l0_0 A0_1 c0_1 l0_1 A0_2 c0_2 l0_2 l0_0 l0_1 ps ?side1 HR0.out HC0.out HR1.out HC1.out HR2.out HC2.out HTO.out).mono ?_);(case side1=>exact(Bn.go HA).1);rintro e w36 ⟨AX0,cX0,AX1,cX1,AX2,cX2,loX,hiX,rfl,hlo_,hle_,hd_,hb⟩;refine⟨_,rfl,?_⟩;have DJX:=Bn.dj (n:=hiX) HA hlo_;replace HA:=Bn.mv HA hb;have HX:=Jc.mk hd_;have OQX:=Jc.mk hle_;clear hb hlo_ hle_ hd_;obtain⟨z37,z38,z39⟩:=Bn.b3 HA gD;obtain⟨z40,z41,z42⟩:=Bn.b3 HA g6)|((with_reducible refine Jg (N:=8) rfl ?_);refine box_event ?hg (N:=8) ?hd (cs:=#[.slice none 0 0, .slice none 0 0, .slice none 0 0]) (t:=28) ?hr ?_;(case hd=>rfl);(case hg=>rfl);(case hr=>first|(go_simp;done)|(go_simp;rfl));intro g8 hg w43 hbox hb;have DG:=Bn.dj (n:=g8 + 1) HA hg;have GW:=Bn.wg HA hg;have OBX:=DkS.gg HX hg;replace HA:=Bn.mv HA hb;replace HX:=DkS.mw HX hb;have BKp:=Jc.mk hbox;clear hb hbox hg;obtain⟨z44,z45,z46⟩:=Bn.b3 HA gD;obtain⟨z47,z48,z49⟩:=Bn.b3 HA g6;have z0_:=Jd BKp.out 0;have z1_:=Jd BKp.out 1;have z2_:=Jd BKp.out 2;have y0_:=Jo BKp.out 0;have y1_:=Jo BKp.out 1;have y2_:=Jo BKp.out 2))
  (try simp only[Act.put,List.setIfInBounds_toArray,List.set_cons_zero,List.set_cons_succ])
  have nA_:=Bn.put3 HA BKp DG GW (.slice AX0 l0_0.length cX0) (.slice AX1 l0_1.length cX1) (.slice AX2 ps.length cX2)
  have nX_:=DkS.put3 HX (.inr OBX.out) (.slice AX0 l0_0.length cX0) (.slice AX1 l0_1.length cX1) (.slice AX2 ps.length cX2)
  generalize (((w43.setCell ⟨g8,0,none⟩ (.slice AX0 l0_0.length cX0)).setCell ⟨g8,1,none⟩ (.slice AX1 l0_1.length cX1)).setCell ⟨g8,2,none⟩ (.slice AX2 ps.length cX2))=w50 at nA_ nX_ |-
  clear HA BKp GW HX
  have HA:=nA_
  have HX:=nX_
  clear nA_ nX_
  (try clear z0_ z1_ z2_ y0_ y1_ y2_)
  have DXx:=Jc.mk (Dj.cons (f:=bx g8 #[.slice AX0 l0_0.length cX0, .slice AX1 l0_1.length cX1, .slice AX2 ps.length cX2] 28) (.inr (show hiX<=g8 from OBX.out)) DJX.out)
  obtain⟨z51,z52,z53⟩:=Bn.b3 HA gD
  obtain⟨z54,z55,z56⟩:=Bn.b3 HA g6
  obtain⟨z57,z58,z59⟩:=Bn.b3 HA g8
  go_upto_region 12 with(first|((with_reducible refine Jf (f:=60) rfl ?_);refine goesL_ (some 38) rfl rfl Try.func60 (by kernel_rfl) rfl #[.slice A1_ l1.length c1_] rfl (by(try simp only[List.map_toArray,List.map_cons,List.map_nil]);first|done|rfl|(simp only[List.length_drop,List.length_take];rfl)) ?_;(with_reducible refine(toDeedsB k A1_ c1_ l1 qs ?side1 HR3.out HC3.out HTL.out).mono ?_);(case side1=>exact(Bn.go HA).1);rintro e w60 ⟨AL,cL,loL,hiL,rfl,hlo_,hle_,hd_,hb⟩;refine⟨_,rfl,?_⟩;have OXL:=DkS.gg HX hlo_;have DJL:=Bn.dj (n:=hiL) HA hlo_;replace HA:=Bn.mv HA hb;replace HX:=DkS.mw HX hb;have HL:=Jc.mk hd_;have OQL:=Jc.mk hle_;clear hb hlo_ hle_ hd_;obtain⟨z61,z62,z63⟩:=Bn.b3 HA gD;obtain⟨z64,z65,z66⟩:=Bn.b3 HA g6;obtain⟨z67,z68,z69⟩:=Bn.b3 HA g8)|((with_reducible refine Jf (f:=61) rfl ?_);refine goesL_ (some 42) rfl rfl Try.func61 (by kernel_rfl) rfl #[.agg #[.slice AX0 l0_0.length cX0, .slice AX1 l0_1.length cX1, .slice AX2 ps.length cX2], .slice AL qs.length cL] rfl (by(try simp only[List.map_toArray,List.map_cons,List.map_nil]);first|done|rfl|(simp only[List.length_drop,List.length_take];rfl)) ?_;(with_reducible refine(runI (w:=w) k w.heap.size loX hiX w.heap.size loL hiL _ _ _ _ _ _ _ _ _ _ _ _ l0_0 l0_1 ps qs r1 r2 r3 r4 ?side1 ?side2 ?side3 HIM.out).mono ?_);(case side1=>exact(Bn.go HA).1);(case side2=>exact DkS.gw HX);(case side3=>exact LsS.gw HL);rintro e w70 ⟨AG0,cG0,AG1,cG1,AG2,cG2,loG,hiG,rfl,hlo_,hle_,hd_,hb⟩;refine⟨_,rfl,?_⟩;have OXG:=DkS.gg HX hlo_;have OLG:=LsS.gg HL hlo_;have DJG:=Bn.dj (n:=hiG) HA hlo_;replace HA:=Bn.mv HA hb;replace HX:=DkS.mw HX hb;replace HL:=LsS.mw HL hb;have HG:=Jc.mk hd_;have OQG:=Jc.mk hle_;clear hb hlo_ hle_ hd_;obtain⟨z71,z72,z73⟩:=Bn.b3 HA gD;obtain⟨z74,z75,z76⟩:=Bn.b3 HA g6;obtain⟨z77,z78,z79⟩:=Bn.b3 HA g8)|((with_reducible refine Jg (N:=10) rfl ?_);refine box_event ?hg (N:=10) ?hd (cs:=#[.slice none 0 0, .slice none 0 0, .slice none 0 0]) (t:=28) ?hr ?_;(case hd=>rfl);(case hg=>rfl);(case hr=>first|(go_simp;done)|(go_simp;rfl));intro g10 hg w80 hbox hb;have DG:=Bn.dj (n:=g10 + 1) HA hg;have GW:=Bn.wg HA hg;have OBX:=DkS.gg HX hg;have OBL:=LsS.gg HL hg;have OBG:=DkS.gg HG hg;replace HA:=Bn.mv HA hb;replace HX:=DkS.mw HX hb;replace HL:=LsS.mw HL hb;replace HG:=DkS.mw HG hb;have BKp:=Jc.mk hbox;clear hb hbox hg;obtain⟨z81,z82,z83⟩:=Bn.b3 HA gD;obtain⟨z84,z85,z86⟩:=Bn.b3 HA g6;obtain⟨z87,z88,z89⟩:=Bn.b3 HA g8;have z0_:=Jd BKp.out 0;have z1_:=Jd BKp.out 1;have z2_:=Jd BKp.out 2;have y0_:=Jo BKp.out 0;have y1_:=Jo BKp.out 1;have y2_:=Jo BKp.out 2))
  (try simp only[Act.put,List.setIfInBounds_toArray,List.set_cons_zero,List.set_cons_succ])
  have nA_:=Bn.put3 HA BKp DG GW (.slice AG0 r1.length cG0) (.slice AG1 r2.length cG1) (.slice AG2 r3.length cG2)
  have nX_:=DkS.put3 HX (.inr OBX.out) (.slice AG0 r1.length cG0) (.slice AG1 r2.length cG1) (.slice AG2 r3.length cG2)
  have nL_:=LsS.put3 HL (.inr OBL.out) (.slice AG0 r1.length cG0) (.slice AG1 r2.length cG1) (.slice AG2 r3.length cG2)
  have nG_:=DkS.put3 HG (.inr OBG.out) (.slice AG0 r1.length cG0) (.slice AG1 r2.length cG1) (.slice AG2 r3.length cG2)
  generalize (((w80.setCell ⟨g10,0,none⟩ (.slice AG0 r1.length cG0)).setCell ⟨g10,1,none⟩ (.slice AG1 r2.length cG1)).setCell ⟨g10,2,none⟩ (.slice AG2 r3.length cG2))=w90 at nA_ nX_ nL_ nG_ |-
  clear HA BKp GW HX HL HG
  have HA:=nA_
  have HX:=nX_
  have HL:=nL_
  have HG:=nG_
  clear nA_ nX_ nL_ nG_
  (try clear z0_ z1_ z2_ y0_ y1_ y2_)
  have DXy:=Jc.mk (Dj.cons (lo:=loX) (hi:=hiX) (f:=bx g10 #[.slice AG0 r1.length cG0, .slice AG1 r2.length cG1, .slice AG2 r3.length cG2] 28) (.inr (show hiX<=g10 from OBX.out)) DXx.out)
  have DLy:=Jc.mk (Dj.cons (lo:=loL) (hi:=hiL) (f:=bx g10 #[.slice AG0 r1.length cG0, .slice AG1 r2.length cG1, .slice AG2 r3.length cG2] 28) (.inr (show hiL<=g10 from OBL.out)) DJL.out)
  have DGy:=Jc.mk (Dj.cons (lo:=loG) (hi:=hiG) (f:=bx g10 #[.slice AG0 r1.length cG0, .slice AG1 r2.length cG1, .slice AG2 r3.length cG2] 28) (.inr (show hiG<=g10 from OBG.out)) DJG.out)
  obtain⟨z91,z92,z93⟩:=Bn.b3 HA gD
  obtain⟨z94,z95,z96⟩:=Bn.b3 HA g6
  obtain⟨z97,z98,z99⟩:=Bn.b3 HA g8
  obtain⟨z100,z101,z102⟩:=Bn.b3 HA g10
  go_wp2_with (first|((with_reducible refine Jf (f:=17) rfl ?_);refine goesL_ (some 47) rfl rfl Try.func17 (by kernel_rfl) rfl #[.agg #[.slice AG0 r1.length cG0, .slice AG1 r2.length cG1, .slice AG2 r3.length cG2], .agg #[.slice AW0 r1.length cW0, .slice AW1 r2.length cW1, .slice AW2 r3.length cW2]] rfl (by(try simp only[List.map_toArray,List.map_cons,List.map_nil]);first|done|rfl|(simp only[List.length_drop,List.length_take];rfl)) ?_;(with_reducible refine(eqDQ k w.heap.size loG hiG loW hiW _ _ _ _ _ _ _ _ _ _ _ _ _ _ _ _ _ _ r1 r2 r3 r1 r2 r3 true ?side1 ?side2 HE1.out).mono ?_);(case side1=>exact DkS.gw HG);(case side2=>exact Bn.has (Jc.mk (Bn.go HA)) (dq loW hiW _ _ _ r1 r2 r3));rintro e w103 ⟨rfl,hb⟩;refine⟨_,rfl,?_⟩;replace HA:=Bn.mv HA hb;replace HX:=DkS.mw HX hb;replace HL:=LsS.mw HL hb;replace HG:=DkS.mw HG hb;clear hb;obtain⟨z104,z105,z106⟩:=Bn.b3 HA gD;obtain⟨z107,z108,z109⟩:=Bn.b3 HA g6;obtain⟨z110,z111,z112⟩:=Bn.b3 HA g8;obtain⟨z113,z114,z115⟩:=Bn.b3 HA g10))
  replace HA:=Jc.mk (Bn.drew HA.out)
  replace HX:=Jc.mk (DkS.drew HX.out)
  replace HL:=Jc.mk (LsS.drew HL.out)
  replace HG:=Jc.mk (DkS.drew HG.out)
  refine start_ (n:=5) (S:=fun w'=>c3_ w' g8 (.slice AX0 l0_0.length cX0) (.slice AX1 l0_1.length cX1) (.slice AX2 ps.length cX2)/\c3_ w' gD (.slice A0_0 l0_0.length c0_0) (.slice A0_1 l0_1.length c0_1) (.slice A0_2 l0_2.length c0_2)) (ds:=[]) #[false,false,false,false,false] (by kernel_rfl) rfl rfl ⟨Bn.b3 HA g8,Bn.b3 HA gD⟩ (fun hHeld=>?_)
  generalize w103.drew=w116 at HA HX HL HG hHeld |-
  refine take_ (i:=0) (N:=some 54) (v:=?_) (a':=?_) #[true,false,false,false,false] rfl rfl (by kernel_rfl) (fun _ _ _ h=>h) (Or.inl ⟨by rfl,?_⟩) hHeld ?_ ?_
  rotate_left
  · rintro w' ⟨⟨s0,s1,s2⟩,⟨s3,s4,s5⟩⟩
    go_simp
    with_reducible rfl
  rotate_left
  · simp only[Act.put,List.setIfInBounds_toArray,List.set_cons_zero,List.set_cons_succ,i64_w,i32_w]
    rfl
  refine take_ (i:=1) (N:=some 55) (v:=?_) (a':=?_) #[true,true,false,false,false] rfl rfl (by kernel_rfl) (fun _ _ _ h=>h) (Or.inl ⟨by rfl,?_⟩) hHeld ?_ ?_
  rotate_left
  · rintro w' ⟨⟨s0,s1,s2⟩,⟨s3,s4,s5⟩⟩
    go_simp
    with_reducible rfl
  rotate_left
  · simp only[Act.put,List.setIfInBounds_toArray,List.set_cons_zero,List.set_cons_succ,i64_w,i32_w]
    rfl
  refine one_ (i:=2) (N:=some 56) #[true,true,true,false,false] rfl rfl (by kernel_rfl) (by decide) (fun K hK=>?_)
  refine goes_ Try.func29 (by kernel_rfl) rfl #[.agg #[.slice A0_0 l0_0.length c0_0, .slice A0_1 l0_1.length c0_1, .slice A0_2 l0_2.length c0_2]] (by rfl) rfl rfl (by(try simp only[List.map_toArray,List.map_cons,List.map_nil]);first|done|rfl|(simp only[List.length_drop,List.length_take];rfl)) ?_
  with_reducible refine(toDeskB k A0_0 c0_0 l0_0 A0_1 c0_1 l0_1 A0_2 c0_2 l0_2 l0_0 l0_1 ps ?side1 HR0.out HC0.out HR1.out HC1.out HR2.out HC2.out HTO.out).mono ?_
  (case side1=>exact(Bn.go HA).1)
  rintro e w117 ⟨AY0,cY0,AY1,cY1,AY2,cY2,loY,hiY,rfl,hlo_,hle_,hd_,hb⟩
  refine⟨_,rfl,?_⟩
  have OXY:=DkS.gg HX hlo_
  have OLY:=LsS.gg HL hlo_
  have OGY:=DkS.gg HG hlo_
  have DJY:=Bn.dj (n:=hiY) HA hlo_
  replace HA:=Bn.mv HA hb
  replace HX:=DkS.mw HX hb
  replace HL:=LsS.mw HL hb
  replace HG:=DkS.mw HG hb
  have HY:=Jc.mk hd_
  have OQY:=Jc.mk hle_
  clear hb hlo_ hle_ hd_
  refine hK.out _ _ ⟨Bn.b3 HA g8,Bn.b3 HA gD⟩ (fun hHeld=>?_)
  clear hK K
  refine norm_ (a':=?_) ?_ ?_
  rotate_left
  · show Act.put _ (some 56) _=_
    simp only[Act.put,List.setIfInBounds_toArray,List.set_cons_zero,List.set_cons_succ,i64_w,i32_w]
    rfl
  refine one_ (i:=3) (N:=some 57) #[true,true,true,true,false] rfl rfl (by kernel_rfl) (by decide) (fun K hK=>?_)
  refine goes_ Try.func17 (by kernel_rfl) rfl #[.agg #[.slice AX0 l0_0.length cX0, .slice AX1 l0_1.length cX1, .slice AX2 ps.length cX2], .agg #[.slice AY0 l0_0.length cY0, .slice AY1 l0_1.length cY1, .slice AY2 ps.length cY2]] (by rfl) rfl rfl (by(try simp only[List.map_toArray,List.map_cons,List.map_nil]);first|done|rfl|(simp only[List.length_drop,List.length_take];rfl)) ?_
  with_reducible refine(eqDD k w.heap.size loX hiX w.heap.size loY hiY _ _ _ _ _ _ _ _ _ _ _ _ _ _ _ _ _ _ l0_0 l0_1 ps l0_0 l0_1 ps true ?side1 ?side2 HE2.out).mono ?_
  (case side1=>exact DkS.gw HX)
  (case side2=>exact DkS.gw HY)
  rintro e w118 ⟨rfl,hb⟩
  refine⟨_,rfl,?_⟩
  replace HA:=Bn.mv HA hb
  replace HX:=DkS.mw HX hb
  replace HL:=LsS.mw HL hb
  replace HG:=DkS.mw HG hb
  replace HY:=DkS.mw HY hb
  clear hb
  refine hK.out _ _ ⟨Bn.b3 HA g8,Bn.b3 HA gD⟩ (fun hHeld=>?_)
  clear hK K
  refine norm_ (a':=?_) ?_ ?_
  rotate_left
  · show Act.put _ (some 57) _=_
    simp only[Act.put,List.setIfInBounds_toArray,List.set_cons_zero,List.set_cons_succ,i64_w,i32_w]
    rfl
  refine pure_ (i:=4) (N:=some 58) (v:=?_) (a':=?_) #[true,true,true,true,true] rfl rfl (by kernel_rfl) (fun _ _ _ h=>h) (Or.inl ⟨by rfl,?_⟩) ?_ ?_
  rotate_left
  · intro w'
    go_simp
    with_reducible rfl
  rotate_left
  · simp only[Act.put,List.setIfInBounds_toArray,List.set_cons_zero,List.set_cons_succ,i64_w,i32_w]
    rfl
  refine done_ (by kernel_rfl) ?_
  clear HY hHeld
  obtain⟨z119,z120,z121⟩:=Bn.b3 HA gD
  obtain⟨z122,z123,z124⟩:=Bn.b3 HA g6
  obtain⟨z125,z126,z127⟩:=Bn.b3 HA g8
  obtain⟨z128,z129,z130⟩:=Bn.b3 HA g10
  go_upto_region 32 with(first|((with_reducible refine Jf (f:=60) rfl ?_);refine goesL_ (some 61) rfl rfl Try.func60 (by kernel_rfl) rfl #[.slice A1_ l1.length c1_] rfl (by(try simp only[List.map_toArray,List.map_cons,List.map_nil]);first|done|rfl|(simp only[List.length_drop,List.length_take];rfl)) ?_;(with_reducible refine(toDeedsB k A1_ c1_ l1 qs ?side1 HR3.out HC3.out HTL.out).mono ?_);(case side1=>exact(Bn.go HA).1);rintro e w131 ⟨AU,cU,loU,hiU,rfl,hlo_,hle_,hd_,hb⟩;refine⟨_,rfl,?_⟩;have OXU:=DkS.gg HX hlo_;have OLU:=LsS.gg HL hlo_;have OGU:=DkS.gg HG hlo_;have DJU:=Bn.dj (n:=hiU) HA hlo_;replace HA:=Bn.mv HA hb;replace HX:=DkS.mw HX hb;replace HL:=LsS.mw HL hb;replace HG:=DkS.mw HG hb;have HU:=Jc.mk hd_;have OQU:=Jc.mk hle_;clear hb hlo_ hle_ hd_;obtain⟨z132,z133,z134⟩:=Bn.b3 HA gD;obtain⟨z135,z136,z137⟩:=Bn.b3 HA g6;obtain⟨z138,z139,z140⟩:=Bn.b3 HA g8;obtain⟨z141,z142,z143⟩:=Bn.b3 HA g10)|((with_reducible refine Jf (f:=62) rfl ?_);refine goesL_ (some 62) rfl rfl Try.func62 (by kernel_rfl) rfl #[.slice AL qs.length cL, .slice AU qs.length cU] rfl (by(try simp only[List.map_toArray,List.map_cons,List.map_nil]);first|done|rfl|(simp only[List.length_drop,List.length_take];rfl)) ?_;(with_reducible refine(eqLL k w.heap.size loL hiL w.heap.size loU hiU _ _ _ _ _ _ qs qs true ?side1 ?side2 HEL.out).mono ?_);(case side1=>exact LsS.gw HL);(case side2=>exact LsS.gw HU);rintro e w144 ⟨rfl,hb⟩;refine⟨_,rfl,?_⟩;replace HA:=Bn.mv HA hb;replace HX:=DkS.mw HX hb;replace HL:=LsS.mw HL hb;replace HG:=DkS.mw HG hb;replace HU:=LsS.mw HU hb;clear hb;obtain⟨z145,z146,z147⟩:=Bn.b3 HA gD;obtain⟨z148,z149,z150⟩:=Bn.b3 HA g6;obtain⟨z151,z152,z153⟩:=Bn.b3 HA g8;obtain⟨z154,z155,z156⟩:=Bn.b3 HA g10)|((with_reducible refine Jf (f:=18) rfl ?_);refine goesL_ (some 66) rfl rfl Try.func18 (by kernel_rfl) rfl #[.agg #[.slice AX0 l0_0.length cX0, .slice AX1 l0_1.length cX1, .slice AX2 ps.length cX2], .int .i64 1] rfl (by(try simp only[List.map_toArray,List.map_cons,List.map_nil]);first|done|rfl|(simp only[List.length_drop,List.length_take];rfl)) ?_;(with_reducible refine(Gv.calls k loX hiX _ _ _ _ _ _ _ _ _ l0_0 l0_1 ps 1 m0 x1 x2 x3 w _ ?side1 ?side2 HM0.out).mono ?_);(case side1=>exact(Bn.go HA).1);(case side2=>exact DkS.gw HX);rintro e w157 ⟨rfl,hd_,hb,hkp⟩;refine⟨_,rfl,?_⟩;have nA_:=Jc.mk (Bn.kept (Bn.go HA) hb hkp DXy.out);have nL_:=Jc.mk (LsS.kept (LsS.gw HL) hkp (.inr OXL.out));have nG_:=Jc.mk (DkS.kept (DkS.gw HG) hkp (.inr OXG.out));have nX_:=Jc.mk hd_;clear HA hb hkp hd_ HX HL HG;have HA:=nA_;have HX:=nX_;have HL:=nL_;have HG:=nG_;clear nA_ nX_ nL_ nG_;obtain⟨z158,z159,z160⟩:=Bn.b3 HA gD;obtain⟨z161,z162,z163⟩:=Bn.b3 HA g6;obtain⟨z164,z165,z166⟩:=Bn.b3 HA g8;obtain⟨z167,z168,z169⟩:=Bn.b3 HA g10)|((with_reducible refine Jf (f:=63) rfl ?_);refine goesL_ (some 69) rfl rfl Try.func63 (by kernel_rfl) rfl #[.slice AL qs.length cL, .int .i64 m0] rfl (by(try simp only[List.map_toArray,List.map_cons,List.map_nil]);first|done|rfl|(simp only[List.length_drop,List.length_take];rfl)) ?_;(with_reducible refine(markL (w:=w) k loL hiL _ qs qx m0 m1 ?side1 ?side2 HM1.out).mono ?_);(case side1=>exact(Bn.go HA).1);(case side2=>exact LsS.gw HL);rintro e w170 ⟨rfl,hb,hkp⟩;refine⟨_,rfl,?_⟩;have nA_:=Jc.mk (Bn.kept (Bn.go HA) hb hkp DLy.out);have nG_:=Jc.mk (DkS.kept (DkS.gw HG) hkp (.inr OLG.out));clear HA hb hkp HL HG;have HA:=nA_;have HG:=nG_;clear nA_ nG_;obtain⟨z171,z172,z173⟩:=Bn.b3 HA gD;obtain⟨z174,z175,z176⟩:=Bn.b3 HA g6;obtain⟨z177,z178,z179⟩:=Bn.b3 HA g8;obtain⟨z180,z181,z182⟩:=Bn.b3 HA g10)|(go_at_call 17;(with_reducible refine(eqDQ k w.heap.size loG hiG loW hiW _ _ _ _ _ _ _ _ _ _ _ _ _ _ _ _ _ _ r1 r2 r3 r1 r2 r3 true ?side1 ?side2 HE1.out).mono ?_);(case side1=>exact DkS.gw HG);(case side2=>exact Bn.has (Jc.mk (Bn.go HA)) (dq loW hiW _ _ _ r1 r2 r3));rintro e w183 ⟨rfl,hb⟩;replace HA:=Bn.mv HA hb;replace HG:=DkS.mw HG hb;clear hb;obtain⟨z184,z185,z186⟩:=Bn.b3 HA gD;obtain⟨z187,z188,z189⟩:=Bn.b3 HA g6;obtain⟨z190,z191,z192⟩:=Bn.b3 HA g8;obtain⟨z193,z194,z195⟩:=Bn.b3 HA g10)|((with_reducible refine Jf (f:=18) rfl ?_);refine goesL_ (some 85) rfl rfl Try.func18 (by kernel_rfl) rfl #[.agg #[.slice AG0 r1.length cG0, .slice AG1 r2.length cG1, .slice AG2 r3.length cG2], .int .i64 1] rfl (by(try simp only[List.map_toArray,List.map_cons,List.map_nil]);first|done|rfl|(simp only[List.length_drop,List.length_take];rfl)) ?_;(with_reducible refine(Gv.calls k loG hiG _ _ _ _ _ _ _ _ _ r1 r2 r3 1 m y1 y2 y3 w _ ?side1 ?side2 HM.out).mono ?_);(case side1=>exact(Bn.go HA).1);(case side2=>exact DkS.gw HG);rintro e w196 ⟨rfl,hd_,hb,hkp⟩;refine⟨_,rfl,?_⟩;have nA_:=Jc.mk (Bn.kept (Bn.go HA) hb hkp DGy.out);have nG_:=Jc.mk hd_;clear HA hb hkp hd_ HG;have HA:=nA_;have HG:=nG_;clear nA_ nG_;obtain⟨z197,z198,z199⟩:=Bn.b3 HA gD;obtain⟨z200,z201,z202⟩:=Bn.b3 HA g6;obtain⟨z203,z204,z205⟩:=Bn.b3 HA g8;obtain⟨z206,z207,z208⟩:=Bn.b3 HA g10)|((with_reducible refine Jf (f:=19) rfl ?_);refine goesL_ (some 88) rfl rfl Try.func19 (by kernel_rfl) rfl #[.agg #[.slice AG0 r1.length cG0, .slice AG1 r2.length cG1, .slice AG2 r3.length cG2], .int .i64 1] rfl (by(try simp only[List.map_toArray,List.map_cons,List.map_nil]);first|done|rfl|(simp only[List.length_drop,List.length_take];rfl)) ?_;(with_reducible refine(heldD k w.heap.size loG hiG _ _ _ _ _ _ _ _ _ y1 y2 y3 1 m ?side1 HHD.out).mono ?_);(case side1=>exact DkS.gw HG);rintro e w209 ⟨rfl,hb⟩;refine⟨_,rfl,?_⟩;replace HA:=Bn.mv HA hb;replace HG:=DkS.mw HG hb;clear hb;obtain⟨z210,z211,z212⟩:=Bn.b3 HA gD;obtain⟨z213,z214,z215⟩:=Bn.b3 HA g6;obtain⟨z216,z217,z218⟩:=Bn.b3 HA g8;obtain⟨z219,z220,z221⟩:=Bn.b3 HA g10)|((with_reducible refine Jf (f:=29) rfl ?_);refine goesL_ (some 96) rfl rfl Try.func29 (by kernel_rfl) rfl #[.agg #[.slice A0_0 l0_0.length c0_0, .slice A0_1 l0_1.length c0_1, .slice A0_2 l0_2.length c0_2]] rfl (by(try simp only[List.map_toArray,List.map_cons,List.map_nil]);first|done|rfl|(simp only[List.length_drop,List.length_take];rfl)) ?_;(with_reducible refine(toDeskB k A0_0 c0_0 l0_0 A0_1 c0_1 l0_1 A0_2 c0_2 l0_2 l0_0 l0_1 ps ?side1 HR0.out HC0.out HR1.out HC1.out HR2.out HC2.out HTO.out).mono ?_);(case side1=>exact(Bn.go HA).1);rintro e w222 ⟨AZ0,cZ0,AZ1,cZ1,AZ2,cZ2,loZ,hiZ,rfl,hlo_,hle_,hd_,hb⟩;refine⟨_,rfl,?_⟩;have OGZ:=DkS.gg HG hlo_;have DJZ:=Bn.dj (n:=hiZ) HA hlo_;replace HA:=Bn.mv HA hb;replace HG:=DkS.mw HG hb;have HZ:=Jc.mk hd_;have OQZ:=Jc.mk hle_;clear hb hlo_ hle_ hd_;obtain⟨z223,z224,z225⟩:=Bn.b3 HA gD;obtain⟨z226,z227,z228⟩:=Bn.b3 HA g6;obtain⟨z229,z230,z231⟩:=Bn.b3 HA g8;obtain⟨z232,z233,z234⟩:=Bn.b3 HA g10)|((with_reducible refine Jf (f:=60) rfl ?_);refine goesL_ (some 98) rfl rfl Try.func60 (by kernel_rfl) rfl #[.slice A1_ l1.length c1_] rfl (by(try simp only[List.map_toArray,List.map_cons,List.map_nil]);first|done|rfl|(simp only[List.length_drop,List.length_take];rfl)) ?_;(with_reducible refine(toDeedsB k A1_ c1_ l1 qs ?side1 HR3.out HC3.out HTL.out).mono ?_);(case side1=>exact(Bn.go HA).1);rintro e w235 ⟨AV,cV,loV,hiV,rfl,hlo_,hle_,hd_,hb⟩;refine⟨_,rfl,?_⟩;have OGV:=DkS.gg HG hlo_;have OZV:=DkS.gg HZ hlo_;have DJV:=Bn.dj (n:=hiV) HA hlo_;replace HA:=Bn.mv HA hb;replace HG:=DkS.mw HG hb;replace HZ:=DkS.mw HZ hb;have HV:=Jc.mk hd_;have OQV:=Jc.mk hle_;clear hb hlo_ hle_ hd_;obtain⟨z236,z237,z238⟩:=Bn.b3 HA gD;obtain⟨z239,z240,z241⟩:=Bn.b3 HA g6;obtain⟨z242,z243,z244⟩:=Bn.b3 HA g8;obtain⟨z245,z246,z247⟩:=Bn.b3 HA g10)|((with_reducible refine Jf (f:=61) rfl ?_);refine goesL_ (some 99) rfl rfl Try.func61 (by kernel_rfl) rfl #[.agg #[.slice AZ0 l0_0.length cZ0, .slice AZ1 l0_1.length cZ1, .slice AZ2 ps.length cZ2], .slice AV qs.length cV] rfl (by(try simp only[List.map_toArray,List.map_cons,List.map_nil]);first|done|rfl|(simp only[List.length_drop,List.length_take];rfl)) ?_;(with_reducible refine(runI (w:=w) k w.heap.size loZ hiZ w.heap.size loV hiV _ _ _ _ _ _ _ _ _ _ _ _ l0_0 l0_1 ps qs r1 r2 r3 r4 ?side1 ?side2 ?side3 HIM.out).mono ?_);(case side1=>exact(Bn.go HA).1);(case side2=>exact DkS.gw HZ);(case side3=>exact LsS.gw HV);rintro e w248 ⟨AH0,cH0,AH1,cH1,AH2,cH2,loH,hiH,rfl,hlo_,hle_,hd_,hb⟩;refine⟨_,rfl,?_⟩;have OGH:=DkS.gg HG hlo_;have OZH:=DkS.gg HZ hlo_;have OVH:=LsS.gg HV hlo_;have DJH:=Bn.dj (n:=hiH) HA hlo_;replace HA:=Bn.mv HA hb;replace HG:=DkS.mw HG hb;replace HZ:=DkS.mw HZ hb;replace HV:=LsS.mw HV hb;have HH:=Jc.mk hd_;have OQH:=Jc.mk hle_;clear hb hlo_ hle_ hd_;obtain⟨z249,z250,z251⟩:=Bn.b3 HA gD;obtain⟨z252,z253,z254⟩:=Bn.b3 HA g6;obtain⟨z255,z256,z257⟩:=Bn.b3 HA g8;obtain⟨z258,z259,z260⟩:=Bn.b3 HA g10)|((with_reducible refine Jg (N:=15) rfl ?_);refine box_event ?hg (N:=15) ?hd (cs:=#[.slice none 0 0, .slice none 0 0, .slice none 0 0]) (t:=28) ?hr ?_;(case hd=>rfl);(case hg=>rfl);(case hr=>first|(go_simp;done)|(go_simp;rfl));intro g15 hg w261 hbox hb;have DG:=Bn.dj (n:=g15 + 1) HA hg;have GW:=Bn.wg HA hg;have OBG:=DkS.gg HG hg;have OBZ:=DkS.gg HZ hg;have OBV:=LsS.gg HV hg;have OBH:=DkS.gg HH hg;replace HA:=Bn.mv HA hb;replace HG:=DkS.mw HG hb;replace HZ:=DkS.mw HZ hb;replace HV:=LsS.mw HV hb;replace HH:=DkS.mw HH hb;have BKp:=Jc.mk hbox;clear hb hbox hg;obtain⟨z262,z263,z264⟩:=Bn.b3 HA gD;obtain⟨z265,z266,z267⟩:=Bn.b3 HA g6;obtain⟨z268,z269,z270⟩:=Bn.b3 HA g8;obtain⟨z271,z272,z273⟩:=Bn.b3 HA g10;have z0_:=Jd BKp.out 0;have z1_:=Jd BKp.out 1;have z2_:=Jd BKp.out 2;have y0_:=Jo BKp.out 0;have y1_:=Jo BKp.out 1;have y2_:=Jo BKp.out 2))
  (try simp only[Act.put,List.setIfInBounds_toArray,List.set_cons_zero,List.set_cons_succ])
  have nA_:=Bn.put3 HA BKp DG GW (.slice AH0 r1.length cH0) (.slice AH1 r2.length cH1) (.slice AH2 r3.length cH2)
  have nG_:=DkS.put3 HG (.inr OBG.out) (.slice AH0 r1.length cH0) (.slice AH1 r2.length cH1) (.slice AH2 r3.length cH2)
  have nZ_:=DkS.put3 HZ (.inr OBZ.out) (.slice AH0 r1.length cH0) (.slice AH1 r2.length cH1) (.slice AH2 r3.length cH2)
  have nV_:=LsS.put3 HV (.inr OBV.out) (.slice AH0 r1.length cH0) (.slice AH1 r2.length cH1) (.slice AH2 r3.length cH2)
  have nH_:=DkS.put3 HH (.inr OBH.out) (.slice AH0 r1.length cH0) (.slice AH1 r2.length cH1) (.slice AH2 r3.length cH2)
  generalize (((w261.setCell ⟨g15,0,none⟩ (.slice AH0 r1.length cH0)).setCell ⟨g15,1,none⟩ (.slice AH1 r2.length cH1)).setCell ⟨g15,2,none⟩ (.slice AH2 r3.length cH2))=w274 at nA_ nG_ nZ_ nV_ nH_ |-
  clear HA BKp GW HG HZ HV HH
  have HA:=nA_
  have HG:=nG_
  have HZ:=nZ_
  have HV:=nV_
  have HH:=nH_
  clear nA_ nG_ nZ_ nV_ nH_
  (try clear z0_ z1_ z2_ y0_ y1_ y2_)
  obtain⟨z275,z276,z277⟩:=Bn.b3 HA gD
  obtain⟨z278,z279,z280⟩:=Bn.b3 HA g6
  obtain⟨z281,z282,z283⟩:=Bn.b3 HA g8
  obtain⟨z284,z285,z286⟩:=Bn.b3 HA g10
  obtain⟨z287,z288,z289⟩:=Bn.b3 HA g15
  go_wp2_with (first|((with_reducible refine Jf (f:=17) rfl ?_);refine goesL_ (some 104) rfl rfl Try.func17 (by kernel_rfl) rfl #[.agg #[.slice AH0 r1.length cH0, .slice AH1 r2.length cH1, .slice AH2 r3.length cH2], .agg #[.slice AW0 r1.length cW0, .slice AW1 r2.length cW1, .slice AW2 r3.length cW2]] rfl (by(try simp only[List.map_toArray,List.map_cons,List.map_nil]);first|done|rfl|(simp only[List.length_drop,List.length_take];rfl)) ?_;(with_reducible refine(eqDQ k w.heap.size loH hiH loW hiW _ _ _ _ _ _ _ _ _ _ _ _ _ _ _ _ _ _ r1 r2 r3 r1 r2 r3 true ?side1 ?side2 HE1.out).mono ?_);(case side1=>exact DkS.gw HH);(case side2=>exact Bn.has (Jc.mk (Bn.go HA)) (dq loW hiW _ _ _ r1 r2 r3));rintro e w290 ⟨rfl,hb⟩;refine⟨_,rfl,?_⟩;replace HA:=Bn.mv HA hb;replace HG:=DkS.mw HG hb;replace HZ:=DkS.mw HZ hb;replace HV:=LsS.mw HV hb;replace HH:=DkS.mw HH hb;clear hb;obtain⟨z291,z292,z293⟩:=Bn.b3 HA gD;obtain⟨z294,z295,z296⟩:=Bn.b3 HA g6;obtain⟨z297,z298,z299⟩:=Bn.b3 HA g8;obtain⟨z300,z301,z302⟩:=Bn.b3 HA g10;obtain⟨z303,z304,z305⟩:=Bn.b3 HA g15)|((with_reducible refine Jf (f:=19) rfl ?_);refine goesL_ (some 113) rfl rfl Try.func19 (by kernel_rfl) rfl #[.agg #[.slice AG0 r1.length cG0, .slice AG1 r2.length cG1, .slice AG2 r3.length cG2], .int .i64 1] rfl (by(try simp only[List.map_toArray,List.map_cons,List.map_nil]);first|done|rfl|(simp only[List.length_drop,List.length_take];rfl)) ?_;(with_reducible refine(heldD k w.heap.size loG hiG _ _ _ _ _ _ _ _ _ y1 y2 y3 1 m ?side1 HHD.out).mono ?_);(case side1=>exact DkS.gw HG);rintro e w306 ⟨rfl,hb⟩;refine⟨_,rfl,?_⟩;replace HA:=Bn.mv HA hb;replace HG:=DkS.mw HG hb;replace HZ:=DkS.mw HZ hb;replace HV:=LsS.mw HV hb;replace HH:=DkS.mw HH hb;clear hb;obtain⟨z307,z308,z309⟩:=Bn.b3 HA gD;obtain⟨z310,z311,z312⟩:=Bn.b3 HA g6;obtain⟨z313,z314,z315⟩:=Bn.b3 HA g8;obtain⟨z316,z317,z318⟩:=Bn.b3 HA g10;obtain⟨z319,z320,z321⟩:=Bn.b3 HA g15))
  go_ret
  exact⟨by first|rfl|(simp;done)|(simp[*];done),(Bn.go HA).1⟩
end Go.Proofs.Ytfooakkhkehpiaa.PE
namespace Go.Proofs.Ytfooakkhkehpiaa.Qh
open Go.RowKit Go.Proofs.YtfooakkhkehpiaaW.PrintWords Go.Proofs.YtfooakkhkehpiaaW.PrintMore
set_option linter.unusedVariables false
set_option linter.unusedSimpArgs false
theorem w64 {n:Int} (h1 : -9223372036854775808<=n) (h2:n<=9223372036854775807):wrap64 n=n:=by unfold wrap64;omega
theorem wsucc {i n:Nat} (h:i < n) (hn:n<=4611686018427387904):wrap64 ((i:Int) + 1)=((i + 1:Nat):Int):=by unfold wrap64;omega
section
variable {α β:Type} {r:α}
theorem evPos {c:Prop} [Decidable c] {g f:Nat->Option α} (h:c) (k:Ev g r):Ev (fun n=>if c then g n else f n) r:=by
  simp only[if_pos h];exact k
theorem evNeg {c:Prop} [Decidable c] {g f:Nat->Option α} (h:¬ c) (k:Ev f r):Ev (fun n=>if c then g n else f n) r:=by
  simp only[if_neg h];exact k
theorem evBind0 {g:Option β} {f:Nat->β->Option α} {a:β} (h:g=some a) (k:Ev (fun n=>f n a) r):Ev (fun n=>g.bind (f n)) r:=by
  subst h;exact k
theorem evNow {g:Option α} (h:g=some r):Ev (fun _=>g) r:=by subst h;exact Ev.now r
theorem evEq {g:Nat->Option α} {q:α} (h:Ev g q) (e:q=r):Ev g r:=e ▸ h
end
theorem rd_get (xs:List Int) (i:Nat) (h:i < xs.length):rd xs (i:Int)=xs[i]:=by
  simp[rd,List.getD_eq_getElem?_getD,List.getElem?_eq_getElem h]
theorem drop_rd (xs:List Int) (i:Nat) (h:i < xs.length):xs.drop i=rd xs (i:Int) :: xs.drop (i + 1):=by
  rw[rd_get xs i h,List.drop_eq_getElem_cons h]
theorem drop_of {α:Type} (xs:List α) (d:α) (i:Nat) (h:i < xs.length):xs.drop i=xs.getD i d :: xs.drop (i + 1):=by
  rw[List.drop_eq_getElem_cons h];simp[List.getD_eq_getElem?_getD,List.getElem?_eq_getElem h]
theorem getD_set {α:Type} (xs:List α) (d v:α) (i j:Nat) (h:i < xs.length):(xs.set i v).getD j d=if i=j then v else xs.getD j d:=by
  simp only[List.getD_eq_getElem?_getD,List.getElem?_set]
  by_cases e:i=j
  · subst e;simp[h]
  · simp[e]
theorem rd_set (xs:List Int) (v:Int) (i j:Int) (h0:0<=i) (h:i < xs.length) (hj:0<=j):rd (xs.set i.toNat v) j=if i=j then v else rd xs j:=by
  unfold rd
  rw[getD_set xs 0 v i.toNat j.toNat (by omega)]
  by_cases e:i=j
  · subst e;simp
  · rw[if_neg e,if_neg (by omega)]
theorem rd_app (xs:List Int) (v:Int) (j:Nat):rd (xs ++ [v]) (j:Int)=if j < xs.length then rd xs j else if j=xs.length then v else 0:=by
  unfold rd
  simp only[Int.toNat_natCast,List.getD_eq_getElem?_getD,List.getElem?_append]
  by_cases h:j < xs.length
  · simp[h]
  · by_cases e:j=xs.length
    · subst e;simp
    · rw[if_neg h,if_neg h,if_neg e]
      have:1<=j - xs.length:=by omega
      rw[List.getElem?_eq_none (by simp;omega)];rfl
theorem ext_rd (xs ys:List Int) (hl:xs.length=ys.length) (h:∀i:Nat,i < xs.length->rd xs (i:Int)=rd ys (i:Int)):xs=ys:=by
  apply List.ext_getElem hl
  intro i h1 h2
  have:=h i h1
  rwa [rd_get xs i h1,rd_get ys i h2] at this
theorem ext_getD {α:Type} (d:α) (xs ys:List α) (hl:xs.length=ys.length) (h:∀i:Nat,i < xs.length->xs.getD i d=ys.getD i d):xs=ys:=by
  apply List.ext_getElem hl
  intro i h1 h2
  have:=h i h1
  simpa [List.getD_eq_getElem?_getD,List.getElem?_eq_getElem h1,List.getElem?_eq_getElem h2] using this
theorem getD_map {α β:Type} (f:α->β) (d:α) (e:β) (xs:List α) (i:Nat) (h:i < xs.length):(xs.map f).getD i e=f (xs.getD i d):=by
  simp[List.getD_eq_getElem?_getD,List.getElem?_eq_getElem h]
theorem getD_mem {α:Type} (d:α) (xs:List α) (i:Nat) (h:i < xs.length):xs.getD i d ∈ xs:=by
  simp[List.getD_eq_getElem?_getD,List.getElem?_eq_getElem h]
def EvB (g:Nat->Option Bool) (p:Prop):Prop:=∃b,(b=true ↔ p)/\Ev g b
section
variable {g f:Nat->Option Bool} {p q:Prop}
theorem EvB.congr (h:EvB g p) (e:p ↔ q):EvB g q:=by obtain⟨b,h1,h2⟩:=h;exact⟨b,h1.trans e,h2⟩
theorem EvB.tt (h:p):EvB (fun _=>some true) p:=⟨true,by simp[h],Ev.now _⟩
theorem EvB.ff (h:¬ p):EvB (fun _=>some false) p:=⟨false,by simp[h],Ev.now _⟩
theorem EvB.pos {c:Prop} [Decidable c] (h:c) (k:EvB g p):EvB (fun n=>if c then g n else f n) p:=by obtain⟨b,h1,h2⟩:=k;exact⟨b,h1,evPos h h2⟩
theorem EvB.neg {c:Prop} [Decidable c] (h:¬ c) (k:EvB f p):EvB (fun n=>if c then g n else f n) p:=by obtain⟨b,h1,h2⟩:=k;exact⟨b,h1,evNeg h h2⟩
theorem EvB.step {g f:Nat->Option Bool} (h:∀k,g (k + 1)=f k) (k:EvB f p):EvB g p:=by obtain⟨b,h1,h2⟩:=k;exact⟨b,h1,Ev.step h h2⟩
theorem EvB.bind {β:Type} {g:Nat->Option β} {f:Nat->β->Option Bool} {a:β} (h:Ev g a) (k:EvB (fun n=>f n a) p):EvB (fun n=>(g n).bind (f n)) p:=by obtain⟨b,h1,h2⟩:=k;exact⟨b,h1,Ev.bind h h2⟩
theorem EvB.bind0 {β:Type} {g:Option β} {f:Nat->β->Option Bool} {a:β} (h:g=some a) (k:EvB (fun n=>f n a) p):EvB (fun n=>g.bind (f n)) p:=by obtain⟨b,h1,h2⟩:=k;exact⟨b,h1,evBind0 h h2⟩
theorem EvB.yes (h:EvB g p) (hp:p):Ev g true:=by obtain⟨b,h1,h2⟩:=h;rw[h1.2 hp] at h2;exact h2
theorem EvB.no (h:EvB g p) (hp:¬ p):Ev g false:=by
  obtain⟨b,h1,h2⟩:=h
  have:b=false:=by cases b with
    | true=>exact absurd (h1.1 rfl) hp
    | false=>rfl
  rw[this] at h2;exact h2
end
end Go.Proofs.Ytfooakkhkehpiaa.Qh
namespace Go.Proofs.Ytfooakkhkehpiaa.TiE
open Go.RowKit Go.Proofs.Ytfooakkhkehpiaa.PE Go.Proofs.Ytfooakkhkehpiaa.Qh Go.Proofs.YtfooakkhkehpiaaW.PrintWords Go.Proofs.YtfooakkhkehpiaaW.PrintMore
set_option linter.unusedVariables false
set_option linter.unusedSimpArgs false
theorem toI_l (l:List Int) (hl:l.length<=1048576):∀(d i:Nat) (o:List Int),l.length - i=d->i<=l.length->o.length=l.length->(∀j:Nat,j < i->rd o (j:Int)=rd l (j:Int)) ->
    Ev (fun k=>Gm.l0 k l o (i:Int)) l:=by
  intro d
  induction d with
  | zero=>
    intro i o hd hi ho hj
    obtain rfl:i=l.length:=by omega
    refine Ev.step (fun k=>by rw[Gm.l0]) ?_
    refine evNeg (by omega) ?_
    exact evNow (by rw[ext_rd o l ho (fun j h=>hj j (by omega))])
  | succ d ih=>
    intro i o hd hi ho hj
    have hlt:i < l.length:=by omega
    have hs:wrap64 ((i:Int) + 1)=((i + 1:Nat):Int):=wsucc hlt (by omega)
    refine Ev.step (fun k=>by rw[Gm.l0]) ?_
    refine evPos (by omega) (evPos (by omega) (evPos (by omega) ?_))
    rw[hs]
    refine ih (i + 1) _ (by omega) (by omega) (by simp[ho]) (fun j h=>?_)
    rw[rd_set _ _ _ _ (by omega) (by omega) (by omega)]
    by_cases e:(i:Int)=j
    · rw[if_pos e,e]
    · rw[if_neg e];exact hj j (by omega)
theorem toI (l:List Int) (hl:l.length<=1048576):Ev (fun k=>Gm.f k l) l:=by
  unfold Gm.f
  refine evPos (by omega) (evPos (by omega) ?_)
  exact toI_l l hl l.length 0 _ (by omega) (by omega) (by simp) (fun j h=>by omega)
theorem eqI_l (l:List Int) (hl:l.length<=4611686018427387904):∀(d i:Nat),l.length - i=d->i<=l.length->Ev (fun k=>Gd.l0 k l l (i:Int)) true:=by
  intro d
  induction d with
  | zero=>
    intro i hd hi
    refine Ev.step (fun k=>by rw[Gd.l0]) ?_
    exact evNeg (by omega) (Ev.now _)
  | succ d ih=>
    intro i hd hi
    have hlt:i < l.length:=by omega
    have hs:wrap64 ((i:Int) + 1)=((i + 1:Nat):Int):=wsucc hlt (by omega)
    refine Ev.step (fun k=>by rw[Gd.l0]) ?_
    refine evPos (by omega) (evPos (by omega) (evPos (by omega) (evPos rfl ?_)))
    rw[hs]
    exact ih (i + 1) (by omega) (by omega)
theorem eqI (l:List Int) (hl:l.length<=4611686018427387904):Ev (fun k=>Gd.f k l l) true:=by
  unfold Gd.f
  exact evPos rfl (eqI_l l hl l.length 0 (by omega) (by omega))
end Go.Proofs.Ytfooakkhkehpiaa.TiE
namespace Go.Proofs.Ytfooakkhkehpiaa.TbE
open Go.RowKit Go.Proofs.Ytfooakkhkehpiaa.PE Go.Proofs.Ytfooakkhkehpiaa.Qh Go.Proofs.YtfooakkhkehpiaaW.PrintWords Go.Proofs.YtfooakkhkehpiaaW.PrintMore
set_option linter.unusedVariables false
set_option linter.unusedSimpArgs false
def Small (c:List Int) (d:List (List Int)):Prop:=c.length<=1048576/\d.length<=1048576/\∀i:Nat,i < d.length->(Jr d (i:Int)).length<=1048576
theorem rL2 (xs:List (List Int)) (i:Nat):Jr xs (i:Int)=xs.getD i []:=rfl
theorem szI (l:List Int) (hm:l.length<=9223372036854775807) (a:Int) (h0:0<=a) (h1:a<=1048576):G2.f l a=some (if (l.length:Int)<=a then a - (l.length:Int) else -1):=by
  unfold G2.f
  rw[w64 (by omega) (by omega)]
  by_cases h:(l.length:Int)<=a
  · rw[if_neg (by omega),if_pos h]
  · rw[if_pos (by omega),if_neg h]
theorem szSS_l (d:List (List Int)) (hd:d.length<=1048576) (hr:∀y ∈ d,y.length<=9223372036854775807):∀(e i:Nat) (a:Int),d.length - i=e->i<=d.length->0<=a->a<=1048576 ->
    (∃t:Int,0<=t/\t<=1048576/\(∀i':Nat,i<=i'->i' < d.length->(Jr d (i':Int)).length<=1048576)/\Ev (fun k=>Ge.l0 k d a (i:Int)) t) ∨ Ev (fun k=>Ge.l0 k d a (i:Int)) (-1):=by
  intro e
  induction e with
  | zero=>
    intro i a he hi h0 h1
    refine .inl ⟨a,h0,h1,fun i' h2 h3=>by omega,Ev.step (fun k=>by rw[Ge.l0]) (evNeg (by omega) (Ev.now _))⟩
  | succ e ih=>
    intro i a he hi h0 h1
    have hlt:i < d.length:=by omega
    have hs:wrap64 ((i:Int) + 1)=((i + 1:Nat):Int):=wsucc hlt (by omega)
    have hm:(Jr d (i:Int)).length<=9223372036854775807:=hr _ (by rw[rL2];exact getD_mem [] d i hlt)
    by_cases h:((Jr d (i:Int)).length:Int)<=a
    · have hz:=szI _ hm a h0 h1
      rw[if_pos h] at hz
      rcases ih (i + 1) (a - ((Jr d (i:Int)).length:Int)) (by omega) (by omega) (by omega) (by omega) with⟨t,t0,t1,t2,t3⟩|h3
      · refine .inl ⟨t,t0,t1,fun i' h5 h6=>?_,?_⟩
        · by_cases e':i'=i
          · subst e';omega
          · exact t2 i' (by omega) h6
        · refine Ev.step (fun k=>by rw[Ge.l0]) ?_
          refine evPos (by omega) (evPos (by omega) (evBind0 hz (evNeg (by omega) ?_)))
          rw[hs];exact t3
      · refine .inr ?_
        refine Ev.step (fun k=>by rw[Ge.l0]) ?_
        refine evPos (by omega) (evPos (by omega) (evBind0 hz (evNeg (by omega) ?_)))
        rw[hs];exact h3
    · have hz:=szI _ hm a h0 h1
      rw[if_neg h] at hz
      refine .inr ?_
      refine Ev.step (fun k=>by rw[Ge.l0]) ?_
      refine evPos (by omega) (evPos (by omega) (evBind0 hz ?_))
      exact evPos (by omega) (Ev.now _)
theorem szB (c:List Int) (d:List (List Int)) (hc:c.length<=9223372036854775807) (hd:d.length<=9223372036854775807) (hr:∀y ∈ d,y.length<=9223372036854775807) (a:Int) (h0:0<=a) (h1:a<=1048576) :
    (∃t:Int,0<=t/\t<=1048576/\Small c d/\Ev (fun k=>Gx.f k c d a) t) ∨ Ev (fun k=>Gx.f k c d a) (-1):=by
  unfold Gx.f
  have hz:=szI c hc a h0 h1
  by_cases h:(c.length:Int)<=a
  · rw[if_pos h] at hz
    have hz2:=szI
    by_cases h2:(d.length:Int)<=a - c.length
    · have hw:wrap64 (a - (c.length:Int) - (d.length:Int))=a - (c.length:Int) - (d.length:Int):=w64 (by omega) (by omega)
      rcases szSS_l d (by omega) hr _ 0 (a - (c.length:Int) - (d.length:Int)) rfl (by omega) (by omega) (by omega) with⟨t,t0,t1,t2,t3⟩|h3
      · refine .inl ⟨t,t0,t1,⟨by omega,by omega,fun i hi=>t2 i (by omega) hi⟩,evBind0 hz (evNeg (by omega) (Ev.bind (a:=t) ?_ (evNeg (by omega) (Ev.now _))))⟩
        unfold Ge.f
        rw[hw]
        exact evNeg (by omega) t3
      · refine .inr (evBind0 hz (evNeg (by omega) (Ev.bind (a := -1) ?_ (evPos (by omega) (Ev.now _)))))
        unfold Ge.f
        rw[hw]
        exact evNeg (by omega) h3
    · have hw:wrap64 (a - (c.length:Int) - (d.length:Int))=a - (c.length:Int) - (d.length:Int):=w64 (by omega) (by omega)
      refine .inr (evBind0 hz (evNeg (by omega) (Ev.bind (a := -1) ?_ (evPos (by omega) (Ev.now _)))))
      unfold Ge.f
      rw[hw]
      exact evPos (by omega) (Ev.now _)
  · rw[if_neg h] at hz
    exact .inr (evBind0 hz (evPos (by omega) (Ev.now _)))
theorem toSS_l (l:List (List Int)) (hl:l.length<=1048576) (hr:∀i:Nat,i < l.length->(Jr l (i:Int)).length<=1048576):∀(d i:Nat) (o:List (List Int)),l.length - i=d->i<=l.length->o.length=l.length->(∀j:Nat,j < i->o.getD j []=l.getD j []) ->
    Ev (fun k=>Gn.l0 k l o (i:Int)) l:=by
  intro d
  induction d with
  | zero=>
    intro i o hd hi ho hj
    refine Ev.step (fun k=>by rw[Gn.l0]) ?_
    refine evNeg (by omega) (evEq (Ev.now _) ?_)
    exact ext_getD [] _ _ ho (fun j h=>hj j (by omega))
  | succ d ih=>
    intro i o hd hi ho hj
    have hlt:i < l.length:=by omega
    have hs:wrap64 ((i:Int) + 1)=((i + 1:Nat):Int):=wsucc hlt (by omega)
    refine Ev.step (fun k=>by rw[Gn.l0]) ?_
    refine evPos (by omega) (evPos (by omega) (Ev.bind (TiE.toI _ (hr i hlt)) ?_))
    refine evPos (by omega) ?_
    rw[hs,Int.toNat_natCast]
    refine ih (i + 1) _ (by omega) (by omega) (by rw[List.length_set];exact ho) (fun j h=>?_)
    rw[getD_set _ _ _ _ _ (by omega)]
    by_cases e:i=j
    · subst e;rw[if_pos rfl];rfl
    · rw[if_neg e];exact hj j (by omega)
theorem toSS (l:List (List Int)) (hl:l.length<=1048576) (hr:∀i:Nat,i < l.length->(Jr l (i:Int)).length<=1048576):Ev (fun k=>Gn.f k l) l:=by
  unfold Gn.f
  refine evPos (by omega) (evPos (by omega) ?_)
  exact toSS_l l hl hr l.length 0 _ (by omega) (by omega) (by simp) (fun j h=>by omega)
theorem toB (c:List Int) (d:List (List Int)) (h:Small c d):Ev (fun k=>G7.f k c d) (c,d):=by
  unfold G7.f
  exact Ev.bind (TiE.toI c h.1) (Ev.bind (toSS d h.2.1 h.2.2) (Ev.now _))
theorem eqSS_l (l:List (List Int)) (hl:l.length<=1048576) (hr:∀i:Nat,i < l.length->(Jr l (i:Int)).length<=1048576):∀(d i:Nat),l.length - i=d->i<=l.length->Ev (fun k=>Gq.l0 k l l (i:Int)) true:=by
  intro d
  induction d with
  | zero=>
    intro i hd hi
    exact Ev.step (fun k=>by rw[Gq.l0]) (evNeg (by omega) (Ev.now _))
  | succ d ih=>
    intro i hd hi
    have hlt:i < l.length:=by omega
    have hs:wrap64 ((i:Int) + 1)=((i + 1:Nat):Int):=wsucc hlt (by omega)
    refine Ev.step (fun k=>by rw[Gq.l0]) ?_
    refine evPos (by omega) (evPos (by omega) (evPos (by omega) (Ev.bind (TiE.eqI _ (by have:=hr i hlt;omega)) ?_)))
    refine evPos rfl ?_
    rw[hs]
    exact ih (i + 1) (by omega) (by omega)
theorem eqB (c:List Int) (d:List (List Int)) (h:Small c d):Ev (fun k=>Gz.f k c d c d) true:=by
  unfold Gz.f
  refine Ev.bind (TiE.eqI c (by have:=h.1;omega)) (evPos rfl (Ev.bind (a:=true) ?_ (evPos rfl (Ev.now _))))
  unfold Gq.f
  exact evPos rfl (eqSS_l d h.2.1 h.2.2 d.length 0 (by omega) (by omega))
end Go.Proofs.Ytfooakkhkehpiaa.TbE
namespace Go.Proofs.Ytfooakkhkehpiaa.MrE
open Go.RowKit Go.Proofs.Ytfooakkhkehpiaa.PE Go.Proofs.Ytfooakkhkehpiaa.Qh Go.Proofs.Ytfooakkhkehpiaa.TbE Go.Proofs.YtfooakkhkehpiaaW.PrintWords Go.Proofs.YtfooakkhkehpiaaW.PrintMore
set_option linter.unusedVariables false
set_option linter.unusedSimpArgs false
def mkI (n:Nat) (a:Int):List Int:=(List.range n).map (fun i:Nat=>a + (i:Int))
theorem mkI_len (n:Nat) (a:Int):(mkI n a).length=n:=by simp[mkI]
theorem mkI_get {n i:Nat} {a:Int} (h:i < n):rd (mkI n a) (i:Int)=a + i:=by
  rw[rd_get _ _ (by rw[mkI_len];exact h)];simp[mkI]
theorem mI_l (n:Nat) (a:Int) (h0:0<=a) (h1:a + n<=4611686018427387904):∀(e i:Nat) (o:List Int),n - i=e->i<=n->o.length=n->(∀j:Nat,j < i->rd o (j:Int)=a + j) ->
    Ev (fun k=>F5.l0 k o (a + i) (i:Int)) (a + n,mkI n a):=by
  intro e
  induction e with
  | zero=>
    intro i o he hi ho hj
    obtain rfl:i=n:=by omega
    refine Ev.step (fun k=>by rw[F5.l0]) ?_
    refine evNeg (by omega) (evEq (Ev.now _) ?_)
    rw[ext_rd o (mkI i a) (by rw[mkI_len,ho]) (fun j h=>by rw[hj j (by omega),mkI_get (by omega)])]
  | succ e ih=>
    intro i o he hi ho hj
    have hlt:i < n:=by omega
    have hs:wrap64 ((i:Int) + 1)=((i + 1:Nat):Int):=wsucc hlt (by omega)
    have ha:wrap64 (a + (i:Int) + 1)=a + ((i + 1:Nat):Int):=by rw[w64 (by omega) (by omega)];omega
    refine Ev.step (fun k=>by rw[F5.l0]) ?_
    refine evPos (by omega) (evPos (by omega) ?_)
    rw[hs,ha]
    refine ih (i + 1) _ (by omega) (by omega) (by simp[ho]) (fun j h=>?_)
    rw[rd_set _ _ _ _ (by omega) (by omega) (by omega)]
    by_cases z:(i:Int)=(j:Int)
    · rw[if_pos z,z]
    · rw[if_neg z];exact hj j (by omega)
theorem mI (l:List Int) (a:Int) (h0:0<=a) (h1:a + l.length<=4611686018427387904):Ev (fun k=>F5.f k l a) (a + l.length,mkI l.length a):=by
  unfold F5.f
  have:=mI_l l.length a h0 h1 l.length 0 l rfl (by omega) rfl (fun j h=>by omega)
  rw[show a + ((0:Nat):Int)=a by omega] at this
  exact this
theorem hI_l (n:Nat) (a:Int) (h0:0<=a) (h1:a + n<=4611686018427387904):∀(e i:Nat),n - i=e->i<=n->Ev (fun k=>Fz.l0 k (mkI n a) (a + i) (i:Int)) (a + n):=by
  have hl:=mkI_len n a
  intro e
  induction e with
  | zero=>
    intro i he hi
    obtain rfl:i=n:=by omega
    refine Ev.step (fun k=>by rw[Fz.l0]) ?_
    exact evNeg (by omega) (Ev.now _)
  | succ e ih=>
    intro i he hi
    have hlt:i < n:=by omega
    have hs:wrap64 ((i:Int) + 1)=((i + 1:Nat):Int):=wsucc hlt (by omega)
    have ha:wrap64 (a + (i:Int) + 1)=a + ((i + 1:Nat):Int):=by rw[w64 (by omega) (by omega)];omega
    refine Ev.step (fun k=>by rw[Fz.l0]) ?_
    refine evPos (by omega) (evPos (by omega) (evPos (mkI_get hlt) ?_))
    rw[hs,ha]
    exact ih (i + 1) (by omega) (by omega)
theorem hI (n:Nat) (a:Int) (h0:0<=a) (h1:a + n<=4611686018427387904):Ev (fun k=>Fz.f k (mkI n a) a) (a + n):=by
  unfold Fz.f
  have:=hI_l n a h0 h1 n 0 rfl (by omega)
  rw[show a + ((0:Nat):Int)=a by omega] at this
  exact this
def st (l:List (List Int)) (a:Int):Nat->Int
  | 0=>a
  | j + 1=>st l a j + (Jr l (j:Int)).length
def mkSS (l:List (List Int)) (a:Int):List (List Int):=(List.range l.length).map (fun j:Nat=>mkI (Jr l (j:Int)).length (st l a j))
theorem mkSS_len (l:List (List Int)) (a:Int):(mkSS l a).length=l.length:=by simp[mkSS]
theorem mkSS_get {l:List (List Int)} {a:Int} {j:Nat} (h:j < l.length):(mkSS l a).getD j []=mkI (Jr l (j:Int)).length (st l a j):=by
  rw[List.getD_eq_getElem?_getD,List.getElem?_eq_getElem (by rw[mkSS_len];exact h)];simp[mkSS]
variable {l:List (List Int)} {a:Int}
theorem st_bd (h0:0<=a) (hr:∀i:Nat,i < l.length->(Jr l (i:Int)).length<=1048576):∀j:Nat,j<=l.length->0<=st l a j/\st l a j<=a + 1048576 * j
  | 0,_=>by simp[st,h0]
  | j + 1,hj=>by
    have:=st_bd h0 hr j (by omega)
    have:=hr j (by omega)
    simp only[st];omega
theorem mSS_l (hl:l.length<=1048576) (hr:∀i:Nat,i < l.length->(Jr l (i:Int)).length<=1048576) (h0:0<=a) (h1:a<=2305843009213693952):∀(e i:Nat) (cur:List (List Int)),l.length - i=e->i<=l.length->cur.length=l.length->(∀j:Nat,j < i->cur.getD j []=(mkSS l a).getD j [])->(∀j:Nat,i<=j->j < l.length->cur.getD j []=l.getD j []) ->
    Ev (fun k=>F9.l0 k cur (st l a i) (i:Int)) (st l a l.length,mkSS l a):=by
  have hml:=mkSS_len l a
  intro e
  induction e with
  | zero=>
    intro i cur he hi hc h2 h3
    obtain rfl:i=l.length:=by omega
    refine Ev.step (fun k=>by rw[F9.l0]) ?_
    refine evNeg (by omega) (evEq (Ev.now _) ?_)
    rw[ext_getD [] cur (mkSS l a) (by omega) (fun j h=>h2 j (by omega))]
  | succ e ih=>
    intro i cur he hi hc h2 h3
    have hlt:i < l.length:=by omega
    have hs:wrap64 ((i:Int) + 1)=((i + 1:Nat):Int):=wsucc hlt (by omega)
    have hb:=st_bd h0 hr i (by omega)
    have hri:=hr i hlt
    have e1:cur.getD (i:Int).toNat []=Jr l (i:Int):=by rw[Int.toNat_natCast,h3 i (Nat.le_refl _) hlt];rfl
    refine Ev.step (fun k=>by rw[F9.l0]) ?_
    refine evPos (by omega) (evPos (by omega) (Ev.bind (by rw[e1];exact mI _ _ hb.1 (by omega)) ?_))
    rw[hs,Int.toNat_natCast]
    refine ih (i + 1) _ (by omega) (by omega) (by simp[hc]) (fun j h=>?_) (fun j h4 h5=>?_)
    · rw[getD_set _ _ _ _ _ (by omega)]
      by_cases z:i=j
      · subst z;rw[if_pos rfl,mkSS_get hlt]
      · rw[if_neg z];exact h2 j (by omega)
    · rw[getD_set _ _ _ _ _ (by omega),if_neg (by omega)];exact h3 j (by omega) h5
theorem mSS (hl:l.length<=1048576) (hr:∀i:Nat,i < l.length->(Jr l (i:Int)).length<=1048576) (h0:0<=a) (h1:a<=2305843009213693952):Ev (fun k=>F9.f k l a) (st l a l.length,mkSS l a):=by
  unfold F9.f
  exact mSS_l hl hr h0 h1 l.length 0 l rfl (by omega) rfl (fun j h=>by omega) (fun j _ _=>rfl)
theorem hSS_l (hl:l.length<=1048576) (hr:∀i:Nat,i < l.length->(Jr l (i:Int)).length<=1048576) (h0:0<=a) (h1:a<=2305843009213693952):∀(e i:Nat),l.length - i=e->i<=l.length ->
    Ev (fun k=>F6.l0 k (mkSS l a) (st l a i) (i:Int)) (st l a l.length):=by
  have hml:=mkSS_len l a
  intro e
  induction e with
  | zero=>
    intro i he hi
    obtain rfl:i=l.length:=by omega
    refine Ev.step (fun k=>by rw[F6.l0]) ?_
    exact evNeg (by omega) (Ev.now _)
  | succ e ih=>
    intro i he hi
    have hlt:i < l.length:=by omega
    have hs:wrap64 ((i:Int) + 1)=((i + 1:Nat):Int):=wsucc hlt (by omega)
    have hb:=st_bd h0 hr i (by omega)
    have hb2:=st_bd h0 hr (i + 1) (by omega)
    have hri:=hr i hlt
    have e1:Jr (mkSS l a) (i:Int)=mkI (Jr l (i:Int)).length (st l a i):=mkSS_get hlt
    refine Ev.step (fun k=>by rw[F6.l0]) ?_
    refine evPos (by omega) (evPos (by omega) (Ev.bind (by rw[e1];exact hI _ _ hb.1 (by omega)) ?_))
    rw[hs]
    exact evNeg (by omega) (ih (i + 1) (by omega) (by omega))
theorem hSS (hl:l.length<=1048576) (hr:∀i:Nat,i < l.length->(Jr l (i:Int)).length<=1048576) (h0:0<=a) (h1:a<=2305843009213693952):Ev (fun k=>F6.f k (mkSS l a) a) (st l a l.length):=by
  unfold F6.f
  exact hSS_l hl hr h0 h1 l.length 0 rfl (by omega)
end Go.Proofs.Ytfooakkhkehpiaa.MrE
namespace Go.Proofs.Ytfooakkhkehpiaa.DtE
open Go.RowKit Go.Proofs.Ytfooakkhkehpiaa.PE Go.Proofs.Ytfooakkhkehpiaa.Qh Go.Proofs.Ytfooakkhkehpiaa.TbE Go.Proofs.YtfooakkhkehpiaaW.PrintWords Go.Proofs.YtfooakkhkehpiaaW.PrintMore
set_option linter.unusedVariables false
set_option linter.unusedSimpArgs false
abbrev B:=S25
abbrev L:=S40
def cv (x:L):B:=⟨x.f0,x.f1⟩
theorem rL (xs:List L) (i:Nat):rd_T40 xs (i:Int)=xs.getD i z40:=rfl
def SmallS (l:List L):Prop:=l.length<=1048576/\∀i:Nat,i < l.length->Small (rd_T40 l (i:Int)).f0 (rd_T40 l (i:Int)).f1
def Fit (x:L):Prop:=x.f0.length<=9223372036854775807/\x.f1.length<=9223372036854775807/\∀y ∈ x.f1,y.length<=9223372036854775807
theorem sz_l (l:List L) (hl:l.length<=1048576) (hf:∀x ∈ l,Fit x):∀(e i:Nat) (a:Int),l.length - i=e->i<=l.length->0<=a->a<=1048576 ->
    (∃t:Int,0<=t/\t<=1048576/\(∀j:Nat,i<=j->j < l.length->Small (rd_T40 l (j:Int)).f0 (rd_T40 l (j:Int)).f1)/\Ev (fun k=>Gf.l0 k l a (i:Int)) t) ∨ Ev (fun k=>Gf.l0 k l a (i:Int)) (-1):=by
  intro e
  induction e with
  | zero=>
    intro i a he hi h0 h1
    left
    refine⟨a,h0,h1,fun j h2 h3=>by omega,Ev.step (fun k=>by rw[Gf.l0]) ?_⟩
    exact evNeg (by omega) (Ev.now _)
  | succ e ih=>
    intro i a he hi h0 h1
    have hlt:i < l.length:=by omega
    have hs:Jc (wrap64 ((i:Int) + 1)=((i + 1:Nat):Int)):=⟨wsucc hlt (by omega)⟩
    have hx:=hf _ (getD_mem z40 l i hlt)
    rcases szB (rd_T40 l (i:Int)).f0 (rd_T40 l (i:Int)).f1 hx.1 hx.2.1 hx.2.2 a h0 h1 with⟨t,t0,t1,sm,ht⟩|ht
    · rcases ih (i + 1) t (by omega) (by omega) t0 t1 with⟨q,q0,q1,q2,q3⟩|q3
      · left
        refine⟨q,q0,q1,fun j h2 h3=>?_,Ev.step (fun k=>by rw[Gf.l0]) ?_⟩
        · by_cases e':j=i
          · subst e';exact sm
          · exact q2 j (by omega) h3
        · rw[hs.out];exact evPos (by omega) (evPos (by omega) (Ev.bind ht (evNeg (by omega) q3)))
      · right
        refine Ev.step (fun k=>by rw[Gf.l0]) ?_
        rw[hs.out];exact evPos (by omega) (evPos (by omega) (Ev.bind ht (evNeg (by omega) q3)))
    · right
      refine Ev.step (fun k=>by rw[Gf.l0]) ?_
      exact evPos (by omega) (evPos (by omega) (Ev.bind ht (evPos (by omega) (Ev.now _))))
theorem sz (l:List L) (hl:l.length<=9223372036854775807) (hf:∀x ∈ l,Fit x) (a:Int) (h0:0<=a) (h1:a<=1048576) :
    (∃t:Int,0<=t/\t<=1048576/\SmallS l/\Ev (fun k=>Gf.f k l a) t) ∨ Ev (fun k=>Gf.f k l a) (-1):=by
  have hw:wrap64 (a - (l.length:Int))=a - (l.length:Int):=w64 (by omega) (by omega)
  unfold Gf.f
  rw[hw]
  by_cases h:a - (l.length:Int) < 0
  · exact .inr (evPos h (Ev.now _))
  · rcases sz_l l (by omega) hf l.length 0 (a - (l.length:Int)) rfl (by omega) (by omega) (by omega) with⟨t,t0,t1,t2,t3⟩|t3
    · exact .inl ⟨t,t0,t1,⟨by omega,fun i hi=>t2 i (by omega) hi⟩,evNeg h t3⟩
    · exact .inr (evNeg h t3)
theorem to_l (l:List L) (hs:SmallS l):∀(e i:Nat) (o:List B),l.length - i=e->i<=l.length->o.length=l.length->(∀j:Nat,j < i->o.getD j z25=cv (l.getD j z40)) ->
    Ev (fun k=>F2.l0 k l o (i:Int)) (l.map cv):=by
  have hl:=hs.1
  intro d
  induction d with
  | zero=>
    intro i o hd hi ho hj
    obtain rfl:i=l.length:=by omega
    refine Ev.step (fun k=>by rw[F2.l0]) ?_
    refine evNeg (by omega) ?_
    refine evNow ?_
    rw[ext_getD z25 o (l.map cv) (by simp[ho]) (fun j h=>by rw[hj j (by omega),getD_map cv z40 _ l j (by omega)])]
  | succ d ih=>
    intro i o hd hi ho hj
    have hlt:i < l.length:=by omega
    have hw:wrap64 ((i:Int) + 1)=((i + 1:Nat):Int):=wsucc hlt (by omega)
    refine Ev.step (fun k=>by rw[F2.l0]) ?_
    refine evPos (by omega) (evPos (by omega) (Ev.bind (toB _ _ (hs.2 i hlt)) (evPos (by omega) ?_)))
    rw[hw,Int.toNat_natCast]
    refine ih (i + 1) _ (by omega) (by omega) (by simp[ho]) (fun j h=>?_)
    rw[getD_set _ _ _ _ _ (by omega)]
    by_cases e:i=j
    · subst e;rw[if_pos rfl];rfl
    · rw[if_neg e];exact hj j (by omega)
theorem to_ (l:List L) (hs:SmallS l):Ev (fun k=>F2.f k l) (l.map cv):=by
  have hl:=hs.1
  unfold F2.f
  refine evPos (by omega) (evPos (by omega) ?_)
  exact to_l l hs l.length 0 _ (by omega) (by omega) (by simp) (fun j h=>by omega)
theorem eq_l (l:List B) (hl:l.length<=1048576) (hs:∀i:Nat,i < l.length->Small (Js l (i:Int)).f0 (Js l (i:Int)).f1):∀(e i:Nat),l.length - i=e->i<=l.length->Ev (fun k=>F1.l0 k l l (i:Int)) true:=by
  intro e
  induction e with
  | zero=>
    intro i he hi
    refine Ev.step (fun k=>by rw[F1.l0]) ?_
    exact evNeg (by omega) (Ev.now _)
  | succ e ih=>
    intro i he hi
    have hlt:i < l.length:=by omega
    have hw:wrap64 ((i:Int) + 1)=((i + 1:Nat):Int):=wsucc hlt (by omega)
    refine Ev.step (fun k=>by rw[F1.l0]) ?_
    refine evPos (by omega) (evPos (by omega) (evPos (by omega) (Ev.bind (eqB _ _ (hs i hlt)) (evPos rfl ?_))))
    rw[hw]
    exact ih (i + 1) (by omega) (by omega)
end Go.Proofs.Ytfooakkhkehpiaa.DtE
namespace Go.Proofs.Ytfooakkhkehpiaa.MsE
open Go.RowKit Go.Proofs.Ytfooakkhkehpiaa.PE Go.Proofs.Ytfooakkhkehpiaa.Qh Go.Proofs.Ytfooakkhkehpiaa.TbE Go.Proofs.Ytfooakkhkehpiaa.MrE Go.Proofs.YtfooakkhkehpiaaW.PrintWords Go.Proofs.YtfooakkhkehpiaaW.PrintMore
set_option linter.unusedVariables false
set_option linter.unusedSimpArgs false
abbrev B:=S25
def en (x:B) (a:Int):Int:=st x.f1 (a + x.f0.length) x.f1.length
def mkB (x:B) (a:Int):B:=⟨mkI x.f0.length a,mkSS x.f1 (a + x.f0.length)⟩
def sb (l:List B) (a:Int):Nat->Int
  | 0=>a
  | j + 1=>en (l.getD j z25) (sb l a j)
def mkBS (l:List B) (a:Int):List B:=(List.range l.length).map (fun j:Nat=>mkB (l.getD j z25) (sb l a j))
theorem mkBS_len (l:List B) (a:Int):(mkBS l a).length=l.length:=by simp[mkBS]
theorem mkBS_get {l:List B} {a:Int} {j:Nat} (h:j < l.length):(mkBS l a).getD j z25=mkB (l.getD j z25) (sb l a j):=by
  rw[List.getD_eq_getElem?_getD,List.getElem?_eq_getElem (by rw[mkBS_len];exact h)];simp[mkBS]
theorem en_bd {x:B} (h:Small x.f0 x.f1) {a:Int} (h0:0<=a):a<=en x a/\en x a<=a + 1099512676352:=by
  have hc:=h.1
  have hd:=h.2.1
  have h2:∀j:Nat,j<=x.f1.length->a + x.f0.length<=st x.f1 (a + x.f0.length) j:=by
    intro j
    induction j with
    | zero=>intro _;simp[st]
    | succ j ih=>intro hj;have:=ih (by omega);simp only[st];omega
  have h3:=h2 x.f1.length (Nat.le_refl _)
  have hb:=st_bd (l:=x.f1) (a:=a + x.f0.length) (by omega) h.2.2 x.f1.length (Nat.le_refl _)
  unfold en
  omega
section
variable {l:List B} {a:Int}
theorem sb_bd (h0:0<=a) (hr:∀i:Nat,i < l.length->Small (l.getD i z25).f0 (l.getD i z25).f1):∀j:Nat,j<=l.length->0<=sb l a j/\sb l a j<=a + 1099512676352 * j
  | 0,_=>by simp[sb,h0]
  | j + 1,hj=>by
    have h1:=sb_bd h0 hr j (by omega)
    have:=en_bd (hr j (by omega)) h1.1
    simp only[sb];omega
theorem bk_ (x:B) (h:Small x.f0 x.f1) (h0:0<=a) (h1:a<=1152925902653358080):Ev (fun k=>F5.f k x.f0 a) (a + x.f0.length,mkI x.f0.length a)/\Ev (fun k=>F9.f k x.f1 (a + x.f0.length)) (en x a,mkSS x.f1 (a + x.f0.length))/\Ev (fun k=>Fz.f k (mkI x.f0.length a) a) (a + x.f0.length)/\Ev (fun k=>F6.f k (mkSS x.f1 (a + x.f0.length)) (a + x.f0.length)) (en x a):=by
  have hc:=h.1
  exact⟨mI _ _ h0 (by omega),mSS h.2.1 h.2.2 (by omega) (by omega),hI _ _ h0 (by omega),hSS h.2.1 h.2.2 (by omega) (by omega)⟩
theorem mBS_l (hl:l.length<=1048576) (hr:∀i:Nat,i < l.length->Small (l.getD i z25).f0 (l.getD i z25).f1) (h0:0<=a) (h1:a<=1099513724928):∀(e i:Nat) (cur:List B),l.length - i=e->i<=l.length->cur.length=l.length->(∀j:Nat,j < i->cur.getD j z25=(mkBS l a).getD j z25)->(∀j:Nat,i<=j->j < l.length->cur.getD j z25=l.getD j z25) ->
    Ev (fun k=>Gj.l0 k cur (sb l a i) (i:Int)) (sb l a l.length,mkBS l a):=by
  have hml:=mkBS_len l a
  intro e
  induction e with
  | zero=>
    intro i cur he hi hc h2 h3
    obtain rfl:i=l.length:=by omega
    refine Ev.step (fun k=>by rw[Gj.l0]) ?_
    refine evNeg (by omega) (evEq (Ev.now _) ?_)
    rw[ext_getD z25 cur (mkBS l a) (by omega) (fun j h=>h2 j (by omega))]
  | succ e ih=>
    intro i cur he hi hc h2 h3
    have hlt:i < l.length:=by omega
    have hs:wrap64 ((i:Int) + 1)=((i + 1:Nat):Int):=wsucc hlt (by omega)
    have hb:=sb_bd h0 hr i (by omega)
    have e1:cur.getD (i:Int).toNat z25=l.getD i z25:=by rw[Int.toNat_natCast,h3 i (Nat.le_refl _) hlt]
    obtain⟨k1,k2,_,_⟩:=bk_ _ (hr i hlt) hb.1 (by omega)
    refine Ev.step (fun k=>by rw[Gj.l0]) ?_
    refine evPos (by omega) (evPos (by omega) (Ev.bind (by rw[e1];exact k1) (Ev.bind (by rw[e1];exact k2) ?_)))
    rw[hs,Int.toNat_natCast]
    refine ih (i + 1) _ (by omega) (by omega) (by simp[hc]) (fun j h=>?_) (fun j h4 h5=>?_)
    · rw[getD_set _ _ _ _ _ (by omega)]
      by_cases z:i=j
      · subst z;rw[if_pos rfl,mkBS_get hlt];rfl
      · rw[if_neg z];exact h2 j (by omega)
    · rw[getD_set _ _ _ _ _ (by omega),if_neg (by omega)];exact h3 j (by omega) h5
theorem hBS_l (hl:l.length<=1048576) (hr:∀i:Nat,i < l.length->Small (l.getD i z25).f0 (l.getD i z25).f1) (h0:0<=a) (h1:a<=1099513724928):∀(e i:Nat),l.length - i=e->i<=l.length ->
    Ev (fun k=>Gk.l0 k (mkBS l a) (sb l a i) (i:Int)) (sb l a l.length):=by
  have hml:=mkBS_len l a
  intro e
  induction e with
  | zero=>
    intro i he hi
    obtain rfl:i=l.length:=by omega
    refine Ev.step (fun k=>by rw[Gk.l0]) ?_
    exact evNeg (by omega) (Ev.now _)
  | succ e ih=>
    intro i he hi
    have hlt:i < l.length:=by omega
    have hs:wrap64 ((i:Int) + 1)=((i + 1:Nat):Int):=wsucc hlt (by omega)
    have hb:=sb_bd h0 hr i (by omega)
    have hb2:=sb_bd h0 hr (i + 1) (by omega)
    have e1:Js (mkBS l a) (i:Int)=mkB (l.getD i z25) (sb l a i):=mkBS_get hlt
    obtain⟨_,_,k3,k4⟩:=bk_ _ (hr i hlt) hb.1 (by omega)
    refine Ev.step (fun k=>by rw[Gk.l0]) ?_
    refine evPos (by omega) (evPos (by omega) (Ev.bind (by rw[e1];exact k3) (evNeg (by omega) (Ev.bind (by rw[e1];exact k4) ?_))))
    rw[hs]
    exact evNeg (show ¬ en _ _ < 0 from by have:=hb2.1;simp only[sb] at this;omega) (ih (i + 1) (by omega) (by omega))
end
theorem marks2 {c:List Int} {d:List (List Int)} {ps:List B} (h:Small c d) (hl:ps.length<=1048576) (hr:∀i:Nat,i < ps.length->Small (ps.getD i z25).f0 (ps.getD i z25).f1):∃(m:Int) (c':List Int) (d':List (List Int)) (ps':List B),0<=m/\m<=2305843009213693952/\Ev (fun k=>Gv.f k c d ps 1) (m,c',d',ps')/\Ev (fun k=>G0.f k c' d' ps' 1) m:=by
  have hb:=en_bd (x:=⟨c,d⟩) h (a:=1) (by omega)
  have hs:=sb_bd (l:=ps) (a:=en ⟨c,d⟩ 1) (by omega) hr ps.length (Nat.le_refl _)
  obtain⟨k1,k2,k3,k4⟩:=bk_ (a:=1) ⟨c,d⟩ h (by omega) (by omega)
  refine⟨sb ps (en ⟨c,d⟩ 1) ps.length,mkI c.length 1,mkSS d (1 + c.length),mkBS ps (en ⟨c,d⟩ 1),hs.1,by omega,?_,?_⟩
  · unfold Gv.f Ja.f Gj.f
    exact Ev.bind (Ev.bind k1 (Ev.bind k2 (Ev.now _))) (Ev.bind (mBS_l hl hr (by omega) (by omega) ps.length 0 ps rfl (by omega) rfl (fun j h=>by omega) (fun j _ _=>rfl)) (Ev.now _))
  · unfold G0.f G5.f Gk.f
    refine Ev.bind (Ev.bind k3 (evNeg (by omega) (Ev.bind k4 (evNeg (by omega) (Ev.now _))))) (evNeg (by omega) ?_)
    exact Ev.bind (hBS_l hl hr (by omega) (by omega) ps.length 0 rfl (by omega)) (evNeg (by omega) (Ev.now _))
theorem marks {c:List Int} {d:List (List Int)} {ps:List B} (h:Small c d) (hl:ps.length<=1048576) (hr:∀i:Nat,i < ps.length->Small (ps.getD i z25).f0 (ps.getD i z25).f1):∃(m:Int) (c':List Int) (d':List (List Int)) (ps':List B),0<=m/\Ev (fun k=>Gv.f k c d ps 1) (m,c',d',ps')/\Ev (fun k=>G0.f k c' d' ps' 1) m:=by
  obtain⟨m,c',d',ps',h0,_,h1,h2⟩:=marks2 h hl hr
  exact⟨m,c',d',ps',h0,h1,h2⟩
end Go.Proofs.Ytfooakkhkehpiaa.MsE
namespace Go.Proofs.Ytfooakkhkehpiaa.MlE
open Go.RowKit Go.Proofs.Ytfooakkhkehpiaa.PE Go.Proofs.Ytfooakkhkehpiaa.Qh Go.Proofs.Ytfooakkhkehpiaa.TbE Go.Proofs.YtfooakkhkehpiaaW.PrintWords Go.Proofs.YtfooakkhkehpiaaW.PrintMore
set_option linter.unusedVariables false
set_option linter.unusedSimpArgs false
abbrev D_:=S69
abbrev K_:=S66
def cvD (x:K_):D_:=⟨x.f0,x.f1,x.f2,x.f3⟩
theorem szS (l:List K_) (hm:l.length<=9223372036854775807) (a:Int) (h0:0<=a) (h1:a<=1048576):Gy.f l a=some (if (l.length:Int)<=a then a - (l.length:Int) else -1):=by
  unfold Gy.f
  rw[w64 (by omega) (by omega)]
  by_cases h:(l.length:Int)<=a
  · rw[if_neg (by omega),if_pos h]
  · rw[if_pos (by omega),if_neg h]
theorem to_l (l:List K_) (hl:l.length<=1048576):∀(e i:Nat) (o:List D_),l.length - i=e->i<=l.length->o.length=l.length->(∀j:Nat,j < i->o.getD j z69=cvD (l.getD j z66)) ->
    Ev (fun k=>Gi.l0 k l o (i:Int)) (l.map cvD):=by
  intro d
  induction d with
  | zero=>
    intro i o hd hi ho hj
    obtain rfl:i=l.length:=by omega
    refine Ev.step (fun k=>by rw[Gi.l0]) ?_
    refine evNeg (by omega) ?_
    refine evNow ?_
    rw[ext_getD z69 o (l.map cvD) (by simp[ho]) (fun j h=>by rw[hj j (by omega),getD_map cvD z66 _ l j (by omega)])]
  | succ d ih=>
    intro i o hd hi ho hj
    have hlt:i < l.length:=by omega
    have hw:wrap64 ((i:Int) + 1)=((i + 1:Nat):Int):=wsucc hlt (by omega)
    refine Ev.step (fun k=>by rw[Gi.l0]) ?_
    refine evPos (by omega) (evPos (by omega) (evBind0 rfl (evPos (by omega) ?_)))
    rw[hw,Int.toNat_natCast]
    refine ih (i + 1) _ (by omega) (by omega) (by simp[ho]) (fun j h=>?_)
    rw[getD_set _ _ _ _ _ (by omega)]
    by_cases e:i=j
    · subst e;rw[if_pos rfl];rfl
    · rw[if_neg e];exact hj j (by omega)
theorem to_ (l:List K_) (hl:l.length<=1048576):Ev (fun k=>Gi.f k l) (l.map cvD):=by
  unfold Gi.f
  refine evPos (by omega) (evPos (by omega) ?_)
  exact to_l l hl l.length 0 _ (by omega) (by omega) (by simp) (fun j h=>by omega)
theorem eq_l (l:List D_) (hl:l.length<=1048576):∀(e i:Nat),l.length - i=e->i<=l.length->Ev (fun k=>Fx.l0 k l l (i:Int)) true:=by
  intro e
  induction e with
  | zero=>
    intro i he hi
    refine Ev.step (fun k=>by rw[Fx.l0]) ?_
    exact evNeg (by omega) (Ev.now _)
  | succ e ih=>
    intro i he hi
    have hlt:i < l.length:=by omega
    have hw:wrap64 ((i:Int) + 1)=((i + 1:Nat):Int):=wsucc hlt (by omega)
    have hq:∀a b c d:Int,G9.f a b c d a b c d=some true:=fun a b c d=>by unfold G9.f;rw[if_pos rfl,if_pos rfl,if_pos rfl,if_pos rfl]
    refine Ev.step (fun k=>by rw[Fx.l0]) ?_
    refine evPos (by omega) (evPos (by omega) (evPos (by omega) (evBind0 (hq _ _ _ _) (evPos rfl ?_))))
    rw[hw]
    exact ih (i + 1) (by omega) (by omega)
theorem eq_ (l:List D_) (hl:l.length<=1048576):Ev (fun k=>Fx.f k l l) true:=by
  unfold Fx.f
  exact evPos rfl (eq_l l hl _ 0 rfl (by omega))
theorem mark_l (n:Nat) (hn:n<=1048576):∀(e i:Nat) (cur:List D_) (a:Int),n - i=e->i<=n->cur.length=n->0<=a->a<=2305843009213693952 + 4 * i->∃(m:Int) (r:List D_),0<=m/\Ev (fun k=>F4.l0 k cur a (i:Int)) (m,r):=by
  intro e
  induction e with
  | zero=>
    intro i cur a he hi hc h0 h1
    obtain rfl:i=n:=by omega
    refine⟨a,cur,h0,Ev.step (fun k=>by rw[F4.l0]) ?_⟩
    exact evNeg (by omega) (Ev.now _)
  | succ e ih=>
    intro i cur a he hi hc h0 h1
    have hlt:i < n:=by omega
    have hw:wrap64 ((i:Int) + 1)=((i + 1:Nat):Int):=wsucc hlt (by omega)
    have w1:wrap64 (a + 1)=a + 1:=w64 (by omega) (by omega)
    have w2:wrap64 (a + 1 + 1)=a + 1 + 1:=w64 (by omega) (by omega)
    have w3:wrap64 (a + 1 + 1 + 1)=a + 1 + 1 + 1:=w64 (by omega) (by omega)
    have w4:wrap64 (a + 1 + 1 + 1 + 1)=a + 1 + 1 + 1 + 1:=w64 (by omega) (by omega)
    obtain⟨m,r,hm,hr⟩:=ih (i + 1) _ (a + 1 + 1 + 1 + 1) (by omega) (by omega) (show(List.set (List.set (List.set (List.set cur (i:Int).toNat _) (i:Int).toNat _) (i:Int).toNat _) (i:Int).toNat _).length=n by simp[hc]) (by omega) (by omega)
    refine⟨m,r,hm,Ev.step (fun k=>by rw[F4.l0]) ?_⟩
    rw[w1,w2,w3,w4,hw]
    exact evPos (by omega) (evPos (by omega) (evBind0 rfl (evBind0 rfl (evBind0 rfl hr))))
theorem mark (l:List D_) (hl:l.length<=1048576) (a:Int) (h0:0<=a) (h1:a<=2305843009213693952):∃(m:Int) (r:List D_),0<=m/\Ev (fun k=>F4.f k l a) (m,r):=by
  unfold F4.f
  exact mark_l l.length hl l.length 0 l a rfl (by omega) rfl h0 (by omega)
end Go.Proofs.Ytfooakkhkehpiaa.MlE
namespace Go.Proofs.Ytfooakkhkehpiaa.BkE
open Go.RowKit Go.Proofs.Ytfooakkhkehpiaa.PE Go.Proofs.Ytfooakkhkehpiaa.Qh Go.Proofs.YtfooakkhkehpiaaW.PrintWords Go.Proofs.YtfooakkhkehpiaaW.PrintMore
set_option linter.unusedVariables false
set_option linter.unusedSimpArgs false
def RowP (c:List Int) (d:List (List Int)) (i:Nat):Prop:=
  0<=rd c (i:Int)/\rd c (i:Int)<=20/\(Jr d (i:Int)).length=c.length/\rd (Jr d (i:Int)) (i:Int)=0/\∀j:Nat,j < c.length->0<=rd (Jr d (i:Int)) (j:Int)/\rd (Jr d (i:Int)) (j:Int)<=9
def BookP (c:List Int) (d:List (List Int)):Prop:=1<=c.length/\c.length<=4/\d.length=c.length/\∀i:Nat,i < c.length->RowP c d i
theorem ib_l1 (c:List Int) (d:List (List Int)) (row:List Int) (x3:Int) (i:Nat) (hrow:row.length<=4) (hi:i < d.length) (hd:d.length<=4) {R:Prop}
    (hR:EvB (fun k=>Fi.l0 k x3 d (d.length:Int) ((i + 1:Nat):Int) c d) R):∀(e j:Nat),row.length - j=e->j<=row.length ->
    EvB (fun k=>Fi.l1 k x3 d (d.length:Int) (i:Int) row (row.length:Int) (j:Int) c d) ((∀j':Nat,j<=j'->j' < row.length->0<=rd row (j':Int)/\rd row (j':Int)<=9)/\R):=by
  have hs:wrap64 ((i:Int) + 1)=((i + 1:Nat):Int):=wsucc hi (by omega)
  intro e
  induction e with
  | zero=>
    intro j he hj
    refine EvB.step (fun k=>by rw[Fi.l1]) ?_
    rw[hs]
    exact EvB.neg (by omega) (hR.congr ⟨fun h=>⟨fun j' h1 h2=>by omega,h⟩,fun h=>h.2⟩)
  | succ e ih=>
    intro j he hj
    have hlt:j < row.length:=by omega
    have hj1:wrap64 ((j:Int) + 1)=((j + 1:Nat):Int):=wsucc hlt (by omega)
    refine EvB.step (fun k=>by rw[Fi.l1]) ?_
    refine EvB.pos (by omega) (EvB.pos (by omega) (EvB.pos (by omega) ?_))
    by_cases h1:rd row (j:Int) < 0
    · exact EvB.pos h1 (EvB.ff (fun h=>by have:=h.1 j (Nat.le_refl _) hlt;omega))
    · refine EvB.neg h1 ?_
      by_cases h2:rd row (j:Int) > 9
      · exact EvB.pos h2 (EvB.ff (fun h=>by have:=h.1 j (Nat.le_refl _) hlt;omega))
      · refine EvB.neg h2 ?_
        rw[hj1]
        refine(ih (j + 1) (by omega) (by omega)).congr ⟨fun h=>⟨fun j' h3 h4=>?_,h.2⟩,fun h=>⟨fun j' h3 h4=>h.1 j' (by omega) h4,h.2⟩⟩
        by_cases e':j'=j
        · subst e';exact⟨by omega,by omega⟩
        · exact h.1 j' (by omega) h4
theorem ib_l0 (c:List Int) (d:List (List Int)) (h4:c.length<=4) (hl:d.length=c.length):∀(e i:Nat),c.length - i=e->i<=c.length ->
    EvB (fun k=>Fi.l0 k (c.length:Int) d (d.length:Int) (i:Int) c d) (∀i':Nat,i<=i'->i' < c.length->RowP c d i'):=by
  intro e
  induction e with
  | zero=>
    intro i he hi
    refine EvB.step (fun k=>by rw[Fi.l0]) ?_
    exact EvB.neg (by omega) (EvB.tt (fun i' h1 h2=>by omega))
  | succ e ih=>
    intro i he hi
    have hlt:i < c.length:=by omega
    refine EvB.step (fun k=>by rw[Fi.l0]) ?_
    refine EvB.pos (by omega) (EvB.pos (by omega) (EvB.pos (by omega) (EvB.pos (by omega) ?_)))
    have bad:∀(P:Prop),(P->¬ RowP c d i)->P->EvB (fun k=>Fi.j2 k (c.length:Int) (Jr d (i:Int)) d (d.length:Int) (i:Int) true c d) (∀i':Nat,i<=i'->i' < c.length->RowP c d i'):=by
      intro P hP p
      refine EvB.step (fun k=>by rw[Fi.j2]) ?_
      exact EvB.pos rfl (EvB.ff (fun h=>hP p (h i (Nat.le_refl _) hlt)))
    by_cases h1:rd c (i:Int) < 0
    · exact EvB.pos h1 (bad _ (fun p h=>by have:=h.1;omega) h1)
    refine EvB.neg h1 ?_
    by_cases h2:rd c (i:Int) > 20
    · exact EvB.pos h2 (bad _ (fun p h=>by have:=h.2.1;omega) h2)
    refine EvB.neg h2 ?_
    by_cases h3:((Jr d (i:Int)).length:Int)=(c.length:Int)
    · refine EvB.pos h3 (EvB.pos (by omega) ?_)
      by_cases h5:rd (Jr d (i:Int)) (i:Int)=0
      · refine EvB.step (fun k=>by rw[Fi.j2]) ?_
        refine EvB.neg (by rw[h5];decide) ?_
        refine(ib_l1 c d (Jr d (i:Int)) (c.length:Int) i (by omega) (by omega) (by omega) (ih (i + 1) (by omega) (by omega)) _ 0 rfl (by omega)).congr ?_
        constructor
        · intro h i' h6 h7
          by_cases e':i'=i
          · subst e';exact⟨by omega,by omega,by omega,h5,fun j hj=>h.1 j (by omega) (by omega)⟩
          · exact h.2 i' (by omega) h7
        · intro h
          have hr:=h i (Nat.le_refl _) hlt
          exact⟨fun j' _ h7=>hr.2.2.2.2 j' (by omega),fun i' h6 h7=>h i' (by omega) h7⟩
      · have hb:(rd (Jr d (i:Int)) (i:Int) != 0)=true:=bne_iff_ne.mpr h5
        rw[hb]
        exact bad _ (fun p h=>p h.2.2.2.1) h5
    · exact EvB.neg h3 (bad _ (fun p h=>p (by rw[h.2.2.1])) h3)
theorem isBook (c:List Int) (d:List (List Int)):EvB (fun k=>Fi.f k c d) (BookP c d):=by
  unfold Fi.f
  by_cases h1:(c.length:Int) < 1
  · refine EvB.pos h1 (EvB.step (fun k=>by rw[Fi.j0]) ?_)
    exact EvB.pos rfl (EvB.ff (fun h=>by have:=h.1;omega))
  refine EvB.neg h1 ?_
  by_cases h2:(c.length:Int) > 4
  · refine EvB.pos h2 (EvB.step (fun k=>by rw[Fi.j0]) ?_)
    exact EvB.pos rfl (EvB.ff (fun h=>by have:=h.2.1;omega))
  refine EvB.neg h2 (EvB.step (fun k=>by rw[Fi.j0]) ?_)
  by_cases h3:d.length=c.length
  · refine EvB.neg (by rw[h3];simp) ?_
    refine(ib_l0 c d (by omega) h3 _ 0 rfl (by omega)).congr ⟨fun h=>⟨by omega,by omega,h3,fun i hi=>h i (by omega) hi⟩,fun h i _ hi=>h.2.2.2 i hi⟩
  · exact EvB.pos (bne_iff_ne.mpr (by omega)) (EvB.ff (fun h=>h3 h.2.2.1))
theorem sIn (a lo hi:Int):F8.f a lo hi=some (decide (lo<=a/\a<=hi)):=by
  unfold F8.f
  by_cases h:a ≥ lo
  · rw[if_pos h];simp[h]
  · rw[if_neg h];congr 1;symm;exact decide_eq_false (fun h'=>h h'.1)
theorem sb_l1 (c:List Int) (d:List (List Int)) (i:Nat) (hrow:(Jr d (i:Int)).length<=4) (hi:i < d.length) (hd:d.length<=4) {R:Prop}
    (hR:EvB (fun k=>Fh.l0 k ((i + 1:Nat):Int) c d) R):∀(e j:Nat),(Jr d (i:Int)).length - j=e->j<=(Jr d (i:Int)).length ->
    EvB (fun k=>Fh.l1 k (i:Int) (j:Int) c d) ((∀j':Nat,j<=j'->j' < (Jr d (i:Int)).length->0<=rd (Jr d (i:Int)) (j':Int)/\rd (Jr d (i:Int)) (j':Int)<=9)/\R):=by
  have hs:wrap64 ((i:Int) + 1)=((i + 1:Nat):Int):=wsucc hi (by omega)
  intro e
  induction e with
  | zero=>
    intro j he hj
    refine EvB.step (fun k=>by rw[Fh.l1]) ?_
    rw[hs]
    exact EvB.pos (by omega) (EvB.pos (by omega) (EvB.neg (by omega) (hR.congr ⟨fun h=>⟨fun j' h1 h2=>by omega,h⟩,fun h=>h.2⟩)))
  | succ e ih=>
    intro j he hj
    have hlt:j < (Jr d (i:Int)).length:=by omega
    have hj1:wrap64 ((j:Int) + 1)=((j + 1:Nat):Int):=wsucc hlt (by omega)
    refine EvB.step (fun k=>by rw[Fh.l1]) ?_
    refine EvB.pos (by omega) (EvB.pos (by omega) (EvB.pos (by omega) (EvB.pos (by omega) (EvB.bind0 (sIn _ _ _) ?_))))
    by_cases h1:0<=rd (Jr d (i:Int)) (j:Int)/\rd (Jr d (i:Int)) (j:Int)<=9
    · refine EvB.pos (decide_eq_true h1) ?_
      rw[hj1]
      refine(ih (j + 1) (by omega) (by omega)).congr ⟨fun h=>⟨fun j' h3 h4=>?_,h.2⟩,fun h=>⟨fun j' h3 h4=>h.1 j' (by omega) h4,h.2⟩⟩
      by_cases e':j'=j
      · subst e';exact h1
      · exact h.1 j' (by omega) h4
    · exact EvB.neg (by simpa using h1) (EvB.ff (fun h=>h1 (h.1 j (Nat.le_refl _) hlt)))
theorem sb_l0 (c:List Int) (d:List (List Int)) (h4:c.length<=4) (hl:d.length=c.length):∀(e i:Nat),c.length - i=e->i<=c.length ->
    EvB (fun k=>Fh.l0 k (i:Int) c d) (∀i':Nat,i<=i'->i' < c.length->RowP c d i'):=by
  intro e
  induction e with
  | zero=>
    intro i he hi
    refine EvB.step (fun k=>by rw[Fh.l0]) ?_
    exact EvB.neg (by omega) (EvB.tt (fun i' h1 h2=>by omega))
  | succ e ih=>
    intro i he hi
    have hlt:i < c.length:=by omega
    refine EvB.step (fun k=>by rw[Fh.l0]) ?_
    refine EvB.pos (by omega) (EvB.pos (by omega) (EvB.bind0 (sIn _ _ _) ?_))
    have bad:∀(P:Prop),(P->¬ RowP c d i)->P->EvB (fun k=>Fh.j2 k (i:Int) true c d) (∀i':Nat,i<=i'->i' < c.length->RowP c d i'):=by
      intro P hP p
      refine EvB.step (fun k=>by rw[Fh.j2]) ?_
      exact EvB.pos rfl (EvB.ff (fun h=>hP p (h i (Nat.le_refl _) hlt)))
    by_cases h1:0<=rd c (i:Int)/\rd c (i:Int)<=20
    · refine EvB.pos (decide_eq_true h1) (EvB.pos (by omega) ?_)
      by_cases h3:((Jr d (i:Int)).length:Int)=(c.length:Int)
      · refine EvB.pos h3 (EvB.pos (by omega) ?_)
        by_cases h5:rd (Jr d (i:Int)) (i:Int)=0
        · refine EvB.step (fun k=>by rw[Fh.j2]) ?_
          refine EvB.neg (by rw[h5];decide) ?_
          refine(sb_l1 c d i (by omega) (by omega) (by omega) (ih (i + 1) (by omega) (by omega)) _ 0 rfl (by omega)).congr ?_
          constructor
          · intro h i' h6 h7
            by_cases e':i'=i
            · subst e';exact⟨h1.1,h1.2,by omega,h5,fun j hj=>h.1 j (by omega) (by omega)⟩
            · exact h.2 i' (by omega) h7
          · intro h
            have hr:=h i (Nat.le_refl _) hlt
            exact⟨fun j' _ h7=>hr.2.2.2.2 j' (by omega),fun i' h6 h7=>h i' (by omega) h7⟩
        · have hb:(rd (Jr d (i:Int)) (i:Int) != 0)=true:=bne_iff_ne.mpr h5
          rw[hb]
          exact bad _ (fun p h=>p h.2.2.2.1) h5
      · exact EvB.neg h3 (bad _ (fun p h=>p (by rw[h.2.2.1])) h3)
    · exact EvB.neg (by simpa using h1) (bad _ (fun p h=>p ⟨h.1,h.2.1⟩) h1)
theorem bookOk (c:List Int) (d:List (List Int)):EvB (fun k=>Fh.f k c d) (BookP c d):=by
  unfold Fh.f
  refine EvB.bind0 (sIn _ _ _) ?_
  by_cases h1:1<=(c.length:Int)/\(c.length:Int)<=4
  · refine EvB.pos (decide_eq_true h1) (EvB.step (fun k=>by rw[Fh.j0]) ?_)
    by_cases h3:d.length=c.length
    · refine EvB.neg (by rw[h3];simp) ?_
      refine(sb_l0 c d (by omega) h3 _ 0 rfl (by omega)).congr ⟨fun h=>⟨by omega,by omega,h3,fun i hi=>h i (by omega) hi⟩,fun h i _ hi=>h.2.2.2 i hi⟩
    · exact EvB.pos (bne_iff_ne.mpr (by omega)) (EvB.ff (fun h=>h3 h.2.2.1))
  · refine EvB.neg (by simpa using h1) (EvB.step (fun k=>by rw[Fh.j0]) ?_)
    exact EvB.pos rfl (EvB.ff (fun h=>h1 ⟨by have:=h.1;omega,by have:=h.2.1;omega⟩))
end Go.Proofs.Ytfooakkhkehpiaa.BkE
namespace Go.Proofs.Ytfooakkhkehpiaa.MxE
open Go.RowKit Go.Proofs.Ytfooakkhkehpiaa.PE Go.Proofs.Ytfooakkhkehpiaa.Qh Go.Proofs.Ytfooakkhkehpiaa.BkE Go.Proofs.YtfooakkhkehpiaaW.PrintWords Go.Proofs.YtfooakkhkehpiaaW.PrintMore
set_option linter.unusedVariables false
set_option linter.unusedSimpArgs false
abbrev db (d:List (List Int)) (i j:Nat):Int:=rd (Jr d (i:Int)) (j:Int)
theorem rL (xs:List (List Int)) (i:Nat):Jr xs (i:Int)=xs.getD i []:=rfl
def rowF (n:Nat) (f:Nat->Int):List Int:=(List.range n).map f
def mk (n:Nat) (f:Nat->Nat->Int):List (List Int):=(List.range n).map (fun i=>rowF n (f i))
theorem rowF_len (n:Nat) (f:Nat->Int):(rowF n f).length=n:=by simp[rowF]
theorem mk_len (n:Nat) (f:Nat->Nat->Int):(mk n f).length=n:=by simp[mk]
theorem rd_rowF {n j:Nat} {f:Nat->Int} (h:j < n):rd (rowF n f) (j:Int)=f j:=by
  rw[rd_get _ _ (by rw[rowF_len];exact h)];simp[rowF]
theorem mk_get {n i:Nat} {f:Nat->Nat->Int} (h:i < n):Jr (mk n f) (i:Int)=rowF n (f i):=by
  rw[rL,List.getD_eq_getElem?_getD,List.getElem?_eq_getElem (by rw[mk_len];exact h)];simp[mk]
theorem rowF_congr {n:Nat} {f g:Nat->Int} (h:∀j,j < n->f j=g j):rowF n f=rowF n g:=by
  unfold rowF
  exact List.map_congr_left (fun j hj=>h j (List.mem_range.mp hj))
theorem mk_congr {n:Nat} {f g:Nat->Nat->Int} (h:∀i,i < n->∀j,j < n->f i j=g i j):mk n f=mk n g:=by
  unfold mk
  exact List.map_congr_left (fun i hi=>rowF_congr (h i (List.mem_range.mp hi)))
theorem rowF_of (l:List Int) {n:Nat} (h:l.length=n):l=rowF n (fun j=>rd l (j:Int)):=by
  apply List.ext_getElem (by rw[rowF_len,h])
  intro i h1 h2
  rw[<- rd_get l i h1, <- rd_get _ i h2,rd_rowF (by rw[rowF_len] at h2;exact h2)]
theorem mk_of {c:List Int} {d:List (List Int)} (h:BookP c d):d=mk c.length (db d):=by
  apply List.ext_getElem (by rw[mk_len,h.2.2.1])
  intro i h1 h2
  have hi:i < c.length:=by rw[mk_len] at h2;exact h2
  have hr:=(h.2.2.2 i hi).2.2.1
  have e1:d[i]=Jr d (i:Int):=by rw[rL,List.getD_eq_getElem?_getD,List.getElem?_eq_getElem h1];rfl
  have e2:(mk c.length (db d))[i]=rowF c.length (db d i):=by simp[mk]
  rw[e1,e2]
  exact rowF_of _ hr
theorem rowF_set {n j:Nat} {f:Nat->Int} {v:Int} (h:j < n):(rowF n f).set j v=rowF n (fun j'=>if j'=j then v else f j'):=by
  apply List.ext_getElem (by simp[rowF])
  intro i h1 h2
  have hi:i < n:=by rw[rowF_len] at h2;exact h2
  rw[List.getElem_set]
  by_cases e:j=i
  · subst e;simp[rowF]
  · rw[if_neg e];simp only[rowF,List.getElem_map,List.getElem_range];rw[if_neg (fun z=>e z.symm)]
theorem mk_set {n i j:Nat} {f:Nat->Nat->Int} {v:Int} (hi:i < n) (hj:j < n):(mk n f).set i ((Jr (mk n f) (i:Int)).set j v)=mk n (fun i' j'=>if i'=i/\j'=j then v else f i' j'):=by
  rw[mk_get hi,rowF_set hj]
  apply List.ext_getElem (by simp[mk])
  intro a h1 h2
  have ha:a < n:=by rw[mk_len] at h2;exact h2
  rw[List.getElem_set]
  by_cases e:i=a
  · subst e
    rw[if_pos rfl]
    simp only[mk,List.getElem_map,List.getElem_range]
    exact rowF_congr (fun j' _=>by simp)
  · rw[if_neg e]
    simp only[mk,List.getElem_map,List.getElem_range]
    exact rowF_congr (fun j' _=>by rw[if_neg (fun z=>e z.1.symm)])
theorem icopy {c:List Int} {d:List (List Int)} (h:BookP c d):Ev (fun k=>Fo.f k c d) (c,d):=by
  have h4:=h.2.1
  have hdl:=h.2.2.1
  unfold Fo.f
  refine evBind0 rfl (evPos (by simp only[List.length_nil];omega) ?_)
  rw[List.nil_append]
  have key:∀(e i:Nat),d.length - i=e->i<=d.length->Ev (fun k=>Fo.l0 k d (d.length:Int) (i:Int) c (d.take i)) (c,d):=by
    intro e
    induction e with
    | zero=>
      intro i he hi
      obtain rfl:i=d.length:=by omega
      refine Ev.step (fun k=>by rw[Fo.l0]) ?_
      rw[List.take_length]
      exact evNeg (by omega) (Ev.now _)
    | succ e ih=>
      intro i he hi
      have hlt:i < d.length:=by omega
      have hr:=(h.2.2.2 i (by omega)).2.2.1
      have hs:Jc (wrap64 ((i:Int) + 1)=((i + 1:Nat):Int)):=⟨wsucc hlt (by omega)⟩
      have htl:(d.take i).length=i:=by rw[List.length_take];omega
      have e2:d.take i ++ [Jr d (i:Int)]=d.take (i + 1):=by
        rw[rL,List.getD_eq_getElem?_getD,List.getElem?_eq_getElem hlt,List.take_succ_eq_append_getElem hlt];rfl
      refine Ev.step (fun k=>by rw[Fo.l0]) ?_
      rw[hs.out]
      refine evPos (by omega) (evPos (by omega) (evPos (by omega) (evBind0 rfl (evPos (by simp only[List.length_nil];omega) (evPos (by omega) ?_)))))
      rw[List.nil_append,e2]
      exact ih (i + 1) (by omega) (by omega)
  exact key d.length 0 rfl (by omega)
theorem scopy {c:List Int} {d:List (List Int)} (h:BookP c d):Ev (fun k=>Fs.f k c d) (c,d):=by
  have h4:=h.2.1
  have hdl:=h.2.2.1
  unfold Fs.f
  refine evBind0 rfl (evPos (by simp only[List.length_nil];omega) ?_)
  rw[List.nil_append]
  have key:∀(e i:Nat),d.length - i=e->i<=d.length->Ev (fun k=>Fs.l0 k (i:Int) c d c (d.take i)) (c,d):=by
    intro e
    induction e with
    | zero=>
      intro i he hi
      obtain rfl:i=d.length:=by omega
      refine Ev.step (fun k=>by rw[Fs.l0]) ?_
      rw[List.take_length]
      exact evNeg (by omega) (Ev.now _)
    | succ e ih=>
      intro i he hi
      have hlt:i < d.length:=by omega
      have hr:=(h.2.2.2 i (by omega)).2.2.1
      have hs:Jc (wrap64 ((i:Int) + 1)=((i + 1:Nat):Int)):=⟨wsucc hlt (by omega)⟩
      have htl:(d.take i).length=i:=by rw[List.length_take];omega
      have e2:d.take i ++ [Jr d (i:Int)]=d.take (i + 1):=by
        rw[rL,List.getD_eq_getElem?_getD,List.getElem?_eq_getElem hlt,List.take_succ_eq_append_getElem hlt];rfl
      refine Ev.step (fun k=>by rw[Fs.l0]) ?_
      rw[hs.out]
      refine evPos (by omega) (evBind0 rfl (evPos (by omega) (evPos (by simp only[List.length_nil];omega) (evPos (by omega) ?_))))
      rw[List.nil_append,e2]
      exact ih (i + 1) (by omega) (by omega)
  exact key d.length 0 rfl (by omega)
end Go.Proofs.Ytfooakkhkehpiaa.MxE
