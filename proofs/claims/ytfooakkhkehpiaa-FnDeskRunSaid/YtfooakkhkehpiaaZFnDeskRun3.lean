/- FnDeskRun: for every input the law holds. No condition. -/
import Derived.Test.YtfooakkhkehpiaaZFnDeskRun1
import Derived.Test.YtfooakkhkehpiaaZFnDeskRun2
namespace Go.Proofs.Ytfooakkhkehpiaa.PU
open Go.RowKit Go.Proofs.YtfooakkhkehpiaaW.PrintWords Go.Proofs.YtfooakkhkehpiaaW.PrintLast Go.Proofs.YtfooakkhkehpiaaW.PrintMore Go.Proofs.Ytfooakkhkehpiaa.Qd
attribute [local go_sem] max2_int min2_int max_two min_two max_three min_three max_four min_four
set_option linter.unusedVariables false
set_option linter.unusedSimpArgs false
def Fc.l0:Nat->Int->List Int->List (List Int)->Option (List Int × (List (List Int)) × Int)
 | 0,_,_,_=>none
 | k + 1,x5,ft3,ft4=>(Fg.f k ft3 ft4).bind fun ws=>(if (ws.length:Int)=0 then(some (ft3,ft4,x5)) else(if 0 < (ws.length:Int) then((Fl.f k ft3 ft4 (Jb ws 0)).bind fun bt301=>(Fc.l0 k (wrap64 (x5 + 1)) bt301.1 bt301.2)) else(none)))
def Fc.f (k:Nat) (ab:List Int) (aa:List (List Int)):Option (List Int × (List (List Int)) × Int):=(Fh.f k ab aa).bind fun dr7=>(if dr7=true then((Fv.f k ab aa).bind fun bt290=>(Fc.l0 k 0 bt290.1 bt290.2)) else(some (([]:List Int),([]:List (List Int)),(-1))))
theorem Fc.calls0_q0 {p:Prop} (h:p:=by repeat(first|(with_reducible first|exact HB.out|apply G3|apply G2|apply G1|refine G0 ?_ hj6.out|refine G0 ?_ hj7.out|refine G0 ?_ jv2.out)|exact HB.out)):p:=h
set_option maxHeartbeats 8000000 in
set_option maxRecDepth 100000 in
theorem Fc.calls0 (k:Nat) (ah:Option Addr) (af:Nat) (ab:List Int) (ao:Option Addr) (ai:Nat) (aa:List (List Int)) (r1:List Int) (r2:List (List Int)) (r3:Int) (w:World) (d4:Kd.C (Kd.int .i64) w ah ab.length ab) (d9:ab.length<=af) (d5:Kd.C (Kd.slice 3 (Kd.int .i64)) w ao aa.length aa) (ea:aa.length<=ai) (h:Fc.f k ab aa=some (r1,r2,r3)) :
  Calls Try.prog 53 #[.agg #[.slice ah ab.length af, .slice ao aa.length ai]] w fun e w'=>∃v0_ v1_:Value,e = .returned (.tuple #[.agg #[v0_,v1_], .int .i64 r3])/\Kd.R (Kd.int .i64) 3 w' w.heap.size (fun k_=>(w.heap.size<=k_)) v0_ r1/\Kd.S (Kd.slice 3 (Kd.int .i64)) 22 w' w.heap.size (fun k_=>(w.heap.size<=k_)/\some k_≠(v0_:Value).ownBlock) v1_ r2/\Below w.heap.size w w':=by
 have hu25:=Try.underlying25
 have dp:=A_ d4
 have ec:=A_ d9
 clear d4 d9
 have df:=A_ d5
 have ee:=A_ ea
 clear d5 ea
 have HB:=A_ (Below.refl w.heap.size w)
 have H:=h
 unfold Fc.f at H
 clear h
 obtain⟨dr7,A2,H⟩:=bind_ H
 by_cases c3:dr7=true
 case neg=>
  replace c3:=Bool.eq_false_iff.mpr c3
  subst c3
  replace H:=ifn_ H
  simp only[Option.some.injEq,Prod.mk.injEq] at H
  obtain⟨rfl,rfl,rfl⟩:=H
  go_enter Try.func53,Try.ntmps53
  go_wp2_with (first|((with_reducible refine gd_ 1 ?_);refine bx_ (N:=1) #[.slice ah ab.length af, .slice ao aa.length ai] 25 ?_;intro ts hg w45 hbox hb;have nv:=A_ (hbox);have jv3:=A_ ((g36_:w.heap.size<=ts));have hj6:=jv3;replace HB:=A_ (Jg (Fc.calls0_q0) hb);clear hb hbox hg)|((with_reducible refine gd_ 2 ?_);refine bx_ (N:=2) #[.slice none 0 0, .slice none 0 0] 25 ?_;intro pb hg wt hbox hb;have oj:=A_ (hbox);have jv4:=A_ ((g36_:w.heap.size<=pb));have hj7:=jv4;replace HB:=A_ (Jg (Fc.calls0_q0) hb);have ep7:=nl_ nv hg;have ep8:=nr_ nv hg;replace nv:=bb_ nv hb;clear hb hbox hg;have eq3:=ep7.out;have eq4:=ep8.out;obtain⟨ds2,ds3,ds4,ds5⟩:=blk2_ nv)|((with_reducible refine gc_ 42 ?_);refine gl_ 8 Try.func42 #[.agg #[.slice ah ab.length af, .slice ao aa.length ai]] ?_;(refine(Fh.calls k _ _ ab _ _ aa false _ (uC_ dp) ec.out (uC_ df) ee.out A2.out).mono ?_);rintro e w49 ⟨rfl,hb⟩;refine⟨_,rfl,?_⟩;replace nv:=bb_ nv hb;replace oj:=bb_ oj hb;replace HB:=A_ (Jg (Fc.calls0_q0) hb);obtain⟨hl8,hl9,hm2,hm3⟩:=blk2_ oj))
  refine bodyPost_ret (Jm rfl _ _ pb 25 #[.slice none 0 0, .slice none 0 0] (0,0) _ rfl (ba_ oj) Try.underlying25 rfl (g0_)) rfl ?_
  exact⟨_,_,g4_,g24_,g33_,Fc.calls0_q0⟩
 subst c3
 replace H:=ifp_ H
 replace H:=Option.bind_eq_some_iff.mp H
 obtain⟨⟨aw2,dr8⟩,r8,H⟩:=H
 try dsimp only at H
 have A4:=A_ r8
 clear r8
 have H':=A_ H
 clear H
 go_enter Try.func53,Try.ntmps53
 go_wp2_with (first|((with_reducible refine gd_ 1 ?_);refine bx_ (N:=1) #[.slice ah ab.length af, .slice ao aa.length ai] 25 ?_;intro ts hg w5 hbox hb;have nv:=A_ (hbox);have jv3:=A_ ((g36_:w.heap.size<=ts));have hj6:=jv3;replace HB:=A_ (Jg (Fc.calls0_q0) hb);clear hb hbox hg)|((with_reducible refine gd_ 2 ?_);refine bx_ (N:=2) #[.slice none 0 0, .slice none 0 0] 25 ?_;intro pb hg w6 hbox hb;have oj:=A_ (hbox);have jv4:=A_ ((g36_:w.heap.size<=pb));have hj7:=jv4;replace HB:=A_ (Jg (Fc.calls0_q0) hb);have ep7:=nl_ nv hg;have ep8:=nr_ nv hg;replace nv:=bb_ nv hb;clear hb hbox hg;have fi7:=ep7.out;have fi8:=ep8.out;obtain⟨at9,au0,au1,au2⟩:=blk2_ nv)|((with_reducible refine gc_ 42 ?_);refine gl_ 8 Try.func42 #[.agg #[.slice ah ab.length af, .slice ao aa.length ai]] ?_;(refine(Fh.calls k _ _ ab _ _ aa true _ (uC_ dp) ec.out (uC_ df) ee.out A2.out).mono ?_);rintro e w9 ⟨rfl,hb⟩;refine⟨_,rfl,?_⟩;replace nv:=bb_ nv hb;replace oj:=bb_ oj hb;replace HB:=A_ (Jg (Fc.calls0_q0) hb);obtain⟨aj7,aj8,aj9,ak0⟩:=blk2_ nv)|((with_reducible refine gc_ 80 ?_);refine gl_ 12 Try.func80 #[.agg #[.slice ah ab.length af, .slice ao aa.length ai]] ?_;(refine(Fv.calls k _ _ ab _ _ aa aw2 dr8 _ (uC_ dp) ec.out (uC_ df) ee.out A4.out).mono ?_);rintro e w11 ⟨hj8,ml1,rfl,ae,ax,hb⟩;refine⟨_,rfl,?_⟩;have br1:=A_ (Kd.R_lower (Kd.R_newM (M:=fun k_=>(w.heap.size<=k_)) ae (Gz (Fc.calls0_q0)) (fun k_ h_=>h_)) (Gz (Fc.calls0_q0)));have ep9:=A_ (Kd.S_lower (Kd.S_mono (ok':=fun k_=>(w.heap.size<=k_)/\some k_≠(hj8:Value).ownBlock/\k_≠ts/\k_≠pb) (id (Kd.S_bound ax)) (fun k_ hk_=>⟨(Nat.le_trans (Gz (Fc.calls0_q0)) hk_.2.1),hk_.1,(Kd.freshB (g:=ts) (o:=.cells #[.slice ah ab.length af, .slice ao aa.length ai] 25 (0,0)) (uB_ nv) k_ hk_.2.1),(Kd.freshB (g:=pb) (o:=.cells #[.slice none 0 0, .slice none 0 0] 25 (0,0)) (uB_ oj) k_ hk_.2.1)⟩)) (Gz (Fc.calls0_q0)));replace nv:=bb_ nv hb;replace oj:=bb_ oj hb;replace HB:=A_ (Jg (Fc.calls0_q0) hb))|((with_reducible refine gd_ 4 ?_);refine bx_ (N:=4) #[.slice none 0 0, .slice none 0 0] 25 ?_;intro pr hg w12 hbox hb;replace br1:=rb_ br1 hb;replace ep9:=A_ (Kd.S_below (Kd.S_elderB (uS_ ep9) pr (Nat.le_of_eq hg.symm)) hb);have ps:=A_ (hbox);have ml2:=A_ ((g36_:w.heap.size<=pr));have jv2:=ml2;replace HB:=A_ (Jg (Fc.calls0_q0) hb);have br2:=nl_ nv hg;have dr9:=nr_ nv hg;replace nv:=bb_ nv hb;have br3:=nl_ oj hg;have ds0:=nr_ oj hg;replace oj:=bb_ oj hb;clear hb hbox hg;obtain⟨dz,de,bc8⟩:=Kd.R_slice br1.out;subst bc8;have eg0:=dr9.out;have eg1:=br2.out;have cw5:=ds0.out;have cw6:=br3.out;obtain⟨ba9,bb0,bb1,bb2⟩:=blk2_ ps;obtain⟨ia,h7,bp0⟩:=Kd.S_slice ep9.out;subst bp0))
 go_loopg [5] k (fun kq v5 w'=>∃(bj:Int) (uo:List Int) (uq:List (List Int)) (eq0:Value) (ft5:Value),v5 = .int .i64 bj/\Gx (Fc.l0 kq bj uo uq=some (r1,r2,r3))/\Gx (kq<=k)/\Gx (Kd.R (Kd.int .i64) 3 w' w.heap.size (fun k_=>(w.heap.size<=k_)) eq0 uo)/\Gx (Kd.S (Kd.slice 3 (Kd.int .i64)) 22 w' w.heap.size (fun k_=>(w.heap.size<=k_)/\some k_≠(eq0:Value).ownBlock/\k_≠ts/\k_≠pb/\k_≠pr) ft5 uq)/\Gx (hc_ w' ts #[(.slice ah ab.length af),(.slice ao aa.length ai)] 25)/\Gx (hc_ w' pb #[(.slice none 0 0),(.slice none 0 0)] 25)/\Gx (hc_ w' pr #[eq0,ft5] 25)/\Gx (Below w.heap.size w w'))
 case atStart=>exact⟨(0),(aw2),(dr8),(.slice dz aw2.length de),(.slice ia dr8.length h7),(g3_),H',⟨Nat.le_refl _⟩,⟨ra_ br1⟩,⟨sa_ ep9⟩,⟨ba_ nv⟩,⟨ba_ oj⟩,⟨ba_ ps⟩,⟨Fc.calls0_q0⟩⟩
 clear H'
 obtain⟨bj,uo,uq,eq0,ft5,rfl,HA,HK1,ur,vl,nv,oj,ps,HB⟩:=hrel
 cases gk with
 | zero=>exact absurd HA.out (by simp[Fc.l0])
 | succ k1=>?_
 have H:=HA.out
 clear HA
 simp only[Fc.l0] at H
 obtain⟨ws,A18,H⟩:=bind_ H
 by_cases f9:(ws.length:Int)=0
 ·rw[if_pos f9] at H
  have ve:((ws.length:Int) == 0)=true:=beq_iff_eq.mpr f9
  have ap1:((ws.length:Int) != 0)=false:=bne_eq_false_iff_eq.mpr f9
  clear f9
  simp only[Option.some.injEq,Prod.mk.injEq] at H
  obtain⟨rfl,rfl,rfl⟩:=H
  have cv8:=dr9.out
  have cv9:=br2.out
  have hj9:=ds0.out
  have hk1:=br3.out
  obtain⟨ap2,ap3,ap4,ap5⟩:=blk2_ ps
  obtain⟨lq,g5,cm0⟩:=Kd.R_slice ur.out
  subst cm0
  obtain⟨aw,ag,bi6⟩:=Kd.S_slice vl.out
  subst bi6
  go_wp2_with (first|((with_reducible refine gc_ 95 ?_);refine gl_ 14 Try.func95 #[.agg #[.slice lq uo.length g5, .slice aw uq.length ag]] ?_;(refine(Fg.calls k1 _ _ uo _ _ uq ws _ (cR_ ur) (lR_ ur) (cS_ vl) (lS_ vl) A18.out).mono ?_);rintro e r6 ⟨jv5,rfl,ae,hb⟩;refine⟨_,rfl,?_⟩;have aw3:=A_ (Kd.N_lower (Kd.N_mono (ok':=fun k_=>(w.heap.size<=k_)/\some k_≠(.slice lq uo.length g5:Value).ownBlock/\some k_≠(.slice aw uq.length ag:Value).ownBlock/\k_≠ts/\k_≠pb/\k_≠pr) ae (fun k_ hk_=>⟨(Nat.le_trans (Gz (Fc.calls0_q0)) hk_),(Kd.fresh' (Kd.R_lt (uR_ ur)) k_ hk_),(Kd.fresh' (Kd.S_lt (uS_ vl)) k_ hk_),(Kd.freshB (g:=ts) (o:=.cells #[.slice ah ab.length af, .slice ao aa.length ai] 25 (0,0)) (uB_ nv) k_ hk_),(Kd.freshB (g:=pb) (o:=.cells #[.slice none 0 0, .slice none 0 0] 25 (0,0)) (uB_ oj) k_ hk_),(Kd.freshB (g:=pr) (o:=.cells #[.slice lq uo.length g5, .slice aw uq.length ag] 25 (0,0)) (uB_ ps) k_ hk_)⟩)) (Gz (Fc.calls0_q0)));replace ur:=rb_ ur hb;replace vl:=A_ (Kd.S_elder' (uS_ vl) (Kd.N_base (g137_)) hb);replace nv:=bb_ nv hb;replace oj:=bb_ oj hb;replace ps:=bb_ ps hb;replace HB:=A_ (Jg (Fc.calls0_q0) hb);obtain⟨sx,sy,av4⟩:=Kd.N_slice aw3.out;subst av4;obtain⟨br4,br5,br6,br7⟩:=blk2_ ps;have cw2:=ep8.out;have cw3:=ep7.out;obtain⟨eh9,ei0,ei1,ei2⟩:=blk2_ oj))
  refine bodyPost_ret (Jm rfl _ _ pb 25 #[.slice lq uo.length g5, .slice aw uq.length ag] (0,0) _ rfl (ba_ oj) Try.underlying25 rfl (g0_)) rfl ?_
  exact⟨_,_,g4_,ra_ ur,sa_ vl,Fc.calls0_q0⟩
 rw[if_neg f9] at H
 have ve:((ws.length:Int) == 0)=false:=beq_eq_false_iff_ne.mpr f9
 have ap1:((ws.length:Int) != 0)=true:=bne_iff_ne.mpr f9
 have cv3:¬ (ws=[]):=fun h_=>f9 (g86_)
 obtain⟨ya,H⟩:=pos_ H
 have cw7:=decide_eq_true ya
 have fn8:decide (0 < ws.length)=true:=decide_eq_true (by omega)
 clear ya
 replace H:=Option.bind_eq_some_iff.mp H
 obtain⟨⟨gr,i5⟩,hk2,H⟩:=H
 try dsimp only at H
 have A31:=A_ hk2
 clear hk2
 have H':=A_ H
 clear H
 have cb8:=dr9.out
 have cb9:=br2.out
 have bo5:=ds0.out
 have bo6:=br3.out
 obtain⟨dl5,dl6,dl7,dl8⟩:=blk2_ ps
 obtain⟨rh,qy,bz8⟩:=Kd.R_slice ur.out
 subst bz8
 obtain⟨ue,tq,dl9⟩:=Kd.S_slice vl.out
 subst dl9
 try go_wp2_with (first|((with_reducible refine gc_ 95 ?_);refine gl_ 14 Try.func95 #[.agg #[.slice rh uo.length qy, .slice ue uq.length tq]] ?_;(refine(Fg.calls k1 _ _ uo _ _ uq ws _ (cR_ ur) (lR_ ur) (cS_ vl) (lS_ vl) A18.out).mono ?_);rintro e ta ⟨jv5,rfl,ae,hb⟩;refine⟨_,rfl,?_⟩;have aw3:=A_ (Kd.N_lower (Kd.N_mono (ok':=fun k_=>(w.heap.size<=k_)/\some k_≠(.slice rh uo.length qy:Value).ownBlock/\some k_≠(.slice ue uq.length tq:Value).ownBlock/\k_≠ts/\k_≠pb/\k_≠pr) ae (fun k_ hk_=>⟨(Nat.le_trans (Gz (Fc.calls0_q0)) hk_),(Kd.fresh' (Kd.R_lt (uR_ ur)) k_ hk_),(Kd.fresh' (Kd.S_lt (uS_ vl)) k_ hk_),(Kd.freshB (g:=ts) (o:=.cells #[.slice ah ab.length af, .slice ao aa.length ai] 25 (0,0)) (uB_ nv) k_ hk_),(Kd.freshB (g:=pb) (o:=.cells #[.slice none 0 0, .slice none 0 0] 25 (0,0)) (uB_ oj) k_ hk_),(Kd.freshB (g:=pr) (o:=.cells #[.slice rh uo.length qy, .slice ue uq.length tq] 25 (0,0)) (uB_ ps) k_ hk_)⟩)) (Gz (Fc.calls0_q0)));replace ur:=rb_ ur hb;replace vl:=A_ (Kd.S_elder' (uS_ vl) (Kd.N_base (g137_)) hb);replace nv:=bb_ nv hb;replace oj:=bb_ oj hb;replace ps:=bb_ ps hb;replace HB:=A_ (Jg (Fc.calls0_q0) hb);obtain⟨ma,ka,av5⟩:=Kd.N_slice aw3.out;subst av5))
 replace ur:=rd_ ur
 replace vl:=sd_ vl
 replace aw3:=nd_ aw3
 replace nv:=bd_ nv
 replace oj:=bd_ oj
 replace ps:=bd_ ps
 replace HB:=A_ (G1 HB.out)
 have eq1:0<=(0:Int):=(by omega)
 have eq2:0 < (ws.length:Int):=od_
 obtain⟨hk3,hk4,hk5,jv6,ds1,hk6,hk7⟩:=at_L1 (Kd.N_reads' aw3.out).2.2 0 eq1 eq2
 cases jv6
 obtain⟨ce300,hce300,hMe300,hcc300⟩:=Kd.N_get aw3.out [] 0 eq1 (by first|exact eq2|exact od_|(have e_:=(Kd.N_reads' aw3.out).1;omega))
 obtain⟨ua300_0,uc300_0,rfl,ul300_0,ge300_0⟩:=Kd.FK_slice_open hMe300
 have hv300_0:=hcc300 0 _ rfl
 rw[Nat.add_zero,show((Kd.slice 3 (Kd.int .i64))).sz=1 from rfl,Nat.mul_one] at hv300_0
 replace hv300_0:=Option.some.inj (hv300_0.symm.trans ds1)
 injection hv300_0 with hva_ hvn_ hvc_
 rw[hva_] at ge300_0
 rw[hvc_] at ul300_0
 have ft6:=A_ (show Kd.V (Kd.int .i64) 3 _ w.heap.size _ _ (Jb ws 0) from Kd.V_mk ul300_0 ge300_0)
 clear hva_ hvn_ hvc_ ge300_0 ul300_0
 clear hcc300 hce300
 have qi300:(0 < ws.length)=True:=eq_true (by omega)
 (try rw[show((0:Int)).toNat=0 from rfl] at ds1)
 (try rw[Addr.add_zero'] at ds1)
 have cx9:=A_ hk7
 have jv7:=A_ hk6
 clear hk7 hk6
 replace eq1:=eq_true eq1
 replace eq2:=eq_true eq2
 refine start_ (n:=6) (S:=fun w'=>w'.cell? ⟨pr,0,none⟩=some (.slice rh uo.length qy)/\w'.cell? ⟨pr,1,none⟩=some (.slice ue uq.length tq)/\w'.cell? hk3=some (.slice hk4 (Jb ws 0).length hk5)) (ds:=[5]) (tl_ 6 0) (g0_) rfl (g0_) ⟨(Gy ps.out 0).trans rfl,(Gy ps.out 1).trans rfl,ds1⟩ (fun hHeld=>?_)
 generalize ta.drew=w39 at ur vl aw3 nv oj ps HB ft6 cx9 ds1 hHeld |-
 refine pure_ (i:=1) (N:=some 21) (v:=?_) (a':=?_) (tl_ 6 2) rfl rfl (g0_) (fun _ _ _ h=>h) (Or.inl ⟨by rfl,?_⟩) ?_ ?_
 rotate_left
 ·intro w'
  go_simp
  with_reducible rfl
 rotate_left
 · exact sp_
 refine pure_ (i:=2) (N:=some 22) (v:=?_) (a':=?_) (tl_ 6 6) rfl rfl (g0_) (fun _ _ _ h=>h) (Or.inl ⟨by rfl,?_⟩) ?_ ?_
 rotate_left
 ·intro w'
  go_simp
  with_reducible rfl
 rotate_left
 · exact sp_
 refine take_ (i:=0) (N:=some 20) (v:=?_) (a':=?_) (tl_ 6 7) rfl rfl (g0_) (fun _ _ _ h=>h) (Or.inl ⟨by rfl,?_⟩) hHeld ?_ ?_
 rotate_left
 ·rintro w' ⟨s0,s1,s2⟩
  go_simp
  with_reducible rfl
 rotate_left
 · exact sp_
 refine take_ (i:=3) (N:=some 23) (v:=?_) (a':=?_) (tl_ 6 15) rfl rfl (g0_) (fun _ _ _ h=>h) (Or.inl ⟨by rfl,?_⟩) hHeld ?_ ?_
 rotate_left
 ·rintro w' ⟨s0,s1,s2⟩
  go_simp
  with_reducible rfl
 rotate_left
 · exact sp_
 refine one_ (i:=4) (N:=some 24) (tl_ 6 31) rfl rfl (g0_) (by decide) (fun K hK=>?_)
 refine goes_ Try.func98 (g0_) rfl #[.agg #[.slice rh uo.length qy, .slice ue uq.length tq], .slice hk4 (Jb ws 0).length hk5] (by rfl) rfl rfl (gM_) ?_
 with_reducible refine(Fl.calls k1 _ _ uo _ _ uq _ _ (Jb ws 0) gr i5 _ ?side1 ?side2 ?side3 ?side4 ?side5 ?side6 A31.out).mono ?_
 (case side1=>exact cR_ ur)
 (case side2=>exact lR_ ur)
 (case side3=>exact cS_ vl)
 (case side4=>exact lS_ vl)
 (case side5=>repeat(first|exact(by repeat(first|(with_reducible exact cx9.out)|(with_reducible refine Kd.C_alloc ?_ _)|(with_reducible refine Kd.C_drewN ?_ _)|(with_reducible refine Kd.C_drew ?_)|exact cx9.out))|(with_reducible refine Kd.C_alloc ?_ _)|(with_reducible refine Kd.C_drewN ?_ _)|(with_reducible refine Kd.C_drew ?_)))
 (case side6=>exact jv7.out)
 rintro e w40 ⟨ft7,jv8,rfl,ae,ax,hb⟩
 have HS2_:=(hb.cell (World.block_lt_of_cell? _ _ (hHeld.2.2))).trans (hHeld.2.2)
 refine⟨_,rfl,?_⟩
 replace ft6:=A_ (Kd.V_mono (Kd.V_told (Kd.V_told (Kd.V_old (uV_ ft6) hb) (Kd.R_base ae)) (Kd.S_base (g99_))) (fun _ h_=>h_.1))
 have bj7:=A_ (Kd.R_lower (Kd.R_new' (Kd.R_newM (M:=fun k_=>(w.heap.size<=k_)) ae (Gz (Fc.calls0_q0)) (fun k_ h_=>h_)) (Kd.R_lt (uR_ ur))) (Gz (Fc.calls0_q0)))
 have cm1:=A_ (Kd.S_lower (Kd.S_mono (ok':=fun k_=>(w.heap.size<=k_)/\some k_≠(ft7:Value).ownBlock/\some k_≠(.slice rh uo.length qy:Value).ownBlock/\some k_≠(.slice ue uq.length tq:Value).ownBlock/\some k_≠(.slice (some hk3) ws.length ka:Value).ownBlock/\k_≠ts/\k_≠pb/\k_≠pr) (id (Kd.S_bound ax)) (fun k_ hk_=>⟨(Nat.le_trans (Gz (Fc.calls0_q0)) hk_.2.1),hk_.1,(Kd.fresh' (Kd.R_lt (uR_ ur)) k_ hk_.2.1),(Kd.fresh' (Kd.S_lt (uS_ vl)) k_ hk_.2.1),(Kd.fresh' (Kd.N_lt (uN_ aw3)) k_ hk_.2.1),(Kd.freshB (g:=ts) (o:=.cells #[.slice ah ab.length af, .slice ao aa.length ai] 25 (0,0)) (uB_ nv) k_ hk_.2.1),(Kd.freshB (g:=pb) (o:=.cells #[.slice none 0 0, .slice none 0 0] 25 (0,0)) (uB_ oj) k_ hk_.2.1),(Kd.freshB (g:=pr) (o:=.cells #[.slice rh uo.length qy, .slice ue uq.length tq] 25 (0,0)) (uB_ ps) k_ hk_.2.1)⟩)) (Gz (Fc.calls0_q0)))
 replace ur:=A_ (Kd.R_elder' (uR_ ur) (Kd.R_base ae) hb)
 replace vl:=A_ (Kd.S_mono (Kd.S_told (Kd.S_told (Kd.S_old (uS_ vl) hb) (Kd.R_base ae)) (Kd.S_base (g99_))) (fun _ h_=>h_.1))
 replace aw3:=A_ (Kd.N_mono (Kd.N_told (Kd.N_told (Kd.N_old (uN_ aw3) hb) (Kd.R_base ae)) (Kd.S_base (g99_))) (fun _ h_=>h_.1))
 replace nv:=bb_ nv hb
 replace oj:=bb_ oj hb
 replace ps:=bb_ ps hb
 replace cx9:=A_ (Kd.C_below (by repeat(first|(with_reducible exact cx9.out)|(with_reducible refine Kd.C_alloc ?_ _)|(with_reducible refine Kd.C_drewN ?_ _)|(with_reducible refine Kd.C_drew ?_)|exact cx9.out)) hb)
 replace HB:=A_ (Jg (Fc.calls0_q0) hb)
 obtain⟨ku,j3,ah1⟩:=Kd.R_slice bj7.out
 (first|subst ah1|(injection ah1 with f1_ f2_ f3_;have f4_:=f1_.symm;have f5_:=f3_.symm;clear f1_ f2_ f3_;subst f4_;subst f5_))
 obtain⟨pt,pc,bj8⟩:=Kd.S_slice cm1.out
 (first|subst bj8|(injection bj8 with f1_ f2_ f3_;have f4_:=f1_.symm;have f5_:=f3_.symm;clear f1_ f2_ f3_;subst f4_;subst f5_))
 refine hK.out _ _ ⟨(Gy ps.out 0).trans rfl,(Gy ps.out 1).trans rfl,HS2_⟩ (fun hHeld=>?_)
 clear hK K
 refine nm_ ?_
 refine last_ (i:=5) (N:=none) (tl_ 6 63) rfl rfl (g0_) (by decide) (fun K hK=>?_)
 have hk8:w40.cell? ⟨pr,0,none⟩=some (.slice rh uo.length qy):=(Gy ps.out 0).trans rfl
 have hl3:=G7 ps.out 0
 have jv9:w40.cell? ⟨pr,1,none⟩=some (.slice ue uq.length tq):=(Gy ps.out 1).trans rfl
 have jw0:=G7 ps.out 1
 refine skip_ (w1:=?_) (by rfl) rfl ?_ ?_
 rotate_left
 ·go_simp
  rfl
 refine hK.out _ _ ?_
 clear hK K
 refine done_ (g0_) ?_
 try go_wp2
 go_roundg k1
 case measure=>have:=HK1.out;omega
 case rel=>exact⟨(wrap64 (bj + 1)),(gr),(i5),(.slice ku gr.length j3),(.slice pt i5.length pc),(g3_),H',⟨g17_⟩,⟨ra_ bj7⟩,⟨sa_ cm1⟩,⟨ba_ nv⟩,⟨ba_ oj⟩,⟨ba_ ps⟩,⟨Fc.calls0_q0⟩⟩
theorem Fc.calls (k:Nat) (ah:Option Addr) (af:Nat) (ab:List Int) (ao:Option Addr) (ai:Nat) (aa:List (List Int)) (r1:List Int) (r2:List (List Int)) (r3:Int) (w:World) (d4:Kd.C (Kd.int .i64) w ah ab.length ab) (d9:ab.length<=af) (d5:Kd.C (Kd.slice 3 (Kd.int .i64)) w ao aa.length aa) (ea:aa.length<=ai) (h:Fc.f k ab aa=some (r1,r2,r3)) :
  Calls Try.prog 53 #[.agg #[.slice ah ab.length af, .slice ao aa.length ai]] w fun e w'=>∃v0_ v1_:Value,e = .returned (.tuple #[.agg #[v0_,v1_], .int .i64 r3])/\Kd.R (Kd.int .i64) 3 w' w.heap.size (fun _=>True) v0_ r1/\Kd.S (Kd.slice 3 (Kd.int .i64)) 22 w' w.heap.size (fun k_=>some k_≠(v0_:Value).ownBlock) v1_ r2/\Below w.heap.size w w':=by
 refine(Fc.calls0 k ah af ab ao ai aa r1 r2 r3 w d4 d9 d5 ea h).mono ?_
 rintro e w' ⟨v0_,v1_,he,h0,h1,hb⟩
 exact⟨v0_,v1_,he,Kd.R_mono h0 (fun _ _=>trivial),Kd.S_mono h1 (fun _ h_=>h_.2),hb⟩
mutual
def F0.l0:Nat->Int->List Int->List (List Int)->List Int->List (List Int)->Option (Bool)
 | 0,_,_,_,_,_=>none
 | k + 1,x5,cm2,cm3,cy0,cm4=>if x5 < (cm2.length:Int) then(if 0<=x5 then(if x5 < (cy0.length:Int) then(if (rd cm2 x5)=(rd cy0 x5) then(F0.l1 k x5 0 cm2 cm3 cy0 cm4) else(some false)) else(none)) else(none)) else(some true)
def F0.l1:Nat->Int->Int->List Int->List (List Int)->List Int->List (List Int)->Option (Bool)
 | 0,_,_,_,_,_,_=>none
 | k + 1,x5,x6,cm2,cm3,cy0,cm4=>if x6 < (cm2.length:Int) then(if 0<=x5 then(if x5 < (cm3.length:Int) then(if 0<=x6 then(if x6 < ((Jb cm3 x5).length:Int) then(if x5 < (cm4.length:Int) then(if x6 < ((Jb cm4 x5).length:Int) then(if (rd (Jb cm3 x5) x6)=(rd (Jb cm4 x5) x6) then(F0.l1 k x5 (wrap64 (x6 + 1)) cm2 cm3 cy0 cm4) else(some false)) else(none)) else(none)) else(none)) else(none)) else(none)) else(none)) else(F0.l0 k (wrap64 (x5 + 1)) cm2 cm3 cy0 cm4)
end
def F0.f (k:Nat) (ab:List Int) (aa:List (List Int)) (cm:List Int) (cx:List (List Int)):Option (Bool):=F0.l0 k 0 ab aa cm cx
theorem ao4 {p:Prop} (h:p:=by repeat(first|(with_reducible first|exact HB.out|apply G3|apply G2|apply G1|refine G0 ?_ ft8.out|refine G0 ?_ ft9.out)|exact HB.out)):p:=h
set_option maxHeartbeats 8000000 in
set_option maxRecDepth 100000 in
theorem F0.calls (k:Nat) (ah:Option Addr) (af:Nat) (ab:List Int) (ao:Option Addr) (ai:Nat) (aa:List (List Int)) (ff:Option Addr) (fj:Nat) (cm:List Int) (fx:Option Addr) (fy:Nat) (cx:List (List Int)) (r:Bool) (w:World) (d4:Kd.C (Kd.int .i64) w ah ab.length ab) (d9:ab.length<=af) (d5:Kd.C (Kd.slice 3 (Kd.int .i64)) w ao aa.length aa) (ea:aa.length<=ai) (zt:Kd.C (Kd.int .i64) w ff cm.length cm) (zu:cm.length<=fj) (zv:Kd.C (Kd.slice 3 (Kd.int .i64)) w fx cx.length cx) (zw:cx.length<=fy) (h:F0.f k ab aa cm cx=some r) :
  Calls Try.prog 122 #[.agg #[.slice ah ab.length af, .slice ao aa.length ai], .agg #[.slice ff cm.length fj, .slice fx cx.length fy]] w fun e w'=>e = .returned (.bool r)/\Below w.heap.size w w':=by
 have hu25:=Try.underlying25
 have dp:=A_ d4
 have ec:=A_ d9
 clear d4 d9
 have df:=A_ d5
 have ee:=A_ ea
 clear d5 ea
 have ao5:=A_ zt
 have ba2:=A_ zu
 clear zt zu
 have ba3:=A_ zv
 have bm2:=A_ zw
 clear zv zw
 have HB:=A_ (Below.refl w.heap.size w)
 have H:(F0.l0 k 0 ab aa cm cx)=some r:=h
 clear h
 have H':=A_ H
 clear H
 go_enter Try.func122,Try.ntmps122
 iterate 2 (go_wp2_with (first|((with_reducible refine gd_ 2 ?_);refine bx_ (N:=2) #[.slice ah ab.length af, .slice ao aa.length ai] 25 ?_;intro za hg w3 hbox hb;have us:=A_ (hbox);have hm4:=A_ ((g30_:w.heap.size<=za));have ft8:=hm4;replace HB:=hs_ (ao4) hb;clear hb hbox hg)|((with_reducible refine gd_ 3 ?_);refine bx_ (N:=3) #[.slice ff cm.length fj, .slice fx cx.length fy] 25 ?_;intro ae6 hg w4 hbox hb;have aw4:=A_ (hbox);have hm5:=A_ ((g30_:w.heap.size<=ae6));have ft9:=hm5;replace HB:=hs_ (ao4) hb;have cc0:=nl_ us hg;have cc1:=nr_ us hg;replace us:=bb_ us hb;clear hb hbox hg));try(go_quiet (fail)))
 go_loopg [5] k (fun kq v5 w'=>∃(bj:Int),v5 = .int .i64 bj/\Gx (F0.l0 kq bj ab aa cm cx=some r)/\Gx (kq<=k)/\Gx (hc_ w' za #[(.slice ah ab.length af),(.slice ao aa.length ai)] 25)/\Gx (hc_ w' ae6 #[(.slice ff cm.length fj),(.slice fx cx.length fy)] 25)/\Gx (Below w.heap.size w w'))
 case atStart=>exact⟨(0),(g3_),H',⟨Nat.le_refl _⟩,⟨uB_ us⟩,⟨uB_ aw4⟩,⟨ao4⟩⟩
 clear H'
 obtain⟨bj,rfl,HA,HK1,us,aw4,HB⟩:=hrel
 cases gk with
 | zero=>exact absurd HA.out (by simp[F0.l0])
 | succ k1=>?_
 have H:=HA.out
 clear HA
 simp only[F0.l0] at H
 by_cases c5:bj < (ab.length:Int)
 case neg=>
  rw[if_neg c5] at H
  have j9:=decide_eq_false c5
  clear c5
  obtain rfl:=Option.some.inj H
  have ej0:=cc0.out
  have ej1:=cc1.out
  obtain⟨gx2,gx3,gx4,gx5⟩:=blk2_ us
  go_wp2
  repeat(go_quiet (fail);try go_wp2)
  go_ret
  exact⟨g4_,ao4⟩
 rw[if_pos c5] at H
 have j9:=decide_eq_true c5
 clear c5
 obtain⟨qu,H⟩:=pd_ H
 obtain⟨aa6,H⟩:=pd_ H
 by_cases c8:(rd ab bj)=(rd cm bj)
 case neg=>
  rw[if_neg c8] at H
  have ag8:((rd ab bj) == (rd cm bj))=false:=beq_eq_false_iff_ne.mpr c8
  have cc2:((rd ab bj) != (rd cm bj))=true:=bne_iff_ne.mpr c8
  obtain rfl:=Option.some.inj H
  have cw2:=cc0.out
  have cw3:=cc1.out
  obtain⟨eh9,ei0,ei1,ei2⟩:=blk2_ us
  obtain⟨⟨hm8,fu0,cy1⟩,cc3,cc4⟩:=rdp_ (Kd.at_int dp.out bj)
  cases fu0
  replace cy1:=cl_ HB cy1
  obtain⟨cg6,cg7,cg8,cg9⟩:=blk2_ aw4
  obtain⟨⟨hm9,fu1,cy2⟩,cc5,cc6⟩:=rdp_ (Kd.at_int ao5.out bj)
  cases fu1
  replace cy2:=cl_ HB cy2
  go_wp2
  repeat(go_quiet (fail);try go_wp2)
  go_ret
  exact⟨g4_,ao4⟩
 rw[if_pos c8] at H
 have ag8:((rd ab bj) == (rd cm bj))=true:=beq_iff_eq.mpr c8
 have cc2:((rd ab bj) != (rd cm bj))=false:=bne_eq_false_iff_eq.mpr c8
 clear c8
 have H':=A_ H
 clear H
 have hm6:=cc0.out
 have hm7:=cc1.out
 obtain⟨aj7,aj8,aj9,ak0⟩:=blk2_ us
 obtain⟨⟨hm8,fu0,cy1⟩,cc3,cc4⟩:=rdp_ (Kd.at_int dp.out bj)
 cases fu0
 replace cy1:=cl_ HB cy1
 obtain⟨au3,au4,au5,au6⟩:=blk2_ aw4
 obtain⟨⟨hm9,fu1,cy2⟩,cc5,cc6⟩:=rdp_ (Kd.at_int ao5.out bj)
 cases fu1
 replace cy2:=cl_ HB cy2
 go_wp2
 repeat(go_quiet (fail);try go_wp2)
 go_loopg [6] k1 (fun kq v6 w'=>∃(n7:Int),v6 = .int .i64 n7/\Gx (F0.l1 kq bj n7 ab aa cm cx=some r)/\Gx (kq<=k1)/\Gx (hc_ w' za #[(.slice (some hm8) ab.length af),(.slice ao aa.length ai)] 25)/\Gx (hc_ w' ae6 #[(.slice (some hm9) cm.length fj),(.slice fx cx.length fy)] 25)/\Gx (Below w.heap.size w w'))
 case atStart=>exact⟨(0),(g3_),H',⟨Nat.le_refl _⟩,⟨uB_ us⟩,⟨uB_ aw4⟩,⟨ao4⟩⟩
 clear H'
 obtain⟨n7,rfl,HA,HK2,us,aw4,HB⟩:=hrel
 cases gk with
 | zero=>exact absurd HA.out (by simp[F0.l1])
 | succ k2=>?_
 have H:=HA.out
 clear HA
 simp only[F0.l1] at H
 by_cases m9:n7 < (ab.length:Int)
 case neg=>
  rw[if_neg m9] at H
  have au7:=decide_eq_false m9
  clear m9
  have H':=A_ H
  clear H
  obtain⟨br4,br5,br6,br7⟩:=blk2_ us
  go_wp2
  repeat(go_quiet (fail);try go_wp2)
  go_roundg k2
  case measure=>have:=HK1.out;have:=HK2.out;omega
  case rel=>exact⟨(wrap64 (bj + 1)),(g3_),H',⟨g29_⟩,⟨uB_ us⟩,⟨uB_ aw4⟩,⟨ao4⟩⟩
 rw[if_pos m9] at H
 have au7:=decide_eq_true m9
 clear m9
 obtain⟨cw9,H⟩:=pd_ H
 obtain⟨ak2,H⟩:=pd_ H
 obtain⟨qv,H⟩:=pd_ H
 obtain⟨ag0,H⟩:=pd_ H
 obtain⟨ad6,H⟩:=pd_ H
 obtain⟨bc9,H⟩:=pd_ H
 by_cases f9:(rd (Jb aa bj) n7)=(rd (Jb cx bj) n7)
 ·rw[if_pos f9] at H
  have ve:((rd (Jb aa bj) n7) == (rd (Jb cx bj) n7))=true:=beq_iff_eq.mpr f9
  have ap1:((rd (Jb aa bj) n7) != (rd (Jb cx bj) n7))=false:=bne_eq_false_iff_eq.mpr f9
  clear f9
  have H':=A_ H
  clear H
  obtain⟨aa2,aa3,ad7,aa4⟩:=blk2_ us
  obtain⟨⟨jw5,jw6,jw7,fu2,ds6,ds7,ds8⟩,cm5,cm6⟩:=rdp_ (at_L1 df.out bj)
  cases fu2
  replace ds6:=cl_ HB ds6
  have fu3:=A_ ds8
  have jw8:=A_ ds7
  clear ds8 ds7
  obtain⟨⟨jw9,fu4,ds9⟩,cm7,cm8⟩:=rdp_ (Kd.at_int fu3.out n7)
  cases fu4
  replace ds9:=cl_ HB ds9
  obtain⟨ap2,ap3,ap4,ap5⟩:=blk2_ aw4
  obtain⟨⟨jx0,jx1,jx2,fu5,dt0,dt1,dt2⟩,cm9,cn0⟩:=rdp_ (at_L1 ba3.out bj)
  cases fu5
  replace dt0:=cl_ HB dt0
  have fu6:=A_ dt2
  have jx3:=A_ dt1
  clear dt2 dt1
  obtain⟨⟨eq5,dt3,be1⟩,aw5,aw6⟩:=rdp_ (Kd.at_int fu6.out n7)
  cases dt3
  replace be1:=cl_ HB be1
  go_wp2
  repeat(go_quiet (fail);try go_wp2)
  go_roundg k2
  case measure=>have:=HK1.out;have:=HK2.out;omega
  case rel=>exact⟨(wrap64 (n7 + 1)),(g3_),H',⟨g29_⟩,⟨uB_ us⟩,⟨uB_ aw4⟩,⟨ao4⟩⟩
 rw[if_neg f9] at H
 have ve:((rd (Jb aa bj) n7) == (rd (Jb cx bj) n7))=false:=beq_eq_false_iff_ne.mpr f9
 have ap1:((rd (Jb aa bj) n7) != (rd (Jb cx bj) n7))=true:=bne_iff_ne.mpr f9
 obtain rfl:=Option.some.inj H
 obtain⟨fe7,fe8,fe9,ff0⟩:=blk2_ us
 obtain⟨⟨jw5,jw6,jw7,fu2,ds6,ds7,ds8⟩,cm5,cm6⟩:=rdp_ (at_L1 df.out bj)
 cases fu2
 replace ds6:=cl_ HB ds6
 have fu3:=A_ ds8
 have jw8:=A_ ds7
 clear ds8 ds7
 obtain⟨⟨jw9,fu4,ds9⟩,cm7,cm8⟩:=rdp_ (Kd.at_int fu3.out n7)
 cases fu4
 replace ds9:=cl_ HB ds9
 obtain⟨eg2,eg3,eg4,eg5⟩:=blk2_ aw4
 obtain⟨⟨jx0,jx1,jx2,fu5,dt0,dt1,dt2⟩,cm9,cn0⟩:=rdp_ (at_L1 ba3.out bj)
 cases fu5
 replace dt0:=cl_ HB dt0
 have fu6:=A_ dt2
 have jx3:=A_ dt1
 clear dt2 dt1
 obtain⟨⟨eq5,dt3,be1⟩,aw5,aw6⟩:=rdp_ (Kd.at_int fu6.out n7)
 cases dt3
 replace be1:=cl_ HB be1
 go_wp2
 repeat(go_quiet (fail);try go_wp2)
 go_ret
 exact⟨g4_,ao4⟩
attribute [local go_sem high] eqA69
mutual
def Fu.j0:Nat->Int->Bool->List Int->List (List Int)->Int->Int->Int->Int->List Int->List (List Int)->Option (List Int × (List (List Int)) × Bool)
 | 0,_,_,_,_,_,_,_,_,_,_=>none
 | k + 1,x6,x14,aw7,aw8,br8,zb,ar4,be2,bj9,aw9=>if x14=true then(if 0<=zb then(if zb < (bj9.length:Int) then((some (bj9.set (zb:Int).toNat be2:List Int)).bind fun bk0=>((F0.f k bk0 aw9 aw7 aw8).bind fun dt4=>(some (bk0,aw9, !dt4)))) else(none)) else(none)) else(if br8=1 then((F8.f zb 0 (wrap64 (x6 - 1))).bind fun fu7=>(if fu7=true then((F8.f ar4 0 (wrap64 (x6 - 1))).bind fun fu8=>(if fu8=true then(if zb=ar4 then(Fu.j1 k false aw7 aw8 br8 zb ar4 be2 bj9 aw9) else((F8.f be2 0 9).bind fun eq8=>(Fu.j1 k eq8 aw7 aw8 br8 zb ar4 be2 bj9 aw9))) else(Fu.j1 k false aw7 aw8 br8 zb ar4 be2 bj9 aw9))) else(Fu.j1 k false aw7 aw8 br8 zb ar4 be2 bj9 aw9))) else(Fu.j1 k false aw7 aw8 br8 zb ar4 be2 bj9 aw9))
def Fu.j1:Nat->Bool->List Int->List (List Int)->Int->Int->Int->Int->List Int->List (List Int)->Option (List Int × (List (List Int)) × Bool)
 | 0,_,_,_,_,_,_,_,_,_=>none
 | k + 1,x42,aw7,aw8,br8,zb,ar4,be2,bj9,aw9=>if x42=true then(if 0<=zb then(if zb < (aw9.length:Int) then(if 0<=ar4 then(if ar4 < ((Jb aw9 zb).length:Int) then((some (aw9.set (zb:Int).toNat ((Jb aw9 zb).set (ar4:Int).toNat be2):List (List Int))).bind fun ar5=>((F0.f k bj9 ar5 aw7 aw8).bind fun cn1=>(some (bj9,ar5, !cn1)))) else(none)) else(none)) else(none)) else(none)) else(if (br8 == 2 && (zb == 0 && (ar4 == 0 && (be2 == 0))))=true then((Fk.f k aw7 aw8).bind fun bt320=>((F0.f k bt320.1 bt320.2 aw7 aw8).bind fun fu9=>(some (bt320.1,bt320.2, !fu9)))) else(if (br8 == 3 && (zb == 0 && (ar4 == 0 && (be2 == 0))))=true then((Fc.f k aw7 aw8).bind fun bt327=>((F0.f k bt327.1 bt327.2.1 aw7 aw8).bind fun fv0=>(some (bt327.1,bt327.2.1, !fv0)))) else(some (([]:List Int),([]:List (List Int)),false))))
end
def Fu.f (k:Nat) (ab:List Int) (aa:List (List Int)) (b4:Int) (bk:Int) (bn:Int) (bw:Int):Option (List Int × (List (List Int)) × Bool):=(Fv.f k ab aa).bind fun bt301=>(if b4=0 then((F8.f bk 0 (wrap64 ((ab.length:Int) - 1))).bind fun dt5=>(if dt5=true then(if bn=0 then((F8.f bw 0 20).bind fun cy3=>(Fu.j0 k (ab.length:Int) cy3 ab aa b4 bk bn bw bt301.1 bt301.2)) else(Fu.j0 k (ab.length:Int) false ab aa b4 bk bn bw bt301.1 bt301.2)) else(Fu.j0 k (ab.length:Int) false ab aa b4 bk bn bw bt301.1 bt301.2))) else(Fu.j0 k (ab.length:Int) false ab aa b4 bk bn bw bt301.1 bt301.2))
def Fu.T7:Bool × List (List Nat × List Nat):=(true,[([],[]),([0],[0]),([],[]),([2],[2]),([1,3],[1,3]),([4],[4]),([],[]),([6],[6]),([],[]),([8],[8]),([5,7,0,1,2,3,4,5,6,7,8,9],[5,7]),([10,9,0,1,2,3,4,5,6,7,8,9],[9,10])])
def Fu.B7:List Nat:=[0,1,0,4,15,31,0,64,0,256,1023,2047]
theorem Fu.tab7:rtab .any (opsOf Try.f101 7)=Fu.T7:=by kernel_rfl
theorem Fu.bits7:waitsOk Fu.T7.2 Fu.B7=true:=by kernel_rfl
theorem ns {p:Prop} (h:p:=by repeat(first|(with_reducible first|exact HB.out|apply G3|apply G2|apply G1|refine G0 ?_ jx4.out|refine G0 ?_ jx5.out|refine G0 ?_ jx6.out|refine G0 ?_ jx7.out|refine G0 ?_ GB91.out)|exact HB.out)):p:=h
set_option maxHeartbeats 8000000 in
set_option maxRecDepth 100000 in
theorem Fu.calls (k:Nat) (ah:Option Addr) (af:Nat) (ab:List Int) (ao:Option Addr) (ai:Nat) (aa:List (List Int)) (b4:Int) (bk:Int) (bn:Int) (bw:Int) (r1:List Int) (r2:List (List Int)) (r3:Bool) (w:World) (d4:Kd.C (Kd.int .i64) w ah ab.length ab) (d9:ab.length<=af) (d5:Kd.C (Kd.slice 3 (Kd.int .i64)) w ao aa.length aa) (ea:aa.length<=ai) (h:Fu.f k ab aa b4 bk bn bw=some (r1,r2,r3)) :
  Calls Try.prog 101 #[.agg #[.slice ah ab.length af, .slice ao aa.length ai], .agg #[.int .i64 b4, .int .i64 bk, .int .i64 bn, .int .i64 bw]] w fun e w'=>∃v0_ v1_:Value,e = .returned (.tuple #[.agg #[v0_,v1_], .bool r3])/\Kd.R (Kd.int .i64) 3 w' w.heap.size (fun _=>True) v0_ r1/\Kd.S (Kd.slice 3 (Kd.int .i64)) 22 w' w.heap.size (fun k_=>some k_≠(v0_:Value).ownBlock) v1_ r2/\Below w.heap.size w w':=by
 have hu25:=Try.underlying25
 have hu69:=Try.underlying69
 have dp:=A_ d4
 have ec:=A_ d9
 clear d4 d9
 have df:=A_ d5
 have ee:=A_ ea
 clear d5 ea
 have HB:=A_ (Below.refl w.heap.size w)
 have H:=h
 unfold Fu.f at H
 clear h
 replace H:=Option.bind_eq_some_iff.mp H
 obtain⟨⟨gr,i5⟩,nu,H⟩:=H
 try dsimp only at H
 have A3:=A_ nu
 clear nu
 have HC4:=A_ H
 clear H
 go_enter Try.func101,Try.ntmps101
 go_upto_region 4 with(first|((with_reducible refine gd_ 2 ?_);refine bx_ (N:=2) #[.slice ah ab.length af, .slice ao aa.length ai] 25 ?_;intro te hg w5 hbox hb;have gc:=A_ (hbox);have ml3:=A_ ((g46_:w.heap.size<=te));have jx4:=ml3;replace HB:=hs_ (ns) hb;clear hb hbox hg)|((with_reducible refine gd_ 3 ?_);refine bx_ (N:=3) #[.int .i64 b4, .int .i64 bk, .int .i64 bn, .int .i64 bw] 69 ?_;intro ut hg w6 hbox hb;have gg:=A_ (hbox);have ml4:=A_ ((g46_:w.heap.size<=ut));have jx5:=ml4;replace HB:=hs_ (ns) hb;have al4:=nl_ gc hg;have al5:=nr_ gc hg;replace gc:=bb_ gc hb;clear hb hbox hg)|((with_reducible refine gd_ 4 ?_);refine bx_ (N:=4) #[.slice none 0 0, .slice none 0 0] 25 ?_;intro kd hg w7 hbox hb;have fd:=A_ (hbox);have ml5:=A_ ((g46_:w.heap.size<=kd));have jx6:=ml5;replace HB:=hs_ (ns) hb;have qm:=nl_ gc hg;have ax0:=nr_ gc hg;replace gc:=bb_ gc hb;have vm:=nl_ gg hg;have vn:=nr_ gg hg;replace gg:=bb_ gg hb;clear hb hbox hg;have ef6:=al4.out;have ef7:=al5.out;have hm6:=qm.out;have hm7:=ax0.out;obtain⟨aj7,aj8,aj9,ak0⟩:=blk2_ gc)|((with_reducible refine gc_ 80 ?_);refine gl_ 12 Try.func80 #[.agg #[.slice ah ab.length af, .slice ao aa.length ai]] ?_;(refine(Fv.calls k _ _ ab _ _ aa gr i5 _ (uC_ dp) ec.out (uC_ df) ee.out A3.out).mono ?_);rintro e w11 ⟨ft7,jv8,rfl,ae,ax,hb⟩;refine⟨_,rfl,?_⟩;have bj7:=A_ (Kd.R_lower ae (Gz (ns)));have cm1:=A_ (Kd.S_lower ax (Gz (ns)));replace gc:=bb_ gc hb;replace gg:=bb_ gg hb;replace fd:=bb_ fd hb;replace HB:=hs_ (ns) hb)|((with_reducible refine gd_ 7 ?_);refine bx_ (N:=7) #[.slice none 0 0, .slice none 0 0] 25 ?_;intro e8 hg w12 hbox hb;replace bj7:=rb_ bj7 hb;replace cm1:=sb_ cm1 hb;have fk:=A_ (hbox);have ml6:=A_ ((g46_:w.heap.size<=e8));have jx7:=ml6;replace HB:=hs_ (ns) hb;have cy4:=nl_ gc hg;have eq9:=nr_ gc hg;replace gc:=bb_ gc hb;have ae7:=nl_ gg hg;have al6:=nr_ gg hg;replace gg:=bb_ gg hb;have ah2:=nl_ fd hg;have pu:=nr_ fd hg;replace fd:=bb_ fd hb;clear hb hbox hg;obtain⟨dz,de,bc8⟩:=Kd.R_slice bj7.out;subst bc8;have eg0:=eq9.out;have eg1:=cy4.out;have cw5:=al6.out;have cw6:=ae7.out;have er0:=pu.out;have er1:=ah2.out;obtain⟨fv1,fv2,fv3,fv4⟩:=blk2_ fk;obtain⟨ix,g6,dt6⟩:=Kd.S_slice cm1.out;subst dt6))
 (try simp only[Act.put,List.setIfInBounds_toArray,List.set_cons_zero,List.set_cons_succ])
 go_cut [14] (fun v14 wc=>∃(kq:Nat) (er2:Bool),v14 = .bool er2/\Gx (Fu.j0 kq (ab.length:Int) er2 ab aa b4 bk bn bw gr i5=some (r1,r2,r3))/\Gx (kq<=k)/\Gx (Kd.R (Kd.int .i64) 3 wc w.heap.size (fun _=>True) (.slice dz gr.length de) gr)/\Gx (Kd.S (Kd.slice 3 (Kd.int .i64)) 22 wc w.heap.size (fun k_=>some k_≠((.slice dz gr.length de):Value).ownBlock) (.slice ix i5.length g6) i5)/\Gx (hc_ wc te #[(.slice ah ab.length af),(.slice ao aa.length ai)] 25)/\Gx (hc_ wc ut #[.int .i64 b4, .int .i64 bk, .int .i64 bn, .int .i64 bw] 69)/\Gx (hc_ wc kd #[(.slice none 0 0),(.slice none 0 0)] 25)/\Gx (hc_ wc e8 #[(.slice dz gr.length de),(.slice ix i5.length g6)] 25)/\Gx (Below w.heap.size w wc))
 case first=>
  have H:=HC4.out
  clear HC4
  by_cases f9:b4=0
  case neg=>
   rw[if_neg f9] at H
   have ve:(b4 == 0)=false:=beq_eq_false_iff_ne.mpr f9
   have ap1:(b4 != 0)=true:=bne_iff_ne.mpr f9
   (first|rw[ve]|(simp only[i64_w,i32_w];rw[ve])|skip)
   have H':=A_ H
   clear H
   have er5:=al5.out
   have er6:=al4.out
   have hn7:=vm.out
   have hn8:=vn.out
   have jx8:=ae7.out
   have jx9:=al6.out
   obtain⟨hn9,ho4,ho7,ho8,hp8,hp9,hq0,hq1⟩:=blk4_ gg
   go_wp2
   go_meet
   case rel=>exact⟨_,(false),(g3_),H',⟨g9_⟩,⟨ra_ bj7⟩,⟨sa_ cm1⟩,⟨ba_ gc⟩,⟨ba_ gg⟩,⟨ba_ fd⟩,⟨ba_ fk⟩,⟨ns⟩⟩
  rw[if_pos f9] at H
  have ve:(b4 == 0)=true:=beq_iff_eq.mpr f9
  have ap1:(b4 != 0)=false:=bne_eq_false_iff_eq.mpr f9
  clear f9
  (first|rw[ve]|(simp only[i64_w,i32_w];rw[ve])|skip)
  obtain⟨dt5,yv,H⟩:=bind_ H
  by_cases og:dt5=true
  case neg=>
   replace og:=Bool.eq_false_iff.mpr og
   subst og
   replace H:=ifn_ H
   have H':=A_ H
   clear H
   have cb8:=al5.out
   have cb9:=al4.out
   have bo5:=vm.out
   have bo6:=vn.out
   have cy5:=ae7.out
   have cy6:=al6.out
   obtain⟨bi2,bi3,br9,er3,bi4,bi5,bs0,er4⟩:=blk4_ gg
   go_wp2_with (first|(go_at_call 65;(with_reducible refine(F8.calls bk 0 (wrap64 ((ab.length:Int) - 1)) false _ yv.out).mono ?_);rintro e w' ⟨rfl,⟨nd,rfl⟩⟩))
   go_meet
   case rel=>exact⟨_,(false),(g3_),H',⟨g9_⟩,⟨ra_ bj7⟩,⟨sa_ cm1⟩,⟨ba_ gc⟩,⟨ba_ gg⟩,⟨ba_ fd⟩,⟨ba_ fk⟩,⟨ns⟩⟩
  subst og
  replace H:=ifp_ H
  by_cases lj:bn=0
  ·rw[if_pos lj] at H
   have bc0:(bn == 0)=true:=beq_iff_eq.mpr lj
   have fv5:(bn != 0)=false:=bne_eq_false_iff_eq.mpr lj
   clear lj
   obtain⟨cy3,A23,H⟩:=bind_ H
   have H':=A_ H
   clear H
   have hn0:=al5.out
   have hn2:=al4.out
   have fv6:=vm.out
   have fv7:=vn.out
   have eq6:=ae7.out
   have eq7:=al6.out
   obtain⟨br4,br5,dt7,hn3,br6,br7,dt8,hn4⟩:=blk4_ gg
   have MK65_0:=True.intro
   go_wp2_with (first|(clear MK65_0;go_at_call 65;(with_reducible refine(F8.calls bk 0 (wrap64 ((ab.length:Int) - 1)) true _ yv.out).mono ?_);rintro e w' ⟨rfl,⟨nd,rfl⟩⟩)|(go_at_call 65;(with_reducible refine(F8.calls bw 0 20 cy3 _ A23.out).mono ?_);rintro e w' ⟨rfl,⟨nd,rfl⟩⟩))
   go_meet
   case rel=>exact⟨_,(cy3),(g3_),H',⟨g9_⟩,⟨ra_ bj7⟩,⟨sa_ cm1⟩,⟨ba_ gc⟩,⟨ba_ gg⟩,⟨ba_ fd⟩,⟨ba_ fk⟩,⟨ns⟩⟩
  rw[if_neg lj] at H
  have bc0:(bn == 0)=false:=beq_eq_false_iff_ne.mpr lj
  have fv5:(bn != 0)=true:=bne_iff_ne.mpr lj
  have H':=A_ H
  clear H
  have cw2:=al5.out
  have cw3:=al4.out
  have cu9:=vm.out
  have cv0:=vn.out
  have fj4:=ae7.out
  have fj5:=al6.out
  obtain⟨ch0,ch1,dh6,hn5,ch2,ch3,dh7,hn6⟩:=blk4_ gg
  go_wp2_with (first|(go_at_call 65;(with_reducible refine(F8.calls bk 0 (wrap64 ((ab.length:Int) - 1)) true _ yv.out).mono ?_);rintro e w' ⟨rfl,⟨nd,rfl⟩⟩))
  go_meet
  case rel=>exact⟨_,(false),(g3_),H',⟨g9_⟩,⟨ra_ bj7⟩,⟨sa_ cm1⟩,⟨ba_ gc⟩,⟨ba_ gg⟩,⟨ba_ fd⟩,⟨ba_ fk⟩,⟨ns⟩⟩
 clear HC4
 obtain⟨kq,er2,rfl,HA,HJ3,hf,ik,gc,gg,fd,fk,HB⟩:=hcut
 cases kq with
 | zero=>exact absurd HA.out (by simp[Fu.j0])
 | succ kj3=>?_
 have H:=HA.out
 clear HA
 simp only[Fu.j0] at H
 by_cases c40:er2=true
 ·subst c40
  replace H:=ifp_ H
  obtain⟨ca6,H⟩:=pd_ H
  obtain⟨jy0,H⟩:=pd_ H
  obtain⟨bk0,hyq⟩:∃y_:List Int,y_=(gr.set (bk:Int).toNat bw):=⟨_,rfl⟩
  replace H:((F0.f kj3 bk0 i5 ab aa).bind fun dt4=>(some (bk0,i5, !dt4)))=some (r1,r2,r3):=qh_
  have jy1:=A_ hyq
  clear hyq
  obtain⟨dt4,A44,H⟩:=bind_ H
  simp only[Option.some.injEq,Prod.mk.injEq] at H
  obtain⟨rfl,rfl,rfl⟩:=H
  have dn8:=eq9.out
  have dn9:=cy4.out
  have el7:=al6.out
  have el8:=ae7.out
  have eq3:=pu.out
  have eq4:=ah2.out
  obtain⟨ds2,ds3,ds4,ds5⟩:=blk2_ fk
  have er7:=al5.out
  have er8:=al4.out
  have er9:=vm.out
  have es0:=vn.out
  obtain⟨bp3,bp4,cn2,cy7,bp5,bp6,cn3,cy8⟩:=blk4_ gg
  have p43:0<=(bk:Int):=od_
  have q43:(bk:Int) < ((gr.length:Int):Int):=od_
  obtain⟨ax1,pc,bj8,hq2,gl43,cl43,HG43⟩:=Kd.R_form hf.out (by omega)
  (first|cases bj8|(injection bj8 with ea_ en_ ec_;(first|subst ea_|(injection ea_ with ea_;subst ea_));subst ec_;clear en_))
  have GB43:=A_ hq2
  have GG43:=A_ HG43
  clear hq2 gl43 HG43
  obtain⟨jy2,hf43_0⟩:=Kd.R_celln 0 hf.out (bk:Int) p43 q43
  replace p43:=eq_true p43
  replace q43:=eq_true q43
  have HP52:=Kd.R_putg hf.out (bk:Int) bw
  try go_wp2_with (first|((with_reducible refine gate_store (t:=3) (p:=41) rfl ?_);refine store_event (t:=3) (p:=41) (v:=?vo_w53) (w1:=(wc.setCell ⟨ax1,(bk:Int).toNat,none⟩ (.int .i64 bw))) ?hg ?ho ?hn ?hr ?_;(case ho=>rfl);(case hg=>rfl);(case hn=>rfl);(case hr=>first|(go_simp;done)|(go_simp;rfl));intro w53 hw;have hg:wc.grownBy w53 (some ax1):=(by rw[hw];exact HP52.2);have hp_:Kd.R (Kd.int .i64) 3 w53 w.heap.size (fun _=>True) (.slice (some ⟨ax1,0,none⟩) gr.length de) bk0:=(by rw[hw,jy1.out];exact HP52.1);clear HP52;replace ik:=A_ (Kd.S_after (v:=(.slice (some ⟨ax1,0,none⟩) gr.length de)) (v1:=(.slice (some ⟨ax1,0,none⟩) gr.length de)) (ok:=(fun _=>True)) (yS_ ik (fun _ hk=>⟨trivial,hk⟩)) hg (.inl rfl));replace gc:=(bg_ gc hg (Kd.R_ne hf.out gc.out (by decide)));replace gg:=(bg_ gg hg (Kd.R_ne hf.out gg.out (by decide)));replace fd:=(bg_ fd hg (Kd.R_ne hf.out fd.out (by decide)));replace fk:=(bg_ fk hg (Kd.R_ne hf.out fk.out (by decide)));replace hf:=A_ (hp_);replace HB:=A_ ((by rw[hw];exact G0 (HB.out) GB43.out:Below w.heap.size w w53));clear hg hw hp_))
  replace hf:=rd_ hf
  replace ik:=sd_ ik
  replace gc:=bd_ gc
  replace gg:=bd_ gg
  replace fd:=bd_ fd
  replace fk:=bd_ fk
  replace HB:=A_ (G1 HB.out)
  refine start_ (n:=7) (S:=fun w'=>w'.cell? ⟨e8,0,none⟩=some (.slice (some ⟨ax1,0,none⟩) gr.length de)/\w'.cell? ⟨e8,1,none⟩=some (.slice ix i5.length g6)/\w'.cell? ⟨te,0,none⟩=some (.slice ah ab.length af)/\w'.cell? ⟨te,1,none⟩=some (.slice ao aa.length ai)) (ds:=[]) (tl_ 7 0) (g0_) rfl (g0_) ⟨(Gy fk.out 0).trans rfl,(Gy fk.out 1).trans rfl,(Gy gc.out 0).trans rfl,(Gy gc.out 1).trans rfl⟩ (fun hHeld=>?_)
  generalize w53.drew=w54 at hf ik gc gg fd fk HB hHeld |-
  refine take_ (i:=0) (N:=some 98) (v:=?_) (a':=?_) (tl_ 7 1) rfl rfl (g0_) (fun _ _ _ h=>h) (Or.inl ⟨by rfl,?_⟩) hHeld ?_ ?_
  rotate_left
  ·rintro w' ⟨s0,s1,s2,s3⟩
   go_simp
   with_reducible rfl
  rotate_left
  · exact sp_
  refine take_ (i:=1) (N:=some 99) (v:=?_) (a':=?_) (tl_ 7 3) rfl rfl (g0_) (fun _ _ _ h=>h) (Or.inl ⟨by rfl,?_⟩) hHeld ?_ ?_
  rotate_left
  ·rintro w' ⟨s0,s1,s2,s3⟩
   go_simp
   with_reducible rfl
  rotate_left
  · exact sp_
  refine take_ (i:=2) (N:=some 100) (v:=?_) (a':=?_) (tl_ 7 7) rfl rfl (g0_) (fun _ _ _ h=>h) (Or.inl ⟨by rfl,?_⟩) hHeld ?_ ?_
  rotate_left
  ·rintro w' ⟨s0,s1,s2,s3⟩
   go_simp
   with_reducible rfl
  rotate_left
  · exact sp_
  refine one_ (i:=3) (N:=some 101) (tl_ 7 15) rfl rfl (g0_) (by decide) (fun K hK=>?_)
  refine goes_ Try.func122 (g0_) rfl #[.agg #[.slice (some ⟨ax1,0,none⟩) bk0.length de, .slice ix i5.length g6], .agg #[.slice ah ab.length af, .slice ao aa.length ai]] (by rfl) rfl rfl (by(try simp only[List.map_toArray,List.map_cons,List.map_nil]);first|done|(rw[show bk0.length=gr.length from(Kd.R_reads' hf.out).1.symm] <;> rfl)|rfl|(simp only[List.length_drop,List.length_take];rfl)) ?_
  with_reducible refine(F0.calls kj3 _ _ bk0 _ _ i5 _ _ ab _ _ aa dt4 _ ?side1 ?side2 ?side3 ?side4 ?side5 ?side6 ?side7 ?side8 A44.out).mono ?_
  (case side1=>exact cR_ hf)
  (case side2=>rw[show bk0.length=gr.length from(Kd.R_reads' hf.out).1.symm];exact(Kd.R_reads' hf.out).2.1)
  (case side3=>exact cS_ ik)
  (case side4=>exact lS_ ik)
  (case side5=>exact uC_ dp)
  (case side6=>exact ec.out)
  (case side7=>exact uC_ df)
  (case side8=>exact ee.out)
  rintro e w55 ⟨rfl,hb⟩
  refine⟨_,rfl,?_⟩
  replace hf:=rb_ hf hb
  replace ik:=sb_ ik hb
  replace gc:=bb_ gc hb
  replace gg:=bb_ gg hb
  replace fd:=bb_ fd hb
  replace fk:=bb_ fk hb
  replace HB:=hs_ (ns) hb
  refine hK.out _ _ ⟨(Gy fk.out 0).trans rfl,(Gy fk.out 1).trans rfl,(Gy gc.out 0).trans rfl,(Gy gc.out 1).trans rfl⟩ (fun hHeld=>?_)
  clear hK K
  refine nm_ ?_
  refine pure_ (i:=4) (N:=some 102) (v:=?_) (a':=?_) (tl_ 7 31) rfl rfl (g0_) (fun _ _ _ h=>h) (Or.inl ⟨by rfl,?_⟩) ?_ ?_
  rotate_left
  ·intro w'
   go_simp
   with_reducible rfl
  rotate_left
  · exact sp_
  refine one_ (i:=5) (N:=none) (tl_ 7 63) rfl rfl (g0_) (by decide) (fun K hK=>?_)
  have jy3:w55.cell? ⟨kd,0,none⟩=some (.slice none 0 0):=(Gy fd.out 0).trans rfl
  have jy4:=G7 fd.out 0
  have jy5:=qm.out
  have jy8:=ax0.out
  have ml7:w55.cell? ⟨kd,1,none⟩=some (.slice none 0 0):=(Gy fd.out 1).trans rfl
  have ml8:=G7 fd.out 1
  refine skip_ (w1:=?_) (by rfl) rfl ?_ ?_
  rotate_left
  ·go_simp
   rfl
  refine hK.out _ _ ⟨(cf_ pu ((cf_ pu (hHeld.1)))),(cf_ pu ((cf_ pu (hHeld.2.1)))),(cf_ qm ((cf_ qm (hHeld.2.2.1)))),(cf_ qm ((cf_ qm (hHeld.2.2.2))))⟩ (fun hHeld=>?_)
  clear hK K
  refine pure_ (i:=6) (N:=some 5) (v:=?_) (a':=?_) (tl_ 7 127) rfl rfl (g0_) (fun _ _ _ h=>h) (Or.inl ⟨by rfl,?_⟩) ?_ ?_
  rotate_left
  ·intro w'
   go_simp
   with_reducible rfl
  rotate_left
  · exact sp_
  refine done_ (g0_) ?_
  try go_wp2
  refine bodyPost_ret (Jm rfl _ _ kd 25 #[.slice (some ⟨ax1,0,none⟩) gr.length de, .slice ix i5.length g6] (0,0) _ rfl (ba_ fd) Try.underlying25 rfl (g0_)) rfl ?_
  exact⟨_,_,g4_,ra_ hf,sa_ ik,ns⟩
 replace c40:=Bool.eq_false_iff.mpr c40
 subst c40
 replace H:=ifn_ H
 have cn4:=A_ H
 clear H
 go_upto_region 6 with(fail)
 go_cut [42] (fun v42 wc=>∃(kq:Nat) (es1:Bool),v42 = .bool es1/\Gx (Fu.j1 kq es1 ab aa b4 bk bn bw gr i5=some (r1,r2,r3))/\Gx (kq<=kj3)/\Gx (Kd.R (Kd.int .i64) 3 wc w.heap.size (fun _=>True) (.slice dz gr.length de) gr)/\Gx (Kd.S (Kd.slice 3 (Kd.int .i64)) 22 wc w.heap.size (fun k_=>some k_≠((.slice dz gr.length de):Value).ownBlock) (.slice ix i5.length g6) i5)/\Gx (hc_ wc te #[(.slice ah ab.length af),(.slice ao aa.length ai)] 25)/\Gx (hc_ wc ut #[.int .i64 b4, .int .i64 bk, .int .i64 bn, .int .i64 bw] 69)/\Gx (hc_ wc kd #[(.slice none 0 0),(.slice none 0 0)] 25)/\Gx (hc_ wc e8 #[(.slice dz gr.length de),(.slice ix i5.length g6)] 25)/\Gx (Below w.heap.size w wc))
 case first=>
  have H:=cn4.out
  clear cn4
  by_cases c59:b4=1
  case neg=>
   rw[if_neg c59] at H
   have cy9:(b4 == 1)=false:=beq_eq_false_iff_ne.mpr c59
   have hq3:(b4 != 1)=true:=bne_iff_ne.mpr c59
   (first|rw[cy9]|(simp only[i64_w,i32_w];rw[cy9])|skip)
   have H':=A_ H
   clear H
   have fw4:=al5.out
   have fw5:=al4.out
   have hr5:=vm.out
   have hr6:=vn.out
   have kc3:=ae7.out
   have kc4:=al6.out
   obtain⟨hr7,hr8,hr9,kc5,hs1,hs2,hs3,kc6⟩:=blk4_ gg
   go_wp2
   go_meet
   case rel=>exact⟨_,(false),(g3_),H',⟨g126_⟩,⟨uR_ hf⟩,⟨uS_ ik⟩,⟨uB_ gc⟩,⟨uB_ gg⟩,⟨uB_ fd⟩,⟨uB_ fk⟩,⟨ns⟩⟩
  rw[if_pos c59] at H
  have cy9:(b4 == 1)=true:=beq_iff_eq.mpr c59
  have hq3:(b4 != 1)=false:=bne_eq_false_iff_eq.mpr c59
  clear c59
  (first|rw[cy9]|(simp only[i64_w,i32_w];rw[cy9])|skip)
  obtain⟨fu7,A60,H⟩:=bind_ H
  by_cases c61:fu7=true
  case neg=>
   replace c61:=Bool.eq_false_iff.mpr c61
   subst c61
   replace H:=ifn_ H
   have H':=A_ H
   clear H
   have kb3:=al5.out
   have kb4:=al4.out
   have hq8:=vm.out
   have hq9:=vn.out
   have hr3:=ae7.out
   have hr4:=al6.out
   obtain⟨kb5,kb6,kb7,kb8,kb9,kc0,kc1,kc2⟩:=blk4_ gg
   go_wp2_with (first|(go_at_call 65;(with_reducible refine(F8.calls bk 0 (wrap64 ((ab.length:Int) - 1)) false _ A60.out).mono ?_);rintro e w' ⟨rfl,⟨nd,rfl⟩⟩))
   go_meet
   case rel=>exact⟨_,(false),(g3_),H',⟨g126_⟩,⟨uR_ hf⟩,⟨uS_ ik⟩,⟨uB_ gc⟩,⟨uB_ gg⟩,⟨uB_ fd⟩,⟨uB_ fk⟩,⟨ns⟩⟩
  subst c61
  replace H:=ifp_ H
  obtain⟨fu8,A62,H⟩:=bind_ H
  by_cases c63:fu8=true
  case neg=>
   replace c63:=Bool.eq_false_iff.mpr c63
   subst c63
   replace H:=ifn_ H
   have H':=A_ H
   clear H
   have es2:=al5.out
   have es3:=al4.out
   have ka3:=vm.out
   have ka4:=vn.out
   have mm7:=ae7.out
   have mm8:=al6.out
   obtain⟨ka5,ka6,ka7,ka8,ka9,kb0,kb1,kb2⟩:=blk4_ gg
   have MK65_0:=True.intro
   go_wp2_with (first|(clear MK65_0;go_at_call 65;(with_reducible refine(F8.calls bk 0 (wrap64 ((ab.length:Int) - 1)) true _ A60.out).mono ?_);rintro e w' ⟨rfl,⟨nd,rfl⟩⟩)|(go_at_call 65;(with_reducible refine(F8.calls bn 0 (wrap64 ((ab.length:Int) - 1)) false _ A62.out).mono ?_);rintro e w' ⟨rfl,⟨nd,rfl⟩⟩))
   go_meet
   case rel=>exact⟨_,(false),(g3_),H',⟨g126_⟩,⟨uR_ hf⟩,⟨uS_ ik⟩,⟨uB_ gc⟩,⟨uB_ gg⟩,⟨uB_ fd⟩,⟨uB_ fk⟩,⟨ns⟩⟩
  subst c63
  replace H:=ifp_ H
  by_cases c64:bk=bn
  ·rw[if_pos c64] at H
   have hq4:(bk == bn)=true:=beq_iff_eq.mpr c64
   have hq5:(bk != bn)=false:=bne_eq_false_iff_eq.mpr c64
   clear c64
   have H':=A_ H
   clear H
   have jz1:=al5.out
   have jz2:=al4.out
   have hq6:=vm.out
   have hq7:=vn.out
   have fv8:=ae7.out
   have fv9:=al6.out
   obtain⟨dt9,du0,du1,jz3,du2,du3,du4,jz4⟩:=blk4_ gg
   have MK65_0:=True.intro
   go_wp2_with (first|(clear MK65_0;go_at_call 65;(with_reducible refine(F8.calls bk 0 (wrap64 ((ab.length:Int) - 1)) true _ A60.out).mono ?_);rintro e w' ⟨rfl,⟨nd,rfl⟩⟩)|(go_at_call 65;(with_reducible refine(F8.calls bn 0 (wrap64 ((ab.length:Int) - 1)) true _ A62.out).mono ?_);rintro e w' ⟨rfl,⟨nd,rfl⟩⟩))
   go_meet
   case rel=>exact⟨_,(false),(g3_),H',⟨g126_⟩,⟨uR_ hf⟩,⟨uS_ ik⟩,⟨uB_ gc⟩,⟨uB_ gg⟩,⟨uB_ fd⟩,⟨uB_ fk⟩,⟨ns⟩⟩
  rw[if_neg c64] at H
  have hq4:(bk == bn)=false:=beq_eq_false_iff_ne.mpr c64
  have hq5:(bk != bn)=true:=bne_iff_ne.mpr c64
  obtain⟨eq8,A69,H⟩:=bind_ H
  have H':=A_ H
  clear H
  have fw0:=al5.out
  have fw1:=al4.out
  have fw2:=vm.out
  have fw3:=vn.out
  have mm5:=ae7.out
  have mm6:=al6.out
  obtain⟨jz5,jz6,jz7,jz8,jz9,ka0,ka1,ka2⟩:=blk4_ gg
  have MK65_0:=True.intro
  have MK65_1:=True.intro
  go_wp2_with (first|(clear MK65_0;go_at_call 65;(with_reducible refine(F8.calls bk 0 (wrap64 ((ab.length:Int) - 1)) true _ A60.out).mono ?_);rintro e w' ⟨rfl,⟨nd,rfl⟩⟩)|(clear MK65_1;go_at_call 65;(with_reducible refine(F8.calls bn 0 (wrap64 ((ab.length:Int) - 1)) true _ A62.out).mono ?_);rintro e w' ⟨rfl,⟨nd,rfl⟩⟩)|(go_at_call 65;(with_reducible refine(F8.calls bw 0 9 eq8 _ A69.out).mono ?_);rintro e w' ⟨rfl,⟨nd,rfl⟩⟩))
  go_meet
  case rel=>exact⟨_,(eq8),(g3_),H',⟨g126_⟩,⟨uR_ hf⟩,⟨uS_ ik⟩,⟨uB_ gc⟩,⟨uB_ gg⟩,⟨uB_ fd⟩,⟨uB_ fk⟩,⟨ns⟩⟩
 clear cn4
 obtain⟨kq,es1,rfl,HA,HJ57,hf,ik,gc,gg,fd,fk,HB⟩:=hcut
 cases kq with
 | zero=>exact absurd HA.out (by simp[Fu.j1])
 | succ kj57=>?_
 have H:=HA.out
 clear HA
 simp only[Fu.j1] at H
 by_cases c86:es1=true
 ·subst c86
  replace H:=ifp_ H
  obtain⟨mn0,H⟩:=pd_ H
  obtain⟨mn1,H⟩:=pd_ H
  obtain⟨mn2,H⟩:=pd_ H
  obtain⟨mn3,H⟩:=pd_ H
  obtain⟨fw6,hyq⟩:∃y_:List Int,y_=((Jb i5 bk).set (bn:Int).toNat bw):=⟨_,rfl⟩
  replace H:((some (i5.set (bk:Int).toNat fw6:List (List Int))).bind fun ar5=>((F0.f kj57 gr ar5 ab aa).bind fun cn1=>(some (gr,ar5, !cn1))))=some (r1,r2,r3):=qh_
  have kc7:=A_ hyq
  clear hyq
  obtain⟨ar5,hyq⟩:∃y_:List (List Int),y_=(i5.set (bk:Int).toNat fw6):=⟨_,rfl⟩
  replace H:((F0.f kj57 gr ar5 ab aa).bind fun cn1=>(some (gr,ar5, !cn1)))=some (r1,r2,r3):=qh_
  have kc8:=A_ hyq
  clear hyq
  obtain⟨cn1,A92,H⟩:=bind_ H
  simp only[Option.some.injEq,Prod.mk.injEq] at H
  obtain⟨rfl,rfl,rfl⟩:=H
  try go_wp2
  replace hf:=rd_ hf
  replace ik:=sd_ ik
  replace gc:=bd_ gc
  replace gg:=bd_ gg
  replace fd:=bd_ fd
  replace fk:=bd_ fk
  replace HB:=A_ (G1 HB.out)
  have es4:0<=(bk:Int):=od_
  have es5:bk < (i5.length:Int):=od_
  obtain⟨bs1,mn4,kc9,kd0,es6,hs4,hs5⟩:=at_L1 (Kd.S_reads' ik.out).2.2 bk es4 es5
  cases kd0
  obtain⟨ce315,hce315,hMe315,hcc315⟩:=Kd.S_get ik.out [] bk es4 (by first|exact es5|exact od_|(have e_:=(Kd.S_reads' ik.out).1;omega))
  obtain⟨ve315_0,rfl,ge315_0⟩:=hMe315
  have hv315_0:=hcc315 0 _ rfl
  rw[Nat.add_zero,show((Kd.slice 3 (Kd.int .i64))).sz=1 from rfl,Nat.mul_one] at hv315_0
  replace hv315_0:=Option.some.inj (hv315_0.symm.trans es6)
  rw[hv315_0] at ge315_0
  have cc7:=A_ (show Kd.R (Kd.int .i64) 3 _ _ _ _ (Jb i5 bk) from ge315_0)
  clear hv315_0 ge315_0
  have HX315_0:=A_ es6
  clear hcc315 hce315
  have kd1:=A_ hs5
  have mn5:=A_ hs4
  clear hs5 hs4
  replace es4:=eq_true es4
  replace es5:=eq_true es5
  have p91:0<=(bn:Int):=od_
  have q91:(bn:Int) < (((Jb i5 bk).length:Int):Int):=od_
  obtain⟨bk1,h9,du5,hs6,gl91,cl91,HG91⟩:=Kd.R_form cc7.out (by omega)
  (first|cases du5|(injection du5 with ea_ en_ ec_;(first|subst ea_|(injection ea_ with ea_;subst ea_));subst ec_;clear en_))
  have GB91:=A_ hs6
  have GG91:=A_ HG91
  clear hs6 gl91 HG91
  obtain⟨kd2,hf91_0⟩:=Kd.R_celln 0 cc7.out (bn:Int) p91 q91
  replace p91:=eq_true p91
  replace q91:=eq_true q91
  have hq94:(bk:Int) < (i5.length:Int):=(by have h_:(bk:Int) < ((i5.length:Int):Int):=od_;first|exact h_|(have e_:=(Kd.S_reads' ik.out).1;omega)|simpa only[List.length_set,List.length_set] using h_)
  obtain⟨oki94,ce94,hcl94,hM94,hcc94,hok94,hbk94⟩:=Kd.S_borrow ik.out [] (bk:Int) (od_) (by first|exact hq94|exact od_|(have e_:=(Kd.S_reads' ik.out).1;omega))
  obtain⟨ve94_0,rfl,ge94_0⟩:=hM94
  have hv94:=hcc94 0 _ rfl
  rw[Nat.add_zero,show((Kd.slice 3 (Kd.int .i64))).sz=1 from rfl,Nat.mul_one] at hv94
  replace hv94:=Option.some.inj (hv94.symm.trans HX315_0.out)
  subst hv94
  clear hcc94 hcl94
  replace ge94_0:=(show Kd.R (Kd.int .i64) 3 _ _ _ _ (Jb i5 bk) from ge94_0)
  have HP94:=Kd.R_putg ge94_0 (bn:Int) bw
  rw[<- kc7.out] at HP94
  have HS94:=hbk94 HP94.2 (fun k_ e_=>by injection e_ with e_;subst e_;exact ge94_0.1 _ rfl) (x':=fw6) (Kd.M_row HP94.1)
  rw[<- kc8.out] at HS94
  have HQ94:=A_ HS94
  clear HP94 HS94 hbk94 hok94
  refine start_ (n:=12) (S:=fun w'=>w'.cell? ⟨e8,0,none⟩=some (.slice dz gr.length de)/\w'.cell? ⟨e8,1,none⟩=some (.slice (some bs1) i5.length g6)/\w'.cell? ⟨ut,0,none⟩=some (.int .i64 b4)/\w'.cell? ⟨ut,1,none⟩=some (.int .i64 bk)/\w'.cell? ⟨ut,2,none⟩=some (.int .i64 bn)/\w'.cell? ⟨ut,3,none⟩=some (.int .i64 bw)/\w'.cell? (bs1.add (bk).toNat)=some (.slice (some ⟨bk1,0,none⟩) (Jb i5 bk).length kc9)) (ds:=[11]) (tl_ 12 0) (g0_) rfl (g0_) ⟨(Gy fk.out 0).trans rfl,(Gy fk.out 1).trans rfl,(Gy gg.out 0).trans rfl,(Gy gg.out 1).trans rfl,(Gy gg.out 2).trans rfl,(Gy gg.out 3).trans rfl,es6⟩ (fun hHeld=>?_);refine Jl Fu.tab7 Fu.bits7 (fun HT_ HW_=>?_)
  generalize wc.drew=w93 at hf ik gc gg fd fk HB GG91 cc7 HQ94 kd1 HX315_0 hf91_0 es6 kd2 hHeld |-
  refine pw_ 0 72 (tl_ 12 1) ?_
  refine pw_ 2 74 (tl_ 12 5) ?_
  refine pw_ 6 78 (tl_ 12 69) ?_
  refine pw_ 8 80 (tl_ 12 325) ?_
  refine tk4_ 1 73 (tl_ 12 327) hHeld ?_
  refine tk4_ 3 75 (tl_ 12 335) hHeld ?_
  refine pw_ 4 76 (tl_ 12 351) ?_
  refine tk4_ 5 77 (tl_ 12 383) hHeld ?_
  refine tk4_ 7 79 (tl_ 12 511) hHeld ?_
  refine tk4_ 9 81 (tl_ 12 1023) hHeld ?_
  refine pw_ 10 82 (tl_ 12 2047) ?_
  refine last_ (i:=11) (N:=none) (tl_ 12 4095) rfl rfl (Jn HT_.out (g0_)) (by decide) (fun K hK=>?_)
  refine skip_ (w1:=?_) (by rfl) rfl ?_ ?_
  rotate_left
  ·go_simp
   rfl
  refine hK.out _ _ ?_
  clear hK K
  refine done_ (done_of HT_.out (g0_)) ?_
  generalize hw_:(w93.setCell ⟨bk1,(bn:Int).toNat,none⟩ (.int .i64 bw))=w96
  have n0_:Gx (Kd.R (Kd.int .i64) 3 w96 w.heap.size (fun _=>True) (.slice dz gr.length de) gr):=A_ (by rw[<- hw_];exact(by(with_reducible repeat(first|apply Kd.R_alloc|apply Kd.R_drewN|apply Kd.R_drew));exact Kd.R_mono (Kd.R_far (p:=⟨bk1,(bn:Int).toNat,none⟩) (Kd.R_far1 hf.out rfl ((cc7.out.1 _ rfl).1)) (fun _ hk=>hk.2) (.int .i64 bw)) (fun _ hk=>trivial)))
  have n1_:Gx (Kd.S (Kd.slice 3 (Kd.int .i64)) 22 w96 w.heap.size (fun k_=>some k_≠(.slice dz gr.length de:Value).ownBlock) (.slice (some bs1) i5.length g6) ar5):=A_ (by rw[<- hw_];exact uS_ HQ94)
  have n2_:Gx (hc_ w96 te #[.slice ah ab.length af, .slice ao aa.length ai] 25):=A_ (by rw[<- hw_];exact(by(with_reducible repeat(first|refine G5 ?_ _|refine G6 ?_|refine G4 ?_ _));refine Je ?_ (by have h_:=Kd.R_ne cc7.out gc.out (by decide);intro e_;exact h_ (g6_)) _;exact uB_ gc))
  have n3_:Gx (hc_ w96 ut #[.int .i64 b4, .int .i64 bk, .int .i64 bn, .int .i64 bw] 69):=A_ (by rw[<- hw_];exact(by(with_reducible repeat(first|refine G5 ?_ _|refine G6 ?_|refine G4 ?_ _));refine Je ?_ (by have h_:=Kd.R_ne cc7.out gg.out (by decide);intro e_;exact h_ (g6_)) _;exact uB_ gg))
  have n4_:Gx (hc_ w96 kd #[.slice none 0 0, .slice none 0 0] 25):=A_ (by rw[<- hw_];exact(by(with_reducible repeat(first|refine G5 ?_ _|refine G6 ?_|refine G4 ?_ _));refine Je ?_ (by have h_:=Kd.R_ne cc7.out fd.out (by decide);intro e_;exact h_ (g6_)) _;exact uB_ fd))
  have n5_:Gx (hc_ w96 e8 #[.slice dz gr.length de, .slice (some bs1) i5.length g6] 25):=A_ (by rw[<- hw_];exact(by(with_reducible repeat(first|refine G5 ?_ _|refine G6 ?_|refine G4 ?_ _));refine Je ?_ (by have h_:=Kd.R_ne cc7.out fk.out (by decide);intro e_;exact h_ (g6_)) _;exact uB_ fk))
  have n6_:Gx (Below w.heap.size w w96):=A_ (by rw[<- hw_];exact ns)
  clear hw_
  have hf:=n0_
  have ik:=n1_
  have gc:=n2_
  have gg:=n3_
  have fd:=n4_
  have fk:=n5_
  have HB:=n6_
  clear n0_ n1_ n2_ n3_ n4_ n5_ n6_
  try go_wp2
  replace hf:=rd_ hf
  replace ik:=sd_ ik
  replace gc:=bd_ gc
  replace gg:=bd_ gg
  replace fd:=bd_ fd
  replace fk:=bd_ fk
  replace HB:=A_ (G1 HB.out)
  refine start_ (n:=7) (S:=fun w'=>w'.cell? ⟨e8,0,none⟩=some (.slice dz gr.length de)/\w'.cell? ⟨e8,1,none⟩=some (.slice (some bs1) i5.length g6)/\w'.cell? ⟨te,0,none⟩=some (.slice ah ab.length af)/\w'.cell? ⟨te,1,none⟩=some (.slice ao aa.length ai)) (ds:=[]) (tl_ 7 0) (g0_) rfl (g0_) ⟨(Gy fk.out 0).trans rfl,(Gy fk.out 1).trans rfl,(Gy gc.out 0).trans rfl,(Gy gc.out 1).trans rfl⟩ (fun hHeld=>?_)
  generalize w96.drew=w97 at hf ik gc gg fd fk HB hHeld |-
  refine take_ (i:=0) (N:=some 98) (v:=?_) (a':=?_) (tl_ 7 1) rfl rfl (g0_) (fun _ _ _ h=>h) (Or.inl ⟨by rfl,?_⟩) hHeld ?_ ?_
  rotate_left
  ·rintro w' ⟨s0,s1,s2,s3⟩
   go_simp
   with_reducible rfl
  rotate_left
  · exact sp_
  refine take_ (i:=1) (N:=some 99) (v:=?_) (a':=?_) (tl_ 7 3) rfl rfl (g0_) (fun _ _ _ h=>h) (Or.inl ⟨by rfl,?_⟩) hHeld ?_ ?_
  rotate_left
  ·rintro w' ⟨s0,s1,s2,s3⟩
   go_simp
   with_reducible rfl
  rotate_left
  · exact sp_
  refine take_ (i:=2) (N:=some 100) (v:=?_) (a':=?_) (tl_ 7 7) rfl rfl (g0_) (fun _ _ _ h=>h) (Or.inl ⟨by rfl,?_⟩) hHeld ?_ ?_
  rotate_left
  ·rintro w' ⟨s0,s1,s2,s3⟩
   go_simp
   with_reducible rfl
  rotate_left
  · exact sp_
  refine one_ (i:=3) (N:=some 101) (tl_ 7 15) rfl rfl (g0_) (by decide) (fun K hK=>?_)
  refine goes_ Try.func122 (g0_) rfl #[.agg #[.slice dz gr.length de, .slice (some bs1) ar5.length g6], .agg #[.slice ah ab.length af, .slice ao aa.length ai]] (by rfl) rfl rfl (by(try simp only[List.map_toArray,List.map_cons,List.map_nil]);first|done|(rw[show ar5.length=i5.length from(Kd.S_reads' ik.out).1.symm] <;> rfl)|rfl|(simp only[List.length_drop,List.length_take];rfl)) ?_
  with_reducible refine(F0.calls kj57 _ _ gr _ _ ar5 _ _ ab _ _ aa cn1 _ ?side1 ?side2 ?side3 ?side4 ?side5 ?side6 ?side7 ?side8 A92.out).mono ?_
  (case side1=>exact cR_ hf)
  (case side2=>exact lR_ hf)
  (case side3=>exact cS_ ik)
  (case side4=>rw[show ar5.length=i5.length from(Kd.S_reads' ik.out).1.symm];exact(Kd.S_reads' ik.out).2.1)
  (case side5=>exact uC_ dp)
  (case side6=>exact ec.out)
  (case side7=>exact uC_ df)
  (case side8=>exact ee.out)
  rintro e o0 ⟨rfl,hb⟩
  refine⟨_,rfl,?_⟩
  replace hf:=rb_ hf hb
  replace ik:=sb_ ik hb
  replace gc:=bb_ gc hb
  replace gg:=bb_ gg hb
  replace fd:=bb_ fd hb
  replace fk:=bb_ fk hb
  replace HB:=hs_ (ns) hb
  refine hK.out _ _ ⟨(Gy fk.out 0).trans rfl,(Gy fk.out 1).trans rfl,(Gy gc.out 0).trans rfl,(Gy gc.out 1).trans rfl⟩ (fun hHeld=>?_)
  clear hK K
  refine nm_ ?_
  refine pure_ (i:=4) (N:=some 102) (v:=?_) (a':=?_) (tl_ 7 31) rfl rfl (g0_) (fun _ _ _ h=>h) (Or.inl ⟨by rfl,?_⟩) ?_ ?_
  rotate_left
  ·intro w'
   go_simp
   with_reducible rfl
  rotate_left
  · exact sp_
  refine one_ (i:=5) (N:=none) (tl_ 7 63) rfl rfl (g0_) (by decide) (fun K hK=>?_)
  have mn6:o0.cell? ⟨kd,0,none⟩=some (.slice none 0 0):=(Gy fd.out 0).trans rfl
  have mn7:=G7 fd.out 0
  have mn8:=qm.out
  have mn9:=vm.out
  have mo0:=pu.out
  have mo1:=ax0.out
  have mo2:=vn.out
  have mo3:=ah2.out
  have kd3:o0.cell? ⟨kd,1,none⟩=some (.slice none 0 0):=(Gy fd.out 1).trans rfl
  have kd4:=G7 fd.out 1
  refine skip_ (w1:=?_) (by rfl) rfl ?_ ?_
  rotate_left
  ·go_simp
   rfl
  refine hK.out _ _ ⟨(cf_ pu ((cf_ pu (hHeld.1)))),(cf_ pu ((cf_ pu (hHeld.2.1)))),(cf_ qm ((cf_ qm (hHeld.2.2.1)))),(cf_ qm ((cf_ qm (hHeld.2.2.2))))⟩ (fun hHeld=>?_)
  clear hK K
  refine pure_ (i:=6) (N:=some 5) (v:=?_) (a':=?_) (tl_ 7 127) rfl rfl (g0_) (fun _ _ _ h=>h) (Or.inl ⟨by rfl,?_⟩) ?_ ?_
  rotate_left
  ·intro w'
   go_simp
   with_reducible rfl
  rotate_left
  · exact sp_
  refine done_ (g0_) ?_
  try go_wp2
  refine bodyPost_ret (Jm rfl _ _ kd 25 #[.slice dz gr.length de, .slice (some bs1) i5.length g6] (0,0) _ rfl (ba_ fd) Try.underlying25 rfl (g0_)) rfl ?_
  exact⟨_,_,g4_,ra_ hf,sa_ ik,ns⟩
 replace c86:=Bool.eq_false_iff.mpr c86
 subst c86
 replace H:=ifn_ H
 by_cases be3:(b4 == 2 && (bk == 0 && (bn == 0 && (bw == 0))))=true
 ·rw[if_pos be3] at H
  have ke1:(b4 == 2 && (bk == 0 && (bn == 0 && (bw == 0))))=true:=be3
  (try(have ke2:decide (b4=2 && (bk == 0 && (bn == 0 && (bw == 0))))=true:=by simpa using be3))
  (try(have ke3:(b4 == 2 && (bk == 0 && (bn == 0 && (bw == 0))))=true:=by simpa using be3))
  clear be3
  replace H:=Option.bind_eq_some_iff.mp H
  obtain⟨⟨pv,sd⟩,hs7,H⟩:=H
  try dsimp only at H
  have ke4:=A_ hs7
  clear hs7
  obtain⟨fu9,ke5,H⟩:=bind_ H
  simp only[Option.some.injEq,Prod.mk.injEq] at H
  obtain⟨rfl,rfl,rfl⟩:=H
  have hs8:=al5.out
  have ht1:=al4.out
  have fw7:=vm.out
  have fw8:=vn.out
  have fw9:=ae7.out
  have fx0:=al6.out
  obtain⟨ht3,ht4,ke6,mo4,ht5,ht6,ke7,mo5⟩:=blk4_ gg
  have ht7:=qm.out
  have ht8:=ax0.out
  have ke8:=cy4.out
  have ke9:=eq9.out
  obtain⟨kf0,kf1,kf2,kf3⟩:=blk2_ gc
  try go_wp2_with (first|((with_reducible refine gc_ 41 ?_);refine gl_ 88 Try.func41 #[.agg #[.slice ah ab.length af, .slice ao aa.length ai]] ?_;(refine(Fk.calls kj57 _ _ ab _ _ aa pv sd _ (uC_ dp) ec.out (uC_ df) ee.out ke4.out).mono ?_);rintro e bk2 ⟨mo6,mo7,rfl,ae,ax,hb⟩;refine⟨_,rfl,?_⟩;have ax2:=A_ (Kd.R_lower (Kd.R_new' ae (Kd.R_lt (uR_ hf))) (Gz (ns)));have ax3:=A_ (Kd.S_lower (Kd.S_new' (Kd.S_new' ax (Kd.R_lt (uR_ hf))) (Kd.S_lt (uS_ ik))) (Gz (ns)));replace hf:=A_ (Kd.R_elder' (uR_ hf) (Kd.R_base ae) hb);replace ik:=A_ (Kd.S_mono (Kd.S_told (Kd.S_told (Kd.S_old (uS_ ik) hb) (Kd.R_base ae)) (Kd.S_base ax)) (fun _ h_=>h_.1));replace gc:=bb_ gc hb;replace gg:=bb_ gg hb;replace fd:=bb_ fd hb;replace fk:=bb_ fk hb;replace HB:=hs_ (ns) hb;obtain⟨ri,rj,kf4⟩:=Kd.R_slice ax2.out;subst kf4;have ht9:=pu.out;have hu3:=ah2.out;obtain⟨kf5,kf6,kf7,kf8⟩:=blk2_ fk;obtain⟨rk,rl,fx1⟩:=Kd.S_slice ax3.out;subst fx1))
  have n0_:Gx (Kd.R (Kd.int .i64) 3 ((bk2.setCell ⟨e8,0,none⟩ (.slice ri pv.length rj)).setCell ⟨e8,1,none⟩ (.slice rk sd.length rl)) w.heap.size (fun k_=>some k_≠(.slice ri pv.length rj:Value).ownBlock) (.slice dz gr.length de) gr):=⟨ra_ hf⟩
  have n1_:Gx (Kd.S (Kd.slice 3 (Kd.int .i64)) 22 ((bk2.setCell ⟨e8,0,none⟩ (.slice ri pv.length rj)).setCell ⟨e8,1,none⟩ (.slice rk sd.length rl)) w.heap.size (fun k_=>some k_≠(.slice dz gr.length de:Value).ownBlock/\some k_≠(.slice ri pv.length rj:Value).ownBlock/\some k_≠(.slice rk sd.length rl:Value).ownBlock) (.slice ix i5.length g6) i5):=⟨sa_ ik⟩
  have n2_:Gx (Kd.R (Kd.int .i64) 3 ((bk2.setCell ⟨e8,0,none⟩ (.slice ri pv.length rj)).setCell ⟨e8,1,none⟩ (.slice rk sd.length rl)) w.heap.size (fun k_=>some k_≠(.slice dz gr.length de:Value).ownBlock) (.slice ri pv.length rj) pv):=⟨ra_ ax2⟩
  have n3_:Gx (Kd.S (Kd.slice 3 (Kd.int .i64)) 22 ((bk2.setCell ⟨e8,0,none⟩ (.slice ri pv.length rj)).setCell ⟨e8,1,none⟩ (.slice rk sd.length rl)) w.heap.size (fun k_=>some k_≠(.slice dz gr.length de:Value).ownBlock/\some k_≠(.slice ix i5.length g6:Value).ownBlock/\some k_≠(.slice ri pv.length rj:Value).ownBlock) (.slice rk sd.length rl) sd):=⟨sa_ ax3⟩
  have n4_:Gx (((bk2.setCell ⟨e8,0,none⟩ (.slice ri pv.length rj)).setCell ⟨e8,1,none⟩ (.slice rk sd.length rl)).heap[te]? = some (.cells #[.slice ah ab.length af, .slice ao aa.length ai] 25 (0,0))):=⟨ba_ gc⟩
  have n5_:Gx (((bk2.setCell ⟨e8,0,none⟩ (.slice ri pv.length rj)).setCell ⟨e8,1,none⟩ (.slice rk sd.length rl)).heap[ut]? = some (.cells #[.int .i64 b4, .int .i64 bk, .int .i64 bn, .int .i64 bw] 69 (0,0))):=⟨ba_ gg⟩
  have n6_:Gx (((bk2.setCell ⟨e8,0,none⟩ (.slice ri pv.length rj)).setCell ⟨e8,1,none⟩ (.slice rk sd.length rl)).heap[kd]? = some (.cells #[.slice none 0 0, .slice none 0 0] 25 (0,0))):=⟨ba_ fd⟩
  have n7_:Gx (((bk2.setCell ⟨e8,0,none⟩ (.slice ri pv.length rj)).setCell ⟨e8,1,none⟩ (.slice rk sd.length rl)).heap[e8]? = some (.cells #[.slice ri pv.length rj, .slice rk sd.length rl] 25 (0,0))):=⟨ba_ fk⟩
  have n8_:Gx (Below w.heap.size w ((bk2.setCell ⟨e8,0,none⟩ (.slice ri pv.length rj)).setCell ⟨e8,1,none⟩ (.slice rk sd.length rl))):=⟨ns⟩
  generalize ((bk2.setCell ⟨e8,0,none⟩ (.slice ri pv.length rj)).setCell ⟨e8,1,none⟩ (.slice rk sd.length rl))=kf9 at n0_ n1_ n2_ n3_ n4_ n5_ n6_ n7_ n8_ |-
  have hf:=n0_
  have ik:=n1_
  have ax2:=n2_
  have ax3:=n3_
  have gc:=n4_
  have gg:=n5_
  have fd:=n6_
  have fk:=n7_
  have HB:=n8_
  clear n0_ n1_ n2_ n3_ n4_ n5_ n6_ n7_ n8_
  replace hf:=rd_ hf
  replace ik:=sd_ ik
  replace ax2:=rd_ ax2
  replace ax3:=sd_ ax3
  replace gc:=bd_ gc
  replace gg:=bd_ gg
  replace fd:=bd_ fd
  replace fk:=bd_ fk
  replace HB:=A_ (G1 HB.out)
  refine start_ (n:=7) (S:=fun w'=>w'.cell? ⟨e8,0,none⟩=some (.slice ri pv.length rj)/\w'.cell? ⟨e8,1,none⟩=some (.slice rk sd.length rl)/\w'.cell? ⟨te,0,none⟩=some (.slice ah ab.length af)/\w'.cell? ⟨te,1,none⟩=some (.slice ao aa.length ai)) (ds:=[]) (tl_ 7 0) (g0_) rfl (g0_) ⟨(Gy fk.out 0).trans rfl,(Gy fk.out 1).trans rfl,(Gy gc.out 0).trans rfl,(Gy gc.out 1).trans rfl⟩ (fun hHeld=>?_)
  generalize kf9.drew=hu4 at hf ik ax2 ax3 gc gg fd fk HB hHeld |-
  refine take_ (i:=0) (N:=some 98) (v:=?_) (a':=?_) (tl_ 7 1) rfl rfl (g0_) (fun _ _ _ h=>h) (Or.inl ⟨by rfl,?_⟩) hHeld ?_ ?_
  rotate_left
  ·rintro w' ⟨s0,s1,s2,s3⟩
   go_simp
   with_reducible rfl
  rotate_left
  · exact sp_
  refine take_ (i:=1) (N:=some 99) (v:=?_) (a':=?_) (tl_ 7 3) rfl rfl (g0_) (fun _ _ _ h=>h) (Or.inl ⟨by rfl,?_⟩) hHeld ?_ ?_
  rotate_left
  ·rintro w' ⟨s0,s1,s2,s3⟩
   go_simp
   with_reducible rfl
  rotate_left
  · exact sp_
  refine take_ (i:=2) (N:=some 100) (v:=?_) (a':=?_) (tl_ 7 7) rfl rfl (g0_) (fun _ _ _ h=>h) (Or.inl ⟨by rfl,?_⟩) hHeld ?_ ?_
  rotate_left
  ·rintro w' ⟨s0,s1,s2,s3⟩
   go_simp
   with_reducible rfl
  rotate_left
  · exact sp_
  refine one_ (i:=3) (N:=some 101) (tl_ 7 15) rfl rfl (g0_) (by decide) (fun K hK=>?_)
  refine goes_ Try.func122 (g0_) rfl #[.agg #[.slice ri pv.length rj, .slice rk sd.length rl], .agg #[.slice ah ab.length af, .slice ao aa.length ai]] (by rfl) rfl rfl (gM_) ?_
  refine(F0.calls kj57 _ _ pv _ _ sd _ _ ab _ _ aa fu9 _ (cR_ ax2) (lR_ ax2) (cS_ ax3) (lS_ ax3) (uC_ dp) ec.out (uC_ df) ee.out ke5.out).mono ?_
  rintro e fx2 ⟨rfl,hb⟩
  refine⟨_,rfl,?_⟩
  replace hf:=rb_ hf hb
  replace ik:=sb_ ik hb
  replace ax2:=rb_ ax2 hb
  replace ax3:=sb_ ax3 hb
  replace gc:=bb_ gc hb
  replace gg:=bb_ gg hb
  replace fd:=bb_ fd hb
  replace fk:=bb_ fk hb
  replace HB:=hs_ (ns) hb
  refine hK.out _ _ ⟨(Gy fk.out 0).trans rfl,(Gy fk.out 1).trans rfl,(Gy gc.out 0).trans rfl,(Gy gc.out 1).trans rfl⟩ (fun hHeld=>?_)
  clear hK K
  refine nm_ ?_
  refine pure_ (i:=4) (N:=some 102) (v:=?_) (a':=?_) (tl_ 7 31) rfl rfl (g0_) (fun _ _ _ h=>h) (Or.inl ⟨by rfl,?_⟩) ?_ ?_
  rotate_left
  ·intro w'
   go_simp
   with_reducible rfl
  rotate_left
  · exact sp_
  refine one_ (i:=5) (N:=none) (tl_ 7 63) rfl rfl (g0_) (by decide) (fun K hK=>?_)
  have mo8:fx2.cell? ⟨kd,0,none⟩=some (.slice none 0 0):=(Gy fd.out 0).trans rfl
  have mo9:=G7 fd.out 0
  have mp2:=pu.out
  have mp5:=ah2.out
  have mp6:fx2.cell? ⟨kd,1,none⟩=some (.slice none 0 0):=(Gy fd.out 1).trans rfl
  have mp7:=G7 fd.out 1
  refine skip_ (w1:=?_) (by rfl) rfl ?_ ?_
  rotate_left
  ·go_simp
   rfl
  refine hK.out _ _ ⟨(cf_ pu ((cf_ pu (hHeld.1)))),(cf_ pu ((cf_ pu (hHeld.2.1)))),(cf_ qm ((cf_ qm (hHeld.2.2.1)))),(cf_ qm ((cf_ qm (hHeld.2.2.2))))⟩ (fun hHeld=>?_)
  clear hK K
  refine pure_ (i:=6) (N:=some 5) (v:=?_) (a':=?_) (tl_ 7 127) rfl rfl (g0_) (fun _ _ _ h=>h) (Or.inl ⟨by rfl,?_⟩) ?_ ?_
  rotate_left
  ·intro w'
   go_simp
   with_reducible rfl
  rotate_left
  · exact sp_
  refine done_ (g0_) ?_
  try go_wp2
  refine bodyPost_ret (Jm rfl _ _ kd 25 #[.slice ri pv.length rj, .slice rk sd.length rl] (0,0) _ rfl (ba_ fd) Try.underlying25 rfl (g0_)) rfl ?_
  exact⟨_,_,g4_,ra_ ax2,sa_ ax3,ns⟩
 rw[if_neg be3] at H
 have ke1:(b4 == 2 && (bk == 0 && (bn == 0 && (bw == 0))))=false:=by simpa using be3
 (try(have ke2:decide (b4=2 && (bk == 0 && (bn == 0 && (bw == 0))))=false:=by simpa using be3))
 (try(have ke3:(b4 == 2 && (bk == 0 && (bn == 0 && (bw == 0))))=false:=by simpa using be3))
 (try(have mq4:¬ (b4=2 && (bk == 0 && (bn == 0 && (bw == 0)))):=by simpa using be3))
 clear be3
 by_cases be4:(b4 == 3 && (bk == 0 && (bn == 0 && (bw == 0))))=true
 case neg=>
  rw[if_neg be4] at H
  have kg0:(b4 == 3 && (bk == 0 && (bn == 0 && (bw == 0))))=false:=by simpa using be4
  (try(have kg1:decide (b4=3 && (bk == 0 && (bn == 0 && (bw == 0))))=false:=by simpa using be4))
  (try(have kg2:(b4 == 3 && (bk == 0 && (bn == 0 && (bw == 0))))=false:=by simpa using be4))
  (try(have mt3:¬ (b4=3 && (bk == 0 && (bn == 0 && (bw == 0)))):=by simpa using be4))
  clear be4
  simp only[Option.some.injEq,Prod.mk.injEq] at H
  obtain⟨rfl,rfl,rfl⟩:=H
  have ki3:=al5.out
  have ki4:=al4.out
  have mt4:=vm.out
  have mt5:=vn.out
  have ki5:=ae7.out
  have ki6:=al6.out
  obtain⟨mt6,mt7,mt8,mt9,mu0,mu1,mu2,mu3⟩:=blk4_ gg
  have hv1:=ax0.out
  have hv2:=qm.out
  have hv3:=ah2.out
  have hv4:=pu.out
  obtain⟨hv5,hv6,hv7,hv8⟩:=blk2_ fd
  go_wp2
  refine bodyPost_ret (Jm rfl _ _ kd 25 #[.slice none 0 0, .slice none 0 0] (0,0) _ rfl (ba_ fd) Try.underlying25 rfl (g0_)) rfl ?_
  exact⟨_,_,g4_,g24_,g33_,ns⟩
 rw[if_pos be4] at H
 have kg0:(b4 == 3 && (bk == 0 && (bn == 0 && (bw == 0))))=true:=be4
 (try(have kg1:decide (b4=3 && (bk == 0 && (bn == 0 && (bw == 0))))=true:=by simpa using be4))
 (try(have kg2:(b4 == 3 && (bk == 0 && (bn == 0 && (bw == 0))))=true:=by simpa using be4))
 clear be4
 replace H:=Option.bind_eq_some_iff.mp H
 obtain⟨⟨pw,se,kg3⟩,hu5,H⟩:=H
 try dsimp only at H
 have kg4:=A_ hu5
 clear hu5
 obtain⟨fv0,kg5,H⟩:=bind_ H
 simp only[Option.some.injEq,Prod.mk.injEq] at H
 obtain⟨rfl,rfl,rfl⟩:=H
 have mq5:=al5.out
 have mq6:=al4.out
 have mq7:=vm.out
 have mq8:=vn.out
 have hu6:=ae7.out
 have hu7:=al6.out
 obtain⟨mq9,mr0,mr1,mr2,mr3,mr4,mr5,mr6⟩:=blk4_ gg
 have kg6:=qm.out
 have kg7:=ax0.out
 have mr7:=cy4.out
 have mr8:=eq9.out
 obtain⟨mr9,ms0,ms1,ms2⟩:=blk2_ gc
 try go_wp2_with (first|((with_reducible refine gc_ 53 ?_);refine gl_ 95 Try.func53 #[.agg #[.slice ah ab.length af, .slice ao aa.length ai]] ?_;(refine(Fc.calls kj57 _ _ ab _ _ aa pw se kg3 _ (uC_ dp) ec.out (uC_ df) ee.out kg4.out).mono ?_);rintro e ax4 ⟨ms3,ms4,rfl,ae,ax,hb⟩;refine⟨_,rfl,?_⟩;have ax5:=A_ (Kd.R_lower (Kd.R_new' ae (Kd.R_lt (uR_ hf))) (Gz (ns)));have ax6:=A_ (Kd.S_lower (Kd.S_new' (Kd.S_new' ax (Kd.R_lt (uR_ hf))) (Kd.S_lt (uS_ ik))) (Gz (ns)));replace hf:=A_ (Kd.R_elder' (uR_ hf) (Kd.R_base ae) hb);replace ik:=A_ (Kd.S_mono (Kd.S_told (Kd.S_told (Kd.S_old (uS_ ik) hb) (Kd.R_base ae)) (Kd.S_base ax)) (fun _ h_=>h_.1));replace gc:=bb_ gc hb;replace gg:=bb_ gg hb;replace fd:=bb_ fd hb;replace fk:=bb_ fk hb;replace HB:=hs_ (ns) hb;obtain⟨rm,ro,kg8⟩:=Kd.R_slice ax5.out;subst kg8;have hu8:=pu.out;have hu9:=ah2.out;obtain⟨kg9,kh0,kh1,kh2⟩:=blk2_ fk;obtain⟨uu,uv,kh3⟩:=Kd.S_slice ax6.out;subst kh3))
 have n0_:Gx (Kd.R (Kd.int .i64) 3 ((ax4.setCell ⟨e8,0,none⟩ (.slice rm pw.length ro)).setCell ⟨e8,1,none⟩ (.slice uu se.length uv)) w.heap.size (fun k_=>some k_≠(.slice rm pw.length ro:Value).ownBlock) (.slice dz gr.length de) gr):=⟨ra_ hf⟩
 have n1_:Gx (Kd.S (Kd.slice 3 (Kd.int .i64)) 22 ((ax4.setCell ⟨e8,0,none⟩ (.slice rm pw.length ro)).setCell ⟨e8,1,none⟩ (.slice uu se.length uv)) w.heap.size (fun k_=>some k_≠(.slice dz gr.length de:Value).ownBlock/\some k_≠(.slice rm pw.length ro:Value).ownBlock/\some k_≠(.slice uu se.length uv:Value).ownBlock) (.slice ix i5.length g6) i5):=⟨sa_ ik⟩
 have n2_:Gx (Kd.R (Kd.int .i64) 3 ((ax4.setCell ⟨e8,0,none⟩ (.slice rm pw.length ro)).setCell ⟨e8,1,none⟩ (.slice uu se.length uv)) w.heap.size (fun k_=>some k_≠(.slice dz gr.length de:Value).ownBlock) (.slice rm pw.length ro) pw):=⟨ra_ ax5⟩
 have n3_:Gx (Kd.S (Kd.slice 3 (Kd.int .i64)) 22 ((ax4.setCell ⟨e8,0,none⟩ (.slice rm pw.length ro)).setCell ⟨e8,1,none⟩ (.slice uu se.length uv)) w.heap.size (fun k_=>some k_≠(.slice dz gr.length de:Value).ownBlock/\some k_≠(.slice ix i5.length g6:Value).ownBlock/\some k_≠(.slice rm pw.length ro:Value).ownBlock) (.slice uu se.length uv) se):=⟨sa_ ax6⟩
 have n4_:Gx (((ax4.setCell ⟨e8,0,none⟩ (.slice rm pw.length ro)).setCell ⟨e8,1,none⟩ (.slice uu se.length uv)).heap[te]? = some (.cells #[.slice ah ab.length af, .slice ao aa.length ai] 25 (0,0))):=⟨ba_ gc⟩
 have n5_:Gx (((ax4.setCell ⟨e8,0,none⟩ (.slice rm pw.length ro)).setCell ⟨e8,1,none⟩ (.slice uu se.length uv)).heap[ut]? = some (.cells #[.int .i64 b4, .int .i64 bk, .int .i64 bn, .int .i64 bw] 69 (0,0))):=⟨ba_ gg⟩
 have n6_:Gx (((ax4.setCell ⟨e8,0,none⟩ (.slice rm pw.length ro)).setCell ⟨e8,1,none⟩ (.slice uu se.length uv)).heap[kd]? = some (.cells #[.slice none 0 0, .slice none 0 0] 25 (0,0))):=⟨ba_ fd⟩
 have n7_:Gx (((ax4.setCell ⟨e8,0,none⟩ (.slice rm pw.length ro)).setCell ⟨e8,1,none⟩ (.slice uu se.length uv)).heap[e8]? = some (.cells #[.slice rm pw.length ro, .slice uu se.length uv] 25 (0,0))):=⟨ba_ fk⟩
 have n8_:Gx (Below w.heap.size w ((ax4.setCell ⟨e8,0,none⟩ (.slice rm pw.length ro)).setCell ⟨e8,1,none⟩ (.slice uu se.length uv))):=⟨ns⟩
 generalize ((ax4.setCell ⟨e8,0,none⟩ (.slice rm pw.length ro)).setCell ⟨e8,1,none⟩ (.slice uu se.length uv))=pd at n0_ n1_ n2_ n3_ n4_ n5_ n6_ n7_ n8_ |-
 have hf:=n0_
 have ik:=n1_
 have ax5:=n2_
 have ax6:=n3_
 have gc:=n4_
 have gg:=n5_
 have fd:=n6_
 have fk:=n7_
 have HB:=n8_
 clear n0_ n1_ n2_ n3_ n4_ n5_ n6_ n7_ n8_
 replace hf:=rd_ hf
 replace ik:=sd_ ik
 replace ax5:=rd_ ax5
 replace ax6:=sd_ ax6
 replace gc:=bd_ gc
 replace gg:=bd_ gg
 replace fd:=bd_ fd
 replace fk:=bd_ fk
 replace HB:=A_ (G1 HB.out)
 refine start_ (n:=7) (S:=fun w'=>w'.cell? ⟨e8,0,none⟩=some (.slice rm pw.length ro)/\w'.cell? ⟨e8,1,none⟩=some (.slice uu se.length uv)/\w'.cell? ⟨te,0,none⟩=some (.slice ah ab.length af)/\w'.cell? ⟨te,1,none⟩=some (.slice ao aa.length ai)) (ds:=[]) (tl_ 7 0) (g0_) rfl (g0_) ⟨(Gy fk.out 0).trans rfl,(Gy fk.out 1).trans rfl,(Gy gc.out 0).trans rfl,(Gy gc.out 1).trans rfl⟩ (fun hHeld=>?_)
 generalize pd.drew=kh4 at hf ik ax5 ax6 gc gg fd fk HB hHeld |-
 refine take_ (i:=0) (N:=some 98) (v:=?_) (a':=?_) (tl_ 7 1) rfl rfl (g0_) (fun _ _ _ h=>h) (Or.inl ⟨by rfl,?_⟩) hHeld ?_ ?_
 rotate_left
 ·rintro w' ⟨s0,s1,s2,s3⟩
  go_simp
  with_reducible rfl
 rotate_left
 · exact sp_
 refine take_ (i:=1) (N:=some 99) (v:=?_) (a':=?_) (tl_ 7 3) rfl rfl (g0_) (fun _ _ _ h=>h) (Or.inl ⟨by rfl,?_⟩) hHeld ?_ ?_
 rotate_left
 ·rintro w' ⟨s0,s1,s2,s3⟩
  go_simp
  with_reducible rfl
 rotate_left
 · exact sp_
 refine take_ (i:=2) (N:=some 100) (v:=?_) (a':=?_) (tl_ 7 7) rfl rfl (g0_) (fun _ _ _ h=>h) (Or.inl ⟨by rfl,?_⟩) hHeld ?_ ?_
 rotate_left
 ·rintro w' ⟨s0,s1,s2,s3⟩
  go_simp
  with_reducible rfl
 rotate_left
 · exact sp_
 refine one_ (i:=3) (N:=some 101) (tl_ 7 15) rfl rfl (g0_) (by decide) (fun K hK=>?_)
 refine goes_ Try.func122 (g0_) rfl #[.agg #[.slice rm pw.length ro, .slice uu se.length uv], .agg #[.slice ah ab.length af, .slice ao aa.length ai]] (by rfl) rfl rfl (gM_) ?_
 refine(F0.calls kj57 _ _ pw _ _ se _ _ ab _ _ aa fv0 _ (cR_ ax5) (lR_ ax5) (cS_ ax6) (lS_ ax6) (uC_ dp) ec.out (uC_ df) ee.out kg5.out).mono ?_
 rintro e hv0 ⟨rfl,hb⟩
 refine⟨_,rfl,?_⟩
 replace hf:=rb_ hf hb
 replace ik:=sb_ ik hb
 replace ax5:=rb_ ax5 hb
 replace ax6:=sb_ ax6 hb
 replace gc:=bb_ gc hb
 replace gg:=bb_ gg hb
 replace fd:=bb_ fd hb
 replace fk:=bb_ fk hb
 replace HB:=hs_ (ns) hb
 refine hK.out _ _ ⟨(Gy fk.out 0).trans rfl,(Gy fk.out 1).trans rfl,(Gy gc.out 0).trans rfl,(Gy gc.out 1).trans rfl⟩ (fun hHeld=>?_)
 clear hK K
 refine nm_ ?_
 refine pure_ (i:=4) (N:=some 102) (v:=?_) (a':=?_) (tl_ 7 31) rfl rfl (g0_) (fun _ _ _ h=>h) (Or.inl ⟨by rfl,?_⟩) ?_ ?_
 rotate_left
 ·intro w'
  go_simp
  with_reducible rfl
 rotate_left
 · exact sp_
 refine one_ (i:=5) (N:=none) (tl_ 7 63) rfl rfl (g0_) (by decide) (fun K hK=>?_)
 have ms5:hv0.cell? ⟨kd,0,none⟩=some (.slice none 0 0):=(Gy fd.out 0).trans rfl
 have ms6:=G7 fd.out 0
 have ms9:=pu.out
 have mt2:=ah2.out
 have kh5:hv0.cell? ⟨kd,1,none⟩=some (.slice none 0 0):=(Gy fd.out 1).trans rfl
 have kh6:=G7 fd.out 1
 refine skip_ (w1:=?_) (by rfl) rfl ?_ ?_
 rotate_left
 ·go_simp
  rfl
 refine hK.out _ _ ⟨(cf_ pu ((cf_ pu (hHeld.1)))),(cf_ pu ((cf_ pu (hHeld.2.1)))),(cf_ qm ((cf_ qm (hHeld.2.2.1)))),(cf_ qm ((cf_ qm (hHeld.2.2.2))))⟩ (fun hHeld=>?_)
 clear hK K
 refine pure_ (i:=6) (N:=some 5) (v:=?_) (a':=?_) (tl_ 7 127) rfl rfl (g0_) (fun _ _ _ h=>h) (Or.inl ⟨by rfl,?_⟩) ?_ ?_
 rotate_left
 ·intro w'
  go_simp
  with_reducible rfl
 rotate_left
 · exact sp_
 refine done_ (g0_) ?_
 try go_wp2
 refine bodyPost_ret (Jm rfl _ _ kd 25 #[.slice rm pw.length ro, .slice uu se.length uv] (0,0) _ rfl (ba_ fd) Try.underlying25 rfl (g0_)) rfl ?_
 exact⟨_,_,g4_,ra_ ax5,sa_ ax6,ns⟩
attribute [local go_sem high] eqA69
theorem k25s_ne {w:World} {g g':Nat} {t:Nat} (h:∃cells,w.heap[g]? = some (.cells cells 25 (0,0))) {cells':Array Value} (h':w.heap[g']? = some (.cells cells' t (0,0))) (ht:(25:Nat)≠t):g≠g':=by
 rintro rfl
 obtain⟨cells,hc⟩:=h
 rw[hc] at h'
 injection h' with h1
 injection h1 with _ h2
 exact ht h2
theorem k25s_last {w:World} {base:Nat} {ok:Nat->Prop} {A:Option Addr} {m c n:Nat} {xs:List S25} (hn:xs.length=n + 1) (h:Kd.S k25s 25 w base ok (.slice A m c) xs) :
  ∃g u0 u1,A=some ⟨g,0,none⟩/\w.cell? ⟨g,n * 2,none⟩=some u0/\w.cell? ⟨g,n * 2 + 1,none⟩=some u1/\Kd.R (Kd.int .i64) 3 w base (fun _=>True) u0 (Jc xs (n:Int)).f0/\Kd.S (Kd.slice 3 (Kd.int .i64)) 22 w base (fun k=>some k≠u0.ownBlock) u1 (Jc xs (n:Int)).f1/\Kd.Q k25 25 w base (fun k=>some k≠u0.ownBlock/\some k≠u1.ownBlock) (.slice (some ⟨g,0,none⟩) n c) (xs.take n)/\(∃cells,w.heap[g]? = some (.cells cells 25 (0,0)))/\m=n + 1:=by
 obtain⟨f,hR⟩:=h
 have hlz:xs.zipIdx.length=n + 1:=by rw[List.length_zipIdx,hn]
 have hm:m=n + 1:=by rw[(Kd.R_reads' hR).1,hlz]
 subst hm
 obtain⟨hok,inner,ho,hr⟩:=hR
 have ae:=ho
 rcases ae.2 with⟨hv,_⟩ | ⟨g,cap',cur,hv,hgb,hh,_⟩
 ·cases hv
 injection hv with hA _ hc
 subst hA
 have hbl:(Value.slice (some ⟨g,0,none⟩) (n + 1) c).ownBlock=some g:=by simp[Value.ownBlock]
 obtain⟨cs,hcl,hM,hcc⟩:=Kd.R_getA (⟨hok,inner,ho,hr⟩:(Kd.tag f k25s).R 25 w base ok _ _) (z25,0) (n:Int) (by omega) (by omega)
 have hzi:xs.zipIdx.getD (n:Int).toNat (z25,0)=(Jc xs (n:Int),n):=by
  simp[Jc,List.getD_eq_getElem?_getD,hn]
 rw[hzi] at hM
 obtain⟨u0,u1,rfl,h0,h1⟩:=hM
 have e0:=hcc 0 u0 rfl
 have e1:=hcc 1 u1 rfl
 have hsz:(Kd.tag f k25s).sz=2:=rfl
 rw[hsz] at e0 e1
 refine⟨g,u0,u1,rfl,?_,?_,Kd.R_mono h0 (fun _ _=>trivial),Kd.S_mono h1 (fun _ hk=>hk.2),Kd.Q_of_R ?_,⟨cur,hh⟩,rfl⟩
 ·rw[add_at] at e0;simpa using e0
 ·rw[add_at] at e1;simpa using e1
 have hu0:∀k,u0.ownBlock=some k->f k=n/\k≠g:=fun k hk=>by
  have:=h0.1 k hk
  refine⟨this.2,fun e=>this.1.2 (by rw[hbl,e])⟩
 have hu1:∀k,u1.ownBlock=some k->f k=n/\k≠g:=fun k hk=>by
  have:=(Kd.S_R h1).1 k hk
  refine⟨this.1.2,fun e=>this.1.1.2 (by rw[hbl,e])⟩
 have hRt:=Kd.R_take (m:=n) (⟨hok,inner,ho,hr⟩:(Kd.tag f k25s).R 25 w base ok _ _) (by omega)
 obtain⟨hok2,inner2,bm,hr2⟩:=hRt
 have hbl2:(Value.slice (some ⟨g,0,none⟩) n c).ownBlock=some g:=by simp[Value.ownBlock]
 have hlt:(xs.zipIdx.take n).length=n:=by rw[List.length_take,hlz];omega
 have hlt2:(xs.take n).length=n:=by rw[List.length_take,hn];omega
 rw[hlt] at bm
 refine⟨fun k hk=>?_,inner2,by rw[hlt2];exact bm,?_,fun j p hj=>?_⟩
 ·have hkg:g=k:=by rw[hbl2] at hk;injection hk
  subst hkg
  exact⟨fun e=>(hu0 _ e.symm).2 rfl,fun e=>(hu1 _ e.symm).2 rfl⟩
 ·rw[hr2.1,hlt,hlt2];rfl
 have hjn:j < n:=by have:=(List.getElem?_eq_some_iff.1 hj).1;omega
 have hj2:xs[j]? = some p:=by rw[List.getElem?_take,if_pos hjn] at hj;exact hj
 have hj3:(xs.zipIdx.take n)[j]? = some (p,j):=by rw[List.getElem?_take,if_pos hjn];exact Kd.zip_at hj2
 have hMj:=hr2.2 j (p,j) hj3
 refine k25.M_mono (fun k hk=>⟨⟨fun e=>?_,fun e=>?_⟩,hk.1.2⟩) (k25s_M hMj)
 ·have:=(hu0 k e.symm).1;have h3:=hk.2;omega
 have:=(hu1 k e.symm).1;have h3:=hk.2;omega
def Gf.j0:Nat->Bool->List Int->List (List Int)->List (S25)->Int->Int->Int->Int->List Int->List (List Int)->List (S25)->Option (List Int × (List (List Int)) × (List (S25)) × Bool)
 | 0,_,_,_,_,_,_,_,_,_,_,_=>none
 | k + 1,x24,ki7,ki8,mu4,ki9,kj0,kj4,kj6,hv9,hw2,fx3=>if x24=true then(none) else((Fu.f k ki7 ki8 ki9 kj0 kj4 kj6).bind fun bt346=>(if bt346.2.2=true then(if fx3.length < 2932031007402 then((some (fx3 ++ [(⟨hv9,hw2⟩:S25)]:List (S25))).bind fun o1=>(if (o1.length:Int) > 8 then(if 1<=(o1.length:Int) then(some (bt346.1,bt346.2.1,(o1.drop (1:Int).toNat),true)) else(none)) else(some (bt346.1,bt346.2.1,o1,true)))) else(none)) else(some (hv9,hw2,fx3,false))))
def Gf.f (k:Nat) (ab:List Int) (aa:List (List Int)) (av:List (S25)) (b4:Int) (bk:Int) (bn:Int) (bw:Int):Option (List Int × (List (List Int)) × (List (S25)) × Bool):=(Fw.f k ab aa av).bind fun du6=>(if du6=true then((Fm.f k ab aa av).bind fun bt336=>(if (b4 == 4 && (bk == 0 && (bn == 0 && (bw == 0))))=true then(Gf.j0 k (decide ((av.length:Int) > 0)) ab aa av b4 bk bn bw bt336.1 bt336.2.1 bt336.2.2) else(Gf.j0 k false ab aa av b4 bk bn bw bt336.1 bt336.2.1 bt336.2.2))) else(some (([]:List Int),([]:List (List Int)),([]:List (S25)),false)))
theorem l5 {p:Prop} (h:p:=by repeat(first|(with_reducible first|exact HB.out|apply G3|apply G2|apply G1|refine G0 ?_ cz0.out|refine G0 ?_ du7.out|refine G0 ?_ cn5.out|refine G0 ?_ cc8.out|refine G0 ?_ fx4.out)|exact HB.out)):p:=h
set_option maxHeartbeats 8000000 in
set_option maxRecDepth 100000 in
theorem Gf.calls (k:Nat) (ah:Option Addr) (af:Nat) (ab:List Int) (ao:Option Addr) (ai:Nat) (aa:List (List Int)) (cy:Option Addr) (cu:Nat) (av:List (S25)) (b4:Int) (bk:Int) (bn:Int) (bw:Int) (r1:List Int) (r2:List (List Int)) (r3:List (S25)) (r4:Bool) (w:World) (d4:Kd.C (Kd.int .i64) w ah ab.length ab) (d9:ab.length<=af) (d5:Kd.C (Kd.slice 3 (Kd.int .i64)) w ao aa.length aa) (ea:aa.length<=ai) (l6:Kd.C k25 w cy av.length av) (l7:av.length<=cu) (h:Gf.f k ab aa av b4 bk bn bw=some (r1,r2,r3,r4)) :
  Calls Try.prog 54 #[.agg #[.slice ah ab.length af, .slice ao aa.length ai, .slice cy av.length cu], .agg #[.int .i64 b4, .int .i64 bk, .int .i64 bn, .int .i64 bw]] w fun e w'=>∃v0_ v1_ v2_:Value,e = .returned (.tuple #[.agg #[v0_,v1_,v2_], .bool r4])/\Kd.R (Kd.int .i64) 3 w' w.heap.size (fun _=>True) v0_ r1/\Kd.S (Kd.slice 3 (Kd.int .i64)) 22 w' w.heap.size (fun k_=>some k_≠(v0_:Value).ownBlock) v1_ r2/\Kd.Q k25 25 w' w.heap.size (fun k_=>some k_≠(v0_:Value).ownBlock/\some k_≠(v1_:Value).ownBlock) v2_ r3/\Below w.heap.size w w':=by
 have hu28:=Try.underlying28
 have hu69:=Try.underlying69
 have hu25:=Try.underlying25
 have dp:=A_ d4
 have ec:=A_ d9
 clear d4 d9
 have df:=A_ d5
 have ee:=A_ ea
 clear d5 ea
 have m8:=A_ l6
 have re:=A_ l7
 clear l6 l7
 have HB:=A_ (Below.refl w.heap.size w)
 have H:=h
 unfold Gf.f at H
 clear h
 obtain⟨du6,A3,H⟩:=bind_ H
 by_cases c4:du6=true
 case neg=>
  replace c4:=Bool.eq_false_iff.mpr c4
  subst c4
  replace H:=ifn_ H
  simp only[Option.some.injEq,Prod.mk.injEq] at H
  obtain⟨rfl,rfl,rfl,rfl⟩:=H
  go_enter Try.func54,Try.ntmps54
  go_wp2_with (first|((with_reducible refine gd_ 2 ?_);(try(refine gate_guard (by rfl) ?_;dsimp only));refine bx_ (N:=2) #[.slice ah ab.length af, .slice ao aa.length ai, .slice cy av.length cu] 28 ?_;intro je hg kp2 hbox hb;have fh:=A_ (hbox);have hw3:=A_ ((g18_:w.heap.size<=je));have cz0:=hw3;replace HB:=hs_ (l5) hb;clear hb hbox hg)|((with_reducible refine gd_ 3 ?_);(try(refine gate_guard (by rfl) ?_;dsimp only));refine bx_ (N:=3) #[.int .i64 b4, .int .i64 bk, .int .i64 bn, .int .i64 bw] 69 ?_;intro jo hg my2 hbox hb;have hz:=A_ (hbox);have hw4:=A_ ((g18_:w.heap.size<=jo));have du7:=hw4;replace HB:=hs_ (l5) hb;have bk3:=nl_ fh hg;have bk4:=nr_ fh hg;replace fh:=bb_ fh hb;clear hb hbox hg)|((with_reducible refine gd_ 4 ?_);(try(refine gate_guard (by rfl) ?_;dsimp only));refine bx_ (N:=4) #[.slice none 0 0, .slice none 0 0, .slice none 0 0] 28 ?_;intro ei hg my3 hbox hb;have gd:=A_ (hbox);have hw5:=A_ ((g18_:w.heap.size<=ei));have cn5:=hw5;replace HB:=hs_ (l5) hb;have bs2:=nl_ fh hg;have bs3:=nr_ fh hg;replace fh:=bb_ fh hb;have cc9:=nl_ hz hg;have cd0:=nr_ hz hg;replace hz:=bb_ hz hb;clear hb hbox hg;have kp3:=bk3.out;have kp4:=bk4.out;have kp5:=bs2.out;have kp6:=bs3.out;obtain⟨my4,my5,my6,my7,my8,my9⟩:=blk3_ fh)|((with_reducible refine gc_ 28 ?_);refine gl_ 11 Try.func28 #[.agg #[.slice ah ab.length af, .slice ao aa.length ai, .slice cy av.length cu]] ?_;(refine(Fw.calls k _ _ ab _ _ aa _ _ av false _ (uC_ dp) ec.out (uC_ df) ee.out (uC_ m8) re.out A3.out).mono ?_);rintro e fx2 ⟨rfl,hb⟩;refine⟨_,rfl,?_⟩;replace fh:=bb_ fh hb;replace hz:=bb_ hz hb;replace gd:=bb_ gd hb;replace HB:=hs_ (l5) hb;have kp7:=cd0.out;have kp8:=cc9.out;obtain⟨kp9,kq0,kq1,kq2,kq3,kq4⟩:=blk3_ gd))
  refine bodyPost_ret (Jm rfl _ _ ei 28 #[.slice none 0 0, .slice none 0 0, .slice none 0 0] (0,0) _ rfl (ba_ gd) Try.underlying28 rfl (g0_)) rfl ?_
  exact⟨_,_,_,g4_,g24_,g33_,Kd.Q_of_R (g24_),l5⟩
 subst c4
 replace H:=ifp_ H
 replace H:=Option.bind_eq_some_iff.mp H
 obtain⟨⟨g8,i6,e9⟩,A50,H⟩:=H
 try dsimp only at H
 have A5:=A_ A50
 clear A50
 have HC6:=A_ H
 clear H
 go_enter Try.func54,Try.ntmps54
 go_upto_region 4 with(first|((with_reducible refine gd_ 2 ?_);(try(refine gate_guard (by rfl) ?_;dsimp only));refine bx_ (N:=2) #[.slice ah ab.length af, .slice ao aa.length ai, .slice cy av.length cu] 28 ?_;intro je hg w7 hbox hb;have fh:=A_ (hbox);have hw3:=A_ ((g18_:w.heap.size<=je));have cz0:=hw3;replace HB:=hs_ (l5) hb;clear hb hbox hg)|((with_reducible refine gd_ 3 ?_);(try(refine gate_guard (by rfl) ?_;dsimp only));refine bx_ (N:=3) #[.int .i64 b4, .int .i64 bk, .int .i64 bn, .int .i64 bw] 69 ?_;intro jo hg w8 hbox hb;have hz:=A_ (hbox);have hw4:=A_ ((g18_:w.heap.size<=jo));have du7:=hw4;replace HB:=hs_ (l5) hb;have bk3:=nl_ fh hg;have bk4:=nr_ fh hg;replace fh:=bb_ fh hb;clear hb hbox hg)|((with_reducible refine gd_ 4 ?_);(try(refine gate_guard (by rfl) ?_;dsimp only));refine bx_ (N:=4) #[.slice none 0 0, .slice none 0 0, .slice none 0 0] 28 ?_;intro ei hg w9 hbox hb;have gd:=A_ (hbox);have hw5:=A_ ((g18_:w.heap.size<=ei));have cn5:=hw5;replace HB:=hs_ (l5) hb;have bs2:=nl_ fh hg;have bs3:=nr_ fh hg;replace fh:=bb_ fh hb;have cc9:=nl_ hz hg;have cd0:=nr_ hz hg;replace hz:=bb_ hz hb;clear hb hbox hg;have cn6:=bk3.out;have cn7:=bk4.out;have aq2:=bs2.out;have aq3:=bs3.out;obtain⟨wu,wv,al7,yf,ww,al8⟩:=blk3_ fh)|((with_reducible refine gc_ 28 ?_);refine gl_ 11 Try.func28 #[.agg #[.slice ah ab.length af, .slice ao aa.length ai, .slice cy av.length cu]] ?_;(refine(Fw.calls k _ _ ab _ _ aa _ _ av true _ (uC_ dp) ec.out (uC_ df) ee.out (uC_ m8) re.out A3.out).mono ?_);rintro e w13 ⟨rfl,hb⟩;refine⟨_,rfl,?_⟩;replace fh:=bb_ fh hb;replace hz:=bb_ hz hb;replace gd:=bb_ gd hb;replace HB:=hs_ (l5) hb;obtain⟨xv,xw,cv5,xx,xy,cv6⟩:=blk3_ fh)|((with_reducible refine gc_ 100 ?_);refine gl_ 15 Try.func100 #[.agg #[.slice ah ab.length af, .slice ao aa.length ai, .slice cy av.length cu]] ?_;(refine(Fm.calls k _ _ ab _ _ aa _ _ av g8 i6 e9 _ (uC_ dp) ec.out (uC_ df) ee.out (uC_ m8) re.out A5.out).mono ?_);rintro e w15 ⟨kj8,kk0,kk1,rfl,ae,ax,bm,hb⟩;refine⟨_,rfl,?_⟩;have be5:=A_ (Kd.R_lower ae (Gz (l5)));have be6:=A_ (Kd.S_lower ax (Gz (l5)));have ar6:=A_ (Kd.R_lower bm (Gz (l5)));replace fh:=bb_ fh hb;replace hz:=bb_ hz hb;replace gd:=bb_ gd hb;replace HB:=hs_ (l5) hb)|((with_reducible refine gd_ 6 ?_);(try(refine gate_guard (by rfl) ?_;dsimp only));refine bx_ (N:=6) #[.slice none 0 0, .slice none 0 0, .slice none 0 0] 28 ?_;intro dc hg mt hbox hb;replace be5:=rb_ be5 hb;replace be6:=sb_ be6 hb;replace ar6:=rb_ ar6 hb;have g7:=A_ (hbox);have kk2:=A_ ((g18_:w.heap.size<=dc));have cc8:=kk2;replace HB:=hs_ (l5) hb;have ah3:=nl_ fh hg;have cd1:=nr_ fh hg;replace fh:=bb_ fh hb;have ae8:=nl_ hz hg;have bs4:=nr_ hz hg;replace hz:=bb_ hz hb;have wx:=nl_ gd hg;have cn8:=nr_ gd hg;replace gd:=bb_ gd hb;clear hb hbox hg;obtain⟨ia,h7,bp0⟩:=Kd.R_slice be5.out;subst bp0;have dg8:=cd1.out;have dg9:=ah3.out;have dl2:=bs4.out;have dl3:=ae8.out;have cv8:=cn8.out;have cv9:=wx.out;obtain⟨aa2,aa3,bo1,ad7,aa4,bo2⟩:=blk3_ g7;obtain⟨jk,i9,be7⟩:=Kd.S_slice be6.out;subst be7;obtain⟨lq,g5,cm0⟩:=Kd.R_slice ar6.out;subst cm0))
 (try simp only[Act.put,List.setIfInBounds_toArray,List.set_cons_zero,List.set_cons_succ])
 go_cut [24] (fun v24 wc=>∃(kq:Nat) (es7:Bool),v24 = .bool es7/\Gx (Gf.j0 kq es7 ab aa av b4 bk bn bw g8 i6 e9=some (r1,r2,r3,r4))/\Gx (kq<=k)/\Gx (Kd.R (Kd.int .i64) 3 wc w.heap.size (fun _=>True) (.slice ia g8.length h7) g8)/\Gx (Kd.S (Kd.slice 3 (Kd.int .i64)) 22 wc w.heap.size (fun k_=>some k_≠((.slice ia g8.length h7):Value).ownBlock) (.slice jk i6.length i9) i6)/\Gx (Kd.Q k25 25 wc w.heap.size (fun k_=>some k_≠((.slice ia g8.length h7):Value).ownBlock/\some k_≠((.slice jk i6.length i9):Value).ownBlock) (.slice lq e9.length g5) e9)/\Gx (hc_ wc je #[(.slice ah ab.length af),(.slice ao aa.length ai),(.slice cy av.length cu)] 28)/\Gx (hc_ wc jo #[.int .i64 b4, .int .i64 bk, .int .i64 bn, .int .i64 bw] 69)/\Gx (hc_ wc ei #[(.slice none 0 0),(.slice none 0 0),(.slice none 0 0)] 28)/\Gx (hc_ wc dc #[(.slice ia g8.length h7),(.slice jk i6.length i9),(.slice lq e9.length g5)] 28)/\Gx (Below w.heap.size w wc))
 case first=>
  have H:=HC6.out
  clear HC6
  by_cases kr:(b4 == 4 && (bk == 0 && (bn == 0 && (bw == 0))))=true
  ·rw[if_pos kr] at H
   have ad9:(b4 == 4 && (bk == 0 && (bn == 0 && (bw == 0))))=true:=kr
   (try(have hw6:decide (b4=4 && (bk == 0 && (bn == 0 && (bw == 0))))=true:=by simpa using kr))
   (try(have hw7:(b4 == 4 && (bk == 0 && (bn == 0 && (bw == 0))))=true:=by simpa using kr))
   clear kr
   (first|rw[ad9]|(simp only[i64_w,i32_w];rw[ad9])|skip)
   have H':=A_ H
   clear H
   have fv6:=bk4.out
   have fv7:=bk3.out
   have eq6:=cc9.out
   have eq7:=cd0.out
   have kk3:=ae8.out
   have kk4:=bs4.out
   obtain⟨gv3,gv4,kk5,kk6,gv5,gv6,kk7,kk8⟩:=blk4_ hz
   have cu9:=bs2.out
   have cv0:=bs3.out
   have fj4:=ah3.out
   have fj5:=cd1.out
   obtain⟨ch0,ch1,dh6,ch2,ch3,dh7⟩:=blk3_ fh
   go_wp2
   go_meet
   case rel=>exact⟨_,(decide ((av.length:Int) > 0)),(g3_),H',⟨g9_⟩,⟨ra_ be5⟩,⟨sa_ be6⟩,⟨Kd.Q_of_R (ra_ ar6)⟩,⟨ba_ fh⟩,⟨ba_ hz⟩,⟨ba_ gd⟩,⟨ba_ g7⟩,⟨l5⟩⟩
  rw[if_neg kr] at H
  have ad9:(b4 == 4 && (bk == 0 && (bn == 0 && (bw == 0))))=false:=by simpa using kr
  (try(have hw6:decide (b4=4 && (bk == 0 && (bn == 0 && (bw == 0))))=false:=by simpa using kr))
  (try(have hw7:(b4 == 4 && (bk == 0 && (bn == 0 && (bw == 0))))=false:=by simpa using kr))
  (try(have mu5:¬ (b4=4 && (bk == 0 && (bn == 0 && (bw == 0)))):=by simpa using kr))
  clear kr
  (first|rw[ad9]|(simp only[i64_w,i32_w];rw[ad9])|skip)
  have H':=A_ H
  clear H
  have cb8:=bk4.out
  have cb9:=bk3.out
  have bo5:=cc9.out
  have bo6:=cd0.out
  have cy5:=ae8.out
  have cy6:=bs4.out
  obtain⟨bi2,bi3,br9,er3,bi4,bi5,bs0,er4⟩:=blk4_ hz
  go_wp2
  go_meet
  case rel=>exact⟨_,(false),(g3_),H',⟨g9_⟩,⟨ra_ be5⟩,⟨sa_ be6⟩,⟨Kd.Q_of_R (ra_ ar6)⟩,⟨ba_ fh⟩,⟨ba_ hz⟩,⟨ba_ gd⟩,⟨ba_ g7⟩,⟨l5⟩⟩
 clear HC6
 obtain⟨kq,es7,rfl,HA,HJ5,pe,tf,ly,fh,hz,gd,g7,HB⟩:=hcut
 cases kq with
 | zero=>exact absurd HA.out (by simp[Gf.j0])
 | succ kj5=>?_
 have H:=HA.out
 clear HA
 simp only[Gf.j0] at H
 by_cases rg:es7=true
 ·subst rg
  replace H:=ifp_ H
  exact absurd H (by simp)
 replace rg:=Bool.eq_false_iff.mpr rg
 subst rg
 replace H:=ifn_ H
 replace H:=Option.bind_eq_some_iff.mp H
 obtain⟨⟨gp,fe,uw⟩,hw8,H⟩:=H
 try dsimp only at H
 have A37:=A_ hw8
 clear hw8
 by_cases c38:uw=true
 case neg=>
  replace c38:=Bool.eq_false_iff.mpr c38
  subst c38
  replace H:=ifn_ H
  simp only[Option.some.injEq,Prod.mk.injEq] at H
  obtain⟨rfl,rfl,rfl,rfl⟩:=H
  have fz0:=bk3.out
  have fz1:=bk4.out
  have ko2:=bs2.out
  have ko3:=bs3.out
  have ko4:=ah3.out
  have ko5:=cd1.out
  obtain⟨ia2,ia3,ia4,ia5,ia6,ia7⟩:=blk3_ fh
  have ko6:=cc9.out
  have ko7:=cd0.out
  have mw8:=ae8.out
  have mw9:=bs4.out
  obtain⟨mx0,mx1,mx2,mx3,mx4,mx5,mx6,mx7⟩:=blk4_ hz
  go_wp2_with (first|((with_reducible refine gc_ 101 ?_);refine gl_ 45 Try.func101 #[.agg #[.slice ah ab.length af, .slice ao aa.length ai], .agg #[.int .i64 b4, .int .i64 bk, .int .i64 bn, .int .i64 bw]] ?_;(refine(Fu.calls kj5 _ _ ab _ _ aa b4 bk bn bw gp fe false _ (uC_ dp) ec.out (uC_ df) ee.out A37.out).mono ?_);rintro e ia8 ⟨hy0,tg,rfl,ae,ax,hb⟩;refine⟨_,rfl,?_⟩;replace ly:=A_ (Kd.Q_mono (Kd.Q_told (Kd.Q_told (Kd.Q_old (uQ_ ly) hb) (Kd.R_base ae)) (Kd.S_base ax)) (fun _ h_=>h_.1));have sf:=A_ (Kd.R_lower (Kd.R_new' ae (Kd.R_lt (uR_ pe))) (Gz (l5)));have lk:=A_ (Kd.S_lower (Kd.S_new' (Kd.S_new' ax (Kd.R_lt (uR_ pe))) (Kd.S_lt (uS_ tf))) (Gz (l5)));replace pe:=A_ (Kd.R_elder' (uR_ pe) (Kd.R_base ae) hb);replace tf:=A_ (Kd.S_mono (Kd.S_told (Kd.S_told (Kd.S_old (uS_ tf) hb) (Kd.R_base ae)) (Kd.S_base ax)) (fun _ h_=>h_.1));replace fh:=bb_ fh hb;replace hz:=bb_ hz hb;replace gd:=bb_ gd hb;replace g7:=bb_ g7 hb;replace HB:=hs_ (l5) hb)|((with_reducible refine gd_ 8 ?_);(try(refine gate_guard (by rfl) ?_;dsimp only));refine bx_ (N:=8) #[.slice none 0 0, .slice none 0 0] 25 ?_;intro fc hg ko8 hbox hb;replace pe:=rb_ pe hb;replace tf:=sb_ tf hb;replace ly:=A_ (Kd.Q_below (Kd.Q_elderB (uQ_ ly) fc (Nat.le_of_eq hg.symm)) hb);replace sf:=rb_ sf hb;replace lk:=sb_ lk hb;have n8:=A_ (hbox);have hy1:=A_ ((g18_:w.heap.size<=fc));have fx4:=hy1;replace HB:=hs_ (l5) hb;have bs5:=nl_ fh hg;have du8:=nr_ fh hg;replace fh:=bb_ fh hb;have bs6:=nl_ hz hg;have du9:=nr_ hz hg;replace hz:=bb_ hz hb;have be8:=nl_ gd hg;have dv0:=nr_ gd hg;replace gd:=bb_ gd hb;have bs7:=nl_ g7 hg;have cz1:=nr_ g7 hg;replace g7:=bb_ g7 hb;clear hb hbox hg;obtain⟨bs8,bs9,fz2⟩:=Kd.R_slice sf.out;subst fz2;have mx8:=du8.out;have mx9:=bs5.out;have hs8:=du9.out;have ht1:=bs6.out;have fw7:=dv0.out;have fw8:=be8.out;have fw9:=cz1.out;have fx0:=bs7.out;obtain⟨ht3,ht4,ht5,ht6⟩:=blk2_ n8;obtain⟨fz3,fz4,ko9⟩:=Kd.S_slice lk.out;subst ko9;have ke8:=cn8.out;have ke9:=wx.out;obtain⟨kf0,kf1,my0,kf2,kf3,my1⟩:=blk3_ g7;obtain⟨ia9,ib0,kp0,ib1,ib2,kp1⟩:=blk3_ gd))
  refine bodyPost_ret (Jm rfl _ _ ei 28 #[.slice ia g8.length h7, .slice jk i6.length i9, .slice lq e9.length g5] (0,0) _ rfl (ba_ gd) Try.underlying28 rfl (g0_)) rfl ?_
  exact⟨_,_,_,g4_,ra_ pe,sa_ tf,qa_ ly,l5⟩
 subst c38
 replace H:=ifp_ H
 obtain⟨yc,H⟩:=pos_ H
 have hw9:=A_ yc
 clear yc
 obtain⟨o1,hyq⟩:∃y_:List (S25),y_=(e9 ++ [(⟨g8,i6⟩:S25)]):=⟨_,rfl⟩
 replace H:(if (o1.length:Int) > 8 then(if 1<=(o1.length:Int) then(some (gp,fe,(o1.drop (1:Int).toNat),true)) else(none)) else(some (gp,fe,o1,true)))=some (r1,r2,r3,r4):=qh_
 have hx3:=A_ hyq
 clear hyq
 by_cases c40:(o1.length:Int) > 8
 ·rw[if_pos c40] at H
  have hf1:=decide_eq_true c40
  have kk9:decide (8 < o1.length)=true:=decide_eq_true (by omega)
  clear c40
  obtain⟨oz,H⟩:=pos_ H
  have ca6:=eq_true oz
  have cx3:=decide_eq_true oz
  clear oz
  obtain⟨ax7,hyq⟩:∃y_:List (S25),y_=(o1.drop (1:Int).toNat):=⟨_,rfl⟩
  replace H:(some (gp,fe,ax7,true))=some (r1,r2,r3,r4):=qh_
  have hx7:=A_ hyq
  clear hyq
  simp only[Option.some.injEq,Prod.mk.injEq] at H
  obtain⟨rfl,rfl,rfl,rfl⟩:=H
  have kl0:=bk3.out
  have kl1:=bk4.out
  have kl2:=bs2.out
  have kl3:=bs3.out
  have fs7:=ah3.out
  have fs8:=cd1.out
  obtain⟨kl4,kl5,kl6,kl7,kl8,kl9⟩:=blk3_ fh
  have el7:=cc9.out
  have el8:=cd0.out
  have eq3:=ae8.out
  have eq4:=bs4.out
  obtain⟨ds2,ds3,hx8,mu6,ds4,ds5,hx9,mu7⟩:=blk4_ hz
  go_wp2_with (first|((with_reducible refine gc_ 101 ?_);refine gl_ 45 Try.func101 #[.agg #[.slice ah ab.length af, .slice ao aa.length ai], .agg #[.int .i64 b4, .int .i64 bk, .int .i64 bn, .int .i64 bw]] ?_;(refine(Fu.calls kj5 _ _ ab _ _ aa b4 bk bn bw gp fe true _ (uC_ dp) ec.out (uC_ df) ee.out A37.out).mono ?_);rintro e w49 ⟨hy0,tg,rfl,ae,ax,hb⟩;refine⟨_,rfl,?_⟩;replace ly:=A_ (Kd.Q_mono (Kd.Q_told (Kd.Q_told (Kd.Q_old (uQ_ ly) hb) (Kd.R_base ae)) (Kd.S_base ax)) (fun _ h_=>h_.1));have sf:=A_ (Kd.R_lower (Kd.R_new' ae (Kd.R_lt (uR_ pe))) (Gz (l5)));have lk:=A_ (Kd.S_lower (Kd.S_new' (Kd.S_new' ax (Kd.R_lt (uR_ pe))) (Kd.S_lt (uS_ tf))) (Gz (l5)));replace pe:=A_ (Kd.R_elder' (uR_ pe) (Kd.R_base ae) hb);replace tf:=A_ (Kd.S_mono (Kd.S_told (Kd.S_told (Kd.S_old (uS_ tf) hb) (Kd.R_base ae)) (Kd.S_base ax)) (fun _ h_=>h_.1));replace fh:=bb_ fh hb;replace hz:=bb_ hz hb;replace gd:=bb_ gd hb;replace g7:=bb_ g7 hb;replace HB:=hs_ (l5) hb)|((with_reducible refine gd_ 8 ?_);(try(refine gate_guard (by rfl) ?_;dsimp only));refine bx_ (N:=8) #[.slice none 0 0, .slice none 0 0] 25 ?_;intro fc hg w50 hbox hb;replace pe:=rb_ pe hb;replace tf:=sb_ tf hb;replace ly:=A_ (Kd.Q_below (Kd.Q_elderB (uQ_ ly) fc (Nat.le_of_eq hg.symm)) hb);replace sf:=rb_ sf hb;replace lk:=sb_ lk hb;have n8:=A_ (hbox);have hy1:=A_ ((g18_:w.heap.size<=fc));have fx4:=hy1;replace HB:=hs_ (l5) hb;have bs5:=nl_ fh hg;have du8:=nr_ fh hg;replace fh:=bb_ fh hb;have bs6:=nl_ hz hg;have du9:=nr_ hz hg;replace hz:=bb_ hz hb;have be8:=nl_ gd hg;have dv0:=nr_ gd hg;replace gd:=bb_ gd hb;have bs7:=nl_ g7 hg;have cz1:=nr_ g7 hg;replace g7:=bb_ g7 hb;clear hb hbox hg;obtain⟨k9,la,cn9⟩:=Kd.R_slice sf.out;subst cn9;have hy2:=du8.out;have hy3:=bs5.out;have hy4:=du9.out;have hy5:=bs6.out;have mu8:=dv0.out;have mu9:=be8.out;have jo9:=cz1.out;have jp0:=bs7.out;obtain⟨fn1,fn2,fn3,fn4⟩:=blk2_ n8;obtain⟨ol,n9,fx5⟩:=Kd.S_slice lk.out;subst fx5)|((with_reducible refine gate_store (t:=25) (p:=8) rfl ?_);refine store_event (t:=25) (p:=8) (v:=?vo_w58) (w1:=((w50.setCell ⟨fc,0,none⟩ (.slice k9 gp.length la)).setCell ⟨fc,1,none⟩ (.slice ol fe.length n9))) ?hg ?ho ?hn ?hr ?_;(case ho=>rfl);(case hg=>rfl);(case hn=>rfl);(case hr=>first|(go_simp;done)|(go_simp;rfl)|(obtain⟨_,_,e0_⟩:=Kd.R_slice pe.out;rw[e0_];first|(go_simp;done)|(go_simp;rfl)));intro m0 hw;replace pe:Gx (Kd.R (Kd.int .i64) 3 m0 w.heap.size (fun k_=>some k_≠(.slice k9 gp.length la:Value).ownBlock) (.slice ia g8.length h7) g8):=⟨(by rw[hw];exact(ra_ pe))⟩;replace tf:Gx (Kd.S (Kd.slice 3 (Kd.int .i64)) 22 m0 w.heap.size (fun k_=>some k_≠(.slice ia g8.length h7:Value).ownBlock/\some k_≠(.slice k9 gp.length la:Value).ownBlock/\some k_≠(.slice ol fe.length n9:Value).ownBlock) (.slice jk i6.length i9) i6):=⟨(by rw[hw];exact(sa_ tf))⟩;replace ly:Gx (Kd.Q k25 25 m0 w.heap.size (fun k_=>some k_≠(.slice ia g8.length h7:Value).ownBlock/\some k_≠(.slice jk i6.length i9:Value).ownBlock/\some k_≠(.slice k9 gp.length la:Value).ownBlock/\some k_≠(.slice ol fe.length n9:Value).ownBlock/\k_≠fc) (.slice lq e9.length g5) e9):=⟨(by rw[hw];exact(qa_ ly))⟩;replace sf:Gx (Kd.R (Kd.int .i64) 3 m0 w.heap.size (fun k_=>some k_≠(.slice ia g8.length h7:Value).ownBlock) (.slice k9 gp.length la) gp):=⟨(by rw[hw];exact(ra_ sf))⟩;replace lk:Gx (Kd.S (Kd.slice 3 (Kd.int .i64)) 22 m0 w.heap.size (fun k_=>some k_≠(.slice ia g8.length h7:Value).ownBlock/\some k_≠(.slice jk i6.length i9:Value).ownBlock/\some k_≠(.slice k9 gp.length la:Value).ownBlock) (.slice ol fe.length n9) fe):=⟨(by rw[hw];exact(sa_ lk))⟩;replace fh:Gx (hc_ m0 je #[.slice ah ab.length af, .slice ao aa.length ai, .slice cy av.length cu] 28):=⟨(by rw[hw];exact(ba_ fh))⟩;replace hz:Gx (hc_ m0 jo #[.int .i64 b4, .int .i64 bk, .int .i64 bn, .int .i64 bw] 69):=⟨(by rw[hw];exact(ba_ hz))⟩;replace gd:Gx (hc_ m0 ei #[.slice none 0 0, .slice none 0 0, .slice none 0 0] 28):=⟨(by rw[hw];exact(ba_ gd))⟩;replace g7:Gx (hc_ m0 dc #[.slice ia g8.length h7, .slice jk i6.length i9, .slice lq e9.length g5] 28):=⟨(by rw[hw];exact(ba_ g7))⟩;replace n8:Gx (hc_ m0 fc #[.slice k9 gp.length la, .slice ol fe.length n9] 25):=⟨(by rw[hw];exact(ba_ n8))⟩;replace HB:Gx (Below w.heap.size w m0):=⟨(by rw[hw];exact(l5))⟩;clear hw;have hy6:=cn8.out;have hy7:=wx.out;obtain⟨jr3,jr4,mv0,jr5,jr6,mv1⟩:=blk3_ g7)|((with_reducible refine gate_builtin (b:=.append) (xs:=#[.tmp 52, .tmp 55]) rfl ?_);(try(refine gate_guard (by rfl) ?_;dsimp only));at_builtin;refine Kd.Q_append k25 (w0:=w) w.heap.size rfl (.tmp 52) (.tmp 55) 26 25 (.agg #[(.slice none 0 0),(.slice none 0 0)]) 48 rfl Try.underlying26 info25 rfl (by decide) (by omega) (.slice lq e9.length g5) e9 (⟨g8,i6⟩:S25) [.slice ia g8.length h7, .slice jk i6.length i9] (fun k_=>some k_≠(.slice k9 gp.length la:Value).ownBlock/\some k_≠(.slice ol fe.length n9:Value).ownBlock/\k_≠fc) (fun k_=>((fun k_=>some k_≠(.slice k9 gp.length la:Value).ownBlock/\some k_≠(.slice ol fe.length n9:Value).ownBlock/\k_≠fc)) k_/\some k_≠(.slice lq e9.length g5:Value).ownBlock) rfl rfl ?aP (fun _ hk=>hk) ?aF ?aO ?aB ?aS ?aL ?_;(case aP=>exact k25_mkM _ _ _ (⟨g8,i6⟩:S25) (Kd.R_mono (Kd.R_types (Kd.R_apart' (Kd.R_apart' (pe.out) (Kd.S_typed lk.out) (by decide)) (Kd.Q_typed ly.out) (by decide)) n8.out (by decide)) (fun k_ hk=>⟨⟨hk.1.1.1,⟨hk.1.1.2,hk.2⟩⟩,hk.1.2⟩)) (Kd.R_mono (Kd.R_types (Kd.R_apart' ((Kd.S_R tf.out)) (Kd.Q_typed ly.out) (by decide)) n8.out (by decide)) (fun k_ hk=>⟨⟨hk.1.1.2.1,⟨hk.1.1.2.2,hk.2⟩⟩,hk.1.2⟩)));(case aB=>exact(l5));(case aF=>exact(fun k_ hk=>⟨Kd.fresh' (Kd.R_lt (uR_ sf)) k_ hk,Kd.fresh' (Kd.S_lt (uS_ lk)) k_ hk,Kd.freshB (g:=fc) (o:=.cells #[.slice k9 gp.length la, .slice ol fe.length n9] 25 (0,0)) (uB_ n8) k_ hk⟩));(case aO=>exact(yQ_ ly (fun _ hk=>⟨hk.2.2.1,⟨hk.2.2.2.1,hk.2.2.2.2⟩⟩)));(case aS=>exact(Gz (l5)));(case aL=>have:=hw9.out;omega);intro km0 w61 ho hb hg hat;rw[<- hx3.out] at ho;replace fh:=(bg_ fh hg (Kd.Q_ne ly.out fh.out (by decide)));replace hz:=(bg_ hz hg (Kd.Q_ne ly.out hz.out (by decide)));replace gd:=(bg_ gd hg (Kd.Q_ne ly.out gd.out (by decide)));replace g7:=(bg_ g7 hg (Kd.Q_ne ly.out g7.out (by decide)));replace sf:=A_ (Kd.R_over' (uR_ sf) (Kd.Q_typed (uQ_ ly)) (by decide) hg);replace lk:=A_ (Kd.S_over' (uS_ lk) (Kd.Q_typed (uQ_ ly)) (by decide) hg);replace n8:=(bg_ n8 hg (Kd.Q_away ly.out (fun _ hk=>hk.2.2.2.2)));replace HB:=A_ (hb);have cd2:=A_ (ho);clear ly pe tf;clear ho hb hg hat;obtain⟨ae9,ah4,fx6,_⟩:=Kd.Q_slice cd2.out;subst fx6;obtain⟨es8,es9,hy8,et0,et1,hy9⟩:=blk3_ g7)|((with_reducible refine gate_store (t:=26) (p:=57) rfl ?_);refine store_event (t:=26) (p:=57) (v:=?vo_w64) (w1:=(w61.setCell ⟨dc,2,none⟩ (.slice ae9 o1.length ah4))) ?hg ?ho ?hn ?hr ?_;(case ho=>rfl);(case hg=>rfl);(case hn=>rfl);(case hr=>first|(go_simp;done)|(go_simp;rfl)|(obtain⟨_,_,e0_⟩:=Kd.R_slice pe.out;rw[e0_];first|(go_simp;done)|(go_simp;rfl)));intro w64 hw;replace sf:Gx (Kd.R (Kd.int .i64) 3 w64 w.heap.size (fun _=>True) (.slice k9 gp.length la) gp):=⟨(by rw[hw];exact(ra_ sf))⟩;replace lk:Gx (Kd.S (Kd.slice 3 (Kd.int .i64)) 22 w64 w.heap.size (fun k_=>some k_≠(.slice k9 gp.length la:Value).ownBlock) (.slice ol fe.length n9) fe):=⟨(by rw[hw];exact(sa_ lk))⟩;replace cd2:Gx (Kd.Q k25 25 w64 w.heap.size (fun k_=>some k_≠(.slice k9 gp.length la:Value).ownBlock/\some k_≠(.slice ol fe.length n9:Value).ownBlock/\k_≠fc) (.slice ae9 o1.length ah4) o1):=⟨(by rw[hw];exact(qa_ cd2))⟩;replace fh:Gx (hc_ w64 je #[.slice ah ab.length af, .slice ao aa.length ai, .slice cy av.length cu] 28):=⟨(by rw[hw];exact(ba_ fh))⟩;replace hz:Gx (hc_ w64 jo #[.int .i64 b4, .int .i64 bk, .int .i64 bn, .int .i64 bw] 69):=⟨(by rw[hw];exact(ba_ hz))⟩;replace gd:Gx (hc_ w64 ei #[.slice none 0 0, .slice none 0 0, .slice none 0 0] 28):=⟨(by rw[hw];exact(ba_ gd))⟩;replace g7:Gx (hc_ w64 dc #[.slice ia g8.length h7, .slice jk i6.length i9, .slice ae9 o1.length ah4] 28):=⟨(by rw[hw];exact(ba_ g7))⟩;replace n8:Gx (hc_ w64 fc #[.slice k9 gp.length la, .slice ol fe.length n9] 25):=⟨(by rw[hw];exact(ba_ n8))⟩;replace HB:Gx (Below w.heap.size w w64):=⟨(by rw[hw];exact(l5))⟩;clear hw;obtain⟨hz1,hz2,mv2,hz3,hz4,mv3⟩:=blk3_ g7;have q66:(1:Int)<=((o1.length:Int):Int):=od_;obtain⟨i066,hz5,_,hsz66,_⟩:=info_parts info25;have hcut66:=cut_from (P:=Try.prog) 26 25 .i64 Try.underlying26 hz5 2 hsz66 ae9 o1.length ah4 1 (by omega) q66;have dv1:=Kd.Q_drop (k:=(1:Int).toNat) cd2.out (by omega);obtain⟨A66,hA66⟩:∃A1,A1=(if ah4=(1:Int).toNat then ae9 else(ae9:Option Addr).map (·.add ((1:Int).toNat * 2))):=⟨_,rfl⟩;obtain⟨c66,fx7⟩:∃c1,c1=ah4 - (1:Int).toNat:=⟨_,rfl⟩;have hy66:ax7.length=o1.length - (1:Int).toNat:=(by rw[hx7.out,List.length_drop]);rw[<- hx7.out] at dv1;rw[<- hy66, <- hA66, <- fx7] at hcut66;replace dv1:Kd.Q k25 25 w64 w.heap.size (fun k_=>some k_≠(.slice k9 gp.length la:Value).ownBlock/\some k_≠(.slice ol fe.length n9:Value).ownBlock/\k_≠fc) (.slice A66 ax7.length c66) ax7:=(by rw[hA66,fx7,hy66];exact dv1);have HE66:Gx ((Value.slice A66 ax7.length c66).ownBlock=(.slice ae9 o1.length ah4:Value).ownBlock):=⟨by rw[hA66];split <;> (cases(ae9:Option Addr) <;> rfl)⟩;clear hy66 hz5 hsz66 cd2 hA66 fx7;have km1:=A_ dv1;clear dv1;replace q66:=eq_true q66;obtain⟨km2,km3,km4,km5⟩:=blk2_ n8;obtain⟨dt9,du0,du1,du2,du3,du4⟩:=blk3_ gd))
  refine bodyPost_ret (Jm rfl _ _ ei 28 #[.slice k9 gp.length la, .slice ol fe.length n9, .slice A66 ax7.length c66] (0,0) _ rfl (ba_ gd) Try.underlying28 rfl (g0_)) rfl ?_
  exact⟨_,_,_,g4_,ra_ sf,sa_ lk,qa_ km1,l5⟩
 rw[if_neg c40] at H
 have hf1:=decide_eq_false c40
 have kk9:decide (8 < o1.length)=false:=decide_eq_false (by omega)
 clear c40
 simp only[Option.some.injEq,Prod.mk.injEq] at H
 obtain⟨rfl,rfl,rfl,rfl⟩:=H
 have et2:=bk3.out
 have et3:=bk4.out
 have fw0:=bs2.out
 have fw1:=bs3.out
 have fw2:=ah3.out
 have fw3:=cd1.out
 obtain⟨fx8,fx9,km6,fy0,fy1,km7⟩:=blk3_ fh
 have km8:=cc9.out
 have km9:=cd0.out
 have es2:=ae8.out
 have es3:=bs4.out
 obtain⟨fy2,fy3,fy4,fy5,fy6,fy7,fy8,fy9⟩:=blk4_ hz
 go_wp2_with (first|((with_reducible refine gc_ 101 ?_);refine gl_ 45 Try.func101 #[.agg #[.slice ah ab.length af, .slice ao aa.length ai], .agg #[.int .i64 b4, .int .i64 bk, .int .i64 bn, .int .i64 bw]] ?_;(refine(Fu.calls kj5 _ _ ab _ _ aa b4 bk bn bw gp fe true _ (uC_ dp) ec.out (uC_ df) ee.out A37.out).mono ?_);rintro e w76 ⟨hy0,tg,rfl,ae,ax,hb⟩;refine⟨_,rfl,?_⟩;replace ly:=A_ (Kd.Q_mono (Kd.Q_told (Kd.Q_told (Kd.Q_old (uQ_ ly) hb) (Kd.R_base ae)) (Kd.S_base ax)) (fun _ h_=>h_.1));have sf:=A_ (Kd.R_lower (Kd.R_new' ae (Kd.R_lt (uR_ pe))) (Gz (l5)));have lk:=A_ (Kd.S_lower (Kd.S_new' (Kd.S_new' ax (Kd.R_lt (uR_ pe))) (Kd.S_lt (uS_ tf))) (Gz (l5)));replace pe:=A_ (Kd.R_elder' (uR_ pe) (Kd.R_base ae) hb);replace tf:=A_ (Kd.S_mono (Kd.S_told (Kd.S_told (Kd.S_old (uS_ tf) hb) (Kd.R_base ae)) (Kd.S_base ax)) (fun _ h_=>h_.1));replace fh:=bb_ fh hb;replace hz:=bb_ hz hb;replace gd:=bb_ gd hb;replace g7:=bb_ g7 hb;replace HB:=hs_ (l5) hb)|((with_reducible refine gd_ 8 ?_);(try(refine gate_guard (by rfl) ?_;dsimp only));refine bx_ (N:=8) #[.slice none 0 0, .slice none 0 0] 25 ?_;intro fc hg w77 hbox hb;replace pe:=rb_ pe hb;replace tf:=sb_ tf hb;replace ly:=A_ (Kd.Q_below (Kd.Q_elderB (uQ_ ly) fc (Nat.le_of_eq hg.symm)) hb);replace sf:=rb_ sf hb;replace lk:=sb_ lk hb;have n8:=A_ (hbox);have hy1:=A_ ((g18_:w.heap.size<=fc));have fx4:=hy1;replace HB:=hs_ (l5) hb;have bs5:=nl_ fh hg;have du8:=nr_ fh hg;replace fh:=bb_ fh hb;have bs6:=nl_ hz hg;have du9:=nr_ hz hg;replace hz:=bb_ hz hb;have be8:=nl_ gd hg;have dv0:=nr_ gd hg;replace gd:=bb_ gd hb;have bs7:=nl_ g7 hg;have cz1:=nr_ g7 hg;replace g7:=bb_ g7 hb;clear hb hbox hg;obtain⟨rp,rq,kn0⟩:=Kd.R_slice sf.out;subst kn0;have hq8:=du8.out;have hq9:=bs5.out;have hr3:=du9.out;have hr4:=bs6.out;have hz6:=dv0.out;have hz7:=be8.out;have fw4:=cz1.out;have fw5:=bs7.out;obtain⟨kn1,kn2,kn3,kn4⟩:=blk2_ n8;obtain⟨ux,uy,kn5⟩:=Kd.S_slice lk.out;subst kn5)|((with_reducible refine gate_store (t:=25) (p:=8) rfl ?_);refine store_event (t:=25) (p:=8) (v:=?vo_w85) (w1:=((w77.setCell ⟨fc,0,none⟩ (.slice rp gp.length rq)).setCell ⟨fc,1,none⟩ (.slice ux fe.length uy))) ?hg ?ho ?hn ?hr ?_;(case ho=>rfl);(case hg=>rfl);(case hn=>rfl);(case hr=>first|(go_simp;done)|(go_simp;rfl)|(obtain⟨_,_,e0_⟩:=Kd.R_slice pe.out;rw[e0_];first|(go_simp;done)|(go_simp;rfl)));intro w85 hw;replace pe:Gx (Kd.R (Kd.int .i64) 3 w85 w.heap.size (fun k_=>some k_≠(.slice rp gp.length rq:Value).ownBlock) (.slice ia g8.length h7) g8):=⟨(by rw[hw];exact(ra_ pe))⟩;replace tf:Gx (Kd.S (Kd.slice 3 (Kd.int .i64)) 22 w85 w.heap.size (fun k_=>some k_≠(.slice ia g8.length h7:Value).ownBlock/\some k_≠(.slice rp gp.length rq:Value).ownBlock/\some k_≠(.slice ux fe.length uy:Value).ownBlock) (.slice jk i6.length i9) i6):=⟨(by rw[hw];exact(sa_ tf))⟩;replace ly:Gx (Kd.Q k25 25 w85 w.heap.size (fun k_=>some k_≠(.slice ia g8.length h7:Value).ownBlock/\some k_≠(.slice jk i6.length i9:Value).ownBlock/\some k_≠(.slice rp gp.length rq:Value).ownBlock/\some k_≠(.slice ux fe.length uy:Value).ownBlock/\k_≠fc) (.slice lq e9.length g5) e9):=⟨(by rw[hw];exact(qa_ ly))⟩;replace sf:Gx (Kd.R (Kd.int .i64) 3 w85 w.heap.size (fun k_=>some k_≠(.slice ia g8.length h7:Value).ownBlock) (.slice rp gp.length rq) gp):=⟨(by rw[hw];exact(ra_ sf))⟩;replace lk:Gx (Kd.S (Kd.slice 3 (Kd.int .i64)) 22 w85 w.heap.size (fun k_=>some k_≠(.slice ia g8.length h7:Value).ownBlock/\some k_≠(.slice jk i6.length i9:Value).ownBlock/\some k_≠(.slice rp gp.length rq:Value).ownBlock) (.slice ux fe.length uy) fe):=⟨(by rw[hw];exact(sa_ lk))⟩;replace fh:Gx (hc_ w85 je #[.slice ah ab.length af, .slice ao aa.length ai, .slice cy av.length cu] 28):=⟨(by rw[hw];exact(ba_ fh))⟩;replace hz:Gx (hc_ w85 jo #[.int .i64 b4, .int .i64 bk, .int .i64 bn, .int .i64 bw] 69):=⟨(by rw[hw];exact(ba_ hz))⟩;replace gd:Gx (hc_ w85 ei #[.slice none 0 0, .slice none 0 0, .slice none 0 0] 28):=⟨(by rw[hw];exact(ba_ gd))⟩;replace g7:Gx (hc_ w85 dc #[.slice ia g8.length h7, .slice jk i6.length i9, .slice lq e9.length g5] 28):=⟨(by rw[hw];exact(ba_ g7))⟩;replace n8:Gx (hc_ w85 fc #[.slice rp gp.length rq, .slice ux fe.length uy] 25):=⟨(by rw[hw];exact(ba_ n8))⟩;replace HB:Gx (Below w.heap.size w w85):=⟨(by rw[hw];exact(l5))⟩;clear hw;have kn6:=cn8.out;have kn7:=wx.out;obtain⟨kn8,kn9,mv4,ko0,ko1,mv5⟩:=blk3_ g7)|((with_reducible refine gate_builtin (b:=.append) (xs:=#[.tmp 52, .tmp 55]) rfl ?_);(try(refine gate_guard (by rfl) ?_;dsimp only));at_builtin;refine Kd.Q_append k25 (w0:=w) w.heap.size rfl (.tmp 52) (.tmp 55) 26 25 (.agg #[(.slice none 0 0),(.slice none 0 0)]) 48 rfl Try.underlying26 info25 rfl (by decide) (by omega) (.slice lq e9.length g5) e9 (⟨g8,i6⟩:S25) [.slice ia g8.length h7, .slice jk i6.length i9] (fun k_=>some k_≠(.slice rp gp.length rq:Value).ownBlock/\some k_≠(.slice ux fe.length uy:Value).ownBlock/\k_≠fc) (fun k_=>((fun k_=>some k_≠(.slice rp gp.length rq:Value).ownBlock/\some k_≠(.slice ux fe.length uy:Value).ownBlock/\k_≠fc)) k_/\some k_≠(.slice lq e9.length g5:Value).ownBlock) rfl rfl ?aP (fun _ hk=>hk) ?aF ?aO ?aB ?aS ?aL ?_;(case aP=>exact k25_mkM _ _ _ (⟨g8,i6⟩:S25) (Kd.R_mono (Kd.R_types (Kd.R_apart' (Kd.R_apart' (pe.out) (Kd.S_typed lk.out) (by decide)) (Kd.Q_typed ly.out) (by decide)) n8.out (by decide)) (fun k_ hk=>⟨⟨hk.1.1.1,⟨hk.1.1.2,hk.2⟩⟩,hk.1.2⟩)) (Kd.R_mono (Kd.R_types (Kd.R_apart' ((Kd.S_R tf.out)) (Kd.Q_typed ly.out) (by decide)) n8.out (by decide)) (fun k_ hk=>⟨⟨hk.1.1.2.1,⟨hk.1.1.2.2,hk.2⟩⟩,hk.1.2⟩)));(case aB=>exact(l5));(case aF=>exact(fun k_ hk=>⟨Kd.fresh' (Kd.R_lt (uR_ sf)) k_ hk,Kd.fresh' (Kd.S_lt (uS_ lk)) k_ hk,Kd.freshB (g:=fc) (o:=.cells #[.slice rp gp.length rq, .slice ux fe.length uy] 25 (0,0)) (uB_ n8) k_ hk⟩));(case aO=>exact(yQ_ ly (fun _ hk=>⟨hk.2.2.1,⟨hk.2.2.2.1,hk.2.2.2.2⟩⟩)));(case aS=>exact(Gz (l5)));(case aL=>have:=hw9.out;omega);intro km0 w88 ho hb hg hat;rw[<- hx3.out] at ho;replace fh:=(bg_ fh hg (Kd.Q_ne ly.out fh.out (by decide)));replace hz:=(bg_ hz hg (Kd.Q_ne ly.out hz.out (by decide)));replace gd:=(bg_ gd hg (Kd.Q_ne ly.out gd.out (by decide)));replace g7:=(bg_ g7 hg (Kd.Q_ne ly.out g7.out (by decide)));replace sf:=A_ (Kd.R_over' (uR_ sf) (Kd.Q_typed (uQ_ ly)) (by decide) hg);replace lk:=A_ (Kd.S_over' (uS_ lk) (Kd.Q_typed (uQ_ ly)) (by decide) hg);replace n8:=(bg_ n8 hg (Kd.Q_away ly.out (fun _ hk=>hk.2.2.2.2)));replace HB:=A_ (hb);have cd2:=A_ (ho);clear ly pe tf;clear ho hb hg hat;obtain⟨ex,ey,cz2,_⟩:=Kd.Q_slice cd2.out;subst cz2;obtain⟨mv6,mv7,mv8,mv9,mw0,mw1⟩:=blk3_ g7;obtain⟨mw2,mw3,mw4,mw5⟩:=blk2_ n8;obtain⟨hz8,hz9,mw6,ia0,ia1,mw7⟩:=blk3_ gd))
 refine bodyPost_ret (Jm rfl _ _ ei 28 #[.slice rp gp.length rq, .slice ux fe.length uy, .slice ex o1.length ey] (0,0) _ rfl (ba_ gd) Try.underlying28 rfl (g0_)) rfl ?_
 exact⟨_,_,_,g4_,ra_ sf,sa_ lk,qa_ cd2,l5⟩
set_option maxHeartbeats 8000000 in
set_option maxRecDepth 100000 in
theorem Ge.back (k:Nat) (ah:Option Addr) (af:Nat) (ab:List Int) (ao:Option Addr) (ai:Nat) (aa:List (List Int)) (cy:Option Addr) (cu:Nat) (av:List (S25)) (w:World) (d4:Kd.C (Kd.int .i64) w ah ab.length ab) (d9:ab.length<=af) (d5:Kd.C (Kd.slice 3 (Kd.int .i64)) w ao aa.length aa) (ea:aa.length<=ai) (l6:Kd.C k25 w cy av.length av) (l7:av.length<=cu) (g8:List Int) (i6:List (List Int)) (e9:List S25) (n:Nat) (hd:Fw.f k ab aa av=some true) (hcp:Fm.f k ab aa av=some (g8,i6,e9)) (hn:e9.length=n + 1) (hmx:n < 2932031007402) (hp:0 < av.length) :
  Calls Try.prog 54 #[.agg #[.slice ah ab.length af, .slice ao aa.length ai, .slice cy av.length cu], .agg #[.int .i64 4, .int .i64 0, .int .i64 0, .int .i64 0]] w fun e w'=>∃v0_ v1_ v2_:Value,e = .returned (.tuple #[.agg #[v0_,v1_,v2_], .bool true])/\Kd.R (Kd.int .i64) 3 w' w.heap.size (fun _=>True) v0_ (Jc e9 (n:Int)).f0/\Kd.S (Kd.slice 3 (Kd.int .i64)) 22 w' w.heap.size (fun k_=>some k_≠(v0_:Value).ownBlock) v1_ (Jc e9 (n:Int)).f1/\Kd.Q k25 25 w' w.heap.size (fun k_=>some k_≠(v0_:Value).ownBlock/\some k_≠(v1_:Value).ownBlock) v2_ (e9.take n)/\Below w.heap.size w w':=by
 have hu28:=Try.underlying28
 have hu69:=Try.underlying69
 have hu25:=Try.underlying25
 have dp:=A_ d4
 have ec:=A_ d9
 have df:=A_ d5
 have ee:=A_ ea
 have m8:=A_ l6
 have re:=A_ l7
 have HB:=A_ (Below.refl w.heap.size w)
 have A3:=A_ hd
 have A5:=A_ hcp
 have HN:=A_ hn
 have hp1:decide ((av.length:Int) > 0)=true:=decide_eq_true (by omega)
 have hp2:wrap64 ((e9.length:Int) - 1)=(n:Int):=by rw[show((e9.length:Int) - 1)=(n:Int) by omega];unfold wrap64;omega
 have hp3:(0<=(n:Int))=True:=eq_true (by omega)
 have hp4:((n:Int) < (e9.length:Int))=True:=eq_true (by omega)
 have hp6:((n:Int) < (n:Int) + 1)=True:=eq_true (by omega)
 have hp7:((n:Int) < ((n + 1:Nat):Int))=True:=eq_true (by omega)
 have hp5:((n:Int)).toNat=n:=Int.toNat_natCast n
 clear d4 d9 d5 ea l6 l7 hd hcp hn
 go_enter Try.func54,Try.ntmps54
 go_upto_region 4 with(first|((with_reducible refine gd_ 2 ?_);(try(refine gate_guard (by rfl) ?_;dsimp only));refine box_event ?hg (N:=2) ?hd (cs:=#[.slice ah ab.length af, .slice ao aa.length ai, .slice cy av.length cu]) (t:=28) ?hr ?_;(case hd=>rfl);(case hg=>rfl);(case hr=>first|(go_simp;done)|(go_simp;rfl));intro je hg w7 hbox hb;have n0_:=hs_ (g16_) hb;have n1_:=A_ (hbox);have n2_:=A_ ((by rw[hg];exact(Gz (g16_)):w.heap.size<=je));have n3_:=n2_;clear HB;have HB:=n0_;have fh:=n1_;have hw3:=n2_;have cz0:=n3_;clear n0_ n1_ n2_ n3_;clear hb hbox hg)|((with_reducible refine gd_ 3 ?_);(try(refine gate_guard (by rfl) ?_;dsimp only));refine box_event ?hg (N:=3) ?hd (cs:=#[.int .i64 4, .int .i64 0, .int .i64 0, .int .i64 0]) (t:=69) ?hr ?_;(case hd=>rfl);(case hg=>rfl);(case hr=>first|(go_simp;done)|(go_simp;rfl));intro jo hg w8 hbox hb;have n0_:=A_ (G8 (g:=je) (o:=.cells #[.slice ah ab.length af, .slice ao aa.length ai, .slice cy av.length cu] 28 (0,0)) (g34_) hb);have n1_:=hs_ (g203_) hb;have n2_:=A_ (hbox);have n3_:=A_ ((by rw[hg];exact(Gz (g203_)):w.heap.size<=jo));have n4_:=n3_;have n5_:=A_ ((by rw[hg];exact Nat.ne_of_lt (blk_lt (g:=je) (o:=.cells #[.slice ah ab.length af, .slice ao aa.length ai, .slice cy av.length cu] 28 (0,0)) (by(with_reducible repeat(first|refine G5 ?_ _|refine G6 ?_|refine G4 ?_ _));exact fh.out)):je≠jo));have n6_:=A_ ((by rw[hg];exact Nat.ne_of_gt (blk_lt (g:=je) (o:=.cells #[.slice ah ab.length af, .slice ao aa.length ai, .slice cy av.length cu] 28 (0,0)) (by(with_reducible repeat(first|refine G5 ?_ _|refine G6 ?_|refine G4 ?_ _));exact fh.out)):jo≠je));clear fh;clear HB;have fh:=n0_;have HB:=n1_;have hz:=n2_;have hw4:=n3_;have du7:=n4_;have bk3:=n5_;have bk4:=n6_;clear n0_ n1_ n2_ n3_ n4_ n5_ n6_;clear hb hbox hg)|((with_reducible refine gd_ 4 ?_);(try(refine gate_guard (by rfl) ?_;dsimp only));refine box_event ?hg (N:=4) ?hd (cs:=#[.slice none 0 0, .slice none 0 0, .slice none 0 0]) (t:=28) ?hr ?_;(case hd=>rfl);(case hg=>rfl);(case hr=>first|(go_simp;done)|(go_simp;rfl));intro ei hg w9 hbox hb;have n0_:=A_ (G8 (g:=je) (o:=.cells #[.slice ah ab.length af, .slice ao aa.length ai, .slice cy av.length cu] 28 (0,0)) (g34_) hb);have n1_:=A_ (G8 (g:=jo) (o:=.cells #[.int .i64 4, .int .i64 0, .int .i64 0, .int .i64 0] 69 (0,0)) (g49_) hb);have n2_:=hs_ (g206_) hb;have n3_:=A_ (hbox);have n4_:=A_ ((by rw[hg];exact(Gz (g206_)):w.heap.size<=ei));have n5_:=n4_;have n6_:=A_ ((by rw[hg];exact Nat.ne_of_lt (blk_lt (g:=je) (o:=.cells #[.slice ah ab.length af, .slice ao aa.length ai, .slice cy av.length cu] 28 (0,0)) (by(with_reducible repeat(first|refine G5 ?_ _|refine G6 ?_|refine G4 ?_ _));exact fh.out)):je≠ei));have n7_:=A_ ((by rw[hg];exact Nat.ne_of_gt (blk_lt (g:=je) (o:=.cells #[.slice ah ab.length af, .slice ao aa.length ai, .slice cy av.length cu] 28 (0,0)) (by(with_reducible repeat(first|refine G5 ?_ _|refine G6 ?_|refine G4 ?_ _));exact fh.out)):ei≠je));have n8_:=A_ ((by rw[hg];exact Nat.ne_of_lt (blk_lt (g:=jo) (o:=.cells #[.int .i64 4, .int .i64 0, .int .i64 0, .int .i64 0] 69 (0,0)) (g49_)):jo≠ei));have n9_:=A_ ((by rw[hg];exact Nat.ne_of_gt (blk_lt (g:=jo) (o:=.cells #[.int .i64 4, .int .i64 0, .int .i64 0, .int .i64 0] 69 (0,0)) (g49_)):ei≠jo));clear fh;clear hz;clear HB;have fh:=n0_;have hz:=n1_;have HB:=n2_;have gd:=n3_;have hw5:=n4_;have cn5:=n5_;have bs2:=n6_;have bs3:=n7_;have cc9:=n8_;have cd0:=n9_;clear n0_ n1_ n2_ n3_ n4_ n5_ n6_ n7_ n8_ n9_;clear hb hbox hg;have cn6:=bk3.out;have cn7:=bk4.out;have aq2:=bs2.out;have aq3:=bs3.out;have wu:w9.cell? ⟨je,0,none⟩=some (.slice ah ab.length af):=(Gy fh.out 0).trans rfl;have wv:w9.cell? ⟨je,1,none⟩=some (.slice ao aa.length ai):=(Gy fh.out 1).trans rfl;have al7:w9.cell? ⟨je,2,none⟩=some (.slice cy av.length cu):=(Gy fh.out 2).trans rfl;have yf:=G7 fh.out 0;have ww:=G7 fh.out 1;have al8:=G7 fh.out 2)|((with_reducible refine gc_ 28 ?_);refine goesL_ (some 11) rfl rfl Try.func28 (g0_) rfl #[.agg #[.slice ah ab.length af, .slice ao aa.length ai, .slice cy av.length cu]] rfl (gM_) ?_;(refine(Fw.calls k _ _ ab _ _ aa _ _ av true _ (cu_ (Kd.C_below dp.out HB.out)) ec.out (cu_ (Kd.C_below df.out HB.out)) ee.out (cu_ (Kd.C_below m8.out HB.out)) re.out A3.out).mono ?_);rintro e w13 ⟨rfl,hb⟩;refine⟨_,rfl,?_⟩;have n0_:=A_ (G8 (g:=je) (o:=.cells #[.slice ah ab.length af, .slice ao aa.length ai, .slice cy av.length cu] 28 (0,0)) (g34_) hb);have n1_:=A_ (G8 (g:=jo) (o:=.cells #[.int .i64 4, .int .i64 0, .int .i64 0, .int .i64 0] 69 (0,0)) (g49_) hb);have n2_:=A_ (G8 (g:=ei) (o:=.cells #[.slice none 0 0, .slice none 0 0, .slice none 0 0] 28 (0,0)) (g127_) hb);have n3_:=hs_ (g50_) hb;clear fh;clear hz;clear gd;clear HB;have fh:=n0_;have hz:=n1_;have gd:=n2_;have HB:=n3_;clear n0_ n1_ n2_ n3_;have xv:w13.cell? ⟨je,0,none⟩=some (.slice ah ab.length af):=(Gy fh.out 0).trans rfl;have xw:w13.cell? ⟨je,1,none⟩=some (.slice ao aa.length ai):=(Gy fh.out 1).trans rfl;have cv5:w13.cell? ⟨je,2,none⟩=some (.slice cy av.length cu):=(Gy fh.out 2).trans rfl;have xx:=G7 fh.out 0;have xy:=G7 fh.out 1;have cv6:=G7 fh.out 2)|((with_reducible refine gc_ 100 ?_);refine goesL_ (some 15) rfl rfl Try.func100 (g0_) rfl #[.agg #[.slice ah ab.length af, .slice ao aa.length ai, .slice cy av.length cu]] rfl (gM_) ?_;(refine(Fm.calls_s k _ _ ab _ _ aa _ _ av g8 i6 e9 _ (cu_ (Kd.C_below dp.out HB.out)) ec.out (cu_ (Kd.C_below df.out HB.out)) ee.out (cu_ (Kd.C_below m8.out HB.out)) re.out A5.out).mono ?_);rintro e w15 ⟨kj8,kk0,kk1,rfl,ae,ax,bm,hb⟩;refine⟨_,rfl,?_⟩;have n0_:=A_ (Kd.R_lower ae (Gz (g50_)));have n1_:=A_ (Kd.S_lower ax (Gz (g50_)));have n2_:=A_ (Kd.S_lower bm (Gz (g50_)));have n3_:=A_ (G8 (g:=je) (o:=.cells #[.slice ah ab.length af, .slice ao aa.length ai, .slice cy av.length cu] 28 (0,0)) (g34_) hb);have n4_:=A_ (G8 (g:=jo) (o:=.cells #[.int .i64 4, .int .i64 0, .int .i64 0, .int .i64 0] 69 (0,0)) (g49_) hb);have n5_:=A_ (G8 (g:=ei) (o:=.cells #[.slice none 0 0, .slice none 0 0, .slice none 0 0] 28 (0,0)) (g127_) hb);have n6_:=hs_ (g50_) hb;clear fh;clear hz;clear gd;clear HB;have be5:=n0_;have be6:=n1_;have ar6:=n2_;have fh:=n3_;have hz:=n4_;have gd:=n5_;have HB:=n6_;clear n0_ n1_ n2_ n3_ n4_ n5_ n6_)|((with_reducible refine gd_ 6 ?_);(try(refine gate_guard (by rfl) ?_;dsimp only));refine box_event ?hg (N:=6) ?hd (cs:=#[.slice none 0 0, .slice none 0 0, .slice none 0 0]) (t:=28) ?hr ?_;(case hd=>rfl);(case hg=>rfl);(case hr=>first|(go_simp;done)|(go_simp;rfl));intro dc hg mt hbox hb;have n0_:=A_ (Kd.R_below (by(with_reducible repeat(first|apply Kd.R_alloc|apply Kd.R_drewN|apply Kd.R_drew));exact be5.out) hb);have n1_:=A_ (Kd.S_below (by(with_reducible repeat(first|apply Kd.S_alloc|apply Kd.S_drewN|apply Kd.S_drew));exact be6.out) hb);have n2_:=A_ (Kd.S_below (by(with_reducible repeat(first|apply Kd.S_alloc|apply Kd.S_drewN|apply Kd.S_drew));exact ar6.out) hb);have n3_:=A_ (G8 (g:=je) (o:=.cells #[.slice ah ab.length af, .slice ao aa.length ai, .slice cy av.length cu] 28 (0,0)) (g34_) hb);have n4_:=A_ (G8 (g:=jo) (o:=.cells #[.int .i64 4, .int .i64 0, .int .i64 0, .int .i64 0] 69 (0,0)) (g49_) hb);have n5_:=A_ (G8 (g:=ei) (o:=.cells #[.slice none 0 0, .slice none 0 0, .slice none 0 0] 28 (0,0)) (g127_) hb);have n6_:=hs_ (g50_) hb;have n7_:=A_ (hbox);have n8_:=A_ ((by rw[hg];exact(Gz (g50_)):w.heap.size<=dc));have n9_:=n8_;have n10_:=A_ ((by rw[hg];exact Nat.ne_of_lt (blk_lt (g:=je) (o:=.cells #[.slice ah ab.length af, .slice ao aa.length ai, .slice cy av.length cu] 28 (0,0)) (by(with_reducible repeat(first|refine G5 ?_ _|refine G6 ?_|refine G4 ?_ _));exact fh.out)):je≠dc));have n11_:=A_ ((by rw[hg];exact Nat.ne_of_gt (blk_lt (g:=je) (o:=.cells #[.slice ah ab.length af, .slice ao aa.length ai, .slice cy av.length cu] 28 (0,0)) (by(with_reducible repeat(first|refine G5 ?_ _|refine G6 ?_|refine G4 ?_ _));exact fh.out)):dc≠je));have n12_:=A_ ((by rw[hg];exact Nat.ne_of_lt (blk_lt (g:=jo) (o:=.cells #[.int .i64 4, .int .i64 0, .int .i64 0, .int .i64 0] 69 (0,0)) (g49_)):jo≠dc));have n13_:=A_ ((by rw[hg];exact Nat.ne_of_gt (blk_lt (g:=jo) (o:=.cells #[.int .i64 4, .int .i64 0, .int .i64 0, .int .i64 0] 69 (0,0)) (g49_)):dc≠jo));have n14_:=A_ ((by rw[hg];exact Nat.ne_of_lt (blk_lt (g:=ei) (o:=.cells #[.slice none 0 0, .slice none 0 0, .slice none 0 0] 28 (0,0)) (g127_)):ei≠dc));have n15_:=A_ ((by rw[hg];exact Nat.ne_of_gt (blk_lt (g:=ei) (o:=.cells #[.slice none 0 0, .slice none 0 0, .slice none 0 0] 28 (0,0)) (g127_)):dc≠ei));clear be5;clear be6;clear ar6;clear fh;clear hz;clear gd;clear HB;have be5:=n0_;have be6:=n1_;have ar6:=n2_;have fh:=n3_;have hz:=n4_;have gd:=n5_;have HB:=n6_;have g7:=n7_;have kk2:=n8_;have cc8:=n9_;have ah3:=n10_;have cd1:=n11_;have ae8:=n12_;have bs4:=n13_;have wx:=n14_;have cn8:=n15_;clear n0_ n1_ n2_ n3_ n4_ n5_ n6_ n7_ n8_ n9_ n10_ n11_ n12_ n13_ n14_ n15_;clear hb hbox hg;obtain⟨ia,h7,bp0⟩:=Kd.R_slice be5.out;subst bp0;have dg8:=cd1.out;have dg9:=ah3.out;have dl2:=bs4.out;have dl3:=ae8.out;have cv8:=cn8.out;have cv9:=wx.out;have aa2:mt.cell? ⟨dc,0,none⟩=some (.slice none 0 0):=(Gy g7.out 0).trans rfl;have aa3:mt.cell? ⟨dc,1,none⟩=some (.slice none 0 0):=(Gy g7.out 1).trans rfl;have bo1:mt.cell? ⟨dc,2,none⟩=some (.slice none 0 0):=(Gy g7.out 2).trans rfl;have ad7:=G7 g7.out 0;have aa4:=G7 g7.out 1;have bo2:=G7 g7.out 2;obtain⟨jk,i9,be7⟩:=Kd.S_slice be6.out;subst be7;obtain⟨lq,g5,cm0⟩:=Kd.S_slice ar6.out;subst cm0;obtain⟨ga,u0,u1,eA,hx0,hx1,hl0,hl1,hl2,hg1,hg2⟩:=k25s_last (n:=n) HN.out ar6.out;subst eA;have HL0:=A_ (Kd.R_types (Kd.R_types hl0 g7.out (by decide)) gd.out (by decide));have HL1:=A_ (Kd.S_types (Kd.S_types hl1 g7.out (by decide)) gd.out (by decide));have HL2:=A_ (Kd.Q_types (Kd.Q_types hl2 g7.out (by decide)) gd.out (by decide));clear hl0 hl1 hl2;have hge1:ga≠dc:=k25s_ne hg1 g7.out (by decide);have hge2:dc≠ga:=fun e_=>hge1 e_.symm;have hge3:ga≠ei:=k25s_ne hg1 gd.out (by decide);have hge4:ei≠ga:=fun e_=>hge3 e_.symm;obtain⟨B0,b0,eu0⟩:=Kd.R_slice HL0.out;subst eu0;obtain⟨B1,b1,eu1⟩:=Kd.S_slice HL1.out;subst eu1;have hn1:(e9.length:Int)=(n:Int) + 1:=(by have:=HN.out;omega);have ba6:mt.cell? ⟨jo,0,none⟩=some (.int .i64 4):=(Gy hz.out 0).trans rfl;have ba7:mt.cell? ⟨jo,1,none⟩=some (.int .i64 0):=(Gy hz.out 1).trans rfl;have ff2:mt.cell? ⟨jo,2,none⟩=some (.int .i64 0):=(Gy hz.out 2).trans rfl;have kq5:mt.cell? ⟨jo,3,none⟩=some (.int .i64 0):=(Gy hz.out 3).trans rfl;have hcr_0:mt.cell? ⟨ei,0,none⟩=some (.slice none 0 0):=(Gy gd.out 0).trans rfl;have hcr_1:mt.cell? ⟨ei,1,none⟩=some (.slice none 0 0):=(Gy gd.out 1).trans rfl;have hcr_2:mt.cell? ⟨ei,2,none⟩=some (.slice none 0 0):=(Gy gd.out 2).trans rfl;have hfr_0:=G7 gd.out 0;have hfr_1:=G7 gd.out 1;have hfr_2:=G7 gd.out 2;have hcd_2:mt.cell? ⟨je,2,none⟩=some (.slice cy av.length cu):=(Gy fh.out 2).trans rfl;have hb1:=ae8.out;have hb2:=bs4.out;have hb3:=wx.out;have hb4:=cn8.out;have hb5:=ah3.out;have hb6:=cd1.out))
 (try simp only[Act.put,List.setIfInBounds_toArray,List.set_cons_zero,List.set_cons_succ])
 go_upto_region 7 with fail
 obtain⟨i0,hi0,_,hsz0,_⟩:=info_parts info25
 have hcut:=cut_to (P:=Try.prog) 26 25 .i64 Try.underlying26 hi0 (some ⟨ga,0,none⟩) (n + 1) g5 (n:Int) (by omega) (by omega) (by have:=(Kd.S_reads' ar6.out).2.1;omega)
 rw[hp5] at hcut
 go_upto_region 8 with fail
 have n0_:Gx (Kd.R (Kd.int .i64) 3 ((((((mt.setCell ⟨dc,0,none⟩ (.slice ia g8.length h7)).setCell ⟨dc,1,none⟩ (.slice jk i6.length i9)).setCell ⟨dc,2,none⟩ (.slice (some ⟨ga,0,none⟩) (n + 1) g5)).setCell ⟨dc,0,none⟩ (.slice B0 (Jc e9 (n:Int)).f0.length b0)).setCell ⟨dc,1,none⟩ (.slice B1 (Jc e9 (n:Int)).f1.length b1)).setCell ⟨dc,2,none⟩ (.slice (some ⟨ga,0,none⟩) n g5)) w.heap.size (fun k_=>(True/\k_≠dc)/\k_≠ei) (.slice B0 (Jc e9 (n:Int)).f0.length b0) (Jc e9 (n:Int)).f0):=A_ (by refine Kd.R_far ?_ (fun _ hk=>hk.1.2) _;refine Kd.R_far ?_ (fun _ hk=>hk.1.2) _;refine Kd.R_far ?_ (fun _ hk=>hk.1.2) _;refine Kd.R_far ?_ (fun _ hk=>hk.1.2) _;refine Kd.R_far ?_ (fun _ hk=>hk.1.2) _;refine Kd.R_far ?_ (fun _ hk=>hk.1.2) _;exact HL0.out)
 have n1_:Gx (Kd.S (Kd.slice 3 (Kd.int .i64)) 22 ((((((mt.setCell ⟨dc,0,none⟩ (.slice ia g8.length h7)).setCell ⟨dc,1,none⟩ (.slice jk i6.length i9)).setCell ⟨dc,2,none⟩ (.slice (some ⟨ga,0,none⟩) (n + 1) g5)).setCell ⟨dc,0,none⟩ (.slice B0 (Jc e9 (n:Int)).f0.length b0)).setCell ⟨dc,1,none⟩ (.slice B1 (Jc e9 (n:Int)).f1.length b1)).setCell ⟨dc,2,none⟩ (.slice (some ⟨ga,0,none⟩) n g5)) w.heap.size (fun k_=>(some k_≠(.slice B0 (Jc e9 (n:Int)).f0.length b0:Value).ownBlock/\k_≠dc)/\k_≠ei) (.slice B1 (Jc e9 (n:Int)).f1.length b1) (Jc e9 (n:Int)).f1):=A_ (by refine Kd.S_far ?_ (fun _ hk=>hk.1.2) _;refine Kd.S_far ?_ (fun _ hk=>hk.1.2) _;refine Kd.S_far ?_ (fun _ hk=>hk.1.2) _;refine Kd.S_far ?_ (fun _ hk=>hk.1.2) _;refine Kd.S_far ?_ (fun _ hk=>hk.1.2) _;refine Kd.S_far ?_ (fun _ hk=>hk.1.2) _;exact HL1.out)
 have n2_:Gx (Kd.Q k25 25 ((((((mt.setCell ⟨dc,0,none⟩ (.slice ia g8.length h7)).setCell ⟨dc,1,none⟩ (.slice jk i6.length i9)).setCell ⟨dc,2,none⟩ (.slice (some ⟨ga,0,none⟩) (n + 1) g5)).setCell ⟨dc,0,none⟩ (.slice B0 (Jc e9 (n:Int)).f0.length b0)).setCell ⟨dc,1,none⟩ (.slice B1 (Jc e9 (n:Int)).f1.length b1)).setCell ⟨dc,2,none⟩ (.slice (some ⟨ga,0,none⟩) n g5)) w.heap.size (fun k_=>((some k_≠(.slice B0 (Jc e9 (n:Int)).f0.length b0:Value).ownBlock/\some k_≠(.slice B1 (Jc e9 (n:Int)).f1.length b1:Value).ownBlock)/\k_≠dc)/\k_≠ei) (.slice (some ⟨ga,0,none⟩) n g5) (e9.take n)):=A_ (by refine Kd.Q_far ?_ (fun _ hk=>hk.1.2) _;refine Kd.Q_far ?_ (fun _ hk=>hk.1.2) _;refine Kd.Q_far ?_ (fun _ hk=>hk.1.2) _;refine Kd.Q_far ?_ (fun _ hk=>hk.1.2) _;refine Kd.Q_far ?_ (fun _ hk=>hk.1.2) _;refine Kd.Q_far ?_ (fun _ hk=>hk.1.2) _;exact HL2.out)
 have n3_:Gx (((((((mt.setCell ⟨dc,0,none⟩ (.slice ia g8.length h7)).setCell ⟨dc,1,none⟩ (.slice jk i6.length i9)).setCell ⟨dc,2,none⟩ (.slice (some ⟨ga,0,none⟩) (n + 1) g5)).setCell ⟨dc,0,none⟩ (.slice B0 (Jc e9 (n:Int)).f0.length b0)).setCell ⟨dc,1,none⟩ (.slice B1 (Jc e9 (n:Int)).f1.length b1)).setCell ⟨dc,2,none⟩ (.slice (some ⟨ga,0,none⟩) n g5)).heap[dc]? = some (.cells #[.slice B0 (Jc e9 (n:Int)).f0.length b0, .slice B1 (Jc e9 (n:Int)).f1.length b1, .slice (some ⟨ga,0,none⟩) n g5] 28 (0,0))):=A_ (ba_ g7)
 have n4_:Gx (((((((mt.setCell ⟨dc,0,none⟩ (.slice ia g8.length h7)).setCell ⟨dc,1,none⟩ (.slice jk i6.length i9)).setCell ⟨dc,2,none⟩ (.slice (some ⟨ga,0,none⟩) (n + 1) g5)).setCell ⟨dc,0,none⟩ (.slice B0 (Jc e9 (n:Int)).f0.length b0)).setCell ⟨dc,1,none⟩ (.slice B1 (Jc e9 (n:Int)).f1.length b1)).setCell ⟨dc,2,none⟩ (.slice (some ⟨ga,0,none⟩) n g5)).heap[ei]? = some (.cells #[.slice none 0 0, .slice none 0 0, .slice none 0 0] 28 (0,0))):=A_ (ba_ gd)
 have n5_:Gx (Below w.heap.size w ((((((mt.setCell ⟨dc,0,none⟩ (.slice ia g8.length h7)).setCell ⟨dc,1,none⟩ (.slice jk i6.length i9)).setCell ⟨dc,2,none⟩ (.slice (some ⟨ga,0,none⟩) (n + 1) g5)).setCell ⟨dc,0,none⟩ (.slice B0 (Jc e9 (n:Int)).f0.length b0)).setCell ⟨dc,1,none⟩ (.slice B1 (Jc e9 (n:Int)).f1.length b1)).setCell ⟨dc,2,none⟩ (.slice (some ⟨ga,0,none⟩) n g5))):=A_ (by refine G0 ?_ cc8.out;refine G0 ?_ cc8.out;refine G0 ?_ cc8.out;refine G0 ?_ cc8.out;refine G0 ?_ cc8.out;refine G0 ?_ cc8.out;exact HB.out)
 clear HL0 HL1 HL2 g7 gd HB fh hz be5 be6 ar6 hx0 hx1 hcut
 clear ba6 ba7 ff2 kq5 hcr_0 hcr_1 hcr_2 hcd_2 hfr_0 hfr_1 hfr_2 hg1 hg2
 generalize ((((((mt.setCell ⟨dc,0,none⟩ (.slice ia g8.length h7)).setCell ⟨dc,1,none⟩ (.slice jk i6.length i9)).setCell ⟨dc,2,none⟩ (.slice (some ⟨ga,0,none⟩) (n + 1) g5)).setCell ⟨dc,0,none⟩ (.slice B0 (Jc e9 (n:Int)).f0.length b0)).setCell ⟨dc,1,none⟩ (.slice B1 (Jc e9 (n:Int)).f1.length b1)).setCell ⟨dc,2,none⟩ (.slice (some ⟨ga,0,none⟩) n g5))=ov at n0_ n1_ n2_ n3_ n4_ n5_ |-
 have hcq_0:ov.cell? ⟨dc,0,none⟩=some (.slice B0 (Jc e9 (n:Int)).f0.length b0):=(Gy n3_.out 0).trans rfl
 have hcq_1:ov.cell? ⟨dc,1,none⟩=some (.slice B1 (Jc e9 (n:Int)).f1.length b1):=(Gy n3_.out 1).trans rfl
 have hcq_2:ov.cell? ⟨dc,2,none⟩=some (.slice (some ⟨ga,0,none⟩) n g5):=(Gy n3_.out 2).trans rfl
 have hcr_0:ov.cell? ⟨ei,0,none⟩=some (.slice none 0 0):=(Gy n4_.out 0).trans rfl
 have hcr_1:ov.cell? ⟨ei,1,none⟩=some (.slice none 0 0):=(Gy n4_.out 1).trans rfl
 have hcr_2:ov.cell? ⟨ei,2,none⟩=some (.slice none 0 0):=(Gy n4_.out 2).trans rfl
 have hfr_0:=G7 n4_.out 0
 have hfr_1:=G7 n4_.out 1
 have hfr_2:=G7 n4_.out 2
 go_wp2
 refine bodyPost_ret (Jm rfl _ _ ei 28 #[.slice B0 (Jc e9 (n:Int)).f0.length b0, .slice B1 (Jc e9 (n:Int)).f1.length b1, .slice (some ⟨ga,0,none⟩) n g5] (0,0) _ rfl (ba_ n4_) Try.underlying28 rfl (g0_)) rfl ?_
 exact⟨_,_,_,rfl,Kd.R_mono (Kd.R_far (p:=⟨ei,2,none⟩) (Kd.R_far (p:=⟨ei,1,none⟩) (Kd.R_far (p:=⟨ei,0,none⟩) n0_.out (fun _ hk=>hk.2) (.slice B0 (Jc e9 (n:Int)).f0.length b0)) (fun _ hk=>hk.2) (.slice B1 (Jc e9 (n:Int)).f1.length b1)) (fun _ hk=>hk.2) (.slice (some ⟨ga,0,none⟩) n g5)) (fun _ _=>trivial),Kd.S_mono (Kd.S_far (p:=⟨ei,2,none⟩) (Kd.S_far (p:=⟨ei,1,none⟩) (Kd.S_far (p:=⟨ei,0,none⟩) n1_.out (fun _ hk=>hk.2) (.slice B0 (Jc e9 (n:Int)).f0.length b0)) (fun _ hk=>hk.2) (.slice B1 (Jc e9 (n:Int)).f1.length b1)) (fun _ hk=>hk.2) (.slice (some ⟨ga,0,none⟩) n g5)) (fun _ hk=>hk.1.1),Kd.Q_mono (Kd.Q_far (p:=⟨ei,2,none⟩) (Kd.Q_far (p:=⟨ei,1,none⟩) (Kd.Q_far (p:=⟨ei,0,none⟩) n2_.out (fun _ hk=>hk.2) (.slice B0 (Jc e9 (n:Int)).f0.length b0)) (fun _ hk=>hk.2) (.slice B1 (Jc e9 (n:Int)).f1.length b1)) (fun _ hk=>hk.2) (.slice (some ⟨ga,0,none⟩) n g5)) (fun _ hk=>hk.1.1),by refine G0 ?_ cn5.out;refine G0 ?_ cn5.out;refine G0 ?_ cn5.out;exact n5_.out⟩
def Ge.f (k:Nat) (ab:List Int) (aa:List (List Int)) (av:List (S25)) (b4:Int) (bk:Int) (bn:Int) (bw:Int):Option (List Int × (List (List Int)) × (List (S25)) × Bool):=if (b4 == 4 && (bk == 0 && (bn == 0 && (bw == 0))))=true/\0 < av.length then((Fw.f k ab aa av).bind fun t=>if t=true then((Fm.f k ab aa av).bind fun b=>if 0 < b.2.2.length/\b.2.2.length < 2932031007402 then some ((Jc b.2.2 ((b.2.2.length - 1:Nat):Int)).f0,(Jc b.2.2 ((b.2.2.length - 1:Nat):Int)).f1,b.2.2.take (b.2.2.length - 1),true) else none) else some (([]:List Int),([]:List (List Int)),([]:List (S25)),false)) else Gf.f k ab aa av b4 bk bn bw
theorem Ge.calls (k:Nat) (ah:Option Addr) (af:Nat) (ab:List Int) (ao:Option Addr) (ai:Nat) (aa:List (List Int)) (cy:Option Addr) (cu:Nat) (av:List (S25)) (b4:Int) (bk:Int) (bn:Int) (bw:Int) (r1:List Int) (r2:List (List Int)) (r3:List (S25)) (r4:Bool) (w:World) (d4:Kd.C (Kd.int .i64) w ah ab.length ab) (d9:ab.length<=af) (d5:Kd.C (Kd.slice 3 (Kd.int .i64)) w ao aa.length aa) (ea:aa.length<=ai) (l6:Kd.C k25 w cy av.length av) (l7:av.length<=cu) (h:Ge.f k ab aa av b4 bk bn bw=some (r1,r2,r3,r4)) :
  Calls Try.prog 54 #[.agg #[.slice ah ab.length af, .slice ao aa.length ai, .slice cy av.length cu], .agg #[.int .i64 b4, .int .i64 bk, .int .i64 bn, .int .i64 bw]] w fun e w'=>∃v0_ v1_ v2_:Value,e = .returned (.tuple #[.agg #[v0_,v1_,v2_], .bool r4])/\Kd.R (Kd.int .i64) 3 w' w.heap.size (fun _=>True) v0_ r1/\Kd.S (Kd.slice 3 (Kd.int .i64)) 22 w' w.heap.size (fun k_=>some k_≠(v0_:Value).ownBlock) v1_ r2/\Kd.Q k25 25 w' w.heap.size (fun k_=>some k_≠(v0_:Value).ownBlock/\some k_≠(v1_:Value).ownBlock) v2_ r3/\Below w.heap.size w w':=by
 unfold Ge.f at h
 by_cases hc:(b4 == 4 && (bk == 0 && (bn == 0 && (bw == 0))))=true/\0 < av.length
 case neg=>
  rw[if_neg hc] at h
  exact Gf.calls k ah af ab ao ai aa cy cu av b4 bk bn bw r1 r2 r3 r4 w d4 d9 d5 ea l6 l7 h
 rw[if_pos hc] at h
 obtain⟨t,ht,h2⟩:=Option.bind_eq_some_iff.mp h
 have ha:b4=4/\bk=0/\bn=0/\bw=0:=by simpa using hc.1
 obtain⟨rfl,rfl,rfl,rfl⟩:=ha
 by_cases htt:t=true
 ·subst htt
  rw[if_pos rfl] at h2
  obtain⟨⟨b0,b1,b2⟩,hb,h3⟩:=Option.bind_eq_some_iff.mp h2
  by_cases h4:0 < b2.length/\b2.length < 2932031007402
  ·rw[if_pos h4] at h3
   have h5:=Option.some.inj h3
   simp only[Prod.mk.injEq] at h5
   obtain⟨rfl,rfl,rfl,rfl⟩:=h5
   exact Ge.back k ah af ab ao ai aa cy cu av w d4 d9 d5 ea l6 l7 b0 b1 b2 (b2.length - 1) ht hb (by omega) (by omega) hc.2
  rw[if_neg h4] at h3;cases h3
 rw[if_neg htt] at h2
 refine Gf.calls k ah af ab ao ai aa cy cu av 4 0 0 0 r1 r2 r3 r4 w d4 d9 d5 ea l6 l7 ?_
 unfold Gf.f
 rw[ht,Option.bind_some,if_neg htt]
 exact h2
mutual
def Fr.j0:Nat->List (S69)->Bool->List Int->List (List Int)->List (S25)->Option (List Int × (List (List Int)) × (List (S25)) × Int)
 | 0,_,_,_,_,_=>none
 | k + 1,x1,x18,kq6,kq7,kq8=>if x18=true then(some (([]:List Int),([]:List (List Int)),([]:List (S25)),0)) else((Fm.f k kq6 kq7 kq8).bind fun bt338=>(Fr.l0 k x1 0 0 bt338.1 bt338.2.1 bt338.2.2))
def Fr.l0:Nat->List (S69)->Int->Int->List Int->List (List Int)->List (S25)->Option (List Int × (List (List Int)) × (List (S25)) × Int)
 | 0,_,_,_,_,_,_=>none
 | k + 1,x1,x7,x8,fz5,fz6,fz7=>if x8 < (x1.length:Int) then(if 0<=x8 then((Ge.f k fz5 fz6 fz7 ((rd_T69 x1 x8).f0) ((rd_T69 x1 x8).f1) ((rd_T69 x1 x8).f2) ((rd_T69 x1 x8).f3)).bind fun bt349=>(if bt349.2.2.2=true then(Fr.l0 k x1 (wrap64 (x7 + 1)) (wrap64 (x8 + 1)) bt349.1 bt349.2.1 bt349.2.2.1) else(Fr.l0 k x1 x7 (wrap64 (x8 + 1)) fz5 fz6 fz7))) else(none)) else(some (fz5,fz6,fz7,x7))
end
def Fr.f (k:Nat) (ab:List Int) (aa:List (List Int)) (av:List (S25)) (l1:List (S69)):Option (List Int × (List (List Int)) × (List (S25)) × Int):=(Fw.f k ab aa av).bind fun dv2=>(if dv2=true then(Fr.j0 k l1 (decide ((l1.length:Int) > 40)) ab aa av) else(Fr.j0 k l1 true ab aa av))
def Fr.T8:Bool × List (List Nat × List Nat):=(true,[([],[]),([],[]),([],[]),([1,2],[1,2]),([3],[3]),([0,4],[0,4]),([5],[5]),([6],[6]),([6],[6]),([],[]),([9,7,5,0,1,2,3,4,5,6,7,9],[7,9]),([8,10,0,1,2,3,4,5,6,7,8,9,10],[8])])
def Fr.B8:List Nat:=[0,0,0,6,14,31,63,127,127,0,767,2047]
theorem Fr.tab8:rtab .any (opsOf Try.f59 8)=Fr.T8:=by kernel_rfl
theorem Fr.bits8:waitsOk Fr.T8.2 Fr.B8=true:=by kernel_rfl
theorem ln {p:Prop} (h:p:=by repeat(first|(with_reducible first|exact HB.out|apply G3|apply G2|apply G1|refine G0 ?_ kq9.out|refine G0 ?_ kr0.out|refine G0 ?_ kr1.out|refine G0 ?_ bk5.out)|exact HB.out)):p:=h
theorem Fr.calls.z0 {p:Prop} (h:p:=by exact norm_ (g8_) (hCont (tg,ab2,ar7,du) _ ⟨hHeld,(yR_ lk (fun _ hk=>hk.2)),(yS_ ar8 (fun _ hk=>⟨hk.1.1,⟨hk.1.2,hk.2⟩⟩)),(yQ_ ar9 (fun _ hk=>⟨hk.1.1.1.1,⟨hk.1.1.1.2,⟨hk.1.1.2,⟨hk.1.2,hk.2⟩⟩⟩⟩)),(yR_ jr (fun _ hk=>hk.2)),(yS_ j7 (fun _ hk=>⟨hk.1.2,⟨hk.2,hk.1.1⟩⟩)),(yQ_ lb (fun _ hk=>⟨hk.1.1.2,⟨hk.1.2,⟨hk.2,⟨hk.1.1.1.1,hk.1.1.1.2⟩⟩⟩⟩)),(uB_ jp),(uB_ jf),(uB_ fn),(uB_ om),dy.out,bk5.out,uz.out,af0.out,u2.out,af1.out,lr.out,af2.out,(ln)⟩)):p:=h
set_option maxHeartbeats 8000000 in
set_option maxRecDepth 100000 in
theorem Fr.calls (k:Nat) (ah:Option Addr) (af:Nat) (ab:List Int) (ao:Option Addr) (ai:Nat) (aa:List (List Int)) (cy:Option Addr) (cu:Nat) (av:List (S25)) (A1:Option Addr) (c1:Nat) (l1:List (S69)) (r1:List Int) (r2:List (List Int)) (r3:List (S25)) (r4:Int) (w:World) (d4:Kd.C (Kd.int .i64) w ah ab.length ab) (d9:ab.length<=af) (d5:Kd.C (Kd.slice 3 (Kd.int .i64)) w ao aa.length aa) (ea:aa.length<=ai) (l6:Kd.C k25 w cy av.length av) (l7:av.length<=cu) (k0:Kd.C k69 w A1 l1.length l1) (lh:l1.length<=c1) (h:Fr.f k ab aa av l1=some (r1,r2,r3,r4)) :
  Calls Try.prog 59 #[.agg #[.slice ah ab.length af, .slice ao aa.length ai, .slice cy av.length cu], .slice A1 l1.length c1] w fun e w'=>∃v0_ v1_ v2_:Value,e = .returned (.tuple #[.agg #[v0_,v1_,v2_], .int .i64 r4])/\Kd.R (Kd.int .i64) 3 w' w.heap.size (fun _=>True) v0_ r1/\Kd.S (Kd.slice 3 (Kd.int .i64)) 22 w' w.heap.size (fun k_=>some k_≠(v0_:Value).ownBlock) v1_ r2/\Kd.Q k25 25 w' w.heap.size (fun k_=>some k_≠(v0_:Value).ownBlock/\some k_≠(v1_:Value).ownBlock) v2_ r3/\Below w.heap.size w w':=by
 have hu28:=Try.underlying28
 have hu69:=Try.underlying69
 have dp:=A_ d4
 have ec:=A_ d9
 clear d4 d9
 have df:=A_ d5
 have ee:=A_ ea
 clear d5 ea
 have m8:=A_ l6
 have re:=A_ l7
 clear l6 l7
 have i8:=A_ k0
 have HC1:=A_ lh
 clear k0 lh
 have HB:=A_ (Below.refl w.heap.size w)
 have H:=h
 unfold Fr.f at H
 clear h
 have HC3:=A_ H
 clear H
 go_enter Try.func59,Try.ntmps59
 go_upto_region 1 with(first|((with_reducible refine gd_ 2 ?_);(try(refine gate_guard (by rfl) ?_;dsimp only));refine bx_ (N:=2) #[.slice ah ab.length af, .slice ao aa.length ai, .slice cy av.length cu] 28 ?_;intro pf hg w4 hbox hb;have jp:=A_ (hbox);have mz0:=A_ ((g28_:w.heap.size<=pf));have kq9:=mz0;replace HB:=hs_ (ln) hb;clear hb hbox hg)|((with_reducible refine gd_ 4 ?_);(try(refine gate_guard (by rfl) ?_;dsimp only));refine bx_ (N:=4) #[.slice none 0 0, .slice none 0 0, .slice none 0 0] 28 ?_;intro ll hg w5 hbox hb;have jf:=A_ (hbox);have mz1:=A_ ((g28_:w.heap.size<=ll));have kr0:=mz1;replace HB:=hs_ (ln) hb;have dv3:=nl_ jp hg;have dv4:=nr_ jp hg;replace jp:=bb_ jp hb;clear hb hbox hg))
 (try simp only[Act.put,List.setIfInBounds_toArray,List.set_cons_zero,List.set_cons_succ])
 go_cut [18] (fun v18 wc=>∃(kq:Nat) (bt0:Bool),v18 = .bool bt0/\Gx (Fr.j0 kq l1 bt0 ab aa av=some (r1,r2,r3,r4))/\Gx (kq<=k)/\Gx (hc_ wc pf #[(.slice ah ab.length af),(.slice ao aa.length ai),(.slice cy av.length cu)] 28)/\Gx (hc_ wc ll #[(.slice none 0 0),(.slice none 0 0),(.slice none 0 0)] 28)/\Gx (Below w.heap.size w wc))
 case first=>
  have H:=HC3.out
  clear HC3
  obtain⟨dv2,A6,H⟩:=bind_ H
  by_cases c7:dv2=true
  ·subst c7
   replace H:=ifp_ H
   have H':=A_ H
   clear H
   have ef6:=dv3.out
   have ef7:=dv4.out
   obtain⟨at5,at6,dv5,at7,at8,dv6⟩:=blk3_ jp
   go_wp2_with (first|((with_reducible refine gc_ 28 ?_);refine gl_ 12 Try.func28 #[.agg #[.slice ah ab.length af, .slice ao aa.length ai, .slice cy av.length cu]] ?_;(refine(Fw.calls k _ _ ab _ _ aa _ _ av true _ (uC_ dp) ec.out (uC_ df) ee.out (uC_ m8) re.out A6.out).mono ?_);rintro e w10 ⟨rfl,hb⟩;refine⟨_,rfl,?_⟩;replace jp:=bb_ jp hb;replace jf:=bb_ jf hb;replace HB:=hs_ (ln) hb))
   go_meet
   case rel=>exact⟨_,(decide ((l1.length:Int) > 40)),(g3_),H',⟨g9_⟩,⟨uB_ jp⟩,⟨uB_ jf⟩,⟨ln⟩⟩
  replace c7:=Bool.eq_false_iff.mpr c7
  subst c7
  replace H:=ifn_ H
  have H':=A_ H
  clear H
  have aq2:=dv3.out
  have aq3:=dv4.out
  obtain⟨wu,wv,al7,yf,ww,al8⟩:=blk3_ jp
  go_wp2_with (first|((with_reducible refine gc_ 28 ?_);refine gl_ 12 Try.func28 #[.agg #[.slice ah ab.length af, .slice ao aa.length ai, .slice cy av.length cu]] ?_;(refine(Fw.calls k _ _ ab _ _ aa _ _ av false _ (uC_ dp) ec.out (uC_ df) ee.out (uC_ m8) re.out A6.out).mono ?_);rintro e w13 ⟨rfl,hb⟩;refine⟨_,rfl,?_⟩;replace jp:=bb_ jp hb;replace jf:=bb_ jf hb;replace HB:=hs_ (ln) hb))
  go_meet
  case rel=>exact⟨_,(true),(g3_),H',⟨g9_⟩,⟨uB_ jp⟩,⟨uB_ jf⟩,⟨ln⟩⟩
 clear HC3
 obtain⟨kq,bt0,rfl,HA,HJ2,jp,jf,HB⟩:=hcut
 cases kq with
 | zero=>exact absurd HA.out (by simp[Fr.j0])
 | succ kj2=>?_
 have H:=HA.out
 clear HA
 simp only[Fr.j0] at H
 by_cases iw:bt0=true
 ·subst iw
  replace H:=ifp_ H
  simp only[Option.some.injEq,Prod.mk.injEq] at H
  obtain⟨rfl,rfl,rfl,rfl⟩:=H
  have cw5:=dv4.out
  have cw6:=dv3.out
  obtain⟨ba9,bb0,fz8,bb1,bb2,fz9⟩:=blk3_ jf
  go_wp2
  refine bodyPost_ret (Jm rfl _ _ ll 28 #[.slice none 0 0, .slice none 0 0, .slice none 0 0] (0,0) _ rfl (ba_ jf) Try.underlying28 rfl (g0_)) rfl ?_
  exact⟨_,_,_,g4_,g24_,g33_,Kd.Q_of_R (g24_),ln⟩
 replace iw:=Bool.eq_false_iff.mpr iw
 subst iw
 replace H:=ifn_ H
 replace H:=Option.bind_eq_some_iff.mp H
 obtain⟨⟨cd3,co0,cz3⟩,dv7,H⟩:=H
 try dsimp only at H
 have A17:=A_ dv7
 clear dv7
 have H':=A_ H
 clear H
 have dg8:=dv3.out
 have dg9:=dv4.out
 obtain⟨dh0,dh1,dh2,dh3,dh4,dh5⟩:=blk3_ jp
 go_wp2_with (first|((with_reducible refine gc_ 100 ?_);refine gl_ 21 Try.func100 #[.agg #[.slice ah ab.length af, .slice ao aa.length ai, .slice cy av.length cu]] ?_;(refine(Fm.calls kj2 _ _ ab _ _ aa _ _ av cd3 co0 cz3 _ (uC_ dp) ec.out (uC_ df) ee.out (uC_ m8) re.out A17.out).mono ?_);rintro e j4 ⟨mz2,mz3,mz4,rfl,ae,ax,bm,hb⟩;refine⟨_,rfl,?_⟩;have et4:=A_ (Kd.R_lower ae (Gz (ln)));have et5:=A_ (Kd.S_lower ax (Gz (ln)));have et6:=A_ (Kd.R_lower bm (Gz (ln)));replace jp:=bb_ jp hb;replace jf:=bb_ jf hb;replace HB:=hs_ (ln) hb)|((with_reducible refine gd_ 6 ?_);(try(refine gate_guard (by rfl) ?_;dsimp only));refine bx_ (N:=6) #[.slice none 0 0, .slice none 0 0, .slice none 0 0] 28 ?_;intro gl hg mu hbox hb;replace et4:=rb_ et4 hb;replace et5:=sb_ et5 hb;replace et6:=rb_ et6 hb;have fn:=A_ (hbox);have mz5:=A_ ((g28_:w.heap.size<=gl));have kr1:=mz5;replace HB:=hs_ (ln) hb;have bt1:=nl_ jp hg;have ga0:=nr_ jp hg;replace jp:=bb_ jp hb;have bt2:=nl_ jf hg;have ga1:=nr_ jf hg;replace jf:=bb_ jf hb;clear hb hbox hg;obtain⟨jk,i9,be7⟩:=Kd.R_slice et4.out;subst be7;have fe5:=ga0.out;have fe6:=bt1.out;have hn0:=ga1.out;have hn2:=bt2.out;obtain⟨eg2,eg3,gt8,eg4,eg5,gt9⟩:=blk3_ fn;obtain⟨sx,sy,av4⟩:=Kd.S_slice et5.out;subst av4;obtain⟨bc6,av3,bi1⟩:=Kd.R_slice et6.out;subst bi1))
 go_loopg [7,8] kj2 (fun kq v7 v8 w'=>∃(dv8:Int) (ce:Int) (gy:List Int) (iq:List (List Int)) (jq:List (S25)) (dv9:Value) (et7:Value) (ga2:Value),v7 = .int .i64 dv8/\v8 = .int .i64 ce/\Gx (Fr.l0 kq l1 dv8 ce gy iq jq=some (r1,r2,r3,r4))/\Gx (kq<=kj2)/\Gx (Kd.R (Kd.int .i64) 3 w' w.heap.size (fun _=>True) dv9 gy)/\Gx (Kd.S (Kd.slice 3 (Kd.int .i64)) 22 w' w.heap.size (fun k_=>some k_≠(dv9:Value).ownBlock) et7 iq)/\Gx (Kd.Q k25 25 w' w.heap.size (fun k_=>some k_≠(dv9:Value).ownBlock/\some k_≠(et7:Value).ownBlock) ga2 jq)/\Gx (hc_ w' pf #[(.slice ah ab.length af),(.slice ao aa.length ai),(.slice cy av.length cu)] 28)/\Gx (hc_ w' ll #[(.slice none 0 0),(.slice none 0 0),(.slice none 0 0)] 28)/\Gx (hc_ w' gl #[dv9,et7,ga2] 28)/\Gx (Below w.heap.size w w'))
 case atStart=>exact⟨(0),(0),(cd3),(co0),(cz3),(.slice jk cd3.length i9),(.slice sx co0.length sy),(.slice bc6 cz3.length av3),(g3_),(g3_),H',⟨Nat.le_refl _⟩,⟨ra_ et4⟩,⟨sa_ et5⟩,⟨Kd.Q_of_R (ra_ et6)⟩,⟨ba_ jp⟩,⟨ba_ jf⟩,⟨ba_ fn⟩,⟨ln⟩⟩
 clear H'
 obtain⟨dv8,ce,gy,iq,jq,dv9,et7,ga2,rfl,rfl,HA,HK2,jr,j7,lb,jp,jf,fn,HB⟩:=hrel
 cases gk with
 | zero=>exact absurd HA.out (by simp[Fr.l0])
 | succ k2=>?_
 have H:=HA.out
 clear HA
 simp only[Fr.l0] at H
 by_cases l8:ce < (l1.length:Int)
 case neg=>
  rw[if_neg l8] at H
  have bn4:=decide_eq_false l8
  clear l8
  simp only[Option.some.injEq,Prod.mk.injEq] at H
  obtain⟨rfl,rfl,rfl,rfl⟩:=H
  have jz1:=ga0.out
  have jz2:=bt1.out
  have hq6:=ga1.out
  have hq7:=bt2.out
  obtain⟨km2,km3,nc6,km4,km5,nc7⟩:=blk3_ fn
  obtain⟨cz5,cz6,kr5⟩:=Kd.R_slice jr.out
  subst kr5
  obtain⟨ga9,gb0,gb1,gb2,gb3,gb4⟩:=blk3_ jf
  obtain⟨be9,bf0,gb5⟩:=Kd.S_slice j7.out
  subst gb5
  obtain⟨oa,ob,dw0,_⟩:=Kd.Q_slice lb.out
  subst dw0
  go_wp2
  refine bodyPost_ret (Jm rfl _ _ ll 28 #[.slice cz5 gy.length cz6, .slice be9 iq.length bf0, .slice oa jq.length ob] (0,0) _ rfl (ba_ jf) Try.underlying28 rfl (g0_)) rfl ?_
  exact⟨_,_,_,g4_,ra_ jr,sa_ j7,qa_ lb,ln⟩
 rw[if_pos l8] at H
 have bn4:=decide_eq_true l8
 clear l8
 obtain⟨fq6,H⟩:=pd_ H
 replace H:=Option.bind_eq_some_iff.mp H
 obtain⟨⟨fe,uw,yg,kr2⟩,ib3,H⟩:=H
 try dsimp only at H
 have nu:=A_ ib3
 clear ib3
 by_cases l9:kr2=true
 ·subst l9
  replace H:=ifp_ H
  have H':=A_ H
  clear H
  obtain⟨iy,iv,bz7⟩:=Kd.R_slice jr.out
  subst bz7
  obtain⟨vp,td,bj5⟩:=Kd.S_slice j7.out
  subst bj5
  obtain⟨k6,kt,bo8,_⟩:=Kd.Q_slice lb.out
  subst bo8
  try go_wp2
  replace jr:=rd_ jr
  replace j7:=sd_ j7
  replace lb:=qd_ lb
  replace jp:=bd_ jp
  replace jf:=bd_ jf
  replace fn:=bd_ fn
  replace HB:=A_ (G1 HB.out)
  obtain⟨⟨kv,ga3,bt3,bt4,bt5,bt6⟩,co1,co2⟩:=rdp_ (at_T69 i8.out ce)
  have na:=bt6
  have nc:=bt5
  have nf:=bt4
  have ng:=bt3
  cases ga3
  replace bt3:=cl_ HB bt3
  replace bt4:=cl_ HB bt4
  replace bt5:=cl_ HB bt5
  replace bt6:=cl_ HB bt6
  refine start_ (n:=12) (S:=fun w'=>w'.cell? ⟨gl,0,none⟩=some (.slice iy gy.length iv)/\w'.cell? ⟨gl,1,none⟩=some (.slice vp iq.length td)/\w'.cell? ⟨gl,2,none⟩=some (.slice k6 jq.length kt)/\w'.cell? (kv.add ((ce).toNat * 4))=some (.int .i64 ((rd_T69 l1 ce).f0))/\w'.cell? ⟨(kv.add ((ce).toNat * 4)).block,(kv.add ((ce).toNat * 4)).off + 1,none⟩=some (.int .i64 ((rd_T69 l1 ce).f1))/\w'.cell? ⟨(kv.add ((ce).toNat * 4)).block,(kv.add ((ce).toNat * 4)).off + 2,none⟩=some (.int .i64 ((rd_T69 l1 ce).f2))/\w'.cell? ⟨(kv.add ((ce).toNat * 4)).block,(kv.add ((ce).toNat * 4)).off + 3,none⟩=some (.int .i64 ((rd_T69 l1 ce).f3))) (ds:=[]) (tl_ 12 0) (g0_) rfl (g0_) ⟨(Gy fn.out 0).trans rfl,(Gy fn.out 1).trans rfl,(Gy fn.out 2).trans rfl,((cl_ HB ng).trans rfl),((cl_ HB nf).trans rfl),((cl_ HB nc).trans rfl),((cl_ HB na).trans rfl)⟩ (fun hHeld=>?_);refine Jl Fr.tab8 Fr.bits8 (fun HT_ HW_=>?_)
  generalize wr.drew=w35 at jr j7 lb jp jf fn HB bt3 bt4 bt5 bt6 hHeld |-
  refine pw_ 1 30 (tl_ 12 2) ?_
  refine pw_ 2 31 (tl_ 12 6) ?_
  refine pw_ 3 32 (tl_ 12 14) ?_
  refine tk4_ 0 29 (tl_ 12 15) hHeld ?_
  refine tk4_ 4 33 (tl_ 12 31) hHeld ?_
  refine join_ (σ:=Value × Value × Value × Nat) 2 (tl_ 12 1023) (fun s_=>[(34, .tuple #[.agg #[s_.1,s_.2.1,s_.2.2.1], .bool true]),(9, .pointer (some ⟨s_.2.2.2,0,none⟩)),(28, .tuple #[.agg #[s_.1,s_.2.1,s_.2.2.1], .bool true]),(35, .agg #[s_.1,s_.2.1,s_.2.2.1]),(36, .bool true)]) (fun s_ w'=>(w'.cell? ⟨gl,0,none⟩=some (.slice iy gy.length iv)/\w'.cell? ⟨gl,1,none⟩=some (.slice vp iq.length td)/\w'.cell? ⟨gl,2,none⟩=some (.slice k6 jq.length kt)/\w'.cell? (kv.add ((ce).toNat * 4))=some (.int .i64 ((rd_T69 l1 ce).f0))/\w'.cell? ⟨(kv.add ((ce).toNat * 4)).block,(kv.add ((ce).toNat * 4)).off + 1,none⟩=some (.int .i64 ((rd_T69 l1 ce).f1))/\w'.cell? ⟨(kv.add ((ce).toNat * 4)).block,(kv.add ((ce).toNat * 4)).off + 2,none⟩=some (.int .i64 ((rd_T69 l1 ce).f2))/\w'.cell? ⟨(kv.add ((ce).toNat * 4)).block,(kv.add ((ce).toNat * 4)).off + 3,none⟩=some (.int .i64 ((rd_T69 l1 ce).f3)))/\(Kd.R (Kd.int .i64) 3 w' w.heap.size (fun k_=>some k_≠(.slice iy gy.length iv:Value).ownBlock) s_.1 fe)/\(Kd.S (Kd.slice 3 (Kd.int .i64)) 22 w' w.heap.size (fun k_=>some k_≠(s_.1:Value).ownBlock/\some k_≠(.slice iy gy.length iv:Value).ownBlock/\some k_≠(.slice vp iq.length td:Value).ownBlock) s_.2.1 uw)/\(Kd.Q k25 25 w' w.heap.size (fun k_=>some k_≠(s_.1:Value).ownBlock/\some k_≠(s_.2.1:Value).ownBlock/\some k_≠(.slice iy gy.length iv:Value).ownBlock/\some k_≠(.slice vp iq.length td:Value).ownBlock/\some k_≠(.slice k6 jq.length kt:Value).ownBlock) s_.2.2.1 yg)/\(Kd.R (Kd.int .i64) 3 w' w.heap.size (fun k_=>some k_≠(s_.1:Value).ownBlock) (.slice iy gy.length iv) gy)/\(Kd.S (Kd.slice 3 (Kd.int .i64)) 22 w' w.heap.size (fun k_=>some k_≠(s_.1:Value).ownBlock/\some k_≠(s_.2.1:Value).ownBlock/\some k_≠(.slice iy gy.length iv:Value).ownBlock) (.slice vp iq.length td) iq)/\(Kd.Q k25 25 w' w.heap.size (fun k_=>some k_≠(s_.1:Value).ownBlock/\some k_≠(s_.2.1:Value).ownBlock/\some k_≠(s_.2.2.1:Value).ownBlock/\some k_≠(.slice iy gy.length iv:Value).ownBlock/\some k_≠(.slice vp iq.length td:Value).ownBlock) (.slice k6 jq.length kt) jq)/\(hc_ w' pf #[.slice ah ab.length af, .slice ao aa.length ai, .slice cy av.length cu] 28)/\(hc_ w' ll #[.slice none 0 0, .slice none 0 0, .slice none 0 0] 28)/\(hc_ w' gl #[.slice iy gy.length iv, .slice vp iq.length td, .slice k6 jq.length kt] 28)/\(hc_ w' s_.2.2.2 #[.slice none 0 0, .slice none 0 0, .slice none 0 0] 28)/\(w.heap.size<=s_.2.2.2)/\(w.heap.size<=s_.2.2.2)/\(pf≠s_.2.2.2)/\(s_.2.2.2≠pf)/\(ll≠s_.2.2.2)/\(s_.2.2.2≠ll)/\(gl≠s_.2.2.2)/\(s_.2.2.2≠gl)/\(Below w.heap.size w w')) ?_ ?_
  rotate_left
  ·intro hCont
   refine two_ (i:=5) (j:=9) (Ni:=some 34) (Nj:=some 9) (tl_ 12 63) (tl_ 12 543) rfl rfl rfl rfl (two_of HT_.out (g0_)) (by decide) (by decide) (fun K hK=>?_) (fun K hK=>?_)
   ·skip
    refine goes_ Try.func54 (g0_) rfl #[.agg #[.slice iy gy.length iv, .slice vp iq.length td, .slice k6 jq.length kt], .agg #[.int .i64 ((rd_T69 l1 ce).f0), .int .i64 ((rd_T69 l1 ce).f1), .int .i64 ((rd_T69 l1 ce).f2), .int .i64 ((rd_T69 l1 ce).f3)]] (by rfl) rfl rfl (gM_) ?_
    refine(Ge.calls k2 _ _ gy _ _ iq _ _ jq ((rd_T69 l1 ce).f0) ((rd_T69 l1 ce).f1) ((rd_T69 l1 ce).f2) ((rd_T69 l1 ce).f3) fe uw yg true _ (cR_ jr) (lR_ jr) (cS_ j7) (lS_ j7) (cQ_ lb) (lQ_ lb) nu.out).mono ?_
    rintro e k7 ⟨tg,ab2,ar7,rfl,ae,ax,bm,hb⟩
    refine⟨_,rfl,?_⟩
    have lk:=A_ (Kd.R_lower (Kd.R_new' ae (Kd.R_lt (uR_ jr))) (Gz (ln)))
    have ar8:=A_ (Kd.S_lower (Kd.S_new' (Kd.S_new' ax (Kd.R_lt (uR_ jr))) (Kd.S_lt (uS_ j7))) (Gz (ln)))
    have ar9:=A_ (Kd.Q_lower (Kd.Q_new' (Kd.Q_new' (Kd.Q_new' bm (Kd.R_lt (uR_ jr))) (Kd.S_lt (uS_ j7))) (Kd.Q_lt (uQ_ lb))) (Gz (ln)))
    replace jr:=A_ (Kd.R_elder' (uR_ jr) (Kd.R_base ae) hb)
    replace j7:=A_ (Kd.S_mono (Kd.S_told (Kd.S_told (Kd.S_old (uS_ j7) hb) (Kd.R_base ae)) (Kd.S_base ax)) (fun _ h_=>h_.1))
    replace lb:=A_ (Kd.Q_mono (Kd.Q_told (Kd.Q_told (Kd.Q_told (Kd.Q_old (uQ_ lb) hb) (Kd.R_base ae)) (Kd.S_base ax)) (Kd.Q_base bm)) (fun _ h_=>h_.1))
    replace jp:=bb_ jp hb
    replace jf:=bb_ jf hb
    replace fn:=bb_ fn hb
    replace HB:=hs_ (ln) hb
    refine hK.out _ _ ⟨(Gy fn.out 0).trans rfl,(Gy fn.out 1).trans rfl,(Gy fn.out 2).trans rfl,((cl_ HB ng).trans rfl),((cl_ HB nf).trans rfl),((cl_ HB nc).trans rfl),((cl_ HB na).trans rfl)⟩ (fun hHeld=>?_)
    clear hK K
    refine nm_ ?_
    refine pw_ 6 28 (tl_ 12 127) ?_
    refine pw_ 7 35 (tl_ 12 255) ?_
    refine pw_ 8 36 (tl_ 12 511) ?_
    refine one_ (i:=9) (N:=some 9) (tl_ 12 1023) rfl rfl (Jn HT_.out (g0_)) (by decide) (fun K hK=>?_)
    refine bs_ (N:=9) #[.slice none 0 0, .slice none 0 0, .slice none 0 0] 28 ?_
    intro du hg ta hbox hb
    replace jr:=rb_ jr hb
    replace j7:=sb_ j7 hb
    replace lb:=qb_ lb hb
    replace lk:=rb_ lk hb
    replace ar8:=sb_ ar8 hb
    replace ar9:=qb_ ar9 hb
    have om:=A_ (hbox)
    have dy:=A_ ((g28_:w.heap.size<=du))
    have bk5:=dy
    replace HB:=hs_ (ln) hb
    have uz:=nl_ jp hg
    have af0:=nr_ jp hg
    replace jp:=bb_ jp hb
    have u2:=nl_ jf hg
    have af1:=nr_ jf hg
    replace jf:=bb_ jf hb
    have lr:=nl_ fn hg
    have af2:=nr_ fn hg
    replace fn:=bb_ fn hb
    clear hb hbox hg
    refine hK.out _ _ ⟨(Gy fn.out 0).trans rfl,(Gy fn.out 1).trans rfl,(Gy fn.out 2).trans rfl,((cl_ HB ng).trans rfl),((cl_ HB nf).trans rfl),((cl_ HB nc).trans rfl),((cl_ HB na).trans rfl)⟩ (fun hHeld=>?_)
    clear hK K
    refine nm_ ?_
    exact Fr.calls.z0
   skip
   refine bs_ (N:=9) #[.slice none 0 0, .slice none 0 0, .slice none 0 0] 28 ?_
   intro du hg k7 hbox hb
   replace jr:=rb_ jr hb
   replace j7:=sb_ j7 hb
   replace lb:=qb_ lb hb
   have om:=A_ (hbox)
   have dy:=A_ ((g28_:w.heap.size<=du))
   have bk5:=dy
   replace HB:=hs_ (ln) hb
   have uz:=nl_ jp hg
   have af0:=nr_ jp hg
   replace jp:=bb_ jp hb
   have u2:=nl_ jf hg
   have af1:=nr_ jf hg
   replace jf:=bb_ jf hb
   have lr:=nl_ fn hg
   have af2:=nr_ fn hg
   replace fn:=bb_ fn hb
   clear hb hbox hg
   refine hK.out _ _ ⟨(Gy fn.out 0).trans rfl,(Gy fn.out 1).trans rfl,(Gy fn.out 2).trans rfl,((cl_ HB ng).trans rfl),((cl_ HB nf).trans rfl),((cl_ HB nc).trans rfl),((cl_ HB na).trans rfl)⟩ (fun hHeld=>?_)
   clear hK K
   refine nm_ ?_
   refine one_ (i:=5) (N:=some 34) (tl_ 12 575) rfl rfl (Jn HT_.out (g0_)) (by decide) (fun K hK=>?_)
   refine goes_ Try.func54 (g0_) rfl #[.agg #[.slice iy gy.length iv, .slice vp iq.length td, .slice k6 jq.length kt], .agg #[.int .i64 ((rd_T69 l1 ce).f0), .int .i64 ((rd_T69 l1 ce).f1), .int .i64 ((rd_T69 l1 ce).f2), .int .i64 ((rd_T69 l1 ce).f3)]] (by rfl) rfl rfl (gM_) ?_
   refine(Ge.calls k2 _ _ gy _ _ iq _ _ jq ((rd_T69 l1 ce).f0) ((rd_T69 l1 ce).f1) ((rd_T69 l1 ce).f2) ((rd_T69 l1 ce).f3) fe uw yg true _ (cR_ jr) (lR_ jr) (cS_ j7) (lS_ j7) (cQ_ lb) (lQ_ lb) nu.out).mono ?_
   rintro e ta ⟨tg,ab2,ar7,rfl,ae,ax,bm,hb⟩
   refine⟨_,rfl,?_⟩
   have lk:=A_ (Kd.R_lower (Kd.R_new' ae (Kd.R_lt (uR_ jr))) (Gz (ln)))
   have ar8:=A_ (Kd.S_lower (Kd.S_new' (Kd.S_new' ax (Kd.R_lt (uR_ jr))) (Kd.S_lt (uS_ j7))) (Gz (ln)))
   have ar9:=A_ (Kd.Q_lower (Kd.Q_new' (Kd.Q_new' (Kd.Q_new' bm (Kd.R_lt (uR_ jr))) (Kd.S_lt (uS_ j7))) (Kd.Q_lt (uQ_ lb))) (Gz (ln)))
   replace jr:=A_ (Kd.R_elder' (uR_ jr) (Kd.R_base ae) hb)
   replace j7:=A_ (Kd.S_mono (Kd.S_told (Kd.S_told (Kd.S_old (uS_ j7) hb) (Kd.R_base ae)) (Kd.S_base ax)) (fun _ h_=>h_.1))
   replace lb:=A_ (Kd.Q_mono (Kd.Q_told (Kd.Q_told (Kd.Q_told (Kd.Q_old (uQ_ lb) hb) (Kd.R_base ae)) (Kd.S_base ax)) (Kd.Q_base bm)) (fun _ h_=>h_.1))
   replace jp:=bb_ jp hb
   replace jf:=bb_ jf hb
   replace fn:=bb_ fn hb
   replace om:=bb_ om hb
   replace HB:=hs_ (ln) hb
   refine hK.out _ _ ⟨(Gy fn.out 0).trans rfl,(Gy fn.out 1).trans rfl,(Gy fn.out 2).trans rfl,((cl_ HB ng).trans rfl),((cl_ HB nf).trans rfl),((cl_ HB nc).trans rfl),((cl_ HB na).trans rfl)⟩ (fun hHeld=>?_)
   clear hK K
   refine nm_ ?_
   refine pw_ 6 28 (tl_ 12 639) ?_
   refine pw_ 7 35 (tl_ 12 767) ?_
   refine pw_ 8 36 (tl_ 12 1023) ?_
   exact Fr.calls.z0
  rintro⟨tg,ab2,ar7,du⟩ lx ⟨hS_,h0_,h1_,h2_,h3_,h4_,h5_,h6_,h7_,h8_,h9_,h10_,h11_,h12_,h13_,h14_,h15_,h16_,h17_,h18_⟩
  have lk:Gx (Kd.R (Kd.int .i64) 3 lx w.heap.size (fun k_=>some k_≠(.slice iy gy.length iv:Value).ownBlock) tg fe):=⟨h0_⟩
  have ar8:Gx (Kd.S (Kd.slice 3 (Kd.int .i64)) 22 lx w.heap.size (fun k_=>some k_≠(tg:Value).ownBlock/\some k_≠(.slice iy gy.length iv:Value).ownBlock/\some k_≠(.slice vp iq.length td:Value).ownBlock) ab2 uw):=⟨h1_⟩
  have ar9:Gx (Kd.Q k25 25 lx w.heap.size (fun k_=>some k_≠(tg:Value).ownBlock/\some k_≠(ab2:Value).ownBlock/\some k_≠(.slice iy gy.length iv:Value).ownBlock/\some k_≠(.slice vp iq.length td:Value).ownBlock/\some k_≠(.slice k6 jq.length kt:Value).ownBlock) ar7 yg):=⟨h2_⟩
  replace jr:Gx (Kd.R (Kd.int .i64) 3 lx w.heap.size (fun k_=>some k_≠(tg:Value).ownBlock) (.slice iy gy.length iv) gy):=⟨h3_⟩
  replace j7:Gx (Kd.S (Kd.slice 3 (Kd.int .i64)) 22 lx w.heap.size (fun k_=>some k_≠(tg:Value).ownBlock/\some k_≠(ab2:Value).ownBlock/\some k_≠(.slice iy gy.length iv:Value).ownBlock) (.slice vp iq.length td) iq):=⟨h4_⟩
  replace lb:Gx (Kd.Q k25 25 lx w.heap.size (fun k_=>some k_≠(tg:Value).ownBlock/\some k_≠(ab2:Value).ownBlock/\some k_≠(ar7:Value).ownBlock/\some k_≠(.slice iy gy.length iv:Value).ownBlock/\some k_≠(.slice vp iq.length td:Value).ownBlock) (.slice k6 jq.length kt) jq):=⟨h5_⟩
  replace jp:Gx (hc_ lx pf #[.slice ah ab.length af, .slice ao aa.length ai, .slice cy av.length cu] 28):=⟨h6_⟩
  replace jf:Gx (hc_ lx ll #[.slice none 0 0, .slice none 0 0, .slice none 0 0] 28):=⟨h7_⟩
  replace fn:Gx (hc_ lx gl #[.slice iy gy.length iv, .slice vp iq.length td, .slice k6 jq.length kt] 28):=⟨h8_⟩
  have om:Gx (hc_ lx du #[.slice none 0 0, .slice none 0 0, .slice none 0 0] 28):=⟨h9_⟩
  have dy:Gx (w.heap.size<=du):=⟨h10_⟩
  have bk5:Gx (w.heap.size<=du):=⟨h11_⟩
  have uz:Gx (pf≠du):=⟨h12_⟩
  have af0:Gx (du≠pf):=⟨h13_⟩
  have u2:Gx (ll≠du):=⟨h14_⟩
  have af1:Gx (du≠ll):=⟨h15_⟩
  have lr:Gx (gl≠du):=⟨h16_⟩
  have af2:Gx (du≠gl):=⟨h17_⟩
  replace HB:Gx (Below w.heap.size w lx):=⟨h18_⟩
  clear h0_ h1_ h2_ h3_ h4_ h5_ h6_ h7_ h8_ h9_ h10_ h11_ h12_ h13_ h14_ h15_ h16_ h17_ h18_
  have hHeld:lx.cell? ⟨gl,0,none⟩=some (.slice iy gy.length iv)/\lx.cell? ⟨gl,1,none⟩=some (.slice vp iq.length td)/\lx.cell? ⟨gl,2,none⟩=some (.slice k6 jq.length kt)/\lx.cell? (kv.add ((ce).toNat * 4))=some (.int .i64 ((rd_T69 l1 ce).f0))/\lx.cell? ⟨(kv.add ((ce).toNat * 4)).block,(kv.add ((ce).toNat * 4)).off + 1,none⟩=some (.int .i64 ((rd_T69 l1 ce).f1))/\lx.cell? ⟨(kv.add ((ce).toNat * 4)).block,(kv.add ((ce).toNat * 4)).off + 2,none⟩=some (.int .i64 ((rd_T69 l1 ce).f2))/\lx.cell? ⟨(kv.add ((ce).toNat * 4)).block,(kv.add ((ce).toNat * 4)).off + 3,none⟩=some (.int .i64 ((rd_T69 l1 ce).f3)):=hS_
  obtain⟨lp,k8,ag9⟩:=Kd.R_slice lk.out
  (first|subst ag9|(injection ag9 with f1_ f2_ f3_;have f4_:=f1_.symm;have f5_:=f3_.symm;clear f1_ f2_ f3_;subst f4_;subst f5_))
  obtain⟨ku,j3,ah1⟩:=Kd.S_slice ar8.out
  (first|subst ah1|(injection ah1 with f1_ f2_ f3_;have f4_:=f1_.symm;have f5_:=f3_.symm;clear f1_ f2_ f3_;subst f4_;subst f5_))
  obtain⟨pt,pc,bj8,_⟩:=Kd.Q_slice ar9.out
  (first|subst bj8|(injection bj8 with f1_ f2_ f3_;have f4_:=f1_.symm;have f5_:=f3_.symm;clear f1_ f2_ f3_;subst f4_;subst f5_))
  refine norm_ (a':=?_) ?_ ?_
  rotate_left
  · exact sq_
  refine one_ (i:=10) (N:=none) (tl_ 12 2047) rfl rfl (Jn HT_.out (g0_)) (by decide) (fun K hK=>?_)
  have ib4:lx.cell? ⟨du,0,none⟩=some (.slice none 0 0):=(Gy om.out 0).trans rfl
  have ib5:=G7 om.out 0
  have kr3:=uz.out
  have ib6:=u2.out
  have mz6:=lr.out
  have kr4:=af0.out
  have ib7:=af1.out
  have mz7:=af2.out
  have hk8:lx.cell? ⟨du,1,none⟩=some (.slice none 0 0):=(Gy om.out 1).trans rfl
  have hl3:=G7 om.out 1
  have jv9:lx.cell? ⟨du,2,none⟩=some (.slice none 0 0):=(Gy om.out 2).trans rfl
  have jw0:=G7 om.out 2
  refine skip_ (w1:=?_) (by rfl) rfl ?_ ?_
  rotate_left
  ·go_simp
   rfl
  refine hK.out _ _ ⟨(cf_ lr ((cf_ lr ((cf_ lr (hHeld.1)))))),(cf_ lr ((cf_ lr ((cf_ lr (hHeld.2.1)))))),(cf_ lr ((cf_ lr ((cf_ lr (hHeld.2.2.1)))))),((cell_far (p:=⟨du,_,none⟩) (by first|exact Nat.ne_of_lt (Nat.lt_of_lt_of_le (by have:=World.block_lt_of_cell? _ _ ng;first|rwa [add_block] at this|exact this) dy.out)|(rw[add_block];exact Nat.ne_of_lt (Nat.lt_of_lt_of_le (by have:=World.block_lt_of_cell? _ _ ng;first|rwa [add_block] at this|exact this) dy.out))|(show(Addr.add _ _).block≠_;rw[add_block];exact Nat.ne_of_lt (Nat.lt_of_lt_of_le (by have:=World.block_lt_of_cell? _ _ ng;first|rwa [add_block] at this|exact this) dy.out))|(dsimp only;exact Nat.ne_of_lt (Nat.lt_of_lt_of_le (by have:=World.block_lt_of_cell? _ _ ng;first|rwa [add_block] at this|exact this) dy.out))) _).trans (((cell_far (p:=⟨du,_,none⟩) (by first|exact Nat.ne_of_lt (Nat.lt_of_lt_of_le (by have:=World.block_lt_of_cell? _ _ ng;first|rwa [add_block] at this|exact this) dy.out)|(rw[add_block];exact Nat.ne_of_lt (Nat.lt_of_lt_of_le (by have:=World.block_lt_of_cell? _ _ ng;first|rwa [add_block] at this|exact this) dy.out))|(show(Addr.add _ _).block≠_;rw[add_block];exact Nat.ne_of_lt (Nat.lt_of_lt_of_le (by have:=World.block_lt_of_cell? _ _ ng;first|rwa [add_block] at this|exact this) dy.out))|(dsimp only;exact Nat.ne_of_lt (Nat.lt_of_lt_of_le (by have:=World.block_lt_of_cell? _ _ ng;first|rwa [add_block] at this|exact this) dy.out))) _).trans (((cell_far (p:=⟨du,_,none⟩) (by first|exact Nat.ne_of_lt (Nat.lt_of_lt_of_le (by have:=World.block_lt_of_cell? _ _ ng;first|rwa [add_block] at this|exact this) dy.out)|(rw[add_block];exact Nat.ne_of_lt (Nat.lt_of_lt_of_le (by have:=World.block_lt_of_cell? _ _ ng;first|rwa [add_block] at this|exact this) dy.out))|(show(Addr.add _ _).block≠_;rw[add_block];exact Nat.ne_of_lt (Nat.lt_of_lt_of_le (by have:=World.block_lt_of_cell? _ _ ng;first|rwa [add_block] at this|exact this) dy.out))|(dsimp only;exact Nat.ne_of_lt (Nat.lt_of_lt_of_le (by have:=World.block_lt_of_cell? _ _ ng;first|rwa [add_block] at this|exact this) dy.out))) _).trans (hHeld.2.2.2.1)))))),((cell_far (p:=⟨du,_,none⟩) (by first|exact Nat.ne_of_lt (Nat.lt_of_lt_of_le (by have:=World.block_lt_of_cell? _ _ nf;first|rwa [add_block] at this|exact this) dy.out)|(rw[add_block];exact Nat.ne_of_lt (Nat.lt_of_lt_of_le (by have:=World.block_lt_of_cell? _ _ nf;first|rwa [add_block] at this|exact this) dy.out))|(show(Addr.add _ _).block≠_;rw[add_block];exact Nat.ne_of_lt (Nat.lt_of_lt_of_le (by have:=World.block_lt_of_cell? _ _ nf;first|rwa [add_block] at this|exact this) dy.out))|(dsimp only;exact Nat.ne_of_lt (Nat.lt_of_lt_of_le (by have:=World.block_lt_of_cell? _ _ nf;first|rwa [add_block] at this|exact this) dy.out))) _).trans (((cell_far (p:=⟨du,_,none⟩) (by first|exact Nat.ne_of_lt (Nat.lt_of_lt_of_le (by have:=World.block_lt_of_cell? _ _ nf;first|rwa [add_block] at this|exact this) dy.out)|(rw[add_block];exact Nat.ne_of_lt (Nat.lt_of_lt_of_le (by have:=World.block_lt_of_cell? _ _ nf;first|rwa [add_block] at this|exact this) dy.out))|(show(Addr.add _ _).block≠_;rw[add_block];exact Nat.ne_of_lt (Nat.lt_of_lt_of_le (by have:=World.block_lt_of_cell? _ _ nf;first|rwa [add_block] at this|exact this) dy.out))|(dsimp only;exact Nat.ne_of_lt (Nat.lt_of_lt_of_le (by have:=World.block_lt_of_cell? _ _ nf;first|rwa [add_block] at this|exact this) dy.out))) _).trans (((cell_far (p:=⟨du,_,none⟩) (by first|exact Nat.ne_of_lt (Nat.lt_of_lt_of_le (by have:=World.block_lt_of_cell? _ _ nf;first|rwa [add_block] at this|exact this) dy.out)|(rw[add_block];exact Nat.ne_of_lt (Nat.lt_of_lt_of_le (by have:=World.block_lt_of_cell? _ _ nf;first|rwa [add_block] at this|exact this) dy.out))|(show(Addr.add _ _).block≠_;rw[add_block];exact Nat.ne_of_lt (Nat.lt_of_lt_of_le (by have:=World.block_lt_of_cell? _ _ nf;first|rwa [add_block] at this|exact this) dy.out))|(dsimp only;exact Nat.ne_of_lt (Nat.lt_of_lt_of_le (by have:=World.block_lt_of_cell? _ _ nf;first|rwa [add_block] at this|exact this) dy.out))) _).trans (hHeld.2.2.2.2.1)))))),((cell_far (p:=⟨du,_,none⟩) (by first|exact Nat.ne_of_lt (Nat.lt_of_lt_of_le (by have:=World.block_lt_of_cell? _ _ nc;first|rwa [add_block] at this|exact this) dy.out)|(rw[add_block];exact Nat.ne_of_lt (Nat.lt_of_lt_of_le (by have:=World.block_lt_of_cell? _ _ nc;first|rwa [add_block] at this|exact this) dy.out))|(show(Addr.add _ _).block≠_;rw[add_block];exact Nat.ne_of_lt (Nat.lt_of_lt_of_le (by have:=World.block_lt_of_cell? _ _ nc;first|rwa [add_block] at this|exact this) dy.out))|(dsimp only;exact Nat.ne_of_lt (Nat.lt_of_lt_of_le (by have:=World.block_lt_of_cell? _ _ nc;first|rwa [add_block] at this|exact this) dy.out))) _).trans (((cell_far (p:=⟨du,_,none⟩) (by first|exact Nat.ne_of_lt (Nat.lt_of_lt_of_le (by have:=World.block_lt_of_cell? _ _ nc;first|rwa [add_block] at this|exact this) dy.out)|(rw[add_block];exact Nat.ne_of_lt (Nat.lt_of_lt_of_le (by have:=World.block_lt_of_cell? _ _ nc;first|rwa [add_block] at this|exact this) dy.out))|(show(Addr.add _ _).block≠_;rw[add_block];exact Nat.ne_of_lt (Nat.lt_of_lt_of_le (by have:=World.block_lt_of_cell? _ _ nc;first|rwa [add_block] at this|exact this) dy.out))|(dsimp only;exact Nat.ne_of_lt (Nat.lt_of_lt_of_le (by have:=World.block_lt_of_cell? _ _ nc;first|rwa [add_block] at this|exact this) dy.out))) _).trans (((cell_far (p:=⟨du,_,none⟩) (by first|exact Nat.ne_of_lt (Nat.lt_of_lt_of_le (by have:=World.block_lt_of_cell? _ _ nc;first|rwa [add_block] at this|exact this) dy.out)|(rw[add_block];exact Nat.ne_of_lt (Nat.lt_of_lt_of_le (by have:=World.block_lt_of_cell? _ _ nc;first|rwa [add_block] at this|exact this) dy.out))|(show(Addr.add _ _).block≠_;rw[add_block];exact Nat.ne_of_lt (Nat.lt_of_lt_of_le (by have:=World.block_lt_of_cell? _ _ nc;first|rwa [add_block] at this|exact this) dy.out))|(dsimp only;exact Nat.ne_of_lt (Nat.lt_of_lt_of_le (by have:=World.block_lt_of_cell? _ _ nc;first|rwa [add_block] at this|exact this) dy.out))) _).trans (hHeld.2.2.2.2.2.1)))))),((cell_far (p:=⟨du,_,none⟩) (by first|exact Nat.ne_of_lt (Nat.lt_of_lt_of_le (by have:=World.block_lt_of_cell? _ _ na;first|rwa [add_block] at this|exact this) dy.out)|(rw[add_block];exact Nat.ne_of_lt (Nat.lt_of_lt_of_le (by have:=World.block_lt_of_cell? _ _ na;first|rwa [add_block] at this|exact this) dy.out))|(show(Addr.add _ _).block≠_;rw[add_block];exact Nat.ne_of_lt (Nat.lt_of_lt_of_le (by have:=World.block_lt_of_cell? _ _ na;first|rwa [add_block] at this|exact this) dy.out))|(dsimp only;exact Nat.ne_of_lt (Nat.lt_of_lt_of_le (by have:=World.block_lt_of_cell? _ _ na;first|rwa [add_block] at this|exact this) dy.out))) _).trans (((cell_far (p:=⟨du,_,none⟩) (by first|exact Nat.ne_of_lt (Nat.lt_of_lt_of_le (by have:=World.block_lt_of_cell? _ _ na;first|rwa [add_block] at this|exact this) dy.out)|(rw[add_block];exact Nat.ne_of_lt (Nat.lt_of_lt_of_le (by have:=World.block_lt_of_cell? _ _ na;first|rwa [add_block] at this|exact this) dy.out))|(show(Addr.add _ _).block≠_;rw[add_block];exact Nat.ne_of_lt (Nat.lt_of_lt_of_le (by have:=World.block_lt_of_cell? _ _ na;first|rwa [add_block] at this|exact this) dy.out))|(dsimp only;exact Nat.ne_of_lt (Nat.lt_of_lt_of_le (by have:=World.block_lt_of_cell? _ _ na;first|rwa [add_block] at this|exact this) dy.out))) _).trans (((cell_far (p:=⟨du,_,none⟩) (by first|exact Nat.ne_of_lt (Nat.lt_of_lt_of_le (by have:=World.block_lt_of_cell? _ _ na;first|rwa [add_block] at this|exact this) dy.out)|(rw[add_block];exact Nat.ne_of_lt (Nat.lt_of_lt_of_le (by have:=World.block_lt_of_cell? _ _ na;first|rwa [add_block] at this|exact this) dy.out))|(show(Addr.add _ _).block≠_;rw[add_block];exact Nat.ne_of_lt (Nat.lt_of_lt_of_le (by have:=World.block_lt_of_cell? _ _ na;first|rwa [add_block] at this|exact this) dy.out))|(dsimp only;exact Nat.ne_of_lt (Nat.lt_of_lt_of_le (by have:=World.block_lt_of_cell? _ _ na;first|rwa [add_block] at this|exact this) dy.out))) _).trans (hHeld.2.2.2.2.2.2))))))⟩ (fun hHeld=>?_)
  clear hK K
  refine pw_ 11 10 (tl_ 12 4095) ?_
  refine done_ (done_of HT_.out (g0_)) ?_
  obtain⟨ds2,ds3,hx8,ds4,ds5,hx9⟩:=blk3_ om
  have er7:=ga0.out
  have er8:=bt1.out
  have er9:=ga1.out
  have es0:=bt2.out
  obtain⟨bp3,bp4,cn2,bp5,bp6,cn3⟩:=blk3_ fn
  try go_wp2
  go_roundg k2
  case measure=>have:=HJ2.out;have:=HK2.out;omega
  case rel=>exact⟨(wrap64 (dv8 + 1)),(wrap64 (ce + 1)),(fe),(uw),(yg),(.slice lp fe.length k8),(.slice ku uw.length j3),(.slice pt yg.length pc),(g3_),(g3_),H',⟨g149_⟩,⟨ra_ lk⟩,⟨sa_ ar8⟩,⟨qa_ ar9⟩,⟨ba_ jp⟩,⟨ba_ jf⟩,⟨ba_ fn⟩,⟨ln⟩⟩
 replace l9:=Bool.eq_false_iff.mpr l9
 subst l9
 replace H:=ifn_ H
 have H':=A_ H
 clear H
 obtain⟨qj,qk,fn0⟩:=Kd.R_slice jr.out
 subst fn0
 obtain⟨px,pz,cz4⟩:=Kd.S_slice j7.out
 subst cz4
 obtain⟨wy,xa,ga4,_⟩:=Kd.Q_slice lb.out
 subst ga4
 try go_wp2
 replace jr:=rd_ jr
 replace j7:=sd_ j7
 replace lb:=qd_ lb
 replace jp:=bd_ jp
 replace jf:=bd_ jf
 replace fn:=bd_ fn
 replace HB:=A_ (G1 HB.out)
 obtain⟨⟨kv,ga3,bt3,bt4,bt5,bt6⟩,co1,co2⟩:=rdp_ (at_T69 i8.out ce)
 have na:=bt6
 have nc:=bt5
 have nf:=bt4
 have ng:=bt3
 cases ga3
 replace bt3:=cl_ HB bt3
 replace bt4:=cl_ HB bt4
 replace bt5:=cl_ HB bt5
 replace bt6:=cl_ HB bt6
 refine start_ (n:=12) (S:=fun w'=>w'.cell? ⟨gl,0,none⟩=some (.slice qj gy.length qk)/\w'.cell? ⟨gl,1,none⟩=some (.slice px iq.length pz)/\w'.cell? ⟨gl,2,none⟩=some (.slice wy jq.length xa)/\w'.cell? (kv.add ((ce).toNat * 4))=some (.int .i64 ((rd_T69 l1 ce).f0))/\w'.cell? ⟨(kv.add ((ce).toNat * 4)).block,(kv.add ((ce).toNat * 4)).off + 1,none⟩=some (.int .i64 ((rd_T69 l1 ce).f1))/\w'.cell? ⟨(kv.add ((ce).toNat * 4)).block,(kv.add ((ce).toNat * 4)).off + 2,none⟩=some (.int .i64 ((rd_T69 l1 ce).f2))/\w'.cell? ⟨(kv.add ((ce).toNat * 4)).block,(kv.add ((ce).toNat * 4)).off + 3,none⟩=some (.int .i64 ((rd_T69 l1 ce).f3))) (ds:=[]) (tl_ 12 0) (g0_) rfl (g0_) ⟨(Gy fn.out 0).trans rfl,(Gy fn.out 1).trans rfl,(Gy fn.out 2).trans rfl,((cl_ HB ng).trans rfl),((cl_ HB nf).trans rfl),((cl_ HB nc).trans rfl),((cl_ HB na).trans rfl)⟩ (fun hHeld=>?_);refine Jl Fr.tab8 Fr.bits8 (fun HT_ HW_=>?_)
 generalize wr.drew=w55 at jr j7 lb jp jf fn HB bt3 bt4 bt5 bt6 hHeld |-
 refine pw_ 1 30 (tl_ 12 2) ?_
 refine pw_ 2 31 (tl_ 12 6) ?_
 refine pw_ 3 32 (tl_ 12 14) ?_
 refine tk4_ 0 29 (tl_ 12 15) hHeld ?_
 refine tk4_ 4 33 (tl_ 12 31) hHeld ?_
 refine join_ (σ:=Value × Value × Value × Nat) 2 (tl_ 12 1023) (fun s_=>[(34, .tuple #[.agg #[s_.1,s_.2.1,s_.2.2.1], .bool false]),(9, .pointer (some ⟨s_.2.2.2,0,none⟩)),(28, .tuple #[.agg #[s_.1,s_.2.1,s_.2.2.1], .bool false]),(35, .agg #[s_.1,s_.2.1,s_.2.2.1]),(36, .bool false)]) (fun s_ w'=>(w'.cell? ⟨gl,0,none⟩=some (.slice qj gy.length qk)/\w'.cell? ⟨gl,1,none⟩=some (.slice px iq.length pz)/\w'.cell? ⟨gl,2,none⟩=some (.slice wy jq.length xa)/\w'.cell? (kv.add ((ce).toNat * 4))=some (.int .i64 ((rd_T69 l1 ce).f0))/\w'.cell? ⟨(kv.add ((ce).toNat * 4)).block,(kv.add ((ce).toNat * 4)).off + 1,none⟩=some (.int .i64 ((rd_T69 l1 ce).f1))/\w'.cell? ⟨(kv.add ((ce).toNat * 4)).block,(kv.add ((ce).toNat * 4)).off + 2,none⟩=some (.int .i64 ((rd_T69 l1 ce).f2))/\w'.cell? ⟨(kv.add ((ce).toNat * 4)).block,(kv.add ((ce).toNat * 4)).off + 3,none⟩=some (.int .i64 ((rd_T69 l1 ce).f3)))/\(Kd.R (Kd.int .i64) 3 w' w.heap.size (fun k_=>some k_≠(.slice qj gy.length qk:Value).ownBlock) s_.1 fe)/\(Kd.S (Kd.slice 3 (Kd.int .i64)) 22 w' w.heap.size (fun k_=>some k_≠(s_.1:Value).ownBlock/\some k_≠(.slice qj gy.length qk:Value).ownBlock/\some k_≠(.slice px iq.length pz:Value).ownBlock) s_.2.1 uw)/\(Kd.Q k25 25 w' w.heap.size (fun k_=>some k_≠(s_.1:Value).ownBlock/\some k_≠(s_.2.1:Value).ownBlock/\some k_≠(.slice qj gy.length qk:Value).ownBlock/\some k_≠(.slice px iq.length pz:Value).ownBlock/\some k_≠(.slice wy jq.length xa:Value).ownBlock) s_.2.2.1 yg)/\(Kd.R (Kd.int .i64) 3 w' w.heap.size (fun k_=>some k_≠(s_.1:Value).ownBlock) (.slice qj gy.length qk) gy)/\(Kd.S (Kd.slice 3 (Kd.int .i64)) 22 w' w.heap.size (fun k_=>some k_≠(s_.1:Value).ownBlock/\some k_≠(s_.2.1:Value).ownBlock/\some k_≠(.slice qj gy.length qk:Value).ownBlock) (.slice px iq.length pz) iq)/\(Kd.Q k25 25 w' w.heap.size (fun k_=>some k_≠(s_.1:Value).ownBlock/\some k_≠(s_.2.1:Value).ownBlock/\some k_≠(s_.2.2.1:Value).ownBlock/\some k_≠(.slice qj gy.length qk:Value).ownBlock/\some k_≠(.slice px iq.length pz:Value).ownBlock) (.slice wy jq.length xa) jq)/\(hc_ w' pf #[.slice ah ab.length af, .slice ao aa.length ai, .slice cy av.length cu] 28)/\(hc_ w' ll #[.slice none 0 0, .slice none 0 0, .slice none 0 0] 28)/\(hc_ w' gl #[.slice qj gy.length qk, .slice px iq.length pz, .slice wy jq.length xa] 28)/\(hc_ w' s_.2.2.2 #[.slice none 0 0, .slice none 0 0, .slice none 0 0] 28)/\(w.heap.size<=s_.2.2.2)/\(w.heap.size<=s_.2.2.2)/\(pf≠s_.2.2.2)/\(s_.2.2.2≠pf)/\(ll≠s_.2.2.2)/\(s_.2.2.2≠ll)/\(gl≠s_.2.2.2)/\(s_.2.2.2≠gl)/\(Below w.heap.size w w')) ?_ ?_
 rotate_left
 ·intro hCont
  refine two_ (i:=5) (j:=9) (Ni:=some 34) (Nj:=some 9) (tl_ 12 63) (tl_ 12 543) rfl rfl rfl rfl (two_of HT_.out (g0_)) (by decide) (by decide) (fun K hK=>?_) (fun K hK=>?_)
  ·skip
   refine goes_ Try.func54 (g0_) rfl #[.agg #[.slice qj gy.length qk, .slice px iq.length pz, .slice wy jq.length xa], .agg #[.int .i64 ((rd_T69 l1 ce).f0), .int .i64 ((rd_T69 l1 ce).f1), .int .i64 ((rd_T69 l1 ce).f2), .int .i64 ((rd_T69 l1 ce).f3)]] (by rfl) rfl rfl (gM_) ?_
   refine(Ge.calls k2 _ _ gy _ _ iq _ _ jq ((rd_T69 l1 ce).f0) ((rd_T69 l1 ce).f1) ((rd_T69 l1 ce).f2) ((rd_T69 l1 ce).f3) fe uw yg false _ (cR_ jr) (lR_ jr) (cS_ j7) (lS_ j7) (cQ_ lb) (lQ_ lb) nu.out).mono ?_
   rintro e w56 ⟨tg,ab2,ar7,rfl,ae,ax,bm,hb⟩
   refine⟨_,rfl,?_⟩
   have lk:=A_ (Kd.R_lower (Kd.R_new' ae (Kd.R_lt (uR_ jr))) (Gz (ln)))
   have ar8:=A_ (Kd.S_lower (Kd.S_new' (Kd.S_new' ax (Kd.R_lt (uR_ jr))) (Kd.S_lt (uS_ j7))) (Gz (ln)))
   have ar9:=A_ (Kd.Q_lower (Kd.Q_new' (Kd.Q_new' (Kd.Q_new' bm (Kd.R_lt (uR_ jr))) (Kd.S_lt (uS_ j7))) (Kd.Q_lt (uQ_ lb))) (Gz (ln)))
   replace jr:=A_ (Kd.R_elder' (uR_ jr) (Kd.R_base ae) hb)
   replace j7:=A_ (Kd.S_mono (Kd.S_told (Kd.S_told (Kd.S_old (uS_ j7) hb) (Kd.R_base ae)) (Kd.S_base ax)) (fun _ h_=>h_.1))
   replace lb:=A_ (Kd.Q_mono (Kd.Q_told (Kd.Q_told (Kd.Q_told (Kd.Q_old (uQ_ lb) hb) (Kd.R_base ae)) (Kd.S_base ax)) (Kd.Q_base bm)) (fun _ h_=>h_.1))
   replace jp:=bb_ jp hb
   replace jf:=bb_ jf hb
   replace fn:=bb_ fn hb
   replace HB:=hs_ (ln) hb
   refine hK.out _ _ ⟨(Gy fn.out 0).trans rfl,(Gy fn.out 1).trans rfl,(Gy fn.out 2).trans rfl,((cl_ HB ng).trans rfl),((cl_ HB nf).trans rfl),((cl_ HB nc).trans rfl),((cl_ HB na).trans rfl)⟩ (fun hHeld=>?_)
   clear hK K
   refine nm_ ?_
   refine pw_ 6 28 (tl_ 12 127) ?_
   refine pw_ 7 35 (tl_ 12 255) ?_
   refine pw_ 8 36 (tl_ 12 511) ?_
   refine one_ (i:=9) (N:=some 9) (tl_ 12 1023) rfl rfl (Jn HT_.out (g0_)) (by decide) (fun K hK=>?_)
   refine bs_ (N:=9) #[.slice none 0 0, .slice none 0 0, .slice none 0 0] 28 ?_
   intro du hg w57 hbox hb
   replace jr:=rb_ jr hb
   replace j7:=sb_ j7 hb
   replace lb:=qb_ lb hb
   replace lk:=rb_ lk hb
   replace ar8:=sb_ ar8 hb
   replace ar9:=qb_ ar9 hb
   have om:=A_ (hbox)
   have dy:=A_ ((g28_:w.heap.size<=du))
   have bk5:=dy
   replace HB:=hs_ (ln) hb
   have uz:=nl_ jp hg
   have af0:=nr_ jp hg
   replace jp:=bb_ jp hb
   have u2:=nl_ jf hg
   have af1:=nr_ jf hg
   replace jf:=bb_ jf hb
   have lr:=nl_ fn hg
   have af2:=nr_ fn hg
   replace fn:=bb_ fn hb
   clear hb hbox hg
   refine hK.out _ _ ⟨(Gy fn.out 0).trans rfl,(Gy fn.out 1).trans rfl,(Gy fn.out 2).trans rfl,((cl_ HB ng).trans rfl),((cl_ HB nf).trans rfl),((cl_ HB nc).trans rfl),((cl_ HB na).trans rfl)⟩ (fun hHeld=>?_)
   clear hK K
   refine nm_ ?_
   exact Fr.calls.z0
  skip
  refine bs_ (N:=9) #[.slice none 0 0, .slice none 0 0, .slice none 0 0] 28 ?_
  intro du hg w56 hbox hb
  replace jr:=rb_ jr hb
  replace j7:=sb_ j7 hb
  replace lb:=qb_ lb hb
  have om:=A_ (hbox)
  have dy:=A_ ((g28_:w.heap.size<=du))
  have bk5:=dy
  replace HB:=hs_ (ln) hb
  have uz:=nl_ jp hg
  have af0:=nr_ jp hg
  replace jp:=bb_ jp hb
  have u2:=nl_ jf hg
  have af1:=nr_ jf hg
  replace jf:=bb_ jf hb
  have lr:=nl_ fn hg
  have af2:=nr_ fn hg
  replace fn:=bb_ fn hb
  clear hb hbox hg
  refine hK.out _ _ ⟨(Gy fn.out 0).trans rfl,(Gy fn.out 1).trans rfl,(Gy fn.out 2).trans rfl,((cl_ HB ng).trans rfl),((cl_ HB nf).trans rfl),((cl_ HB nc).trans rfl),((cl_ HB na).trans rfl)⟩ (fun hHeld=>?_)
  clear hK K
  refine nm_ ?_
  refine one_ (i:=5) (N:=some 34) (tl_ 12 575) rfl rfl (Jn HT_.out (g0_)) (by decide) (fun K hK=>?_)
  refine goes_ Try.func54 (g0_) rfl #[.agg #[.slice qj gy.length qk, .slice px iq.length pz, .slice wy jq.length xa], .agg #[.int .i64 ((rd_T69 l1 ce).f0), .int .i64 ((rd_T69 l1 ce).f1), .int .i64 ((rd_T69 l1 ce).f2), .int .i64 ((rd_T69 l1 ce).f3)]] (by rfl) rfl rfl (gM_) ?_
  refine(Ge.calls k2 _ _ gy _ _ iq _ _ jq ((rd_T69 l1 ce).f0) ((rd_T69 l1 ce).f1) ((rd_T69 l1 ce).f2) ((rd_T69 l1 ce).f3) fe uw yg false _ (cR_ jr) (lR_ jr) (cS_ j7) (lS_ j7) (cQ_ lb) (lQ_ lb) nu.out).mono ?_
  rintro e w57 ⟨tg,ab2,ar7,rfl,ae,ax,bm,hb⟩
  refine⟨_,rfl,?_⟩
  have lk:=A_ (Kd.R_lower (Kd.R_new' ae (Kd.R_lt (uR_ jr))) (Gz (ln)))
  have ar8:=A_ (Kd.S_lower (Kd.S_new' (Kd.S_new' ax (Kd.R_lt (uR_ jr))) (Kd.S_lt (uS_ j7))) (Gz (ln)))
  have ar9:=A_ (Kd.Q_lower (Kd.Q_new' (Kd.Q_new' (Kd.Q_new' bm (Kd.R_lt (uR_ jr))) (Kd.S_lt (uS_ j7))) (Kd.Q_lt (uQ_ lb))) (Gz (ln)))
  replace jr:=A_ (Kd.R_elder' (uR_ jr) (Kd.R_base ae) hb)
  replace j7:=A_ (Kd.S_mono (Kd.S_told (Kd.S_told (Kd.S_old (uS_ j7) hb) (Kd.R_base ae)) (Kd.S_base ax)) (fun _ h_=>h_.1))
  replace lb:=A_ (Kd.Q_mono (Kd.Q_told (Kd.Q_told (Kd.Q_told (Kd.Q_old (uQ_ lb) hb) (Kd.R_base ae)) (Kd.S_base ax)) (Kd.Q_base bm)) (fun _ h_=>h_.1))
  replace jp:=bb_ jp hb
  replace jf:=bb_ jf hb
  replace fn:=bb_ fn hb
  replace om:=bb_ om hb
  replace HB:=hs_ (ln) hb
  refine hK.out _ _ ⟨(Gy fn.out 0).trans rfl,(Gy fn.out 1).trans rfl,(Gy fn.out 2).trans rfl,((cl_ HB ng).trans rfl),((cl_ HB nf).trans rfl),((cl_ HB nc).trans rfl),((cl_ HB na).trans rfl)⟩ (fun hHeld=>?_)
  clear hK K
  refine nm_ ?_
  refine pw_ 6 28 (tl_ 12 639) ?_
  refine pw_ 7 35 (tl_ 12 767) ?_
  refine pw_ 8 36 (tl_ 12 1023) ?_
  exact Fr.calls.z0
 rintro⟨tg,ab2,ar7,du⟩ m0 ⟨hS_,h0_,h1_,h2_,h3_,h4_,h5_,h6_,h7_,h8_,h9_,h10_,h11_,h12_,h13_,h14_,h15_,h16_,h17_,h18_⟩
 have lk:Gx (Kd.R (Kd.int .i64) 3 m0 w.heap.size (fun k_=>some k_≠(.slice qj gy.length qk:Value).ownBlock) tg fe):=⟨h0_⟩
 have ar8:Gx (Kd.S (Kd.slice 3 (Kd.int .i64)) 22 m0 w.heap.size (fun k_=>some k_≠(tg:Value).ownBlock/\some k_≠(.slice qj gy.length qk:Value).ownBlock/\some k_≠(.slice px iq.length pz:Value).ownBlock) ab2 uw):=⟨h1_⟩
 have ar9:Gx (Kd.Q k25 25 m0 w.heap.size (fun k_=>some k_≠(tg:Value).ownBlock/\some k_≠(ab2:Value).ownBlock/\some k_≠(.slice qj gy.length qk:Value).ownBlock/\some k_≠(.slice px iq.length pz:Value).ownBlock/\some k_≠(.slice wy jq.length xa:Value).ownBlock) ar7 yg):=⟨h2_⟩
 replace jr:Gx (Kd.R (Kd.int .i64) 3 m0 w.heap.size (fun k_=>some k_≠(tg:Value).ownBlock) (.slice qj gy.length qk) gy):=⟨h3_⟩
 replace j7:Gx (Kd.S (Kd.slice 3 (Kd.int .i64)) 22 m0 w.heap.size (fun k_=>some k_≠(tg:Value).ownBlock/\some k_≠(ab2:Value).ownBlock/\some k_≠(.slice qj gy.length qk:Value).ownBlock) (.slice px iq.length pz) iq):=⟨h4_⟩
 replace lb:Gx (Kd.Q k25 25 m0 w.heap.size (fun k_=>some k_≠(tg:Value).ownBlock/\some k_≠(ab2:Value).ownBlock/\some k_≠(ar7:Value).ownBlock/\some k_≠(.slice qj gy.length qk:Value).ownBlock/\some k_≠(.slice px iq.length pz:Value).ownBlock) (.slice wy jq.length xa) jq):=⟨h5_⟩
 replace jp:Gx (hc_ m0 pf #[.slice ah ab.length af, .slice ao aa.length ai, .slice cy av.length cu] 28):=⟨h6_⟩
 replace jf:Gx (hc_ m0 ll #[.slice none 0 0, .slice none 0 0, .slice none 0 0] 28):=⟨h7_⟩
 replace fn:Gx (hc_ m0 gl #[.slice qj gy.length qk, .slice px iq.length pz, .slice wy jq.length xa] 28):=⟨h8_⟩
 have om:Gx (hc_ m0 du #[.slice none 0 0, .slice none 0 0, .slice none 0 0] 28):=⟨h9_⟩
 have dy:Gx (w.heap.size<=du):=⟨h10_⟩
 have bk5:Gx (w.heap.size<=du):=⟨h11_⟩
 have uz:Gx (pf≠du):=⟨h12_⟩
 have af0:Gx (du≠pf):=⟨h13_⟩
 have u2:Gx (ll≠du):=⟨h14_⟩
 have af1:Gx (du≠ll):=⟨h15_⟩
 have lr:Gx (gl≠du):=⟨h16_⟩
 have af2:Gx (du≠gl):=⟨h17_⟩
 replace HB:Gx (Below w.heap.size w m0):=⟨h18_⟩
 clear h0_ h1_ h2_ h3_ h4_ h5_ h6_ h7_ h8_ h9_ h10_ h11_ h12_ h13_ h14_ h15_ h16_ h17_ h18_
 have hHeld:m0.cell? ⟨gl,0,none⟩=some (.slice qj gy.length qk)/\m0.cell? ⟨gl,1,none⟩=some (.slice px iq.length pz)/\m0.cell? ⟨gl,2,none⟩=some (.slice wy jq.length xa)/\m0.cell? (kv.add ((ce).toNat * 4))=some (.int .i64 ((rd_T69 l1 ce).f0))/\m0.cell? ⟨(kv.add ((ce).toNat * 4)).block,(kv.add ((ce).toNat * 4)).off + 1,none⟩=some (.int .i64 ((rd_T69 l1 ce).f1))/\m0.cell? ⟨(kv.add ((ce).toNat * 4)).block,(kv.add ((ce).toNat * 4)).off + 2,none⟩=some (.int .i64 ((rd_T69 l1 ce).f2))/\m0.cell? ⟨(kv.add ((ce).toNat * 4)).block,(kv.add ((ce).toNat * 4)).off + 3,none⟩=some (.int .i64 ((rd_T69 l1 ce).f3)):=hS_
 obtain⟨en2,en3,dp6⟩:=Kd.R_slice lk.out
 (first|subst dp6|(injection dp6 with f1_ f2_ f3_;have f4_:=f1_.symm;have f5_:=f3_.symm;clear f1_ f2_ f3_;subst f4_;subst f5_))
 obtain⟨ga5,ga6,ib8⟩:=Kd.S_slice ar8.out
 (first|subst ib8|(injection ib8 with f1_ f2_ f3_;have f4_:=f1_.symm;have f5_:=f3_.symm;clear f1_ f2_ f3_;subst f4_;subst f5_))
 obtain⟨ga7,ga8,ib9,_⟩:=Kd.Q_slice ar9.out
 (first|subst ib9|(injection ib9 with f1_ f2_ f3_;have f4_:=f1_.symm;have f5_:=f3_.symm;clear f1_ f2_ f3_;subst f4_;subst f5_))
 refine norm_ (a':=?_) ?_ ?_
 rotate_left
 · exact sq_
 refine one_ (i:=10) (N:=none) (tl_ 12 2047) rfl rfl (Jn HT_.out (g0_)) (by decide) (fun K hK=>?_)
 have na2:m0.cell? ⟨du,0,none⟩=some (.slice none 0 0):=(Gy om.out 0).trans rfl
 have na3:=G7 om.out 0
 have na4:=uz.out
 have na5:=u2.out
 have na6:=lr.out
 have na7:=af0.out
 have na8:=af1.out
 have na9:=af2.out
 have nb0:m0.cell? ⟨du,1,none⟩=some (.slice none 0 0):=(Gy om.out 1).trans rfl
 have nb1:=G7 om.out 1
 have nb8:m0.cell? ⟨du,2,none⟩=some (.slice none 0 0):=(Gy om.out 2).trans rfl
 have nb9:=G7 om.out 2
 refine skip_ (w1:=?_) (by rfl) rfl ?_ ?_
 rotate_left
 ·go_simp
  rfl
 refine hK.out _ _ ⟨(cf_ lr ((cf_ lr ((cf_ lr (hHeld.1)))))),(cf_ lr ((cf_ lr ((cf_ lr (hHeld.2.1)))))),(cf_ lr ((cf_ lr ((cf_ lr (hHeld.2.2.1)))))),((cell_far (p:=⟨du,_,none⟩) (by first|exact Nat.ne_of_lt (Nat.lt_of_lt_of_le (by have:=World.block_lt_of_cell? _ _ ng;first|rwa [add_block] at this|exact this) dy.out)|(rw[add_block];exact Nat.ne_of_lt (Nat.lt_of_lt_of_le (by have:=World.block_lt_of_cell? _ _ ng;first|rwa [add_block] at this|exact this) dy.out))|(show(Addr.add _ _).block≠_;rw[add_block];exact Nat.ne_of_lt (Nat.lt_of_lt_of_le (by have:=World.block_lt_of_cell? _ _ ng;first|rwa [add_block] at this|exact this) dy.out))|(dsimp only;exact Nat.ne_of_lt (Nat.lt_of_lt_of_le (by have:=World.block_lt_of_cell? _ _ ng;first|rwa [add_block] at this|exact this) dy.out))) _).trans (((cell_far (p:=⟨du,_,none⟩) (by first|exact Nat.ne_of_lt (Nat.lt_of_lt_of_le (by have:=World.block_lt_of_cell? _ _ ng;first|rwa [add_block] at this|exact this) dy.out)|(rw[add_block];exact Nat.ne_of_lt (Nat.lt_of_lt_of_le (by have:=World.block_lt_of_cell? _ _ ng;first|rwa [add_block] at this|exact this) dy.out))|(show(Addr.add _ _).block≠_;rw[add_block];exact Nat.ne_of_lt (Nat.lt_of_lt_of_le (by have:=World.block_lt_of_cell? _ _ ng;first|rwa [add_block] at this|exact this) dy.out))|(dsimp only;exact Nat.ne_of_lt (Nat.lt_of_lt_of_le (by have:=World.block_lt_of_cell? _ _ ng;first|rwa [add_block] at this|exact this) dy.out))) _).trans (((cell_far (p:=⟨du,_,none⟩) (by first|exact Nat.ne_of_lt (Nat.lt_of_lt_of_le (by have:=World.block_lt_of_cell? _ _ ng;first|rwa [add_block] at this|exact this) dy.out)|(rw[add_block];exact Nat.ne_of_lt (Nat.lt_of_lt_of_le (by have:=World.block_lt_of_cell? _ _ ng;first|rwa [add_block] at this|exact this) dy.out))|(show(Addr.add _ _).block≠_;rw[add_block];exact Nat.ne_of_lt (Nat.lt_of_lt_of_le (by have:=World.block_lt_of_cell? _ _ ng;first|rwa [add_block] at this|exact this) dy.out))|(dsimp only;exact Nat.ne_of_lt (Nat.lt_of_lt_of_le (by have:=World.block_lt_of_cell? _ _ ng;first|rwa [add_block] at this|exact this) dy.out))) _).trans (hHeld.2.2.2.1)))))),((cell_far (p:=⟨du,_,none⟩) (by first|exact Nat.ne_of_lt (Nat.lt_of_lt_of_le (by have:=World.block_lt_of_cell? _ _ nf;first|rwa [add_block] at this|exact this) dy.out)|(rw[add_block];exact Nat.ne_of_lt (Nat.lt_of_lt_of_le (by have:=World.block_lt_of_cell? _ _ nf;first|rwa [add_block] at this|exact this) dy.out))|(show(Addr.add _ _).block≠_;rw[add_block];exact Nat.ne_of_lt (Nat.lt_of_lt_of_le (by have:=World.block_lt_of_cell? _ _ nf;first|rwa [add_block] at this|exact this) dy.out))|(dsimp only;exact Nat.ne_of_lt (Nat.lt_of_lt_of_le (by have:=World.block_lt_of_cell? _ _ nf;first|rwa [add_block] at this|exact this) dy.out))) _).trans (((cell_far (p:=⟨du,_,none⟩) (by first|exact Nat.ne_of_lt (Nat.lt_of_lt_of_le (by have:=World.block_lt_of_cell? _ _ nf;first|rwa [add_block] at this|exact this) dy.out)|(rw[add_block];exact Nat.ne_of_lt (Nat.lt_of_lt_of_le (by have:=World.block_lt_of_cell? _ _ nf;first|rwa [add_block] at this|exact this) dy.out))|(show(Addr.add _ _).block≠_;rw[add_block];exact Nat.ne_of_lt (Nat.lt_of_lt_of_le (by have:=World.block_lt_of_cell? _ _ nf;first|rwa [add_block] at this|exact this) dy.out))|(dsimp only;exact Nat.ne_of_lt (Nat.lt_of_lt_of_le (by have:=World.block_lt_of_cell? _ _ nf;first|rwa [add_block] at this|exact this) dy.out))) _).trans (((cell_far (p:=⟨du,_,none⟩) (by first|exact Nat.ne_of_lt (Nat.lt_of_lt_of_le (by have:=World.block_lt_of_cell? _ _ nf;first|rwa [add_block] at this|exact this) dy.out)|(rw[add_block];exact Nat.ne_of_lt (Nat.lt_of_lt_of_le (by have:=World.block_lt_of_cell? _ _ nf;first|rwa [add_block] at this|exact this) dy.out))|(show(Addr.add _ _).block≠_;rw[add_block];exact Nat.ne_of_lt (Nat.lt_of_lt_of_le (by have:=World.block_lt_of_cell? _ _ nf;first|rwa [add_block] at this|exact this) dy.out))|(dsimp only;exact Nat.ne_of_lt (Nat.lt_of_lt_of_le (by have:=World.block_lt_of_cell? _ _ nf;first|rwa [add_block] at this|exact this) dy.out))) _).trans (hHeld.2.2.2.2.1)))))),((cell_far (p:=⟨du,_,none⟩) (by first|exact Nat.ne_of_lt (Nat.lt_of_lt_of_le (by have:=World.block_lt_of_cell? _ _ nc;first|rwa [add_block] at this|exact this) dy.out)|(rw[add_block];exact Nat.ne_of_lt (Nat.lt_of_lt_of_le (by have:=World.block_lt_of_cell? _ _ nc;first|rwa [add_block] at this|exact this) dy.out))|(show(Addr.add _ _).block≠_;rw[add_block];exact Nat.ne_of_lt (Nat.lt_of_lt_of_le (by have:=World.block_lt_of_cell? _ _ nc;first|rwa [add_block] at this|exact this) dy.out))|(dsimp only;exact Nat.ne_of_lt (Nat.lt_of_lt_of_le (by have:=World.block_lt_of_cell? _ _ nc;first|rwa [add_block] at this|exact this) dy.out))) _).trans (((cell_far (p:=⟨du,_,none⟩) (by first|exact Nat.ne_of_lt (Nat.lt_of_lt_of_le (by have:=World.block_lt_of_cell? _ _ nc;first|rwa [add_block] at this|exact this) dy.out)|(rw[add_block];exact Nat.ne_of_lt (Nat.lt_of_lt_of_le (by have:=World.block_lt_of_cell? _ _ nc;first|rwa [add_block] at this|exact this) dy.out))|(show(Addr.add _ _).block≠_;rw[add_block];exact Nat.ne_of_lt (Nat.lt_of_lt_of_le (by have:=World.block_lt_of_cell? _ _ nc;first|rwa [add_block] at this|exact this) dy.out))|(dsimp only;exact Nat.ne_of_lt (Nat.lt_of_lt_of_le (by have:=World.block_lt_of_cell? _ _ nc;first|rwa [add_block] at this|exact this) dy.out))) _).trans (((cell_far (p:=⟨du,_,none⟩) (by first|exact Nat.ne_of_lt (Nat.lt_of_lt_of_le (by have:=World.block_lt_of_cell? _ _ nc;first|rwa [add_block] at this|exact this) dy.out)|(rw[add_block];exact Nat.ne_of_lt (Nat.lt_of_lt_of_le (by have:=World.block_lt_of_cell? _ _ nc;first|rwa [add_block] at this|exact this) dy.out))|(show(Addr.add _ _).block≠_;rw[add_block];exact Nat.ne_of_lt (Nat.lt_of_lt_of_le (by have:=World.block_lt_of_cell? _ _ nc;first|rwa [add_block] at this|exact this) dy.out))|(dsimp only;exact Nat.ne_of_lt (Nat.lt_of_lt_of_le (by have:=World.block_lt_of_cell? _ _ nc;first|rwa [add_block] at this|exact this) dy.out))) _).trans (hHeld.2.2.2.2.2.1)))))),((cell_far (p:=⟨du,_,none⟩) (by first|exact Nat.ne_of_lt (Nat.lt_of_lt_of_le (by have:=World.block_lt_of_cell? _ _ na;first|rwa [add_block] at this|exact this) dy.out)|(rw[add_block];exact Nat.ne_of_lt (Nat.lt_of_lt_of_le (by have:=World.block_lt_of_cell? _ _ na;first|rwa [add_block] at this|exact this) dy.out))|(show(Addr.add _ _).block≠_;rw[add_block];exact Nat.ne_of_lt (Nat.lt_of_lt_of_le (by have:=World.block_lt_of_cell? _ _ na;first|rwa [add_block] at this|exact this) dy.out))|(dsimp only;exact Nat.ne_of_lt (Nat.lt_of_lt_of_le (by have:=World.block_lt_of_cell? _ _ na;first|rwa [add_block] at this|exact this) dy.out))) _).trans (((cell_far (p:=⟨du,_,none⟩) (by first|exact Nat.ne_of_lt (Nat.lt_of_lt_of_le (by have:=World.block_lt_of_cell? _ _ na;first|rwa [add_block] at this|exact this) dy.out)|(rw[add_block];exact Nat.ne_of_lt (Nat.lt_of_lt_of_le (by have:=World.block_lt_of_cell? _ _ na;first|rwa [add_block] at this|exact this) dy.out))|(show(Addr.add _ _).block≠_;rw[add_block];exact Nat.ne_of_lt (Nat.lt_of_lt_of_le (by have:=World.block_lt_of_cell? _ _ na;first|rwa [add_block] at this|exact this) dy.out))|(dsimp only;exact Nat.ne_of_lt (Nat.lt_of_lt_of_le (by have:=World.block_lt_of_cell? _ _ na;first|rwa [add_block] at this|exact this) dy.out))) _).trans (((cell_far (p:=⟨du,_,none⟩) (by first|exact Nat.ne_of_lt (Nat.lt_of_lt_of_le (by have:=World.block_lt_of_cell? _ _ na;first|rwa [add_block] at this|exact this) dy.out)|(rw[add_block];exact Nat.ne_of_lt (Nat.lt_of_lt_of_le (by have:=World.block_lt_of_cell? _ _ na;first|rwa [add_block] at this|exact this) dy.out))|(show(Addr.add _ _).block≠_;rw[add_block];exact Nat.ne_of_lt (Nat.lt_of_lt_of_le (by have:=World.block_lt_of_cell? _ _ na;first|rwa [add_block] at this|exact this) dy.out))|(dsimp only;exact Nat.ne_of_lt (Nat.lt_of_lt_of_le (by have:=World.block_lt_of_cell? _ _ na;first|rwa [add_block] at this|exact this) dy.out))) _).trans (hHeld.2.2.2.2.2.2))))))⟩ (fun hHeld=>?_)
 clear hK K
 refine pw_ 11 10 (tl_ 12 4095) ?_
 refine done_ (done_of HT_.out (g0_)) ?_
 try go_wp2
 go_roundg k2
 case measure=>have:=HJ2.out;have:=HK2.out;omega
 case rel=>exact⟨(dv8),(wrap64 (ce + 1)),(gy),(iq),(jq),(.slice qj gy.length qk),(.slice px iq.length pz),(.slice wy jq.length xa),(g3_),(g3_),H',⟨g149_⟩,⟨ra_ jr⟩,⟨sa_ j7⟩,⟨qa_ lb⟩,⟨ba_ jp⟩,⟨ba_ jf⟩,⟨ba_ fn⟩,⟨ln⟩⟩
def Fo.l0:Nat->List (List Int)->Int->Int->List Int->List (List Int)->Option (List Int × (List (List Int)))
 | 0,_,_,_,_,_=>none
 | k + 1,x12,nh,x14,ic0,gb6=>if x14 < nh then(if 0<=x14 then(if x14 < (x12.length:Int) then((some (([]:List Int):List Int)).bind fun co3=>(if co3.length + (Jb x12 x14).length < 17592186044416 then(if gb6.length < 5864062014805 then(Fo.l0 k x12 nh (wrap64 (x14 + 1)) ic0 (gb6 ++ [(co3 ++ (Jb x12 x14))])) else(none)) else(none))) else(none)) else(none)) else(some (ic0,gb6))
def Fo.f (k:Nat) (ab:List Int) (aa:List (List Int)):Option (List Int × (List (List Int))):=(some (([]:List Int):List Int)).bind fun bk6=>(if bk6.length + ab.length < 17592186044416 then(Fo.l0 k aa (aa.length:Int) 0 (bk6 ++ ab) ([]:List (List Int))) else(none))
def Fo.T5:Bool × List (List Nat × List Nat):=(true,[([],[]),([0],[0]),([],[]),([],[]),([2,3],[2,3]),([4],[4]),([1,5,4],[1,5]),([0,1,2,3,4,5,6],[]),([7,6,6,0,1,2,3,4,5,6],[6,7])])
def Fo.B5:List Nat:=[0,1,0,0,12,28,63,127,255]
theorem Fo.tab5:rtab .any (opsOf Try.f111 5)=Fo.T5:=by kernel_rfl
theorem Fo.bits5:waitsOk Fo.T5.2 Fo.B5=true:=by kernel_rfl
theorem ac6 {p:Prop} (h:p:=by repeat(first|(with_reducible first|exact HB.out|apply G3|apply G2|apply G1|refine G0 ?_ kr6.out|refine G0 ?_ kr7.out|refine G0 ?_ kr8.out)|exact HB.out)):p:=h
set_option maxHeartbeats 8000000 in
set_option maxRecDepth 100000 in
theorem Fo.calls (k:Nat) (ah:Option Addr) (af:Nat) (ab:List Int) (ao:Option Addr) (ai:Nat) (aa:List (List Int)) (r1:List Int) (r2:List (List Int)) (w:World) (d4:Kd.C (Kd.int .i64) w ah ab.length ab) (d9:ab.length<=af) (d5:Kd.C (Kd.slice 3 (Kd.int .i64)) w ao aa.length aa) (ea:aa.length<=ai) (h:Fo.f k ab aa=some (r1,r2)) :
  Calls Try.prog 111 #[.agg #[.slice ah ab.length af, .slice ao aa.length ai]] w fun e w'=>∃v0_ v1_:Value,e = .returned (.agg #[v0_,v1_])/\Kd.R (Kd.int .i64) 3 w' w.heap.size (fun _=>True) v0_ r1/\Kd.S (Kd.slice 3 (Kd.int .i64)) 22 w' w.heap.size (fun k_=>some k_≠(v0_:Value).ownBlock) v1_ r2/\Below w.heap.size w w':=by
 have hu25:=Try.underlying25
 have dp:=A_ d4
 have ec:=A_ d9
 clear d4 d9
 have df:=A_ d5
 have ee:=A_ ea
 clear d5 ea
 have HB:=A_ (Below.refl w.heap.size w)
 have H:=h
 unfold Fo.f at H
 clear h
 obtain⟨bk6,hyq⟩:∃y_:List Int,y_=(([]:List Int)):=⟨_,rfl⟩
 replace H:(if bk6.length + ab.length < 17592186044416 then(Fo.l0 k aa (aa.length:Int) 0 (bk6 ++ ab) ([]:List (List Int))) else(none))=some (r1,r2):=qh_
 have ic1:=A_ hyq
 clear hyq
 obtain⟨c2,H⟩:=pos_ H
 have fi4:=A_ c2
 clear c2
 obtain⟨th,hyq⟩:∃y_:List Int,y_=(bk6 ++ ab):=⟨_,rfl⟩
 replace H:(Fo.l0 k aa (aa.length:Int) 0 th ([]:List (List Int)))=some (r1,r2):=qh_
 have kr9:=A_ hyq
 clear hyq
 have H':=A_ H
 clear H
 go_enter Try.func111,Try.ntmps111
 go_wp2_with (first|((with_reducible refine gd_ 1 ?_);refine bx_ (N:=1) #[.slice ah ab.length af, .slice ao aa.length ai] 25 ?_;intro al9 hg w3 hbox hb;have p0:=A_ (hbox);have nc8:=A_ ((g107_:w.heap.size<=al9));have kr6:=nc8;replace HB:=hs_ (ac6) hb;clear hb hbox hg)|((with_reducible refine gd_ 2 ?_);refine bx_ (N:=2) #[.slice none 0 0, .slice none 0 0] 25 ?_;intro ab3 hg w4 hbox hb;have q8:=A_ (hbox);have nc9:=A_ ((g107_:w.heap.size<=ab3));have kr7:=nc9;replace HB:=hs_ (ac6) hb;have ic2:=nl_ p0 hg;have ic3:=nr_ p0 hg;replace p0:=bb_ p0 hb;clear hb hbox hg)|((with_reducible refine gd_ 6 ?_);refine rle_ 6 [] ?_;intro ks0 w5 ho6 hb hg_ hnew_;clear hg_ hnew_;(first|rw[<- ic1.out] at ho6|(simp only[Int.reduceToNat] at ho6;rw[<- ic1.out] at ho6));have et8:=A_ (Kd.R_lower ho6 (Gz (ac6)));replace p0:=bb_ p0 hb;replace q8:=bb_ q8 hb;replace HB:=hs_ (ac6) hb;clear hb ho6;have fi7:=ic2.out;have fi8:=ic3.out;obtain⟨at9,au0,au1,au2⟩:=blk2_ p0)|((with_reducible refine gate_builtin (b:=.append) (xs:=#[.tmp 6, .tmp 8]) rfl ?_);at_builtin;refine Kd.R_append_rows (Kd.int .i64) (w0:=w) w.heap.size rfl (.tmp 6) (.tmp 8) 22 3 (.int .i64 0) 8 rfl Try.underlying22 info3 rfl (by decide) (by omega) ks0 bk6 ab _ _ _ (fun _=>True) (fun _=>False) rfl rfl ?aO ?aR (fun _ _ h=>h) (fun _ h=>h.elim) ?aF ?aB ?aS ?aL ?_;(case aR=>exact uC_ dp);(case aB=>exact(ac6));(case aF=>exact(fun _ _=>trivial));(case aO=>exact(uR_ et8));(case aS=>exact(Gz (ac6)));(case aL=>have:=fi4.out;omega);intro nd0 w9 ho hb hg hat;rw[<- kr9.out] at ho;replace p0:=(bg_ p0 hg (Kd.R_ne et8.out p0.out (by decide)));replace q8:=(bg_ q8 hg (Kd.R_ne et8.out q8.out (by decide)));replace HB:=A_ (hb);have et9:=A_ (ho);clear et8;clear ho hb hg hat;obtain⟨ja,jb,ci7⟩:=Kd.R_slice et9.out;subst ci7)|((with_reducible refine gd_ 3 ?_);refine bx_ (N:=3) #[.slice none 0 0, .slice none 0 0] 25 ?_;intro af3 hg w11 hbox hb;replace et9:=rb_ et9 hb;have o2:=A_ (hbox);have nd1:=A_ ((g107_:w.heap.size<=af3));have kr8:=nd1;replace HB:=hs_ (ac6) hb;have cz7:=nl_ p0 hg;have gb8:=nr_ p0 hg;replace p0:=bb_ p0 hb;have cz8:=nl_ q8 hg;have gb9:=nr_ q8 hg;replace q8:=bb_ q8 hb;clear hb hbox hg;have ci9:=gb8.out;have cj0:=cz7.out;have cu5:=gb9.out;have cu6:=cz8.out;obtain⟨xv,xw,xx,xy⟩:=blk2_ o2;obtain⟨bw8,bw9,bx0,bx1⟩:=blk2_ p0))
 go_loopg [14] k (fun kq v14 w'=>∃(ah5:Int) (ax8:List (List Int)) (bf1:Value),v14 = .int .i64 ah5/\Gx (Fo.l0 kq aa (aa.length:Int) ah5 th ax8=some (r1,r2))/\Gx (kq<=k)/\Gx (Kd.R (Kd.int .i64) 3 w' w.heap.size (fun _=>True) (.slice ja th.length jb) th)/\Gx (Kd.S (Kd.slice 3 (Kd.int .i64)) 22 w' w.heap.size (fun k_=>some k_≠((.slice ja th.length jb):Value).ownBlock) bf1 ax8)/\Gx (hc_ w' al9 #[(.slice ah ab.length af),(.slice ao aa.length ai)] 25)/\Gx (hc_ w' ab3 #[(.slice none 0 0),(.slice none 0 0)] 25)/\Gx (hc_ w' af3 #[(.slice ja th.length jb),bf1] 25)/\Gx (Below w.heap.size w w'))
 case atStart=>exact⟨(0),(([]:List (List Int))),(.slice none 0 0),(g3_),H',⟨Nat.le_refl _⟩,⟨ra_ et9⟩,⟨g33_⟩,⟨ba_ p0⟩,⟨ba_ q8⟩,⟨ba_ o2⟩,⟨ac6⟩⟩
 clear H'
 obtain⟨ah5,ax8,bf1,rfl,HA,HK1,am0,ab4,p0,q8,o2,HB⟩:=hrel
 cases gk with
 | zero=>exact absurd HA.out (by simp[Fo.l0])
 | succ k1=>?_
 have H:=HA.out
 clear HA
 simp only[Fo.l0] at H
 by_cases jt:ah5 < (aa.length:Int)
 case neg=>
  rw[if_neg jt] at H
  have ag0:=decide_eq_false jt
  clear jt
  simp only[Option.some.injEq,Prod.mk.injEq] at H
  obtain⟨rfl,rfl⟩:=H
  have cu9:=gb8.out
  have cv0:=cz7.out
  have fj4:=gb9.out
  have fj5:=cz8.out
  obtain⟨ch0,ch1,ch2,ch3⟩:=blk2_ o2
  have cb8:=ic3.out
  have cb9:=ic2.out
  obtain⟨fk6,fk7,fk8,fk9⟩:=blk2_ q8
  obtain⟨k6,kt,bo8⟩:=Kd.S_slice ab4.out
  subst bo8
  go_wp2
  refine bodyPost_ret (results_cell_row rfl _ _ ab3 25 #[.slice ja th.length jb, .slice k6 ax8.length kt] (0,0) _ rfl (ba_ q8) Try.underlying25 rfl (g0_)) rfl ?_
  exact⟨_,_,g4_,ra_ am0,sa_ ab4,ac6⟩
 rw[if_pos jt] at H
 have ag0:=decide_eq_true jt
 clear jt
 obtain⟨ad6,H⟩:=pd_ H
 obtain⟨bc9,H⟩:=pd_ H
 obtain⟨co3,hyq⟩:∃y_:List Int,y_=(([]:List Int)):=⟨_,rfl⟩
 replace H:(if co3.length + (Jb aa ah5).length < 17592186044416 then(if ax8.length < 5864062014805 then(Fo.l0 k1 aa (aa.length:Int) (wrap64 (ah5 + 1)) th (ax8 ++ [(co3 ++ (Jb aa ah5))])) else(none)) else(none))=some (r1,r2):=qh_
 have ic4:=A_ hyq
 clear hyq
 obtain⟨f9,H⟩:=pos_ H
 have gc0:=A_ f9
 clear f9
 obtain⟨dw1,hyq⟩:∃y_:List Int,y_=(co3 ++ (Jb aa ah5)):=⟨_,rfl⟩
 replace H:(if ax8.length < 5864062014805 then(Fo.l0 k1 aa (aa.length:Int) (wrap64 (ah5 + 1)) th (ax8 ++ [dw1])) else(none))=some (r1,r2):=qh_
 have ks1:=A_ hyq
 clear hyq
 obtain⟨mv,H⟩:=pos_ H
 have em6:=A_ mv
 clear mv
 obtain⟨dw2,hyq⟩:∃y_:List (List Int),y_=(ax8 ++ [dw1]):=⟨_,rfl⟩
 replace H:(Fo.l0 k1 aa (aa.length:Int) (wrap64 (ah5 + 1)) th dw2)=some (r1,r2):=qh_
 have ks2:=A_ hyq
 clear hyq
 have H':=A_ H
 clear H
 obtain⟨⟨ic5,nd2,nd3,ks3,ic6,ic7,ic8⟩,gc1,gc2⟩:=rdp_ (at_L1 df.out ah5)
 cases ks3
 replace ic6:=cl_ HB ic6
 have ks4:=A_ ic8
 have nd4:=A_ ic7
 clear ic8 ic7
 try go_wp2
 replace am0:=rd_ am0
 replace ab4:=sd_ ab4
 replace p0:=bd_ p0
 replace q8:=bd_ q8
 replace o2:=bd_ o2
 replace HB:=A_ (G1 HB.out)
 refine start_ (n:=9) (S:=fun w'=>w'.cell? ⟨af3,0,none⟩=some (.slice ja th.length jb)/\w'.cell? ⟨af3,1,none⟩=some (bf1)) (ds:=[8]) (tl_ 9 0) (g0_) rfl (g0_) ⟨(Gy o2.out 0).trans rfl,(Gy o2.out 1).trans rfl⟩ (fun hHeld=>?_);refine Jl Fo.tab5 Fo.bits5 (fun HT_ HW_=>?_)
 generalize wr.drew=mu at am0 ab4 p0 q8 o2 HB hHeld |-
 refine pw_ 0 18 (tl_ 9 1) ?_
 refine pw_ 3 21 (tl_ 9 9) ?_
 refine tk7_ 1 19 (tl_ 9 11) hHeld ?_
 refine one_ (i:=2) (N:=some 20) (tl_ 9 15) rfl rfl (Jn HT_.out (g0_)) (by decide) (fun K hK=>?_)
 refine rls_ 20 [] ?_
 intro ks5 yu qz hb hg_ hnew_
 clear hg_ hnew_
 (first|rw[<- ic4.out] at qz|(simp only[Int.reduceToNat] at qz;rw[<- ic4.out] at qz))
 replace ab4:=A_ (Kd.S_elder' (uS_ ab4) (Kd.R_base qz) hb)
 have dw3:=A_ (Kd.R_lower (Kd.R_new' qz (Kd.R_lt (uR_ am0))) (Gz (ac6)))
 replace am0:=A_ (Kd.R_elder' (uR_ am0) (Kd.R_base qz) hb)
 replace p0:=bb_ p0 hb
 replace q8:=bb_ q8 hb
 replace o2:=bb_ o2 hb
 replace HB:=hs_ (ac6) hb
 clear hb qz
 refine hK.out _ _ ⟨(Gy o2.out 0).trans rfl,(Gy o2.out 1).trans rfl⟩ (fun hHeld=>?_)
 clear hK K
 refine nm_ ?_
 refine one_ (i:=4) (N:=some 22) (tl_ 9 31) rfl rfl (Jn HT_.out (g0_)) (by decide) (fun K hK=>?_)
 refine Kd.R_append_rows_step (Kd.int .i64) (w0:=w) w.heap.size (by rfl) (.tmp 20) (.tmp 21) 22 3 (.int .i64 0) 8 rfl Try.underlying22 info3 rfl (by decide) (by omega) ks5 co3 (Jb aa ah5) _ _ _ (fun k_=>some k_≠(.slice ja th.length jb:Value).ownBlock) (fun _=>False) rfl rfl ?aO ?aR (fun _ _ h=>h) (fun _ h=>h.elim) ?aF ?aB ?aS ?aL ?_
 (case aR=>exact uC_ ks4)
 (case aB=>exact(ac6))
 (case aF=>exact(fun k_ hk=>Kd.fresh' (Kd.R_lt (uR_ am0)) k_ hk))
 (case aO=>exact(yR_ dw3 (fun _ hk=>hk.2)))
 (case aS=>exact(Gz (ac6)))
 (case aL=>have:=gc0.out;omega)
 intro nd5 wn ho hb hg hat
 rw[<- ks1.out] at ho
 replace am0:=A_ (Kd.R_after (ok:=(fun _=>True)) (uR_ am0) hg hat)
 replace ab4:=A_ (Kd.S_after (ok:=(fun k_=>some k_≠(.slice ja th.length jb:Value).ownBlock)) (uS_ ab4) hg hat)
 replace p0:=(bg_ p0 hg (Kd.R_ne dw3.out p0.out (by decide)))
 replace q8:=(bg_ q8 hg (Kd.R_ne dw3.out q8.out (by decide)))
 replace o2:=(bg_ o2 hg (Kd.R_ne dw3.out o2.out (by decide)))
 replace HB:=A_ (hb)
 have eu2:=A_ (ho)
 clear dw3
 clear ho hb hg hat
 obtain⟨sx,sy,av4⟩:=Kd.R_slice eu2.out
 (first|subst av4|(injection av4 with f1_ f2_ f3_;have f4_:=f1_.symm;have f5_:=f3_.symm;clear f1_ f2_ f3_;subst f4_;subst f5_))
 refine hK.out _ _ ⟨(Gy o2.out 0).trans rfl,(Gy o2.out 1).trans rfl⟩ (fun hHeld=>?_)
 clear hK K
 refine nm_ ?_
 refine one_ (i:=5) (N:=some 23) (tl_ 9 63) rfl rfl (Jn HT_.out (g0_)) (by decide) (fun K hK=>?_)
 refine value_ (w1:=?_) (v:=?_) (by rfl) rfl ?_ ?_
 rotate_left 2
 ·go_simp
  constructor
  ·rfl
  rfl
 refine hK.out _ _ ⟨(Gy (G4 o2.out _) 0).trans rfl,(Gy (G4 o2.out _) 1).trans rfl⟩ (fun hHeld=>?_)
 clear hK K
 refine nm_ ?_
 refine one_ (i:=6) (N:=some 24) (tl_ 9 127) rfl rfl (Jn HT_.out (g0_)) (by decide) (fun K hK=>?_)
 refine Kd.S_append_step (Kd.slice 3 (Kd.int .i64)) (w0:=w) w.heap.size (by rfl) (.tmp 19) (.tmp 23) 23 22 (.slice none 0 0) 24 rfl Try.underlying23 info22 rfl (by decide) (by omega) bf1 ax8 dw1 [.slice sx dw1.length sy] (fun k_=>some k_≠(.slice ja th.length jb:Value).ownBlock) (fun k_=>some k_=(.slice sx dw1.length sy:Value).ownBlock) rfl rfl ?aP (fun k_ hk_=>((Kd.R_mono (ok':=fun k_=>((fun k_=>some k_≠(.slice ja th.length jb:Value).ownBlock)) k_/\some k_≠(bf1:Value).ownBlock) (Kd.R_apart' (eu2.out) (Kd.S_typed ab4.out) (by decide)) (fun k_ hk=>⟨hk.1,hk.2⟩))).1 k_ hk_.symm) ?aF ?aO ?aB ?aS ?aL ?_
 (case aP=>exact Kd.M_row (Kd.R_mono (Kd.R_tight rfl (Kd.R_mono (ok':=fun k_=>((fun k_=>some k_≠(.slice ja th.length jb:Value).ownBlock)) k_/\some k_≠(bf1:Value).ownBlock) (Kd.R_apart' (eu2.out) (Kd.S_typed ab4.out) (by decide)) (fun k_ hk=>⟨hk.1,hk.2⟩))) (fun _ h_=>h_)))
 (case aB=>exact(ac6))
 (case aF=>exact(fun k_ hk=>Kd.fresh' (Kd.R_lt (uR_ am0)) k_ hk))
 (case aO=>exact(by(with_reducible repeat(first|apply Kd.S_alloc|apply Kd.S_drewN|apply Kd.S_drew));exact Kd.S_mono ab4.out (fun k_ hk=>⟨hk.1,fun e_=>hk.2 e_⟩)))
 (case aS=>exact(Gz (ac6)))
 (case aL=>have:=em6.out;omega)
 intro nd6 r6 ho hb hg hat
 rw[<- ks2.out] at ho
 replace am0:=A_ (Kd.R_over' (uR_ am0) (Kd.S_typed (uS_ ab4)) (by decide) hg)
 replace p0:=(bg_ p0 hg (Kd.S_ne ab4.out p0.out (by decide)))
 replace q8:=(bg_ q8 hg (Kd.S_ne ab4.out q8.out (by decide)))
 replace o2:=(bg_ o2 hg (Kd.S_ne ab4.out o2.out (by decide)))
 replace HB:=A_ (hb)
 have ic9:=A_ (ho)
 clear ab4 eu2
 clear ho hb hg hat
 obtain⟨bc6,av3,bi1⟩:=Kd.S_slice ic9.out
 (first|subst bi1|(injection bi1 with f1_ f2_ f3_;have f4_:=f1_.symm;have f5_:=f3_.symm;clear f1_ f2_ f3_;subst f4_;subst f5_))
 refine hK.out _ _ ⟨(Gy o2.out 0).trans rfl,(Gy o2.out 1).trans rfl⟩ (fun hHeld=>?_)
 clear hK K
 refine nm_ ?_
 refine pw_ 7 25 (tl_ 9 255) ?_
 refine last_ (i:=8) (N:=none) (tl_ 9 511) rfl rfl (Jn HT_.out (g0_)) (by decide) (fun K hK=>?_)
 have nd7:r6.cell? ⟨af3,1,none⟩=some (bf1):=(Gy o2.out 1).trans rfl
 have nd8:=G7 o2.out 1
 have nd9:=cz7.out
 have ne0:=cz8.out
 have ne1:=gb8.out
 have ne2:=gb9.out
 refine skip_ (w1:=?_) (by rfl) rfl ?_ ?_
 rotate_left
 ·go_simp
  rfl
 refine hK.out _ _ ?_
 clear hK K
 refine done_ (done_of HT_.out (g0_)) ?_
 try go_wp2
 go_roundg k1
 case measure=>have:=HK1.out;omega
 case rel=>exact⟨(wrap64 (ah5 + 1)),(dw2),(.slice bc6 dw2.length av3),(g3_),H',⟨g17_⟩,⟨ra_ am0⟩,⟨sa_ ic9⟩,⟨ba_ p0⟩,⟨ba_ q8⟩,⟨ba_ o2⟩,⟨ac6⟩⟩
def Fp.l0:Nat->List (S25)->Int->Int->List Int->List (List Int)->List (S25)->Option (List Int × (List (List Int)) × (List (S25)))
 | 0,_,_,_,_,_,_=>none
 | k + 1,vq,x12,nh,id0,id1,gc3=>if nh < x12 then(if 0<=nh then(if nh < (vq.length:Int) then((Fo.f k ((Jc vq nh).f0) ((Jc vq nh).f1)).bind fun bt390=>(if gc3.length < 2932031007402 then(Fp.l0 k vq x12 (wrap64 (nh + 1)) id0 id1 (gc3 ++ [(⟨bt390.1,bt390.2⟩:S25)])) else(none))) else(none)) else(none)) else(some (id0,id1,gc3))
def Fp.f (k:Nat) (ab:List Int) (aa:List (List Int)) (av:List (S25)):Option (List Int × (List (List Int)) × (List (S25))):=(Fo.f k ab aa).bind fun bt381=>(Fp.l0 k av (av.length:Int) 0 bt381.1 bt381.2 ([]:List (S25)))
def Fp.T5:Bool × List (List Nat × List Nat):=(true,[([],[]),([0],[0]),([],[]),([2],[2]),([3],[3]),([1,4,3],[1,4]),([0,1,2,3,4,5],[]),([6,5,5,0,1,2,3,4,5],[5,6])])
def Fp.B5:List Nat:=[0,1,0,4,12,31,63,127]
theorem Fp.tab5:rtab .any (opsOf Try.f104 5)=Fp.T5:=by kernel_rfl
theorem Fp.bits5:waitsOk Fp.T5.2 Fp.B5=true:=by kernel_rfl
theorem ac7 {p:Prop} (h:p:=by repeat(first|(with_reducible first|exact HB.out|apply G3|apply G2|apply G1|refine G0 ?_ ks6.out|refine G0 ?_ ks7.out|refine G0 ?_ ks8.out|refine G0 ?_ ks9.out)|exact HB.out)):p:=h
set_option maxHeartbeats 8000000 in
set_option maxRecDepth 100000 in
theorem Fp.calls (k:Nat) (ah:Option Addr) (af:Nat) (ab:List Int) (ao:Option Addr) (ai:Nat) (aa:List (List Int)) (cy:Option Addr) (cu:Nat) (av:List (S25)) (r1:List Int) (r2:List (List Int)) (r3:List (S25)) (w:World) (d4:Kd.C (Kd.int .i64) w ah ab.length ab) (d9:ab.length<=af) (d5:Kd.C (Kd.slice 3 (Kd.int .i64)) w ao aa.length aa) (ea:aa.length<=ai) (l6:Kd.C k25 w cy av.length av) (l7:av.length<=cu) (h:Fp.f k ab aa av=some (r1,r2,r3)) :
  Calls Try.prog 104 #[.agg #[.slice ah ab.length af, .slice ao aa.length ai, .slice cy av.length cu]] w fun e w'=>∃v0_ v1_ v2_:Value,e = .returned (.agg #[v0_,v1_,v2_])/\Kd.R (Kd.int .i64) 3 w' w.heap.size (fun _=>True) v0_ r1/\Kd.S (Kd.slice 3 (Kd.int .i64)) 22 w' w.heap.size (fun k_=>some k_≠(v0_:Value).ownBlock) v1_ r2/\Kd.R k25 25 w' w.heap.size (fun k_=>some k_≠(v0_:Value).ownBlock/\some k_≠(v1_:Value).ownBlock) v2_ r3/\Below w.heap.size w w':=by
 have hu28:=Try.underlying28
 have hu25:=Try.underlying25
 have dp:=A_ d4
 have ec:=A_ d9
 clear d4 d9
 have df:=A_ d5
 have ee:=A_ ea
 clear d5 ea
 have m8:=A_ l6
 have re:=A_ l7
 clear l6 l7
 have HB:=A_ (Below.refl w.heap.size w)
 have H:=h
 unfold Fp.f at H
 clear h
 replace H:=Option.bind_eq_some_iff.mp H
 obtain⟨⟨pg,rr⟩,yv,H⟩:=H
 try dsimp only at H
 have A2:=A_ yv
 clear yv
 have H':=A_ H
 clear H
 go_enter Try.func104,Try.ntmps104
 go_wp2_with (first|((with_reducible refine gd_ 1 ?_);refine bx_ (N:=1) #[.slice ah ab.length af, .slice ao aa.length ai, .slice cy av.length cu] 28 ?_;intro ab5 hg w3 hbox hb;have ph:=A_ (hbox);have ne3:=A_ ((g51_:w.heap.size<=ab5));have ks6:=ne3;replace HB:=hs_ (ac7) hb;clear hb hbox hg)|((with_reducible refine gd_ 2 ?_);refine bx_ (N:=2) #[.slice none 0 0, .slice none 0 0, .slice none 0 0] 28 ?_;intro sg hg w4 hbox hb;have p3:=A_ (hbox);have ne4:=A_ ((g51_:w.heap.size<=sg));have ks7:=ne4;replace HB:=hs_ (ac7) hb;have id2:=nl_ ph hg;have id3:=nr_ ph hg;replace ph:=bb_ ph hb;clear hb hbox hg;have fj9:=id2.out;have fk0:=id3.out;obtain⟨ap7,ap8,fk1,bb9,ap9,fk2⟩:=blk3_ ph)|((with_reducible refine gc_ 111 ?_);refine gl_ 8 Try.func111 #[.agg #[.slice ah ab.length af, .slice ao aa.length ai]] ?_;(refine(Fo.calls k _ _ ab _ _ aa pg rr _ (uC_ dp) ec.out (uC_ df) ee.out A2.out).mono ?_);rintro e w7 ⟨ne5,ne6,rfl,ae,ax,hb⟩;refine⟨_,rfl,?_⟩;have eu3:=A_ (Kd.R_lower ae (Gz (ac7)));have eu4:=A_ (Kd.S_lower ax (Gz (ac7)));replace ph:=bb_ ph hb;replace p3:=bb_ p3 hb;replace HB:=hs_ (ac7) hb;obtain⟨jy,jz,eo8⟩:=Kd.S_slice eu4.out;subst eo8;obtain⟨ak,aj,eo9⟩:=Kd.R_slice eu3.out;subst eo9)|((with_reducible refine gd_ 3 ?_);refine bx_ (N:=3) #[.slice none 0 0, .slice none 0 0, .slice none 0 0] 28 ?_;intro rs hg w10 hbox hb;replace eu3:=rb_ eu3 hb;replace eu4:=sb_ eu4 hb;have lz:=A_ (hbox);have ne7:=A_ ((g51_:w.heap.size<=rs));have ks8:=ne7;replace HB:=hs_ (ac7) hb;have co4:=nl_ ph hg;have gc4:=nr_ ph hg;replace ph:=bb_ ph hb;have co5:=nl_ p3 hg;have gc5:=nr_ p3 hg;replace p3:=bb_ p3 hb;clear hb hbox hg;have aq2:=gc4.out;have aq3:=co4.out;have ci9:=gc5.out;have cj0:=co5.out;obtain⟨zy,zz,ej5,z8,z9,ej6⟩:=blk3_ lz;obtain⟨xv,xw,cv5,xx,xy,cv6⟩:=blk3_ ph))
 go_loopg [13] k (fun kq v13 w'=>∃(cw:Int) (bk7:List (S25)) (as0:Value),v13 = .int .i64 cw/\Gx (Fp.l0 kq av (av.length:Int) cw pg rr bk7=some (r1,r2,r3))/\Gx (kq<=k)/\Gx (Kd.R (Kd.int .i64) 3 w' w.heap.size (fun _=>True) (.slice ak pg.length aj) pg)/\Gx (Kd.S (Kd.slice 3 (Kd.int .i64)) 22 w' w.heap.size (fun k_=>some k_≠((.slice ak pg.length aj):Value).ownBlock) (.slice jy rr.length jz) rr)/\Gx (Kd.R k25 25 w' w.heap.size (fun k_=>some k_≠((.slice ak pg.length aj):Value).ownBlock/\some k_≠((.slice jy rr.length jz):Value).ownBlock) as0 bk7)/\Gx (hc_ w' ab5 #[(.slice ah ab.length af),(.slice ao aa.length ai),(.slice cy av.length cu)] 28)/\Gx (hc_ w' sg #[(.slice none 0 0),(.slice none 0 0),(.slice none 0 0)] 28)/\Gx (hc_ w' rs #[(.slice ak pg.length aj),(.slice jy rr.length jz),as0] 28)/\Gx (Below w.heap.size w w'))
 case atStart=>exact⟨(0),(([]:List (S25))),(.slice none 0 0),(g3_),H',⟨Nat.le_refl _⟩,⟨ra_ eu3⟩,⟨sa_ eu4⟩,⟨g24_⟩,⟨ba_ ph⟩,⟨ba_ p3⟩,⟨ba_ lz⟩,⟨ac7⟩⟩
 clear H'
 obtain⟨cw,bk7,as0,rfl,HA,HK1,ab6,ab7,u4,ph,p3,lz,HB⟩:=hrel
 cases gk with
 | zero=>exact absurd HA.out (by simp[Fp.l0])
 | succ k1=>?_
 have H:=HA.out
 clear HA
 simp only[Fp.l0] at H
 by_cases e7:cw < (av.length:Int)
 case neg=>
  rw[if_neg e7] at H
  have qv:=decide_eq_false e7
  clear e7
  simp only[Option.some.injEq,Prod.mk.injEq] at H
  obtain⟨rfl,rfl,rfl⟩:=H
  have bo5:=gc4.out
  have bo6:=co4.out
  have cy5:=gc5.out
  have cy6:=co5.out
  obtain⟨bi2,bi3,br9,bi4,bi5,bs0⟩:=blk3_ lz
  have er5:=id3.out
  have er6:=id2.out
  obtain⟨fo0,fo1,ng2,fo2,fo3,ng3⟩:=blk3_ p3
  obtain⟨ma,ka,av5⟩:=Kd.R_slice u4.out
  subst av5
  go_wp2
  refine bodyPost_ret (results_cell_row rfl _ _ sg 28 #[.slice ak pg.length aj, .slice jy rr.length jz, .slice ma bk7.length ka] (0,0) _ rfl (ba_ p3) Try.underlying28 rfl (g0_)) rfl ?_
  exact⟨_,_,_,g4_,ra_ ab6,sa_ ab7,ra_ u4,ac7⟩
 rw[if_pos e7] at H
 have qv:=decide_eq_true e7
 clear e7
 obtain⟨ag0,H⟩:=pd_ H
 obtain⟨ad6,H⟩:=pd_ H
 replace H:=Option.bind_eq_some_iff.mp H
 obtain⟨⟨dw4,dw5⟩,dw6,H⟩:=H
 try dsimp only at H
 have A18:=A_ dw6
 clear dw6
 obtain⟨f9,H⟩:=pos_ H
 have gc0:=A_ f9
 clear f9
 obtain⟨cz9,hyq⟩:∃y_:List (S25),y_=(bk7 ++ [(⟨dw4,dw5⟩:S25)]):=⟨_,rfl⟩
 replace H:(Fp.l0 k1 av (av.length:Int) (wrap64 (cw + 1)) pg rr cz9)=some (r1,r2,r3):=qh_
 have kt0:=A_ hyq
 clear hyq
 have H':=A_ H
 clear H
 obtain⟨⟨eu5,zc,zd,ab8,ab9,kt1,id4,id5,id6,id7,id8,id9⟩,gc6,gc7⟩:=rdp_ (at_T25 m8.out cw)
 cases kt1
 replace id4:=cl_ HB id4
 replace id5:=cl_ HB id5
 have kt2:=A_ id7
 have kt3:=A_ id6
 clear id7 id6
 have kt4:=A_ id9
 have kt5:=A_ id8
 clear id9 id8
 try go_wp2_with (first|((with_reducible refine gd_ 5 ?_);refine bx_ (N:=5) #[.slice none 0 0, .slice none 0 0] 25 ?_;intro lc hg j4 hbox hb;replace ab6:=rb_ ab6 hb;replace ab7:=sb_ ab7 hb;replace u4:=A_ (Kd.R_below (Kd.R_elderB (uR_ u4) lc (Nat.le_of_eq hg.symm)) hb);have ti:=A_ (hbox);have ne8:=A_ ((g51_:w.heap.size<=lc));have ks9:=ne8;replace HB:=hs_ (ac7) hb;have gc8:=nl_ ph hg;have kt6:=nr_ ph hg;replace ph:=bb_ ph hb;have gc9:=nl_ p3 hg;have kt7:=nr_ p3 hg;replace p3:=bb_ p3 hb;have eu6:=nl_ lz hg;have ie0:=nr_ lz hg;replace lz:=bb_ lz hb;clear hb hbox hg;have hj9:=kt6.out;have hk1:=gc8.out;have ne9:=kt7.out;have nf0:=gc9.out;have fe5:=ie0.out;have fe6:=eu6.out;obtain⟨fe7,fe8,fe9,ff0⟩:=blk2_ ti))
 have n0_:Gx (Kd.R (Kd.int .i64) 3 ((j4.setCell ⟨lc,0,none⟩ (.slice zc ((Jc av cw).f0).length zd)).setCell ⟨lc,1,none⟩ (.slice ab8 ((Jc av cw).f1).length ab9)) w.heap.size (fun _=>True) (.slice ak pg.length aj) pg):=⟨ra_ ab6⟩
 have n1_:Gx (Kd.S (Kd.slice 3 (Kd.int .i64)) 22 ((j4.setCell ⟨lc,0,none⟩ (.slice zc ((Jc av cw).f0).length zd)).setCell ⟨lc,1,none⟩ (.slice ab8 ((Jc av cw).f1).length ab9)) w.heap.size (fun k_=>some k_≠(.slice ak pg.length aj:Value).ownBlock) (.slice jy rr.length jz) rr):=⟨sa_ ab7⟩
 have n2_:Gx (Kd.R k25 25 ((j4.setCell ⟨lc,0,none⟩ (.slice zc ((Jc av cw).f0).length zd)).setCell ⟨lc,1,none⟩ (.slice ab8 ((Jc av cw).f1).length ab9)) w.heap.size (fun k_=>some k_≠(.slice ak pg.length aj:Value).ownBlock/\some k_≠(.slice jy rr.length jz:Value).ownBlock/\k_≠lc) as0 bk7):=⟨ra_ u4⟩
 have n3_:Gx (((j4.setCell ⟨lc,0,none⟩ (.slice zc ((Jc av cw).f0).length zd)).setCell ⟨lc,1,none⟩ (.slice ab8 ((Jc av cw).f1).length ab9)).heap[ab5]? = some (.cells #[.slice ah ab.length af, .slice ao aa.length ai, .slice (some eu5) av.length cu] 28 (0,0))):=⟨ba_ ph⟩
 have n4_:Gx (((j4.setCell ⟨lc,0,none⟩ (.slice zc ((Jc av cw).f0).length zd)).setCell ⟨lc,1,none⟩ (.slice ab8 ((Jc av cw).f1).length ab9)).heap[sg]? = some (.cells #[.slice none 0 0, .slice none 0 0, .slice none 0 0] 28 (0,0))):=⟨ba_ p3⟩
 have n5_:Gx (((j4.setCell ⟨lc,0,none⟩ (.slice zc ((Jc av cw).f0).length zd)).setCell ⟨lc,1,none⟩ (.slice ab8 ((Jc av cw).f1).length ab9)).heap[rs]? = some (.cells #[.slice ak pg.length aj, .slice jy rr.length jz,as0] 28 (0,0))):=⟨ba_ lz⟩
 have n6_:Gx (((j4.setCell ⟨lc,0,none⟩ (.slice zc ((Jc av cw).f0).length zd)).setCell ⟨lc,1,none⟩ (.slice ab8 ((Jc av cw).f1).length ab9)).heap[lc]? = some (.cells #[.slice zc ((Jc av cw).f0).length zd, .slice ab8 ((Jc av cw).f1).length ab9] 25 (0,0))):=⟨ba_ ti⟩
 have n7_:Gx (Below w.heap.size w ((j4.setCell ⟨lc,0,none⟩ (.slice zc ((Jc av cw).f0).length zd)).setCell ⟨lc,1,none⟩ (.slice ab8 ((Jc av cw).f1).length ab9))):=⟨ac7⟩
 generalize ((j4.setCell ⟨lc,0,none⟩ (.slice zc ((Jc av cw).f0).length zd)).setCell ⟨lc,1,none⟩ (.slice ab8 ((Jc av cw).f1).length ab9))=r6 at n0_ n1_ n2_ n3_ n4_ n5_ n6_ n7_ |-
 have ab6:=n0_
 have ab7:=n1_
 have u4:=n2_
 have ph:=n3_
 have p3:=n4_
 have lz:=n5_
 have ti:=n6_
 have HB:=n7_
 clear n0_ n1_ n2_ n3_ n4_ n5_ n6_ n7_
 replace ab6:=rd_ ab6
 replace ab7:=sd_ ab7
 replace u4:=rd_ u4
 replace ph:=bd_ ph
 replace p3:=bd_ p3
 replace lz:=bd_ lz
 replace ti:=bd_ ti
 replace HB:=A_ (G1 HB.out)
 refine start_ (n:=8) (S:=fun w'=>w'.cell? ⟨rs,0,none⟩=some (.slice ak pg.length aj)/\w'.cell? ⟨rs,1,none⟩=some (.slice jy rr.length jz)/\w'.cell? ⟨rs,2,none⟩=some (as0)/\w'.cell? ⟨lc,0,none⟩=some (.slice zc ((Jc av cw).f0).length zd)/\w'.cell? ⟨lc,1,none⟩=some (.slice ab8 ((Jc av cw).f1).length ab9)) (ds:=[7]) (tl_ 8 0) (g0_) rfl (g0_) ⟨(Gy lz.out 0).trans rfl,(Gy lz.out 1).trans rfl,(Gy lz.out 2).trans rfl,(Gy ti.out 0).trans rfl,(Gy ti.out 1).trans rfl⟩ (fun hHeld=>?_);refine Jl Fp.tab5 Fp.bits5 (fun HT_ HW_=>?_)
 generalize r6.drew=w26 at ab6 ab7 u4 ph p3 lz ti HB hHeld |-
 refine pw_ 0 17 (tl_ 8 1) ?_
 refine tk5_ 1 18 (tl_ 8 3) hHeld ?_
 refine tk5_ 2 19 (tl_ 8 7) hHeld ?_
 refine one_ (i:=3) (N:=some 20) (tl_ 8 15) rfl rfl (Jn HT_.out (g0_)) (by decide) (fun K hK=>?_)
 refine goes_ Try.func111 (g0_) rfl #[.agg #[.slice zc ((Jc av cw).f0).length zd, .slice ab8 ((Jc av cw).f1).length ab9]] (by rfl) rfl rfl (gM_) ?_
 refine(Fo.calls k1 _ _ ((Jc av cw).f0) _ _ ((Jc av cw).f1) dw4 dw5 _ (uC_ kt2) kt3.out (uC_ kt4) kt5.out A18.out).mono ?_
 rintro e w27 ⟨nf1,nf2,rfl,ae,ax,hb⟩
 refine⟨_,rfl,?_⟩
 replace u4:=A_ (Kd.R_mono (Kd.R_told (Kd.R_told (Kd.R_old (uR_ u4) hb) (Kd.R_base ae)) (Kd.S_base ax)) (fun _ h_=>h_.1))
 have gd0:=A_ (Kd.R_lower (Kd.R_new' ae (Kd.R_lt (uR_ ab6))) (Gz (ac7)))
 have gd1:=A_ (Kd.S_lower (Kd.S_new' (Kd.S_new' ax (Kd.R_lt (uR_ ab6))) (Kd.S_lt (uS_ ab7))) (Gz (ac7)))
 replace ab6:=A_ (Kd.R_elder' (uR_ ab6) (Kd.R_base ae) hb)
 replace ab7:=A_ (Kd.S_mono (Kd.S_told (Kd.S_told (Kd.S_old (uS_ ab7) hb) (Kd.R_base ae)) (Kd.S_base ax)) (fun _ h_=>h_.1))
 replace ph:=bb_ ph hb
 replace p3:=bb_ p3 hb
 replace lz:=bb_ lz hb
 replace ti:=bb_ ti hb
 replace HB:=hs_ (ac7) hb
 obtain⟨ci,cg,bd4⟩:=Kd.R_slice gd0.out
 (first|subst bd4|(injection bd4 with f1_ f2_ f3_;have f4_:=f1_.symm;have f5_:=f3_.symm;clear f1_ f2_ f3_;subst f4_;subst f5_))
 obtain⟨jg,jh,bk8⟩:=Kd.S_slice gd1.out
 (first|subst bk8|(injection bk8 with f1_ f2_ f3_;have f4_:=f1_.symm;have f5_:=f3_.symm;clear f1_ f2_ f3_;subst f4_;subst f5_))
 refine hK.out _ _ ⟨(Gy lz.out 0).trans rfl,(Gy lz.out 1).trans rfl,(Gy lz.out 2).trans rfl,(Gy ti.out 0).trans rfl,(Gy ti.out 1).trans rfl⟩ (fun hHeld=>?_)
 clear hK K
 refine nm_ ?_
 refine one_ (i:=4) (N:=some 21) (tl_ 8 31) rfl rfl (Jn HT_.out (g0_)) (by decide) (fun K hK=>?_)
 refine value_ (w1:=?_) (v:=?_) (by rfl) rfl ?_ ?_
 rotate_left 2
 ·go_simp
  constructor
  ·rfl
  rfl
 refine hK.out _ _ ⟨(Gy (G4 lz.out _) 0).trans rfl,(Gy (G4 lz.out _) 1).trans rfl,(Gy (G4 lz.out _) 2).trans rfl,(Gy (G4 ti.out _) 0).trans rfl,(Gy (G4 ti.out _) 1).trans rfl⟩ (fun hHeld=>?_)
 clear hK K
 refine nm_ ?_
 refine one_ (i:=5) (N:=some 22) (tl_ 8 63) rfl rfl (Jn HT_.out (g0_)) (by decide) (fun K hK=>?_)
 refine Kd.R_append_step k25 (w0:=w) w.heap.size (by rfl) (.tmp 18) (.tmp 21) 26 25 (.agg #[(.slice none 0 0),(.slice none 0 0)]) 48 rfl Try.underlying26 info25 rfl (by decide) (by omega) as0 bk7 (⟨dw4,dw5⟩:S25) [.slice ci dw4.length cg, .slice jg dw5.length jh] (fun k_=>some k_≠(.slice ak pg.length aj:Value).ownBlock/\some k_≠(.slice jy rr.length jz:Value).ownBlock/\k_≠lc) (fun k_=>((fun k_=>some k_≠(.slice ak pg.length aj:Value).ownBlock/\some k_≠(.slice jy rr.length jz:Value).ownBlock/\k_≠lc)) k_/\some k_≠(as0:Value).ownBlock) rfl rfl ?aP (fun _ hk=>hk) ?aF ?aO ?aB ?aS ?aL ?_
 (case aP=>exact k25_mkM _ _ _ (⟨dw4,dw5⟩:S25) (Kd.R_mono (Kd.R_types (Kd.R_apart' (Kd.R_apart' (gd0.out) (Kd.S_typed ab7.out) (by decide)) (Kd.R_typed u4.out) (by decide)) ti.out (by decide)) (fun k_ hk=>⟨⟨hk.1.1.1.2,⟨hk.1.1.2,hk.2⟩⟩,hk.1.2⟩)) (Kd.R_mono (Kd.R_types (Kd.R_apart' ((Kd.S_R gd1.out)) (Kd.R_typed u4.out) (by decide)) ti.out (by decide)) (fun k_ hk=>⟨⟨hk.1.1.1.2,⟨hk.1.1.2,hk.2⟩⟩,hk.1.2⟩)))
 (case aB=>exact(ac7))
 (case aF=>exact(fun k_ hk=>⟨Kd.fresh' (Kd.R_lt (uR_ ab6)) k_ hk,Kd.fresh' (Kd.S_lt (uS_ ab7)) k_ hk,Kd.freshB (g:=lc) (o:=.cells #[.slice zc ((Jc av cw).f0).length zd, .slice ab8 ((Jc av cw).f1).length ab9] 25 (0,0)) (uB_ ti) k_ hk⟩))
 (case aO=>exact(yR_ u4 (fun _ hk=>⟨hk.1.1.1,⟨hk.1.1.2.1,hk.1.1.2.2⟩⟩)))
 (case aS=>exact(Gz (ac7)))
 (case aL=>have:=gc0.out;omega)
 intro nf3 w28 ho hb hg hat
 rw[<- kt0.out] at ho
 replace ab6:=A_ (Kd.R_over' (uR_ ab6) (Kd.R_typed (uR_ u4)) (by decide) hg)
 replace ab7:=A_ (Kd.S_over' (uS_ ab7) (Kd.R_typed (uR_ u4)) (by decide) hg)
 replace ph:=(bg_ ph hg (Kd.R_ne u4.out ph.out (by decide)))
 replace p3:=(bg_ p3 hg (Kd.R_ne u4.out p3.out (by decide)))
 replace lz:=(bg_ lz hg (Kd.R_ne u4.out lz.out (by decide)))
 replace ti:=(bg_ ti hg (Kd.R_away u4.out (fun _ hk=>hk.1.1.2.2)))
 replace HB:=A_ (hb)
 have ie1:=A_ (ho)
 clear u4 gd0 gd1
 clear ho hb hg hat
 obtain⟨am1,am2,eu7⟩:=Kd.R_slice ie1.out
 (first|subst eu7|(injection eu7 with f1_ f2_ f3_;have f4_:=f1_.symm;have f5_:=f3_.symm;clear f1_ f2_ f3_;subst f4_;subst f5_))
 refine hK.out _ _ ⟨(Gy lz.out 0).trans rfl,(Gy lz.out 1).trans rfl,(Gy lz.out 2).trans rfl,(Gy ti.out 0).trans rfl,(Gy ti.out 1).trans rfl⟩ (fun hHeld=>?_)
 clear hK K
 refine nm_ ?_
 refine pw_ 6 23 (tl_ 8 127) ?_
 refine last_ (i:=7) (N:=none) (tl_ 8 255) rfl rfl (Jn HT_.out (g0_)) (by decide) (fun K hK=>?_)
 have nf4:w28.cell? ⟨rs,2,none⟩=some (as0):=(Gy lz.out 2).trans rfl
 have nf5:=G7 lz.out 2
 have nf6:=co4.out
 have nf7:=co5.out
 have nf8:=ie0.out
 have nf9:=gc4.out
 have ng0:=gc5.out
 have ng1:=eu6.out
 refine skip_ (w1:=?_) (by rfl) rfl ?_ ?_
 rotate_left
 ·go_simp
  rfl
 refine hK.out _ _ ?_
 clear hK K
 refine done_ (done_of HT_.out (g0_)) ?_
 try go_wp2
 go_roundg k1
 case measure=>have:=HK1.out;omega
 case rel=>exact⟨(wrap64 (cw + 1)),(cz9),(.slice am1 cz9.length am2),(g3_),H',⟨g17_⟩,⟨ra_ ab6⟩,⟨sa_ ab7⟩,⟨ra_ ie1⟩,⟨ba_ ph⟩,⟨ba_ p3⟩,⟨ba_ lz⟩,⟨ac7⟩⟩
def Gj.f (k:Nat) (ab:List Int) (aa:List (List Int)) (a1:Int):Option (Bool):=(Fi.f k ab aa).bind fun dw8=>(if dw8=true then(if a1 ≥ 0 then(some (decide (a1 < (ab.length:Int)))) else(some false)) else(some false))
theorem bm1 {p:Prop} (h:p:=by repeat(first|(with_reducible first|exact HB.out|apply G3|apply G2|apply G1|refine G0 ?_ gd3.out)|exact HB.out)):p:=h
set_option maxHeartbeats 8000000 in
set_option maxRecDepth 100000 in
theorem Gj.calls (k:Nat) (ah:Option Addr) (af:Nat) (ab:List Int) (ao:Option Addr) (ai:Nat) (aa:List (List Int)) (a1:Int) (r:Bool) (w:World) (d4:Kd.C (Kd.int .i64) w ah ab.length ab) (d9:ab.length<=af) (d5:Kd.C (Kd.slice 3 (Kd.int .i64)) w ao aa.length aa) (ea:aa.length<=ai) (h:Gj.f k ab aa a1=some r) :
  Calls Try.prog 83 #[.agg #[.slice ah ab.length af, .slice ao aa.length ai], .int .i64 a1] w fun e w'=>e = .returned (.bool r)/\Below w.heap.size w w':=by
 have hu25:=Try.underlying25
 have dp:=A_ d4
 have ec:=A_ d9
 clear d4 d9
 have df:=A_ d5
 have ee:=A_ ea
 clear d5 ea
 have HB:=A_ (Below.refl w.heap.size w)
 have H:=h
 unfold Gj.f at H
 clear h
 obtain⟨dw8,A3,H⟩:=bind_ H
 by_cases c4:dw8=true
 case neg=>
  replace c4:=Bool.eq_false_iff.mpr c4
  subst c4
  replace H:=ifn_ H
  obtain rfl:=Option.some.inj H
  go_enter Try.func83,Try.ntmps83
  go_wp2_with (first|((with_reducible refine gd_ 2 ?_);(try(refine gate_guard (by rfl) ?_;dsimp only));refine bx_ (N:=2) #[.slice ah ab.length af, .slice ao aa.length ai] 25 ?_;intro cd4 hg w13 hbox hb;have ax9:=A_ (hbox);have ie4:=A_ ((g108_:w.heap.size<=cd4));have gd3:=ie4;replace HB:=hs_ (bm1) hb;clear hb hbox hg;obtain⟨xv,xw,xx,xy⟩:=blk2_ ax9)|((with_reducible refine gc_ 73 ?_);refine gl_ 6 Try.func73 #[.agg #[.slice ah ab.length af, .slice ao aa.length ai]] ?_;(refine(Fi.calls k _ _ ab _ _ aa false _ (uC_ dp) ec.out (uC_ df) ee.out A3.out).mono ?_);rintro e w15 ⟨rfl,hb⟩;refine⟨_,rfl,?_⟩;replace ax9:=bb_ ax9 hb;replace HB:=hs_ (bm1) hb))
  go_ret
  exact⟨g4_,bm1⟩
 subst c4
 replace H:=ifp_ H
 by_cases c5:a1 ≥ 0
 ·rw[if_pos c5] at H
  have j9:=decide_eq_true c5
  clear c5
  obtain rfl:=Option.some.inj H
  go_enter Try.func83,Try.ntmps83
  go_wp2_with (first|((with_reducible refine gd_ 2 ?_);(try(refine gate_guard (by rfl) ?_;dsimp only));refine bx_ (N:=2) #[.slice ah ab.length af, .slice ao aa.length ai] 25 ?_;intro cd4 hg w6 hbox hb;have ax9:=A_ (hbox);have ie4:=A_ ((g108_:w.heap.size<=cd4));have gd3:=ie4;replace HB:=hs_ (bm1) hb;clear hb hbox hg;obtain⟨ad2,ad3,ad4,ad5⟩:=blk2_ ax9)|((with_reducible refine gc_ 73 ?_);refine gl_ 6 Try.func73 #[.agg #[.slice ah ab.length af, .slice ao aa.length ai]] ?_;(refine(Fi.calls k _ _ ab _ _ aa true _ (uC_ dp) ec.out (uC_ df) ee.out A3.out).mono ?_);rintro e w8 ⟨rfl,hb⟩;refine⟨_,rfl,?_⟩;replace ax9:=bb_ ax9 hb;replace HB:=hs_ (bm1) hb;obtain⟨at5,at6,at7,at8⟩:=blk2_ ax9))
  go_ret
  exact⟨g4_,bm1⟩
 rw[if_neg c5] at H
 have j9:=decide_eq_false c5
 clear c5
 obtain rfl:=Option.some.inj H
 go_enter Try.func83,Try.ntmps83
 go_wp2_with (first|((with_reducible refine gd_ 2 ?_);(try(refine gate_guard (by rfl) ?_;dsimp only));refine bx_ (N:=2) #[.slice ah ab.length af, .slice ao aa.length ai] 25 ?_;intro cd4 hg w10 hbox hb;have ax9:=A_ (hbox);have ie4:=A_ ((g108_:w.heap.size<=cd4));have gd3:=ie4;replace HB:=hs_ (bm1) hb;clear hb hbox hg;obtain⟨au3,au4,au5,au6⟩:=blk2_ ax9)|((with_reducible refine gc_ 73 ?_);refine gl_ 6 Try.func73 #[.agg #[.slice ah ab.length af, .slice ao aa.length ai]] ?_;(refine(Fi.calls k _ _ ab _ _ aa true _ (uC_ dp) ec.out (uC_ df) ee.out A3.out).mono ?_);rintro e w12 ⟨rfl,hb⟩;refine⟨_,rfl,?_⟩;replace ax9:=bb_ ax9 hb;replace HB:=hs_ (bm1) hb))
 go_ret
 exact⟨g4_,bm1⟩
def Gv.f (k:Nat) (ab:List Int) (aa:List (List Int)) (a1:Int) (a2:Int):Option (List Int × (List (List Int))):=(Fo.f k ab aa).bind fun bt403=>(if 0<=a1 then(if a1 < (bt403.1.length:Int) then(some ((bt403.1.set (a1:Int).toNat a2),bt403.2)) else(none)) else(none))
theorem bw6 {p:Prop} (h:p:=by repeat(first|(with_reducible first|exact HB.out|apply G3|apply G2|apply G1|refine G0 ?_ ku1.out|refine G0 ?_ ku2.out|refine G0 ?_ ku3.out)|exact HB.out)):p:=h
set_option maxHeartbeats 8000000 in
set_option maxRecDepth 100000 in
theorem Gv.calls (k:Nat) (ah:Option Addr) (af:Nat) (ab:List Int) (ao:Option Addr) (ai:Nat) (aa:List (List Int)) (a1:Int) (a2:Int) (r1:List Int) (r2:List (List Int)) (w:World) (d4:Kd.C (Kd.int .i64) w ah ab.length ab) (d9:ab.length<=af) (d5:Kd.C (Kd.slice 3 (Kd.int .i64)) w ao aa.length aa) (ea:aa.length<=ai) (h:Gv.f k ab aa a1 a2=some (r1,r2)) :
  Calls Try.prog 84 #[.agg #[.slice ah ab.length af, .slice ao aa.length ai], .int .i64 a1, .int .i64 a2] w fun e w'=>∃v0_ v1_:Value,e = .returned (.agg #[v0_,v1_])/\Kd.R (Kd.int .i64) 3 w' w.heap.size (fun _=>True) v0_ r1/\Kd.S (Kd.slice 3 (Kd.int .i64)) 22 w' w.heap.size (fun k_=>some k_≠(v0_:Value).ownBlock) v1_ r2/\Below w.heap.size w w':=by
 have hu25:=Try.underlying25
 have dp:=A_ d4
 have ec:=A_ d9
 clear d4 d9
 have df:=A_ d5
 have ee:=A_ ea
 clear d5 ea
 have HB:=A_ (Below.refl w.heap.size w)
 have H:=h
 unfold Gv.f at H
 clear h
 replace H:=Option.bind_eq_some_iff.mp H
 obtain⟨⟨yh,ay0⟩,r8,H⟩:=H
 try dsimp only at H
 have A4:=A_ r8
 clear r8
 obtain⟨j9,H⟩:=pd_ H
 obtain⟨qu,H⟩:=pd_ H
 obtain⟨ie5,hyq⟩:∃y_:List Int,y_=(yh.set (a1:Int).toNat a2):=⟨_,rfl⟩
 replace H:(some (ie5,ay0))=some (r1,r2):=qh_
 have ku4:=A_ hyq
 clear hyq
 simp only[Option.some.injEq,Prod.mk.injEq] at H
 obtain⟨rfl,rfl⟩:=H
 go_enter Try.func84,Try.ntmps84
 go_wp2_with (first|((with_reducible refine gd_ 3 ?_);refine bx_ (N:=3) #[.slice ah ab.length af, .slice ao aa.length ai] 25 ?_;intro ay1 hg w8 hbox hb;have af4:=A_ (hbox);have ng4:=A_ ((g109_:w.heap.size<=ay1));have ku1:=ng4;replace HB:=hs_ (bw6) hb;clear hb hbox hg)|((with_reducible refine gd_ 6 ?_);refine bx_ (N:=6) #[.slice none 0 0, .slice none 0 0] 25 ?_;intro ah6 hg w9 hbox hb;have ah7:=A_ (hbox);have ng5:=A_ ((g109_:w.heap.size<=ah6));have ku2:=ng5;replace HB:=hs_ (bw6) hb;have ku5:=nl_ af4 hg;have ku6:=nr_ af4 hg;replace af4:=bb_ af4 hb;clear hb hbox hg;have cn6:=ku5.out;have cn7:=ku6.out;obtain⟨au3,au4,au5,au6⟩:=blk2_ af4)|((with_reducible refine gc_ 111 ?_);refine gl_ 9 Try.func111 #[.agg #[.slice ah ab.length af, .slice ao aa.length ai]] ?_;(refine(Fo.calls k _ _ ab _ _ aa yh ay0 _ (uC_ dp) ec.out (uC_ df) ee.out A4.out).mono ?_);rintro e w12 ⟨ng6,ng7,rfl,ae,ax,hb⟩;refine⟨_,rfl,?_⟩;have am3:=A_ (Kd.R_lower ae (Gz (bw6)));have cd5:=A_ (Kd.S_lower ax (Gz (bw6)));replace af4:=bb_ af4 hb;replace ah7:=bb_ ah7 hb;replace HB:=hs_ (bw6) hb)|((with_reducible refine gd_ 7 ?_);refine bx_ (N:=7) #[.slice none 0 0, .slice none 0 0] 25 ?_;intro am4 hg w13 hbox hb;replace am3:=rb_ am3 hb;replace cd5:=sb_ cd5 hb;have bl0:=A_ (hbox);have ng8:=A_ ((g109_:w.heap.size<=am4));have ku3:=ng8;replace HB:=hs_ (bw6) hb;have gd4:=nl_ af4 hg;have ku7:=nr_ af4 hg;replace af4:=bb_ af4 hb;have gd5:=nl_ ah7 hg;have ku8:=nr_ ah7 hg;replace ah7:=bb_ ah7 hb;clear hb hbox hg;obtain⟨pq,ml,cl8⟩:=Kd.R_slice am3.out;subst cl8;have cw5:=ku7.out;have cw6:=gd4.out;have er0:=ku8.out;have er1:=gd5.out;obtain⟨fv1,fv2,fv3,fv4⟩:=blk2_ bl0;obtain⟨ix,g6,dt6⟩:=Kd.S_slice cd5.out;subst dt6)|((with_reducible refine gate_store (t:=25) (p:=7) rfl ?_);refine store_event (t:=25) (p:=7) (v:=?vo_w19) (w1:=((w13.setCell ⟨am4,0,none⟩ (.slice pq yh.length ml)).setCell ⟨am4,1,none⟩ (.slice ix ay0.length g6))) ?hg ?ho ?hn ?hr ?_;(case ho=>rfl);(case hg=>rfl);(case hn=>rfl);(case hr=>first|(go_simp;done)|(go_simp;rfl));intro my hw;replace am3:Gx (Kd.R (Kd.int .i64) 3 my w.heap.size (fun _=>True) (.slice pq yh.length ml) yh):=⟨(by rw[hw];exact(ra_ am3))⟩;replace cd5:Gx (Kd.S (Kd.slice 3 (Kd.int .i64)) 22 my w.heap.size (fun k_=>some k_≠(.slice pq yh.length ml:Value).ownBlock) (.slice ix ay0.length g6) ay0):=⟨(by rw[hw];exact(sa_ cd5))⟩;replace af4:Gx (hc_ my ay1 #[.slice ah ab.length af, .slice ao aa.length ai] 25):=⟨(by rw[hw];exact(ba_ af4))⟩;replace ah7:Gx (hc_ my ah6 #[.slice none 0 0, .slice none 0 0] 25):=⟨(by rw[hw];exact(ba_ ah7))⟩;replace bl0:Gx (hc_ my am4 #[.slice pq yh.length ml, .slice ix ay0.length g6] 25):=⟨(by rw[hw];exact(ba_ bl0))⟩;replace HB:Gx (Below w.heap.size w my):=⟨(by rw[hw];exact(bw6))⟩;clear hw;obtain⟨dm3,dm4,dm5,dm6⟩:=blk2_ bl0;have p7:0<=(a1:Int):=od_;have q7:(a1:Int) < ((yh.length:Int):Int):=od_;obtain⟨go7,co7,eo7,gb7,gl7,cl7,HG7⟩:=Kd.R_form am3.out (by omega);(first|cases eo7|(injection eo7 with ea_ en_ ec_;(first|subst ea_|(injection ea_ with ea_;subst ea_));subst ec_;clear en_));have GB7:=A_ gb7;have GG7:=A_ HG7;clear gb7 gl7 HG7;obtain⟨ng9,hf7_0⟩:=Kd.R_celln 0 am3.out (a1:Int) p7 q7;replace p7:=eq_true p7;replace q7:=eq_true q7;obtain⟨hy21_,hz21_⟩:=Kd.R_celln 0 am3.out (a1:Int) (od_) (od_);have HP21:=Kd.R_putg am3.out (a1:Int) a2)|((with_reducible refine gate_store (t:=3) (p:=14) rfl ?_);refine store_event (t:=3) (p:=14) (v:=?vo_w22) (w1:=(my.setCell ⟨go7,(a1:Int).toNat,none⟩ (.int .i64 a2))) ?hg ?ho ?hn ?hr ?_;(case ho=>rfl);(case hg=>rfl);(case hn=>rfl);(case hr=>first|(go_simp;done)|(go_simp;rfl));intro yu hw;have hg:my.grownBy yu (some go7):=(by rw[hw];exact HP21.2);have hp_:Kd.R (Kd.int .i64) 3 yu w.heap.size (fun _=>True) (.slice (some ⟨go7,0,none⟩) yh.length ml) ie5:=(by rw[hw,ku4.out];exact HP21.1);clear HP21;replace af4:=(bg_ af4 hg (Kd.R_ne am3.out af4.out (by decide)));replace ah7:=(bg_ ah7 hg (Kd.R_ne am3.out ah7.out (by decide)));replace cd5:=A_ (Kd.S_after (v:=(.slice (some ⟨go7,0,none⟩) yh.length ml)) (v1:=(.slice (some ⟨go7,0,none⟩) yh.length ml)) (ok:=(fun _=>True)) (yS_ cd5 (fun _ hk=>⟨trivial,hk⟩)) hg (.inl rfl));replace bl0:=(bg_ bl0 hg (Kd.R_ne am3.out bl0.out (by decide)));replace am3:=A_ (hp_);replace HB:=A_ ((by rw[hw];exact G0 (HB.out) GB7.out:Below w.heap.size w yu));clear hg hw hp_;obtain⟨gd6,gd7,gd8,gd9⟩:=blk2_ bl0;obtain⟨fe7,fe8,fe9,ff0⟩:=blk2_ ah7))
 refine bodyPost_ret (results_cell_row rfl _ _ ah6 25 #[.slice (some ⟨go7,0,none⟩) yh.length ml, .slice ix ay0.length g6] (0,0) _ rfl (ba_ ah7) Try.underlying25 rfl (g0_)) rfl ?_
 exact⟨_,_,g4_,ra_ am3,sa_ cd5,bw6⟩
mutual
def Fz.l0:Nat->List (List Int)->Int->Int->List Int->List (List Int)->List Int->List (List Int)->Option (List Int × (List (List Int)))
 | 0,_,_,_,_,_,_,_=>none
 | k + 1,vq,x12,nh,eu8,cp1,dw9,cd6=>if nh < x12 then(if 0<=nh then(if nh < (vq.length:Int) then(Fz.l1 k nh vq x12 nh (Jb vq nh) ((Jb vq nh).length:Int) 0 eu8 cp1 dw9 cd6) else(none)) else(none)) else(some (dw9,cd6))
def Fz.l1:Nat->Int->List (List Int)->Int->Int->List Int->Int->Int->List Int->List (List Int)->List Int->List (List Int)->Option (List Int × (List (List Int)))
 | 0,_,_,_,_,_,_,_,_,_,_,_=>none
 | k + 1,x4,vq,x12,nh,x18,x19,x20,eu8,cp1,dw9,cd6=>if x20 < x19 then(if 0<=x20 then(if x20 < (x18.length:Int) then(if 0<=x4 then(if x4 < (cd6.length:Int) then(if x20 < (cp1.length:Int) then(if x4 < ((Jb cp1 x20).length:Int) then(if x20 < ((Jb cd6 x4).length:Int) then(Fz.l1 k x4 vq x12 nh x18 x19 (wrap64 (x20 + 1)) eu8 cp1 dw9 (cd6.set (x4:Int).toNat ((Jb cd6 x4).set (x20:Int).toNat (wrap64 ((rd x18 x20) - (mn (rd x18 x20) (rd (Jb cp1 x20) x4))))))) else(none)) else(none)) else(none)) else(none)) else(none)) else(none)) else(none)) else(Fz.l0 k vq x12 (wrap64 (nh + 1)) eu8 cp1 dw9 cd6)
end
def Fz.f (k:Nat) (ab:List Int) (aa:List (List Int)):Option (List Int × (List (List Int))):=(Fo.f k ab aa).bind fun bt413=>(Fz.l0 k aa (aa.length:Int) 0 ab aa bt413.1 bt413.2)
def Fz.T8:Bool × List (List Nat × List Nat):=(true,[([],[]),([0],[0]),([],[]),([1,2],[1,2]),([3],[3]),([],[]),([],[]),([],[]),([],[]),([8],[8]),([],[]),([9,10],[9,10]),([11],[11]),([],[]),([12,13],[12,13]),([14],[14]),([7,15],[7,15]),([6,16],[6,16]),([4,5,0,1,2,3,4,5,6,7,8,9,10,11,12,13,14,15,16,17],[4,5]),([18,17,0,1,2,3,4,5,6,7,8,9,10,11,12,13,14,15,16,17],[17,18])])
def Fz.B8:List Nat:=[0,1,0,7,15,0,0,0,0,256,0,1792,3840,0,16128,32512,65408,131008,262143,524287]
theorem Fz.tab8:rtab .any (opsOf Try.f92 8)=Fz.T8:=by kernel_rfl
theorem Fz.bits8:waitsOk Fz.T8.2 Fz.B8=true:=by kernel_rfl
theorem az9 {p:Prop} (h:p:=by repeat(first|(with_reducible first|exact HB.out|apply G3|apply G2|apply G1|refine G0 ?_ ku9.out|refine G0 ?_ kv0.out|refine G0 ?_ kv1.out|refine G0 ?_ GB27.out)|exact HB.out)):p:=h
set_option maxHeartbeats 8000000 in
set_option maxRecDepth 100000 in
theorem Fz.calls (k:Nat) (ah:Option Addr) (af:Nat) (ab:List Int) (ao:Option Addr) (ai:Nat) (aa:List (List Int)) (r1:List Int) (r2:List (List Int)) (w:World) (d4:Kd.C (Kd.int .i64) w ah ab.length ab) (d9:ab.length<=af) (d5:Kd.C (Kd.slice 3 (Kd.int .i64)) w ao aa.length aa) (ea:aa.length<=ai) (h:Fz.f k ab aa=some (r1,r2)) :
  Calls Try.prog 92 #[.agg #[.slice ah ab.length af, .slice ao aa.length ai]] w fun e w'=>∃v0_ v1_:Value,e = .returned (.agg #[v0_,v1_])/\Kd.R (Kd.int .i64) 3 w' w.heap.size (fun _=>True) v0_ r1/\Kd.S (Kd.slice 3 (Kd.int .i64)) 22 w' w.heap.size (fun k_=>some k_≠(v0_:Value).ownBlock) v1_ r2/\Below w.heap.size w w':=by
 have hu25:=Try.underlying25
 have dp:=A_ d4
 have ec:=A_ d9
 clear d4 d9
 have df:=A_ d5
 have ee:=A_ ea
 clear d5 ea
 have HB:=A_ (Below.refl w.heap.size w)
 have H:=h
 unfold Fz.f at H
 clear h
 replace H:=Option.bind_eq_some_iff.mp H
 obtain⟨⟨da0,dx0⟩,yv,H⟩:=H
 try dsimp only at H
 have A2:=A_ yv
 clear yv
 have H':=A_ H
 clear H
 go_enter Try.func92,Try.ntmps92
 go_wp2_with (first|((with_reducible refine gd_ 1 ?_);refine bx_ (N:=1) #[.slice ah ab.length af, .slice ao aa.length ai] 25 ?_;intro am5 hg w3 hbox hb;have tj:=A_ (hbox);have nh0:=A_ ((g110_:w.heap.size<=am5));have ku9:=nh0;replace HB:=hs_ (az9) hb;clear hb hbox hg)|((with_reducible refine gd_ 2 ?_);refine bx_ (N:=2) #[.slice none 0 0, .slice none 0 0] 25 ?_;intro ah8 hg w4 hbox hb;have xb:=A_ (hbox);have nh1:=A_ ((g110_:w.heap.size<=ah8));have kv0:=nh1;replace HB:=hs_ (az9) hb;have ie6:=nl_ tj hg;have ie7:=nr_ tj hg;replace tj:=bb_ tj hb;clear hb hbox hg;have fj9:=ie6.out;have fk0:=ie7.out;obtain⟨ap7,ap8,bb9,ap9⟩:=blk2_ tj)|((with_reducible refine gc_ 111 ?_);refine gl_ 9 Try.func111 #[.agg #[.slice ah ab.length af, .slice ao aa.length ai]] ?_;(refine(Fo.calls k _ _ ab _ _ aa da0 dx0 _ (uC_ dp) ec.out (uC_ df) ee.out A2.out).mono ?_);rintro e w7 ⟨nh2,nh3,rfl,ae,ax,hb⟩;refine⟨_,rfl,?_⟩;have eu9:=A_ (Kd.R_lower ae (Gz (az9)));have ev0:=A_ (Kd.S_lower ax (Gz (az9)));replace tj:=bb_ tj hb;replace xb:=bb_ xb hb;replace HB:=hs_ (az9) hb)|((with_reducible refine gd_ 3 ?_);refine bx_ (N:=3) #[.slice none 0 0, .slice none 0 0] 25 ?_;intro am6 hg w8 hbox hb;replace eu9:=rb_ eu9 hb;replace ev0:=sb_ ev0 hb;have af5:=A_ (hbox);have nh4:=A_ ((g110_:w.heap.size<=am6));have kv1:=nh4;replace HB:=hs_ (az9) hb;have ev1:=nl_ tj hg;have ie8:=nr_ tj hg;replace tj:=bb_ tj hb;have ev2:=nl_ xb hg;have ie9:=nr_ xb hg;replace xb:=bb_ xb hb;clear hb hbox hg;obtain⟨ak,aj,eo9⟩:=Kd.R_slice eu9.out;subst eo9;have cn6:=ie8.out;have cn7:=ev1.out;have aq2:=ie9.out;have aq3:=ev2.out;obtain⟨wu,wv,yf,ww⟩:=blk2_ af5;obtain⟨dz,de,bc8⟩:=Kd.S_slice ev0.out;subst bc8;obtain⟨xv,xw,xx,xy⟩:=blk2_ tj))
 go_loopg [13] k (fun kq v13 w'=>∃(cw:Int) (cd7:List Int) (cp2:List (List Int)) (as1:Value) (bt7:Value),v13 = .int .i64 cw/\Gx (Fz.l0 kq aa (aa.length:Int) cw ab aa cd7 cp2=some (r1,r2))/\Gx (kq<=k)/\Gx (Kd.R (Kd.int .i64) 3 w' w.heap.size (fun _=>True) as1 cd7)/\Gx (Kd.S (Kd.slice 3 (Kd.int .i64)) 22 w' w.heap.size (fun k_=>some k_≠(as1:Value).ownBlock) bt7 cp2)/\Gx (hc_ w' am5 #[(.slice ah ab.length af),(.slice ao aa.length ai)] 25)/\Gx (hc_ w' ah8 #[(.slice none 0 0),(.slice none 0 0)] 25)/\Gx (hc_ w' am6 #[as1,bt7] 25)/\Gx (Below w.heap.size w w'))
 case atStart=>exact⟨(0),(da0),(dx0),(.slice ak da0.length aj),(.slice dz dx0.length de),(g3_),H',⟨Nat.le_refl _⟩,⟨ra_ eu9⟩,⟨sa_ ev0⟩,⟨ba_ tj⟩,⟨ba_ xb⟩,⟨ba_ af5⟩,⟨az9⟩⟩
 clear H'
 obtain⟨cw,cd7,cp2,as1,bt7,rfl,HA,HK1,bt8,ah9,tj,xb,af5,HB⟩:=hrel
 cases gk with
 | zero=>exact absurd HA.out (by simp[Fz.l0])
 | succ k1=>?_
 have H:=HA.out
 clear HA
 simp only[Fz.l0] at H
 by_cases e7:cw < (aa.length:Int)
 case neg=>
  rw[if_neg e7] at H
  have qv:=decide_eq_false e7
  clear e7
  simp only[Option.some.injEq,Prod.mk.injEq] at H
  obtain⟨rfl,rfl⟩:=H
  have cb8:=ie8.out
  have cb9:=ev1.out
  have bo5:=ie9.out
  have bo6:=ev2.out
  obtain⟨dl5,dl6,dl7,dl8⟩:=blk2_ af5
  obtain⟨rh,qy,bz8⟩:=Kd.R_slice bt8.out
  subst bz8
  have er5:=ie7.out
  have er6:=ie6.out
  obtain⟨fo0,fo1,fo2,fo3⟩:=blk2_ xb
  obtain⟨ma,ka,av5⟩:=Kd.S_slice ah9.out
  subst av5
  go_wp2
  refine bodyPost_ret (results_cell_row rfl _ _ ah8 25 #[.slice rh cd7.length qy, .slice ma cp2.length ka] (0,0) _ rfl (ba_ xb) Try.underlying25 rfl (g0_)) rfl ?_
  exact⟨_,_,g4_,ra_ bt8,sa_ ah9,az9⟩
 rw[if_pos e7] at H
 have qv:=decide_eq_true e7
 clear e7
 obtain⟨ag0,H⟩:=pd_ H
 obtain⟨ad6,H⟩:=pd_ H
 have H':=A_ H
 clear H
 obtain⟨⟨ev5,nh5,nh6,kv2,ge0,if0,if1⟩,ev3,ev4⟩:=rdp_ (at_L1 df.out cw)
 cases kv2
 replace ge0:=cl_ HB ge0
 have kv3:=A_ if1
 have nh7:=A_ if0
 clear if1 if0
 go_wp2
 go_loopg [20] k1 (fun kq v20 w'=>∃(m3:Int) (cd8:List Int) (yi:List (List Int)) (as1:Value) (bt7:Value),v20 = .int .i64 m3/\Gx (Fz.l1 kq cw aa (aa.length:Int) cw (Jb aa cw) ((Jb aa cw).length:Int) m3 ab aa cd8 yi=some (r1,r2))/\Gx (kq<=k1)/\Gx (Kd.R (Kd.int .i64) 3 w' w.heap.size (fun _=>True) as1 cd8)/\Gx (Kd.S (Kd.slice 3 (Kd.int .i64)) 22 w' w.heap.size (fun k_=>some k_≠(as1:Value).ownBlock) bt7 yi)/\Gx (hc_ w' am5 #[(.slice ah ab.length af),(.slice (some ev5) aa.length ai)] 25)/\Gx (hc_ w' ah8 #[(.slice none 0 0),(.slice none 0 0)] 25)/\Gx (hc_ w' am6 #[as1,bt7] 25)/\Gx (Below w.heap.size w w'))
 case atStart=>exact⟨(0),(cd7),(cp2),(as1),(bt7),(g3_),H',⟨Nat.le_refl _⟩,⟨uR_ bt8⟩,⟨uS_ ah9⟩,⟨uB_ tj⟩,⟨uB_ xb⟩,⟨uB_ af5⟩,⟨az9⟩⟩
 clear H'
 obtain⟨m3,cd8,yi,as1,bt7,rfl,HA,HK2,bt8,ah9,tj,xb,af5,HB⟩:=hrel
 cases gk with
 | zero=>exact absurd HA.out (by simp[Fz.l1])
 | succ k2=>?_
 have H:=HA.out
 clear HA
 simp only[Fz.l1] at H
 by_cases k5:m3 < ((Jb aa cw).length:Int)
 case neg=>
  rw[if_neg k5] at H
  have bc9:=decide_eq_false k5
  clear k5
  have H':=A_ H
  clear H
  go_wp2
  go_roundg k2
  case measure=>have:=HK1.out;have:=HK2.out;omega
  case rel=>exact⟨(wrap64 (cw + 1)),(cd8),(yi),(as1),(bt7),(g3_),H',⟨g29_⟩,⟨uR_ bt8⟩,⟨uS_ ah9⟩,⟨uB_ tj⟩,⟨uB_ xb⟩,⟨uB_ af5⟩,⟨az9⟩⟩
 rw[if_pos k5] at H
 have bc9:=decide_eq_true k5
 clear k5
 obtain⟨ve,H⟩:=pd_ H
 obtain⟨bx5,H⟩:=pd_ H
 obtain⟨eo0,H⟩:=pd_ H
 obtain⟨bc0,H⟩:=pd_ H
 obtain⟨bn7,H⟩:=pd_ H
 obtain⟨ad9,H⟩:=pd_ H
 obtain⟨ji25,hji25⟩:∃j_:Int,(mn (rd (Jb aa cw) m3) (rd (Jb aa m3) cw))=j_:=⟨_,rfl⟩
 first|rw[hji25] at H|simp only[hji25] at H
 have hji25_:(if (rd (Jb aa m3) cw) < (rd (Jb aa cw) m3) then(rd (Jb aa m3) cw) else(rd (Jb aa cw) m3))=ji25:=hji25
 obtain⟨ch7,H⟩:=pd_ H
 obtain⟨ge1,hyq⟩:∃y_:List Int,y_=((Jb yi cw).set (m3:Int).toNat (wrap64 ((rd (Jb aa cw) m3) - (ji25)))):=⟨_,rfl⟩
 replace H:(Fz.l1 k2 cw aa (aa.length:Int) cw (Jb aa cw) ((Jb aa cw).length:Int) (wrap64 (m3 + 1)) ab aa cd8 (yi.set (cw:Int).toNat ge1))=some (r1,r2):=qh_
 have kv4:=A_ hyq
 clear hyq
 obtain⟨if2,hyq⟩:∃y_:List (List Int),y_=(yi.set (cw:Int).toNat ge1):=⟨_,rfl⟩
 replace H:(Fz.l1 k2 cw aa (aa.length:Int) cw (Jb aa cw) ((Jb aa cw).length:Int) (wrap64 (m3 + 1)) ab aa cd8 if2)=some (r1,r2):=qh_
 have kv5:=A_ hyq
 clear hyq
 have H':=A_ H
 clear H
 obtain⟨⟨nh8,kv6,if3⟩,ge2,ge3⟩:=rdp_ (Kd.at_int kv3.out m3)
 cases kv6
 replace if3:=cl_ HB if3
 try go_wp2
 replace bt8:=rd_ bt8
 replace ah9:=sd_ ah9
 replace tj:=bd_ tj
 replace xb:=bd_ xb
 replace af5:=bd_ af5
 replace HB:=A_ (G1 HB.out)
 obtain⟨ci,cg,bd4⟩:=Kd.S_slice ah9.out
 (first|subst bd4|(injection bd4 with f1_ f2_ f3_;have f4_:=f1_.symm;have f5_:=f3_.symm;clear f1_ f2_ f3_;subst f4_;subst f5_))
 have ev6:0<=(cw:Int):=od_
 have ev7:cw < (yi.length:Int):=od_
 obtain⟨ge4,nh9,kv7,kv8,ev8,if4,if5⟩:=at_L1 (Kd.S_reads' ah9.out).2.2 cw ev6 ev7
 cases kv8
 obtain⟨ce422,hce422,hMe422,hcc422⟩:=Kd.S_get ah9.out [] cw ev6 (by first|exact ev7|exact od_|(have e_:=(Kd.S_reads' ah9.out).1;omega))
 obtain⟨ve422_0,rfl,ge422_0⟩:=hMe422
 have hv422_0:=hcc422 0 _ rfl
 rw[Nat.add_zero,show((Kd.slice 3 (Kd.int .i64))).sz=1 from rfl,Nat.mul_one] at hv422_0
 replace hv422_0:=Option.some.inj (hv422_0.symm.trans ev8)
 rw[hv422_0] at ge422_0
 have cp3:=A_ (show Kd.R (Kd.int .i64) 3 _ _ _ _ (Jb yi cw) from ge422_0)
 clear hv422_0 ge422_0
 have HX422_0:=A_ ev8
 clear hcc422 hce422
 have kv9:=A_ if5
 have ni0:=A_ if4
 clear if5 if4
 replace ev6:=eq_true ev6
 replace ev7:=eq_true ev7
 obtain⟨⟨kw0,ni1,kw1,kw2,ev9,if6,if7⟩,ge5,ge6⟩:=rdp_ (at_L1 df.out m3)
 have kw3:=ev9
 obtain rfl:ev5=kw0:=(by injection kw2)
 replace ev9:=cl_ HB ev9
 have if8:=A_ if7
 have ni2:=A_ if6
 clear if7 if6
 obtain⟨⟨if9,kw4,ew0⟩,ge7,ge8⟩:=rdp_ (Kd.at_int if8.out cw)
 have kw5:=ew0
 cases kw4
 replace ew0:=cl_ HB ew0
 have p27:0<=(m3:Int):=od_
 have q27:(m3:Int) < (((Jb yi cw).length:Int):Int):=od_
 obtain⟨ig0,av3,bi1,ig1,gl27,cl27,HG27⟩:=Kd.R_form cp3.out (by omega)
 (first|cases bi1|(injection bi1 with ea_ en_ ec_;(first|subst ea_|(injection ea_ with ea_;subst ea_));subst ec_;clear en_))
 have GB27:=A_ ig1
 have GG27:=A_ HG27
 clear ig1 gl27 HG27
 obtain⟨kw6,hf27_0⟩:=Kd.R_celln 0 cp3.out (m3:Int) p27 q27
 replace p27:=eq_true p27
 replace q27:=eq_true q27
 have hq30:(cw:Int) < (yi.length:Int):=(by have h_:(cw:Int) < ((yi.length:Int):Int):=od_;first|exact h_|(have e_:=(Kd.S_reads' ah9.out).1;omega)|simpa only[List.length_set,List.length_set] using h_)
 obtain⟨oki30,ce30,hcl30,hM30,hcc30,hok30,hbk30⟩:=Kd.S_borrow ah9.out [] (cw:Int) (od_) (by first|exact hq30|exact od_|(have e_:=(Kd.S_reads' ah9.out).1;omega))
 obtain⟨ve30_0,rfl,ge30_0⟩:=hM30
 have hv30:=hcc30 0 _ rfl
 rw[Nat.add_zero,show((Kd.slice 3 (Kd.int .i64))).sz=1 from rfl,Nat.mul_one] at hv30
 replace hv30:=Option.some.inj (hv30.symm.trans HX422_0.out)
 subst hv30
 clear hcc30 hcl30
 replace ge30_0:=(show Kd.R (Kd.int .i64) 3 _ _ _ _ (Jb yi cw) from ge30_0)
 have HP30:=Kd.R_putg ge30_0 (m3:Int) (wrap64 ((rd (Jb aa cw) m3) - (ji25)))
 rw[<- kv4.out] at HP30
 have HS30:=hbk30 HP30.2 (fun k_ e_=>by injection e_ with e_;subst e_;exact ge30_0.1 _ rfl) (x':=ge1) (Kd.M_row HP30.1)
 rw[<- kv5.out] at HS30
 have HQ30:=A_ HS30
 clear HP30 HS30 hbk30 hok30
 refine start_ (n:=20) (S:=fun w'=>w'.cell? ⟨am6,0,none⟩=some (as1)/\w'.cell? ⟨am6,1,none⟩=some (.slice (some ge4) yi.length cg)/\w'.cell? ⟨am5,0,none⟩=some (.slice ah ab.length af)/\w'.cell? ⟨am5,1,none⟩=some (.slice (some ev5) aa.length ai)/\w'.cell? (ge4.add (cw).toNat)=some (.slice (some ⟨ig0,0,none⟩) (Jb yi cw).length kv7)/\w'.cell? (ev5.add (m3).toNat)=some (.slice (some if9) (Jb aa m3).length kw1)/\w'.cell? (if9.add (cw).toNat)=some (.int .i64 (rd (Jb aa m3) cw))) (ds:=[19]) (tl_ 20 0) (g0_) rfl (g0_) ⟨(Gy af5.out 0).trans rfl,(Gy af5.out 1).trans rfl,(Gy tj.out 0).trans rfl,(Gy tj.out 1).trans rfl,ev8,((cl_ HB kw3).trans rfl),((cl_ HB kw5).trans rfl)⟩ (fun hHeld=>?_);refine Jl Fz.tab8 Fz.bits8 (fun HT_ HW_=>?_)
 generalize wr.drew=w28 at bt8 ah9 tj xb af5 HB GG27 cp3 HQ30 kv9 if8 HX422_0 hf27_0 kw6 ev8 ev9 ew0 hHeld |-
 refine pw_ 0 25 (tl_ 20 1) ?_
 refine pw_ 2 27 (tl_ 20 5) ?_
 refine pw_ 5 30 (tl_ 20 37) ?_
 refine pw_ 6 31 (tl_ 20 101) ?_
 refine pw_ 7 32 (tl_ 20 229) ?_
 refine pw_ 8 33 (tl_ 20 485) ?_
 refine pw_ 10 35 (tl_ 20 1509) ?_
 refine pw_ 13 38 (tl_ 20 9701) ?_
 refine tk4_ 1 26 (tl_ 20 9703) hHeld ?_
 refine pw_ 3 28 (tl_ 20 9711) ?_
 refine tk4_ 4 29 (tl_ 20 9727) hHeld ?_
 refine tk4_ 9 34 (tl_ 20 10239) hHeld ?_
 refine pw_ 11 36 (tl_ 20 12287) ?_
 refine tk4_ 12 37 (tl_ 20 16383) hHeld ?_
 refine pw_ 14 39 (tl_ 20 32767) ?_
 refine tk4_ 15 40 (tl_ 20 65535) hHeld ?_
 refine pw_ 16 41 (tl_ 20 131071) ?_
 refine pw_ 17 42 (tl_ 20 262143) ?_
 refine pw_ 18 43 (tl_ 20 524287) ?_
 refine last_ (i:=19) (N:=none) (tl_ 20 1048575) rfl rfl (Jn HT_.out (g0_)) (by decide) (fun K hK=>?_)
 refine skip_ (w1:=?_) (by rfl) rfl ?_ ?_
 rotate_left
 ·go_simp
  rfl
 refine hK.out _ _ ?_
 clear hK K
 refine done_ (done_of HT_.out (g0_)) ?_
 try go_wp2
 go_roundg k2
 case measure=>have:=HK1.out;have:=HK2.out;omega
 case rel=>exact⟨(wrap64 (m3 + 1)),(cd8),(if2),(as1),(.slice (some ge4) yi.length cg),(g3_),H',⟨g29_⟩,⟨by(with_reducible repeat(first|apply Kd.R_alloc|apply Kd.R_drewN|apply Kd.R_drew));exact Kd.R_mono (Kd.R_far (p:=⟨ig0,(m3:Int).toNat,none⟩) (Kd.R_far1 bt8.out rfl ((cp3.out.1 _ rfl).1)) (fun _ hk=>hk.2) (.int .i64 (wrap64 ((rd (Jb aa cw) m3) - (ji25))))) (fun _ hk=>trivial)⟩,⟨uS_ HQ30⟩,⟨by(with_reducible repeat(first|refine G5 ?_ _|refine G6 ?_|refine G4 ?_ _));refine Je ?_ (by have h_:=Kd.R_ne cp3.out tj.out (by decide);intro e_;exact h_ (g6_)) _;exact uB_ tj⟩,⟨by(with_reducible repeat(first|refine G5 ?_ _|refine G6 ?_|refine G4 ?_ _));refine Je ?_ (by have h_:=Kd.R_ne cp3.out xb.out (by decide);intro e_;exact h_ (g6_)) _;exact uB_ xb⟩,⟨by(with_reducible repeat(first|refine G5 ?_ _|refine G6 ?_|refine G4 ?_ _));refine Je ?_ (by have h_:=Kd.R_ne cp3.out af5.out (by decide);intro e_;exact h_ (g6_)) _;exact uB_ af5⟩,⟨az9⟩⟩
def Gc.f (a0:Int):Option (Bool):=some (a0 != a0)
set_option maxHeartbeats 8000000 in
set_option maxRecDepth 100000 in
theorem Gc.calls (a0:Int) (r:Bool) (w:World) (h:Gc.f a0=some r) :
  Calls Try.prog 130 #[.int .i64 a0] w fun e w'=>e = .returned (.bool r)/\Drawn0 w w':=by
 have H:(some (a0 != a0))=some r:=h
 clear h
 obtain rfl:=Option.some.inj H
 go_enter Try.func130,Try.ntmps130
 go_wp2
 go_ret
 exact⟨g3_,g5_⟩
def Gk.f (a0:Int) (a1:Int):Option (Int):=(Gc.f a0).bind fun dp7=>((Gc.f a1).bind fun ca9=>(if dp7=true then(if ca9=true then(some 0) else(some (-1))) else(if ca9=true then(some 1) else(if a0 < a1 then(some (-1)) else(if a0 > a1 then(some 1) else(some 0))))))
set_option maxHeartbeats 8000000 in
set_option maxRecDepth 100000 in
theorem Gk.calls (a0:Int) (a1:Int) (r:Int) (w:World) (h:Gk.f a0 a1=some r) :
  Calls Try.prog 120 #[.int .i64 a0, .int .i64 a1] w fun e w'=>e = .returned (.int .i64 r)/\Drawn0 w w':=by
 have H:=h
 unfold Gk.f at H
 clear h
 obtain⟨dp7,A3,H⟩:=bind_ H
 obtain⟨ca9,A4,H⟩:=bind_ H
 by_cases c5:dp7=true
 ·subst c5
  replace H:=ifp_ H
  by_cases c6:ca9=true
  ·subst c6
   replace H:=ifp_ H
   obtain rfl:=Option.some.inj H
   go_enter Try.func120,Try.ntmps120
   go_wp2_with (first|((with_reducible refine gc_ 130 ?_);refine gl_ 8 Try.func130 #[.int .i64 a0] ?_;(with_reducible refine(Gc.calls a0 true _ A3.out).mono ?_);rintro e w' ⟨rfl,⟨nd,rfl⟩⟩;refine⟨_,rfl,?_⟩)|((with_reducible refine gc_ 130 ?_);refine gl_ 10 Try.func130 #[.int .i64 a1] ?_;(with_reducible refine(Gc.calls a1 true _ A4.out).mono ?_);rintro e w' ⟨rfl,⟨nd,rfl⟩⟩;refine⟨_,rfl,?_⟩))
   go_ret
   exact⟨g3_,g5_⟩
  replace c6:=Bool.eq_false_iff.mpr c6
  subst c6
  replace H:=ifn_ H
  obtain rfl:=Option.some.inj H
  go_enter Try.func120,Try.ntmps120
  go_wp2_with (first|((with_reducible refine gc_ 130 ?_);refine gl_ 8 Try.func130 #[.int .i64 a0] ?_;(with_reducible refine(Gc.calls a0 true _ A3.out).mono ?_);rintro e w' ⟨rfl,⟨nd,rfl⟩⟩;refine⟨_,rfl,?_⟩)|((with_reducible refine gc_ 130 ?_);refine gl_ 10 Try.func130 #[.int .i64 a1] ?_;(with_reducible refine(Gc.calls a1 false _ A4.out).mono ?_);rintro e w' ⟨rfl,⟨nd,rfl⟩⟩;refine⟨_,rfl,?_⟩))
  go_ret
  exact⟨g3_,g5_⟩
 replace c5:=Bool.eq_false_iff.mpr c5
 subst c5
 replace H:=ifn_ H
 by_cases c7:ca9=true
 ·subst c7
  replace H:=ifp_ H
  obtain rfl:=Option.some.inj H
  go_enter Try.func120,Try.ntmps120
  go_wp2_with (first|((with_reducible refine gc_ 130 ?_);refine gl_ 8 Try.func130 #[.int .i64 a0] ?_;(with_reducible refine(Gc.calls a0 false _ A3.out).mono ?_);rintro e w' ⟨rfl,⟨nd,rfl⟩⟩;refine⟨_,rfl,?_⟩)|((with_reducible refine gc_ 130 ?_);refine gl_ 10 Try.func130 #[.int .i64 a1] ?_;(with_reducible refine(Gc.calls a1 true _ A4.out).mono ?_);rintro e w' ⟨rfl,⟨nd,rfl⟩⟩;refine⟨_,rfl,?_⟩))
  go_ret
  exact⟨g3_,g5_⟩
 replace c7:=Bool.eq_false_iff.mpr c7
 subst c7
 replace H:=ifn_ H
 by_cases c8:a0 < a1
 ·rw[if_pos c8] at H
  have ag8:=decide_eq_true c8
  clear c8
  obtain rfl:=Option.some.inj H
  go_enter Try.func120,Try.ntmps120
  go_wp2_with (first|((with_reducible refine gc_ 130 ?_);refine gl_ 8 Try.func130 #[.int .i64 a0] ?_;(with_reducible refine(Gc.calls a0 false _ A3.out).mono ?_);rintro e w' ⟨rfl,⟨nd,rfl⟩⟩;refine⟨_,rfl,?_⟩)|((with_reducible refine gc_ 130 ?_);refine gl_ 10 Try.func130 #[.int .i64 a1] ?_;(with_reducible refine(Gc.calls a1 false _ A4.out).mono ?_);rintro e w' ⟨rfl,⟨nd,rfl⟩⟩;refine⟨_,rfl,?_⟩))
  go_ret
  exact⟨g3_,g5_⟩
 rw[if_neg c8] at H
 have ag8:=decide_eq_false c8
 clear c8
 by_cases c9:a0 > a1
 ·rw[if_pos c9] at H
  have cg2:=decide_eq_true c9
  clear c9
  obtain rfl:=Option.some.inj H
  go_enter Try.func120,Try.ntmps120
  go_wp2_with (first|((with_reducible refine gc_ 130 ?_);refine gl_ 8 Try.func130 #[.int .i64 a0] ?_;(with_reducible refine(Gc.calls a0 false _ A3.out).mono ?_);rintro e w' ⟨rfl,⟨nd,rfl⟩⟩;refine⟨_,rfl,?_⟩)|((with_reducible refine gc_ 130 ?_);refine gl_ 10 Try.func130 #[.int .i64 a1] ?_;(with_reducible refine(Gc.calls a1 false _ A4.out).mono ?_);rintro e w' ⟨rfl,⟨nd,rfl⟩⟩;refine⟨_,rfl,?_⟩))
  go_ret
  exact⟨g3_,g5_⟩
 rw[if_neg c9] at H
 have cg2:=decide_eq_false c9
 clear c9
 obtain rfl:=Option.some.inj H
 go_enter Try.func120,Try.ntmps120
 go_wp2_with (first|((with_reducible refine gc_ 130 ?_);refine gl_ 8 Try.func130 #[.int .i64 a0] ?_;(with_reducible refine(Gc.calls a0 false _ A3.out).mono ?_);rintro e w' ⟨rfl,⟨nd,rfl⟩⟩;refine⟨_,rfl,?_⟩)|((with_reducible refine gc_ 130 ?_);refine gl_ 10 Try.func130 #[.int .i64 a1] ?_;(with_reducible refine(Gc.calls a1 false _ A4.out).mono ?_);rintro e w' ⟨rfl,⟨nd,rfl⟩⟩;refine⟨_,rfl,?_⟩))
 go_ret
 exact⟨g3_,g5_⟩
def F1.l0:Nat->List Int->List Int->List Int->Int->Int->Option (Int)
 | 0,_,_,_,_,_=>none
 | k + 1,x0,x1,x9,x10,vq=>if vq < x10 then(if 0<=vq then(if vq < (x9.length:Int) then(if vq ≥ (x1.length:Int) then(some 1) else(if vq < (x1.length:Int) then((Gk.f (rd x9 vq) (rd x1 vq)).bind fun bk9=>(if bk9=0 then(F1.l0 k x0 x1 x9 x10 (wrap64 (vq + 1))) else(some bk9))) else(none))) else(none)) else(none)) else(if (x0.length:Int) < (x1.length:Int) then(some (-1)) else(some 0))
def F1.f (k:Nat) (l0:List Int) (l1:List Int):Option (Int):=F1.l0 k l0 l1 l0 (l0.length:Int) 0
set_option maxHeartbeats 8000000 in
set_option maxRecDepth 100000 in
theorem F1.calls (k:Nat) (A0:Option Addr) (c0:Nat) (l0:List Int) (A1:Option Addr) (c1:Nat) (l1:List Int) (r:Int) (w:World) (gq:Kd.C (Kd.int .i64) w A0 l0.length l0) (i2:l0.length<=c0) (k0:Kd.C (Kd.int .i64) w A1 l1.length l1) (lh:l1.length<=c1) (h:F1.f k l0 l1=some r) :
  Calls Try.prog 121 #[.slice A0 l0.length c0, .slice A1 l1.length c1] w fun e w'=>e = .returned (.int .i64 r)/\Drawn0 w w':=by
 have ks:=A_ gq
 have uc:=A_ i2
 clear gq i2
 have i8:=A_ k0
 have HC1:=A_ lh
 clear k0 lh
 have H:=h
 unfold F1.f at H
 clear h
 have H':=A_ H
 clear H
 go_enter Try.func121,Try.ntmps121
 go_wp2
 go_loopg [11] k (fun kq v11 w'=>∃(p8:Int),v11 = .int .i64 p8/\Gx (F1.l0 kq l0 l1 l0 (l0.length:Int) p8=some r)/\Gx (kq<=k)/\Drawn0 w w')
 case atStart=>exact⟨(0),(g3_),H',⟨Nat.le_refl _⟩,g5_⟩
 clear H'
 obtain⟨p8,rfl,HA,HK1,⟨m1,rfl⟩⟩:=hrel
 cases gk with
 | zero=>exact absurd HA.out (by simp[F1.l0])
 | succ k1=>?_
 have H:=HA.out
 clear HA
 simp only[F1.l0] at H
 by_cases c3:p8 < (l0.length:Int)
 case neg=>
  rw[if_neg c3] at H
  have nt:=decide_eq_false c3
  clear c3
  by_cases io:(l0.length:Int) < (l1.length:Int)
  ·rw[if_pos io] at H
   have zx:=decide_eq_true io
   have cj9:decide (l0.length < l1.length)=true:=decide_eq_true (Int.ofNat_lt.mp io)
   clear io
   obtain rfl:=Option.some.inj H
   go_wp2
   go_ret
   exact⟨g3_,g5_⟩
  rw[if_neg io] at H
  have zx:=decide_eq_false io
  have cj9:decide (l0.length < l1.length)=false:=decide_eq_false (fun h=>io (Int.ofNat_lt.mpr h))
  clear io
  obtain rfl:=Option.some.inj H
  go_wp2
  go_ret
  exact⟨g3_,g5_⟩
 rw[if_pos c3] at H
 have nt:=decide_eq_true c3
 clear c3
 obtain⟨qh,H⟩:=pd_ H
 obtain⟨j9,H⟩:=pd_ H
 by_cases c6:p8 ≥ (l1.length:Int)
 ·rw[if_pos c6] at H
  have qu:=decide_eq_true c6
  clear c6
  obtain rfl:=Option.some.inj H
  obtain⟨⟨ie2,dw7,ie3⟩,bf2,bf3⟩:=rdp_ (Kd.at_int ks.out p8)
  cases dw7
  go_wp2
  go_ret
  exact⟨g3_,g5_⟩
 rw[if_neg c6] at H
 have qu:=decide_eq_false c6
 clear c6
 obtain⟨aa6,H⟩:=pd_ H
 obtain⟨bk9,A8,H⟩:=bind_ H
 by_cases c9:bk9=0
 ·rw[if_pos c9] at H
  have cg2:(bk9 == 0)=true:=beq_iff_eq.mpr c9
  have kt8:(bk9 != 0)=false:=bne_eq_false_iff_eq.mpr c9
  clear c9
  have H':=A_ H
  clear H
  obtain⟨⟨ie2,dw7,ie3⟩,bf2,bf3⟩:=rdp_ (Kd.at_int ks.out p8)
  cases dw7
  obtain⟨⟨kt9,gd2,ku0⟩,co6,cp0⟩:=rdp_ (Kd.at_int i8.out p8)
  cases gd2
  go_wp2_with (first|((with_reducible refine gc_ 120 ?_);refine gl_ 26 Try.func120 #[.int .i64 (rd l0 p8), .int .i64 (rd l1 p8)] ?_;(with_reducible refine(Gk.calls (rd l0 p8) (rd l1 p8) bk9 _ A8.out).mono ?_);rintro e w' ⟨rfl,⟨nd,rfl⟩⟩;refine⟨_,rfl,?_⟩))
  go_roundg k1
  case measure=>have:=HK1.out;omega
  case rel=>exact⟨(wrap64 (p8 + 1)),(g3_),H',⟨g17_⟩,g5_⟩
 rw[if_neg c9] at H
 have cg2:(bk9 == 0)=false:=beq_eq_false_iff_ne.mpr c9
 have kt8:(bk9 != 0)=true:=bne_iff_ne.mpr c9
 obtain rfl:=Option.some.inj H
 obtain⟨⟨ie2,dw7,ie3⟩,bf2,bf3⟩:=rdp_ (Kd.at_int ks.out p8)
 cases dw7
 obtain⟨⟨kt9,gd2,ku0⟩,co6,cp0⟩:=rdp_ (Kd.at_int i8.out p8)
 cases gd2
 go_wp2_with (first|((with_reducible refine gc_ 120 ?_);refine gl_ 26 Try.func120 #[.int .i64 (rd l0 p8), .int .i64 (rd l1 p8)] ?_;(with_reducible refine(Gk.calls (rd l0 p8) (rd l1 p8) bk9 _ A8.out).mono ?_);rintro e w' ⟨rfl,⟨nd,rfl⟩⟩;refine⟨_,rfl,?_⟩))
 go_ret
 exact⟨g3_,g5_⟩
def F4.l0:Nat->Int->List Int->Int->Int->Option (Int)
 | 0,_,_,_,_=>none
 | k + 1,x3,x6,x7,x8=>if x8 < x7 then(if 0<=x8 then(if x8 < (x6.length:Int) then(if (rd x6 x8)=x3 then(F4.l0 k x3 x6 x7 (wrap64 (x8 + 1))) else(some (rd x6 x8))) else(none)) else(none)) else(some x3)
def F4.f (k:Nat) (l0:List Int):Option (Int):=F4.l0 k 0 l0 (l0.length:Int) 0
theorem F4.mq {p:Prop} (h:p:=by
 repeat' first
 | (with_reducible exact ih0 _ _ _ _)
 | (with_reducible exact LeO.refl _)
 | (with_reducible exact LeO.none _)
 | (with_reducible refine LeO.ite ?_ ?_)
 | (with_reducible refine LeO.bind ?_ (fun _=>?_))
 | exact ih0 _ _ _ _
 | exact LeO.none _
 | refine LeO.ite ?_ ?_
 | refine LeO.bind ?_ (fun _=>?_)):p:=h
theorem F4.mono_l:∀k,(∀y0 y1 y2 y3,LeO (F4.l0 k y0 y1 y2 y3) (F4.l0 (k + 1) y0 y1 y2 y3))
 | 0=>fun _ _ _ _ r h=>by simp[F4.l0] at h
 | k + 1=>by
  have ih0:=F4.mono_l k
  ·intro y0 y1 y2 y3
   unfold F4.l0
   exact F4.mq
theorem F4.mono:∀a0 k,LeO (F4.f k a0) (F4.f (k + 1) a0):=by
 intro a0 k
 have ih0:=F4.mono_l k
 unfold F4.f
 exact F4.mq
set_option maxHeartbeats 8000000 in
set_option maxRecDepth 100000 in
theorem F4.calls (k:Nat) (A0:Option Addr) (c0:Nat) (l0:List Int) (r:Int) (w:World) (gq:Kd.C (Kd.int .i64) w A0 l0.length l0) (i2:l0.length<=c0) (h:F4.f k l0=some r) :
  Calls Try.prog 119 #[.slice A0 l0.length c0] w fun e w'=>e = .returned (.int .i64 r)/\Drawn0 w w':=by
 have ks:=A_ gq
 have uc:=A_ i2
 clear gq i2
 have H:(F4.l0 k 0 l0 (l0.length:Int) 0)=some r:=h
 clear h
 have H':=A_ H
 clear H
 go_enter Try.func119,Try.ntmps119
 go_wp2
 go_loopg [8] k (fun kq v8 w'=>∃(ji:Int),v8 = .int .i64 ji/\Gx (F4.l0 kq 0 l0 (l0.length:Int) ji=some r)/\Gx (kq<=k)/\Drawn0 w w')
 case atStart=>exact⟨(0),(g3_),H',⟨Nat.le_refl _⟩,g5_⟩
 clear H'
 obtain⟨ji,rfl,HA,HK1,⟨m1,rfl⟩⟩:=hrel
 cases gk with
 | zero=>exact absurd HA.out (by simp[F4.l0])
 | succ k1=>?_
 have H:=HA.out
 clear HA
 simp only[F4.l0] at H
 by_cases c2:ji < (l0.length:Int)
 case neg=>
  rw[if_neg c2] at H
  have bn2:=decide_eq_false c2
  clear c2
  obtain rfl:=Option.some.inj H
  go_wp2
  go_ret
  exact⟨g3_,g5_⟩
 rw[if_pos c2] at H
 have bn2:=decide_eq_true c2
 clear c2
 obtain⟨nt,H⟩:=pd_ H
 obtain⟨qh,H⟩:=pd_ H
 by_cases c5:(rd l0 ji)=0
 ·rw[if_pos c5] at H
  have j9:((rd l0 ji) == 0)=true:=beq_iff_eq.mpr c5
  have ch5:((rd l0 ji) != 0)=false:=bne_eq_false_iff_eq.mpr c5
  clear c5
  have H':=A_ H
  clear H
  obtain⟨⟨kw8,gf0,kw9⟩,cp4,cp5⟩:=rdp_ (Kd.at_int ks.out ji)
  cases gf0
  go_wp2
  go_roundg k1
  case measure=>have:=HK1.out;omega
  case rel=>exact⟨(wrap64 (ji + 1)),(g3_),H',⟨g17_⟩,g5_⟩
 rw[if_neg c5] at H
 have j9:((rd l0 ji) == 0)=false:=beq_eq_false_iff_ne.mpr c5
 have ch5:((rd l0 ji) != 0)=true:=bne_iff_ne.mpr c5
 obtain rfl:=Option.some.inj H
 obtain⟨⟨kw8,gf0,kw9⟩,cp4,cp5⟩:=rdp_ (Kd.at_int ks.out ji)
 cases gf0
 go_wp2
 go_ret
 exact⟨g3_,g5_⟩
def F2.l0:Nat->List Int->Int->Int->Int->Option (Int)
 | 0,_,_,_,_=>none
 | k + 1,x0,x1,x7,x8=>if x8 < x7 then(if 0<=x8 then(if x8 < (x0.length:Int) then(if x1=(rd x0 x8) then(some x8) else(F2.l0 k x0 x1 x7 (wrap64 (x8 + 1)))) else(none)) else(none)) else(some (-1))
def F2.f (k:Nat) (l0:List Int) (a1:Int):Option (Int):=F2.l0 k l0 a1 (l0.length:Int) 0
set_option maxHeartbeats 8000000 in
set_option maxRecDepth 100000 in
theorem F2.calls (k:Nat) (A0:Option Addr) (c0:Nat) (l0:List Int) (a1:Int) (r:Int) (w:World) (gq:Kd.C (Kd.int .i64) w A0 l0.length l0) (i2:l0.length<=c0) (h:F2.f k l0 a1=some r) :
  Calls Try.prog 128 #[.slice A0 l0.length c0, .int .i64 a1] w fun e w'=>e = .returned (.int .i64 r)/\Drawn0 w w':=by
 have ks:=A_ gq
 have uc:=A_ i2
 clear gq i2
 have H:=h
 unfold F2.f at H
 clear h
 have H':=A_ H
 clear H
 go_enter Try.func128,Try.ntmps128
 go_wp2
 go_loopg [8] k (fun kq v8 w'=>∃(ji:Int),v8 = .int .i64 ji/\Gx (F2.l0 kq l0 a1 (l0.length:Int) ji=some r)/\Gx (kq<=k)/\Drawn0 w w')
 case atStart=>exact⟨(0),(g3_),H',⟨Nat.le_refl _⟩,g5_⟩
 clear H'
 obtain⟨ji,rfl,HA,HK1,⟨m1,rfl⟩⟩:=hrel
 cases gk with
 | zero=>exact absurd HA.out (by simp[F2.l0])
 | succ k1=>?_
 have H:=HA.out
 clear HA
 simp only[F2.l0] at H
 by_cases c3:ji < (l0.length:Int)
 case neg=>
  rw[if_neg c3] at H
  have nt:=decide_eq_false c3
  clear c3
  obtain rfl:=Option.some.inj H
  go_wp2
  go_ret
  exact⟨g3_,g5_⟩
 rw[if_pos c3] at H
 have nt:=decide_eq_true c3
 clear c3
 obtain⟨qh,H⟩:=pd_ H
 obtain⟨j9,H⟩:=pd_ H
 by_cases c6:a1=(rd l0 ji)
 ·rw[if_pos c6] at H
  have qu:(a1 == (rd l0 ji))=true:=beq_iff_eq.mpr c6
  have bx4:(a1 != (rd l0 ji))=false:=bne_eq_false_iff_eq.mpr c6
  clear c6
  obtain rfl:=Option.some.inj H
  obtain⟨⟨ls5,gm7,ls6⟩,cs0,cs1⟩:=rdp_ (Kd.at_int ks.out ji)
  cases gm7
  go_wp2
  go_ret
  exact⟨g3_,g5_⟩
 rw[if_neg c6] at H
 have qu:(a1 == (rd l0 ji))=false:=beq_eq_false_iff_ne.mpr c6
 have bx4:(a1 != (rd l0 ji))=true:=bne_iff_ne.mpr c6
 have H':=A_ H
 clear H
 obtain⟨⟨ls5,gm7,ls6⟩,cs0,cs1⟩:=rdp_ (Kd.at_int ks.out ji)
 cases gm7
 go_wp2
 go_roundg k1
 case measure=>have:=HK1.out;omega
 case rel=>exact⟨(wrap64 (ji + 1)),(g3_),H',⟨g17_⟩,g5_⟩
def Gi.f (k:Nat) (l0:List Int) (a1:Int):Option (Bool):=(F2.f k l0 a1).bind fun ee4=>(some (decide (ee4 ≥ 0)))
set_option maxHeartbeats 8000000 in
set_option maxRecDepth 100000 in
theorem Gi.calls (k:Nat) (A0:Option Addr) (c0:Nat) (l0:List Int) (a1:Int) (r:Bool) (w:World) (gq:Kd.C (Kd.int .i64) w A0 l0.length l0) (i2:l0.length<=c0) (h:Gi.f k l0 a1=some r) :
  Calls Try.prog 116 #[.slice A0 l0.length c0, .int .i64 a1] w fun e w'=>e = .returned (.bool r)/\Drawn0 w w':=by
 have ks:=A_ gq
 have uc:=A_ i2
 clear gq i2
 have H:=h
 unfold Gi.f at H
 clear h
 obtain⟨ee4,A3,H⟩:=bind_ H
 obtain rfl:=Option.some.inj H
 go_enter Try.func116,Try.ntmps116
 go_wp2_with (first|((with_reducible refine gc_ 128 ?_);refine gl_ 7 Try.func128 #[.slice A0 l0.length c0, .int .i64 a1] ?_;(refine(F2.calls k _ _ l0 a1 ee4 _ (cu_ ks.out) uc.out A3.out).mono ?_);rintro e w' ⟨rfl,⟨nd,rfl⟩⟩;refine⟨_,rfl,?_⟩))
 go_ret
 exact⟨g3_,g5_⟩
end Go.Proofs.Ytfooakkhkehpiaa.PU
