/- FnExactDeskDo: for every input the law holds, and each argument reads as it read before. No condition. -/
import Derived.Test.YtfooakkhkehpiaaZFnExactDeskDo1
import Derived.Test.YtfooakkhkehpiaaZFnExactDeskDo2
import Derived.Test.YtfooakkhkehpiaaZFnExactDeskDo3
namespace Go.Proofs.Ytfooakkhkehpiaa.PE
open Go.RowKit Go.Proofs.YtfooakkhkehpiaaW.PrintWords Go.Proofs.YtfooakkhkehpiaaW.PrintLast Go.Proofs.YtfooakkhkehpiaaW.PrintMore Go.Proofs.Ytfooakkhkehpiaa.Qe
attribute [local go_sem] max2_int min2_int max_two min_two max_three min_three max_four min_four
set_option linter.unusedVariables false
set_option linter.unusedSimpArgs false
mutual
def Fk.l0:Nat->Int->List Int->List (List Int)->List Int->List (List Int)->Option (List Int × (List (List Int)))
 | 0,_,_,_,_,_=>none
 | k + 1,x4,dy1,ag3,dy2,bn4=>if x4 < (dy1.length:Int) then(Fk.l1 k x4 0 dy1 ag3 dy2 bn4) else(some (dy2,bn4))
def Fk.l1:Nat->Int->Int->List Int->List (List Int)->List Int->List (List Int)->Option (List Int × (List (List Int)))
 | 0,_,_,_,_,_,_=>none
 | k + 1,x4,x5,dy1,ag3,dy2,bn4=>if x5 < x4 then(if 0<=x4 then(if x4 < (ag3.length:Int) then(if 0<=x5 then(if x5 < ((Jm ag3 x4).length:Int) then(if x5 < (ag3.length:Int) then(if x4 < ((Jm ag3 x5).length:Int) then(if x4 < (bn4.length:Int) then(if x5 < ((Jm bn4 x4).length:Int) then((some (bn4.set (x4:Int).toNat ((Jm bn4 x4).set (x5:Int).toNat (wrap64 ((rd (Jm ag3 x4) x5) - (mn (rd (Jm ag3 x4) x5) (rd (Jm ag3 x5) x4))))):List (List Int))).bind fun pz=>(if x5 < (bn4.length:Int) then(if x4 < ((Jm pz x5).length:Int) then(Fk.l1 k x4 (wrap64 (x5 + 1)) dy1 ag3 dy2 (pz.set (x5:Int).toNat ((Jm pz x5).set (x4:Int).toNat (wrap64 ((rd (Jm ag3 x5) x4) - (mn (rd (Jm ag3 x4) x5) (rd (Jm ag3 x5) x4))))))) else(none)) else(none))) else(none)) else(none)) else(none)) else(none)) else(none)) else(none)) else(none)) else(none)) else(Fk.l0 k (wrap64 (x4 + 1)) dy1 ag3 dy2 bn4)
end
def Fk.f (k:Nat) (ab:List Int) (aa:List (List Int)):Option (List Int × (List (List Int))):=(Fg.f k ab aa).bind fun dy3=>(if dy3=true then((Fr.f k ab aa).bind fun bt232=>(Fk.l0 k 0 ab aa bt232.1 bt232.2)) else(some (([]:List Int),([]:List (List Int)))))
def Fk.T10:Bool × List (List Nat × List Nat):=(true,[([],[]),([0],[0]),([],[]),([1,2],[1,2]),([3],[3]),([],[]),([4,5],[4,5]),([6],[6]),([],[]),([8],[8]),([],[]),([9,10],[9,10]),([11],[11]),([],[]),([12,13],[12,13]),([14],[14]),([7,15],[7,15]),([16,0,1,2,3,4,5,6,7,8,9,10,11,12,13,14,15,16],[16])])
def Fk.B10:List Nat:=[0,1,0,7,15,0,63,127,0,256,0,1792,3840,0,16128,32512,65535,131071]
theorem Fk.tab10:rtab .any (opsOf Try.f41 10)=Fk.T10:=by kernel_rfl
theorem Fk.bits10:waitsOk Fk.T10.2 Fk.B10=true:=by kernel_rfl
def Fk.T11:Bool × List (List Nat × List Nat):=(true,[([],[]),([0],[0]),([],[]),([1,2],[1,2]),([3],[3]),([],[]),([],[]),([6],[6]),([],[]),([7,8],[7,8]),([9],[9]),([],[]),([10,11],[10,11]),([12],[12]),([],[]),([13,14],[13,14]),([4,5,0,1,2,3,4,5,6,7,8,9,10,11,12,13,14,15],[4,5]),([16,15,0,1,2,3,4,5,6,7,8,9,10,11,12,13,14,15],[15,16])])
def Fk.B11:List Nat:=[0,1,0,7,15,0,0,64,0,448,960,0,4032,8128,0,32704,65535,131071]
theorem Fk.tab11:rtab .any (opsOf Try.f41 11)=Fk.T11:=by kernel_rfl
theorem Fk.bits11:waitsOk Fk.T11.2 Fk.B11=true:=by kernel_rfl
def Fk.T12:Bool × List (List Nat × List Nat):=(true,[([],[]),([0],[0]),([],[]),([1,2],[1,2]),([3],[3]),([],[]),([],[]),([6],[6]),([],[]),([7,8],[7,8]),([9],[9]),([],[]),([10,11],[10,11]),([12],[12]),([],[]),([13,14],[13,14]),([4,5,0,1,2,3,4,5,6,7,8,9,10,11,12,13,14,15],[4,5]),([16,15,0,1,2,3,4,5,6,7,8,9,10,11,12,13,14,15],[15,16])])
def Fk.B12:List Nat:=[0,1,0,7,15,0,0,64,0,448,960,0,4032,8128,0,32704,65535,131071]
theorem Fk.tab12:rtab .any (opsOf Try.f41 12)=Fk.T12:=by kernel_rfl
theorem Fk.bits12:waitsOk Fk.T12.2 Fk.B12=true:=by kernel_rfl
theorem wv {p:Prop} (h:p:=by repeat(first|(with_reducible first|exact HB.out|apply Jf|apply Je|apply Jd|refine Jc ?_ hw4.out|refine Jc ?_ hw5.out|refine Jc ?_ ke6.out|refine Jc ?_ GB32.out|refine Jc ?_ GB35.out)|exact HB.out)):p:=h
set_option maxHeartbeats 8000000 in
set_option maxRecDepth 100000 in
theorem Fk.calls (k:Nat) (ae:Option Addr) (ac:Nat) (ab:List Int) (ag:Option Addr) (af:Nat) (aa:List (List Int)) (r1:List Int) (r2:List (List Int)) (w:World) (ca:Kd.C (Kd.int .i64) w ae ab.length ab) (ce:ab.length<=ac) (cb:Kd.C (Kd.slice 3 (Kd.int .i64)) w ag aa.length aa) (cg:aa.length<=af) (h:Fk.f k ab aa=some (r1,r2)) :
  Calls Try.prog 41 #[.agg #[.slice ae ab.length ac, .slice ag aa.length af]] w fun e w'=>∃v0_ v1_:Value,e = .returned (.agg #[v0_,v1_])/\Kd.R (Kd.int .i64) 3 w' w.heap.size (fun _=>True) v0_ r1/\Kd.S (Kd.slice 3 (Kd.int .i64)) 22 w' w.heap.size (fun k_=>some k_≠(v0_:Value).ownBlock) v1_ r2/\Below w.heap.size w w':=by
 have hu25:=Try.underlying25
 have bg:=A_ ca
 have bs:=A_ ce
 clear ca ce
 have bd:=A_ cb
 have bv:=A_ cg
 clear cb cg
 have HB:=A_ (Below.refl w.heap.size w)
 have H:=h
 unfold Fk.f at H
 clear h
 obtain⟨dy3,A2,H⟩:=bind_ H
 by_cases c3:dy3=true
 case neg=>
  replace c3:=Bool.eq_false_iff.mpr c3
  subst c3
  replace H:=ifn_ H
  simp only[Option.some.injEq,Prod.mk.injEq] at H
  obtain⟨rfl,rfl⟩:=H
  go_enter Try.func41,Try.ntmps41
  go_wp2_with (first|((with_reducible refine gd_ 1 ?_);refine bx_ (N:=1) #[.slice ae ab.length ac, .slice ag aa.length af] 25 ?_;intro rm hg jz hbox hb;have jj:=A_ (hbox);have ke7:=A_ ((g33_:w.heap.size<=rm));have hw4:=ke7;replace HB:=hs_ (wv) hb;clear hb hbox hg)|((with_reducible refine gd_ 2 ?_);refine bx_ (N:=2) #[.slice none 0 0, .slice none 0 0] 25 ?_;intro ro hg w54 hbox hb;have k6:=A_ (hbox);have ke8:=A_ ((g33_:w.heap.size<=ro));have hw5:=ke8;replace HB:=hs_ (wv) hb;have dy5:=nl_ jj hg;have dy6:=nr_ jj hg;replace jj:=bb_ jj hb;clear hb hbox hg;have ki3:=dy5.out;have ki4:=dy6.out;obtain⟨gd8,gd9,ge0,ge1⟩:=blk2_ jj)|((with_reducible refine gc_ 42 ?_);refine gl_ 8 Try.func42 #[.agg #[.slice ae ab.length ac, .slice ag aa.length af]] ?_;(refine(Fg.calls k _ _ ab _ _ aa false _ (uC_ bg) bs.out (uC_ bd) bv.out A2.out).mono ?_);rintro e w57 ⟨rfl,hb⟩;refine⟨_,rfl,?_⟩;replace jj:=bb_ jj hb;replace k6:=bb_ k6 hb;replace HB:=hs_ (wv) hb;obtain⟨ia4,ia5,ia6,ia7⟩:=blk2_ k6))
  refine bodyPost_ret (results_cell_row rfl _ _ ro 25 #[.slice none 0 0, .slice none 0 0] (0,0) _ rfl (ba_ k6) Try.underlying25 rfl (g1_)) rfl ?_
  exact⟨_,_,g4_,g25_,g38_,wv⟩
 subst c3
 replace H:=ifp_ H
 replace H:=Option.bind_eq_some_iff.mp H
 obtain⟨⟨dc4,dy4⟩,A40,H⟩:=H
 try dsimp only at H
 have A4:=A_ A40
 clear A40
 have H':=A_ H
 clear H
 go_enter Try.func41,Try.ntmps41
 go_wp2_with (first|((with_reducible refine gd_ 1 ?_);refine bx_ (N:=1) #[.slice ae ab.length ac, .slice ag aa.length af] 25 ?_;intro rm hg w5 hbox hb;have jj:=A_ (hbox);have ke7:=A_ ((g33_:w.heap.size<=rm));have hw4:=ke7;replace HB:=hs_ (wv) hb;clear hb hbox hg)|((with_reducible refine gd_ 2 ?_);refine bx_ (N:=2) #[.slice none 0 0, .slice none 0 0] 25 ?_;intro ro hg w6 hbox hb;have k6:=A_ (hbox);have ke8:=A_ ((g33_:w.heap.size<=ro));have hw5:=ke8;replace HB:=hs_ (wv) hb;have dy5:=nl_ jj hg;have dy6:=nr_ jj hg;replace jj:=bb_ jj hb;clear hb hbox hg;have da6:=dy5.out;have da7:=dy6.out;obtain⟨bf1,bf2,bf3,bf4⟩:=blk2_ jj)|((with_reducible refine gc_ 42 ?_);refine gl_ 8 Try.func42 #[.agg #[.slice ae ab.length ac, .slice ag aa.length af]] ?_;(refine(Fg.calls k _ _ ab _ _ aa true _ (uC_ bg) bs.out (uC_ bd) bv.out A2.out).mono ?_);rintro e w9 ⟨rfl,hb⟩;refine⟨_,rfl,?_⟩;replace jj:=bb_ jj hb;replace k6:=bb_ k6 hb;replace HB:=hs_ (wv) hb;obtain⟨ye,yf,yg,yh⟩:=blk2_ jj)|((with_reducible refine gc_ 80 ?_);refine gl_ 12 Try.func80 #[.agg #[.slice ae ab.length ac, .slice ag aa.length af]] ?_;(refine(Fr.calls k _ _ ab _ _ aa dc4 dy4 _ (uC_ bg) bs.out (uC_ bd) bv.out A4.out).mono ?_);rintro e kj ⟨nj6,nj7,rfl,ah,ak,hb⟩;refine⟨_,rfl,?_⟩;have eu9:=A_ (Kd.R_lower ah (G9 (wv)));have ev0:=A_ (Kd.S_lower ak (G9 (wv)));replace jj:=bb_ jj hb;replace k6:=bb_ k6 hb;replace HB:=hs_ (wv) hb)|((with_reducible refine gd_ 3 ?_);refine bx_ (N:=3) #[.slice none 0 0, .slice none 0 0] 25 ?_;intro xe hg t5 hbox hb;replace eu9:=rb_ eu9 hb;replace ev0:=sb_ ev0 hb;have ol:=A_ (hbox);have nj8:=A_ ((g33_:w.heap.size<=xe));have ke6:=nj8;replace HB:=hs_ (wv) hb;have dy7:=nl_ jj hg;have gb1:=nr_ jj hg;replace jj:=bb_ jj hb;have ev1:=nl_ k6 hg;have hw6:=nr_ k6 hg;replace k6:=bb_ k6 hb;clear hb hbox hg;obtain⟨jc,gv,bn5⟩:=Kd.R_slice eu9.out;subst bn5;have do5:=gb1.out;have do6:=dy7.out;have dc5:=hw6.out;have dc6:=ev1.out;obtain⟨ae0,ae1,ae2,ae3⟩:=blk2_ ol;obtain⟨fz,f4,ax4⟩:=Kd.S_slice ev0.out;subst ax4))
 go_loopg [4] k (fun kq v4 w'=>∃(ar:Int) (ca2:List Int) (cm5:List (List Int)) (xf:Value) (bn6:Value),v4 = .int .i64 ar/\G7 (Fk.l0 kq ar ab aa ca2 cm5=some (r1,r2))/\G7 (kq<=k)/\G7 (Kd.R (Kd.int .i64) 3 w' w.heap.size (fun _=>True) xf ca2)/\G7 (Kd.S (Kd.slice 3 (Kd.int .i64)) 22 w' w.heap.size (fun k_=>some k_≠(xf:Value).ownBlock) bn6 cm5)/\G7 (hc_ w' rm #[(.slice ae ab.length ac),(.slice ag aa.length af)] 25)/\G7 (hc_ w' ro #[(.slice none 0 0),(.slice none 0 0)] 25)/\G7 (hc_ w' xe #[xf,bn6] 25)/\G7 (Below w.heap.size w w'))
 case atStart=>exact⟨(0),(dc4),(dy4),(.slice jc dc4.length gv),(.slice fz dy4.length f4),(g3_),H',⟨Nat.le_refl _⟩,⟨ra_ eu9⟩,⟨sa_ ev0⟩,⟨ba_ jj⟩,⟨ba_ k6⟩,⟨ba_ ol⟩,⟨wv⟩⟩
 clear H'
 obtain⟨ar,ca2,cm5,xf,bn6,rfl,HA,HK1,vq,m8,jj,k6,ol,HB⟩:=hrel
 cases gk with
 | zero=>exact absurd HA.out (by simp[Fk.l0])
 | succ k1=>?_
 have H:=HA.out
 clear HA
 simp only[Fk.l0] at H
 by_cases jw:ar < (ab.length:Int)
 case neg=>
  rw[if_neg jw] at H
  have bg0:=decide_eq_false jw
  clear jw
  simp only[Option.some.injEq,Prod.mk.injEq] at H
  obtain⟨rfl,rfl⟩:=H
  have dy9:=dy5.out
  have dz0:=dy6.out
  have gd5:=dy7.out
  have gd6:=gb1.out
  obtain⟨ew7,ew8,ew9,ex0⟩:=blk2_ jj
  have hz8:=hw6.out
  have hz9:=ev1.out
  obtain⟨ia0,ia1,ia2,ia3⟩:=blk2_ ol
  obtain⟨ap9,aq0,dz1⟩:=Kd.R_slice vq.out
  subst dz1
  obtain⟨dz2,dz3,dz4,dz5⟩:=blk2_ k6
  obtain⟨oo,op,gd7⟩:=Kd.S_slice m8.out
  subst gd7
  go_wp2
  refine bodyPost_ret (results_cell_row rfl _ _ ro 25 #[.slice ap9 ca2.length aq0, .slice oo cm5.length op] (0,0) _ rfl (ba_ k6) Try.underlying25 rfl (g1_)) rfl ?_
  exact⟨_,_,g4_,ra_ vq,sa_ m8,wv⟩
 rw[if_pos jw] at H
 have bg0:=decide_eq_true jw
 clear jw
 have H':=A_ H
 clear H
 have bw3:=dy5.out
 have bw4:=dy6.out
 have db4:=dy7.out
 have db5:=gb1.out
 obtain⟨t6,t7,t8,t9⟩:=blk2_ jj
 go_wp2
 go_loopg [5] k1 (fun kq v5 w'=>∃(cv:Int) (ay4:List Int) (nv:List (List Int)) (xf:Value) (bn6:Value),v5 = .int .i64 cv/\G7 (Fk.l1 kq ar cv ab aa ay4 nv=some (r1,r2))/\G7 (kq<=k1)/\G7 (Kd.R (Kd.int .i64) 3 w' w.heap.size (fun _=>True) xf ay4)/\G7 (Kd.S (Kd.slice 3 (Kd.int .i64)) 22 w' w.heap.size (fun k_=>some k_≠(xf:Value).ownBlock) bn6 nv)/\G7 (hc_ w' rm #[(.slice ae ab.length ac),(.slice ag aa.length af)] 25)/\G7 (hc_ w' ro #[(.slice none 0 0),(.slice none 0 0)] 25)/\G7 (hc_ w' xe #[xf,bn6] 25)/\G7 (Below w.heap.size w w'))
 case atStart=>exact⟨(0),(ca2),(cm5),(xf),(bn6),(g3_),H',⟨Nat.le_refl _⟩,⟨uR_ vq⟩,⟨uS_ m8⟩,⟨uB_ jj⟩,⟨uB_ k6⟩,⟨uB_ ol⟩,⟨wv⟩⟩
 clear H'
 obtain⟨cv,ay4,nv,xf,bn6,rfl,HA,HK2,vq,m8,jj,k6,ol,HB⟩:=hrel
 cases gk with
 | zero=>exact absurd HA.out (by simp[Fk.l1])
 | succ k2=>?_
 have H:=HA.out
 clear HA
 simp only[Fk.l1] at H
 by_cases la:cv < ar
 case neg=>
  rw[if_neg la] at H
  have ax5:=decide_eq_false la
  clear la
  have H':=A_ H
  clear H
  go_wp2
  go_roundg k2
  case measure=>have:=HK1.out;have:=HK2.out;omega
  case rel=>exact⟨(wrap64 (ar + 1)),(ay4),(nv),(xf),(bn6),(g3_),H',⟨g40_⟩,⟨uR_ vq⟩,⟨uS_ m8⟩,⟨uB_ jj⟩,⟨uB_ k6⟩,⟨uB_ ol⟩,⟨wv⟩⟩
 rw[if_pos la] at H
 have ax5:=decide_eq_true la
 clear la
 obtain⟨bm4,H⟩:=pd_ H
 obtain⟨yl,H⟩:=pd_ H
 obtain⟨be9,H⟩:=pd_ H
 obtain⟨cm6,H⟩:=pd_ H
 obtain⟨ca3,H⟩:=pd_ H
 obtain⟨bn7,H⟩:=pd_ H
 obtain⟨ji29,hji29⟩:∃j_:Int,(mn (rd (Jm aa ar) cv) (rd (Jm aa cv) ar))=j_:=⟨_,rfl⟩
 first|rw[hji29] at H|simp only[hji29] at H
 have hji29_:(if (rd (Jm aa cv) ar) < (rd (Jm aa ar) cv) then(rd (Jm aa cv) ar) else(rd (Jm aa ar) cv))=ji29:=hji29
 obtain⟨dc7,H⟩:=pd_ H
 obtain⟨dy8,H⟩:=pd_ H
 obtain⟨gb2,hyq⟩:∃y_:List Int,y_=((Jm nv ar).set (cv:Int).toNat (wrap64 ((rd (Jm aa ar) cv) - (ji29)))):=⟨_,rfl⟩
 replace H:((some (nv.set (ar:Int).toNat gb2:List (List Int))).bind fun pz=>(if cv < (nv.length:Int) then(if ar < ((Jm pz cv).length:Int) then(Fk.l1 k2 ar (wrap64 (cv + 1)) ab aa ay4 (pz.set (cv:Int).toNat ((Jm pz cv).set (ar:Int).toNat (wrap64 ((rd (Jm aa cv) ar) - (ji29)))))) else(none)) else(none)))=some (r1,r2):=qh_
 have ke9:=A_ hyq
 clear hyq
 obtain⟨pz,hyq⟩:∃y_:List (List Int),y_=(nv.set (ar:Int).toNat gb2):=⟨_,rfl⟩
 replace H:(if cv < (nv.length:Int) then(if ar < ((Jm pz cv).length:Int) then(Fk.l1 k2 ar (wrap64 (cv + 1)) ab aa ay4 (pz.set (cv:Int).toNat ((Jm pz cv).set (ar:Int).toNat (wrap64 ((rd (Jm aa cv) ar) - (ji29)))))) else(none)) else(none))=some (r1,r2):=qh_
 have gb3:=A_ hyq
 clear hyq
 obtain⟨ev2,H⟩:=pd_ H
 obtain⟨gb4,H⟩:=pd_ H
 obtain⟨gb6,hyq⟩:∃y_:List Int,y_=((Jm pz cv).set (ar:Int).toNat (wrap64 ((rd (Jm aa cv) ar) - (ji29)))):=⟨_,rfl⟩
 replace H:(Fk.l1 k2 ar (wrap64 (cv + 1)) ab aa ay4 (pz.set (cv:Int).toNat gb6))=some (r1,r2):=qh_
 have kf0:=A_ hyq
 clear hyq
 obtain⟨hw7,hyq⟩:∃y_:List (List Int),y_=(pz.set (cv:Int).toNat gb6):=⟨_,rfl⟩
 replace H:(Fk.l1 k2 ar (wrap64 (cv + 1)) ab aa ay4 hw7)=some (r1,r2):=qh_
 have kf1:=A_ hyq
 clear hyq
 have H':=A_ H
 clear H
 try go_wp2
 replace vq:=rd_ vq
 replace m8:=sd_ m8
 replace jj:=bd_ jj
 replace k6:=bd_ k6
 replace ol:=bd_ ol
 replace HB:=A_ (Jd HB.out)
 obtain⟨⟨ay5,nj9,kf2,kf3,ev3,hw8,hw9⟩,gb8,gc0⟩:=rdp_ (at_L1 bd.out ar)
 have kf4:=ev3
 cases kf3
 replace ev3:=cl_ HB ev3
 have hx6:=A_ hw9
 have nk0:=A_ hw8
 clear hw9 hw8
 obtain⟨⟨hx7,kf5,ev4⟩,gc1,gc2⟩:=rdp_ (Kd.at_int hx6.out cv)
 have kf6:=ev4
 cases kf5
 replace ev4:=cl_ HB ev4
 obtain⟨⟨kf7,nk1,kf8,kf9,ev5,hx8,hx9⟩,gc3,gc4⟩:=rdp_ (at_L1 bd.out cv)
 have kg0:=ev5
 obtain rfl:ay5=kf7:=(by injection kf9)
 replace ev5:=cl_ HB ev5
 have hy0:=A_ hx9
 have nk2:=A_ hx8
 clear hx9 hx8
 obtain⟨⟨hy1,kg1,ev6⟩,gc5,gc6⟩:=rdp_ (Kd.at_int hy0.out ar)
 have kg2:=ev6
 cases kg1
 replace ev6:=cl_ HB ev6
 refine start_ (n:=18) (S:=fun w'=>w'.cell? ⟨rm,0,none⟩=some (.slice ae ab.length ac)/\w'.cell? ⟨rm,1,none⟩=some (.slice (some ay5) aa.length af)/\w'.cell? (ay5.add (ar).toNat)=some (.slice (some hx7) (Jm aa ar).length kf2)/\w'.cell? (hx7.add (cv).toNat)=some (.int .i64 (rd (Jm aa ar) cv))/\w'.cell? (ay5.add (cv).toNat)=some (.slice (some hy1) (Jm aa cv).length kf8)/\w'.cell? (hy1.add (ar).toNat)=some (.int .i64 (rd (Jm aa cv) ar))) (ds:=[]) (tl_ 18 0) (g1_) rfl (g1_) ⟨(G8 jj.out 0).trans rfl,(G8 jj.out 1).trans rfl,((cl_ HB kf4).trans rfl),((cl_ HB kf6).trans rfl),((cl_ HB kg0).trans rfl),((cl_ HB kg2).trans rfl)⟩ (fun hHeld=>?_);refine Js Fk.tab10 Fk.bits10 (fun HT_ HW_=>?_)
 generalize wr.drew=kn at vq m8 jj k6 ol HB hx6 hy0 ev3 ev4 ev5 ev6 hHeld |-
 refine pw_ 0 25 (tl_ 18 1) ?_
 refine pw_ 2 27 (tl_ 18 5) ?_
 refine pw_ 5 30 (tl_ 18 37) ?_
 refine pw_ 8 33 (tl_ 18 293) ?_
 refine pw_ 10 35 (tl_ 18 1317) ?_
 refine pw_ 13 38 (tl_ 18 9509) ?_
 refine tk1_ 1 26 (tl_ 18 9511) hHeld ?_
 refine pw_ 3 28 (tl_ 18 9519) ?_
 refine tk1_ 4 29 (tl_ 18 9535) hHeld ?_
 refine pw_ 6 31 (tl_ 18 9599) ?_
 refine tk1_ 7 32 (tl_ 18 9727) hHeld ?_
 refine tk1_ 9 34 (tl_ 18 10239) hHeld ?_
 refine pw_ 11 36 (tl_ 18 12287) ?_
 refine tk1_ 12 37 (tl_ 18 16383) hHeld ?_
 refine pw_ 14 39 (tl_ 18 32767) ?_
 refine tk1_ 15 40 (tl_ 18 65535) hHeld ?_
 refine pw_ 16 41 (tl_ 18 131071) ?_
 refine pw_ 17 6 (tl_ 18 262143) ?_
 refine done_ (done_of HT_.out (g1_)) ?_
 try go_wp2
 replace vq:=rd_ vq
 replace m8:=sd_ m8
 replace jj:=bd_ jj
 replace k6:=bd_ k6
 replace ol:=bd_ ol
 replace HB:=A_ (Jd HB.out)
 obtain⟨kw,jn,ap8⟩:=Kd.S_slice m8.out
 (first|subst ap8|(injection ap8 with f1_ f2_ f3_;have f4_:=f1_.symm;have f5_:=f3_.symm;clear f1_ f2_ f3_;subst f4_;subst f5_))
 have ev7:0<=(ar:Int):=od_
 have ev8:ar < (nv.length:Int):=od_
 obtain⟨ca4,nk3,kg3,kg4,ev9,hy2,hy3⟩:=at_L1 (Kd.S_reads' m8.out).2.2 ar ev7 ev8
 cases kg4
 obtain⟨ce243,hce243,hMe243,hcc243⟩:=Kd.S_get m8.out [] ar ev7 (by first|exact ev8|exact od_|(have e_:=(Kd.S_reads' m8.out).1;omega))
 obtain⟨ve243_0,rfl,ge243_0⟩:=hMe243
 have hv243_0:=hcc243 0 _ rfl
 rw[Nat.add_zero,show((Kd.slice 3 (Kd.int .i64))).sz=1 from rfl,Nat.mul_one] at hv243_0
 replace hv243_0:=Option.some.inj (hv243_0.symm.trans ev9)
 rw[hv243_0] at ge243_0
 have cm7:=A_ (show Kd.R (Kd.int .i64) 3 _ _ _ _ (Jm nv ar) from ge243_0)
 clear hv243_0 ge243_0
 have HX243_0:=A_ ev9
 clear hcc243 hce243
 have kg5:=A_ hy3
 have nk4:=A_ hy2
 clear hy3 hy2
 replace ev7:=eq_true ev7
 replace ev8:=eq_true ev8
 obtain⟨⟨kg6,nk5,kg7,kg8,ew0,hy4,hy5⟩,gc7,gc8⟩:=rdp_ (at_L1 bd.out ar)
 have kg9:=ew0
 obtain rfl:ay5=kg6:=(by injection kg8)
 replace ew0:=cl_ HB ew0
 have hy6:=A_ hy5
 have nk6:=A_ hy4
 clear hy5 hy4
 obtain⟨⟨hy7,kh0,ew1⟩,gc9,gd0⟩:=rdp_ (Kd.at_int hy6.out cv)
 have kh1:=ew1
 cases kh0
 replace ew1:=cl_ HB ew1
 have p32:0<=(cv:Int):=od_
 have q32:(cv:Int) < (((Jm nv ar).length:Int):Int):=od_
 obtain⟨bn8,bw,bg1,hy8,gl32,cl32,HG32⟩:=Kd.R_form cm7.out (by omega)
 (first|cases bg1|(injection bg1 with ea_ en_ ec_;(first|subst ea_|(injection ea_ with ea_;subst ea_));subst ec_;clear en_))
 have GB32:=A_ hy8
 have GG32:=A_ HG32
 clear hy8 gl32 HG32
 obtain⟨kh2,hf32_0⟩:=Kd.R_celln 0 cm7.out (cv:Int) p32 q32
 replace p32:=eq_true p32
 replace q32:=eq_true q32
 have hq39:(ar:Int) < (nv.length:Int):=(by have h_:(ar:Int) < ((nv.length:Int):Int):=od_;first|exact h_|(have e_:=(Kd.S_reads' m8.out).1;omega)|simpa only[List.length_set,List.length_set] using h_)
 obtain⟨oki39,ce39,hcl39,hM39,hcc39,hok39,hbk39⟩:=Kd.S_borrow m8.out [] (ar:Int) (od_) (by first|exact hq39|exact od_|(have e_:=(Kd.S_reads' m8.out).1;omega))
 obtain⟨ve39_0,rfl,ge39_0⟩:=hM39
 have hv39:=hcc39 0 _ rfl
 rw[Nat.add_zero,show((Kd.slice 3 (Kd.int .i64))).sz=1 from rfl,Nat.mul_one] at hv39
 replace hv39:=Option.some.inj (hv39.symm.trans HX243_0.out)
 subst hv39
 clear hcc39 hcl39
 replace ge39_0:=(show Kd.R (Kd.int .i64) 3 _ _ _ _ (Jm nv ar) from ge39_0)
 have HP39:=Kd.R_putg ge39_0 (cv:Int) (wrap64 ((rd (Jm aa ar) cv) - (ji29)))
 rw[<- ke9.out] at HP39
 have HS39:=hbk39 HP39.2 (fun k_ e_=>by injection e_ with e_;subst e_;exact ge39_0.1 _ rfl) (x':=gb2) (Kd.M_row HP39.1)
 rw[<- gb3.out] at HS39
 have HQ39:=A_ HS39
 clear HP39 HS39 hbk39 hok39
 refine start_ (n:=18) (S:=fun w'=>w'.cell? ⟨xe,0,none⟩=some (xf)/\w'.cell? ⟨xe,1,none⟩=some (.slice (some ca4) nv.length jn)/\w'.cell? ⟨rm,0,none⟩=some (.slice ae ab.length ac)/\w'.cell? ⟨rm,1,none⟩=some (.slice (some ay5) aa.length af)/\w'.cell? (ca4.add (ar).toNat)=some (.slice (some ⟨bn8,0,none⟩) (Jm nv ar).length kg3)/\w'.cell? (ay5.add (ar).toNat)=some (.slice (some hy7) (Jm aa ar).length kg7)/\w'.cell? (hy7.add (cv).toNat)=some (.int .i64 (rd (Jm aa ar) cv))) (ds:=[17]) (tl_ 18 0) (g1_) rfl (g1_) ⟨(G8 ol.out 0).trans rfl,(G8 ol.out 1).trans rfl,(G8 jj.out 0).trans rfl,(G8 jj.out 1).trans rfl,ev9,((cl_ HB kg9).trans rfl),((cl_ HB kh1).trans rfl)⟩ (fun hHeld=>?_);refine Js Fk.tab11 Fk.bits11 (fun HT_ HW_=>?_)
 generalize kn.drew=su at vq m8 jj k6 ol HB GG32 cm7 HQ39 kg5 hy6 HX243_0 hf32_0 ev9 ew0 ew1 kh2 hHeld |-
 refine pw_ 0 42 (tl_ 18 1) ?_
 refine pw_ 2 44 (tl_ 18 5) ?_
 refine pw_ 5 47 (tl_ 18 37) ?_
 refine pw_ 6 48 (tl_ 18 101) ?_
 refine pw_ 8 50 (tl_ 18 357) ?_
 refine pw_ 11 53 (tl_ 18 2405) ?_
 refine pw_ 14 56 (tl_ 18 18789) ?_
 refine tk3_ 1 43 (tl_ 18 18791) hHeld ?_
 refine pw_ 3 45 (tl_ 18 18799) ?_
 refine tk3_ 4 46 (tl_ 18 18815) hHeld ?_
 refine tk3_ 7 49 (tl_ 18 18943) hHeld ?_
 refine pw_ 9 51 (tl_ 18 19455) ?_
 refine tk3_ 10 52 (tl_ 18 20479) hHeld ?_
 refine pw_ 12 54 (tl_ 18 24575) ?_
 refine tk3_ 13 55 (tl_ 18 32767) hHeld ?_
 refine pw_ 15 57 (tl_ 18 65535) ?_
 refine pw_ 16 58 (tl_ 18 131071) ?_
 refine last_ (i:=17) (N:=none) (tl_ 18 262143) rfl rfl (Ju HT_.out (g1_)) (by decide) (fun K hK=>?_)
 refine skip_ (w1:=?_) (by rfl) rfl ?_ ?_
 rotate_left
 ·go_simp
  rfl
 refine hK.out _ _ ?_
 clear hK K
 refine done_ (done_of HT_.out (g1_)) ?_
 try go_wp2
 generalize hw_:(su.setCell ⟨bn8,(cv:Int).toNat,none⟩ (.int .i64 (wrap64 ((rd (Jm aa ar) cv) - (ji29)))))=w41
 have n0_:G7 (Kd.R (Kd.int .i64) 3 w41 w.heap.size (fun _=>True) xf ay4):=A_ (by rw[<- hw_];exact(by(with_reducible repeat(first|apply Kd.R_alloc|apply Kd.R_drewN|apply Kd.R_drew));exact Kd.R_mono (Kd.R_far (p:=⟨bn8,(cv:Int).toNat,none⟩) (Kd.R_far1 vq.out rfl ((cm7.out.1 _ rfl).1)) (fun _ hk=>hk.2) (.int .i64 (wrap64 ((rd (Jm aa ar) cv) - (ji29))))) (fun _ hk=>trivial)))
 have n1_:G7 (Kd.S (Kd.slice 3 (Kd.int .i64)) 22 w41 w.heap.size (fun k_=>some k_≠(xf:Value).ownBlock) (.slice (some ca4) nv.length jn) pz):=A_ (by rw[<- hw_];exact uS_ HQ39)
 have n2_:G7 (hc_ w41 rm #[.slice ae ab.length ac, .slice (some ay5) aa.length af] 25):=A_ (by rw[<- hw_];exact(by(with_reducible repeat(first|refine Jh ?_ _|refine Ji ?_|refine Jg ?_ _));refine Jp ?_ (by have h_:=Kd.R_ne cm7.out jj.out (by decide);intro e_;exact h_ (g6_)) _;exact uB_ jj))
 have n3_:G7 (hc_ w41 ro #[.slice none 0 0, .slice none 0 0] 25):=A_ (by rw[<- hw_];exact(by(with_reducible repeat(first|refine Jh ?_ _|refine Ji ?_|refine Jg ?_ _));refine Jp ?_ (by have h_:=Kd.R_ne cm7.out k6.out (by decide);intro e_;exact h_ (g6_)) _;exact uB_ k6))
 have n4_:G7 (hc_ w41 xe #[xf, .slice (some ca4) nv.length jn] 25):=A_ (by rw[<- hw_];exact(by(with_reducible repeat(first|refine Jh ?_ _|refine Ji ?_|refine Jg ?_ _));refine Jp ?_ (by have h_:=Kd.R_ne cm7.out ol.out (by decide);intro e_;exact h_ (g6_)) _;exact uB_ ol))
 have n5_:G7 (Below w.heap.size w w41):=A_ (by rw[<- hw_];exact wv)
 clear hw_
 have vq:=n0_
 have m8:=n1_
 have jj:=n2_
 have k6:=n3_
 have ol:=n4_
 have HB:=n5_
 clear n0_ n1_ n2_ n3_ n4_ n5_
 replace vq:=rd_ vq
 replace m8:=sd_ m8
 replace jj:=bd_ jj
 replace k6:=bd_ k6
 replace ol:=bd_ ol
 replace HB:=A_ (Jd HB.out)
 have ew2:0<=(cv:Int):=od_
 have ew3:cv < (pz.length:Int):=(by have h_:(cv:Int) < ((nv.length:Int):Int):=od_;first|(have e_:=(Kd.S_reads' m8.out).1;omega)|simpa only[gb3.out,List.length_set] using h_)
 have ql249:((cv:Int) < ((nv.length:Int):Int))=True:=eq_true (od_)
 obtain⟨kh3,nk7,kh4,kh5,ew4,hy9,hz1⟩:=at_L1 (Kd.S_reads' m8.out).2.2 cv ew2 ew3
 obtain rfl:ca4=kh3:=(by injection kh5)
 obtain⟨ce249,hce249,hMe249,hcc249⟩:=Kd.S_get m8.out [] cv ew2 (by first|exact ew3|exact od_|(have e_:=(Kd.S_reads' m8.out).1;omega))
 obtain⟨ve249_0,rfl,ge249_0⟩:=hMe249
 have hv249_0:=hcc249 0 _ rfl
 rw[Nat.add_zero,show((Kd.slice 3 (Kd.int .i64))).sz=1 from rfl,Nat.mul_one] at hv249_0
 replace hv249_0:=Option.some.inj (hv249_0.symm.trans ew4)
 rw[hv249_0] at ge249_0
 have cm8:=A_ (show Kd.R (Kd.int .i64) 3 _ _ _ _ (Jm pz cv) from ge249_0)
 clear hv249_0 ge249_0
 have HX249_0:=A_ ew4
 clear hcc249 hce249
 have kh6:=A_ hz1
 have nk8:=A_ hy9
 clear hz1 hy9
 replace ew2:=eq_true ew2
 replace ew3:=eq_true ew3
 obtain⟨⟨kh7,nk9,kh8,kh9,ew5,hz2,hz3⟩,gd1,gd2⟩:=rdp_ (at_L1 bd.out cv)
 have ki0:=ew5
 obtain rfl:ay5=kh7:=(by injection kh9)
 replace ew5:=cl_ HB ew5
 have hz4:=A_ hz3
 have nl0:=A_ hz2
 clear hz3 hz2
 obtain⟨⟨hz5,ki1,ew6⟩,gd3,gd4⟩:=rdp_ (Kd.at_int hz4.out ar)
 have ki2:=ew6
 cases ki1
 replace ew6:=cl_ HB ew6
 have p35:0<=(ar:Int):=od_
 have q35:(ar:Int) < (((Jm pz cv).length:Int):Int):=od_
 obtain⟨hz6,bn,ay6,hz7,gl35,cl35,HG35⟩:=Kd.R_form cm8.out (by omega)
 (first|cases ay6|(injection ay6 with ea_ en_ ec_;(first|subst ea_|(injection ea_ with ea_;subst ea_));subst ec_;clear en_))
 have GB35:=A_ hz7
 have GG35:=A_ HG35
 clear hz7 gl35 HG35
 obtain⟨ak8,hf35_0⟩:=Kd.R_celln 0 cm8.out (ar:Int) p35 q35
 replace p35:=eq_true p35
 replace q35:=eq_true q35
 have hq43:(cv:Int) < (pz.length:Int):=(by have h_:(cv:Int) < ((nv.length:Int):Int):=od_;first|exact h_|(have e_:=(Kd.S_reads' m8.out).1;omega)|simpa only[gb3.out,List.length_set] using h_)
 obtain⟨oki43,ce43,hcl43,hM43,hcc43,hok43,hbk43⟩:=Kd.S_borrow m8.out [] (cv:Int) (od_) (by first|exact hq43|exact od_|(have e_:=(Kd.S_reads' m8.out).1;omega))
 obtain⟨ve43_0,rfl,ge43_0⟩:=hM43
 have hv43:=hcc43 0 _ rfl
 rw[Nat.add_zero,show((Kd.slice 3 (Kd.int .i64))).sz=1 from rfl,Nat.mul_one] at hv43
 replace hv43:=Option.some.inj (hv43.symm.trans HX249_0.out)
 subst hv43
 clear hcc43 hcl43
 replace ge43_0:=(show Kd.R (Kd.int .i64) 3 _ _ _ _ (Jm pz cv) from ge43_0)
 have HP43:=Kd.R_putg ge43_0 (ar:Int) (wrap64 ((rd (Jm aa cv) ar) - (ji29)))
 rw[<- kf0.out] at HP43
 have HS43:=hbk43 HP43.2 (fun k_ e_=>by injection e_ with e_;subst e_;exact ge43_0.1 _ rfl) (x':=gb6) (Kd.M_row HP43.1)
 rw[<- kf1.out] at HS43
 have HQ43:=A_ HS43
 clear HP43 HS43 hbk43 hok43
 refine start_ (n:=18) (S:=fun w'=>w'.cell? ⟨xe,0,none⟩=some (xf)/\w'.cell? ⟨xe,1,none⟩=some (.slice (some ca4) nv.length jn)/\w'.cell? ⟨rm,0,none⟩=some (.slice ae ab.length ac)/\w'.cell? ⟨rm,1,none⟩=some (.slice (some ay5) aa.length af)/\w'.cell? (ca4.add (cv).toNat)=some (.slice (some ⟨hz6,0,none⟩) (Jm pz cv).length kh4)/\w'.cell? (ay5.add (cv).toNat)=some (.slice (some hz5) (Jm aa cv).length kh8)/\w'.cell? (hz5.add (ar).toNat)=some (.int .i64 (rd (Jm aa cv) ar))) (ds:=[17]) (tl_ 18 0) (g1_) rfl (g1_) ⟨(G8 ol.out 0).trans rfl,(G8 ol.out 1).trans rfl,(G8 jj.out 0).trans rfl,(G8 jj.out 1).trans rfl,ew4,((cl_ HB ki0).trans rfl),((cl_ HB ki2).trans rfl)⟩ (fun hHeld=>?_);refine Js Fk.tab12 Fk.bits12 (fun HT_ HW_=>?_)
 generalize w41.drew=w42 at vq m8 jj k6 ol HB GG35 cm8 HQ39 HQ43 kh6 hz4 HX249_0 hf35_0 ew4 ew5 ew6 ak8 hHeld |-
 refine pw_ 0 59 (tl_ 18 1) ?_
 refine pw_ 2 61 (tl_ 18 5) ?_
 refine pw_ 5 64 (tl_ 18 37) ?_
 refine pw_ 6 65 (tl_ 18 101) ?_
 refine pw_ 8 67 (tl_ 18 357) ?_
 refine pw_ 11 70 (tl_ 18 2405) ?_
 refine pw_ 14 73 (tl_ 18 18789) ?_
 refine tk3_ 1 60 (tl_ 18 18791) hHeld ?_
 refine pw_ 3 62 (tl_ 18 18799) ?_
 refine tk3_ 4 63 (tl_ 18 18815) hHeld ?_
 refine tk3_ 7 66 (tl_ 18 18943) hHeld ?_
 refine pw_ 9 68 (tl_ 18 19455) ?_
 refine tk3_ 10 69 (tl_ 18 20479) hHeld ?_
 refine pw_ 12 71 (tl_ 18 24575) ?_
 refine tk3_ 13 72 (tl_ 18 32767) hHeld ?_
 refine pw_ 15 74 (tl_ 18 65535) ?_
 refine pw_ 16 75 (tl_ 18 131071) ?_
 refine last_ (i:=17) (N:=none) (tl_ 18 262143) rfl rfl (Ju HT_.out (g1_)) (by decide) (fun K hK=>?_)
 refine skip_ (w1:=?_) (by rfl) rfl ?_ ?_
 rotate_left
 ·go_simp
  rfl
 refine hK.out _ _ ?_
 clear hK K
 refine done_ (done_of HT_.out (g1_)) ?_
 try go_wp2
 go_roundg k2
 case measure=>have:=HK1.out;have:=HK2.out;omega
 case rel=>exact⟨(wrap64 (cv + 1)),(ay4),(hw7),(xf),(.slice (some ca4) nv.length jn),(g3_),H',⟨g40_⟩,⟨by(with_reducible repeat(first|apply Kd.R_alloc|apply Kd.R_drewN|apply Kd.R_drew));exact Kd.R_mono (Kd.R_far (p:=⟨hz6,(ar:Int).toNat,none⟩) (Kd.R_far1 vq.out rfl ((cm8.out.1 _ rfl).1)) (fun _ hk=>hk.2) (.int .i64 (wrap64 ((rd (Jm aa cv) ar) - (ji29))))) (fun _ hk=>trivial)⟩,⟨uS_ HQ43⟩,⟨by(with_reducible repeat(first|refine Jh ?_ _|refine Ji ?_|refine Jg ?_ _));refine Jp ?_ (by have h_:=Kd.R_ne cm8.out jj.out (by decide);intro e_;exact h_ (g6_)) _;exact uB_ jj⟩,⟨by(with_reducible repeat(first|refine Jh ?_ _|refine Ji ?_|refine Jg ?_ _));refine Jp ?_ (by have h_:=Kd.R_ne cm8.out k6.out (by decide);intro e_;exact h_ (g6_)) _;exact uB_ k6⟩,⟨by(with_reducible repeat(first|refine Jh ?_ _|refine Ji ?_|refine Jg ?_ _));refine Jp ?_ (by have h_:=Kd.R_ne cm8.out ol.out (by decide);intro e_;exact h_ (g6_)) _;exact uB_ ol⟩,⟨wv⟩⟩
mutual
def Fa.j0:Nat->List Int->List (List Int)->Int->Bool->List Int->List (List Int)->Option ((List (List Int)))
 | 0,_,_,_,_,_,_=>none
 | k + 1,x1,x5,x6,x31,ak9,aa5=>if x31=true then((some (([]:List Int):List Int)).bind fun ca5=>(if ca5.length + x1.length < 17592186044416 then((some (([(ca5 ++ x1)]:List (List Int)):List (List Int))).bind fun ag4=>(if x5.length + ag4.length < 5864062014805 then(Fa.j1 k x1 (x5 ++ ag4) x6 ak9 aa5) else(none))) else(none))) else(Fa.j1 k x1 x5 x6 ak9 aa5)
def Fa.j1:Nat->List Int->List (List Int)->Int->List Int->List (List Int)->Option ((List (List Int)))
 | 0,_,_,_,_,_=>none
 | k + 1,x1,x5,x6,ak9,aa5=>if 0 < (x1.length:Int) then(Fa.l0 k x1 x5 x6 (wrap64 ((rd x1 0) + 1)) ak9 aa5) else(none)
def Fa.l0:Nat->List Int->List (List Int)->Int->Int->List Int->List (List Int)->Option ((List (List Int)))
 | 0,_,_,_,_,_,_=>none
 | k + 1,x1,x5,x6,x7,ak9,aa5=>if x7 < (ak9.length:Int) then(if 0<=x6 then(if x6 < (aa5.length:Int) then(if 0<=x7 then(if x7 < ((Jm aa5 x6).length:Int) then(if (rd (Jm aa5 x6) x7)=0 then(Fa.l0 k x1 x5 x6 (wrap64 (x7 + 1)) ak9 aa5) else(Fa.l1 k x1 x5 x6 x7 0 ak9 aa5)) else(none)) else(none)) else(none)) else(none)) else(some x5)
def Fa.l1:Nat->List Int->List (List Int)->Int->Int->Int->List Int->List (List Int)->Option ((List (List Int)))
 | 0,_,_,_,_,_,_,_=>none
 | k + 1,x1,x5,x6,x7,x8,ak9,aa5=>if x8 < (x1.length:Int) then(if 0<=x8 then(if (rd x1 x8)=x7 then(Fa.l0 k x1 x5 x6 (wrap64 (x7 + 1)) ak9 aa5) else(Fa.l1 k x1 x5 x6 x7 (wrap64 (x8 + 1)) ak9 aa5)) else(none)) else((some (([]:List Int):List Int)).bind fun bn9=>(if bn9.length + x1.length < 17592186044416 then((some (bn9 ++ x1:List Int)).bind fun ag5=>((some (([x7]:List Int):List Int)).bind fun rp=>(if ag5.length + rp.length < 17592186044416 then((Fa.f k ak9 aa5 (ag5 ++ rp)).bind fun vr=>(if x5.length + vr.length < 5864062014805 then(Fa.l0 k x1 (x5 ++ vr) x6 (wrap64 (x7 + 1)) ak9 aa5) else(none))) else(none)))) else(none)))
def Fa.f:Nat->List Int->List (List Int)->List Int->Option ((List (List Int)))
 | 0,_,_,_=>none
 | k + 1,ab,aa,l1=>(some (([]:List (List Int)):List (List Int))).bind fun rq=>(if 0<=(wrap64 ((l1.length:Int) - 1)) then(if (wrap64 ((l1.length:Int) - 1)) < (l1.length:Int) then(if (l1.length:Int) > 1 then(if 0<=(rd l1 (wrap64 ((l1.length:Int) - 1))) then(if (rd l1 (wrap64 ((l1.length:Int) - 1))) < (aa.length:Int) then(if 0 < (l1.length:Int) then(if 0<=(rd l1 0) then(if (rd l1 0) < ((Jm aa (rd l1 (wrap64 ((l1.length:Int) - 1)))).length:Int) then(Fa.j0 k l1 rq (rd l1 (wrap64 ((l1.length:Int) - 1))) (decide ((rd (Jm aa (rd l1 (wrap64 ((l1.length:Int) - 1)))) (rd l1 0)) > 0)) ab aa) else(none)) else(none)) else(none)) else(none)) else(none)) else(Fa.j0 k l1 rq (rd l1 (wrap64 ((l1.length:Int) - 1))) false ab aa)) else(none)) else(none))
end
def Fa.T3:Bool × List (List Nat × List Nat):=(true,[([],[]),([0],[0]),([1],[1]),([2],[2]),([3],[3]),([4,3],[3,4]),([3],[3]),([5,6,3],[3,5,6]),([7,3],[3,7]),([3],[3]),([9,3],[3,9]),([10,3],[3,10]),([8,11,3],[3,8,11]),([12,3],[3,12]),([13,3],[3,13]),([3,14],[3,14])])
def Fa.B3:List Nat:=[0,1,3,7,15,31,15,127,255,15,527,1551,4095,8191,16383,32767]
theorem Fa.tab3:rtab .any (opsOf Try.f113 3)=Fa.T3:=by kernel_rfl
theorem Fa.bits3:waitsOk Fa.T3.2 Fa.B3=true:=by kernel_rfl
def Fa.T13:Bool × List (List Nat × List Nat):=(true,[([],[]),([],[]),([],[]),([],[]),([2,3],[2,3]),([],[]),([5],[5]),([4,6,4],[4,6]),([1,7,7],[1,7]),([0,8,8],[0,8]),([9,9,0,1,2,3,4,5,6,7,8,9],[0,9])])
def Fa.B13:List Nat:=[0,0,0,0,12,0,32,124,254,511,1023]
theorem Fa.tab13:rtab .any (opsOf Try.f113 13)=Fa.T13:=by kernel_rfl
theorem Fa.bits13:waitsOk Fa.T13.2 Fa.B13=true:=by kernel_rfl
theorem ez {p:Prop} (h:p:=by repeat(first|(with_reducible first|exact HB.out|apply Jf|apply Je|apply Jd|refine Jc ?_ ia8.out)|exact HB.out)):p:=h
theorem Fa.calls.z0 {p:Prop} (h:p:=by exact norm_ (g14_) (hCont (cb4,bg4,al3) _ ⟨hHeld,(uR_ aq1),(uR_ qk),(yN_ fr (fun _ hk=>⟨hk.1.1,⟨hk.2,⟨hk.1.2.1,hk.1.2.2⟩⟩⟩)),(uB_ cn),(ez)⟩)):p:=h
set_option maxHeartbeats 8000000 in
set_option maxRecDepth 100000 in
theorem Fa.calls (k:Nat):∀(ae:Option Addr) (ac:Nat) (ab:List Int) (ag:Option Addr) (af:Nat) (aa:List (List Int)) (A1:Option Addr) (c1:Nat) (l1:List Int) (r:List (List Int)) (w:World) (ca:Kd.C (Kd.int .i64) w ae ab.length ab) (ce:ab.length<=ac) (cb:Kd.C (Kd.slice 3 (Kd.int .i64)) w ag aa.length aa) (cg:aa.length<=af) (il:Kd.C (Kd.int .i64) w A1 l1.length l1) (iu:l1.length<=c1) (h:Fa.f k ab aa l1=some r),
  Calls Try.prog 113 #[.agg #[.slice ae ab.length ac, .slice ag aa.length af], .slice A1 l1.length c1] w fun e w'=>∃v0_:Value,e = .returned (v0_)/\Kd.N (Kd.slice 3 (Kd.int .i64)) 22 w' w.heap.size (fun k_=>(w.heap.size<=k_)) v0_ r/\Below w.heap.size w w':=by
 induction k using Nat.strongRecOn with
 | _ k ih=>
 intro ae ac ab ag af aa A1 c1 l1 r w ca ce cb cg il iu h
 cases k with
 | zero=>exact absurd h (by simp[Fa.f])
 | succ k=>
 simp only[Fa.f] at h
 have hu25:=Try.underlying25
 have bg:=A_ ca
 have bs:=A_ ce
 clear ca ce
 have bd:=A_ cb
 have bv:=A_ cg
 clear cb cg
 have fq:=A_ il
 have pb:=A_ iu
 clear il iu
 have HB:=A_ (Below.refl w.heap.size w)
 have H:=h
 unfold Fa.f at H
 clear h
 obtain⟨rq,hyq⟩:∃y_:List (List Int),y_=(([]:List (List Int))):=⟨_,rfl⟩
 replace H:(if 0<=(wrap64 ((l1.length:Int) - 1)) then(if (wrap64 ((l1.length:Int) - 1)) < (l1.length:Int) then(if (l1.length:Int) > 1 then(if 0<=(rd l1 (wrap64 ((l1.length:Int) - 1))) then(if (rd l1 (wrap64 ((l1.length:Int) - 1))) < (aa.length:Int) then(if 0 < (l1.length:Int) then(if 0<=(rd l1 0) then(if (rd l1 0) < ((Jm aa (rd l1 (wrap64 ((l1.length:Int) - 1)))).length:Int) then(Fa.j0 k l1 rq (rd l1 (wrap64 ((l1.length:Int) - 1))) (decide ((rd (Jm aa (rd l1 (wrap64 ((l1.length:Int) - 1)))) (rd l1 0)) > 0)) ab aa) else(none)) else(none)) else(none)) else(none)) else(none)) else(Fa.j0 k l1 rq (rd l1 (wrap64 ((l1.length:Int) - 1))) false ab aa)) else(none)) else(none))=some r:=qh_
 have ex1:=A_ hyq
 clear hyq
 obtain⟨ji3,hji3⟩:∃j_:Int,(wrap64 ((l1.length:Int) - 1))=j_:=⟨_,rfl⟩
 first|rw[hji3] at H|simp only[hji3] at H
 have hji3w:(IntKind.i64.wrap ((l1.length:Int) - 1))=ji3:=(i64_w _).trans hji3
 obtain⟨ib,H⟩:=pd_ H
 obtain⟨ki,H⟩:=pd_ H
 have HC6:=A_ H
 clear H
 go_enter Try.func113,Try.ntmps113
 go_upto_region 3 with(first|((with_reducible refine gd_ 2 ?_);refine bx_ (N:=2) #[.slice ae ab.length ac, .slice ag aa.length af] 25 ?_;intro e9 hg w7 hbox hb;have cn:=A_ (hbox);have ki5:=A_ ((g99_:w.heap.size<=e9));have ia8:=ki5;replace HB:=hs_ (ez) hb;clear hb hbox hg)|((with_reducible refine gd_ 9 ?_);refine Kd.N_lit (Kd.slice 3 (Kd.int .i64)) _ 22 ?hg (N':=9) ?hd (xs:=([]:List (List Int))) (inner:=[]) (ok:=(fun k_=>(w.heap.size<=k_)/\k_≠e9)) (okp:=(fun k_=>(w.heap.size<=k_)/\k_≠e9)) ?hr ?hp (fun _ hk=>hk) ((show ∀k_,w7.heap.size<=k_->(fun k_=>(w.heap.size<=k_)/\k_≠e9) k_ from fun k_ hk=>⟨(Nat.le_trans (G9 (ez)) hk),Kd.freshB (g:=e9) (o:=.cells #[.slice ae ab.length ac, .slice ag aa.length af] 25 (0,0)) (uB_ cn) k_ hk⟩) _ (Nat.le_refl _)) (Below.refl _ _) (Nat.le_refl _) (by simp) ?_;(case hd=>rfl);(case hg=>rfl);(case hr=>first|(go_simp;done)|(go_simp;rfl));(case hp=>exact(Reps.none _ _));intro vs w8 ho9 hb hg_ hnew_;clear hg_ hnew_;(first|rw[<- ex1.out] at ho9|(simp only[Int.reduceToNat] at ho9;rw[<- ex1.out] at ho9));have bo0:=A_ (Kd.N_lower ho9 (G9 (ez)));replace cn:=bb_ cn hb;replace HB:=hs_ (ez) hb;clear hb ho9;have ay7:0<=((ji3):Int):=od_;have ay8:(ji3) < (l1.length:Int):=od_;obtain⟨dc8,ge2,bo1⟩:=Kd.at_int fq.out (ji3) ay7 ay8;cases ge2;replace bo1:=cl_ HB bo1;replace ay7:=eq_true ay7;replace ay8:=eq_true ay8));(repeat((first|go_step3|rw[Exit.noGoto_normal]|rw[Exit.noGoto_exit]|rw[Exit.noGoto_ret]);go_upto_region 3 with(first|((with_reducible refine gd_ 2 ?_);refine bx_ (N:=2) #[.slice ae ab.length ac, .slice ag aa.length af] 25 ?_;intro e9 hg w7 hbox hb;have cn:=A_ (hbox);have ki5:=A_ ((g99_:w.heap.size<=e9));have ia8:=ki5;replace HB:=hs_ (ez) hb;clear hb hbox hg)|((with_reducible refine gd_ 9 ?_);refine Kd.N_lit (Kd.slice 3 (Kd.int .i64)) _ 22 ?hg (N':=9) ?hd (xs:=([]:List (List Int))) (inner:=[]) (ok:=(fun k_=>(w.heap.size<=k_)/\k_≠e9)) (okp:=(fun k_=>(w.heap.size<=k_)/\k_≠e9)) ?hr ?hp (fun _ hk=>hk) ((show ∀k_,w7.heap.size<=k_->(fun k_=>(w.heap.size<=k_)/\k_≠e9) k_ from fun k_ hk=>⟨(Nat.le_trans (G9 (ez)) hk),Kd.freshB (g:=e9) (o:=.cells #[.slice ae ab.length ac, .slice ag aa.length af] 25 (0,0)) (uB_ cn) k_ hk⟩) _ (Nat.le_refl _)) (Below.refl _ _) (Nat.le_refl _) (by simp) ?_;(case hd=>rfl);(case hg=>rfl);(case hr=>first|(go_simp;done)|(go_simp;rfl));(case hp=>exact(Reps.none _ _));intro vs w8 ho9 hb hg_ hnew_;clear hg_ hnew_;(first|rw[<- ex1.out] at ho9|(simp only[Int.reduceToNat] at ho9;rw[<- ex1.out] at ho9));have bo0:=A_ (Kd.N_lower ho9 (G9 (ez)));replace cn:=bb_ cn hb;replace HB:=hs_ (ez) hb;clear hb ho9;have ay7:0<=((ji3):Int):=od_;have ay8:(ji3) < (l1.length:Int):=od_;obtain⟨dc8,ge2,bo1⟩:=Kd.at_int fq.out (ji3) ay7 ay8;cases ge2;replace bo1:=cl_ HB bo1;replace ay7:=eq_true ay7;replace ay8:=eq_true ay8))))
 (try simp only[Act.put,List.setIfInBounds_toArray,List.set_cons_zero,List.set_cons_succ])
 go_cut [31] (fun v31 wc=>∃(kq:Nat) (ex2:Bool),v31 = .bool ex2/\G7 (Fa.j0 kq l1 rq (rd l1 (ji3)) ex2 ab aa=some r)/\G7 (kq<=k)/\G7 (Kd.N (Kd.slice 3 (Kd.int .i64)) 22 wc w.heap.size (fun k_=>(w.heap.size<=k_)/\k_≠e9) vs rq)/\G7 (hc_ wc e9 #[(.slice ae ab.length ac),(.slice ag aa.length af)] 25)/\G7 (Below w.heap.size w wc))
 case first=>
  have H:=HC6.out
  clear HC6
  by_cases iv:(l1.length:Int) > 1
  case neg=>
   rw[if_neg iv] at H
   have aa6:=decide_eq_false iv
   have cm9:decide (1 < l1.length)=false:=decide_eq_false (by omega)
   clear iv
   (first|rw[aa6]|(simp only[i64_w,i32_w];rw[aa6])|skip)
   have H':=A_ H
   clear H
   try go_wp2
   replace bo0:=nd_ bo0
   replace cn:=bd_ cn
   replace HB:=A_ (Jd HB.out)
   refine start_ (n:=16) (S:=fun w'=>True) (ds:=[]) (tl_ 16 0) (g1_) rfl (g1_) trivial (fun hHeld=>?_);refine Js Fa.tab3 Fa.bits3 (fun HT_ HW_=>?_)
   generalize w8.drew=zu at bo0 cn HB hHeld |-
   refine pw_ 0 16 (tl_ 16 1) ?_
   refine pw_ 1 17 (tl_ 16 3) ?_
   refine pw_ 2 18 (tl_ 16 7) ?_
   refine pw_ 3 19 (tl_ 16 15) ?_
   refine pu_ 4 20 (tl_ 16 31) ?_
   refine pu_ 5 21 (tl_ 16 63) ?_
   refine pu_ 6 22 (tl_ 16 127) ?_
   refine pu_ 7 23 (tl_ 16 255) ?_
   refine pu_ 8 24 (tl_ 16 511) ?_
   refine pu_ 9 25 (tl_ 16 1023) ?_
   refine pu_ 10 26 (tl_ 16 2047) ?_
   refine pu_ 11 27 (tl_ 16 4095) ?_
   refine pu_ 12 28 (tl_ 16 8191) ?_
   refine pu_ 13 29 (tl_ 16 16383) ?_
   refine pu_ 14 30 (tl_ 16 32767) ?_
   refine pw_ 15 31 (tl_ 16 65535) ?_
   refine done_ (done_of HT_.out (g1_)) ?_
   try go_wp2
   go_meet
   case rel=>exact⟨_,(false),(g3_),H',⟨g9_⟩,⟨uN_ bo0⟩,⟨uB_ cn⟩,⟨ez⟩⟩
  rw[if_pos iv] at H
  have aa6:=decide_eq_true iv
  have cm9:decide (1 < l1.length)=true:=decide_eq_true (by omega)
  clear iv
  (first|rw[aa6]|(simp only[i64_w,i32_w];rw[aa6])|skip)
  obtain⟨cn0,H⟩:=pd_ H
  obtain⟨ap3,H⟩:=pd_ H
  obtain⟨yo,H⟩:=pos_ H
  have dz6:=decide_eq_true yo
  have ex3:decide (0 < l1.length)=true:=decide_eq_true (by omega)
  clear yo
  obtain⟨ap7,H⟩:=pd_ H
  obtain⟨pc,H⟩:=pd_ H
  have H':=A_ H
  clear H
  try go_wp2
  replace bo0:=nd_ bo0
  replace cn:=bd_ cn
  replace HB:=A_ (Jd HB.out)
  obtain⟨⟨ia9,nl1,ki6,ki7,ca6,ib0,ib1⟩,cn1,cn2⟩:=rdp_ (at_L1 bd.out (rd l1 (ji3)))
  have ki8:=ca6
  cases ki7
  replace ca6:=cl_ HB ca6
  have ib2:=A_ ib1
  have nl2:=A_ ib0
  clear ib1 ib0
  have cn3:0<=(0:Int):=(by omega)
  have cn4:0 < (l1.length:Int):=od_
  obtain⟨ki9,kj0,bg2⟩:=Kd.at_int fq.out 0 cn3 cn4
  have ex4:=bg2
  (try rw[show((0:Int)).toNat=0 from rfl] at ex4)
  (try rw[show 0 * 1=0 from rfl] at ex4)
  (try rw[Addr.add_zero'] at ex4)
  obtain rfl:dc8=ki9:=(by injection kj0)
  have qi261:(0 < l1.length)=True:=eq_true (by omega)
  (try rw[show((0:Int)).toNat=0 from rfl] at bg2)
  (try rw[Addr.add_zero'] at bg2)
  replace bg2:=cl_ HB bg2
  replace cn3:=eq_true cn3
  replace cn4:=eq_true cn4
  obtain⟨⟨ib3,kj4,ca7⟩,cn5,cn6⟩:=rdp_ (Kd.at_int ib2.out (rd l1 0))
  have kj6:=ca7
  cases kj4
  replace ca7:=cl_ HB ca7
  refine start_ (n:=16) (S:=fun w'=>w'.cell? ⟨e9,0,none⟩=some (.slice ae ab.length ac)/\w'.cell? ⟨e9,1,none⟩=some (.slice (some ia9) aa.length af)/\w'.cell? (ia9.add ((rd l1 (ji3))).toNat)=some (.slice (some ib3) (Jm aa (rd l1 (ji3))).length ki6)/\w'.cell? dc8=some (.int .i64 (rd l1 0))/\w'.cell? (ib3.add ((rd l1 0)).toNat)=some (.int .i64 (rd (Jm aa (rd l1 (ji3))) (rd l1 0)))) (ds:=[]) (tl_ 16 0) (g1_) rfl (g1_) ⟨(G8 cn.out 0).trans rfl,(G8 cn.out 1).trans rfl,((cl_ HB ki8).trans rfl),((cl_ HB ex4).trans rfl),((cl_ HB kj6).trans rfl)⟩ (fun hHeld=>?_);refine Js Fa.tab3 Fa.bits3 (fun HT_ HW_=>?_)
  generalize w8.drew=pu at bo0 cn HB ib2 ca6 bg2 ca7 hHeld |-
  refine pw_ 0 16 (tl_ 16 1) ?_
  refine pw_ 1 17 (tl_ 16 3) ?_
  refine pw_ 2 18 (tl_ 16 7) ?_
  refine pw_ 3 19 (tl_ 16 15) ?_
  refine pw_ 4 20 (tl_ 16 31) ?_
  refine pw_ 6 22 (tl_ 16 95) ?_
  refine pw_ 9 25 (tl_ 16 607) ?_
  refine pw_ 10 26 (tl_ 16 1631) ?_
  refine tk4_ 5 21 (tl_ 16 1663) hHeld ?_
  refine pw_ 7 23 (tl_ 16 1791) ?_
  refine tk4_ 8 24 (tl_ 16 2047) hHeld ?_
  refine tk4_ 11 27 (tl_ 16 4095) hHeld ?_
  refine pw_ 12 28 (tl_ 16 8191) ?_
  refine tk4_ 13 29 (tl_ 16 16383) hHeld ?_
  refine pw_ 14 30 (tl_ 16 32767) ?_
  refine pw_ 15 31 (tl_ 16 65535) ?_
  refine done_ (done_of HT_.out (g1_)) ?_
  try go_wp2
  go_meet
  case rel=>exact⟨_,(decide ((rd (Jm aa (rd l1 (ji3))) (rd l1 0)) > 0)),(by first|rfl|(simp;done)|(simp only[<- hji3] <;> (first|rfl|simp))|(simp[*];done)),H',⟨g9_⟩,⟨uN_ bo0⟩,⟨uB_ cn⟩,⟨ez⟩⟩
 clear HC6
 obtain⟨kq,ex2,rfl,HA,HJ5,fr,cn,HB⟩:=hcut
 cases kq with
 | zero=>exact absurd HA.out (by simp[Fa.j0])
 | succ kj5=>?_
 have H:=HA.out
 clear HA
 simp only[Fa.j0] at H
 have ge3:=A_ H
 clear H
 go_upto_if 31 with(fail)
 go_cut [5] (fun v5 wc=>∃(kq:Nat) (ex5:List (List Int)),G7 (Fa.j1 kq l1 ex5 (rd l1 (ji3)) ab aa=some r)/\G7 (kq<=kj5)/\G7 (Kd.N (Kd.slice 3 (Kd.int .i64)) 22 wc w.heap.size (fun k_=>(w.heap.size<=k_)/\k_≠e9) v5 ex5)/\G7 (hc_ wc e9 #[(.slice ae ab.length ac),(.slice ag aa.length af)] 25)/\G7 (Below w.heap.size w wc))
 case first=>
  have H:=ge3.out
  clear ge3
  by_cases fc:ex2=true
  case neg=>
   replace fc:=Bool.eq_false_iff.mpr fc
   subst fc
   replace H:=ifn_ H
   have H':=A_ H
   clear H
   go_wp2;(repeat((first|go_step3|rw[Exit.noGoto_normal]|rw[Exit.noGoto_exit]|rw[Exit.noGoto_ret]);go_wp2))
   go_meet
   case rel=>exact⟨_,(rq),H',⟨by have:=HJ5.out;first|omega|exact Nat.le_refl _⟩,⟨uN_ fr⟩,⟨uB_ cn⟩,⟨ez⟩⟩
  subst fc
  replace H:=ifp_ H
  obtain⟨ca5,hyq⟩:∃y_:List Int,y_=(([]:List Int)):=⟨_,rfl⟩
  replace H:(if ca5.length + l1.length < 17592186044416 then((some (([(ca5 ++ l1)]:List (List Int)):List (List Int))).bind fun ag4=>(if rq.length + ag4.length < 5864062014805 then(Fa.j1 kj5 l1 (rq ++ ag4) (rd l1 (ji3)) ab aa) else(none))) else(none))=some r:=qh_
  have ex6:=A_ hyq
  clear hyq
  obtain⟨o0,H⟩:=pos_ H
  have ex7:=A_ o0
  clear o0
  obtain⟨bg3,hyq⟩:∃y_:List Int,y_=(ca5 ++ l1):=⟨_,rfl⟩
  replace H:((some (([bg3]:List (List Int)):List (List Int))).bind fun ag4=>(if rq.length + ag4.length < 5864062014805 then(Fa.j1 kj5 l1 (rq ++ ag4) (rd l1 (ji3)) ab aa) else(none)))=some r:=qh_
  have ib4:=A_ hyq
  clear hyq
  obtain⟨ag4,hyq⟩:∃y_:List (List Int),y_=(([bg3]:List (List Int))):=⟨_,rfl⟩
  replace H:(if rq.length + ag4.length < 5864062014805 then(Fa.j1 kj5 l1 (rq ++ ag4) (rd l1 (ji3)) ab aa) else(none))=some r:=qh_
  have ex8:=A_ hyq
  clear hyq
  obtain⟨pd,H⟩:=pos_ H
  have ib5:=A_ pd
  clear pd
  obtain⟨ib6,hyq⟩:∃y_:List (List Int),y_=(rq ++ ag4):=⟨_,rfl⟩
  replace H:(Fa.j1 kj5 l1 ib6 (rd l1 (ji3)) ab aa)=some r:=qh_
  have ib7:=A_ hyq
  clear hyq
  have H':=A_ H
  clear H
  go_wp2_with (first|((with_reducible refine gd_ 33 ?_);refine rle_ 33 [] ?_;intro ge4 uj sv hb hg_ hnew_;clear hg_ hnew_;(first|rw[<- ex6.out] at sv|(simp only[Int.reduceToNat] at sv;rw[<- ex6.out] at sv));replace fr:=A_ (Kd.N_elder' (uN_ fr) (Kd.R_base sv) hb);have cn7:=A_ (Kd.R_lower (Kd.R_newM (M:=fun k_=>(w.heap.size<=k_)) sv (G9 (ez)) (fun k_ h_=>h_)) (G9 (ez)));replace cn:=bb_ cn hb;replace HB:=hs_ (ez) hb;clear hb sv)|((with_reducible refine gate_builtin (b:=.append) (xs:=#[.tmp 33, .tmp 34]) rfl ?_);at_builtin;refine Kd.R_append_rows (Kd.int .i64) (w0:=w) w.heap.size rfl (.tmp 33) (.tmp 34) 22 3 (.int .i64 0) 8 rfl Try.underlying22 info3 rfl (by decide) (by omega) ge4 ca5 l1 _ _ _ (fun k_=>(w.heap.size<=k_)) (fun _=>False) rfl rfl ?aO ?aR (fun _ _ h=>h) (fun _ h=>h.elim) ?aF ?aB ?aS ?aL ?_;(case aR=>exact uC_ fq);(case aB=>exact(ez));(case aF=>exact(fun k_ hk=>(Nat.le_trans (G9 (ez)) hk)));(case aO=>exact(yR_ cn7 (fun _ hk=>hk.1)));(case aS=>exact(G9 (ez)));(case aL=>have:=ex7.out;omega);intro kj7 w24 ho hb hg hat;rw[<- ib4.out] at ho;replace fr:=A_ (Kd.N_afterv (ok:=(fun k_=>(w.heap.size<=k_)/\k_≠e9)) (uN_ fr) hg hat);replace cn:=(bg_ cn hg (Kd.R_ne cn7.out cn.out (by decide)));replace HB:=A_ (hb);have bo2:=A_ (ho);clear cn7;clear ho hb hg hat;obtain⟨bf8,bf9,bn3⟩:=Kd.R_slice bo2.out;subst bn3)|((with_reducible refine gd_ 36 ?_);refine Kd.N_lit (Kd.slice 3 (Kd.int .i64)) _ 22 ?hg (N':=36) ?hd (xs:=([bg3]:List (List Int))) (inner:=[.slice bf8 bg3.length bf9]) (ok:=(fun k_=>(w.heap.size<=k_)/\some k_≠(vs:Value).ownBlock/\k_≠e9)) (okp:=(fun k_=>(w.heap.size<=k_)/\some k_≠(vs:Value).ownBlock/\k_≠e9)) ?hr ?hp (fun _ hk=>hk) ((show ∀k_,w24.heap.size<=k_->(fun k_=>(w.heap.size<=k_)/\some k_≠(vs:Value).ownBlock/\k_≠e9) k_ from fun k_ hk=>⟨(Nat.le_trans (G9 (ez)) hk),Kd.fresh' (Kd.N_lt (uN_ fr)) k_ hk,Kd.freshB (g:=e9) (o:=.cells #[.slice ae ab.length ac, .slice ag aa.length af] 25 (0,0)) (uB_ cn) k_ hk⟩) _ (Nat.le_refl _)) (Below.refl _ _) (Nat.le_refl _) (by simp) ?_;(case hd=>rfl);(case hg=>rfl);(case hr=>first|(go_simp;done)|(go_simp;rfl));(case hp=>exact(Reps.one (show Kd.FK (Kd.slice 3 (Kd.int .i64)) _ _ bg3 [.slice bf8 bg3.length bf9] from(Kd.FK_slice_mk (Kd.R_reads' (Kd.R_mono (ok':=(fun k_=>(w.heap.size<=k_)/\some k_≠(vs:Value).ownBlock/\k_≠e9)) (Kd.R_types (Kd.R_apart' (bo2.out) (Kd.N_typed fr.out) (by decide)) cn.out (by decide)) (fun k_ hk=>⟨hk.1.1,⟨hk.1.2,hk.2⟩⟩))).2.1 (Kd.R_F (Kd.R_mono (ok':=(fun k_=>(w.heap.size<=k_)/\some k_≠(vs:Value).ownBlock/\k_≠e9)) (Kd.R_types (Kd.R_apart' (bo2.out) (Kd.N_typed fr.out) (by decide)) cn.out (by decide)) (fun k_ hk=>⟨hk.1.1,⟨hk.1.2,hk.2⟩⟩))))) (Reps.none _ _)));intro kj8 w26 al0 hb hg_ hnew_;clear hg_ hnew_;(first|rw[<- ex8.out] at al0|(simp only[Int.reduceToNat] at al0;rw[<- ex8.out] at al0));replace fr:=A_ (Kd.N_elder' (uN_ fr) (Kd.N_base al0) hb);have bo3:=A_ (Kd.N_lower al0 (G9 (ez)));replace cn:=bb_ cn hb;replace HB:=hs_ (ez) hb;clear bo2;clear hb al0;obtain⟨dc9,ca8,ay9⟩:=Kd.N_slice bo3.out;subst ay9)|((with_reducible refine gate_builtin (b:=.append) (xs:=#[.tmp 32, .tmp 36]) rfl ?_);at_builtin;refine Kd.N_append_rows (Kd.slice 3 (Kd.int .i64)) (w0:=w) w.heap.size rfl (.tmp 32) (.tmp 36) 23 22 (.slice none 0 0) 24 rfl Try.underlying23 info22 rfl (by decide) (by omega) vs rq ag4 _ _ _ (fun k_=>(w.heap.size<=k_)/\k_≠e9) (fun k_=>((fun k_=>(w.heap.size<=k_)/\k_≠e9)) k_/\some k_≠(vs:Value).ownBlock) rfl rfl ?aO ?aR (fun _ hk=>hk) ?aF ?aB ?aS ?aL ?_;(case aR=>exact(by skip;exact Kd.N_F (Kd.N_mono (ok':=(fun k_=>((fun k_=>(w.heap.size<=k_)/\k_≠e9)) k_/\some k_≠(vs:Value).ownBlock)) (bo3.out) (fun k_ hk=>⟨⟨hk.1,hk.2.2⟩,hk.2.1⟩))));(case aB=>exact(ez));(case aF=>exact(fun k_ hk=>⟨(Nat.le_trans (G9 (ez)) hk),Kd.freshB (g:=e9) (o:=.cells #[.slice ae ab.length ac, .slice ag aa.length af] 25 (0,0)) (uB_ cn) k_ hk⟩));(case aO=>exact(yN_ fr (fun _ hk=>⟨hk.1.1.1,hk.1.1.2⟩)));(case aS=>exact(G9 (ez)));(case aL=>have:=ib5.out;omega);intro kk0 w28 ho hb hg hat;rw[<- ib7.out] at ho;replace cn:=(bg_ cn hg (Kd.N_ne fr.out cn.out (by decide)));replace bo3:=A_ (Kd.N_afterv (ok:=(fun k_=>(w.heap.size<=k_)/\k_≠e9)) (yN_ bo3 (fun _ hk=>⟨⟨hk.1,hk.2.2⟩,hk.2.1⟩)) hg hat);replace HB:=A_ (hb);have ib8:=A_ (ho);clear fr;clear ho hb hg hat));(repeat((first|go_step3|rw[Exit.noGoto_normal]|rw[Exit.noGoto_exit]|rw[Exit.noGoto_ret]);go_wp2_with (first|((with_reducible refine gd_ 33 ?_);refine rle_ 33 [] ?_;intro ge4 uj sv hb hg_ hnew_;clear hg_ hnew_;(first|rw[<- ex6.out] at sv|(simp only[Int.reduceToNat] at sv;rw[<- ex6.out] at sv));replace fr:=A_ (Kd.N_elder' (uN_ fr) (Kd.R_base sv) hb);have cn7:=A_ (Kd.R_lower (Kd.R_newM (M:=fun k_=>(w.heap.size<=k_)) sv (G9 (ez)) (fun k_ h_=>h_)) (G9 (ez)));replace cn:=bb_ cn hb;replace HB:=hs_ (ez) hb;clear hb sv)|((with_reducible refine gate_builtin (b:=.append) (xs:=#[.tmp 33, .tmp 34]) rfl ?_);at_builtin;refine Kd.R_append_rows (Kd.int .i64) (w0:=w) w.heap.size rfl (.tmp 33) (.tmp 34) 22 3 (.int .i64 0) 8 rfl Try.underlying22 info3 rfl (by decide) (by omega) ge4 ca5 l1 _ _ _ (fun k_=>(w.heap.size<=k_)) (fun _=>False) rfl rfl ?aO ?aR (fun _ _ h=>h) (fun _ h=>h.elim) ?aF ?aB ?aS ?aL ?_;(case aR=>exact uC_ fq);(case aB=>exact(ez));(case aF=>exact(fun k_ hk=>(Nat.le_trans (G9 (ez)) hk)));(case aO=>exact(yR_ cn7 (fun _ hk=>hk.1)));(case aS=>exact(G9 (ez)));(case aL=>have:=ex7.out;omega);intro kj7 w24 ho hb hg hat;rw[<- ib4.out] at ho;replace fr:=A_ (Kd.N_afterv (ok:=(fun k_=>(w.heap.size<=k_)/\k_≠e9)) (uN_ fr) hg hat);replace cn:=(bg_ cn hg (Kd.R_ne cn7.out cn.out (by decide)));replace HB:=A_ (hb);have bo2:=A_ (ho);clear cn7;clear ho hb hg hat;obtain⟨bf8,bf9,bn3⟩:=Kd.R_slice bo2.out;subst bn3)|((with_reducible refine gd_ 36 ?_);refine Kd.N_lit (Kd.slice 3 (Kd.int .i64)) _ 22 ?hg (N':=36) ?hd (xs:=([bg3]:List (List Int))) (inner:=[.slice bf8 bg3.length bf9]) (ok:=(fun k_=>(w.heap.size<=k_)/\some k_≠(vs:Value).ownBlock/\k_≠e9)) (okp:=(fun k_=>(w.heap.size<=k_)/\some k_≠(vs:Value).ownBlock/\k_≠e9)) ?hr ?hp (fun _ hk=>hk) ((show ∀k_,w24.heap.size<=k_->(fun k_=>(w.heap.size<=k_)/\some k_≠(vs:Value).ownBlock/\k_≠e9) k_ from fun k_ hk=>⟨(Nat.le_trans (G9 (ez)) hk),Kd.fresh' (Kd.N_lt (uN_ fr)) k_ hk,Kd.freshB (g:=e9) (o:=.cells #[.slice ae ab.length ac, .slice ag aa.length af] 25 (0,0)) (uB_ cn) k_ hk⟩) _ (Nat.le_refl _)) (Below.refl _ _) (Nat.le_refl _) (by simp) ?_;(case hd=>rfl);(case hg=>rfl);(case hr=>first|(go_simp;done)|(go_simp;rfl));(case hp=>exact(Reps.one (show Kd.FK (Kd.slice 3 (Kd.int .i64)) _ _ bg3 [.slice bf8 bg3.length bf9] from(Kd.FK_slice_mk (Kd.R_reads' (Kd.R_mono (ok':=(fun k_=>(w.heap.size<=k_)/\some k_≠(vs:Value).ownBlock/\k_≠e9)) (Kd.R_types (Kd.R_apart' (bo2.out) (Kd.N_typed fr.out) (by decide)) cn.out (by decide)) (fun k_ hk=>⟨hk.1.1,⟨hk.1.2,hk.2⟩⟩))).2.1 (Kd.R_F (Kd.R_mono (ok':=(fun k_=>(w.heap.size<=k_)/\some k_≠(vs:Value).ownBlock/\k_≠e9)) (Kd.R_types (Kd.R_apart' (bo2.out) (Kd.N_typed fr.out) (by decide)) cn.out (by decide)) (fun k_ hk=>⟨hk.1.1,⟨hk.1.2,hk.2⟩⟩))))) (Reps.none _ _)));intro kj8 w26 al0 hb hg_ hnew_;clear hg_ hnew_;(first|rw[<- ex8.out] at al0|(simp only[Int.reduceToNat] at al0;rw[<- ex8.out] at al0));replace fr:=A_ (Kd.N_elder' (uN_ fr) (Kd.N_base al0) hb);have bo3:=A_ (Kd.N_lower al0 (G9 (ez)));replace cn:=bb_ cn hb;replace HB:=hs_ (ez) hb;clear bo2;clear hb al0;obtain⟨dc9,ca8,ay9⟩:=Kd.N_slice bo3.out;subst ay9)|((with_reducible refine gate_builtin (b:=.append) (xs:=#[.tmp 32, .tmp 36]) rfl ?_);at_builtin;refine Kd.N_append_rows (Kd.slice 3 (Kd.int .i64)) (w0:=w) w.heap.size rfl (.tmp 32) (.tmp 36) 23 22 (.slice none 0 0) 24 rfl Try.underlying23 info22 rfl (by decide) (by omega) vs rq ag4 _ _ _ (fun k_=>(w.heap.size<=k_)/\k_≠e9) (fun k_=>((fun k_=>(w.heap.size<=k_)/\k_≠e9)) k_/\some k_≠(vs:Value).ownBlock) rfl rfl ?aO ?aR (fun _ hk=>hk) ?aF ?aB ?aS ?aL ?_;(case aR=>exact(by skip;exact Kd.N_F (Kd.N_mono (ok':=(fun k_=>((fun k_=>(w.heap.size<=k_)/\k_≠e9)) k_/\some k_≠(vs:Value).ownBlock)) (bo3.out) (fun k_ hk=>⟨⟨hk.1,hk.2.2⟩,hk.2.1⟩))));(case aB=>exact(ez));(case aF=>exact(fun k_ hk=>⟨(Nat.le_trans (G9 (ez)) hk),Kd.freshB (g:=e9) (o:=.cells #[.slice ae ab.length ac, .slice ag aa.length af] 25 (0,0)) (uB_ cn) k_ hk⟩));(case aO=>exact(yN_ fr (fun _ hk=>⟨hk.1.1.1,hk.1.1.2⟩)));(case aS=>exact(G9 (ez)));(case aL=>have:=ib5.out;omega);intro kk0 w28 ho hb hg hat;rw[<- ib7.out] at ho;replace cn:=(bg_ cn hg (Kd.N_ne fr.out cn.out (by decide)));replace bo3:=A_ (Kd.N_afterv (ok:=(fun k_=>(w.heap.size<=k_)/\k_≠e9)) (yN_ bo3 (fun _ hk=>⟨⟨hk.1,hk.2.2⟩,hk.2.1⟩)) hg hat);replace HB:=A_ (hb);have ib8:=A_ (ho);clear fr;clear ho hb hg hat))))
  go_meet
  case rel=>exact⟨_,(ib6),H',⟨by have:=HJ5.out;first|omega|exact Nat.le_refl _⟩,⟨uN_ ib8⟩,⟨uB_ cn⟩,⟨ez⟩⟩
 clear ge3
 obtain⟨kq,ex5,HA,HJ17,fr,cn,HB⟩:=hcut
 cases kq with
 | zero=>exact absurd HA.out (by simp[Fa.j1])
 | succ kj17=>?_
 have H:=HA.out
 clear HA
 simp only[Fa.j1] at H
 obtain⟨uk,H⟩:=pos_ H
 have dc7:=decide_eq_true uk
 have ge5:decide (0 < l1.length)=true:=decide_eq_true (by omega)
 clear uk
 have H':=A_ H
 clear H
 have dz7:0<=(0:Int):=(by omega)
 have dz8:0 < (l1.length:Int):=od_
 obtain⟨kk1,kk2,dd0⟩:=Kd.at_int fq.out 0 dz7 dz8
 obtain rfl:dc8=kk1:=(by injection kk2)
 have qi275:(0 < l1.length)=True:=eq_true (by omega)
 (try rw[show((0:Int)).toNat=0 from rfl] at dd0)
 (try rw[Addr.add_zero'] at dd0)
 replace dd0:=cl_ HB dd0
 replace dz7:=eq_true dz7
 replace dz8:=eq_true dz8
 go_wp2;(repeat((first|go_step3|rw[Exit.noGoto_normal]|rw[Exit.noGoto_exit]|rw[Exit.noGoto_ret]);go_wp2))
 go_loopg [5,7] kj17 (fun kq v5 v7 w'=>∃(p0:List (List Int)) (js:Int),v7 = .int .i64 js/\G7 (Fa.l0 kq l1 p0 (rd l1 (ji3)) js ab aa=some r)/\G7 (kq<=kj17)/\G7 (Kd.N (Kd.slice 3 (Kd.int .i64)) 22 w' w.heap.size (fun k_=>(w.heap.size<=k_)/\k_≠e9) v5 p0)/\G7 (hc_ w' e9 #[(.slice ae ab.length ac),(.slice ag aa.length af)] 25)/\G7 (Below w.heap.size w w'))
 case atStart=>exact⟨(ex5),(wrap64 ((rd l1 0) + 1)),(g3_),H',⟨Nat.le_refl _⟩,⟨uN_ fr⟩,⟨uB_ cn⟩,⟨ez⟩⟩
 clear H'
 obtain⟨p0,js,rfl,HA,HK3,fr,cn,HB⟩:=hrel
 cases gk with
 | zero=>exact absurd HA.out (by simp[Fa.l0])
 | succ k3=>?_
 have H:=HA.out
 clear HA
 simp only[Fa.l0] at H
 by_cases st:js < (ab.length:Int)
 case neg=>
  rw[if_neg st] at H
  have dy8:=decide_eq_false st
  clear st
  obtain rfl:=Option.some.inj H
  obtain⟨kl3,kl4,kl5,kl6⟩:=blk2_ cn
  go_wp2;(repeat((first|go_step3|rw[Exit.noGoto_normal]|rw[Exit.noGoto_exit]|rw[Exit.noGoto_ret]);go_wp2))
  go_ret
  exact⟨_,by first|rfl|(simp[errW_none,errW_some] <;> rfl)|(simp only[<- hji3];first|rfl|(simp[errW_none,errW_some] <;> rfl))|(simp[*,errW_none,errW_some] <;> rfl),by(with_reducible repeat(first|apply Kd.N_alloc|apply Kd.N_drewN|apply Kd.N_drew));exact Kd.N_mono fr.out (fun _ hk=>hk.1),ez⟩
 rw[if_pos st] at H
 have dy8:=decide_eq_true st
 clear st
 obtain⟨ge6,H⟩:=pd_ H
 obtain⟨ev2,H⟩:=pd_ H
 obtain⟨gb4,H⟩:=pd_ H
 obtain⟨ge7,H⟩:=pd_ H
 by_cases sw:(rd (Jm aa (rd l1 (ji3))) js)=0
 ·rw[if_pos sw] at H
  have ex9:((rd (Jm aa (rd l1 (ji3))) js) == 0)=true:=beq_iff_eq.mpr sw
  have ic1:((rd (Jm aa (rd l1 (ji3))) js) != 0)=false:=bne_eq_false_iff_eq.mpr sw
  clear sw
  have H':=A_ H
  clear H
  obtain⟨cn8,cn9,co0,co1⟩:=blk2_ cn
  obtain⟨⟨aa7,kk4,kk5,ge8,dd1,dz9,ea0⟩,ca9,cb0⟩:=rdp_ (at_L1 bd.out (rd l1 (ji3)))
  cases ge8
  replace dd1:=cl_ HB dd1
  have ge9:=A_ ea0
  have kk6:=A_ dz9
  clear ea0 dz9
  obtain⟨⟨kk7,gf0,dd2⟩,cb1,cb2⟩:=rdp_ (Kd.at_int ge9.out js)
  cases gf0
  replace dd2:=cl_ HB dd2
  go_wp2;(repeat((first|go_step3|rw[Exit.noGoto_normal]|rw[Exit.noGoto_exit]|rw[Exit.noGoto_ret]);go_wp2))
  go_roundg k3
  case measure=>have:=HJ5.out;have:=HJ17.out;have:=HK3.out;omega
  case rel=>exact⟨(p0),(wrap64 (js + 1)),(g3_),H',⟨by have:=HJ5.out;have:=HJ17.out;have:=HK3.out;omega⟩,⟨uN_ fr⟩,⟨uB_ cn⟩,⟨ez⟩⟩
 rw[if_neg sw] at H
 have ex9:((rd (Jm aa (rd l1 (ji3))) js) == 0)=false:=beq_eq_false_iff_ne.mpr sw
 have ic1:((rd (Jm aa (rd l1 (ji3))) js) != 0)=true:=bne_iff_ne.mpr sw
 have H':=A_ H
 clear H
 obtain⟨ic2,ic3,ic4,ic5⟩:=blk2_ cn
 obtain⟨⟨aa7,kk4,kk5,ge8,dd1,dz9,ea0⟩,ca9,cb0⟩:=rdp_ (at_L1 bd.out (rd l1 (ji3)))
 cases ge8
 replace dd1:=cl_ HB dd1
 have ge9:=A_ ea0
 have kk6:=A_ dz9
 clear ea0 dz9
 obtain⟨⟨kk7,gf0,dd2⟩,cb1,cb2⟩:=rdp_ (Kd.at_int ge9.out js)
 cases gf0
 replace dd2:=cl_ HB dd2
 go_wp2;(repeat((first|go_step3|rw[Exit.noGoto_normal]|rw[Exit.noGoto_exit]|rw[Exit.noGoto_ret]);go_wp2))
 go_loopg [8] k3 (fun kq v8 w'=>∃(yq:Int),v8 = .int .i64 yq/\G7 (Fa.l1 kq l1 p0 (rd l1 (ji3)) js yq ab aa=some r)/\G7 (kq<=k3)/\G7 (Kd.N (Kd.slice 3 (Kd.int .i64)) 22 w' w.heap.size (fun k_=>(w.heap.size<=k_)/\k_≠e9) u5 p0)/\G7 (hc_ w' e9 #[(.slice ae ab.length ac),(.slice (some aa7) aa.length af)] 25)/\G7 (Below w.heap.size w w'))
 case atStart=>exact⟨(0),(g3_),H',⟨Nat.le_refl _⟩,⟨uN_ fr⟩,⟨uB_ cn⟩,⟨ez⟩⟩
 clear H'
 obtain⟨yq,rfl,HA,HK4,fr,cn,HB⟩:=hrel
 cases gk with
 | zero=>exact absurd HA.out (by simp[Fa.l1])
 | succ k4=>?_
 have H:=HA.out
 clear HA
 simp only[Fa.l1] at H
 by_cases c39:yq < (l1.length:Int)
 ·rw[if_pos c39] at H
  have kk8:=decide_eq_true c39
  clear c39
  obtain⟨ic6,H⟩:=pd_ H
  by_cases ul:(rd l1 yq)=js
  ·rw[if_pos ul] at H
   have ey0:((rd l1 yq) == js)=true:=beq_iff_eq.mpr ul
   have ic7:((rd l1 yq) != js)=false:=bne_eq_false_iff_eq.mpr ul
   clear ul
   have H':=A_ H
   clear H
   obtain⟨⟨gf1,gf2,ea1⟩,co2,co3⟩:=rdp_ (Kd.at_int fq.out yq)
   obtain rfl:dc8=gf1:=(by injection gf2)
   replace ea1:=cl_ HB ea1
   go_wp2;(repeat((first|go_step3|rw[Exit.noGoto_normal]|rw[Exit.noGoto_exit]|rw[Exit.noGoto_ret]);go_wp2))
   go_roundg k4
   case measure=>have:=HJ5.out;have:=HJ17.out;have:=HK3.out;have:=HK4.out;omega
   case rel=>exact⟨(p0),(wrap64 (js + 1)),(g3_),H',⟨g100_⟩,⟨uN_ fr⟩,⟨uB_ cn⟩,⟨ez⟩⟩
  rw[if_neg ul] at H
  have ey0:((rd l1 yq) == js)=false:=beq_eq_false_iff_ne.mpr ul
  have ic7:((rd l1 yq) != js)=true:=bne_iff_ne.mpr ul
  have H':=A_ H
  clear H
  obtain⟨⟨gf1,gf2,ea1⟩,co2,co3⟩:=rdp_ (Kd.at_int fq.out yq)
  obtain rfl:dc8=gf1:=(by injection gf2)
  replace ea1:=cl_ HB ea1
  go_wp2;(repeat((first|go_step3|rw[Exit.noGoto_normal]|rw[Exit.noGoto_exit]|rw[Exit.noGoto_ret]);go_wp2))
  go_roundg k4
  case measure=>have:=HJ5.out;have:=HJ17.out;have:=HK3.out;have:=HK4.out;omega
  case rel=>exact⟨(wrap64 (yq + 1)),(g3_),H',⟨g100_⟩,⟨uN_ fr⟩,⟨uB_ cn⟩,⟨ez⟩⟩
 rw[if_neg c39] at H
 have kk8:=decide_eq_false c39
 clear c39
 obtain⟨bn9,hyq⟩:∃y_:List Int,y_=(([]:List Int)):=⟨_,rfl⟩
 replace H:(if bn9.length + l1.length < 17592186044416 then((some (bn9 ++ l1:List Int)).bind fun ag5=>((some (([js]:List Int):List Int)).bind fun rp=>(if ag5.length + rp.length < 17592186044416 then((Fa.f k4 ab aa (ag5 ++ rp)).bind fun vr=>(if p0.length + vr.length < 5864062014805 then(Fa.l0 k4 l1 (p0 ++ vr) (rd l1 (ji3)) (wrap64 (js + 1)) ab aa) else(none))) else(none)))) else(none))=some r:=qh_
 have ey1:=A_ hyq
 clear hyq
 obtain⟨c42,H⟩:=pos_ H
 have gf3:=A_ c42
 clear c42
 obtain⟨ag5,hyq⟩:∃y_:List Int,y_=(bn9 ++ l1):=⟨_,rfl⟩
 replace H:((some (([js]:List Int):List Int)).bind fun rp=>(if ag5.length + rp.length < 17592186044416 then((Fa.f k4 ab aa (ag5 ++ rp)).bind fun vr=>(if p0.length + vr.length < 5864062014805 then(Fa.l0 k4 l1 (p0 ++ vr) (rd l1 (ji3)) (wrap64 (js + 1)) ab aa) else(none))) else(none)))=some r:=qh_
 have gf4:=A_ hyq
 clear hyq
 obtain⟨rp,hyq⟩:∃y_:List Int,y_=(([js]:List Int)):=⟨_,rfl⟩
 replace H:(if ag5.length + rp.length < 17592186044416 then((Fa.f k4 ab aa (ag5 ++ rp)).bind fun vr=>(if p0.length + vr.length < 5864062014805 then(Fa.l0 k4 l1 (p0 ++ vr) (rd l1 (ji3)) (wrap64 (js + 1)) ab aa) else(none))) else(none))=some r:=qh_
 have dd3:=A_ hyq
 clear hyq
 obtain⟨c43,H⟩:=pos_ H
 have kk9:=A_ c43
 clear c43
 obtain⟨cb3,hyq⟩:∃y_:List Int,y_=(ag5 ++ rp):=⟨_,rfl⟩
 replace H:((Fa.f k4 ab aa cb3).bind fun vr=>(if p0.length + vr.length < 5864062014805 then(Fa.l0 k4 l1 (p0 ++ vr) (rd l1 (ji3)) (wrap64 (js + 1)) ab aa) else(none)))=some r:=qh_
 have kl0:=A_ hyq
 clear hyq
 obtain⟨vr,A44,H⟩:=bind_ H
 obtain⟨c45,H⟩:=pos_ H
 have kl1:=A_ c45
 clear c45
 obtain⟨ic8,hyq⟩:∃y_:List (List Int),y_=(p0 ++ vr):=⟨_,rfl⟩
 replace H:(Fa.l0 k4 l1 ic8 (rd l1 (ji3)) (wrap64 (js + 1)) ab aa)=some r:=qh_
 have kl2:=A_ hyq
 clear hyq
 have H':=A_ H
 clear H
 obtain⟨bo,bp,ea2⟩:=Kd.N_slice fr.out
 subst ea2
 try go_wp2
 replace fr:=nd_ fr
 replace cn:=bd_ cn
 replace HB:=A_ (Jd HB.out)
 refine start_ (n:=11) (S:=fun w'=>w'.cell? ⟨e9,0,none⟩=some (.slice ae ab.length ac)/\w'.cell? ⟨e9,1,none⟩=some (.slice (some aa7) aa.length af)) (ds:=[]) (tl_ 11 0) (g1_) rfl (g1_) ⟨(G8 cn.out 0).trans rfl,(G8 cn.out 1).trans rfl⟩ (fun hHeld=>?_);refine Js Fa.tab13 Fa.bits13 (fun HT_ HW_=>?_)
 generalize wr.drew=w47 at fr cn HB hHeld |-
 refine pw_ 0 70 (tl_ 11 1) ?_
 refine pw_ 3 73 (tl_ 11 9) ?_
 refine pw_ 5 75 (tl_ 11 41) ?_
 refine tk6_ 1 71 (tl_ 11 43) hHeld ?_
 refine join_ (σ:=Value × Value × Value) 4 (tl_ 11 127) (fun s_=>[(72,s_.1),(74,s_.2.1),(76,s_.2.2)]) (fun s_ w'=>(w'.cell? ⟨e9,0,none⟩=some (.slice ae ab.length ac)/\w'.cell? ⟨e9,1,none⟩=some (.slice (some aa7) aa.length af))/\(Kd.R (Kd.int .i64) 3 w' w.heap.size (fun k_=>(w.heap.size<=k_)/\some k_≠(s_.2.2:Value).ownBlock) s_.2.1 ag5)/\(Kd.R (Kd.int .i64) 3 w' w.heap.size (fun k_=>(w.heap.size<=k_)/\some k_≠(s_.2.1:Value).ownBlock) s_.2.2 rp)/\(Kd.N (Kd.slice 3 (Kd.int .i64)) 22 w' w.heap.size (fun k_=>(w.heap.size<=k_)/\some k_≠(s_.2.1:Value).ownBlock/\some k_≠(s_.2.2:Value).ownBlock/\k_≠e9) (.slice bo p0.length bp) p0)/\(hc_ w' e9 #[.slice ae ab.length ac, .slice (some aa7) aa.length af] 25)/\(Below w.heap.size w w')) ?_ ?_
 rotate_left
 ·intro hCont
  refine two_ (i:=2) (j:=6) (Ni:=some 72) (Nj:=some 76) (tl_ 11 47) (tl_ 11 107) rfl rfl rfl rfl (two_of HT_.out (g1_)) (by decide) (by decide) (fun K hK=>?_) (fun K hK=>?_)
  ·skip
   refine rls_ 72 [] ?_
   intro cb4 w48 al1 hb hg_ hnew_
   clear hg_ hnew_
   (first|rw[<- ey1.out] at al1|(simp only[Int.reduceToNat] at al1;rw[<- ey1.out] at al1))
   replace fr:=A_ (Kd.N_elder' (uN_ fr) (Kd.R_base al1) hb)
   have al2:=A_ (Kd.R_lower (Kd.R_newM (M:=fun k_=>(w.heap.size<=k_)) al1 (G9 (ez)) (fun k_ h_=>h_)) (G9 (ez)))
   replace cn:=bb_ cn hb
   replace HB:=hs_ (ez) hb
   clear hb al1
   refine hK.out _ _ ⟨(G8 cn.out 0).trans rfl,(G8 cn.out 1).trans rfl⟩ (fun hHeld=>?_)
   clear hK K
   refine nm_ ?_
   refine two_ (i:=4) (j:=6) (Ni:=some 74) (Nj:=some 76) (tl_ 11 63) (tl_ 11 111) rfl rfl rfl rfl (two_of HT_.out (g1_)) (by decide) (by decide) (fun K hK=>?_) (fun K hK=>?_)
   ·skip
    refine Kd.R_append_rows_step (Kd.int .i64) (w0:=w) w.heap.size (by rfl) (.tmp 72) (.tmp 73) 22 3 (.int .i64 0) 8 rfl Try.underlying22 info3 rfl (by decide) (by omega) cb4 bn9 l1 _ _ _ (fun k_=>(w.heap.size<=k_)) (fun _=>False) rfl rfl ?aO ?aR (fun _ _ h=>h) (fun _ h=>h.elim) ?aF ?aB ?aS ?aL ?_
    (case aR=>exact uC_ fq)
    (case aB=>exact(ez))
    (case aF=>exact(fun k_ hk=>(Nat.le_trans (G9 (ez)) hk)))
    (case aO=>exact(yR_ al2 (fun _ hk=>hk.1)))
    (case aS=>exact(G9 (ez)))
    (case aL=>have:=gf3.out;omega)
    intro bg4 w50 ho hb hg hat
    rw[<- gf4.out] at ho
    replace fr:=A_ (Kd.N_afterv (ok:=(fun k_=>(w.heap.size<=k_)/\k_≠e9)) (uN_ fr) hg hat)
    replace cn:=(bg_ cn hg (Kd.R_ne al2.out cn.out (by decide)))
    replace HB:=A_ (hb)
    have aq1:=A_ (ho)
    clear al2
    clear ho hb hg hat
    refine hK.out _ _ ⟨(G8 cn.out 0).trans rfl,(G8 cn.out 1).trans rfl⟩ (fun hHeld=>?_)
    clear hK K
    refine nm_ ?_
    refine one_ (i:=6) (N:=some 76) (tl_ 11 127) rfl rfl (Ju HT_.out (g1_)) (by decide) (fun K hK=>?_)
    refine rls_ 76 [js] ?_
    intro al3 w51 co4 hb hg_ hnew_
    clear hg_ hnew_
    (first|rw[<- dd3.out] at co4|(simp only[Int.reduceToNat] at co4;rw[<- dd3.out] at co4))
    replace fr:=A_ (Kd.N_elder' (uN_ fr) (Kd.R_base co4) hb)
    have qk:=A_ (Kd.R_lower (Kd.R_new' (Kd.R_newM (M:=fun k_=>(w.heap.size<=k_)) co4 (G9 (ez)) (fun k_ h_=>h_)) (Kd.R_lt (uR_ aq1))) (G9 (ez)))
    replace aq1:=A_ (Kd.R_elder' (uR_ aq1) (Kd.R_base co4) hb)
    replace cn:=bb_ cn hb
    replace HB:=hs_ (ez) hb
    clear hb co4
    refine hK.out _ _ ⟨(G8 cn.out 0).trans rfl,(G8 cn.out 1).trans rfl⟩ (fun hHeld=>?_)
    clear hK K
    refine nm_ ?_
    exact norm_ (g14_) (hCont (cb4,bg4,al3) _ ⟨hHeld,(uR_ aq1),(yR_ qk (fun _ hk=>⟨hk.1.1,hk.2⟩)),(yN_ fr (fun _ hk=>⟨hk.1.1.1,⟨hk.1.2,⟨hk.2,hk.1.1.2⟩⟩⟩)),(uB_ cn),(ez)⟩)
   skip
   refine rls_ 76 [js] ?_
   intro al3 w50 aa8 hb hg_ hnew_
   clear hg_ hnew_
   (first|rw[<- dd3.out] at aa8|(simp only[Int.reduceToNat] at aa8;rw[<- dd3.out] at aa8))
   replace fr:=A_ (Kd.N_elder' (uN_ fr) (Kd.R_base aa8) hb)
   have qk:=A_ (Kd.R_lower (Kd.R_new' (Kd.R_newM (M:=fun k_=>(w.heap.size<=k_)) aa8 (G9 (ez)) (fun k_ h_=>h_)) (Kd.R_lt (uR_ al2))) (G9 (ez)))
   replace al2:=A_ (Kd.R_elder' (uR_ al2) (Kd.R_base aa8) hb)
   replace cn:=bb_ cn hb
   replace HB:=hs_ (ez) hb
   clear hb aa8
   refine hK.out _ _ ⟨(G8 cn.out 0).trans rfl,(G8 cn.out 1).trans rfl⟩ (fun hHeld=>?_)
   clear hK K
   refine nm_ ?_
   refine one_ (i:=4) (N:=some 74) (tl_ 11 127) rfl rfl (Ju HT_.out (g1_)) (by decide) (fun K hK=>?_)
   refine Kd.R_append_rows_step (Kd.int .i64) (w0:=w) w.heap.size (by rfl) (.tmp 72) (.tmp 73) 22 3 (.int .i64 0) 8 rfl Try.underlying22 info3 rfl (by decide) (by omega) cb4 bn9 l1 _ _ _ (fun k_=>(w.heap.size<=k_)/\some k_≠(al3:Value).ownBlock) (fun _=>False) rfl rfl ?aO ?aR (fun _ _ h=>h) (fun _ h=>h.elim) ?aF ?aB ?aS ?aL ?_
   (case aR=>exact uC_ fq)
   (case aB=>exact(ez))
   (case aF=>exact(fun k_ hk=>⟨(Nat.le_trans (G9 (ez)) hk),Kd.fresh' (Kd.R_lt (uR_ qk)) k_ hk⟩))
   (case aO=>exact(yR_ al2 (fun _ hk=>⟨hk.1.1,hk.2⟩)))
   (case aS=>exact(G9 (ez)))
   (case aL=>have:=gf3.out;omega)
   intro bg4 w52 ho hb hg hat
   rw[<- gf4.out] at ho
   replace fr:=A_ (Kd.N_afterv (ok:=(fun k_=>(w.heap.size<=k_)/\some k_≠(al3:Value).ownBlock/\k_≠e9)) (yN_ fr (fun _ hk=>⟨⟨hk.1.1.1,⟨hk.2,hk.1.1.2⟩⟩,hk.1.2⟩)) hg hat)
   replace cn:=(bg_ cn hg (Kd.R_ne al2.out cn.out (by decide)))
   replace qk:=A_ (Kd.R_after (ok:=(fun k_=>(w.heap.size<=k_))) (yR_ qk (fun _ hk=>⟨hk.1.1,hk.2⟩)) hg hat)
   replace HB:=A_ (hb)
   have aq1:=A_ (ho)
   clear al2
   clear ho hb hg hat
   refine hK.out _ _ ⟨(G8 cn.out 0).trans rfl,(G8 cn.out 1).trans rfl⟩ (fun hHeld=>?_)
   clear hK K
   refine nm_ ?_
   exact Fa.calls.z0
  skip
  refine rls_ 76 [js] ?_
  intro al3 w48 al1 hb hg_ hnew_
  clear hg_ hnew_
  (first|rw[<- dd3.out] at al1|(simp only[Int.reduceToNat] at al1;rw[<- dd3.out] at al1))
  replace fr:=A_ (Kd.N_elder' (uN_ fr) (Kd.R_base al1) hb)
  have qk:=A_ (Kd.R_lower (Kd.R_newM (M:=fun k_=>(w.heap.size<=k_)) al1 (G9 (ez)) (fun k_ h_=>h_)) (G9 (ez)))
  replace cn:=bb_ cn hb
  replace HB:=hs_ (ez) hb
  clear hb al1
  refine hK.out _ _ ⟨(G8 cn.out 0).trans rfl,(G8 cn.out 1).trans rfl⟩ (fun hHeld=>?_)
  clear hK K
  refine nm_ ?_
  refine one_ (i:=2) (N:=some 72) (tl_ 11 111) rfl rfl (Ju HT_.out (g1_)) (by decide) (fun K hK=>?_)
  refine rls_ 72 [] ?_
  intro cb4 w50 aa8 hb hg_ hnew_
  clear hg_ hnew_
  (first|rw[<- ey1.out] at aa8|(simp only[Int.reduceToNat] at aa8;rw[<- ey1.out] at aa8))
  replace fr:=A_ (Kd.N_elder' (uN_ fr) (Kd.R_base aa8) hb)
  have al2:=A_ (Kd.R_lower (Kd.R_new' (Kd.R_newM (M:=fun k_=>(w.heap.size<=k_)) aa8 (G9 (ez)) (fun k_ h_=>h_)) (Kd.R_lt (uR_ qk))) (G9 (ez)))
  replace qk:=A_ (Kd.R_elder' (uR_ qk) (Kd.R_base aa8) hb)
  replace cn:=bb_ cn hb
  replace HB:=hs_ (ez) hb
  clear hb aa8
  refine hK.out _ _ ⟨(G8 cn.out 0).trans rfl,(G8 cn.out 1).trans rfl⟩ (fun hHeld=>?_)
  clear hK K
  refine nm_ ?_
  refine one_ (i:=4) (N:=some 74) (tl_ 11 127) rfl rfl (Ju HT_.out (g1_)) (by decide) (fun K hK=>?_)
  refine Kd.R_append_rows_step (Kd.int .i64) (w0:=w) w.heap.size (by rfl) (.tmp 72) (.tmp 73) 22 3 (.int .i64 0) 8 rfl Try.underlying22 info3 rfl (by decide) (by omega) cb4 bn9 l1 _ _ _ (fun k_=>(w.heap.size<=k_)/\some k_≠(al3:Value).ownBlock) (fun _=>False) rfl rfl ?aO ?aR (fun _ _ h=>h) (fun _ h=>h.elim) ?aF ?aB ?aS ?aL ?_
  (case aR=>exact uC_ fq)
  (case aB=>exact(ez))
  (case aF=>exact(fun k_ hk=>⟨(Nat.le_trans (G9 (ez)) hk),Kd.fresh' (Kd.R_lt (uR_ qk)) k_ hk⟩))
  (case aO=>exact(yR_ al2 (fun _ hk=>⟨hk.1.1,hk.2⟩)))
  (case aS=>exact(G9 (ez)))
  (case aL=>have:=gf3.out;omega)
  intro bg4 w52 ho hb hg hat
  rw[<- gf4.out] at ho
  replace fr:=A_ (Kd.N_afterv (ok:=(fun k_=>(w.heap.size<=k_)/\some k_≠(al3:Value).ownBlock/\k_≠e9)) (yN_ fr (fun _ hk=>⟨⟨hk.1.1.1,⟨hk.1.2,hk.1.1.2⟩⟩,hk.2⟩)) hg hat)
  replace cn:=(bg_ cn hg (Kd.R_ne al2.out cn.out (by decide)))
  replace qk:=A_ (Kd.R_after (ok:=(fun k_=>(w.heap.size<=k_))) (yR_ qk (fun _ hk=>⟨hk.1.1,hk.2⟩)) hg hat)
  replace HB:=A_ (hb)
  have aq1:=A_ (ho)
  clear al2
  clear ho hb hg hat
  refine hK.out _ _ ⟨(G8 cn.out 0).trans rfl,(G8 cn.out 1).trans rfl⟩ (fun hHeld=>?_)
  clear hK K
  refine nm_ ?_
  exact Fa.calls.z0
 rintro⟨cb4,bg4,al3⟩ jz ⟨hS_,h0_,h1_,h2_,h3_,h4_⟩
 have aq1:G7 (Kd.R (Kd.int .i64) 3 jz w.heap.size (fun k_=>(w.heap.size<=k_)/\some k_≠(al3:Value).ownBlock) bg4 ag5):=⟨h0_⟩
 have qk:G7 (Kd.R (Kd.int .i64) 3 jz w.heap.size (fun k_=>(w.heap.size<=k_)/\some k_≠(bg4:Value).ownBlock) al3 rp):=⟨h1_⟩
 replace fr:G7 (Kd.N (Kd.slice 3 (Kd.int .i64)) 22 jz w.heap.size (fun k_=>(w.heap.size<=k_)/\some k_≠(bg4:Value).ownBlock/\some k_≠(al3:Value).ownBlock/\k_≠e9) (.slice bo p0.length bp) p0):=⟨h2_⟩
 replace cn:G7 (hc_ jz e9 #[.slice ae ab.length ac, .slice (some aa7) aa.length af] 25):=⟨h3_⟩
 replace HB:G7 (Below w.heap.size w jz):=⟨h4_⟩
 clear h0_ h1_ h2_ h3_ h4_
 have hHeld:jz.cell? ⟨e9,0,none⟩=some (.slice ae ab.length ac)/\jz.cell? ⟨e9,1,none⟩=some (.slice (some aa7) aa.length af):=hS_
 obtain⟨xh,vt,cp0⟩:=Kd.R_slice qk.out
 (first|subst cp0|(injection cp0 with f1_ f2_ f3_;have f4_:=f1_.symm;have f5_:=f3_.symm;clear f1_ f2_ f3_;subst f4_;subst f5_))
 refine norm_ (a':=?_) ?_ ?_
 rotate_left
 · exact sq_
 refine one_ (i:=7) (N:=some 77) (tl_ 11 255) rfl rfl (Ju HT_.out (g1_)) (by decide) (fun K hK=>?_)
 refine Kd.R_append_rows_step (Kd.int .i64) (w0:=w) w.heap.size (by rfl) (.tmp 74) (.tmp 76) 22 3 (.int .i64 0) 8 rfl Try.underlying22 info3 rfl (by decide) (by omega) bg4 ag5 rp _ _ _ (fun k_=>(w.heap.size<=k_)/\some k_≠(.slice xh rp.length vt:Value).ownBlock) (fun _=>False) rfl rfl ?aO ?aR (fun _ _ h=>h) (fun _ h=>h.elim) ?aF ?aB ?aS ?aL ?_
 (case aR=>repeat(first|exact(Kd.R_reads' qk.out).2.2|(with_reducible refine Kd.C_alloc ?_ _)|(with_reducible refine Kd.C_drewN ?_ _)|(with_reducible refine Kd.C_drew ?_)))
 (case aB=>exact(ez))
 (case aF=>exact(fun k_ hk=>⟨(Nat.le_trans (G9 (ez)) hk),Kd.fresh' (Kd.R_lt (uR_ qk)) k_ hk⟩))
 (case aO=>exact(uR_ aq1))
 (case aS=>exact(G9 (ez)))
 (case aL=>have:=kk9.out;omega)
 intro nl3 w54 ho hb hg hat
 rw[<- kl0.out] at ho
 replace fr:=A_ (Kd.N_afterv (ok:=(fun k_=>(w.heap.size<=k_)/\some k_≠(.slice xh rp.length vt:Value).ownBlock/\k_≠e9)) (yN_ fr (fun _ hk=>⟨⟨hk.1,⟨hk.2.2.1,hk.2.2.2⟩⟩,hk.2.1⟩)) hg hat)
 replace cn:=(bg_ cn hg (Kd.R_ne aq1.out cn.out (by decide)))
 replace qk:=A_ (Kd.R_after (ok:=(fun k_=>(w.heap.size<=k_))) (uR_ qk) hg hat)
 replace HB:=A_ (hb)
 have bo4:=A_ (ho)
 clear aq1
 clear ho hb hg hat
 obtain⟨a8,ay,bo5⟩:=Kd.R_slice bo4.out
 (first|subst bo5|(injection bo5 with f1_ f2_ f3_;have f4_:=f1_.symm;have f5_:=f3_.symm;clear f1_ f2_ f3_;subst f4_;subst f5_))
 refine hK.out _ _ ⟨(G8 cn.out 0).trans rfl,(G8 cn.out 1).trans rfl⟩ (fun hHeld=>?_)
 clear hK K
 refine nm_ ?_
 refine one_ (i:=8) (N:=some 78) (tl_ 11 511) rfl rfl (Ju HT_.out (g1_)) (by decide) (fun K hK=>?_)
 refine goes_ Try.func113 (g1_) rfl #[.agg #[.slice ae ab.length ac, .slice (some aa7) aa.length af], .slice a8 cb3.length ay] (by rfl) rfl rfl (gM_) ?_
 with_reducible refine(ih k4 (g100_) _ _ ab _ _ aa _ _ cb3 vr _ ?side1 ?side2 ?side3 ?side4 ?side5 ?side6 A44.out).mono ?_
 (case side1=>exact uC_ bg)
 (case side2=>exact bs.out)
 (case side3=>exact uC_ bd)
 (case side4=>exact bv.out)
 (case side5=>exact cR_ bo4)
 (case side6=>exact lR_ bo4)
 rintro e w57 ⟨nl4,rfl,ah,hb⟩
 refine⟨_,rfl,?_⟩
 have ey2:=A_ (Kd.N_lower (Kd.N_mono (ok':=fun k_=>(w.heap.size<=k_)/\some k_≠(.slice bo p0.length bp:Value).ownBlock/\some k_≠(.slice xh rp.length vt:Value).ownBlock/\some k_≠(.slice a8 cb3.length ay:Value).ownBlock/\k_≠e9) ah (fun k_ hk_=>⟨(Nat.le_trans (G9 (ez)) hk_),(Kd.fresh' (Kd.N_lt (uN_ fr)) k_ hk_),(Kd.fresh' (Kd.R_lt (uR_ qk)) k_ hk_),(Kd.fresh' (Kd.R_lt (uR_ bo4)) k_ hk_),(Kd.freshB (g:=e9) (o:=.cells #[.slice ae ab.length ac, .slice (some aa7) aa.length af] 25 (0,0)) (uB_ cn) k_ hk_)⟩)) (G9 (ez)))
 replace fr:=A_ (Kd.N_elder' (uN_ fr) (Kd.N_base ah) hb)
 replace qk:=rb_ qk hb
 replace bo4:=rb_ bo4 hb
 replace cn:=bb_ cn hb
 replace HB:=hs_ (ez) hb
 obtain⟨ey3,ey4,ea3⟩:=Kd.N_slice ey2.out
 (first|subst ea3|(injection ea3 with f1_ f2_ f3_;have f4_:=f1_.symm;have f5_:=f3_.symm;clear f1_ f2_ f3_;subst f4_;subst f5_))
 refine hK.out _ _ ⟨(G8 cn.out 0).trans rfl,(G8 cn.out 1).trans rfl⟩ (fun hHeld=>?_)
 clear hK K
 refine nm_ ?_
 refine one_ (i:=9) (N:=some 79) (tl_ 11 1023) rfl rfl (Ju HT_.out (g1_)) (by decide) (fun K hK=>?_)
 refine Kd.N_append_rows_step (Kd.slice 3 (Kd.int .i64)) (w0:=w) w.heap.size (by rfl) (.tmp 70) (.tmp 78) 23 22 (.slice none 0 0) 24 rfl Try.underlying23 info22 rfl (by decide) (by omega) (.slice bo p0.length bp) p0 vr _ _ _ (fun k_=>(w.heap.size<=k_)/\some k_≠(.slice xh rp.length vt:Value).ownBlock/\some k_≠(.slice a8 cb3.length ay:Value).ownBlock/\k_≠e9) (fun k_=>((fun k_=>(w.heap.size<=k_)/\some k_≠(.slice xh rp.length vt:Value).ownBlock/\some k_≠(.slice a8 cb3.length ay:Value).ownBlock/\k_≠e9)) k_/\some k_≠(.slice bo p0.length bp:Value).ownBlock) rfl rfl ?aO ?aR (fun _ hk=>hk) ?aF ?aB ?aS ?aL ?_
 (case aR=>exact(by skip;exact Kd.N_F (Kd.N_mono (ok':=(fun k_=>((fun k_=>(w.heap.size<=k_)/\some k_≠(.slice xh rp.length vt:Value).ownBlock/\some k_≠(.slice a8 cb3.length ay:Value).ownBlock/\k_≠e9)) k_/\some k_≠(.slice bo p0.length bp:Value).ownBlock)) (ey2.out) (fun k_ hk=>⟨⟨hk.1,⟨hk.2.2.1,⟨hk.2.2.2.1,hk.2.2.2.2⟩⟩⟩,hk.2.1⟩))))
 (case aB=>exact(ez))
 (case aF=>exact(fun k_ hk=>⟨(Nat.le_trans (G9 (ez)) hk),Kd.fresh' (Kd.R_lt (uR_ qk)) k_ hk,Kd.fresh' (Kd.R_lt (uR_ bo4)) k_ hk,Kd.freshB (g:=e9) (o:=.cells #[.slice ae ab.length ac, .slice (some aa7) aa.length af] 25 (0,0)) (uB_ cn) k_ hk⟩))
 (case aO=>exact(yN_ fr (fun _ hk=>⟨hk.1.1.1,⟨hk.1.1.2.1,⟨hk.1.2,hk.1.1.2.2⟩⟩⟩)))
 (case aS=>exact(G9 (ez)))
 (case aL=>have:=kl1.out;omega)
 intro ic9 ll ho hb hg hat
 rw[<- kl2.out] at ho
 replace cn:=(bg_ cn hg (Kd.N_ne fr.out cn.out (by decide)))
 replace qk:=A_ (Kd.R_over' (uR_ qk) (Kd.N_typed (uN_ fr)) (by decide) hg)
 replace bo4:=A_ (Kd.R_over' (uR_ bo4) (Kd.N_typed (uN_ fr)) (by decide) hg)
 replace ey2:=A_ (Kd.N_afterv (ok:=(fun k_=>(w.heap.size<=k_)/\some k_≠(.slice xh rp.length vt:Value).ownBlock/\some k_≠(.slice a8 cb3.length ay:Value).ownBlock/\k_≠e9)) (yN_ ey2 (fun _ hk=>⟨⟨hk.1,⟨hk.2.2.1,⟨hk.2.2.2.1,hk.2.2.2.2⟩⟩⟩,hk.2.1⟩)) hg hat)
 replace HB:=A_ (hb)
 have ag6:=A_ (ho)
 clear fr
 clear ho hb hg hat
 refine hK.out _ _ ⟨(G8 cn.out 0).trans rfl,(G8 cn.out 1).trans rfl⟩ (fun hHeld=>?_)
 clear hK K
 refine nm_ ?_
 refine pw_ 10 5 (tl_ 11 2047) ?_
 refine done_ (done_of HT_.out (g1_)) ?_
 try go_wp2
 go_roundg k4
 case measure=>have:=HJ5.out;have:=HJ17.out;have:=HK3.out;have:=HK4.out;omega
 case rel=>exact⟨(ic8),(wrap64 (js + 1)),(g3_),H',⟨g100_⟩,⟨by(with_reducible repeat(first|apply Kd.N_alloc|apply Kd.N_drewN|apply Kd.N_drew));exact Kd.N_mono ag6.out (fun _ hk=>⟨hk.1,hk.2.2.2⟩)⟩,⟨uB_ cn⟩,⟨ez⟩⟩
def Ge.l0:Nat->List Int->List Int->Int->Option (Bool)
 | 0,_,_,_=>none
 | k + 1,x0,x1,x5=>if x5 < (x0.length:Int) then(if 0<=x5 then(if x5 < (x1.length:Int) then(if (rd x0 x5)=(rd x1 x5) then(Ge.l0 k x0 x1 (wrap64 (x5 + 1))) else(some (decide ((rd x0 x5) < (rd x1 x5))))) else(none)) else(none)) else(some false)
def Ge.f (k:Nat) (l0:List Int) (l1:List Int):Option (Bool):=if (l0.length:Int)=(l1.length:Int) then(Ge.l0 k l0 l1 0) else(some (decide ((l0.length:Int) < (l1.length:Int))))
set_option maxHeartbeats 8000000 in
set_option maxRecDepth 100000 in
theorem Ge.calls (k:Nat) (A0:Option Addr) (c0:Nat) (l0:List Int) (A1:Option Addr) (c1:Nat) (l1:List Int) (r:Bool) (w:World) (e8:Kd.C (Kd.int .i64) w A0 l0.length l0) (d4:l0.length<=c0) (il:Kd.C (Kd.int .i64) w A1 l1.length l1) (iu:l1.length<=c1) (h:Ge.f k l0 l1=some r) :
  Calls Try.prog 114 #[.slice A0 l0.length c0, .slice A1 l1.length c1] w fun e w'=>e = .returned (.bool r)/\Drawn0 w w':=by
 have fo:=A_ e8
 have oh:=A_ d4
 clear e8 d4
 have fq:=A_ il
 have pb:=A_ iu
 clear il iu
 have H:=h
 unfold Ge.f at H
 clear h
 by_cases c3:(l0.length:Int)=(l1.length:Int)
 case neg=>
  rw[if_neg c3] at H
  have gm:((l0.length:Int) == (l1.length:Int))=false:=beq_eq_false_iff_ne.mpr c3
  have ns:((l0.length:Int) != (l1.length:Int))=true:=bne_iff_ne.mpr c3
  have ua:(l0.length == l1.length)=false:=by first|simpa using c3|(simp at c3 |-;omega)
  obtain rfl:=Option.some.inj H
  go_enter Try.func114,Try.ntmps114
  go_wp2
  repeat(go_quiet (fail);try go_wp2)
  go_ret
  exact⟨g3_,g5_⟩
 rw[if_pos c3] at H
 have gm:((l0.length:Int) == (l1.length:Int))=true:=beq_iff_eq.mpr c3
 have ns:((l0.length:Int) != (l1.length:Int))=false:=bne_eq_false_iff_eq.mpr c3
 have ua:(l0.length == l1.length)=true:=by first|simpa using c3|(simp at c3 |-;omega)
 clear c3
 have H':=A_ H
 clear H
 go_enter Try.func114,Try.ntmps114
 go_wp2
 repeat(go_quiet (fail);try go_wp2)
 go_loopg [5] k (fun kq v5 w'=>∃(aj:Int),v5 = .int .i64 aj/\G7 (Ge.l0 kq l0 l1 aj=some r)/\G7 (kq<=k)/\Drawn0 w w')
 case atStart=>exact⟨(0),(g3_),H',⟨Nat.le_refl _⟩,g5_⟩
 clear H'
 obtain⟨aj,rfl,HA,HK1,⟨m1,rfl⟩⟩:=hrel
 cases gk with
 | zero=>exact absurd HA.out (by simp[Ge.l0])
 | succ k1=>?_
 have H:=HA.out
 clear HA
 simp only[Ge.l0] at H
 by_cases c4:aj < (l0.length:Int)
 case neg=>
  rw[if_neg c4] at H
  have ib:=decide_eq_false c4
  clear c4
  obtain rfl:=Option.some.inj H
  go_wp2
  repeat(go_quiet (fail);try go_wp2)
  go_ret
  exact⟨g3_,g5_⟩
 rw[if_pos c4] at H
 have ib:=decide_eq_true c4
 clear c4
 obtain⟨ki,H⟩:=pd_ H
 obtain⟨kb,H⟩:=pd_ H
 by_cases c7:(rd l0 aj)=(rd l1 aj)
 ·rw[if_pos c7] at H
  have pw:((rd l0 aj) == (rd l1 aj))=true:=beq_iff_eq.mpr c7
  have bm5:((rd l0 aj) != (rd l1 aj))=false:=bne_eq_false_iff_eq.mpr c7
  clear c7
  have H':=A_ H
  clear H
  obtain⟨⟨ea5,ea6,cp3⟩,aq2,aq3⟩:=rdp_ (Kd.at_int fo.out aj)
  cases ea6
  obtain⟨⟨id2,gf6,km0⟩,cp4,cp5⟩:=rdp_ (Kd.at_int fq.out aj)
  cases gf6
  go_wp2
  repeat(go_quiet (fail);try go_wp2)
  go_roundg k1
  case measure=>have:=HK1.out;omega
  case rel=>exact⟨(wrap64 (aj + 1)),(g3_),H',⟨g8_⟩,g5_⟩
 rw[if_neg c7] at H
 have pw:((rd l0 aj) == (rd l1 aj))=false:=beq_eq_false_iff_ne.mpr c7
 have bm5:((rd l0 aj) != (rd l1 aj))=true:=bne_iff_ne.mpr c7
 obtain rfl:=Option.some.inj H
 obtain⟨⟨ea5,ea6,cp3⟩,aq2,aq3⟩:=rdp_ (Kd.at_int fo.out aj)
 cases ea6
 obtain⟨⟨id2,gf6,km0⟩,cp4,cp5⟩:=rdp_ (Kd.at_int fq.out aj)
 cases gf6
 obtain⟨⟨km1,km2,nl5⟩,gf7,gf8⟩:=rdp_ (Kd.at_int fo.out aj)
 obtain rfl:ea5=km1:=(by injection km2)
 obtain⟨⟨ey5,gf9,dd4⟩,cb5,cb6⟩:=rdp_ (Kd.at_int fq.out aj)
 obtain rfl:id2=ey5:=(by injection gf9)
 go_wp2
 repeat(go_quiet (fail);try go_wp2)
 go_ret
 exact⟨g3_,g5_⟩
mutual
def Ff.j1:Nat->List (List Int)->Option ((List (List Int)))
 | 0,_=>none
 | k + 1,x3=>Ff.l1 k x3 1
def Ff.l1:Nat->List (List Int)->Int->Option ((List (List Int)))
 | 0,_,_=>none
 | k + 1,x3,x5=>if x5 < (x3.length:Int) then(Ff.l2 k x3 x5 x5) else(some x3)
def Ff.l2:Nat->List (List Int)->Int->Int->Option ((List (List Int)))
 | 0,_,_,_=>none
 | k + 1,x3,x5,x6=>if x6 > 0 then(if 0<=x6 then(if x6 < (x3.length:Int) then(if 0<=(wrap64 (x6 - 1)) then(if (wrap64 (x6 - 1)) < (x3.length:Int) then((Ge.f k (Jm x3 x6) (Jm x3 (wrap64 (x6 - 1)))).bind fun ea7=>(if ea7=true then(Ff.l2 k ((x3.set (x6:Int).toNat (Jm x3 (wrap64 (x6 - 1)))).set ((wrap64 (x6 - 1)):Int).toNat (Jm x3 x6)) x5 (wrap64 (x6 - 1))) else(Ff.l1 k x3 (wrap64 (x5 + 1))))) else(none)) else(none)) else(none)) else(none)) else(Ff.l1 k x3 (wrap64 (x5 + 1)))
def Ff.l0:Nat->List (List Int)->Int->List Int->List (List Int)->Option ((List (List Int)))
 | 0,_,_,_,_=>none
 | k + 1,x3,x4,ey6,gg0=>if x4 < (ey6.length:Int) then((Fg.f k ey6 gg0).bind fun gg1=>(if gg1=true then((Fa.f k ey6 gg0 (([x4]:List Int))).bind fun al4=>(if x3.length + al4.length < 5864062014805 then(Ff.l0 k (x3 ++ al4) (wrap64 (x4 + 1)) ey6 gg0) else(none))) else(Ff.j1 k x3))) else(Ff.j1 k x3)
end
def Ff.f (k:Nat) (ab:List Int) (aa:List (List Int)):Option ((List (List Int))):=Ff.l0 k (([]:List (List Int))) 0 ab aa
theorem Ff.V_atq {α:Type} {d:Kd α} {e:Nat} {w w1:World} {base n:Nat} {ok:Nat->Prop} {v:Value} {xs:List α} (hq:World.drewN w n=w1) (h:Kd.V d e w base ok v xs):Kd.V d e w1 base ok v xs:=by subst hq;exact Kd.V_drewN h n
theorem gz {p:Prop} (h:p:=by repeat(first|(with_reducible first|exact HB.out|apply Jf|apply Je|apply Jd|refine Jc ?_ gg2.out)|exact HB.out)):p:=h
set_option maxHeartbeats 8000000 in
set_option maxRecDepth 100000 in
theorem Ff.calls (k:Nat) (ae:Option Addr) (ac:Nat) (ab:List Int) (ag:Option Addr) (af:Nat) (aa:List (List Int)) (r:List (List Int)) (w:World) (ca:Kd.C (Kd.int .i64) w ae ab.length ab) (ce:ab.length<=ac) (cb:Kd.C (Kd.slice 3 (Kd.int .i64)) w ag aa.length aa) (cg:aa.length<=af) (h:Ff.f k ab aa=some r) :
  Calls Try.prog 95 #[.agg #[.slice ae ab.length ac, .slice ag aa.length af]] w fun e w'=>∃v0_:Value,e = .returned (v0_)/\Kd.N (Kd.slice 3 (Kd.int .i64)) 22 w' w.heap.size (fun k_=>(w.heap.size<=k_)) v0_ r/\Below w.heap.size w w':=by
 have hu25:=Try.underlying25
 have bg:=A_ ca
 have bs:=A_ ce
 clear ca ce
 have bd:=A_ cb
 have bv:=A_ cg
 clear cb cg
 have HB:=A_ (Below.refl w.heap.size w)
 have H:=h
 unfold Ff.f at H
 clear h
 obtain⟨id3,hyq⟩:∃y_:List (List Int),y_=(([]:List (List Int))):=⟨_,rfl⟩
 replace H:(Ff.l0 k id3 0 ab aa)=some r:=qh_
 have dd5:=A_ hyq
 clear hyq
 have zz:=A_ H
 clear H
 go_enter Try.func95,Try.ntmps95
 go_upto_block 0 with(first|((with_reducible refine gd_ 1 ?_);refine bx_ (N:=1) #[.slice ae ab.length ac, .slice ag aa.length af] 25 ?_;intro cm hg w3 hbox hb;have dq:=A_ (hbox);have id4:=A_ ((g65_:w.heap.size<=cm));have gg2:=id4;replace HB:=hs_ (gz) hb;clear hb hbox hg)|((with_reducible refine gd_ 8 ?_);refine Kd.N_lit (Kd.slice 3 (Kd.int .i64)) _ 22 ?hg (N':=8) ?hd (xs:=([]:List (List Int))) (inner:=[]) (ok:=(fun k_=>(w.heap.size<=k_)/\k_≠cm)) (okp:=(fun k_=>(w.heap.size<=k_)/\k_≠cm)) ?hr ?hp (fun _ hk=>hk) ((show ∀k_,w3.heap.size<=k_->(fun k_=>(w.heap.size<=k_)/\k_≠cm) k_ from fun k_ hk=>⟨(Nat.le_trans (G9 (gz)) hk),Kd.freshB (g:=cm) (o:=.cells #[.slice ae ab.length ac, .slice ag aa.length af] 25 (0,0)) (uB_ dq) k_ hk⟩) _ (Nat.le_refl _)) (Below.refl _ _) (Nat.le_refl _) (by simp) ?_;(case hd=>rfl);(case hg=>rfl);(case hr=>first|(go_simp;done)|(go_simp;rfl));(case hp=>exact(Reps.none _ _));intro id5 w4 kd hb hg_ hnew_;clear hg_ hnew_;(first|rw[<- dd5.out] at kd|(simp only[Int.reduceToNat] at kd;rw[<- dd5.out] at kd));have gg3:=A_ (Kd.N_lower kd (G9 (gz)));replace dq:=bb_ dq hb;replace HB:=hs_ (gz) hb;clear hb kd))
 repeat(go_quiet (first|((with_reducible refine gd_ 1 ?_);refine bx_ (N:=1) #[.slice ae ab.length ac, .slice ag aa.length af] 25 ?_;intro cm hg w3 hbox hb;have dq:=A_ (hbox);have id4:=A_ ((g65_:w.heap.size<=cm));have gg2:=id4;replace HB:=hs_ (gz) hb;clear hb hbox hg)|((with_reducible refine gd_ 8 ?_);refine Kd.N_lit (Kd.slice 3 (Kd.int .i64)) _ 22 ?hg (N':=8) ?hd (xs:=([]:List (List Int))) (inner:=[]) (ok:=(fun k_=>(w.heap.size<=k_)/\k_≠cm)) (okp:=(fun k_=>(w.heap.size<=k_)/\k_≠cm)) ?hr ?hp (fun _ hk=>hk) ((show ∀k_,w3.heap.size<=k_->(fun k_=>(w.heap.size<=k_)/\k_≠cm) k_ from fun k_ hk=>⟨(Nat.le_trans (G9 (gz)) hk),Kd.freshB (g:=cm) (o:=.cells #[.slice ae ab.length ac, .slice ag aa.length af] 25 (0,0)) (uB_ dq) k_ hk⟩) _ (Nat.le_refl _)) (Below.refl _ _) (Nat.le_refl _) (by simp) ?_;(case hd=>rfl);(case hg=>rfl);(case hr=>first|(go_simp;done)|(go_simp;rfl));(case hp=>exact(Reps.none _ _));intro id5 w4 kd hb hg_ hnew_;clear hg_ hnew_;(first|rw[<- dd5.out] at kd|(simp only[Int.reduceToNat] at kd;rw[<- dd5.out] at kd));have gg3:=A_ (Kd.N_lower kd (G9 (gz)));replace dq:=bb_ dq hb;replace HB:=hs_ (gz) hb;clear hb kd));go_upto_block 0 with(first|((with_reducible refine gd_ 1 ?_);refine bx_ (N:=1) #[.slice ae ab.length ac, .slice ag aa.length af] 25 ?_;intro cm hg w3 hbox hb;have dq:=A_ (hbox);have id4:=A_ ((g65_:w.heap.size<=cm));have gg2:=id4;replace HB:=hs_ (gz) hb;clear hb hbox hg)|((with_reducible refine gd_ 8 ?_);refine Kd.N_lit (Kd.slice 3 (Kd.int .i64)) _ 22 ?hg (N':=8) ?hd (xs:=([]:List (List Int))) (inner:=[]) (ok:=(fun k_=>(w.heap.size<=k_)/\k_≠cm)) (okp:=(fun k_=>(w.heap.size<=k_)/\k_≠cm)) ?hr ?hp (fun _ hk=>hk) ((show ∀k_,w3.heap.size<=k_->(fun k_=>(w.heap.size<=k_)/\k_≠cm) k_ from fun k_ hk=>⟨(Nat.le_trans (G9 (gz)) hk),Kd.freshB (g:=cm) (o:=.cells #[.slice ae ab.length ac, .slice ag aa.length af] 25 (0,0)) (uB_ dq) k_ hk⟩) _ (Nat.le_refl _)) (Below.refl _ _) (Nat.le_refl _) (by simp) ?_;(case hd=>rfl);(case hg=>rfl);(case hr=>first|(go_simp;done)|(go_simp;rfl));(case hp=>exact(Reps.none _ _));intro id5 w4 kd hb hg_ hnew_;clear hg_ hnew_;(first|rw[<- dd5.out] at kd|(simp only[Int.reduceToNat] at kd;rw[<- dd5.out] at kd));have gg3:=A_ (Kd.N_lower kd (G9 (gz)));replace dq:=bb_ dq hb;replace HB:=hs_ (gz) hb;clear hb kd)))
 (try simp only[Act.put,List.setIfInBounds_toArray,List.set_cons_zero,List.set_cons_succ])
 go_cut [3] (fun v3 wc=>∃(kq:Nat) (ch:List (List Int)),G7 (Ff.j1 kq ch=some r)/\G7 (kq<=k)/\G7 (Kd.N (Kd.slice 3 (Kd.int .i64)) 22 wc w.heap.size (fun k_=>(w.heap.size<=k_)/\k_≠cm) v3 ch)/\G7 (hc_ wc cm #[(.slice ae ab.length ac),(.slice ag aa.length af)] 25)/\G7 (Below w.heap.size w wc))
 case first=>
  have H:=zz.out
  clear zz
  have H':=A_ H
  clear H
  go_wp2
  repeat(go_quiet (fail);try go_wp2)
  go_loopg [3,4] k (fun kq v3 v4 w'=>∃(ch:List (List Int)) (ar:Int),v4 = .int .i64 ar/\G7 (Ff.l0 kq ch ar ab aa=some r)/\G7 (kq<=k)/\G7 (Kd.N (Kd.slice 3 (Kd.int .i64)) 22 w' w.heap.size (fun k_=>(w.heap.size<=k_)/\k_≠cm) v3 ch)/\G7 (hc_ w' cm #[(.slice ae ab.length ac),(.slice ag aa.length af)] 25)/\G7 (Below w.heap.size w w'))
  case atStart=>exact⟨(id3),(0),(g3_),H',⟨Nat.le_refl _⟩,⟨uN_ gg3⟩,⟨uB_ dq⟩,⟨gz⟩⟩
  clear H'
  obtain⟨ch,ar,rfl,HA,HK1,a7,dq,HB⟩:=hrel
  cases gk with
  | zero=>exact absurd HA.out (by simp[Ff.l0])
  | succ k1=>?_
  have H:=HA.out
  clear HA
  simp only[Ff.l0] at H
  by_cases c6:ar < (ab.length:Int)
  case neg=>
   rw[if_neg c6] at H
   have kb:=decide_eq_false c6
   clear c6
   (first|rw[kb]|(simp only[i64_w,i32_w];rw[kb])|skip)
   have H':=A_ H
   clear H
   obtain⟨ae5,ae6,ae7,ae8⟩:=blk2_ dq
   go_wp2
   repeat(go_quiet (fail);try go_wp2)
   go_meet
   case rel=>exact⟨_,(ch),H',⟨by have:=HK1.out;first|omega|exact Nat.le_refl _⟩,⟨uN_ a7⟩,⟨uB_ dq⟩,⟨gz⟩⟩
  rw[if_pos c6] at H
  have kb:=decide_eq_true c6
  clear c6
  (first|rw[kb]|(simp only[i64_w,i32_w];rw[kb])|skip)
  obtain⟨gg1,A7,H⟩:=bind_ H
  by_cases c8:gg1=true
  case neg=>
   replace c8:=Bool.eq_false_iff.mpr c8
   subst c8
   replace H:=ifn_ H
   have H':=A_ H
   clear H
   obtain⟨bk5,bk6,bk7,bk8⟩:=blk2_ dq
   iterate 2 (go_wp2_with (first|(go_at_call 42;(refine(Fg.calls k1 _ _ ab _ _ aa false _ (uC_ bg) bs.out (uC_ bd) bv.out A7.out).mono ?_);rintro e w21 ⟨rfl,hb⟩;replace a7:=nb_ a7 hb;replace dq:=bb_ dq hb;replace HB:=hs_ (gz) hb));try(go_quiet (first|(go_at_call 42;(refine(Fg.calls k1 _ _ ab _ _ aa false _ (uC_ bg) bs.out (uC_ bd) bv.out A7.out).mono ?_);rintro e w21 ⟨rfl,hb⟩;replace a7:=nb_ a7 hb;replace dq:=bb_ dq hb;replace HB:=hs_ (gz) hb))))
   go_meet
   case rel=>exact⟨_,(ch),H',⟨by have:=HK1.out;first|omega|exact Nat.le_refl _⟩,⟨uN_ a7⟩,⟨uB_ dq⟩,⟨gz⟩⟩
  subst c8
  replace H:=ifp_ H
  obtain⟨xi,hyq⟩:∃y_:List Int,y_=(([ar]:List Int)):=⟨_,rfl⟩
  replace H:((Fa.f k1 ab aa xi).bind fun al4=>(if ch.length + al4.length < 5864062014805 then(Ff.l0 k1 (ch ++ al4) (wrap64 (ar + 1)) ab aa) else(none)))=some r:=qh_
  have dd6:=A_ hyq
  clear hyq
  obtain⟨al4,A9,H⟩:=bind_ H
  obtain⟨iv,H⟩:=pos_ H
  have gg4:=A_ iv
  clear iv
  obtain⟨id6,hyq⟩:∃y_:List (List Int),y_=(ch ++ al4):=⟨_,rfl⟩
  replace H:(Ff.l0 k1 id6 (wrap64 (ar + 1)) ab aa)=some r:=qh_
  have gg5:=A_ hyq
  clear hyq
  have H':=A_ H
  clear H
  obtain⟨si,sj,sk,sl⟩:=blk2_ dq
  iterate 2 (go_wp2_with (first|(go_at_call 42;(refine(Fg.calls k1 _ _ ab _ _ aa true _ (uC_ bg) bs.out (uC_ bd) bv.out A7.out).mono ?_);rintro e t5 ⟨rfl,hb⟩;replace a7:=nb_ a7 hb;replace dq:=bb_ dq hb;replace HB:=hs_ (gz) hb;obtain⟨sm,sn,so,sp⟩:=blk2_ dq)|((with_reducible refine gd_ 23 ?_);refine rle_ 23 [ar] ?_;intro id7 w14 tg hb hg_ hnew_;clear hg_ hnew_;(first|rw[<- dd6.out] at tg|(simp only[Int.reduceToNat] at tg;rw[<- dd6.out] at tg));replace a7:=A_ (Kd.N_elder' (uN_ a7) (Kd.R_base tg) hb);have nx:=A_ (Kd.R_lower (Kd.R_newM (M:=fun k_=>(w.heap.size<=k_)) tg (G9 (gz)) (fun k_ h_=>h_)) (G9 (gz)));replace dq:=bb_ dq hb;replace HB:=hs_ (gz) hb;clear hb tg;obtain⟨sr,ss,ck1⟩:=Kd.R_slice nx.out;subst ck1)|(go_at_call 113;(refine(Fa.calls k1 _ _ ab _ _ aa _ _ xi al4 _ (uC_ bg) bs.out (uC_ bd) bv.out (cR_ nx) (lR_ nx) A9.out).mono ?_);rintro e zu ⟨id8,rfl,ah,hb⟩;have bg6:=A_ (Kd.N_lower (Kd.N_mono (ok':=fun k_=>(w.heap.size<=k_)/\some k_≠(u3:Value).ownBlock/\some k_≠(.slice sr xi.length ss:Value).ownBlock/\k_≠cm) ah (fun k_ hk_=>⟨(Nat.le_trans (G9 (gz)) hk_),(Kd.fresh' (Kd.N_lt (uN_ a7)) k_ hk_),(Kd.fresh' (Kd.R_lt (uR_ nx)) k_ hk_),(Kd.freshB (g:=cm) (o:=.cells #[.slice ae ab.length ac, .slice ag aa.length af] 25 (0,0)) (uB_ dq) k_ hk_)⟩)) (G9 (gz)));replace a7:=A_ (Kd.N_elder' (uN_ a7) (Kd.N_base ah) hb);replace nx:=rb_ nx hb;replace dq:=bb_ dq hb;replace HB:=hs_ (gz) hb;obtain⟨yt,yu,az2⟩:=Kd.N_slice bg6.out;subst az2)|((with_reducible refine gate_builtin (b:=.append) (xs:=#[.tmp 20, .tmp 24]) rfl ?_);at_builtin;refine Kd.N_append_rows (Kd.slice 3 (Kd.int .i64)) (w0:=w) w.heap.size rfl (.tmp 20) (.tmp 24) 23 22 (.slice none 0 0) 24 rfl Try.underlying23 info22 rfl (by decide) (by omega) u3 ch al4 _ _ _ (fun k_=>(w.heap.size<=k_)/\some k_≠(.slice sr xi.length ss:Value).ownBlock/\k_≠cm) (fun k_=>((fun k_=>(w.heap.size<=k_)/\some k_≠(.slice sr xi.length ss:Value).ownBlock/\k_≠cm)) k_/\some k_≠(u3:Value).ownBlock) rfl rfl ?aO ?aR (fun _ hk=>hk) ?aF ?aB ?aS ?aL ?_;(case aR=>exact(g188_));(case aB=>exact(gz));(case aF=>exact(fun k_ hk=>⟨(Nat.le_trans (G9 (gz)) hk),Kd.fresh' (Kd.R_lt (uR_ nx)) k_ hk,Kd.freshB (g:=cm) (o:=.cells #[.slice ae ab.length ac, .slice ag aa.length af] 25 (0,0)) (uB_ dq) k_ hk⟩));(case aO=>exact(g189_));(case aS=>exact(G9 (gz)));(case aL=>have:=gg4.out;omega);intro id9 w18 ho hb hg hat;rw[<- gg5.out] at ho;replace dq:=(bg_ dq hg (Kd.N_ne a7.out dq.out (by decide)));replace nx:=A_ (Kd.R_over' (uR_ nx) (Kd.N_typed (uN_ a7)) (by decide) hg);replace bg6:=A_ (Kd.N_afterv (ok:=(fun k_=>(w.heap.size<=k_)/\some k_≠(.slice sr xi.length ss:Value).ownBlock/\k_≠cm)) (g190_) hg hat);replace HB:=A_ (hb);have gg6:=A_ (ho);clear a7;clear ho hb hg hat));try(go_quiet (first|(go_at_call 42;(refine(Fg.calls k1 _ _ ab _ _ aa true _ (uC_ bg) bs.out (uC_ bd) bv.out A7.out).mono ?_);rintro e t5 ⟨rfl,hb⟩;replace a7:=nb_ a7 hb;replace dq:=bb_ dq hb;replace HB:=hs_ (gz) hb;obtain⟨sm,sn,so,sp⟩:=blk2_ dq)|(go_at_call 113;(refine(Fa.calls k1 _ _ ab _ _ aa _ _ xi al4 _ (uC_ bg) bs.out (uC_ bd) bv.out (cR_ nx) (lR_ nx) A9.out).mono ?_);rintro e zu ⟨id8,rfl,ah,hb⟩;have bg6:=A_ (Kd.N_lower (Kd.N_mono (ok':=fun k_=>(w.heap.size<=k_)/\some k_≠(u3:Value).ownBlock/\some k_≠(.slice sr xi.length ss:Value).ownBlock/\k_≠cm) ah (fun k_ hk_=>⟨(Nat.le_trans (G9 (gz)) hk_),(Kd.fresh' (Kd.N_lt (uN_ a7)) k_ hk_),(Kd.fresh' (Kd.R_lt (uR_ nx)) k_ hk_),(Kd.freshB (g:=cm) (o:=.cells #[.slice ae ab.length ac, .slice ag aa.length af] 25 (0,0)) (uB_ dq) k_ hk_)⟩)) (G9 (gz)));replace a7:=A_ (Kd.N_elder' (uN_ a7) (Kd.N_base ah) hb);replace nx:=rb_ nx hb;replace dq:=bb_ dq hb;replace HB:=hs_ (gz) hb;obtain⟨yt,yu,az2⟩:=Kd.N_slice bg6.out;subst az2))))
  go_roundg k1
  case measure=>have:=HK1.out;omega
  case rel=>exact⟨(id6),(wrap64 (ar + 1)),(g3_),H',⟨g8_⟩,⟨by(with_reducible repeat(first|apply Kd.N_alloc|apply Kd.N_drewN|apply Kd.N_drew));exact Kd.N_mono gg6.out (fun _ hk=>⟨hk.1,hk.2.2⟩)⟩,⟨uB_ dq⟩,⟨gz⟩⟩
 clear zz
 obtain⟨kq,ch,HA,HJ1,a7,dq,HB⟩:=hcut
 cases kq with
 | zero=>exact absurd HA.out (by simp[Ff.j1])
 | succ kj1=>?_
 have H:=HA.out
 clear HA
 simp only[Ff.j1] at H
 have H':=A_ H
 clear H
 go_wp2
 repeat(go_quiet (fail);try go_wp2)
 go_loopg [5] kj1 (fun kq v5 w'=>∃(d9:List (List Int)) (cv:Int),v5 = .int .i64 cv/\G7 (Ff.l1 kq d9 cv=some r)/\G7 (kq<=kj1)/\G7 (Kd.N (Kd.slice 3 (Kd.int .i64)) 22 w' w.heap.size (fun k_=>(w.heap.size<=k_)/\k_≠cm) u3 d9)/\G7 (hc_ w' cm #[(.slice ae ab.length ac),(.slice ag aa.length af)] 25)/\G7 (Below w.heap.size w w'))
 case atStart=>exact⟨(ch),(1),(g3_),H',⟨Nat.le_refl _⟩,⟨uN_ a7⟩,⟨uB_ dq⟩,⟨gz⟩⟩
 clear H'
 obtain⟨d9,cv,rfl,HA,HK2,a7,dq,HB⟩:=hrel
 cases gk with
 | zero=>exact absurd HA.out (by simp[Ff.l1])
 | succ k2=>?_
 have H:=HA.out
 clear HA
 simp only[Ff.l1] at H
 by_cases ms:cv < (d9.length:Int)
 case neg=>
  rw[if_neg ms] at H
  have bm4:=decide_eq_false ms
  clear ms
  obtain rfl:=Option.some.inj H
  obtain⟨ag9,yv,al6⟩:=Kd.N_slice a7.out
  subst al6
  go_wp2
  repeat(go_quiet (fail);try go_wp2)
  go_ret
  exact⟨_,g4_,by(with_reducible repeat(first|apply Kd.N_alloc|apply Kd.N_drewN|apply Kd.N_drew));exact Kd.N_mono a7.out (fun _ hk=>hk.1),gz⟩
 rw[if_pos ms] at H
 have bm4:=decide_eq_true ms
 clear ms
 have H':=A_ H
 clear H
 obtain⟨aa4,et,ca1⟩:=Kd.N_slice a7.out
 subst ca1
 go_wp2
 repeat(go_quiet (fail);try go_wp2)
 go_loopg [6] k2 (fun kq v6 w'=>∃(ba:List (List Int)) (dw:Int),v6 = .int .i64 dw/\G7 (Ff.l2 kq ba cv dw=some r)/\G7 (kq<=k2)/\G7 (Kd.N (Kd.slice 3 (Kd.int .i64)) 22 w' w.heap.size (fun k_=>(w.heap.size<=k_)/\k_≠cm) (.slice aa4 d9.length et) ba)/\G7 (hc_ w' cm #[(.slice ae ab.length ac),(.slice ag aa.length af)] 25)/\G7 (Below w.heap.size w w'))
 case atStart=>exact⟨(d9),(cv),(g3_),H',⟨Nat.le_refl _⟩,⟨uN_ a7⟩,⟨uB_ dq⟩,⟨gz⟩⟩
 clear H'
 obtain⟨ba,dw,rfl,HA,HK3,a7,dq,HB⟩:=hrel
 have cb7:=(Kd.N_reads' a7.out).1
 rw[cb7] at a7
 (try simp only[cb7])
 (try simp only[cb7] at dq)
 cases gk with
 | zero=>exact absurd HA.out (by simp[Ff.l2])
 | succ k3=>?_
 have H:=HA.out
 clear HA
 simp only[Ff.l2] at H
 by_cases ly:dw > 0
 case neg=>
  rw[if_neg ly] at H
  have be9:=decide_eq_false ly
  clear ly
  have H':=A_ H
  clear H
  go_wp2
  repeat(go_quiet (fail);try go_wp2)
  (try simp only[<- cb7])
  go_roundg k3
  case measure=>have:=HJ1.out;have:=HK2.out;have:=HK3.out;omega
  case rel=>exact⟨(ba),(wrap64 (cv + 1)),(g3_),H',⟨g193_⟩,⟨g194_⟩,⟨g195_⟩,⟨gz⟩⟩
 rw[if_pos ly] at H
 have be9:=decide_eq_true ly
 clear ly
 obtain⟨cm6,H⟩:=pd_ H
 obtain⟨ca3,H⟩:=pd_ H
 obtain⟨ji28,hji28⟩:∃j_:Int,(wrap64 (dw - 1))=j_:=⟨_,rfl⟩
 first|rw[hji28] at H|simp only[hji28] at H
 have hji28w:(IntKind.i64.wrap (dw - 1))=ji28:=(i64_w _).trans hji28
 obtain⟨gg7,H⟩:=pd_ H
 obtain⟨dc7,H⟩:=pd_ H
 obtain⟨ea7,A31,H⟩:=bind_ H
 by_cases xg:ea7=true
 ·subst xg
  replace H:=ifp_ H
  obtain⟨az3,hyq⟩:∃y_:List (List Int),y_=(ba.set (dw:Int).toNat (Jm ba (ji28))):=⟨_,rfl⟩
  replace H:(Ff.l2 k3 (az3.set ((ji28):Int).toNat (Jm ba dw)) cv ji28)=some r:=qh_
  have gg8:=A_ hyq
  clear hyq
  obtain⟨ea8,hyq⟩:∃y_:List (List Int),y_=(az3.set ((ji28):Int).toNat (Jm ba dw)):=⟨_,rfl⟩
  replace H:(Ff.l2 k3 ea8 cv ji28)=some r:=qh_
  have gg9:=A_ hyq
  clear hyq
  have H':=A_ H
  clear H
  have bo6:0<=(dw:Int):=od_
  have bo7:dw < (ba.length:Int):=od_
  obtain⟨bo8,bg7,bg8,gh0,bo9,ea9,eb0⟩:=at_L1 (Kd.N_reads' a7.out).2.2 dw bo6 bo7
  cases gh0
  obtain⟨ce315,hce315,hMe315,hcc315⟩:=Kd.N_get a7.out [] dw bo6 (by first|exact bo7|exact od_|(have e_:=(Kd.N_reads' a7.out).1;omega))
  obtain⟨ua315_0,uc315_0,rfl,ul315_0,ge315_0⟩:=Kd.FK_slice_open hMe315
  have hv315_0:=hcc315 0 _ rfl
  rw[Nat.add_zero,show((Kd.slice 3 (Kd.int .i64))).sz=1 from rfl,Nat.mul_one] at hv315_0
  replace hv315_0:=Option.some.inj (hv315_0.symm.trans bo9)
  injection hv315_0 with hva_ hvn_ hvc_
  rw[hva_] at ge315_0
  rw[hvc_] at ul315_0
  have p8:=A_ (show Kd.V (Kd.int .i64) 3 _ w.heap.size _ _ (Jm ba dw) from Kd.V_mk ul315_0 ge315_0)
  clear hva_ hvn_ hvc_ ge315_0 ul315_0
  clear hcc315 hce315
  have gh1:=A_ eb0
  have cp6:=A_ ea9
  clear eb0 ea9
  replace bo6:=eq_true bo6
  replace bo7:=eq_true bo7
  have bp0:0<=((ji28):Int):=od_
  have bp1:(ji28) < (ba.length:Int):=od_
  obtain⟨gh2,bg9,bh0,gh3,bp2,eb1,eb2⟩:=at_L1 (Kd.N_reads' a7.out).2.2 (ji28) bp0 bp1
  obtain rfl:bo8=gh2:=(by injection gh3)
  obtain⟨ce316,hce316,hMe316,hcc316⟩:=Kd.N_get a7.out [] (ji28) bp0 (by first|exact bp1|exact od_|(have e_:=(Kd.N_reads' a7.out).1;omega))
  obtain⟨ua316_0,uc316_0,rfl,ul316_0,ge316_0⟩:=Kd.FK_slice_open hMe316
  have hv316_0:=hcc316 0 _ rfl
  rw[Nat.add_zero,show((Kd.slice 3 (Kd.int .i64))).sz=1 from rfl,Nat.mul_one] at hv316_0
  replace hv316_0:=Option.some.inj (hv316_0.symm.trans bp2)
  injection hv316_0 with hva_ hvn_ hvc_
  rw[hva_] at ge316_0
  rw[hvc_] at ul316_0
  have qa:=A_ (show Kd.V (Kd.int .i64) 3 _ w.heap.size _ _ (Jm ba (ji28)) from Kd.V_mk ul316_0 ge316_0)
  clear hva_ hvn_ hvc_ ge316_0 ul316_0
  clear hcc316 hce316
  have gh4:=A_ eb2
  have cp7:=A_ eb1
  clear eb2 eb1
  replace bp0:=eq_true bp0
  replace bp1:=eq_true bp1
  iterate 2 (go_wp2_with (first|(go_at_call 114;(refine(Ge.calls k3 _ _ (Jm ba dw) _ _ (Jm ba (ji28)) true _ (cu_ (g66_)) cp6.out (cu_ (g67_)) cp7.out A31.out).mono ?_);rintro e w' ⟨rfl,⟨nd,rfl⟩⟩;(try first|exact⟨rfl,_,World.drewN_drewN _ _ _⟩|exact⟨rfl,_,Eq.trans (World.drewN_drewN _ _ _) (congrArg (World.drewN _) (Nat.add_assoc _ _ _))⟩);have ag7:0<=(dw:Int):=od_;have aq4:dw < (ba.length:Int):=od_;obtain⟨eb3,ie0,ie1,eb4,az4,cb8,cb9⟩:=at_L1 (Kd.N_reads' a7.out).2.2 dw ag7 aq4;obtain rfl:bo8=eb3:=(by injection eb4);obtain⟨ce318,hce318,hMe318,hcc318⟩:=Kd.N_get a7.out [] dw ag7 (g191_);obtain⟨ua318_0,uc318_0,rfl,ul318_0,ge318_0⟩:=Kd.FK_slice_open hMe318;have hv318_0:=hcc318 0 _ rfl;rw[Nat.add_zero,show((Kd.slice 3 (Kd.int .i64))).sz=1 from rfl,Nat.mul_one] at hv318_0;replace hv318_0:=Option.some.inj (hv318_0.symm.trans az4);injection hv318_0 with hva_ hvn_ hvc_;rw[hva_] at ge318_0;rw[hvc_] at ul318_0;have kx:=A_ (show Kd.V (Kd.int .i64) 3 _ w.heap.size _ _ (Jm ba dw) from Kd.V_mk ul318_0 ge318_0);clear hva_ hvn_ hvc_ ge318_0 ul318_0;clear hcc318 hce318;have ie2:=A_ cb9;have ie3:=A_ cb8;clear cb9 cb8;replace ag7:=eq_true ag7;replace aq4:=eq_true aq4;have ea_:=Option.some.inj (bo9.symm.trans az4);injection ea_ with ea_ en_ ec_;subst ea_;subst ec_;clear en_;have ag8:0<=((ji28):Int):=od_;have aq5:(ji28) < (ba.length:Int):=od_;obtain⟨eb5,ie4,ie5,eb6,az5,cc0,cc1⟩:=at_L1 (Kd.N_reads' a7.out).2.2 (ji28) ag8 aq5;obtain rfl:bo8=eb5:=(by injection eb6);obtain⟨ce319,hce319,hMe319,hcc319⟩:=Kd.N_get a7.out [] (ji28) ag8 (g192_);obtain⟨ua319_0,uc319_0,rfl,ul319_0,ge319_0⟩:=Kd.FK_slice_open hMe319;have hv319_0:=hcc319 0 _ rfl;rw[Nat.add_zero,show((Kd.slice 3 (Kd.int .i64))).sz=1 from rfl,Nat.mul_one] at hv319_0;replace hv319_0:=Option.some.inj (hv319_0.symm.trans az5);injection hv319_0 with hva_ hvn_ hvc_;rw[hva_] at ge319_0;rw[hvc_] at ul319_0;have ky:=A_ (show Kd.V (Kd.int .i64) 3 _ w.heap.size _ _ (Jm ba (ji28)) from Kd.V_mk ul319_0 ge319_0);clear hva_ hvn_ hvc_ ge319_0 ul319_0;clear hcc319 hce319;have ie6:=A_ cc1;have ie7:=A_ cc0;clear cc1 cc0;replace ag8:=eq_true ag8;replace aq5:=eq_true aq5;have ea_:=Option.some.inj (bp2.symm.trans az5);injection ea_ with ea_ en_ ec_;subst ea_;subst ec_;clear en_;have p33:0<=(dw:Int):=od_;have q33:(dw:Int) < ((ba.length:Int):Int):=od_;obtain⟨dg,b7,al5,cc2,gl33,cl33,HG33⟩:=Kd.N_form a7.out (by omega);(first|cases al5|(injection al5 with ea_ en_ ec_;(first|subst ea_|(injection ea_ with ea_;subst ea_));subst ec_;clear en_));have GB33:=A_ cc2;have GG33:=A_ HG33;clear cc2 gl33 HG33;(first|simp only[add_plain] at bo9|skip);(first|simp only[add_plain] at bp2|skip);(first|simp only[add_plain] at az4|skip);(first|simp only[add_plain] at az5|skip);obtain⟨ce33,hcl33,hM33,hcc33,hfr33⟩:=Kd.N_elem a7.out [] (dw:Int) p33 q33;obtain⟨ua33_0,uc33_0,rfl,ul33_0,ge33_0⟩:=Kd.FK_slice_open hM33;have eb7:=hcc33 0 _ rfl;have hf33_0:=hfr33 0;(try simp only[show((Kd.slice 3 (Kd.int .i64))).sz=1 from rfl,Nat.mul_one,Nat.add_zero] at eb7);(try simp only[show((Kd.slice 3 (Kd.int .i64))).sz=1 from rfl,Nat.mul_one,Nat.add_zero] at hf33_0);clear hcl33 hcc33 hfr33 hM33;replace p33:=eq_true p33;replace q33:=eq_true q33;have HX35:=A_ (show Kd.N (Kd.slice 3 (Kd.int .i64)) 22 wr w.heap.size (fun k_=>(w.heap.size<=k_)/\k_≠cm) (.slice (some ⟨dg,0,none⟩) ba.length et) ba from(uN_ a7));obtain⟨ce35,hcl35,hM35,hcc35,hfr35⟩:=Kd.N_elem HX35.out [] (dw:Int) (od_) (by have h_:(dw:Int) < ((ba.length:Int):Int):=od_;first|exact h_|(have e_:=(Kd.N_reads' a7.out).1;omega)|simpa using h_);obtain⟨ua35_0,uc35_0,rfl,ul35_0,ge35_0⟩:=Kd.FK_slice_open hM35;have HP35:=Kd.N_seg HX35.out (dw:Int) (od_) (by have h_:(dw:Int) < ((ba.length:Int):Int):=od_;first|exact h_|(have e_:=(Kd.N_reads' a7.out).1;omega)|simpa using h_) (seg:=[.slice bg9 (Jm ba (ji28)).length bh0]) (j:=0) hcl35 hcc35 (show 1<=1 from by decide) (x':=Jm ba (ji28)) (Kd.FK_slice_mk (Kd.V_reads' (Kd.V_mono (ok':=(fun k_=>((fun k_=>(w.heap.size<=k_)/\k_≠cm)) k_/\k_≠dg)) (ky.out) (fun k_ hk=>⟨⟨hk.1.1,hk.1.2⟩,fun e_=>(hk.2) (g6_)⟩))).2.1 (Kd.V_F (Kd.V_mono (ok':=(fun k_=>((fun k_=>(w.heap.size<=k_)/\k_≠cm)) k_/\k_≠dg)) (ky.out) (fun k_ hk=>⟨⟨hk.1.1,hk.1.2⟩,fun e_=>(hk.2) (g6_)⟩)))) (fun _ hk=>hk);have ak8:=hcc35 0 _ rfl;(try simp only[show((Kd.slice 3 (Kd.int .i64))).sz=1 from rfl,Nat.mul_one,Nat.add_zero] at ak8);have hf35_0:=hfr35 0;(try simp only[show((Kd.slice 3 (Kd.int .i64))).sz=1 from rfl,Nat.mul_one,Nat.add_zero] at hf35_0);clear hcl35 hcc35 hfr35 hM35;(try simp only[show((Kd.slice 3 (Kd.int .i64))).sz=1 from rfl,Nat.mul_one,Nat.add_zero] at HP35);(try simp only[show((Kd.slice 3 (Kd.int .i64))).sz=1 from rfl,Nat.mul_one,Nat.add_zero] at HP35))|((with_reducible refine gate_store (t:=22) (p:=60) rfl ?_);(try(rw[drewN_self wr];generalize hq_:World.drewN wr _=wr;replace a7:=A_ (Kd.N_at hq_ a7.out);replace p8:=A_ (Ff.V_atq hq_ p8.out);replace qa:=A_ (Ff.V_atq hq_ qa.out);replace kx:=A_ (Ff.V_atq hq_ kx.out);replace ky:=A_ (Ff.V_atq hq_ ky.out);replace dq:=A_ (blk_at hq_ dq.out);replace HB:=A_ (below_at hq_ HB.out);clear hq_;(try(have HX35:=A_ (show Kd.N (Kd.slice 3 (Kd.int .i64)) 22 wr w.heap.size (fun k_=>(w.heap.size<=k_)/\k_≠cm) (.slice (some ⟨dg,0,none⟩) ba.length et) ba from(uN_ a7))));(try(obtain⟨ce35,hcl35,hM35,hcc35,hfr35⟩:=Kd.N_elem HX35.out [] (dw:Int) (od_) (by have h_:(dw:Int) < ((ba.length:Int):Int):=od_;first|exact h_|(have e_:=(Kd.N_reads' a7.out).1;omega)|simpa using h_)));(try(obtain⟨ua35_0,uc35_0,rfl,ul35_0,ge35_0⟩:=Kd.FK_slice_open hM35));(try(have HP35:=Kd.N_seg HX35.out (dw:Int) (od_) (by have h_:(dw:Int) < ((ba.length:Int):Int):=od_;first|exact h_|(have e_:=(Kd.N_reads' a7.out).1;omega)|simpa using h_) (seg:=[.slice bg9 (Jm ba (ji28)).length bh0]) (j:=0) hcl35 hcc35 (show 1<=1 from by decide) (x':=Jm ba (ji28)) (Kd.FK_slice_mk (Kd.V_reads' (Kd.V_mono (ok':=(fun k_=>((fun k_=>(w.heap.size<=k_)/\k_≠cm)) k_/\k_≠dg)) (ky.out) (fun k_ hk=>⟨⟨hk.1.1,hk.1.2⟩,fun e_=>(hk.2) (g6_)⟩))).2.1 (Kd.V_F (Kd.V_mono (ok':=(fun k_=>((fun k_=>(w.heap.size<=k_)/\k_≠cm)) k_/\k_≠dg)) (ky.out) (fun k_ hk=>⟨⟨hk.1.1,hk.1.2⟩,fun e_=>(hk.2) (g6_)⟩)))) (fun _ hk=>hk)));(try(have ak8:=hcc35 0 _ rfl));(try(try simp only[show((Kd.slice 3 (Kd.int .i64))).sz=1 from rfl,Nat.mul_one,Nat.add_zero] at ak8));(try(have hf35_0:=hfr35 0));(try(try simp only[show((Kd.slice 3 (Kd.int .i64))).sz=1 from rfl,Nat.mul_one,Nat.add_zero] at hf35_0));(try(clear hcl35 hcc35 hfr35 hM35));(try(try simp only[show((Kd.slice 3 (Kd.int .i64))).sz=1 from rfl,Nat.mul_one,Nat.add_zero] at HP35));(try(try simp only[show((Kd.slice 3 (Kd.int .i64))).sz=1 from rfl,Nat.mul_one,Nat.add_zero] at HP35))));refine store_event (t:=22) (p:=60) (v:=?vo_w36) (w1:=(wr.setCell ⟨dg,(dw:Int).toNat,none⟩ (.slice bg9 (Jm ba (ji28)).length bh0))) ?hg ?ho ?hn ?hr ?_;(case ho=>rfl);(case hg=>rfl);(case hn=>rfl);(case hr=>first|(go_simp;done)|(go_simp;rfl));intro kn hw;have hg:wr.grownBy kn (some dg):=(by rw[hw];exact HP35.2);have hp_:Kd.N (Kd.slice 3 (Kd.int .i64)) 22 kn w.heap.size (fun k_=>(w.heap.size<=k_)/\k_≠cm) (.slice (some ⟨dg,0,none⟩) ba.length et) az3:=(by rw[hw,gg8.out];exact HP35.1);clear HP35;replace dq:=(bg_ dq hg (Kd.N_ne a7.out dq.out (by decide)));replace a7:=A_ (hp_);replace p8:=A_ (Kd.V_afterv (v:=(.slice (some ⟨dg,0,none⟩) ba.length et)) (v1:=(.slice (some ⟨dg,0,none⟩) ba.length et)) (ok:=(fun k_=>(w.heap.size<=k_)/\k_≠cm)) (uV_ p8) hg (.inl rfl));replace qa:=A_ (Kd.V_afterv (v:=(.slice (some ⟨dg,0,none⟩) ba.length et)) (v1:=(.slice (some ⟨dg,0,none⟩) ba.length et)) (ok:=(fun k_=>(w.heap.size<=k_)/\k_≠cm)) (uV_ qa) hg (.inl rfl));replace kx:=A_ (Kd.V_afterv (v:=(.slice (some ⟨dg,0,none⟩) ba.length et)) (v1:=(.slice (some ⟨dg,0,none⟩) ba.length et)) (ok:=(fun k_=>(w.heap.size<=k_)/\k_≠cm)) (uV_ kx) hg (.inl rfl));replace ky:=A_ (Kd.V_afterv (v:=(.slice (some ⟨dg,0,none⟩) ba.length et)) (v1:=(.slice (some ⟨dg,0,none⟩) ba.length et)) (ok:=(fun k_=>(w.heap.size<=k_)/\k_≠cm)) (uV_ ky) hg (.inl rfl));replace HB:=A_ ((g68_:Below w.heap.size w kn));clear hg hw hp_;have p34:0<=((ji28):Int):=od_;have q34:((ji28):Int) < ((ba.length:Int):Int):=od_;obtain⟨ce34,hcl34,hM34,hcc34,hfr34⟩:=Kd.N_elem a7.out [] ((ji28):Int) p34 q34;obtain⟨ua34_0,uc34_0,rfl,ul34_0,ge34_0⟩:=Kd.FK_slice_open hM34;have eb8:=hcc34 0 _ rfl;have hf34_0:=hfr34 0;(try simp only[show((Kd.slice 3 (Kd.int .i64))).sz=1 from rfl,Nat.mul_one,Nat.add_zero] at eb8);(try simp only[show((Kd.slice 3 (Kd.int .i64))).sz=1 from rfl,Nat.mul_one,Nat.add_zero] at hf34_0);clear hcl34 hcc34 hfr34 hM34;replace p34:=eq_true p34;replace q34:=eq_true q34;have HX37:=A_ (show Kd.N (Kd.slice 3 (Kd.int .i64)) 22 kn w.heap.size (fun k_=>(w.heap.size<=k_)/\k_≠cm) (.slice (some ⟨dg,0,none⟩) ba.length et) az3 from(uN_ a7));obtain⟨ce37,hcl37,hM37,hcc37,hfr37⟩:=Kd.N_elem HX37.out [] ((ji28):Int) (od_) (by have h_:((ji28):Int) < ((ba.length:Int):Int):=od_;first|exact h_|(have e_:=(Kd.N_reads' a7.out).1;omega)|simpa using h_);obtain⟨ua37_0,uc37_0,rfl,ul37_0,ge37_0⟩:=Kd.FK_slice_open hM37;have HP37:=Kd.N_seg HX37.out ((ji28):Int) (od_) (by have h_:((ji28):Int) < ((ba.length:Int):Int):=od_;first|exact h_|(have e_:=(Kd.N_reads' a7.out).1;omega)|simpa using h_) (seg:=[.slice bg7 (Jm ba dw).length bg8]) (j:=0) hcl37 hcc37 (show 1<=1 from by decide) (x':=Jm ba dw) (Kd.FK_slice_mk (Kd.V_reads' (Kd.V_mono (ok':=(fun k_=>((fun k_=>(w.heap.size<=k_)/\k_≠cm)) k_/\k_≠dg)) (kx.out) (fun k_ hk=>⟨⟨hk.1.1,hk.1.2⟩,fun e_=>(hk.2) (g6_)⟩))).2.1 (Kd.V_F (Kd.V_mono (ok':=(fun k_=>((fun k_=>(w.heap.size<=k_)/\k_≠cm)) k_/\k_≠dg)) (kx.out) (fun k_ hk=>⟨⟨hk.1.1,hk.1.2⟩,fun e_=>(hk.2) (g6_)⟩)))) (fun _ hk=>hk);have az6:=hcc37 0 _ rfl;(try simp only[show((Kd.slice 3 (Kd.int .i64))).sz=1 from rfl,Nat.mul_one,Nat.add_zero] at az6);have hf37_0:=hfr37 0;(try simp only[show((Kd.slice 3 (Kd.int .i64))).sz=1 from rfl,Nat.mul_one,Nat.add_zero] at hf37_0);clear hcl37 hcc37 hfr37 hM37;(try simp only[show((Kd.slice 3 (Kd.int .i64))).sz=1 from rfl,Nat.mul_one,Nat.add_zero] at HP37);(try simp only[show((Kd.slice 3 (Kd.int .i64))).sz=1 from rfl,Nat.mul_one,Nat.add_zero] at HP37))|((with_reducible refine gate_store (t:=22) (p:=65) rfl ?_);(try(rw[drewN_self kn];generalize hq_:World.drewN kn _=kn;replace a7:=A_ (Kd.N_at hq_ a7.out);replace p8:=A_ (Ff.V_atq hq_ p8.out);replace qa:=A_ (Ff.V_atq hq_ qa.out);replace kx:=A_ (Ff.V_atq hq_ kx.out);replace ky:=A_ (Ff.V_atq hq_ ky.out);replace dq:=A_ (blk_at hq_ dq.out);replace HB:=A_ (below_at hq_ HB.out);clear hq_;(try(have HX37:=A_ (show Kd.N (Kd.slice 3 (Kd.int .i64)) 22 kn w.heap.size (fun k_=>(w.heap.size<=k_)/\k_≠cm) (.slice (some ⟨dg,0,none⟩) ba.length et) az3 from(uN_ a7))));(try(obtain⟨ce37,hcl37,hM37,hcc37,hfr37⟩:=Kd.N_elem HX37.out [] ((ji28):Int) (od_) (by have h_:((ji28):Int) < ((ba.length:Int):Int):=od_;first|exact h_|(have e_:=(Kd.N_reads' a7.out).1;omega)|simpa using h_)));(try(obtain⟨ua37_0,uc37_0,rfl,ul37_0,ge37_0⟩:=Kd.FK_slice_open hM37));(try(have HP37:=Kd.N_seg HX37.out ((ji28):Int) (od_) (by have h_:((ji28):Int) < ((ba.length:Int):Int):=od_;first|exact h_|(have e_:=(Kd.N_reads' a7.out).1;omega)|simpa using h_) (seg:=[.slice bg7 (Jm ba dw).length bg8]) (j:=0) hcl37 hcc37 (show 1<=1 from by decide) (x':=Jm ba dw) (Kd.FK_slice_mk (Kd.V_reads' (Kd.V_mono (ok':=(fun k_=>((fun k_=>(w.heap.size<=k_)/\k_≠cm)) k_/\k_≠dg)) (kx.out) (fun k_ hk=>⟨⟨hk.1.1,hk.1.2⟩,fun e_=>(hk.2) (g6_)⟩))).2.1 (Kd.V_F (Kd.V_mono (ok':=(fun k_=>((fun k_=>(w.heap.size<=k_)/\k_≠cm)) k_/\k_≠dg)) (kx.out) (fun k_ hk=>⟨⟨hk.1.1,hk.1.2⟩,fun e_=>(hk.2) (g6_)⟩)))) (fun _ hk=>hk)));(try(have az6:=hcc37 0 _ rfl));(try(try simp only[show((Kd.slice 3 (Kd.int .i64))).sz=1 from rfl,Nat.mul_one,Nat.add_zero] at az6));(try(have hf37_0:=hfr37 0));(try(try simp only[show((Kd.slice 3 (Kd.int .i64))).sz=1 from rfl,Nat.mul_one,Nat.add_zero] at hf37_0));(try(clear hcl37 hcc37 hfr37 hM37));(try(try simp only[show((Kd.slice 3 (Kd.int .i64))).sz=1 from rfl,Nat.mul_one,Nat.add_zero] at HP37));(try(try simp only[show((Kd.slice 3 (Kd.int .i64))).sz=1 from rfl,Nat.mul_one,Nat.add_zero] at HP37))));refine store_event (t:=22) (p:=65) (v:=?vo_w38) (w1:=(kn.setCell ⟨dg,((ji28):Int).toNat,none⟩ (.slice bg7 (Jm ba dw).length bg8))) ?hg ?ho ?hn ?hr ?_;(case ho=>rfl);(case hg=>rfl);(case hn=>rfl);(case hr=>first|(go_simp;done)|(go_simp;rfl));intro lc hw;have hg:kn.grownBy lc (some dg):=(by rw[hw];exact HP37.2);have hp_:Kd.N (Kd.slice 3 (Kd.int .i64)) 22 lc w.heap.size (fun k_=>(w.heap.size<=k_)/\k_≠cm) (.slice (some ⟨dg,0,none⟩) ba.length et) ea8:=(by rw[hw,gg9.out];exact HP37.1);clear HP37;replace dq:=(bg_ dq hg (Kd.N_ne a7.out dq.out (by decide)));replace a7:=A_ (hp_);replace p8:=A_ (Kd.V_afterv (v:=(.slice (some ⟨dg,0,none⟩) ba.length et)) (v1:=(.slice (some ⟨dg,0,none⟩) ba.length et)) (ok:=(fun k_=>(w.heap.size<=k_)/\k_≠cm)) (uV_ p8) hg (.inl rfl));replace qa:=A_ (Kd.V_afterv (v:=(.slice (some ⟨dg,0,none⟩) ba.length et)) (v1:=(.slice (some ⟨dg,0,none⟩) ba.length et)) (ok:=(fun k_=>(w.heap.size<=k_)/\k_≠cm)) (uV_ qa) hg (.inl rfl));replace kx:=A_ (Kd.V_afterv (v:=(.slice (some ⟨dg,0,none⟩) ba.length et)) (v1:=(.slice (some ⟨dg,0,none⟩) ba.length et)) (ok:=(fun k_=>(w.heap.size<=k_)/\k_≠cm)) (uV_ kx) hg (.inl rfl));replace ky:=A_ (Kd.V_afterv (v:=(.slice (some ⟨dg,0,none⟩) ba.length et)) (v1:=(.slice (some ⟨dg,0,none⟩) ba.length et)) (ok:=(fun k_=>(w.heap.size<=k_)/\k_≠cm)) (uV_ ky) hg (.inl rfl));replace HB:=A_ ((g68_:Below w.heap.size w lc));clear hg hw hp_));try(go_quiet (first|(go_at_call 114;(refine(Ge.calls k3 _ _ (Jm ba dw) _ _ (Jm ba (ji28)) true _ (cu_ (g66_)) cp6.out (cu_ (g67_)) cp7.out A31.out).mono ?_);rintro e w' ⟨rfl,⟨nd,rfl⟩⟩;(try first|exact⟨rfl,_,World.drewN_drewN _ _ _⟩|exact⟨rfl,_,Eq.trans (World.drewN_drewN _ _ _) (congrArg (World.drewN _) (Nat.add_assoc _ _ _))⟩);have ag7:0<=(dw:Int):=od_;have aq4:dw < (ba.length:Int):=od_;obtain⟨eb3,ie0,ie1,eb4,az4,cb8,cb9⟩:=at_L1 (Kd.N_reads' a7.out).2.2 dw ag7 aq4;obtain rfl:bo8=eb3:=(by injection eb4);obtain⟨ce318,hce318,hMe318,hcc318⟩:=Kd.N_get a7.out [] dw ag7 (g191_);obtain⟨ua318_0,uc318_0,rfl,ul318_0,ge318_0⟩:=Kd.FK_slice_open hMe318;have hv318_0:=hcc318 0 _ rfl;rw[Nat.add_zero,show((Kd.slice 3 (Kd.int .i64))).sz=1 from rfl,Nat.mul_one] at hv318_0;replace hv318_0:=Option.some.inj (hv318_0.symm.trans az4);injection hv318_0 with hva_ hvn_ hvc_;rw[hva_] at ge318_0;rw[hvc_] at ul318_0;have kx:=A_ (show Kd.V (Kd.int .i64) 3 _ w.heap.size _ _ (Jm ba dw) from Kd.V_mk ul318_0 ge318_0);clear hva_ hvn_ hvc_ ge318_0 ul318_0;clear hcc318 hce318;have ie2:=A_ cb9;have ie3:=A_ cb8;clear cb9 cb8;replace ag7:=eq_true ag7;replace aq4:=eq_true aq4;have ea_:=Option.some.inj (bo9.symm.trans az4);injection ea_ with ea_ en_ ec_;subst ea_;subst ec_;clear en_;have ag8:0<=((ji28):Int):=od_;have aq5:(ji28) < (ba.length:Int):=od_;obtain⟨eb5,ie4,ie5,eb6,az5,cc0,cc1⟩:=at_L1 (Kd.N_reads' a7.out).2.2 (ji28) ag8 aq5;obtain rfl:bo8=eb5:=(by injection eb6);obtain⟨ce319,hce319,hMe319,hcc319⟩:=Kd.N_get a7.out [] (ji28) ag8 (g192_);obtain⟨ua319_0,uc319_0,rfl,ul319_0,ge319_0⟩:=Kd.FK_slice_open hMe319;have hv319_0:=hcc319 0 _ rfl;rw[Nat.add_zero,show((Kd.slice 3 (Kd.int .i64))).sz=1 from rfl,Nat.mul_one] at hv319_0;replace hv319_0:=Option.some.inj (hv319_0.symm.trans az5);injection hv319_0 with hva_ hvn_ hvc_;rw[hva_] at ge319_0;rw[hvc_] at ul319_0;have ky:=A_ (show Kd.V (Kd.int .i64) 3 _ w.heap.size _ _ (Jm ba (ji28)) from Kd.V_mk ul319_0 ge319_0);clear hva_ hvn_ hvc_ ge319_0 ul319_0;clear hcc319 hce319;have ie6:=A_ cc1;have ie7:=A_ cc0;clear cc1 cc0;replace ag8:=eq_true ag8;replace aq5:=eq_true aq5;have ea_:=Option.some.inj (bp2.symm.trans az5);injection ea_ with ea_ en_ ec_;subst ea_;subst ec_;clear en_;have p33:0<=(dw:Int):=od_;have q33:(dw:Int) < ((ba.length:Int):Int):=od_;obtain⟨dg,b7,al5,cc2,gl33,cl33,HG33⟩:=Kd.N_form a7.out (by omega);(first|cases al5|(injection al5 with ea_ en_ ec_;(first|subst ea_|(injection ea_ with ea_;subst ea_));subst ec_;clear en_));have GB33:=A_ cc2;have GG33:=A_ HG33;clear cc2 gl33 HG33;(first|simp only[add_plain] at bo9|skip);(first|simp only[add_plain] at bp2|skip);(first|simp only[add_plain] at az4|skip);(first|simp only[add_plain] at az5|skip);obtain⟨ce33,hcl33,hM33,hcc33,hfr33⟩:=Kd.N_elem a7.out [] (dw:Int) p33 q33;obtain⟨ua33_0,uc33_0,rfl,ul33_0,ge33_0⟩:=Kd.FK_slice_open hM33;have eb7:=hcc33 0 _ rfl;have hf33_0:=hfr33 0;(try simp only[show((Kd.slice 3 (Kd.int .i64))).sz=1 from rfl,Nat.mul_one,Nat.add_zero] at eb7);(try simp only[show((Kd.slice 3 (Kd.int .i64))).sz=1 from rfl,Nat.mul_one,Nat.add_zero] at hf33_0);clear hcl33 hcc33 hfr33 hM33;replace p33:=eq_true p33;replace q33:=eq_true q33;have HX35:=A_ (show Kd.N (Kd.slice 3 (Kd.int .i64)) 22 wr w.heap.size (fun k_=>(w.heap.size<=k_)/\k_≠cm) (.slice (some ⟨dg,0,none⟩) ba.length et) ba from(uN_ a7));obtain⟨ce35,hcl35,hM35,hcc35,hfr35⟩:=Kd.N_elem HX35.out [] (dw:Int) (od_) (by have h_:(dw:Int) < ((ba.length:Int):Int):=od_;first|exact h_|(have e_:=(Kd.N_reads' a7.out).1;omega)|simpa using h_);obtain⟨ua35_0,uc35_0,rfl,ul35_0,ge35_0⟩:=Kd.FK_slice_open hM35;have HP35:=Kd.N_seg HX35.out (dw:Int) (od_) (by have h_:(dw:Int) < ((ba.length:Int):Int):=od_;first|exact h_|(have e_:=(Kd.N_reads' a7.out).1;omega)|simpa using h_) (seg:=[.slice bg9 (Jm ba (ji28)).length bh0]) (j:=0) hcl35 hcc35 (show 1<=1 from by decide) (x':=Jm ba (ji28)) (Kd.FK_slice_mk (Kd.V_reads' (Kd.V_mono (ok':=(fun k_=>((fun k_=>(w.heap.size<=k_)/\k_≠cm)) k_/\k_≠dg)) (ky.out) (fun k_ hk=>⟨⟨hk.1.1,hk.1.2⟩,fun e_=>(hk.2) (g6_)⟩))).2.1 (Kd.V_F (Kd.V_mono (ok':=(fun k_=>((fun k_=>(w.heap.size<=k_)/\k_≠cm)) k_/\k_≠dg)) (ky.out) (fun k_ hk=>⟨⟨hk.1.1,hk.1.2⟩,fun e_=>(hk.2) (g6_)⟩)))) (fun _ hk=>hk);have ak8:=hcc35 0 _ rfl;(try simp only[show((Kd.slice 3 (Kd.int .i64))).sz=1 from rfl,Nat.mul_one,Nat.add_zero] at ak8);have hf35_0:=hfr35 0;(try simp only[show((Kd.slice 3 (Kd.int .i64))).sz=1 from rfl,Nat.mul_one,Nat.add_zero] at hf35_0);clear hcl35 hcc35 hfr35 hM35;(try simp only[show((Kd.slice 3 (Kd.int .i64))).sz=1 from rfl,Nat.mul_one,Nat.add_zero] at HP35);(try simp only[show((Kd.slice 3 (Kd.int .i64))).sz=1 from rfl,Nat.mul_one,Nat.add_zero] at HP35)))))
  (try simp only[<- cb7])
  go_roundg k3
  case measure=>have:=HJ1.out;have:=HK2.out;have:=HK3.out;omega
  case rel=>exact⟨(ea8),(ji28),(by first|rfl|(simp;done)|(simp only[<- hji28] <;> (first|rfl|simp))|(simp[*];done)),H',⟨g193_⟩,⟨g194_⟩,⟨g195_⟩,⟨gz⟩⟩
 replace xg:=Bool.eq_false_iff.mpr xg
 subst xg
 replace H:=ifn_ H
 have H':=A_ H
 clear H
 have bo6:0<=(dw:Int):=od_
 have bo7:dw < (ba.length:Int):=od_
 obtain⟨bo8,bg7,bg8,gh0,bo9,ea9,eb0⟩:=at_L1 (Kd.N_reads' a7.out).2.2 dw bo6 bo7
 cases gh0
 obtain⟨ce315,hce315,hMe315,hcc315⟩:=Kd.N_get a7.out [] dw bo6 (by first|exact bo7|exact od_|(have e_:=(Kd.N_reads' a7.out).1;omega))
 obtain⟨ua315_0,uc315_0,rfl,ul315_0,ge315_0⟩:=Kd.FK_slice_open hMe315
 have hv315_0:=hcc315 0 _ rfl
 rw[Nat.add_zero,show((Kd.slice 3 (Kd.int .i64))).sz=1 from rfl,Nat.mul_one] at hv315_0
 replace hv315_0:=Option.some.inj (hv315_0.symm.trans bo9)
 injection hv315_0 with hva_ hvn_ hvc_
 rw[hva_] at ge315_0
 rw[hvc_] at ul315_0
 have p8:=A_ (show Kd.V (Kd.int .i64) 3 _ w.heap.size _ _ (Jm ba dw) from Kd.V_mk ul315_0 ge315_0)
 clear hva_ hvn_ hvc_ ge315_0 ul315_0
 clear hcc315 hce315
 have gh1:=A_ eb0
 have cp6:=A_ ea9
 clear eb0 ea9
 replace bo6:=eq_true bo6
 replace bo7:=eq_true bo7
 have bp0:0<=((ji28):Int):=od_
 have bp1:(ji28) < (ba.length:Int):=od_
 obtain⟨gh2,bg9,bh0,gh3,bp2,eb1,eb2⟩:=at_L1 (Kd.N_reads' a7.out).2.2 (ji28) bp0 bp1
 obtain rfl:bo8=gh2:=(by injection gh3)
 obtain⟨ce316,hce316,hMe316,hcc316⟩:=Kd.N_get a7.out [] (ji28) bp0 (by first|exact bp1|exact od_|(have e_:=(Kd.N_reads' a7.out).1;omega))
 obtain⟨ua316_0,uc316_0,rfl,ul316_0,ge316_0⟩:=Kd.FK_slice_open hMe316
 have hv316_0:=hcc316 0 _ rfl
 rw[Nat.add_zero,show((Kd.slice 3 (Kd.int .i64))).sz=1 from rfl,Nat.mul_one] at hv316_0
 replace hv316_0:=Option.some.inj (hv316_0.symm.trans bp2)
 injection hv316_0 with hva_ hvn_ hvc_
 rw[hva_] at ge316_0
 rw[hvc_] at ul316_0
 have qa:=A_ (show Kd.V (Kd.int .i64) 3 _ w.heap.size _ _ (Jm ba (ji28)) from Kd.V_mk ul316_0 ge316_0)
 clear hva_ hvn_ hvc_ ge316_0 ul316_0
 clear hcc316 hce316
 have gh4:=A_ eb2
 have cp7:=A_ eb1
 clear eb2 eb1
 replace bp0:=eq_true bp0
 replace bp1:=eq_true bp1
 iterate 2 (go_wp2_with (first|(go_at_call 114;(refine(Ge.calls k3 _ _ (Jm ba dw) _ _ (Jm ba (ji28)) false _ (cu_ (g66_)) cp6.out (cu_ (g67_)) cp7.out A31.out).mono ?_);rintro e w' ⟨rfl,⟨nd,rfl⟩⟩;(try first|exact⟨rfl,_,World.drewN_drewN _ _ _⟩|exact⟨rfl,_,Eq.trans (World.drewN_drewN _ _ _) (congrArg (World.drewN _) (Nat.add_assoc _ _ _))⟩)));try(go_quiet (first|(go_at_call 114;(refine(Ge.calls k3 _ _ (Jm ba dw) _ _ (Jm ba (ji28)) false _ (cu_ (g66_)) cp6.out (cu_ (g67_)) cp7.out A31.out).mono ?_);rintro e w' ⟨rfl,⟨nd,rfl⟩⟩;(try first|exact⟨rfl,_,World.drewN_drewN _ _ _⟩|exact⟨rfl,_,Eq.trans (World.drewN_drewN _ _ _) (congrArg (World.drewN _) (Nat.add_assoc _ _ _))⟩)))))
 (try simp only[<- cb7])
 go_roundg k3
 case measure=>have:=HJ1.out;have:=HK2.out;have:=HK3.out;omega
 case rel=>exact⟨(ba),(wrap64 (cv + 1)),(g3_),H',⟨g193_⟩,⟨g194_⟩,⟨g195_⟩,⟨gz⟩⟩
mutual
def Fl.l0:Nat->List Int->Int->Int->List Int->List (List Int)->List Int->List (List Int)->Option (List Int × (List (List Int)))
 | 0,_,_,_,_,_,_,_=>none
 | k + 1,x1,x6,x7,ey7,bh1,eb9,cc3=>if x7 < (x1.length:Int) then(if 0<=x7 then(if 0<=(rd x1 x7) then(if (rd x1 x7) < (bh1.length:Int) then(if (x1.length:Int)=0 then(none) else(if 0<=(Int.tmod (wrap64 (x7 + 1)) (x1.length:Int)) then(if (Int.tmod (wrap64 (x7 + 1)) (x1.length:Int)) < (x1.length:Int) then(if 0<=(rd x1 (Int.tmod (wrap64 (x7 + 1)) (x1.length:Int))) then(if (rd x1 (Int.tmod (wrap64 (x7 + 1)) (x1.length:Int))) < ((Jm bh1 (rd x1 x7)).length:Int) then(Fl.l0 k x1 (mn x6 (rd (Jm bh1 (rd x1 x7)) (rd x1 (Int.tmod (wrap64 (x7 + 1)) (x1.length:Int))))) (wrap64 (x7 + 1)) ey7 bh1 eb9 cc3) else(none)) else(none)) else(none)) else(none))) else(none)) else(none)) else(none)) else(Fl.l1 k x1 x6 0 ey7 bh1 eb9 cc3)
def Fl.l1:Nat->List Int->Int->Int->List Int->List (List Int)->List Int->List (List Int)->Option (List Int × (List (List Int)))
 | 0,_,_,_,_,_,_,_=>none
 | k + 1,x1,x6,x8,ey7,bh1,eb9,cc3=>if x8 < (x1.length:Int) then(if 0<=x8 then(if (x1.length:Int)=0 then(none) else(if 0<=(Int.tmod (wrap64 (x8 + 1)) (x1.length:Int)) then(if (Int.tmod (wrap64 (x8 + 1)) (x1.length:Int)) < (x1.length:Int) then(if 0<=(rd x1 x8) then(if (rd x1 x8) < (cc3.length:Int) then(if (rd x1 x8) < (bh1.length:Int) then(if 0<=(rd x1 (Int.tmod (wrap64 (x8 + 1)) (x1.length:Int))) then(if (rd x1 (Int.tmod (wrap64 (x8 + 1)) (x1.length:Int))) < ((Jm bh1 (rd x1 x8)).length:Int) then(if (rd x1 (Int.tmod (wrap64 (x8 + 1)) (x1.length:Int))) < ((Jm cc3 (rd x1 x8)).length:Int) then(Fl.l1 k x1 x6 (wrap64 (x8 + 1)) ey7 bh1 eb9 (cc3.set ((rd x1 x8):Int).toNat ((Jm cc3 (rd x1 x8)).set ((rd x1 (Int.tmod (wrap64 (x8 + 1)) (x1.length:Int))):Int).toNat (wrap64 ((rd (Jm bh1 (rd x1 x8)) (rd x1 (Int.tmod (wrap64 (x8 + 1)) (x1.length:Int)))) - x6))))) else(none)) else(none)) else(none)) else(none)) else(none)) else(none)) else(none)) else(none))) else(none)) else(some (eb9,cc3))
end
def Fl.f (k:Nat) (ab:List Int) (aa:List (List Int)) (l1:List Int):Option (List Int × (List (List Int))):=(Fr.f k ab aa).bind fun bt324=>(Fl.l0 k l1 9 0 ab aa bt324.1 bt324.2)
def Fl.T6:Bool × List (List Nat × List Nat):=(true,[([],[]),([],[]),([1],[1]),([],[]),([],[]),([3,4],[3,4]),([5],[5]),([2,6],[2,6]),([7],[7]),([],[]),([],[]),([10],[10]),([],[]),([12],[12]),([11,13],[11,13]),([9,14],[9,14]),([15],[15]),([8,16],[8,16]),([17],[17]),([0,18],[0,18]),([19,0,1,2,3,4,5,6,7,8,9,10,11,12,13,14,15,16,17,18,19],[0,19])])
def Fl.B6:List Nat:=[0,0,2,0,0,24,56,126,254,0,0,1024,0,4096,15360,32256,65024,131070,262142,524287,1048575]
theorem Fl.tab6:rtab .any (opsOf Try.f98 6)=Fl.T6:=by kernel_rfl
theorem Fl.bits6:waitsOk Fl.T6.2 Fl.B6=true:=by kernel_rfl
def Fl.T12:Bool × List (List Nat × List Nat):=(true,[([],[]),([0],[0]),([],[]),([1,2],[1,2]),([3],[3]),([],[]),([],[]),([6],[6]),([],[]),([7,8],[7,8]),([9],[9]),([],[]),([10,11],[10,11]),([12],[12]),([],[]),([13,14],[13,14]),([4,5,0,1,2,3,4,5,6,7,8,9,10,11,12,13,14,15],[4,5]),([16,15,0,1,2,3,4,5,6,7,8,9,10,11,12,13,14,15],[15,16])])
def Fl.B12:List Nat:=[0,1,0,7,15,0,0,64,0,448,960,0,4032,8128,0,32704,65535,131071]
theorem Fl.tab12:rtab .any (opsOf Try.f98 12)=Fl.T12:=by kernel_rfl
theorem Fl.bits12:waitsOk Fl.T12.2 Fl.B12=true:=by kernel_rfl
theorem av4 {p:Prop} (h:p:=by repeat(first|(with_reducible first|exact HB.out|apply Jf|apply Je|apply Jd|refine Jc ?_ km3.out|refine Jc ?_ km4.out|refine Jc ?_ km5.out|refine Jc ?_ GB39.out)|exact HB.out)):p:=h
set_option maxHeartbeats 8000000 in
set_option maxRecDepth 100000 in
theorem Fl.calls (k:Nat) (ae:Option Addr) (ac:Nat) (ab:List Int) (ag:Option Addr) (af:Nat) (aa:List (List Int)) (A1:Option Addr) (c1:Nat) (l1:List Int) (r1:List Int) (r2:List (List Int)) (w:World) (ca:Kd.C (Kd.int .i64) w ae ab.length ab) (ce:ab.length<=ac) (cb:Kd.C (Kd.slice 3 (Kd.int .i64)) w ag aa.length aa) (cg:aa.length<=af) (il:Kd.C (Kd.int .i64) w A1 l1.length l1) (iu:l1.length<=c1) (h:Fl.f k ab aa l1=some (r1,r2)) :
  Calls Try.prog 98 #[.agg #[.slice ae ab.length ac, .slice ag aa.length af], .slice A1 l1.length c1] w fun e w'=>∃v0_ v1_:Value,e = .returned (.agg #[v0_,v1_])/\Kd.R (Kd.int .i64) 3 w' w.heap.size (fun _=>True) v0_ r1/\Kd.S (Kd.slice 3 (Kd.int .i64)) 22 w' w.heap.size (fun k_=>some k_≠(v0_:Value).ownBlock) v1_ r2/\Below w.heap.size w w':=by
 have hu25:=Try.underlying25
 have bg:=A_ ca
 have bs:=A_ ce
 clear ca ce
 have bd:=A_ cb
 have bv:=A_ cg
 clear cb cg
 have fq:=A_ il
 have pb:=A_ iu
 clear il iu
 have HB:=A_ (Below.refl w.heap.size w)
 have H:=h
 unfold Fl.f at H
 clear h
 replace H:=Option.bind_eq_some_iff.mp H
 obtain⟨⟨al7,az7⟩,yw,H⟩:=H
 try dsimp only at H
 have A3:=A_ yw
 clear yw
 have H':=A_ H
 clear H
 go_enter Try.func98,Try.ntmps98
 go_wp2_with (first|((with_reducible refine gd_ 2 ?_);refine bx_ (N:=2) #[.slice ae ab.length ac, .slice ag aa.length af] 25 ?_;intro yx hg w4 hbox hb;have oq:=A_ (hbox);have nl6:=A_ ((g69_:w.heap.size<=yx));have km3:=nl6;replace HB:=hs_ (av4) hb;clear hb hbox hg)|((with_reducible refine gd_ 4 ?_);refine bx_ (N:=4) #[.slice none 0 0, .slice none 0 0] 25 ?_;intro aa9 hg w5 hbox hb;have qx:=A_ (hbox);have nl7:=A_ ((g69_:w.heap.size<=aa9));have km4:=nl7;replace HB:=hs_ (av4) hb;have ie8:=nl_ oq hg;have ie9:=nr_ oq hg;replace oq:=bb_ oq hb;clear hb hbox hg;have if0:=ie8.out;have if1:=ie9.out;obtain⟨z8,z9,aa0,aa1⟩:=blk2_ oq)|((with_reducible refine gc_ 80 ?_);refine gl_ 12 Try.func80 #[.agg #[.slice ae ab.length ac, .slice ag aa.length af]] ?_;(refine(Fr.calls k _ _ ab _ _ aa al7 az7 _ (uC_ bg) bs.out (uC_ bd) bv.out A3.out).mono ?_);rintro e w8 ⟨nl8,nl9,rfl,ah,ak,hb⟩;refine⟨_,rfl,?_⟩;have ey8:=A_ (Kd.R_lower ah (G9 (av4)));have ey9:=A_ (Kd.S_lower ak (G9 (av4)));replace oq:=bb_ oq hb;replace qx:=bb_ qx hb;replace HB:=hs_ (av4) hb)|((with_reducible refine gd_ 5 ?_);refine bx_ (N:=5) #[.slice none 0 0, .slice none 0 0] 25 ?_;intro ah0 hg w9 hbox hb;replace ey8:=rb_ ey8 hb;replace ey9:=sb_ ey9 hb;have um:=A_ (hbox);have nm0:=A_ ((g69_:w.heap.size<=ah0));have km5:=nm0;replace HB:=hs_ (av4) hb;have ez0:=nl_ oq hg;have if2:=nr_ oq hg;replace oq:=bb_ oq hb;have ez1:=nl_ qx hg;have if3:=nr_ qx hg;replace qx:=bb_ qx hb;clear hb hbox hg;obtain⟨h7,gg,yj⟩:=Kd.R_slice ey8.out;subst yj;have bf6:=if2.out;have bf7:=ez0.out;have cj9:=if3.out;have ck0:=ez1.out;obtain⟨sm,sn,so,sp⟩:=blk2_ um;obtain⟨nt,k0,bm1⟩:=Kd.S_slice ey9.out;subst bm1))
 go_loopg [6,7] k (fun kq v6 v7 w'=>∃(mw:Int) (qb:Int),v6 = .int .i64 mw/\v7 = .int .i64 qb/\G7 (Fl.l0 kq l1 mw qb ab aa al7 az7=some (r1,r2))/\G7 (kq<=k)/\G7 (Kd.R (Kd.int .i64) 3 w' w.heap.size (fun _=>True) (.slice h7 al7.length gg) al7)/\G7 (Kd.S (Kd.slice 3 (Kd.int .i64)) 22 w' w.heap.size (fun k_=>some k_≠((.slice h7 al7.length gg):Value).ownBlock) (.slice nt az7.length k0) az7)/\G7 (hc_ w' yx #[(.slice ae ab.length ac),(.slice ag aa.length af)] 25)/\G7 (hc_ w' aa9 #[(.slice none 0 0),(.slice none 0 0)] 25)/\G7 (hc_ w' ah0 #[(.slice h7 al7.length gg),(.slice nt az7.length k0)] 25)/\G7 (Below w.heap.size w w'))
 case atStart=>exact⟨(9),(0),(g3_),(g3_),H',⟨Nat.le_refl _⟩,⟨ra_ ey8⟩,⟨sa_ ey9⟩,⟨ba_ oq⟩,⟨ba_ qx⟩,⟨ba_ um⟩,⟨av4⟩⟩
 clear H'
 obtain⟨mw,qb,rfl,rfl,HA,HK1,aq6,vu,oq,qx,um,HB⟩:=hrel
 cases gk with
 | zero=>exact absurd HA.out (by simp[Fl.l0])
 | succ k1=>?_
 have H:=HA.out
 clear HA
 simp only[Fl.l0] at H
 by_cases er:qb < (l1.length:Int)
 ·rw[if_pos er] at H
  have pc:=decide_eq_true er
  clear er
  obtain⟨af8,H⟩:=pd_ H
  obtain⟨ak3,H⟩:=pd_ H
  obtain⟨bg0,H⟩:=pd_ H
  by_cases fc:(l1.length:Int)=0
  ·rw[if_pos fc] at H
   exact absurd H (by simp)
  rw[if_neg fc] at H
  have th:((l1.length:Int) == 0)=false:=beq_eq_false_iff_ne.mpr fc
  have al8:((l1.length:Int) != 0)=true:=bne_iff_ne.mpr fc
  have dd7:¬ (l1=[]):=fun h_=>fc (by rw[h_];rfl)
  obtain⟨ji20,hji20⟩:∃j_:Int,(Int.tmod (wrap64 (qb + 1)) (l1.length:Int))=j_:=⟨_,rfl⟩
  first|rw[hji20] at H|simp only[hji20] at H
  obtain⟨if4,H⟩:=pd_ H
  obtain⟨ax5,H⟩:=pd_ H
  obtain⟨bm4,H⟩:=pd_ H
  obtain⟨yl,H⟩:=pd_ H
  obtain⟨ji25,hji25⟩:∃j_:Int,(mn mw (rd (Jm aa (rd l1 qb)) (rd l1 (ji20))))=j_:=⟨_,rfl⟩
  first|rw[hji25] at H|simp only[hji25] at H
  have hji25_:(if (rd (Jm aa (rd l1 qb)) (rd l1 (ji20))) < mw then(rd (Jm aa (rd l1 qb)) (rd l1 (ji20))) else mw)=ji25:=hji25
  have H':=A_ H
  clear H
  try go_wp2
  replace aq6:=rd_ aq6
  replace vu:=sd_ vu
  replace oq:=bd_ oq
  replace qx:=bd_ qx
  replace um:=bd_ um
  replace HB:=A_ (Jd HB.out)
  obtain⟨⟨gh5,km6,ec0⟩,ez2,ez3⟩:=rdp_ (Kd.at_int fq.out qb)
  have km7:=ec0
  cases km6
  replace ec0:=cl_ HB ec0
  obtain⟨⟨if5,nm1,km8,km9,ec1,if6,if7⟩,ez4,ez5⟩:=rdp_ (at_L1 bd.out (rd l1 qb))
  have kn0:=ec1
  cases km9
  replace ec1:=cl_ HB ec1
  have if8:=A_ if7
  have nm2:=A_ if6
  clear if7 if6
  obtain⟨⟨kn1,kn2,ec2⟩,ez6,ez7⟩:=rdp_ (Kd.at_int fq.out (ji20))
  have kn3:=ec2
  obtain rfl:gh5=kn1:=(by injection kn2)
  replace ec2:=cl_ HB ec2
  obtain⟨⟨if9,kn4,ec3⟩,ez8,ez9⟩:=rdp_ (Kd.at_int if8.out (rd l1 (ji20)))
  have kn5:=ec3
  cases kn4
  replace ec3:=cl_ HB ec3
  refine start_ (n:=21) (S:=fun w'=>w'.cell? ⟨yx,0,none⟩=some (.slice ae ab.length ac)/\w'.cell? ⟨yx,1,none⟩=some (.slice (some if5) aa.length af)/\w'.cell? (gh5.add (qb).toNat)=some (.int .i64 (rd l1 qb))/\w'.cell? (if5.add ((rd l1 qb)).toNat)=some (.slice (some if9) (Jm aa (rd l1 qb)).length km8)/\w'.cell? (gh5.add ((ji20)).toNat)=some (.int .i64 (rd l1 (ji20)))/\w'.cell? (if9.add ((rd l1 (ji20))).toNat)=some (.int .i64 (rd (Jm aa (rd l1 qb)) (rd l1 (ji20))))) (ds:=[]) (tl_ 21 0) (g1_) rfl (g1_) ⟨(G8 oq.out 0).trans rfl,(G8 oq.out 1).trans rfl,((cl_ HB km7).trans rfl),((cl_ HB kn0).trans rfl),((cl_ HB kn3).trans rfl),((cl_ HB kn5).trans rfl)⟩ (fun hHeld=>?_);refine Js Fl.tab6 Fl.bits6 (fun HT_ HW_=>?_)
  generalize wr.drew=w26 at aq6 vu oq qx um HB if8 ec0 ec1 ec2 ec3 hHeld |-
  refine pw_ 0 19 (tl_ 21 1) ?_
  refine pw_ 1 20 (tl_ 21 3) ?_
  refine pw_ 3 22 (tl_ 21 11) ?_
  refine pw_ 4 23 (tl_ 21 27) ?_
  refine pw_ 5 24 (tl_ 21 59) ?_
  refine pw_ 9 28 (tl_ 21 571) ?_
  refine pw_ 10 29 (tl_ 21 1595) ?_
  refine pw_ 11 30 (tl_ 21 3643) ?_
  refine pw_ 12 31 (tl_ 21 7739) ?_
  refine pw_ 13 32 (tl_ 21 15931) ?_
  refine pw_ 14 33 (tl_ 21 32315) ?_
  refine pw_ 15 34 (tl_ 21 65083) ?_
  refine tk1_ 2 21 (tl_ 21 65087) hHeld ?_
  refine tk1_ 6 25 (tl_ 21 65151) hHeld ?_
  refine pw_ 7 26 (tl_ 21 65279) ?_
  refine tk1_ 8 27 (tl_ 21 65535) hHeld ?_
  refine tk1_ 16 35 (tl_ 21 131071) hHeld ?_
  refine pw_ 17 36 (tl_ 21 262143) ?_
  refine tk1_ 18 37 (tl_ 21 524287) hHeld ?_
  refine pw_ 19 38 (tl_ 21 1048575) ?_
  refine pw_ 20 6 (tl_ 21 2097151) ?_
  refine done_ (done_of HT_.out (g1_)) ?_
  try go_wp2
  go_roundg k1
  case measure=>have:=HK1.out;omega
  case rel=>exact⟨(ji25),(wrap64 (qb + 1)),(by first|rfl|(simp;done)|(simp only[<- hji25] <;> (first|rfl|simp))|(simp[*];done)),(g3_),H',⟨g8_⟩,⟨uR_ aq6⟩,⟨uS_ vu⟩,⟨uB_ oq⟩,⟨uB_ qx⟩,⟨uB_ um⟩,⟨av4⟩⟩
 rw[if_neg er] at H
 have pc:=decide_eq_false er
 clear er
 have H':=A_ H
 clear H
 go_wp2
 go_loopg [8] k1 (fun kq v8 w'=>∃(bi:Int) (az8:List Int) (rr:List (List Int)) (dd8:Value) (gh6:Value),v8 = .int .i64 bi/\G7 (Fl.l1 kq l1 mw bi ab aa az8 rr=some (r1,r2))/\G7 (kq<=k1)/\G7 (Kd.R (Kd.int .i64) 3 w' w.heap.size (fun _=>True) dd8 az8)/\G7 (Kd.S (Kd.slice 3 (Kd.int .i64)) 22 w' w.heap.size (fun k_=>some k_≠(dd8:Value).ownBlock) gh6 rr)/\G7 (hc_ w' yx #[(.slice ae ab.length ac),(.slice ag aa.length af)] 25)/\G7 (hc_ w' aa9 #[(.slice none 0 0),(.slice none 0 0)] 25)/\G7 (hc_ w' ah0 #[dd8,gh6] 25)/\G7 (Below w.heap.size w w'))
 case atStart=>exact⟨(0),(al7),(az7),(.slice h7 al7.length gg),(.slice nt az7.length k0),(g3_),H',⟨Nat.le_refl _⟩,⟨uR_ aq6⟩,⟨uS_ vu⟩,⟨uB_ oq⟩,⟨uB_ qx⟩,⟨uB_ um⟩,⟨av4⟩⟩
 clear H'
 obtain⟨bi,az8,rr,dd8,gh6,rfl,HA,HK2,aq6,vu,oq,qx,um,HB⟩:=hrel
 cases gk with
 | zero=>exact absurd HA.out (by simp[Fl.l1])
 | succ k2=>?_
 have H:=HA.out
 clear HA
 simp only[Fl.l1] at H
 by_cases l7:bi < (l1.length:Int)
 case neg=>
  rw[if_neg l7] at H
  have ca3:=decide_eq_false l7
  clear l7
  simp only[Option.some.injEq,Prod.mk.injEq] at H
  obtain⟨rfl,rfl⟩:=H
  have fa5:=if2.out
  have fa6:=ez0.out
  have dy9:=if3.out
  have dz0:=ez1.out
  obtain⟨gi8,gi9,gj0,gj1⟩:=blk2_ um
  obtain⟨dc,dd,cp9⟩:=Kd.R_slice aq6.out
  subst cp9
  have hz8:=ie9.out
  have hz9:=ie8.out
  obtain⟨ia0,ia1,ia2,ia3⟩:=blk2_ qx
  obtain⟨ap9,aq0,dz1⟩:=Kd.S_slice vu.out
  subst dz1
  go_wp2
  refine bodyPost_ret (results_cell_row rfl _ _ aa9 25 #[.slice dc az8.length dd, .slice ap9 rr.length aq0] (0,0) _ rfl (ba_ qx) Try.underlying25 rfl (g1_)) rfl ?_
  exact⟨_,_,g4_,ra_ aq6,sa_ vu,av4⟩
 rw[if_pos l7] at H
 have ca3:=decide_eq_true l7
 clear l7
 obtain⟨bn7,H⟩:=pd_ H
 by_cases o1:(l1.length:Int)=0
 ·rw[if_pos o1] at H
  exact absurd H (by simp)
 rw[if_neg o1] at H
 have gg7:((l1.length:Int) == 0)=false:=beq_eq_false_iff_ne.mpr o1
 have nm3:((l1.length:Int) != 0)=true:=bne_iff_ne.mpr o1
 have nm4:¬ (l1=[]):=fun h_=>o1 (by rw[h_];rfl)
 obtain⟨ji30,hji30⟩:∃j_:Int,(Int.tmod (wrap64 (bi + 1)) (l1.length:Int))=j_:=⟨_,rfl⟩
 first|rw[hji30] at H|simp only[hji30] at H
 obtain⟨dy8,H⟩:=pd_ H
 obtain⟨ge6,H⟩:=pd_ H
 obtain⟨ev2,H⟩:=pd_ H
 obtain⟨gb4,H⟩:=pd_ H
 obtain⟨ge7,H⟩:=pd_ H
 obtain⟨ex9,H⟩:=pd_ H
 obtain⟨kn6,H⟩:=pd_ H
 obtain⟨kn7,H⟩:=pd_ H
 obtain⟨gh7,hyq⟩:∃y_:List Int,y_=((Jm rr (rd l1 bi)).set ((rd l1 (ji30)):Int).toNat (wrap64 ((rd (Jm aa (rd l1 bi)) (rd l1 (ji30))) - mw))):=⟨_,rfl⟩
 replace H:(Fl.l1 k2 l1 mw (wrap64 (bi + 1)) ab aa az8 (rr.set ((rd l1 bi):Int).toNat gh7))=some (r1,r2):=qh_
 have kn8:=A_ hyq
 clear hyq
 obtain⟨ig0,hyq⟩:∃y_:List (List Int),y_=(rr.set ((rd l1 bi):Int).toNat gh7):=⟨_,rfl⟩
 replace H:(Fl.l1 k2 l1 mw (wrap64 (bi + 1)) ab aa az8 ig0)=some (r1,r2):=qh_
 have kn9:=A_ hyq
 clear hyq
 have H':=A_ H
 clear H
 obtain⟨⟨ko0,ko1,ig1⟩,gh8,gh9⟩:=rdp_ (Kd.at_int fq.out bi)
 cases ko1
 replace ig1:=cl_ HB ig1
 obtain⟨⟨ko2,ko3,ig2⟩,gi0,gi1⟩:=rdp_ (Kd.at_int fq.out (ji30))
 obtain rfl:ko0=ko2:=(by injection ko3)
 replace ig2:=cl_ HB ig2
 try go_wp2
 replace aq6:=rd_ aq6
 replace vu:=sd_ vu
 replace oq:=bd_ oq
 replace qx:=bd_ qx
 replace um:=bd_ um
 replace HB:=A_ (Jd HB.out)
 obtain⟨az,ax,ab0⟩:=Kd.S_slice vu.out
 (first|subst ab0|(injection ab0 with f1_ f2_ f3_;have f4_:=f1_.symm;have f5_:=f3_.symm;clear f1_ f2_ f3_;subst f4_;subst f5_))
 have fa0:0<=((rd l1 bi):Int):=od_
 have fa1:(rd l1 bi) < (rr.length:Int):=od_
 obtain⟨gi2,nm5,ko4,ko5,fa2,ig3,ig4⟩:=at_L1 (Kd.S_reads' vu.out).2.2 (rd l1 bi) fa0 fa1
 cases ko5
 obtain⟨ce337,hce337,hMe337,hcc337⟩:=Kd.S_get vu.out [] (rd l1 bi) fa0 (by first|exact fa1|exact od_|(have e_:=(Kd.S_reads' vu.out).1;omega))
 obtain⟨ve337_0,rfl,ge337_0⟩:=hMe337
 have hv337_0:=hcc337 0 _ rfl
 rw[Nat.add_zero,show((Kd.slice 3 (Kd.int .i64))).sz=1 from rfl,Nat.mul_one] at hv337_0
 replace hv337_0:=Option.some.inj (hv337_0.symm.trans fa2)
 rw[hv337_0] at ge337_0
 have cp8:=A_ (show Kd.R (Kd.int .i64) 3 _ _ _ _ (Jm rr (rd l1 bi)) from ge337_0)
 clear hv337_0 ge337_0
 have HX337_0:=A_ fa2
 clear hcc337 hce337
 have ko6:=A_ ig4
 have nm6:=A_ ig3
 clear ig4 ig3
 replace fa0:=eq_true fa0
 replace fa1:=eq_true fa1
 obtain⟨⟨ig5,nm7,ko7,ko8,fa3,ig6,ig7⟩,gi3,gi4⟩:=rdp_ (at_L1 bd.out (rd l1 bi))
 have ko9:=fa3
 cases ko8
 replace fa3:=cl_ HB fa3
 have ig8:=A_ ig7
 have nm8:=A_ ig6
 clear ig7 ig6
 obtain⟨⟨ig9,kp0,fa4⟩,gi5,gi6⟩:=rdp_ (Kd.at_int ig8.out (rd l1 (ji30)))
 have kp1:=fa4
 cases kp0
 replace fa4:=cl_ HB fa4
 have p39:0<=((rd l1 (ji30)):Int):=od_
 have q39:((rd l1 (ji30)):Int) < (((Jm rr (rd l1 bi)).length:Int):Int):=od_
 obtain⟨dd9,yv,al6,ec4,gl39,cl39,HG39⟩:=Kd.R_form cp8.out (by omega)
 (first|cases al6|(injection al6 with ea_ en_ ec_;(first|subst ea_|(injection ea_ with ea_;subst ea_));subst ec_;clear en_))
 have GB39:=A_ ec4
 have GG39:=A_ HG39
 clear ec4 gl39 HG39
 obtain⟨gi7,hf39_0⟩:=Kd.R_celln 0 cp8.out ((rd l1 (ji30)):Int) p39 q39
 replace p39:=eq_true p39
 replace q39:=eq_true q39
 have hq42:((rd l1 bi):Int) < (rr.length:Int):=(by have h_:((rd l1 bi):Int) < ((rr.length:Int):Int):=od_;first|exact h_|(have e_:=(Kd.S_reads' vu.out).1;omega)|simpa only[List.length_set,List.length_set] using h_)
 obtain⟨oki42,ce42,hcl42,hM42,hcc42,hok42,hbk42⟩:=Kd.S_borrow vu.out [] ((rd l1 bi):Int) (od_) (by first|exact hq42|exact od_|(have e_:=(Kd.S_reads' vu.out).1;omega))
 obtain⟨ve42_0,rfl,ge42_0⟩:=hM42
 have hv42:=hcc42 0 _ rfl
 rw[Nat.add_zero,show((Kd.slice 3 (Kd.int .i64))).sz=1 from rfl,Nat.mul_one] at hv42
 replace hv42:=Option.some.inj (hv42.symm.trans HX337_0.out)
 subst hv42
 clear hcc42 hcl42
 replace ge42_0:=(show Kd.R (Kd.int .i64) 3 _ _ _ _ (Jm rr (rd l1 bi)) from ge42_0)
 have HP42:=Kd.R_putg ge42_0 ((rd l1 (ji30)):Int) (wrap64 ((rd (Jm aa (rd l1 bi)) (rd l1 (ji30))) - mw))
 rw[<- kn8.out] at HP42
 have HS42:=hbk42 HP42.2 (fun k_ e_=>by injection e_ with e_;subst e_;exact ge42_0.1 _ rfl) (x':=gh7) (Kd.M_row HP42.1)
 rw[<- kn9.out] at HS42
 have HQ42:=A_ HS42
 clear HP42 HS42 hbk42 hok42
 refine start_ (n:=18) (S:=fun w'=>w'.cell? ⟨ah0,0,none⟩=some (dd8)/\w'.cell? ⟨ah0,1,none⟩=some (.slice (some gi2) rr.length ax)/\w'.cell? ⟨yx,0,none⟩=some (.slice ae ab.length ac)/\w'.cell? ⟨yx,1,none⟩=some (.slice (some ig5) aa.length af)/\w'.cell? (gi2.add ((rd l1 bi)).toNat)=some (.slice (some ⟨dd9,0,none⟩) (Jm rr (rd l1 bi)).length ko4)/\w'.cell? (ig5.add ((rd l1 bi)).toNat)=some (.slice (some ig9) (Jm aa (rd l1 bi)).length ko7)/\w'.cell? (ig9.add ((rd l1 (ji30))).toNat)=some (.int .i64 (rd (Jm aa (rd l1 bi)) (rd l1 (ji30))))) (ds:=[17]) (tl_ 18 0) (g1_) rfl (g1_) ⟨(G8 um.out 0).trans rfl,(G8 um.out 1).trans rfl,(G8 oq.out 0).trans rfl,(G8 oq.out 1).trans rfl,fa2,((cl_ HB ko9).trans rfl),((cl_ HB kp1).trans rfl)⟩ (fun hHeld=>?_);refine Js Fl.tab12 Fl.bits12 (fun HT_ HW_=>?_)
 generalize wr.drew=o2 at aq6 vu oq qx um HB GG39 cp8 HQ42 ko6 ig8 HX337_0 hf39_0 fa2 fa3 fa4 gi7 hHeld |-
 refine pw_ 0 57 (tl_ 18 1) ?_
 refine pw_ 2 59 (tl_ 18 5) ?_
 refine pw_ 5 62 (tl_ 18 37) ?_
 refine pw_ 6 63 (tl_ 18 101) ?_
 refine pw_ 8 65 (tl_ 18 357) ?_
 refine pw_ 11 68 (tl_ 18 2405) ?_
 refine pw_ 14 71 (tl_ 18 18789) ?_
 refine tk3_ 1 58 (tl_ 18 18791) hHeld ?_
 refine pw_ 3 60 (tl_ 18 18799) ?_
 refine tk3_ 4 61 (tl_ 18 18815) hHeld ?_
 refine tk3_ 7 64 (tl_ 18 18943) hHeld ?_
 refine pw_ 9 66 (tl_ 18 19455) ?_
 refine tk3_ 10 67 (tl_ 18 20479) hHeld ?_
 refine pw_ 12 69 (tl_ 18 24575) ?_
 refine tk3_ 13 70 (tl_ 18 32767) hHeld ?_
 refine pw_ 15 72 (tl_ 18 65535) ?_
 refine pw_ 16 73 (tl_ 18 131071) ?_
 refine last_ (i:=17) (N:=none) (tl_ 18 262143) rfl rfl (Ju HT_.out (g1_)) (by decide) (fun K hK=>?_)
 refine skip_ (w1:=?_) (by rfl) rfl ?_ ?_
 rotate_left
 ·go_simp
  rfl
 refine hK.out _ _ ?_
 clear hK K
 refine done_ (done_of HT_.out (g1_)) ?_
 try go_wp2
 go_roundg k2
 case measure=>have:=HK1.out;have:=HK2.out;omega
 case rel=>exact⟨(wrap64 (bi + 1)),(az8),(ig0),(dd8),(.slice (some gi2) rr.length ax),(g3_),H',⟨g40_⟩,⟨by(with_reducible repeat(first|apply Kd.R_alloc|apply Kd.R_drewN|apply Kd.R_drew));exact Kd.R_mono (Kd.R_far (p:=⟨dd9,((rd l1 (ji30)):Int).toNat,none⟩) (Kd.R_far1 aq6.out rfl ((cp8.out.1 _ rfl).1)) (fun _ hk=>hk.2) (.int .i64 (wrap64 ((rd (Jm aa (rd l1 bi)) (rd l1 (ji30))) - mw)))) (fun _ hk=>trivial)⟩,⟨uS_ HQ42⟩,⟨by(with_reducible repeat(first|refine Jh ?_ _|refine Ji ?_|refine Jg ?_ _));refine Jp ?_ (by have h_:=Kd.R_ne cp8.out oq.out (by decide);intro e_;exact h_ (g6_)) _;exact uB_ oq⟩,⟨by(with_reducible repeat(first|refine Jh ?_ _|refine Ji ?_|refine Jg ?_ _));refine Jp ?_ (by have h_:=Kd.R_ne cp8.out qx.out (by decide);intro e_;exact h_ (g6_)) _;exact uB_ qx⟩,⟨by(with_reducible repeat(first|refine Jh ?_ _|refine Ji ?_|refine Jg ?_ _));refine Jp ?_ (by have h_:=Kd.R_ne cp8.out um.out (by decide);intro e_;exact h_ (g6_)) _;exact uB_ um⟩,⟨av4⟩⟩
def Fd.l0:Nat->Int->List Int->List (List Int)->Option (List Int × (List (List Int)) × Int)
 | 0,_,_,_=>none
 | k + 1,x5,gj2,gj3=>(Ff.f k gj2 gj3).bind fun ti=>(if (ti.length:Int)=0 then(some (gj2,gj3,x5)) else(if 0 < (ti.length:Int) then((Fl.f k gj2 gj3 (Jm ti 0)).bind fun bt301=>(Fd.l0 k (wrap64 (x5 + 1)) bt301.1 bt301.2)) else(none)))
def Fd.f (k:Nat) (ab:List Int) (aa:List (List Int)):Option (List Int × (List (List Int)) × Int):=(Fg.f k ab aa).bind fun ec5=>(if ec5=true then((Fr.f k ab aa).bind fun bt290=>(Fd.l0 k 0 bt290.1 bt290.2)) else(some (([]:List Int),([]:List (List Int)),(-1))))
theorem Fd.calls0_q0 {p:Prop} (h:p:=by repeat(first|(with_reducible first|exact HB.out|apply Jf|apply Je|apply Jd|refine Jc ?_ ih5.out|refine Jc ?_ ih6.out|refine Jc ?_ kp2.out)|exact HB.out)):p:=h
set_option maxHeartbeats 8000000 in
set_option maxRecDepth 100000 in
theorem Fd.calls0 (k:Nat) (ae:Option Addr) (ac:Nat) (ab:List Int) (ag:Option Addr) (af:Nat) (aa:List (List Int)) (r1:List Int) (r2:List (List Int)) (r3:Int) (w:World) (ca:Kd.C (Kd.int .i64) w ae ab.length ab) (ce:ab.length<=ac) (cb:Kd.C (Kd.slice 3 (Kd.int .i64)) w ag aa.length aa) (cg:aa.length<=af) (h:Fd.f k ab aa=some (r1,r2,r3)) :
  Calls Try.prog 53 #[.agg #[.slice ae ab.length ac, .slice ag aa.length af]] w fun e w'=>∃v0_ v1_:Value,e = .returned (.tuple #[.agg #[v0_,v1_], .int .i64 r3])/\Kd.R (Kd.int .i64) 3 w' w.heap.size (fun k_=>(w.heap.size<=k_)) v0_ r1/\Kd.S (Kd.slice 3 (Kd.int .i64)) 22 w' w.heap.size (fun k_=>(w.heap.size<=k_)/\some k_≠(v0_:Value).ownBlock) v1_ r2/\Below w.heap.size w w':=by
 have hu25:=Try.underlying25
 have bg:=A_ ca
 have bs:=A_ ce
 clear ca ce
 have bd:=A_ cb
 have bv:=A_ cg
 clear cb cg
 have HB:=A_ (Below.refl w.heap.size w)
 have H:=h
 unfold Fd.f at H
 clear h
 obtain⟨ec5,A2,H⟩:=bind_ H
 by_cases c3:ec5=true
 case neg=>
  replace c3:=Bool.eq_false_iff.mpr c3
  subst c3
  replace H:=ifn_ H
  simp only[Option.some.injEq,Prod.mk.injEq] at H
  obtain⟨rfl,rfl,rfl⟩:=H
  go_enter Try.func53,Try.ntmps53
  go_wp2_with (first|((with_reducible refine gd_ 1 ?_);refine bx_ (N:=1) #[.slice ae ab.length ac, .slice ag aa.length af] 25 ?_;intro qy hg w45 hbox hb;have l3:=A_ (hbox);have kp3:=A_ ((g34_:w.heap.size<=qy));have ih5:=kp3;replace HB:=A_ (Jr (Fd.calls0_q0) hb);clear hb hbox hg)|((with_reducible refine gd_ 2 ?_);refine bx_ (N:=2) #[.slice none 0 0, .slice none 0 0] 25 ?_;intro m9 hg w46 hbox hb;have mh:=A_ (hbox);have kp4:=A_ ((g34_:w.heap.size<=m9));have ih6:=kp4;replace HB:=A_ (Jr (Fd.calls0_q0) hb);have fa7:=nl_ l3 hg;have fa8:=nr_ l3 hg;replace l3:=bb_ l3 hb;clear hb hbox hg;have gj6:=fa7.out;have gj7:=fa8.out;obtain⟨ed3,ed4,ed5,ed6⟩:=blk2_ l3)|((with_reducible refine gc_ 42 ?_);refine gl_ 8 Try.func42 #[.agg #[.slice ae ab.length ac, .slice ag aa.length af]] ?_;(refine(Fg.calls k _ _ ab _ _ aa false _ (uC_ bg) bs.out (uC_ bd) bv.out A2.out).mono ?_);rintro e w49 ⟨rfl,hb⟩;refine⟨_,rfl,?_⟩;replace l3:=bb_ l3 hb;replace mh:=bb_ mh hb;replace HB:=A_ (Jr (Fd.calls0_q0) hb);obtain⟨nn2,nn3,nn4,nn5⟩:=blk2_ mh))
  refine bodyPost_ret (Jt rfl _ _ m9 25 #[.slice none 0 0, .slice none 0 0] (0,0) _ rfl (ba_ mh) Try.underlying25 rfl (g1_)) rfl ?_
  exact⟨_,_,g4_,g25_,g38_,Fd.calls0_q0⟩
 subst c3
 replace H:=ifp_ H
 replace H:=Option.bind_eq_some_iff.mp H
 obtain⟨⟨aq7,ec6⟩,A40,H⟩:=H
 try dsimp only at H
 have A4:=A_ A40
 clear A40
 have H':=A_ H
 clear H
 go_enter Try.func53,Try.ntmps53
 go_wp2_with (first|((with_reducible refine gd_ 1 ?_);refine bx_ (N:=1) #[.slice ae ab.length ac, .slice ag aa.length af] 25 ?_;intro qy hg w5 hbox hb;have l3:=A_ (hbox);have kp3:=A_ ((g34_:w.heap.size<=qy));have ih5:=kp3;replace HB:=A_ (Jr (Fd.calls0_q0) hb);clear hb hbox hg)|((with_reducible refine gd_ 2 ?_);refine bx_ (N:=2) #[.slice none 0 0, .slice none 0 0] 25 ?_;intro m9 hg w6 hbox hb;have mh:=A_ (hbox);have kp4:=A_ ((g34_:w.heap.size<=m9));have ih6:=kp4;replace HB:=A_ (Jr (Fd.calls0_q0) hb);have fa7:=nl_ l3 hg;have fa8:=nr_ l3 hg;replace l3:=bb_ l3 hb;clear hb hbox hg;have da6:=fa7.out;have da7:=fa8.out;obtain⟨bf1,bf2,bf3,bf4⟩:=blk2_ l3)|((with_reducible refine gc_ 42 ?_);refine gl_ 8 Try.func42 #[.agg #[.slice ae ab.length ac, .slice ag aa.length af]] ?_;(refine(Fg.calls k _ _ ab _ _ aa true _ (uC_ bg) bs.out (uC_ bd) bv.out A2.out).mono ?_);rintro e w9 ⟨rfl,hb⟩;refine⟨_,rfl,?_⟩;replace l3:=bb_ l3 hb;replace mh:=bb_ mh hb;replace HB:=A_ (Jr (Fd.calls0_q0) hb);obtain⟨ye,yf,yg,yh⟩:=blk2_ l3)|((with_reducible refine gc_ 80 ?_);refine gl_ 12 Try.func80 #[.agg #[.slice ae ab.length ac, .slice ag aa.length af]] ?_;(refine(Fr.calls k _ _ ab _ _ aa aq7 ec6 _ (uC_ bg) bs.out (uC_ bd) bv.out A4.out).mono ?_);rintro e kj ⟨ih7,nm9,rfl,ah,ak,hb⟩;refine⟨_,rfl,?_⟩;have bp3:=A_ (Kd.R_lower (Kd.R_newM (M:=fun k_=>(w.heap.size<=k_)) ah (G9 (Fd.calls0_q0)) (fun k_ h_=>h_)) (G9 (Fd.calls0_q0)));have fa9:=A_ (Kd.S_lower (Kd.S_mono (ok':=fun k_=>(w.heap.size<=k_)/\some k_≠(ih7:Value).ownBlock/\k_≠qy/\k_≠m9) (id (Kd.S_bound ak)) (fun k_ hk_=>⟨(Nat.le_trans (G9 (Fd.calls0_q0)) hk_.2.1),hk_.1,(Kd.freshB (g:=qy) (o:=.cells #[.slice ae ab.length ac, .slice ag aa.length af] 25 (0,0)) (uB_ l3) k_ hk_.2.1),(Kd.freshB (g:=m9) (o:=.cells #[.slice none 0 0, .slice none 0 0] 25 (0,0)) (uB_ mh) k_ hk_.2.1)⟩)) (G9 (Fd.calls0_q0)));replace l3:=bb_ l3 hb;replace mh:=bb_ mh hb;replace HB:=A_ (Jr (Fd.calls0_q0) hb))|((with_reducible refine gd_ 4 ?_);refine bx_ (N:=4) #[.slice none 0 0, .slice none 0 0] 25 ?_;intro ny hg t5 hbox hb;replace bp3:=rb_ bp3 hb;replace fa9:=A_ (Kd.S_below (Kd.S_elderB (uS_ fa9) ny (Nat.le_of_eq hg.symm)) hb);have nz:=A_ (hbox);have nn0:=A_ ((g34_:w.heap.size<=ny));have kp2:=nn0;replace HB:=A_ (Jr (Fd.calls0_q0) hb);have bp4:=nl_ l3 hg;have ec7:=nr_ l3 hg;replace l3:=bb_ l3 hb;have bp5:=nl_ mh hg;have ec8:=nr_ mh hg;replace mh:=bb_ mh hb;clear hb hbox hg;obtain⟨jc,gv,bn5⟩:=Kd.R_slice bp3.out;subst bn5;have do5:=ec7.out;have do6:=bp4.out;have dc5:=ec8.out;have dc6:=bp5.out;obtain⟨ae0,ae1,ae2,ae3⟩:=blk2_ nz;obtain⟨fz,f4,ax4⟩:=Kd.S_slice fa9.out;subst ax4))
 go_loopg [5] k (fun kq v5 w'=>∃(aj:Int) (rs:List Int) (rt:List (List Int)) (fb0:Value) (gj4:Value),v5 = .int .i64 aj/\G7 (Fd.l0 kq aj rs rt=some (r1,r2,r3))/\G7 (kq<=k)/\G7 (Kd.R (Kd.int .i64) 3 w' w.heap.size (fun k_=>(w.heap.size<=k_)) fb0 rs)/\G7 (Kd.S (Kd.slice 3 (Kd.int .i64)) 22 w' w.heap.size (fun k_=>(w.heap.size<=k_)/\some k_≠(fb0:Value).ownBlock/\k_≠qy/\k_≠m9/\k_≠ny) gj4 rt)/\G7 (hc_ w' qy #[(.slice ae ab.length ac),(.slice ag aa.length af)] 25)/\G7 (hc_ w' m9 #[(.slice none 0 0),(.slice none 0 0)] 25)/\G7 (hc_ w' ny #[fb0,gj4] 25)/\G7 (Below w.heap.size w w'))
 case atStart=>exact⟨(0),(aq7),(ec6),(.slice jc aq7.length gv),(.slice fz ec6.length f4),(g3_),H',⟨Nat.le_refl _⟩,⟨ra_ bp3⟩,⟨sa_ fa9⟩,⟨ba_ l3⟩,⟨ba_ mh⟩,⟨ba_ nz⟩,⟨Fd.calls0_q0⟩⟩
 clear H'
 obtain⟨aj,rs,rt,fb0,gj4,rfl,HA,HK1,ru,sx,l3,mh,nz,HB⟩:=hrel
 cases gk with
 | zero=>exact absurd HA.out (by simp[Fd.l0])
 | succ k1=>?_
 have H:=HA.out
 clear HA
 simp only[Fd.l0] at H
 obtain⟨ti,A18,H⟩:=bind_ H
 by_cases fc:(ti.length:Int)=0
 ·rw[if_pos fc] at H
  have th:((ti.length:Int) == 0)=true:=beq_iff_eq.mpr fc
  have al8:((ti.length:Int) != 0)=false:=bne_eq_false_iff_eq.mpr fc
  clear fc
  simp only[Option.some.injEq,Prod.mk.injEq] at H
  obtain⟨rfl,rfl,rfl⟩:=H
  have db4:=ec7.out
  have db5:=bp4.out
  have ih8:=ec8.out
  have ih9:=bp5.out
  obtain⟨ae5,ae6,ae7,ae8⟩:=blk2_ nz
  obtain⟨ko,f5,cq0⟩:=Kd.R_slice ru.out
  subst cq0
  obtain⟨aa4,et,ca1⟩:=Kd.S_slice sx.out
  subst ca1
  go_wp2_with (first|((with_reducible refine gc_ 95 ?_);refine gl_ 14 Try.func95 #[.agg #[.slice ko rs.length f5, .slice aa4 rt.length et]] ?_;(refine(Ff.calls k1 _ _ rs _ _ rt ti _ (cR_ ru) (lR_ ru) (cS_ sx) (lS_ sx) A18.out).mono ?_);rintro e w25 ⟨kp5,rfl,ah,hb⟩;refine⟨_,rfl,?_⟩;have aq8:=A_ (Kd.N_lower (Kd.N_mono (ok':=fun k_=>(w.heap.size<=k_)/\some k_≠(.slice ko rs.length f5:Value).ownBlock/\some k_≠(.slice aa4 rt.length et:Value).ownBlock/\k_≠qy/\k_≠m9/\k_≠ny) ah (fun k_ hk_=>⟨(Nat.le_trans (G9 (Fd.calls0_q0)) hk_),(Kd.fresh' (Kd.R_lt (uR_ ru)) k_ hk_),(Kd.fresh' (Kd.S_lt (uS_ sx)) k_ hk_),(Kd.freshB (g:=qy) (o:=.cells #[.slice ae ab.length ac, .slice ag aa.length af] 25 (0,0)) (uB_ l3) k_ hk_),(Kd.freshB (g:=m9) (o:=.cells #[.slice none 0 0, .slice none 0 0] 25 (0,0)) (uB_ mh) k_ hk_),(Kd.freshB (g:=ny) (o:=.cells #[.slice ko rs.length f5, .slice aa4 rt.length et] 25 (0,0)) (uB_ nz) k_ hk_)⟩)) (G9 (Fd.calls0_q0)));replace ru:=rb_ ru hb;replace sx:=A_ (Kd.S_elder' (uS_ sx) (Kd.N_base (g101_)) hb);replace l3:=bb_ l3 hb;replace mh:=bb_ mh hb;replace nz:=bb_ nz hb;replace HB:=A_ (Jr (Fd.calls0_q0) hb);obtain⟨kl,km,qu⟩:=Kd.N_slice aq8.out;subst qu;obtain⟨de0,de1,de2,de3⟩:=blk2_ nz;have dc2:=fa8.out;have dc3:=fa7.out;obtain⟨da2,da3,da4,da5⟩:=blk2_ mh))
  refine bodyPost_ret (Jt rfl _ _ m9 25 #[.slice ko rs.length f5, .slice aa4 rt.length et] (0,0) _ rfl (ba_ mh) Try.underlying25 rfl (g1_)) rfl ?_
  exact⟨_,_,g4_,ra_ ru,sa_ sx,Fd.calls0_q0⟩
 rw[if_neg fc] at H
 have th:((ti.length:Int) == 0)=false:=beq_eq_false_iff_ne.mpr fc
 have al8:((ti.length:Int) != 0)=true:=bne_iff_ne.mpr fc
 have dd7:¬ (ti=[]):=fun h_=>fc (by rw[h_];rfl)
 obtain⟨uk,H⟩:=pos_ H
 have dc7:=decide_eq_true uk
 have ge5:decide (0 < ti.length)=true:=decide_eq_true (by omega)
 clear uk
 replace H:=Option.bind_eq_some_iff.mp H
 obtain⟨⟨aq9,ec9⟩,ii0,H⟩:=H
 try dsimp only at H
 have A31:=A_ ii0
 clear ii0
 have H':=A_ H
 clear H
 have ed0:=ec7.out
 have ed1:=bp4.out
 have bz8:=ec8.out
 have bz9:=bp5.out
 obtain⟨db7,db8,db9,dc0⟩:=blk2_ nz
 obtain⟨b3,bn,ay6⟩:=Kd.R_slice ru.out
 subst ay6
 obtain⟨gl,fu,cm2⟩:=Kd.S_slice sx.out
 subst cm2
 try go_wp2_with (first|((with_reducible refine gc_ 95 ?_);refine gl_ 14 Try.func95 #[.agg #[.slice b3 rs.length bn, .slice gl rt.length fu]] ?_;(refine(Ff.calls k1 _ _ rs _ _ rt ti _ (cR_ ru) (lR_ ru) (cS_ sx) (lS_ sx) A18.out).mono ?_);rintro e su ⟨kp5,rfl,ah,hb⟩;refine⟨_,rfl,?_⟩;have aq8:=A_ (Kd.N_lower (Kd.N_mono (ok':=fun k_=>(w.heap.size<=k_)/\some k_≠(.slice b3 rs.length bn:Value).ownBlock/\some k_≠(.slice gl rt.length fu:Value).ownBlock/\k_≠qy/\k_≠m9/\k_≠ny) ah (fun k_ hk_=>⟨(Nat.le_trans (G9 (Fd.calls0_q0)) hk_),(Kd.fresh' (Kd.R_lt (uR_ ru)) k_ hk_),(Kd.fresh' (Kd.S_lt (uS_ sx)) k_ hk_),(Kd.freshB (g:=qy) (o:=.cells #[.slice ae ab.length ac, .slice ag aa.length af] 25 (0,0)) (uB_ l3) k_ hk_),(Kd.freshB (g:=m9) (o:=.cells #[.slice none 0 0, .slice none 0 0] 25 (0,0)) (uB_ mh) k_ hk_),(Kd.freshB (g:=ny) (o:=.cells #[.slice b3 rs.length bn, .slice gl rt.length fu] 25 (0,0)) (uB_ nz) k_ hk_)⟩)) (G9 (Fd.calls0_q0)));replace ru:=rb_ ru hb;replace sx:=A_ (Kd.S_elder' (uS_ sx) (Kd.N_base (g101_)) hb);replace l3:=bb_ l3 hb;replace mh:=bb_ mh hb;replace nz:=bb_ nz hb;replace HB:=A_ (Jr (Fd.calls0_q0) hb);obtain⟨kw,jn,ap8⟩:=Kd.N_slice aq8.out;subst ap8))
 replace ru:=rd_ ru
 replace sx:=sd_ sx
 replace aq8:=nd_ aq8
 replace l3:=bd_ l3
 replace mh:=bd_ mh
 replace nz:=bd_ nz
 replace HB:=A_ (Jd HB.out)
 have cb5:0<=(0:Int):=(by omega)
 have cb6:0 < (ti.length:Int):=od_
 obtain⟨ey5,ii1,ii2,gf9,dd4,ii3,ii4⟩:=at_L1 (Kd.N_reads' aq8.out).2.2 0 cb5 cb6
 cases gf9
 obtain⟨ce300,hce300,hMe300,hcc300⟩:=Kd.N_get aq8.out [] 0 cb5 (by first|exact cb6|exact od_|(have e_:=(Kd.N_reads' aq8.out).1;omega))
 obtain⟨ua300_0,uc300_0,rfl,ul300_0,ge300_0⟩:=Kd.FK_slice_open hMe300
 have hv300_0:=hcc300 0 _ rfl
 rw[Nat.add_zero,show((Kd.slice 3 (Kd.int .i64))).sz=1 from rfl,Nat.mul_one] at hv300_0
 replace hv300_0:=Option.some.inj (hv300_0.symm.trans dd4)
 injection hv300_0 with hva_ hvn_ hvc_
 rw[hva_] at ge300_0
 rw[hvc_] at ul300_0
 have gj5:=A_ (show Kd.V (Kd.int .i64) 3 _ w.heap.size _ _ (Jm ti 0) from Kd.V_mk ul300_0 ge300_0)
 clear hva_ hvn_ hvc_ ge300_0 ul300_0
 clear hcc300 hce300
 have qi300:(0 < ti.length)=True:=eq_true (by omega)
 (try rw[show((0:Int)).toNat=0 from rfl] at dd4)
 (try rw[Addr.add_zero'] at dd4)
 have de4:=A_ ii4
 have kp6:=A_ ii3
 clear ii4 ii3
 replace cb5:=eq_true cb5
 replace cb6:=eq_true cb6
 refine start_ (n:=6) (S:=fun w'=>w'.cell? ⟨ny,0,none⟩=some (.slice b3 rs.length bn)/\w'.cell? ⟨ny,1,none⟩=some (.slice gl rt.length fu)/\w'.cell? ey5=some (.slice ii1 (Jm ti 0).length ii2)) (ds:=[5]) (tl_ 6 0) (g1_) rfl (g1_) ⟨(G8 nz.out 0).trans rfl,(G8 nz.out 1).trans rfl,dd4⟩ (fun hHeld=>?_)
 generalize su.drew=w39 at ru sx aq8 l3 mh nz HB gj5 de4 dd4 hHeld |-
 refine pure_ (i:=1) (N:=some 21) (v:=?_) (a':=?_) (tl_ 6 2) rfl rfl (g1_) (fun _ _ _ h=>h) (Or.inl ⟨by rfl,?_⟩) ?_ ?_
 rotate_left
 ·intro w'
  go_simp
  with_reducible rfl
 rotate_left
 · exact sp_
 refine pure_ (i:=2) (N:=some 22) (v:=?_) (a':=?_) (tl_ 6 6) rfl rfl (g1_) (fun _ _ _ h=>h) (Or.inl ⟨by rfl,?_⟩) ?_ ?_
 rotate_left
 ·intro w'
  go_simp
  with_reducible rfl
 rotate_left
 · exact sp_
 refine take_ (i:=0) (N:=some 20) (v:=?_) (a':=?_) (tl_ 6 7) rfl rfl (g1_) (fun _ _ _ h=>h) (Or.inl ⟨by rfl,?_⟩) hHeld ?_ ?_
 rotate_left
 ·rintro w' ⟨s0,s1,s2⟩
  go_simp
  with_reducible rfl
 rotate_left
 · exact sp_
 refine take_ (i:=3) (N:=some 23) (v:=?_) (a':=?_) (tl_ 6 15) rfl rfl (g1_) (fun _ _ _ h=>h) (Or.inl ⟨by rfl,?_⟩) hHeld ?_ ?_
 rotate_left
 ·rintro w' ⟨s0,s1,s2⟩
  go_simp
  with_reducible rfl
 rotate_left
 · exact sp_
 refine one_ (i:=4) (N:=some 24) (tl_ 6 31) rfl rfl (g1_) (by decide) (fun K hK=>?_)
 refine goes_ Try.func98 (g1_) rfl #[.agg #[.slice b3 rs.length bn, .slice gl rt.length fu], .slice ii1 (Jm ti 0).length ii2] (by rfl) rfl rfl (gM_) ?_
 with_reducible refine(Fl.calls k1 _ _ rs _ _ rt _ _ (Jm ti 0) aq9 ec9 _ ?side1 ?side2 ?side3 ?side4 ?side5 ?side6 A31.out).mono ?_
 (case side1=>exact cR_ ru)
 (case side2=>exact lR_ ru)
 (case side3=>exact cS_ sx)
 (case side4=>exact lS_ sx)
 (case side5=>repeat(first|exact(by repeat(first|(with_reducible exact de4.out)|(with_reducible refine Kd.C_alloc ?_ _)|(with_reducible refine Kd.C_drewN ?_ _)|(with_reducible refine Kd.C_drew ?_)|exact de4.out))|(with_reducible refine Kd.C_alloc ?_ _)|(with_reducible refine Kd.C_drewN ?_ _)|(with_reducible refine Kd.C_drew ?_)))
 (case side6=>exact kp6.out)
 rintro e o2 ⟨ii5,nn1,rfl,ah,ak,hb⟩
 have HS2_:=(hb.cell (World.block_lt_of_cell? _ _ (hHeld.2.2))).trans (hHeld.2.2)
 refine⟨_,rfl,?_⟩
 replace gj5:=A_ (Kd.V_mono (Kd.V_told (Kd.V_told (Kd.V_old (uV_ gj5) hb) (Kd.R_base ah)) (Kd.S_base (g70_))) (fun _ h_=>h_.1))
 have ed2:=A_ (Kd.R_lower (Kd.R_new' (Kd.R_newM (M:=fun k_=>(w.heap.size<=k_)) ah (G9 (Fd.calls0_q0)) (fun k_ h_=>h_)) (Kd.R_lt (uR_ ru))) (G9 (Fd.calls0_q0)))
 have ii6:=A_ (Kd.S_lower (Kd.S_mono (ok':=fun k_=>(w.heap.size<=k_)/\some k_≠(ii5:Value).ownBlock/\some k_≠(.slice b3 rs.length bn:Value).ownBlock/\some k_≠(.slice gl rt.length fu:Value).ownBlock/\some k_≠(.slice (some ey5) ti.length jn:Value).ownBlock/\k_≠qy/\k_≠m9/\k_≠ny) (id (Kd.S_bound ak)) (fun k_ hk_=>⟨(Nat.le_trans (G9 (Fd.calls0_q0)) hk_.2.1),hk_.1,(Kd.fresh' (Kd.R_lt (uR_ ru)) k_ hk_.2.1),(Kd.fresh' (Kd.S_lt (uS_ sx)) k_ hk_.2.1),(Kd.fresh' (Kd.N_lt (uN_ aq8)) k_ hk_.2.1),(Kd.freshB (g:=qy) (o:=.cells #[.slice ae ab.length ac, .slice ag aa.length af] 25 (0,0)) (uB_ l3) k_ hk_.2.1),(Kd.freshB (g:=m9) (o:=.cells #[.slice none 0 0, .slice none 0 0] 25 (0,0)) (uB_ mh) k_ hk_.2.1),(Kd.freshB (g:=ny) (o:=.cells #[.slice b3 rs.length bn, .slice gl rt.length fu] 25 (0,0)) (uB_ nz) k_ hk_.2.1)⟩)) (G9 (Fd.calls0_q0)))
 replace ru:=A_ (Kd.R_elder' (uR_ ru) (Kd.R_base ah) hb)
 replace sx:=A_ (Kd.S_mono (Kd.S_told (Kd.S_told (Kd.S_old (uS_ sx) hb) (Kd.R_base ah)) (Kd.S_base (g70_))) (fun _ h_=>h_.1))
 replace aq8:=A_ (Kd.N_mono (Kd.N_told (Kd.N_told (Kd.N_old (uN_ aq8) hb) (Kd.R_base ah)) (Kd.S_base (g70_))) (fun _ h_=>h_.1))
 replace l3:=bb_ l3 hb
 replace mh:=bb_ mh hb
 replace nz:=bb_ nz hb
 replace de4:=A_ (Kd.C_below (by repeat(first|(with_reducible exact de4.out)|(with_reducible refine Kd.C_alloc ?_ _)|(with_reducible refine Kd.C_drewN ?_ _)|(with_reducible refine Kd.C_drew ?_)|exact de4.out)) hb)
 replace HB:=A_ (Jr (Fd.calls0_q0) hb)
 obtain⟨az,ax,ab0⟩:=Kd.R_slice ed2.out
 (first|subst ab0|(injection ab0 with f1_ f2_ f3_;have f4_:=f1_.symm;have f5_:=f3_.symm;clear f1_ f2_ f3_;subst f4_;subst f5_))
 obtain⟨n0,na,bh2⟩:=Kd.S_slice ii6.out
 (first|subst bh2|(injection bh2 with f1_ f2_ f3_;have f4_:=f1_.symm;have f5_:=f3_.symm;clear f1_ f2_ f3_;subst f4_;subst f5_))
 refine hK.out _ _ ⟨(G8 nz.out 0).trans rfl,(G8 nz.out 1).trans rfl,HS2_⟩ (fun hHeld=>?_)
 clear hK K
 refine nm_ ?_
 refine last_ (i:=5) (N:=none) (tl_ 6 63) rfl rfl (g1_) (by decide) (fun K hK=>?_)
 have ii7:o2.cell? ⟨ny,0,none⟩=some (.slice b3 rs.length bn):=(G8 nz.out 0).trans rfl
 have ii8:=Jj nz.out 0
 have kp7:o2.cell? ⟨ny,1,none⟩=some (.slice gl rt.length fu):=(G8 nz.out 1).trans rfl
 have kp8:=Jj nz.out 1
 refine skip_ (w1:=?_) (by rfl) rfl ?_ ?_
 rotate_left
 ·go_simp
  rfl
 refine hK.out _ _ ?_
 clear hK K
 refine done_ (g1_) ?_
 try go_wp2
 go_roundg k1
 case measure=>have:=HK1.out;omega
 case rel=>exact⟨(wrap64 (aj + 1)),(aq9),(ec9),(.slice az aq9.length ax),(.slice n0 ec9.length na),(g3_),H',⟨g8_⟩,⟨ra_ ed2⟩,⟨sa_ ii6⟩,⟨ba_ l3⟩,⟨ba_ mh⟩,⟨ba_ nz⟩,⟨Fd.calls0_q0⟩⟩
theorem Fd.calls (k:Nat) (ae:Option Addr) (ac:Nat) (ab:List Int) (ag:Option Addr) (af:Nat) (aa:List (List Int)) (r1:List Int) (r2:List (List Int)) (r3:Int) (w:World) (ca:Kd.C (Kd.int .i64) w ae ab.length ab) (ce:ab.length<=ac) (cb:Kd.C (Kd.slice 3 (Kd.int .i64)) w ag aa.length aa) (cg:aa.length<=af) (h:Fd.f k ab aa=some (r1,r2,r3)) :
  Calls Try.prog 53 #[.agg #[.slice ae ab.length ac, .slice ag aa.length af]] w fun e w'=>∃v0_ v1_:Value,e = .returned (.tuple #[.agg #[v0_,v1_], .int .i64 r3])/\Kd.R (Kd.int .i64) 3 w' w.heap.size (fun _=>True) v0_ r1/\Kd.S (Kd.slice 3 (Kd.int .i64)) 22 w' w.heap.size (fun k_=>some k_≠(v0_:Value).ownBlock) v1_ r2/\Below w.heap.size w w':=by
 refine(Fd.calls0 k ae ac ab ag af aa r1 r2 r3 w ca ce cb cg h).mono ?_
 rintro e w' ⟨v0_,v1_,he,h0,h1,hb⟩
 exact⟨v0_,v1_,he,Kd.R_mono h0 (fun _ _=>trivial),Kd.S_mono h1 (fun _ h_=>h_.2),hb⟩
mutual
def Fu.l0:Nat->Int->List Int->List (List Int)->List Int->List (List Int)->Option (Bool)
 | 0,_,_,_,_,_=>none
 | k + 1,x5,cq1,cq2,de5,cq3=>if x5 < (cq1.length:Int) then(if 0<=x5 then(if x5 < (de5.length:Int) then(if (rd cq1 x5)=(rd de5 x5) then(Fu.l1 k x5 0 cq1 cq2 de5 cq3) else(some false)) else(none)) else(none)) else(some true)
def Fu.l1:Nat->Int->Int->List Int->List (List Int)->List Int->List (List Int)->Option (Bool)
 | 0,_,_,_,_,_,_=>none
 | k + 1,x5,x6,cq1,cq2,de5,cq3=>if x6 < (cq1.length:Int) then(if 0<=x5 then(if x5 < (cq2.length:Int) then(if 0<=x6 then(if x6 < ((Jm cq2 x5).length:Int) then(if x5 < (cq3.length:Int) then(if x6 < ((Jm cq3 x5).length:Int) then(if (rd (Jm cq2 x5) x6)=(rd (Jm cq3 x5) x6) then(Fu.l1 k x5 (wrap64 (x6 + 1)) cq1 cq2 de5 cq3) else(some false)) else(none)) else(none)) else(none)) else(none)) else(none)) else(none)) else(Fu.l0 k (wrap64 (x5 + 1)) cq1 cq2 de5 cq3)
end
def Fu.f (k:Nat) (ab:List Int) (aa:List (List Int)) (fh:List Int) (fm:List (List Int)):Option (Bool):=Fu.l0 k 0 ab aa fh fm
theorem aj8 {p:Prop} (h:p:=by repeat(first|(with_reducible first|exact HB.out|apply Jf|apply Je|apply Jd|refine Jc ?_ gj8.out|refine Jc ?_ gj9.out)|exact HB.out)):p:=h
set_option maxHeartbeats 8000000 in
set_option maxRecDepth 100000 in
theorem Fu.calls (k:Nat) (ae:Option Addr) (ac:Nat) (ab:List Int) (ag:Option Addr) (af:Nat) (aa:List (List Int)) (mr:Option Addr) (mg:Nat) (fh:List Int) (np:Option Addr) (nr:Nat) (fm:List (List Int)) (r:Bool) (w:World) (ca:Kd.C (Kd.int .i64) w ae ab.length ab) (ce:ab.length<=ac) (cb:Kd.C (Kd.slice 3 (Kd.int .i64)) w ag aa.length aa) (cg:aa.length<=af) (av7:Kd.C (Kd.int .i64) w mr fh.length fh) (av8:fh.length<=mg) (av9:Kd.C (Kd.slice 3 (Kd.int .i64)) w np fm.length fm) (aw0:fm.length<=nr) (h:Fu.f k ab aa fh fm=some r) :
  Calls Try.prog 122 #[.agg #[.slice ae ab.length ac, .slice ag aa.length af], .agg #[.slice mr fh.length mg, .slice np fm.length nr]] w fun e w'=>e = .returned (.bool r)/\Below w.heap.size w w':=by
 have hu25:=Try.underlying25
 have bg:=A_ ca
 have bs:=A_ ce
 clear ca ce
 have bd:=A_ cb
 have bv:=A_ cg
 clear cb cg
 have aj9:=A_ av7
 have aw1:=A_ av8
 clear av7 av8
 have aw2:=A_ av9
 have bk4:=A_ aw0
 clear av9 aw0
 have HB:=A_ (Below.refl w.heap.size w)
 have H:(Fu.l0 k 0 ab aa fh fm)=some r:=h
 clear h
 have H':=A_ H
 clear H
 go_enter Try.func122,Try.ntmps122
 iterate 2 (go_wp2_with (first|((with_reducible refine gd_ 2 ?_);refine bx_ (N:=2) #[.slice ae ab.length ac, .slice ag aa.length af] 25 ?_;intro vv hg w3 hbox hb;have rv:=A_ (hbox);have ij3:=A_ ((g26_:w.heap.size<=vv));have gj8:=ij3;replace HB:=hs_ (aj8) hb;clear hb hbox hg)|((with_reducible refine gd_ 3 ?_);refine bx_ (N:=3) #[.slice mr fh.length mg, .slice np fm.length nr] 25 ?_;intro yy hg w4 hbox hb;have ar0:=A_ (hbox);have ij4:=A_ ((g26_:w.heap.size<=yy));have gj9:=ij4;replace HB:=hs_ (aj8) hb;have cc4:=nl_ rv hg;have cc5:=nr_ rv hg;replace rv:=bb_ rv hb;clear hb hbox hg));try(go_quiet (fail)))
 go_loopg [5] k (fun kq v5 w'=>∃(aj:Int),v5 = .int .i64 aj/\G7 (Fu.l0 kq aj ab aa fh fm=some r)/\G7 (kq<=k)/\G7 (hc_ w' vv #[(.slice ae ab.length ac),(.slice ag aa.length af)] 25)/\G7 (hc_ w' yy #[(.slice mr fh.length mg),(.slice np fm.length nr)] 25)/\G7 (Below w.heap.size w w'))
 case atStart=>exact⟨(0),(g3_),H',⟨Nat.le_refl _⟩,⟨uB_ rv⟩,⟨uB_ ar0⟩,⟨aj8⟩⟩
 clear H'
 obtain⟨aj,rfl,HA,HK1,rv,ar0,HB⟩:=hrel
 cases gk with
 | zero=>exact absurd HA.out (by simp[Fu.l0])
 | succ k1=>?_
 have H:=HA.out
 clear HA
 simp only[Fu.l0] at H
 by_cases c5:aj < (ab.length:Int)
 case neg=>
  rw[if_neg c5] at H
  have ki:=decide_eq_false c5
  clear c5
  obtain rfl:=Option.some.inj H
  have ga3:=cc4.out
  have ga4:=cc5.out
  obtain⟨ht6,ht7,ht8,ht9⟩:=blk2_ rv
  go_wp2
  repeat(go_quiet (fail);try go_wp2)
  go_ret
  exact⟨g4_,aj8⟩
 rw[if_pos c5] at H
 have ki:=decide_eq_true c5
 clear c5
 obtain⟨kb,H⟩:=pd_ H
 obtain⟨pw,H⟩:=pd_ H
 by_cases c8:(rd ab aj)=(rd fh aj)
 case neg=>
  rw[if_neg c8] at H
  have wx:((rd ab aj) == (rd fh aj))=false:=beq_eq_false_iff_ne.mpr c8
  have cc6:((rd ab aj) != (rd fh aj))=true:=bne_iff_ne.mpr c8
  obtain rfl:=Option.some.inj H
  have dc2:=cc4.out
  have dc3:=cc5.out
  obtain⟨da2,da3,da4,da5⟩:=blk2_ rv
  obtain⟨⟨ij5,gk0,de6⟩,cc7,cc8⟩:=rdp_ (Kd.at_int bg.out aj)
  cases gk0
  replace de6:=cl_ HB de6
  obtain⟨es8,es9,et0,et1⟩:=blk2_ ar0
  obtain⟨⟨ij6,gk1,de7⟩,cc9,cd0⟩:=rdp_ (Kd.at_int aj9.out aj)
  cases gk1
  replace de7:=cl_ HB de7
  go_wp2
  repeat(go_quiet (fail);try go_wp2)
  go_ret
  exact⟨g4_,aj8⟩
 rw[if_pos c8] at H
 have wx:((rd ab aj) == (rd fh aj))=true:=beq_iff_eq.mpr c8
 have cc6:((rd ab aj) != (rd fh aj))=false:=bne_eq_false_iff_eq.mpr c8
 clear c8
 have H':=A_ H
 clear H
 have cz0:=cc4.out
 have cz1:=cc5.out
 obtain⟨ye,yf,yg,yh⟩:=blk2_ rv
 obtain⟨⟨ij5,gk0,de6⟩,cc7,cc8⟩:=rdp_ (Kd.at_int bg.out aj)
 cases gk0
 replace de6:=cl_ HB de6
 obtain⟨si,sj,sk,sl⟩:=blk2_ ar0
 obtain⟨⟨ij6,gk1,de7⟩,cc9,cd0⟩:=rdp_ (Kd.at_int aj9.out aj)
 cases gk1
 replace de7:=cl_ HB de7
 go_wp2
 repeat(go_quiet (fail);try go_wp2)
 go_loopg [6] k1 (fun kq v6 w'=>∃(l9:Int),v6 = .int .i64 l9/\G7 (Fu.l1 kq aj l9 ab aa fh fm=some r)/\G7 (kq<=k1)/\G7 (hc_ w' vv #[(.slice (some ij5) ab.length ac),(.slice ag aa.length af)] 25)/\G7 (hc_ w' yy #[(.slice (some ij6) fh.length mg),(.slice np fm.length nr)] 25)/\G7 (Below w.heap.size w w'))
 case atStart=>exact⟨(0),(g3_),H',⟨Nat.le_refl _⟩,⟨uB_ rv⟩,⟨uB_ ar0⟩,⟨aj8⟩⟩
 clear H'
 obtain⟨l9,rfl,HA,HK2,rv,ar0,HB⟩:=hrel
 cases gk with
 | zero=>exact absurd HA.out (by simp[Fu.l1])
 | succ k2=>?_
 have H:=HA.out
 clear HA
 simp only[Fu.l1] at H
 by_cases k5:l9 < (ab.length:Int)
 case neg=>
  rw[if_neg k5] at H
  have ap3:=decide_eq_false k5
  clear k5
  have H':=A_ H
  clear H
  obtain⟨de0,de1,de2,de3⟩:=blk2_ rv
  go_wp2
  repeat(go_quiet (fail);try go_wp2)
  go_roundg k2
  case measure=>have:=HK1.out;have:=HK2.out;omega
  case rel=>exact⟨(wrap64 (aj + 1)),(g3_),H',⟨g40_⟩,⟨uB_ rv⟩,⟨uB_ ar0⟩,⟨aj8⟩⟩
 rw[if_pos k5] at H
 have ap3:=decide_eq_true k5
 clear k5
 obtain⟨dz6,H⟩:=pd_ H
 obtain⟨ap7,H⟩:=pd_ H
 obtain⟨pc,H⟩:=pd_ H
 obtain⟨af8,H⟩:=pd_ H
 obtain⟨ak3,H⟩:=pd_ H
 obtain⟨bg0,H⟩:=pd_ H
 by_cases fc:(rd (Jm aa aj) l9)=(rd (Jm fm aj) l9)
 ·rw[if_pos fc] at H
  have th:((rd (Jm aa aj) l9) == (rd (Jm fm aj) l9))=true:=beq_iff_eq.mpr fc
  have al8:((rd (Jm aa aj) l9) != (rd (Jm fm aj) l9))=false:=bne_eq_false_iff_eq.mpr fc
  clear fc
  have H':=A_ H
  clear H
  obtain⟨t6,t7,t8,t9⟩:=blk2_ rv
  obtain⟨⟨kq3,kq4,kq5,gk2,ed7,ed8,ed9⟩,cq4,cq5⟩:=rdp_ (at_L1 bd.out aj)
  cases gk2
  replace ed7:=cl_ HB ed7
  have gk3:=A_ ed9
  have kq6:=A_ ed8
  clear ed9 ed8
  obtain⟨⟨kq7,gk4,ee0⟩,cq6,cq7⟩:=rdp_ (Kd.at_int gk3.out l9)
  cases gk4
  replace ee0:=cl_ HB ee0
  obtain⟨ae5,ae6,ae7,ae8⟩:=blk2_ ar0
  obtain⟨⟨kq8,kq9,kr0,gk5,ee1,ee2,ee3⟩,cq8,cq9⟩:=rdp_ (at_L1 aw2.out aj)
  cases gk5
  replace ee1:=cl_ HB ee1
  have gk6:=A_ ee3
  have kr1:=A_ ee2
  clear ee3 ee2
  obtain⟨⟨kr2,gk7,ee4⟩,cr0,cr1⟩:=rdp_ (Kd.at_int gk6.out l9)
  cases gk7
  replace ee4:=cl_ HB ee4
  go_wp2
  repeat(go_quiet (fail);try go_wp2)
  go_roundg k2
  case measure=>have:=HK1.out;have:=HK2.out;omega
  case rel=>exact⟨(wrap64 (l9 + 1)),(g3_),H',⟨g40_⟩,⟨uB_ rv⟩,⟨uB_ ar0⟩,⟨aj8⟩⟩
 rw[if_neg fc] at H
 have th:((rd (Jm aa aj) l9) == (rd (Jm fm aj) l9))=false:=beq_eq_false_iff_ne.mpr fc
 have al8:((rd (Jm aa aj) l9) != (rd (Jm fm aj) l9))=true:=bne_iff_ne.mpr fc
 obtain rfl:=Option.some.inj H
 obtain⟨ij9,ik0,ik1,ik2⟩:=blk2_ rv
 obtain⟨⟨kq3,kq4,kq5,gk2,ed7,ed8,ed9⟩,cq4,cq5⟩:=rdp_ (at_L1 bd.out aj)
 cases gk2
 replace ed7:=cl_ HB ed7
 have gk3:=A_ ed9
 have kq6:=A_ ed8
 clear ed9 ed8
 obtain⟨⟨kq7,gk4,ee0⟩,cq6,cq7⟩:=rdp_ (Kd.at_int gk3.out l9)
 cases gk4
 replace ee0:=cl_ HB ee0
 obtain⟨fb1,fb2,fb3,fb4⟩:=blk2_ ar0
 obtain⟨⟨kq8,kq9,kr0,gk5,ee1,ee2,ee3⟩,cq8,cq9⟩:=rdp_ (at_L1 aw2.out aj)
 cases gk5
 replace ee1:=cl_ HB ee1
 have gk6:=A_ ee3
 have kr1:=A_ ee2
 clear ee3 ee2
 obtain⟨⟨kr2,gk7,ee4⟩,cr0,cr1⟩:=rdp_ (Kd.at_int gk6.out l9)
 cases gk7
 replace ee4:=cl_ HB ee4
 go_wp2
 repeat(go_quiet (fail);try go_wp2)
 go_ret
 exact⟨g4_,aj8⟩
attribute [local go_sem high] eqA69
mutual
def Fq.j0:Nat->Int->Bool->List Int->List (List Int)->Int->Int->Int->Int->List Int->List (List Int)->Option (List Int × (List (List Int)) × Bool)
 | 0,_,_,_,_,_,_,_,_,_,_=>none
 | k + 1,x6,x14,ar1,ar2,bp6,vw,al9,az9,bh3,ar3=>if x14=true then(if 0<=vw then(if vw < (bh3.length:Int) then((some (bh3.set (vw:Int).toNat az9:List Int)).bind fun bh4=>((Fu.f k bh4 ar3 ar1 ar2).bind fun ee5=>(some (bh4,ar3, !ee5)))) else(none)) else(none)) else(if bp6=1 then((F6.f vw 0 (wrap64 (x6 - 1))).bind fun gl0=>(if gl0=true then((F6.f al9 0 (wrap64 (x6 - 1))).bind fun gl1=>(if gl1=true then(if vw=al9 then(Fq.j1 k false ar1 ar2 bp6 vw al9 az9 bh3 ar3) else((F6.f az9 0 9).bind fun fb5=>(Fq.j1 k fb5 ar1 ar2 bp6 vw al9 az9 bh3 ar3))) else(Fq.j1 k false ar1 ar2 bp6 vw al9 az9 bh3 ar3))) else(Fq.j1 k false ar1 ar2 bp6 vw al9 az9 bh3 ar3))) else(Fq.j1 k false ar1 ar2 bp6 vw al9 az9 bh3 ar3))
def Fq.j1:Nat->Bool->List Int->List (List Int)->Int->Int->Int->Int->List Int->List (List Int)->Option (List Int × (List (List Int)) × Bool)
 | 0,_,_,_,_,_,_,_,_,_=>none
 | k + 1,x42,ar1,ar2,bp6,vw,al9,az9,bh3,ar3=>if x42=true then(if 0<=vw then(if vw < (ar3.length:Int) then(if 0<=al9 then(if al9 < ((Jm ar3 vw).length:Int) then((some (ar3.set (vw:Int).toNat ((Jm ar3 vw).set (al9:Int).toNat az9):List (List Int))).bind fun am0=>((Fu.f k bh3 am0 ar1 ar2).bind fun cr2=>(some (bh3,am0, !cr2)))) else(none)) else(none)) else(none)) else(none)) else(if (bp6 == 2 && (vw == 0 && (al9 == 0 && (az9 == 0))))=true then((Fk.f k ar1 ar2).bind fun bt373=>((Fu.f k bt373.1 bt373.2 ar1 ar2).bind fun gl2=>(some (bt373.1,bt373.2, !gl2)))) else(if (bp6 == 3 && (vw == 0 && (al9 == 0 && (az9 == 0))))=true then((Fd.f k ar1 ar2).bind fun bt380=>((Fu.f k bt380.1 bt380.2.1 ar1 ar2).bind fun gl3=>(some (bt380.1,bt380.2.1, !gl3)))) else(some (([]:List Int),([]:List (List Int)),false))))
end
def Fq.f (k:Nat) (ab:List Int) (aa:List (List Int)) (aq:Int) (am:Int) (an:Int) (ao:Int):Option (List Int × (List (List Int)) × Bool):=(Fr.f k ab aa).bind fun bt354=>(if aq=0 then((F6.f am 0 (wrap64 ((ab.length:Int) - 1))).bind fun ee6=>(if ee6=true then(if an=0 then((F6.f ao 0 20).bind fun de8=>(Fq.j0 k (ab.length:Int) de8 ab aa aq am an ao bt354.1 bt354.2)) else(Fq.j0 k (ab.length:Int) false ab aa aq am an ao bt354.1 bt354.2)) else(Fq.j0 k (ab.length:Int) false ab aa aq am an ao bt354.1 bt354.2))) else(Fq.j0 k (ab.length:Int) false ab aa aq am an ao bt354.1 bt354.2))
def Fq.T7:Bool × List (List Nat × List Nat):=(true,[([],[]),([0],[0]),([],[]),([2],[2]),([1,3],[1,3]),([4],[4]),([],[]),([6],[6]),([],[]),([8],[8]),([5,7,0,1,2,3,4,5,6,7,8,9],[5,7]),([10,9,0,1,2,3,4,5,6,7,8,9],[9,10])])
def Fq.B7:List Nat:=[0,1,0,4,15,31,0,64,0,256,1023,2047]
theorem Fq.tab7:rtab .any (opsOf Try.f101 7)=Fq.T7:=by kernel_rfl
theorem Fq.bits7:waitsOk Fq.T7.2 Fq.B7=true:=by kernel_rfl
theorem lw {p:Prop} (h:p:=by repeat(first|(with_reducible first|exact HB.out|apply Jf|apply Je|apply Jd|refine Jc ?_ kr3.out|refine Jc ?_ kr4.out|refine Jc ?_ ee7.out|refine Jc ?_ kr5.out|refine Jc ?_ GB91.out)|exact HB.out)):p:=h
set_option maxHeartbeats 8000000 in
set_option maxRecDepth 100000 in
theorem Fq.calls (k:Nat) (ae:Option Addr) (ac:Nat) (ab:List Int) (ag:Option Addr) (af:Nat) (aa:List (List Int)) (aq:Int) (am:Int) (an:Int) (ao:Int) (r1:List Int) (r2:List (List Int)) (r3:Bool) (w:World) (ca:Kd.C (Kd.int .i64) w ae ab.length ab) (ce:ab.length<=ac) (cb:Kd.C (Kd.slice 3 (Kd.int .i64)) w ag aa.length aa) (cg:aa.length<=af) (h:Fq.f k ab aa aq am an ao=some (r1,r2,r3)) :
  Calls Try.prog 101 #[.agg #[.slice ae ab.length ac, .slice ag aa.length af], .agg #[.int .i64 aq, .int .i64 am, .int .i64 an, .int .i64 ao]] w fun e w'=>∃v0_ v1_:Value,e = .returned (.tuple #[.agg #[v0_,v1_], .bool r3])/\Kd.R (Kd.int .i64) 3 w' w.heap.size (fun _=>True) v0_ r1/\Kd.S (Kd.slice 3 (Kd.int .i64)) 22 w' w.heap.size (fun k_=>some k_≠(v0_:Value).ownBlock) v1_ r2/\Below w.heap.size w w':=by
 have hu25:=Try.underlying25
 have hu69:=Try.underlying69
 have bg:=A_ ca
 have bs:=A_ ce
 clear ca ce
 have bd:=A_ cb
 have bv:=A_ cg
 clear cb cg
 have HB:=A_ (Below.refl w.heap.size w)
 have H:=h
 unfold Fq.f at H
 clear h
 replace H:=Option.bind_eq_some_iff.mp H
 obtain⟨⟨g4,i3⟩,yw,H⟩:=H
 try dsimp only at H
 have A3:=A_ yw
 clear yw
 have HC4:=A_ H
 clear H
 go_enter Try.func101,Try.ntmps101
 go_upto_region 4 with(first|((with_reducible refine gd_ 2 ?_);refine bx_ (N:=2) #[.slice ae ab.length ac, .slice ag aa.length af] 25 ?_;intro ql hg w5 hbox hb;have fd:=A_ (hbox);have nn6:=A_ ((g41_:w.heap.size<=ql));have kr3:=nn6;replace HB:=hs_ (lw) hb;clear hb hbox hg)|((with_reducible refine gd_ 3 ?_);refine bx_ (N:=3) #[.int .i64 aq, .int .i64 am, .int .i64 an, .int .i64 ao] 69 ?_;intro rx hg w6 hbox hb;have fi:=A_ (hbox);have nn7:=A_ ((g41_:w.heap.size<=rx));have kr4:=nn7;replace HB:=hs_ (lw) hb;have ah1:=nl_ fd hg;have ah2:=nr_ fd hg;replace fd:=bb_ fd hb;clear hb hbox hg)|((with_reducible refine gd_ 4 ?_);refine bx_ (N:=4) #[.slice none 0 0, .slice none 0 0] 25 ?_;intro b9 hg w7 hbox hb;have ct:=A_ (hbox);have gl4:=A_ ((g41_:w.heap.size<=b9));have ee7:=gl4;replace HB:=hs_ (lw) hb;have ot:=nl_ fd hg;have ar4:=nr_ fd hg;replace fd:=bb_ fd hb;have sy:=nl_ fi hg;have s8:=nr_ fi hg;replace fi:=bb_ fi hb;clear hb hbox hg;have da8:=ah1.out;have da9:=ah2.out;have cz0:=ot.out;have cz1:=ar4.out;obtain⟨ye,yf,yg,yh⟩:=blk2_ fd)|((with_reducible refine gc_ 80 ?_);refine gl_ 12 Try.func80 #[.agg #[.slice ae ab.length ac, .slice ag aa.length af]] ?_;(refine(Fr.calls k _ _ ab _ _ aa g4 i3 _ (uC_ bg) bs.out (uC_ bd) bv.out A3.out).mono ?_);rintro e kj ⟨ik3,nn8,rfl,ah,ak,hb⟩;refine⟨_,rfl,?_⟩;have am1:=A_ (Kd.R_lower ah (G9 (lw)));have de9:=A_ (Kd.S_lower ak (G9 (lw)));replace fd:=bb_ fd hb;replace fi:=bb_ fi hb;replace ct:=bb_ ct hb;replace HB:=hs_ (lw) hb)|((with_reducible refine gd_ 7 ?_);refine bx_ (N:=7) #[.slice none 0 0, .slice none 0 0] 25 ?_;intro ek hg t5 hbox hb;replace am1:=rb_ am1 hb;replace de9:=sb_ de9 hb;have ew:=A_ (hbox);have nn9:=A_ ((g41_:w.heap.size<=ek));have kr5:=nn9;replace HB:=hs_ (lw) hb;have df0:=nl_ fd hg;have fb6:=nr_ fd hg;replace fd:=bb_ fd hb;have yz:=nl_ fi hg;have ah3:=nr_ fi hg;replace fi:=bb_ fi hb;have ab1:=nl_ ct hg;have n4:=nr_ ct hg;replace ct:=bb_ ct hb;clear hb hbox hg;obtain⟨jc,gv,bn5⟩:=Kd.R_slice am1.out;subst bn5;have do5:=fb6.out;have do6:=df0.out;have dc5:=ah3.out;have dc6:=yz.out;have fb7:=n4.out;have fb8:=ab1.out;obtain⟨dt1,dt2,dt3,dt4⟩:=blk2_ ew;obtain⟨nc,kz,gl6⟩:=Kd.S_slice de9.out;subst gl6))
 (try simp only[Act.put,List.setIfInBounds_toArray,List.set_cons_zero,List.set_cons_succ])
 go_cut [14] (fun v14 wc=>∃(kq:Nat) (fb9:Bool),v14 = .bool fb9/\G7 (Fq.j0 kq (ab.length:Int) fb9 ab aa aq am an ao g4 i3=some (r1,r2,r3))/\G7 (kq<=k)/\G7 (Kd.R (Kd.int .i64) 3 wc w.heap.size (fun _=>True) (.slice jc g4.length gv) g4)/\G7 (Kd.S (Kd.slice 3 (Kd.int .i64)) 22 wc w.heap.size (fun k_=>some k_≠((.slice jc g4.length gv):Value).ownBlock) (.slice nc i3.length kz) i3)/\G7 (hc_ wc ql #[(.slice ae ab.length ac),(.slice ag aa.length af)] 25)/\G7 (hc_ wc rx #[.int .i64 aq, .int .i64 am, .int .i64 an, .int .i64 ao] 69)/\G7 (hc_ wc b9 #[(.slice none 0 0),(.slice none 0 0)] 25)/\G7 (hc_ wc ek #[(.slice jc g4.length gv),(.slice nc i3.length kz)] 25)/\G7 (Below w.heap.size w wc))
 case first=>
  have H:=HC4.out
  clear HC4
  by_cases fc:aq=0
  case neg=>
   rw[if_neg fc] at H
   have th:(aq == 0)=false:=beq_eq_false_iff_ne.mpr fc
   have al8:(aq != 0)=true:=bne_iff_ne.mpr fc
   (first|rw[th]|(simp only[i64_w,i32_w];rw[th])|skip)
   have H':=A_ H
   clear H
   have ik8:=ah2.out
   have ik9:=ah1.out
   have kr6:=sy.out
   have kr7:=s8.out
   have no0:=yz.out
   have no1:=ah3.out
   obtain⟨il0,il1,il2,il3,il4,il5,il6,il7⟩:=blk4_ fi
   go_wp2
   go_meet
   case rel=>exact⟨_,(false),(g3_),H',⟨g9_⟩,⟨ra_ am1⟩,⟨sa_ de9⟩,⟨ba_ fd⟩,⟨ba_ fi⟩,⟨ba_ ct⟩,⟨ba_ ew⟩,⟨lw⟩⟩
  rw[if_pos fc] at H
  have th:(aq == 0)=true:=beq_iff_eq.mpr fc
  have al8:(aq != 0)=false:=bne_eq_false_iff_eq.mpr fc
  clear fc
  (first|rw[th]|(simp only[i64_w,i32_w];rw[th])|skip)
  obtain⟨ee6,vm,H⟩:=bind_ H
  by_cases pd:ee6=true
  case neg=>
   replace pd:=Bool.eq_false_iff.mpr pd
   subst pd
   replace H:=ifn_ H
   have H':=A_ H
   clear H
   have ed0:=ah2.out
   have ed1:=ah1.out
   have bz8:=sy.out
   have bz9:=s8.out
   have ef0:=yz.out
   have ef1:=ah3.out
   obtain⟨bm8,bm9,cd1,fc2,bn0,bn1,cd2,fc3⟩:=blk4_ fi
   go_wp2_with (first|(go_at_call 65;(with_reducible refine(F6.calls am 0 (wrap64 ((ab.length:Int) - 1)) false _ vm.out).mono ?_);rintro e w' ⟨rfl,⟨nd,rfl⟩⟩))
   go_meet
   case rel=>exact⟨_,(false),(g3_),H',⟨g9_⟩,⟨ra_ am1⟩,⟨sa_ de9⟩,⟨ba_ fd⟩,⟨ba_ fi⟩,⟨ba_ ct⟩,⟨ba_ ew⟩,⟨lw⟩⟩
  subst pd
  replace H:=ifp_ H
  by_cases la:an=0
  ·rw[if_pos la] at H
   have ax5:(an == 0)=true:=beq_iff_eq.mpr la
   have gl8:(an != 0)=false:=bne_eq_false_iff_eq.mpr la
   clear la
   obtain⟨de8,A23,H⟩:=bind_ H
   have H':=A_ H
   clear H
   have fc0:=ah2.out
   have fc1:=ah1.out
   have gm0:=sy.out
   have gm1:=s8.out
   have gk8:=yz.out
   have gk9:=ah3.out
   obtain⟨de0,de1,ik4,ik5,de2,de3,ik6,ik7⟩:=blk4_ fi
   have MK65_0:=True.intro
   go_wp2_with (first|(clear MK65_0;go_at_call 65;(with_reducible refine(F6.calls am 0 (wrap64 ((ab.length:Int) - 1)) true _ vm.out).mono ?_);rintro e w' ⟨rfl,⟨nd,rfl⟩⟩)|(go_at_call 65;(with_reducible refine(F6.calls ao 0 20 de8 _ A23.out).mono ?_);rintro e w' ⟨rfl,⟨nd,rfl⟩⟩))
   go_meet
   case rel=>exact⟨_,(de8),(g3_),H',⟨g9_⟩,⟨ra_ am1⟩,⟨sa_ de9⟩,⟨ba_ fd⟩,⟨ba_ fi⟩,⟨ba_ ct⟩,⟨ba_ ew⟩,⟨lw⟩⟩
  rw[if_neg la] at H
  have ax5:(an == 0)=false:=beq_eq_false_iff_ne.mpr la
  have gl8:(an != 0)=true:=bne_iff_ne.mpr la
  have H':=A_ H
  clear H
  have dc2:=ah2.out
  have dc3:=ah1.out
  have dx9:=sy.out
  have dy0:=s8.out
  have ga1:=yz.out
  have ga2:=ah3.out
  obtain⟨cl0,cl1,ee8,gm2,cl2,cl3,ee9,gm3⟩:=blk4_ fi
  go_wp2_with (first|(go_at_call 65;(with_reducible refine(F6.calls am 0 (wrap64 ((ab.length:Int) - 1)) true _ vm.out).mono ?_);rintro e w' ⟨rfl,⟨nd,rfl⟩⟩))
  go_meet
  case rel=>exact⟨_,(false),(g3_),H',⟨g9_⟩,⟨ra_ am1⟩,⟨sa_ de9⟩,⟨ba_ fd⟩,⟨ba_ fi⟩,⟨ba_ ct⟩,⟨ba_ ew⟩,⟨lw⟩⟩
 clear HC4
 obtain⟨kq,fb9,rfl,HA,HJ3,gh,gq,fd,fi,ct,ew,HB⟩:=hcut
 cases kq with
 | zero=>exact absurd HA.out (by simp[Fq.j0])
 | succ kj3=>?_
 have H:=HA.out
 clear HA
 simp only[Fq.j0] at H
 by_cases yr:fb9=true
 ·subst yr
  replace H:=ifp_ H
  obtain⟨ey0,H⟩:=pd_ H
  obtain⟨kr8,H⟩:=pd_ H
  obtain⟨bh4,hyq⟩:∃y_:List Int,y_=(g4.set (am:Int).toNat ao):=⟨_,rfl⟩
  replace H:((Fu.f kj3 bh4 i3 ab aa).bind fun ee5=>(some (bh4,i3, !ee5)))=some (r1,r2,r3):=qh_
  have kr9:=A_ hyq
  clear hyq
  obtain⟨ee5,A44,H⟩:=bind_ H
  simp only[Option.some.injEq,Prod.mk.injEq] at H
  obtain⟨rfl,rfl,rfl⟩:=H
  have dy9:=fb6.out
  have dz0:=df0.out
  have gd5:=ah3.out
  have gd6:=yz.out
  have gj6:=n4.out
  have gj7:=ab1.out
  obtain⟨ed3,ed4,ed5,ed6⟩:=blk2_ ew
  have il8:=ah2.out
  have il9:=ah1.out
  have gm4:=sy.out
  have gm5:=s8.out
  obtain⟨dz2,dz3,fc4,gm6,dz4,dz5,fc5,gm7⟩:=blk4_ fi
  have p43:0<=(am:Int):=od_
  have q43:(am:Int) < ((g4.length:Int):Int):=od_
  obtain⟨ar5,na,bh2,im0,gl43,cl43,HG43⟩:=Kd.R_form gh.out (by omega)
  (first|cases bh2|(injection bh2 with ea_ en_ ec_;(first|subst ea_|(injection ea_ with ea_;subst ea_));subst ec_;clear en_))
  have GB43:=A_ im0
  have GG43:=A_ HG43
  clear im0 gl43 HG43
  obtain⟨ks0,hf43_0⟩:=Kd.R_celln 0 gh.out (am:Int) p43 q43
  replace p43:=eq_true p43
  replace q43:=eq_true q43
  have HP52:=Kd.R_putg gh.out (am:Int) ao
  try go_wp2_with (first|((with_reducible refine gate_store (t:=3) (p:=41) rfl ?_);refine store_event (t:=3) (p:=41) (v:=?vo_w53) (w1:=(wc.setCell ⟨ar5,(am:Int).toNat,none⟩ (.int .i64 ao))) ?hg ?ho ?hn ?hr ?_;(case ho=>rfl);(case hg=>rfl);(case hn=>rfl);(case hr=>first|(go_simp;done)|(go_simp;rfl));intro jz hw;have hg:wc.grownBy jz (some ar5):=(by rw[hw];exact HP52.2);have hp_:Kd.R (Kd.int .i64) 3 jz w.heap.size (fun _=>True) (.slice (some ⟨ar5,0,none⟩) g4.length gv) bh4:=(by rw[hw,kr9.out];exact HP52.1);clear HP52;replace gq:=A_ (Kd.S_after (v:=(.slice (some ⟨ar5,0,none⟩) g4.length gv)) (v1:=(.slice (some ⟨ar5,0,none⟩) g4.length gv)) (ok:=(fun _=>True)) (yS_ gq (fun _ hk=>⟨trivial,hk⟩)) hg (.inl rfl));replace fd:=(bg_ fd hg (Kd.R_ne gh.out fd.out (by decide)));replace fi:=(bg_ fi hg (Kd.R_ne gh.out fi.out (by decide)));replace ct:=(bg_ ct hg (Kd.R_ne gh.out ct.out (by decide)));replace ew:=(bg_ ew hg (Kd.R_ne gh.out ew.out (by decide)));replace gh:=A_ (hp_);replace HB:=A_ ((by rw[hw];exact Jc (HB.out) GB43.out:Below w.heap.size w jz));clear hg hw hp_))
  replace gh:=rd_ gh
  replace gq:=sd_ gq
  replace fd:=bd_ fd
  replace fi:=bd_ fi
  replace ct:=bd_ ct
  replace ew:=bd_ ew
  replace HB:=A_ (Jd HB.out)
  refine start_ (n:=7) (S:=fun w'=>w'.cell? ⟨ek,0,none⟩=some (.slice (some ⟨ar5,0,none⟩) g4.length gv)/\w'.cell? ⟨ek,1,none⟩=some (.slice nc i3.length kz)/\w'.cell? ⟨ql,0,none⟩=some (.slice ae ab.length ac)/\w'.cell? ⟨ql,1,none⟩=some (.slice ag aa.length af)) (ds:=[]) (tl_ 7 0) (g1_) rfl (g1_) ⟨(G8 ew.out 0).trans rfl,(G8 ew.out 1).trans rfl,(G8 fd.out 0).trans rfl,(G8 fd.out 1).trans rfl⟩ (fun hHeld=>?_)
  generalize jz.drew=w54 at gh gq fd fi ct ew HB hHeld |-
  refine take_ (i:=0) (N:=some 98) (v:=?_) (a':=?_) (tl_ 7 1) rfl rfl (g1_) (fun _ _ _ h=>h) (Or.inl ⟨by rfl,?_⟩) hHeld ?_ ?_
  rotate_left
  ·rintro w' ⟨s0,s1,s2,s3⟩
   go_simp
   with_reducible rfl
  rotate_left
  · exact sp_
  refine take_ (i:=1) (N:=some 99) (v:=?_) (a':=?_) (tl_ 7 3) rfl rfl (g1_) (fun _ _ _ h=>h) (Or.inl ⟨by rfl,?_⟩) hHeld ?_ ?_
  rotate_left
  ·rintro w' ⟨s0,s1,s2,s3⟩
   go_simp
   with_reducible rfl
  rotate_left
  · exact sp_
  refine take_ (i:=2) (N:=some 100) (v:=?_) (a':=?_) (tl_ 7 7) rfl rfl (g1_) (fun _ _ _ h=>h) (Or.inl ⟨by rfl,?_⟩) hHeld ?_ ?_
  rotate_left
  ·rintro w' ⟨s0,s1,s2,s3⟩
   go_simp
   with_reducible rfl
  rotate_left
  · exact sp_
  refine one_ (i:=3) (N:=some 101) (tl_ 7 15) rfl rfl (g1_) (by decide) (fun K hK=>?_)
  refine goes_ Try.func122 (g1_) rfl #[.agg #[.slice (some ⟨ar5,0,none⟩) bh4.length gv, .slice nc i3.length kz], .agg #[.slice ae ab.length ac, .slice ag aa.length af]] (by rfl) rfl rfl (by(try simp only[List.map_toArray,List.map_cons,List.map_nil]);first|done|(rw[show bh4.length=g4.length from(Kd.R_reads' gh.out).1.symm] <;> rfl)|rfl|(simp only[List.length_drop,List.length_take];rfl)) ?_
  with_reducible refine(Fu.calls kj3 _ _ bh4 _ _ i3 _ _ ab _ _ aa ee5 _ ?side1 ?side2 ?side3 ?side4 ?side5 ?side6 ?side7 ?side8 A44.out).mono ?_
  (case side1=>exact cR_ gh)
  (case side2=>rw[show bh4.length=g4.length from(Kd.R_reads' gh.out).1.symm];exact(Kd.R_reads' gh.out).2.1)
  (case side3=>exact cS_ gq)
  (case side4=>exact lS_ gq)
  (case side5=>exact uC_ bg)
  (case side6=>exact bs.out)
  (case side7=>exact uC_ bd)
  (case side8=>exact bv.out)
  rintro e w55 ⟨rfl,hb⟩
  refine⟨_,rfl,?_⟩
  replace gh:=rb_ gh hb
  replace gq:=sb_ gq hb
  replace fd:=bb_ fd hb
  replace fi:=bb_ fi hb
  replace ct:=bb_ ct hb
  replace ew:=bb_ ew hb
  replace HB:=hs_ (lw) hb
  refine hK.out _ _ ⟨(G8 ew.out 0).trans rfl,(G8 ew.out 1).trans rfl,(G8 fd.out 0).trans rfl,(G8 fd.out 1).trans rfl⟩ (fun hHeld=>?_)
  clear hK K
  refine nm_ ?_
  refine pure_ (i:=4) (N:=some 102) (v:=?_) (a':=?_) (tl_ 7 31) rfl rfl (g1_) (fun _ _ _ h=>h) (Or.inl ⟨by rfl,?_⟩) ?_ ?_
  rotate_left
  ·intro w'
   go_simp
   with_reducible rfl
  rotate_left
  · exact sp_
  refine one_ (i:=5) (N:=none) (tl_ 7 63) rfl rfl (g1_) (by decide) (fun K hK=>?_)
  have ks1:w55.cell? ⟨b9,0,none⟩=some (.slice none 0 0):=(G8 ct.out 0).trans rfl
  have ks2:=Jj ct.out 0
  have ks3:=ot.out
  have ks6:=ar4.out
  have ks9:w55.cell? ⟨b9,1,none⟩=some (.slice none 0 0):=(G8 ct.out 1).trans rfl
  have kt0:=Jj ct.out 1
  refine skip_ (w1:=?_) (by rfl) rfl ?_ ?_
  rotate_left
  ·go_simp
   rfl
  refine hK.out _ _ ⟨(cf_ n4 ((cf_ n4 (hHeld.1)))),(cf_ n4 ((cf_ n4 (hHeld.2.1)))),(cf_ ot ((cf_ ot (hHeld.2.2.1)))),(cf_ ot ((cf_ ot (hHeld.2.2.2))))⟩ (fun hHeld=>?_)
  clear hK K
  refine pure_ (i:=6) (N:=some 5) (v:=?_) (a':=?_) (tl_ 7 127) rfl rfl (g1_) (fun _ _ _ h=>h) (Or.inl ⟨by rfl,?_⟩) ?_ ?_
  rotate_left
  ·intro w'
   go_simp
   with_reducible rfl
  rotate_left
  · exact sp_
  refine done_ (g1_) ?_
  try go_wp2
  refine bodyPost_ret (Jt rfl _ _ b9 25 #[.slice (some ⟨ar5,0,none⟩) g4.length gv, .slice nc i3.length kz] (0,0) _ rfl (ba_ ct) Try.underlying25 rfl (g1_)) rfl ?_
  exact⟨_,_,g4_,ra_ gh,sa_ gq,lw⟩
 replace yr:=Bool.eq_false_iff.mpr yr
 subst yr
 replace H:=ifn_ H
 have cr3:=A_ H
 clear H
 go_upto_region 6 with(fail)
 go_cut [42] (fun v42 wc=>∃(kq:Nat) (fc6:Bool),v42 = .bool fc6/\G7 (Fq.j1 kq fc6 ab aa aq am an ao g4 i3=some (r1,r2,r3))/\G7 (kq<=kj3)/\G7 (Kd.R (Kd.int .i64) 3 wc w.heap.size (fun _=>True) (.slice jc g4.length gv) g4)/\G7 (Kd.S (Kd.slice 3 (Kd.int .i64)) 22 wc w.heap.size (fun k_=>some k_≠((.slice jc g4.length gv):Value).ownBlock) (.slice nc i3.length kz) i3)/\G7 (hc_ wc ql #[(.slice ae ab.length ac),(.slice ag aa.length af)] 25)/\G7 (hc_ wc rx #[.int .i64 aq, .int .i64 am, .int .i64 an, .int .i64 ao] 69)/\G7 (hc_ wc b9 #[(.slice none 0 0),(.slice none 0 0)] 25)/\G7 (hc_ wc ek #[(.slice jc g4.length gv),(.slice nc i3.length kz)] 25)/\G7 (Below w.heap.size w wc))
 case first=>
  have H:=cr3.out
  clear cr3
  by_cases xj:aq=1
  case neg=>
   rw[if_neg xj] at H
   have df1:(aq == 1)=false:=beq_eq_false_iff_ne.mpr xj
   have im1:(aq != 1)=true:=bne_iff_ne.mpr xj
   (first|rw[df1]|(simp only[i64_w,i32_w];rw[df1])|skip)
   have H':=A_ H
   clear H
   have in6:=ah2.out
   have in7:=ah1.out
   have kw7:=sy.out
   have kw8:=s8.out
   have no4:=yz.out
   have no5:=ah3.out
   obtain⟨kw9,kx0,kx1,kx2,kx3,kx4,kx5,kx6⟩:=blk4_ fi
   go_wp2
   go_meet
   case rel=>exact⟨_,(false),(g3_),H',⟨g89_⟩,⟨uR_ gh⟩,⟨uS_ gq⟩,⟨uB_ fd⟩,⟨uB_ fi⟩,⟨uB_ ct⟩,⟨uB_ ew⟩,⟨lw⟩⟩
  rw[if_pos xj] at H
  have df1:(aq == 1)=true:=beq_iff_eq.mpr xj
  have im1:(aq != 1)=false:=bne_eq_false_iff_eq.mpr xj
  clear xj
  (first|rw[df1]|(simp only[i64_w,i32_w];rw[df1])|skip)
  obtain⟨gl0,A60,H⟩:=bind_ H
  by_cases c61:gl0=true
  case neg=>
   replace c61:=Bool.eq_false_iff.mpr c61
   subst c61
   replace H:=ifn_ H
   have H':=A_ H
   clear H
   have kv7:=ah2.out
   have kv8:=ah1.out
   have in2:=sy.out
   have in3:=s8.out
   have in4:=yz.out
   have in5:=ah3.out
   obtain⟨kv9,kw0,kw1,kw2,kw3,kw4,kw5,kw6⟩:=blk4_ fi
   go_wp2_with (first|(go_at_call 65;(with_reducible refine(F6.calls am 0 (wrap64 ((ab.length:Int) - 1)) false _ A60.out).mono ?_);rintro e w' ⟨rfl,⟨nd,rfl⟩⟩))
   go_meet
   case rel=>exact⟨_,(false),(g3_),H',⟨g89_⟩,⟨uR_ gh⟩,⟨uS_ gq⟩,⟨uB_ fd⟩,⟨uB_ fi⟩,⟨uB_ ct⟩,⟨uB_ ew⟩,⟨lw⟩⟩
  subst c61
  replace H:=ifp_ H
  obtain⟨gl1,A62,H⟩:=bind_ H
  by_cases c63:gl1=true
  case neg=>
   replace c63:=Bool.eq_false_iff.mpr c63
   subst c63
   replace H:=ifn_ H
   have H':=A_ H
   clear H
   have fc7:=ah2.out
   have fc8:=ah1.out
   have in0:=sy.out
   have in1:=s8.out
   have no2:=yz.out
   have no3:=ah3.out
   obtain⟨ku9,kv0,kv1,kv2,kv3,kv4,kv5,kv6⟩:=blk4_ fi
   have MK65_0:=True.intro
   go_wp2_with (first|(clear MK65_0;go_at_call 65;(with_reducible refine(F6.calls am 0 (wrap64 ((ab.length:Int) - 1)) true _ A60.out).mono ?_);rintro e w' ⟨rfl,⟨nd,rfl⟩⟩)|(go_at_call 65;(with_reducible refine(F6.calls an 0 (wrap64 ((ab.length:Int) - 1)) false _ A62.out).mono ?_);rintro e w' ⟨rfl,⟨nd,rfl⟩⟩))
   go_meet
   case rel=>exact⟨_,(false),(g3_),H',⟨g89_⟩,⟨uR_ gh⟩,⟨uS_ gq⟩,⟨uB_ fd⟩,⟨uB_ fi⟩,⟨uB_ ct⟩,⟨uB_ ew⟩,⟨lw⟩⟩
  subst c63
  replace H:=ifp_ H
  by_cases c64:am=an
  ·rw[if_pos c64] at H
   have im2:(am == an)=true:=beq_iff_eq.mpr c64
   have im3:(am != an)=false:=bne_eq_false_iff_eq.mpr c64
   clear c64
   have H':=A_ H
   clear H
   have gm8:=ah2.out
   have gm9:=ah1.out
   have kt7:=sy.out
   have kt8:=s8.out
   have im4:=yz.out
   have im5:=ah3.out
   obtain⟨gn0,gn1,gn2,kt9,gn3,gn4,gn5,ku0⟩:=blk4_ fi
   have MK65_0:=True.intro
   go_wp2_with (first|(clear MK65_0;go_at_call 65;(with_reducible refine(F6.calls am 0 (wrap64 ((ab.length:Int) - 1)) true _ A60.out).mono ?_);rintro e w' ⟨rfl,⟨nd,rfl⟩⟩)|(go_at_call 65;(with_reducible refine(F6.calls an 0 (wrap64 ((ab.length:Int) - 1)) true _ A62.out).mono ?_);rintro e w' ⟨rfl,⟨nd,rfl⟩⟩))
   go_meet
   case rel=>exact⟨_,(false),(g3_),H',⟨g89_⟩,⟨uR_ gh⟩,⟨uS_ gq⟩,⟨uB_ fd⟩,⟨uB_ fi⟩,⟨uB_ ct⟩,⟨uB_ ew⟩,⟨lw⟩⟩
  rw[if_neg c64] at H
  have im2:(am == an)=false:=beq_eq_false_iff_ne.mpr c64
  have im3:(am != an)=true:=bne_iff_ne.mpr c64
  obtain⟨fb5,A69,H⟩:=bind_ H
  have H':=A_ H
  clear H
  have gn6:=ah2.out
  have gn7:=ah1.out
  have im6:=sy.out
  have im7:=s8.out
  have im8:=yz.out
  have im9:=ah3.out
  obtain⟨ku1,ku2,ku3,ku4,ku5,ku6,ku7,ku8⟩:=blk4_ fi
  have MK65_0:=True.intro
  have MK65_1:=True.intro
  go_wp2_with (first|(clear MK65_0;go_at_call 65;(with_reducible refine(F6.calls am 0 (wrap64 ((ab.length:Int) - 1)) true _ A60.out).mono ?_);rintro e w' ⟨rfl,⟨nd,rfl⟩⟩)|(clear MK65_1;go_at_call 65;(with_reducible refine(F6.calls an 0 (wrap64 ((ab.length:Int) - 1)) true _ A62.out).mono ?_);rintro e w' ⟨rfl,⟨nd,rfl⟩⟩)|(go_at_call 65;(with_reducible refine(F6.calls ao 0 9 fb5 _ A69.out).mono ?_);rintro e w' ⟨rfl,⟨nd,rfl⟩⟩))
  go_meet
  case rel=>exact⟨_,(fb5),(g3_),H',⟨g89_⟩,⟨uR_ gh⟩,⟨uS_ gq⟩,⟨uB_ fd⟩,⟨uB_ fi⟩,⟨uB_ ct⟩,⟨uB_ ew⟩,⟨lw⟩⟩
 clear cr3
 obtain⟨kq,fc6,rfl,HA,HJ57,gh,gq,fd,fi,ct,ew,HB⟩:=hcut
 cases kq with
 | zero=>exact absurd HA.out (by simp[Fq.j1])
 | succ kj57=>?_
 have H:=HA.out
 clear HA
 simp only[Fq.j1] at H
 by_cases c86:fc6=true
 ·subst c86
  replace H:=ifp_ H
  obtain⟨no7,H⟩:=pd_ H
  obtain⟨no8,H⟩:=pd_ H
  obtain⟨no9,H⟩:=pd_ H
  obtain⟨np0,H⟩:=pd_ H
  obtain⟨gn8,hyq⟩:∃y_:List Int,y_=((Jm i3 am).set (an:Int).toNat ao):=⟨_,rfl⟩
  replace H:((some (i3.set (am:Int).toNat gn8:List (List Int))).bind fun am0=>((Fu.f kj57 g4 am0 ab aa).bind fun cr2=>(some (g4,am0, !cr2))))=some (r1,r2,r3):=qh_
  have kx7:=A_ hyq
  clear hyq
  obtain⟨am0,hyq⟩:∃y_:List (List Int),y_=(i3.set (am:Int).toNat gn8):=⟨_,rfl⟩
  replace H:((Fu.f kj57 g4 am0 ab aa).bind fun cr2=>(some (g4,am0, !cr2)))=some (r1,r2,r3):=qh_
  have kx8:=A_ hyq
  clear hyq
  obtain⟨cr2,A92,H⟩:=bind_ H
  simp only[Option.some.injEq,Prod.mk.injEq] at H
  obtain⟨rfl,rfl,rfl⟩:=H
  try go_wp2
  replace gh:=rd_ gh
  replace gq:=sd_ gq
  replace fd:=bd_ fd
  replace fi:=bd_ fi
  replace ct:=bd_ ct
  replace ew:=bd_ ew
  replace HB:=A_ (Jd HB.out)
  have fc9:0<=(am:Int):=od_
  have fd0:am < (i3.length:Int):=od_
  obtain⟨bp7,np1,kx9,ky0,fd1,in8,in9⟩:=at_L1 (Kd.S_reads' gq.out).2.2 am fc9 fd0
  cases ky0
  obtain⟨ce368,hce368,hMe368,hcc368⟩:=Kd.S_get gq.out [] am fc9 (by first|exact fd0|exact od_|(have e_:=(Kd.S_reads' gq.out).1;omega))
  obtain⟨ve368_0,rfl,ge368_0⟩:=hMe368
  have hv368_0:=hcc368 0 _ rfl
  rw[Nat.add_zero,show((Kd.slice 3 (Kd.int .i64))).sz=1 from rfl,Nat.mul_one] at hv368_0
  replace hv368_0:=Option.some.inj (hv368_0.symm.trans fd1)
  rw[hv368_0] at ge368_0
  have cd3:=A_ (show Kd.R (Kd.int .i64) 3 _ _ _ _ (Jm i3 am) from ge368_0)
  clear hv368_0 ge368_0
  have HX368_0:=A_ fd1
  clear hcc368 hce368
  have ky1:=A_ in9
  have np2:=A_ in8
  clear in9 in8
  replace fc9:=eq_true fc9
  replace fd0:=eq_true fd0
  have p91:0<=(an:Int):=od_
  have q91:(an:Int) < (((Jm i3 am).length:Int):Int):=od_
  obtain⟨bh5,io0,ef2,io1,gl91,cl91,HG91⟩:=Kd.R_form cd3.out (by omega)
  (first|cases ef2|(injection ef2 with ea_ en_ ec_;(first|subst ea_|(injection ea_ with ea_;subst ea_));subst ec_;clear en_))
  have GB91:=A_ io1
  have GG91:=A_ HG91
  clear io1 gl91 HG91
  obtain⟨ky2,hf91_0⟩:=Kd.R_celln 0 cd3.out (an:Int) p91 q91
  replace p91:=eq_true p91
  replace q91:=eq_true q91
  have hq94:(am:Int) < (i3.length:Int):=(by have h_:(am:Int) < ((i3.length:Int):Int):=od_;first|exact h_|(have e_:=(Kd.S_reads' gq.out).1;omega)|simpa only[List.length_set,List.length_set] using h_)
  obtain⟨oki94,ce94,hcl94,hM94,hcc94,hok94,hbk94⟩:=Kd.S_borrow gq.out [] (am:Int) (od_) (by first|exact hq94|exact od_|(have e_:=(Kd.S_reads' gq.out).1;omega))
  obtain⟨ve94_0,rfl,ge94_0⟩:=hM94
  have hv94:=hcc94 0 _ rfl
  rw[Nat.add_zero,show((Kd.slice 3 (Kd.int .i64))).sz=1 from rfl,Nat.mul_one] at hv94
  replace hv94:=Option.some.inj (hv94.symm.trans HX368_0.out)
  subst hv94
  clear hcc94 hcl94
  replace ge94_0:=(show Kd.R (Kd.int .i64) 3 _ _ _ _ (Jm i3 am) from ge94_0)
  have HP94:=Kd.R_putg ge94_0 (an:Int) ao
  rw[<- kx7.out] at HP94
  have HS94:=hbk94 HP94.2 (fun k_ e_=>by injection e_ with e_;subst e_;exact ge94_0.1 _ rfl) (x':=gn8) (Kd.M_row HP94.1)
  rw[<- kx8.out] at HS94
  have HQ94:=A_ HS94
  clear HP94 HS94 hbk94 hok94
  refine start_ (n:=12) (S:=fun w'=>w'.cell? ⟨ek,0,none⟩=some (.slice jc g4.length gv)/\w'.cell? ⟨ek,1,none⟩=some (.slice (some bp7) i3.length kz)/\w'.cell? ⟨rx,0,none⟩=some (.int .i64 aq)/\w'.cell? ⟨rx,1,none⟩=some (.int .i64 am)/\w'.cell? ⟨rx,2,none⟩=some (.int .i64 an)/\w'.cell? ⟨rx,3,none⟩=some (.int .i64 ao)/\w'.cell? (bp7.add (am).toNat)=some (.slice (some ⟨bh5,0,none⟩) (Jm i3 am).length kx9)) (ds:=[11]) (tl_ 12 0) (g1_) rfl (g1_) ⟨(G8 ew.out 0).trans rfl,(G8 ew.out 1).trans rfl,(G8 fi.out 0).trans rfl,(G8 fi.out 1).trans rfl,(G8 fi.out 2).trans rfl,(G8 fi.out 3).trans rfl,fd1⟩ (fun hHeld=>?_);refine Js Fq.tab7 Fq.bits7 (fun HT_ HW_=>?_)
  generalize wc.drew=w93 at gh gq fd fi ct ew HB GG91 cd3 HQ94 ky1 HX368_0 hf91_0 fd1 ky2 hHeld |-
  refine pw_ 0 72 (tl_ 12 1) ?_
  refine pw_ 2 74 (tl_ 12 5) ?_
  refine pw_ 6 78 (tl_ 12 69) ?_
  refine pw_ 8 80 (tl_ 12 325) ?_
  refine tk3_ 1 73 (tl_ 12 327) hHeld ?_
  refine tk3_ 3 75 (tl_ 12 335) hHeld ?_
  refine pw_ 4 76 (tl_ 12 351) ?_
  refine tk3_ 5 77 (tl_ 12 383) hHeld ?_
  refine tk3_ 7 79 (tl_ 12 511) hHeld ?_
  refine tk3_ 9 81 (tl_ 12 1023) hHeld ?_
  refine pw_ 10 82 (tl_ 12 2047) ?_
  refine last_ (i:=11) (N:=none) (tl_ 12 4095) rfl rfl (Ju HT_.out (g1_)) (by decide) (fun K hK=>?_)
  refine skip_ (w1:=?_) (by rfl) rfl ?_ ?_
  rotate_left
  ·go_simp
   rfl
  refine hK.out _ _ ?_
  clear hK K
  refine done_ (done_of HT_.out (g1_)) ?_
  generalize hw_:(w93.setCell ⟨bh5,(an:Int).toNat,none⟩ (.int .i64 ao))=w96
  have n0_:G7 (Kd.R (Kd.int .i64) 3 w96 w.heap.size (fun _=>True) (.slice jc g4.length gv) g4):=A_ (by rw[<- hw_];exact(by(with_reducible repeat(first|apply Kd.R_alloc|apply Kd.R_drewN|apply Kd.R_drew));exact Kd.R_mono (Kd.R_far (p:=⟨bh5,(an:Int).toNat,none⟩) (Kd.R_far1 gh.out rfl ((cd3.out.1 _ rfl).1)) (fun _ hk=>hk.2) (.int .i64 ao)) (fun _ hk=>trivial)))
  have n1_:G7 (Kd.S (Kd.slice 3 (Kd.int .i64)) 22 w96 w.heap.size (fun k_=>some k_≠(.slice jc g4.length gv:Value).ownBlock) (.slice (some bp7) i3.length kz) am0):=A_ (by rw[<- hw_];exact uS_ HQ94)
  have n2_:G7 (hc_ w96 ql #[.slice ae ab.length ac, .slice ag aa.length af] 25):=A_ (by rw[<- hw_];exact(by(with_reducible repeat(first|refine Jh ?_ _|refine Ji ?_|refine Jg ?_ _));refine Jp ?_ (by have h_:=Kd.R_ne cd3.out fd.out (by decide);intro e_;exact h_ (g6_)) _;exact uB_ fd))
  have n3_:G7 (hc_ w96 rx #[.int .i64 aq, .int .i64 am, .int .i64 an, .int .i64 ao] 69):=A_ (by rw[<- hw_];exact(by(with_reducible repeat(first|refine Jh ?_ _|refine Ji ?_|refine Jg ?_ _));refine Jp ?_ (by have h_:=Kd.R_ne cd3.out fi.out (by decide);intro e_;exact h_ (g6_)) _;exact uB_ fi))
  have n4_:G7 (hc_ w96 b9 #[.slice none 0 0, .slice none 0 0] 25):=A_ (by rw[<- hw_];exact(by(with_reducible repeat(first|refine Jh ?_ _|refine Ji ?_|refine Jg ?_ _));refine Jp ?_ (by have h_:=Kd.R_ne cd3.out ct.out (by decide);intro e_;exact h_ (g6_)) _;exact uB_ ct))
  have n5_:G7 (hc_ w96 ek #[.slice jc g4.length gv, .slice (some bp7) i3.length kz] 25):=A_ (by rw[<- hw_];exact(by(with_reducible repeat(first|refine Jh ?_ _|refine Ji ?_|refine Jg ?_ _));refine Jp ?_ (by have h_:=Kd.R_ne cd3.out ew.out (by decide);intro e_;exact h_ (g6_)) _;exact uB_ ew))
  have n6_:G7 (Below w.heap.size w w96):=A_ (by rw[<- hw_];exact lw)
  clear hw_
  have gh:=n0_
  have gq:=n1_
  have fd:=n2_
  have fi:=n3_
  have ct:=n4_
  have ew:=n5_
  have HB:=n6_
  clear n0_ n1_ n2_ n3_ n4_ n5_ n6_
  try go_wp2
  replace gh:=rd_ gh
  replace gq:=sd_ gq
  replace fd:=bd_ fd
  replace fi:=bd_ fi
  replace ct:=bd_ ct
  replace ew:=bd_ ew
  replace HB:=A_ (Jd HB.out)
  refine start_ (n:=7) (S:=fun w'=>w'.cell? ⟨ek,0,none⟩=some (.slice jc g4.length gv)/\w'.cell? ⟨ek,1,none⟩=some (.slice (some bp7) i3.length kz)/\w'.cell? ⟨ql,0,none⟩=some (.slice ae ab.length ac)/\w'.cell? ⟨ql,1,none⟩=some (.slice ag aa.length af)) (ds:=[]) (tl_ 7 0) (g1_) rfl (g1_) ⟨(G8 ew.out 0).trans rfl,(G8 ew.out 1).trans rfl,(G8 fd.out 0).trans rfl,(G8 fd.out 1).trans rfl⟩ (fun hHeld=>?_)
  generalize w96.drew=w97 at gh gq fd fi ct ew HB hHeld |-
  refine take_ (i:=0) (N:=some 98) (v:=?_) (a':=?_) (tl_ 7 1) rfl rfl (g1_) (fun _ _ _ h=>h) (Or.inl ⟨by rfl,?_⟩) hHeld ?_ ?_
  rotate_left
  ·rintro w' ⟨s0,s1,s2,s3⟩
   go_simp
   with_reducible rfl
  rotate_left
  · exact sp_
  refine take_ (i:=1) (N:=some 99) (v:=?_) (a':=?_) (tl_ 7 3) rfl rfl (g1_) (fun _ _ _ h=>h) (Or.inl ⟨by rfl,?_⟩) hHeld ?_ ?_
  rotate_left
  ·rintro w' ⟨s0,s1,s2,s3⟩
   go_simp
   with_reducible rfl
  rotate_left
  · exact sp_
  refine take_ (i:=2) (N:=some 100) (v:=?_) (a':=?_) (tl_ 7 7) rfl rfl (g1_) (fun _ _ _ h=>h) (Or.inl ⟨by rfl,?_⟩) hHeld ?_ ?_
  rotate_left
  ·rintro w' ⟨s0,s1,s2,s3⟩
   go_simp
   with_reducible rfl
  rotate_left
  · exact sp_
  refine one_ (i:=3) (N:=some 101) (tl_ 7 15) rfl rfl (g1_) (by decide) (fun K hK=>?_)
  refine goes_ Try.func122 (g1_) rfl #[.agg #[.slice jc g4.length gv, .slice (some bp7) am0.length kz], .agg #[.slice ae ab.length ac, .slice ag aa.length af]] (by rfl) rfl rfl (by(try simp only[List.map_toArray,List.map_cons,List.map_nil]);first|done|(rw[show am0.length=i3.length from(Kd.S_reads' gq.out).1.symm] <;> rfl)|rfl|(simp only[List.length_drop,List.length_take];rfl)) ?_
  with_reducible refine(Fu.calls kj57 _ _ g4 _ _ am0 _ _ ab _ _ aa cr2 _ ?side1 ?side2 ?side3 ?side4 ?side5 ?side6 ?side7 ?side8 A92.out).mono ?_
  (case side1=>exact cR_ gh)
  (case side2=>exact lR_ gh)
  (case side3=>exact cS_ gq)
  (case side4=>rw[show am0.length=i3.length from(Kd.S_reads' gq.out).1.symm];exact(Kd.S_reads' gq.out).2.1)
  (case side5=>exact uC_ bg)
  (case side6=>exact bs.out)
  (case side7=>exact uC_ bd)
  (case side8=>exact bv.out)
  rintro e w98 ⟨rfl,hb⟩
  refine⟨_,rfl,?_⟩
  replace gh:=rb_ gh hb
  replace gq:=sb_ gq hb
  replace fd:=bb_ fd hb
  replace fi:=bb_ fi hb
  replace ct:=bb_ ct hb
  replace ew:=bb_ ew hb
  replace HB:=hs_ (lw) hb
  refine hK.out _ _ ⟨(G8 ew.out 0).trans rfl,(G8 ew.out 1).trans rfl,(G8 fd.out 0).trans rfl,(G8 fd.out 1).trans rfl⟩ (fun hHeld=>?_)
  clear hK K
  refine nm_ ?_
  refine pure_ (i:=4) (N:=some 102) (v:=?_) (a':=?_) (tl_ 7 31) rfl rfl (g1_) (fun _ _ _ h=>h) (Or.inl ⟨by rfl,?_⟩) ?_ ?_
  rotate_left
  ·intro w'
   go_simp
   with_reducible rfl
  rotate_left
  · exact sp_
  refine one_ (i:=5) (N:=none) (tl_ 7 63) rfl rfl (g1_) (by decide) (fun K hK=>?_)
  have np3:w98.cell? ⟨b9,0,none⟩=some (.slice none 0 0):=(G8 ct.out 0).trans rfl
  have np4:=Jj ct.out 0
  have np5:=ot.out
  have np6:=sy.out
  have np7:=n4.out
  have np8:=ar4.out
  have np9:=s8.out
  have nq0:=ab1.out
  have nq1:w98.cell? ⟨b9,1,none⟩=some (.slice none 0 0):=(G8 ct.out 1).trans rfl
  have nq2:=Jj ct.out 1
  refine skip_ (w1:=?_) (by rfl) rfl ?_ ?_
  rotate_left
  ·go_simp
   rfl
  refine hK.out _ _ ⟨(cf_ n4 ((cf_ n4 (hHeld.1)))),(cf_ n4 ((cf_ n4 (hHeld.2.1)))),(cf_ ot ((cf_ ot (hHeld.2.2.1)))),(cf_ ot ((cf_ ot (hHeld.2.2.2))))⟩ (fun hHeld=>?_)
  clear hK K
  refine pure_ (i:=6) (N:=some 5) (v:=?_) (a':=?_) (tl_ 7 127) rfl rfl (g1_) (fun _ _ _ h=>h) (Or.inl ⟨by rfl,?_⟩) ?_ ?_
  rotate_left
  ·intro w'
   go_simp
   with_reducible rfl
  rotate_left
  · exact sp_
  refine done_ (g1_) ?_
  try go_wp2
  refine bodyPost_ret (Jt rfl _ _ b9 25 #[.slice jc g4.length gv, .slice (some bp7) i3.length kz] (0,0) _ rfl (ba_ ct) Try.underlying25 rfl (g1_)) rfl ?_
  exact⟨_,_,g4_,ra_ gh,sa_ gq,lw⟩
 replace c86:=Bool.eq_false_iff.mpr c86
 subst c86
 replace H:=ifn_ H
 by_cases tj:(aq == 2 && (am == 0 && (an == 0 && (ao == 0))))=true
 ·rw[if_pos tj] at H
  have bp8:(aq == 2 && (am == 0 && (an == 0 && (ao == 0))))=true:=tj
  (try(have ky3:decide (aq=2 && (am == 0 && (an == 0 && (ao == 0))))=true:=by simpa using tj))
  (try(have ky4:(aq == 2 && (am == 0 && (an == 0 && (ao == 0))))=true:=by simpa using tj))
  clear tj
  replace H:=Option.bind_eq_some_iff.mp H
  obtain⟨⟨n5,qc⟩,io2,H⟩:=H
  try dsimp only at H
  have fd2:=A_ io2
  clear io2
  obtain⟨gl2,ky5,H⟩:=bind_ H
  simp only[Option.some.injEq,Prod.mk.injEq] at H
  obtain⟨rfl,rfl,rfl⟩:=H
  have fd3:=ah2.out
  have fd4:=ah1.out
  have fd5:=sy.out
  have fd6:=s8.out
  have fd7:=yz.out
  have fd8:=ah3.out
  obtain⟨cr4,cr5,df2,nq9,cr6,cr7,df3,nr0⟩:=blk4_ fi
  have gn9:=ot.out
  have go0:=ar4.out
  have go1:=df0.out
  have go2:=fb6.out
  obtain⟨fd9,fe0,fe1,fe2⟩:=blk2_ fd
  try go_wp2_with (first|((with_reducible refine gc_ 41 ?_);refine gl_ 88 Try.func41 #[.agg #[.slice ae ab.length ac, .slice ag aa.length af]] ?_;(refine(Fk.calls kj57 _ _ ab _ _ aa n5 qc _ (uC_ bg) bs.out (uC_ bd) bv.out fd2.out).mono ?_);rintro e ba0 ⟨nr1,nr2,rfl,ah,ak,hb⟩;refine⟨_,rfl,?_⟩;have ar6:=A_ (Kd.R_lower (Kd.R_new' ah (Kd.R_lt (uR_ gh))) (G9 (lw)));have ar7:=A_ (Kd.S_lower (Kd.S_new' (Kd.S_new' ak (Kd.R_lt (uR_ gh))) (Kd.S_lt (uS_ gq))) (G9 (lw)));replace gh:=A_ (Kd.R_elder' (uR_ gh) (Kd.R_base ah) hb);replace gq:=A_ (Kd.S_mono (Kd.S_told (Kd.S_told (Kd.S_old (uS_ gq) hb) (Kd.R_base ah)) (Kd.S_base ak)) (fun _ h_=>h_.1));replace fd:=bb_ fd hb;replace fi:=bb_ fi hb;replace ct:=bb_ ct hb;replace ew:=bb_ ew hb;replace HB:=hs_ (lw) hb;obtain⟨pe,pf,ky6⟩:=Kd.R_slice ar6.out;subst ky6;have go3:=n4.out;have go4:=ab1.out;obtain⟨ky7,ky8,ky9,kz0⟩:=blk2_ ew;obtain⟨pg,ph,go6⟩:=Kd.S_slice ar7.out;subst go6))
  have n0_:G7 (Kd.R (Kd.int .i64) 3 ((ba0.setCell ⟨ek,0,none⟩ (.slice pe n5.length pf)).setCell ⟨ek,1,none⟩ (.slice pg qc.length ph)) w.heap.size (fun k_=>some k_≠(.slice pe n5.length pf:Value).ownBlock) (.slice jc g4.length gv) g4):=⟨ra_ gh⟩
  have n1_:G7 (Kd.S (Kd.slice 3 (Kd.int .i64)) 22 ((ba0.setCell ⟨ek,0,none⟩ (.slice pe n5.length pf)).setCell ⟨ek,1,none⟩ (.slice pg qc.length ph)) w.heap.size (fun k_=>some k_≠(.slice jc g4.length gv:Value).ownBlock/\some k_≠(.slice pe n5.length pf:Value).ownBlock/\some k_≠(.slice pg qc.length ph:Value).ownBlock) (.slice nc i3.length kz) i3):=⟨sa_ gq⟩
  have n2_:G7 (Kd.R (Kd.int .i64) 3 ((ba0.setCell ⟨ek,0,none⟩ (.slice pe n5.length pf)).setCell ⟨ek,1,none⟩ (.slice pg qc.length ph)) w.heap.size (fun k_=>some k_≠(.slice jc g4.length gv:Value).ownBlock) (.slice pe n5.length pf) n5):=⟨ra_ ar6⟩
  have n3_:G7 (Kd.S (Kd.slice 3 (Kd.int .i64)) 22 ((ba0.setCell ⟨ek,0,none⟩ (.slice pe n5.length pf)).setCell ⟨ek,1,none⟩ (.slice pg qc.length ph)) w.heap.size (fun k_=>some k_≠(.slice jc g4.length gv:Value).ownBlock/\some k_≠(.slice nc i3.length kz:Value).ownBlock/\some k_≠(.slice pe n5.length pf:Value).ownBlock) (.slice pg qc.length ph) qc):=⟨sa_ ar7⟩
  have n4_:G7 (((ba0.setCell ⟨ek,0,none⟩ (.slice pe n5.length pf)).setCell ⟨ek,1,none⟩ (.slice pg qc.length ph)).heap[ql]? = some (.cells #[.slice ae ab.length ac, .slice ag aa.length af] 25 (0,0))):=⟨ba_ fd⟩
  have n5_:G7 (((ba0.setCell ⟨ek,0,none⟩ (.slice pe n5.length pf)).setCell ⟨ek,1,none⟩ (.slice pg qc.length ph)).heap[rx]? = some (.cells #[.int .i64 aq, .int .i64 am, .int .i64 an, .int .i64 ao] 69 (0,0))):=⟨ba_ fi⟩
  have n6_:G7 (((ba0.setCell ⟨ek,0,none⟩ (.slice pe n5.length pf)).setCell ⟨ek,1,none⟩ (.slice pg qc.length ph)).heap[b9]? = some (.cells #[.slice none 0 0, .slice none 0 0] 25 (0,0))):=⟨ba_ ct⟩
  have n7_:G7 (((ba0.setCell ⟨ek,0,none⟩ (.slice pe n5.length pf)).setCell ⟨ek,1,none⟩ (.slice pg qc.length ph)).heap[ek]? = some (.cells #[.slice pe n5.length pf, .slice pg qc.length ph] 25 (0,0))):=⟨ba_ ew⟩
  have n8_:G7 (Below w.heap.size w ((ba0.setCell ⟨ek,0,none⟩ (.slice pe n5.length pf)).setCell ⟨ek,1,none⟩ (.slice pg qc.length ph))):=⟨lw⟩
  generalize ((ba0.setCell ⟨ek,0,none⟩ (.slice pe n5.length pf)).setCell ⟨ek,1,none⟩ (.slice pg qc.length ph))=kz1 at n0_ n1_ n2_ n3_ n4_ n5_ n6_ n7_ n8_ |-
  have gh:=n0_
  have gq:=n1_
  have ar6:=n2_
  have ar7:=n3_
  have fd:=n4_
  have fi:=n5_
  have ct:=n6_
  have ew:=n7_
  have HB:=n8_
  clear n0_ n1_ n2_ n3_ n4_ n5_ n6_ n7_ n8_
  replace gh:=rd_ gh
  replace gq:=sd_ gq
  replace ar6:=rd_ ar6
  replace ar7:=sd_ ar7
  replace fd:=bd_ fd
  replace fi:=bd_ fi
  replace ct:=bd_ ct
  replace ew:=bd_ ew
  replace HB:=A_ (Jd HB.out)
  refine start_ (n:=7) (S:=fun w'=>w'.cell? ⟨ek,0,none⟩=some (.slice pe n5.length pf)/\w'.cell? ⟨ek,1,none⟩=some (.slice pg qc.length ph)/\w'.cell? ⟨ql,0,none⟩=some (.slice ae ab.length ac)/\w'.cell? ⟨ql,1,none⟩=some (.slice ag aa.length af)) (ds:=[]) (tl_ 7 0) (g1_) rfl (g1_) ⟨(G8 ew.out 0).trans rfl,(G8 ew.out 1).trans rfl,(G8 fd.out 0).trans rfl,(G8 fd.out 1).trans rfl⟩ (fun hHeld=>?_)
  generalize kz1.drew=io3 at gh gq ar6 ar7 fd fi ct ew HB hHeld |-
  refine take_ (i:=0) (N:=some 98) (v:=?_) (a':=?_) (tl_ 7 1) rfl rfl (g1_) (fun _ _ _ h=>h) (Or.inl ⟨by rfl,?_⟩) hHeld ?_ ?_
  rotate_left
  ·rintro w' ⟨s0,s1,s2,s3⟩
   go_simp
   with_reducible rfl
  rotate_left
  · exact sp_
  refine take_ (i:=1) (N:=some 99) (v:=?_) (a':=?_) (tl_ 7 3) rfl rfl (g1_) (fun _ _ _ h=>h) (Or.inl ⟨by rfl,?_⟩) hHeld ?_ ?_
  rotate_left
  ·rintro w' ⟨s0,s1,s2,s3⟩
   go_simp
   with_reducible rfl
  rotate_left
  · exact sp_
  refine take_ (i:=2) (N:=some 100) (v:=?_) (a':=?_) (tl_ 7 7) rfl rfl (g1_) (fun _ _ _ h=>h) (Or.inl ⟨by rfl,?_⟩) hHeld ?_ ?_
  rotate_left
  ·rintro w' ⟨s0,s1,s2,s3⟩
   go_simp
   with_reducible rfl
  rotate_left
  · exact sp_
  refine one_ (i:=3) (N:=some 101) (tl_ 7 15) rfl rfl (g1_) (by decide) (fun K hK=>?_)
  refine goes_ Try.func122 (g1_) rfl #[.agg #[.slice pe n5.length pf, .slice pg qc.length ph], .agg #[.slice ae ab.length ac, .slice ag aa.length af]] (by rfl) rfl rfl (gM_) ?_
  refine(Fu.calls kj57 _ _ n5 _ _ qc _ _ ab _ _ aa gl2 _ (cR_ ar6) (lR_ ar6) (cS_ ar7) (lS_ ar7) (uC_ bg) bs.out (uC_ bd) bv.out ky5.out).mono ?_
  rintro e go8 ⟨rfl,hb⟩
  refine⟨_,rfl,?_⟩
  replace gh:=rb_ gh hb
  replace gq:=sb_ gq hb
  replace ar6:=rb_ ar6 hb
  replace ar7:=sb_ ar7 hb
  replace fd:=bb_ fd hb
  replace fi:=bb_ fi hb
  replace ct:=bb_ ct hb
  replace ew:=bb_ ew hb
  replace HB:=hs_ (lw) hb
  refine hK.out _ _ ⟨(G8 ew.out 0).trans rfl,(G8 ew.out 1).trans rfl,(G8 fd.out 0).trans rfl,(G8 fd.out 1).trans rfl⟩ (fun hHeld=>?_)
  clear hK K
  refine nm_ ?_
  refine pure_ (i:=4) (N:=some 102) (v:=?_) (a':=?_) (tl_ 7 31) rfl rfl (g1_) (fun _ _ _ h=>h) (Or.inl ⟨by rfl,?_⟩) ?_ ?_
  rotate_left
  ·intro w'
   go_simp
   with_reducible rfl
  rotate_left
  · exact sp_
  refine one_ (i:=5) (N:=none) (tl_ 7 63) rfl rfl (g1_) (by decide) (fun K hK=>?_)
  have nr3:go8.cell? ⟨b9,0,none⟩=some (.slice none 0 0):=(G8 ct.out 0).trans rfl
  have nr4:=Jj ct.out 0
  have nr7:=n4.out
  have ns0:=ab1.out
  have ns1:go8.cell? ⟨b9,1,none⟩=some (.slice none 0 0):=(G8 ct.out 1).trans rfl
  have ns2:=Jj ct.out 1
  refine skip_ (w1:=?_) (by rfl) rfl ?_ ?_
  rotate_left
  ·go_simp
   rfl
  refine hK.out _ _ ⟨(cf_ n4 ((cf_ n4 (hHeld.1)))),(cf_ n4 ((cf_ n4 (hHeld.2.1)))),(cf_ ot ((cf_ ot (hHeld.2.2.1)))),(cf_ ot ((cf_ ot (hHeld.2.2.2))))⟩ (fun hHeld=>?_)
  clear hK K
  refine pure_ (i:=6) (N:=some 5) (v:=?_) (a':=?_) (tl_ 7 127) rfl rfl (g1_) (fun _ _ _ h=>h) (Or.inl ⟨by rfl,?_⟩) ?_ ?_
  rotate_left
  ·intro w'
   go_simp
   with_reducible rfl
  rotate_left
  · exact sp_
  refine done_ (g1_) ?_
  try go_wp2
  refine bodyPost_ret (Jt rfl _ _ b9 25 #[.slice pe n5.length pf, .slice pg qc.length ph] (0,0) _ rfl (ba_ ct) Try.underlying25 rfl (g1_)) rfl ?_
  exact⟨_,_,g4_,ra_ ar6,sa_ ar7,lw⟩
 rw[if_neg tj] at H
 have bp8:(aq == 2 && (am == 0 && (an == 0 && (ao == 0))))=false:=by simpa using tj
 (try(have ky3:decide (aq=2 && (am == 0 && (an == 0 && (ao == 0))))=false:=by simpa using tj))
 (try(have ky4:(aq == 2 && (am == 0 && (an == 0 && (ao == 0))))=false:=by simpa using tj))
 (try(have ns9:¬ (aq=2 && (am == 0 && (an == 0 && (ao == 0)))):=by simpa using tj))
 clear tj
 by_cases ba1:(aq == 3 && (am == 0 && (an == 0 && (ao == 0))))=true
 case neg=>
  rw[if_neg ba1] at H
  have kz2:(aq == 3 && (am == 0 && (an == 0 && (ao == 0))))=false:=by simpa using ba1
  (try(have kz3:decide (aq=3 && (am == 0 && (an == 0 && (ao == 0))))=false:=by simpa using ba1))
  (try(have kz4:(aq == 3 && (am == 0 && (an == 0 && (ao == 0))))=false:=by simpa using ba1))
  (try(have nv4:¬ (aq=3 && (am == 0 && (an == 0 && (ao == 0)))):=by simpa using ba1))
  clear ba1
  simp only[Option.some.injEq,Prod.mk.injEq] at H
  obtain⟨rfl,rfl,rfl⟩:=H
  have ip6:=ah2.out
  have ip7:=ah1.out
  have lb1:=sy.out
  have lb2:=s8.out
  have ip8:=yz.out
  have ip9:=ah3.out
  obtain⟨lb3,lb4,lb5,nv5,lb6,lb7,lb8,nv6⟩:=blk4_ fi
  have lb9:=ar4.out
  have lc0:=ot.out
  have lc1:=ab1.out
  have lc2:=n4.out
  obtain⟨lc3,lc4,lc5,lc6⟩:=blk2_ ct
  go_wp2
  refine bodyPost_ret (Jt rfl _ _ b9 25 #[.slice none 0 0, .slice none 0 0] (0,0) _ rfl (ba_ ct) Try.underlying25 rfl (g1_)) rfl ?_
  exact⟨_,_,g4_,g25_,g38_,lw⟩
 rw[if_pos ba1] at H
 have kz2:(aq == 3 && (am == 0 && (an == 0 && (ao == 0))))=true:=ba1
 (try(have kz3:decide (aq=3 && (am == 0 && (an == 0 && (ao == 0))))=true:=by simpa using ba1))
 (try(have kz4:(aq == 3 && (am == 0 && (an == 0 && (ao == 0))))=true:=by simpa using ba1))
 clear ba1
 replace H:=Option.bind_eq_some_iff.mp H
 obtain⟨⟨n6,qd,kz5⟩,io4,H⟩:=H
 try dsimp only at H
 have ef3:=A_ io4
 clear io4
 obtain⟨gl3,kz6,H⟩:=bind_ H
 simp only[Option.some.injEq,Prod.mk.injEq] at H
 obtain⟨rfl,rfl,rfl⟩:=H
 have kz7:=ah2.out
 have kz8:=ah1.out
 have kz9:=sy.out
 have la0:=s8.out
 have gp0:=yz.out
 have gp1:=ah3.out
 obtain⟨io5,io6,io7,nt0,io8,io9,ip0,nt1⟩:=blk4_ fi
 have ip1:=ot.out
 have ip2:=ar4.out
 have la1:=df0.out
 have la2:=fb6.out
 obtain⟨nt2,nt3,nt4,nt5⟩:=blk2_ fd
 try go_wp2_with (first|((with_reducible refine gc_ 53 ?_);refine gl_ 95 Try.func53 #[.agg #[.slice ae ab.length ac, .slice ag aa.length af]] ?_;(refine(Fd.calls kj57 _ _ ab _ _ aa n6 qd kz5 _ (uC_ bg) bs.out (uC_ bd) bv.out ef3.out).mono ?_);rintro e bh6 ⟨nt6,nt7,rfl,ah,ak,hb⟩;refine⟨_,rfl,?_⟩;have ar8:=A_ (Kd.R_lower (Kd.R_new' ah (Kd.R_lt (uR_ gh))) (G9 (lw)));have ar9:=A_ (Kd.S_lower (Kd.S_new' (Kd.S_new' ak (Kd.R_lt (uR_ gh))) (Kd.S_lt (uS_ gq))) (G9 (lw)));replace gh:=A_ (Kd.R_elder' (uR_ gh) (Kd.R_base ah) hb);replace gq:=A_ (Kd.S_mono (Kd.S_told (Kd.S_told (Kd.S_old (uS_ gq) hb) (Kd.R_base ah)) (Kd.S_base ak)) (fun _ h_=>h_.1));replace fd:=bb_ fd hb;replace fi:=bb_ fi hb;replace ct:=bb_ ct hb;replace ew:=bb_ ew hb;replace HB:=hs_ (lw) hb;obtain⟨pi,pj,la3⟩:=Kd.R_slice ar8.out;subst la3;have ip3:=n4.out;have ip4:=ab1.out;obtain⟨la4,la5,la6,la7⟩:=blk2_ ew;obtain⟨ry,rz,la8⟩:=Kd.S_slice ar9.out;subst la8))
 have n0_:G7 (Kd.R (Kd.int .i64) 3 ((bh6.setCell ⟨ek,0,none⟩ (.slice pi n6.length pj)).setCell ⟨ek,1,none⟩ (.slice ry qd.length rz)) w.heap.size (fun k_=>some k_≠(.slice pi n6.length pj:Value).ownBlock) (.slice jc g4.length gv) g4):=⟨ra_ gh⟩
 have n1_:G7 (Kd.S (Kd.slice 3 (Kd.int .i64)) 22 ((bh6.setCell ⟨ek,0,none⟩ (.slice pi n6.length pj)).setCell ⟨ek,1,none⟩ (.slice ry qd.length rz)) w.heap.size (fun k_=>some k_≠(.slice jc g4.length gv:Value).ownBlock/\some k_≠(.slice pi n6.length pj:Value).ownBlock/\some k_≠(.slice ry qd.length rz:Value).ownBlock) (.slice nc i3.length kz) i3):=⟨sa_ gq⟩
 have n2_:G7 (Kd.R (Kd.int .i64) 3 ((bh6.setCell ⟨ek,0,none⟩ (.slice pi n6.length pj)).setCell ⟨ek,1,none⟩ (.slice ry qd.length rz)) w.heap.size (fun k_=>some k_≠(.slice jc g4.length gv:Value).ownBlock) (.slice pi n6.length pj) n6):=⟨ra_ ar8⟩
 have n3_:G7 (Kd.S (Kd.slice 3 (Kd.int .i64)) 22 ((bh6.setCell ⟨ek,0,none⟩ (.slice pi n6.length pj)).setCell ⟨ek,1,none⟩ (.slice ry qd.length rz)) w.heap.size (fun k_=>some k_≠(.slice jc g4.length gv:Value).ownBlock/\some k_≠(.slice nc i3.length kz:Value).ownBlock/\some k_≠(.slice pi n6.length pj:Value).ownBlock) (.slice ry qd.length rz) qd):=⟨sa_ ar9⟩
 have n4_:G7 (((bh6.setCell ⟨ek,0,none⟩ (.slice pi n6.length pj)).setCell ⟨ek,1,none⟩ (.slice ry qd.length rz)).heap[ql]? = some (.cells #[.slice ae ab.length ac, .slice ag aa.length af] 25 (0,0))):=⟨ba_ fd⟩
 have n5_:G7 (((bh6.setCell ⟨ek,0,none⟩ (.slice pi n6.length pj)).setCell ⟨ek,1,none⟩ (.slice ry qd.length rz)).heap[rx]? = some (.cells #[.int .i64 aq, .int .i64 am, .int .i64 an, .int .i64 ao] 69 (0,0))):=⟨ba_ fi⟩
 have n6_:G7 (((bh6.setCell ⟨ek,0,none⟩ (.slice pi n6.length pj)).setCell ⟨ek,1,none⟩ (.slice ry qd.length rz)).heap[b9]? = some (.cells #[.slice none 0 0, .slice none 0 0] 25 (0,0))):=⟨ba_ ct⟩
 have n7_:G7 (((bh6.setCell ⟨ek,0,none⟩ (.slice pi n6.length pj)).setCell ⟨ek,1,none⟩ (.slice ry qd.length rz)).heap[ek]? = some (.cells #[.slice pi n6.length pj, .slice ry qd.length rz] 25 (0,0))):=⟨ba_ ew⟩
 have n8_:G7 (Below w.heap.size w ((bh6.setCell ⟨ek,0,none⟩ (.slice pi n6.length pj)).setCell ⟨ek,1,none⟩ (.slice ry qd.length rz))):=⟨lw⟩
 generalize ((bh6.setCell ⟨ek,0,none⟩ (.slice pi n6.length pj)).setCell ⟨ek,1,none⟩ (.slice ry qd.length rz))=la9 at n0_ n1_ n2_ n3_ n4_ n5_ n6_ n7_ n8_ |-
 have gh:=n0_
 have gq:=n1_
 have ar8:=n2_
 have ar9:=n3_
 have fd:=n4_
 have fi:=n5_
 have ct:=n6_
 have ew:=n7_
 have HB:=n8_
 clear n0_ n1_ n2_ n3_ n4_ n5_ n6_ n7_ n8_
 replace gh:=rd_ gh
 replace gq:=sd_ gq
 replace ar8:=rd_ ar8
 replace ar9:=sd_ ar9
 replace fd:=bd_ fd
 replace fi:=bd_ fi
 replace ct:=bd_ ct
 replace ew:=bd_ ew
 replace HB:=A_ (Jd HB.out)
 refine start_ (n:=7) (S:=fun w'=>w'.cell? ⟨ek,0,none⟩=some (.slice pi n6.length pj)/\w'.cell? ⟨ek,1,none⟩=some (.slice ry qd.length rz)/\w'.cell? ⟨ql,0,none⟩=some (.slice ae ab.length ac)/\w'.cell? ⟨ql,1,none⟩=some (.slice ag aa.length af)) (ds:=[]) (tl_ 7 0) (g1_) rfl (g1_) ⟨(G8 ew.out 0).trans rfl,(G8 ew.out 1).trans rfl,(G8 fd.out 0).trans rfl,(G8 fd.out 1).trans rfl⟩ (fun hHeld=>?_)
 generalize la9.drew=lb0 at gh gq ar8 ar9 fd fi ct ew HB hHeld |-
 refine take_ (i:=0) (N:=some 98) (v:=?_) (a':=?_) (tl_ 7 1) rfl rfl (g1_) (fun _ _ _ h=>h) (Or.inl ⟨by rfl,?_⟩) hHeld ?_ ?_
 rotate_left
 ·rintro w' ⟨s0,s1,s2,s3⟩
  go_simp
  with_reducible rfl
 rotate_left
 · exact sp_
 refine take_ (i:=1) (N:=some 99) (v:=?_) (a':=?_) (tl_ 7 3) rfl rfl (g1_) (fun _ _ _ h=>h) (Or.inl ⟨by rfl,?_⟩) hHeld ?_ ?_
 rotate_left
 ·rintro w' ⟨s0,s1,s2,s3⟩
  go_simp
  with_reducible rfl
 rotate_left
 · exact sp_
 refine take_ (i:=2) (N:=some 100) (v:=?_) (a':=?_) (tl_ 7 7) rfl rfl (g1_) (fun _ _ _ h=>h) (Or.inl ⟨by rfl,?_⟩) hHeld ?_ ?_
 rotate_left
 ·rintro w' ⟨s0,s1,s2,s3⟩
  go_simp
  with_reducible rfl
 rotate_left
 · exact sp_
 refine one_ (i:=3) (N:=some 101) (tl_ 7 15) rfl rfl (g1_) (by decide) (fun K hK=>?_)
 refine goes_ Try.func122 (g1_) rfl #[.agg #[.slice pi n6.length pj, .slice ry qd.length rz], .agg #[.slice ae ab.length ac, .slice ag aa.length af]] (by rfl) rfl rfl (gM_) ?_
 refine(Fu.calls kj57 _ _ n6 _ _ qd _ _ ab _ _ aa gl3 _ (cR_ ar8) (lR_ ar8) (cS_ ar9) (lS_ ar9) (uC_ bg) bs.out (uC_ bd) bv.out kz6.out).mono ?_
 rintro e ip5 ⟨rfl,hb⟩
 refine⟨_,rfl,?_⟩
 replace gh:=rb_ gh hb
 replace gq:=sb_ gq hb
 replace ar8:=rb_ ar8 hb
 replace ar9:=sb_ ar9 hb
 replace fd:=bb_ fd hb
 replace fi:=bb_ fi hb
 replace ct:=bb_ ct hb
 replace ew:=bb_ ew hb
 replace HB:=hs_ (lw) hb
 refine hK.out _ _ ⟨(G8 ew.out 0).trans rfl,(G8 ew.out 1).trans rfl,(G8 fd.out 0).trans rfl,(G8 fd.out 1).trans rfl⟩ (fun hHeld=>?_)
 clear hK K
 refine nm_ ?_
 refine pure_ (i:=4) (N:=some 102) (v:=?_) (a':=?_) (tl_ 7 31) rfl rfl (g1_) (fun _ _ _ h=>h) (Or.inl ⟨by rfl,?_⟩) ?_ ?_
 rotate_left
 ·intro w'
  go_simp
  with_reducible rfl
 rotate_left
 · exact sp_
 refine one_ (i:=5) (N:=none) (tl_ 7 63) rfl rfl (g1_) (by decide) (fun K hK=>?_)
 have nt8:ip5.cell? ⟨b9,0,none⟩=some (.slice none 0 0):=(G8 ct.out 0).trans rfl
 have nt9:=Jj ct.out 0
 have nu2:=n4.out
 have nu5:=ab1.out
 have nu6:ip5.cell? ⟨b9,1,none⟩=some (.slice none 0 0):=(G8 ct.out 1).trans rfl
 have nu7:=Jj ct.out 1
 refine skip_ (w1:=?_) (by rfl) rfl ?_ ?_
 rotate_left
 ·go_simp
  rfl
 refine hK.out _ _ ⟨(cf_ n4 ((cf_ n4 (hHeld.1)))),(cf_ n4 ((cf_ n4 (hHeld.2.1)))),(cf_ ot ((cf_ ot (hHeld.2.2.1)))),(cf_ ot ((cf_ ot (hHeld.2.2.2))))⟩ (fun hHeld=>?_)
 clear hK K
 refine pure_ (i:=6) (N:=some 5) (v:=?_) (a':=?_) (tl_ 7 127) rfl rfl (g1_) (fun _ _ _ h=>h) (Or.inl ⟨by rfl,?_⟩) ?_ ?_
 rotate_left
 ·intro w'
  go_simp
  with_reducible rfl
 rotate_left
 · exact sp_
 refine done_ (g1_) ?_
 try go_wp2
 refine bodyPost_ret (Jt rfl _ _ b9 25 #[.slice pi n6.length pj, .slice ry qd.length rz] (0,0) _ rfl (ba_ ct) Try.underlying25 rfl (g1_)) rfl ?_
 exact⟨_,_,g4_,ra_ ar8,sa_ ar9,lw⟩
attribute [local go_sem high] eqA69
theorem k25s_ne {w:World} {g g':Nat} {t:Nat} (h:∃cells,w.heap[g]? = some (.cells cells 25 (0,0))) {cells':Array Value} (h':w.heap[g']? = some (.cells cells' t (0,0))) (ht:(25:Nat)≠t):g≠g':=by
 rintro rfl
 obtain⟨cells,hc⟩:=h
 rw[hc] at h'
 injection h' with h1
 injection h1 with _ h2
 exact ht h2
theorem k25s_last {w:World} {base:Nat} {ok:Nat->Prop} {A:Option Addr} {m c n:Nat} {xs:List S25} (hn:xs.length=n + 1) (h:Kd.S k25s 25 w base ok (.slice A m c) xs) :
  ∃g u0 u1,A=some ⟨g,0,none⟩/\w.cell? ⟨g,n * 2,none⟩=some u0/\w.cell? ⟨g,n * 2 + 1,none⟩=some u1/\Kd.R (Kd.int .i64) 3 w base (fun _=>True) u0 (Jn xs (n:Int)).f0/\Kd.S (Kd.slice 3 (Kd.int .i64)) 22 w base (fun k=>some k≠u0.ownBlock) u1 (Jn xs (n:Int)).f1/\Kd.Q k25 25 w base (fun k=>some k≠u0.ownBlock/\some k≠u1.ownBlock) (.slice (some ⟨g,0,none⟩) n c) (xs.take n)/\(∃cells,w.heap[g]? = some (.cells cells 25 (0,0)))/\m=n + 1:=by
 obtain⟨f,hR⟩:=h
 have hlz:xs.zipIdx.length=n + 1:=by rw[List.length_zipIdx,hn]
 have hm:m=n + 1:=by rw[(Kd.R_reads' hR).1,hlz]
 subst hm
 obtain⟨hok,inner,ho,hr⟩:=hR
 have ah:=ho
 rcases ah.2 with⟨hv,_⟩ | ⟨g,cap',cur,hv,hgb,hh,_⟩
 ·cases hv
 injection hv with hA _ hc
 subst hA
 have hbl:(Value.slice (some ⟨g,0,none⟩) (n + 1) c).ownBlock=some g:=by simp[Value.ownBlock]
 obtain⟨cs,hcl,hM,hcc⟩:=Kd.R_getA (⟨hok,inner,ho,hr⟩:(Kd.tag f k25s).R 25 w base ok _ _) (z25,0) (n:Int) (by omega) (by omega)
 have hzi:xs.zipIdx.getD (n:Int).toNat (z25,0)=(Jn xs (n:Int),n):=by
  simp[Jn,List.getD_eq_getElem?_getD,hn]
 rw[hzi] at hM
 obtain⟨u0,u1,rfl,h0,h1⟩:=hM
 have e0:=hcc 0 u0 rfl
 have e1:=hcc 1 u1 rfl
 have hsz:(Kd.tag f k25s).sz=2:=rfl
 rw[hsz] at e0 e1
 refine⟨g,u0,u1,rfl,?_,?_,Kd.R_mono h0 (fun _ _=>trivial),Kd.S_mono h1 (fun _ hk=>hk.2),Kd.Q_of_R ?_,⟨cur,hh⟩,rfl⟩
 ·rw[add_at] at e0;simpa using e0
 ·rw[add_at] at e1;simpa using e1
 have hu0:∀k,u0.ownBlock=some k->f k=n/\k≠g:=fun k hk=>by
  have:=h0.1 k hk
  refine⟨this.2,fun e=>this.1.2 (by rw[hbl,e])⟩
 have hu1:∀k,u1.ownBlock=some k->f k=n/\k≠g:=fun k hk=>by
  have:=(Kd.S_R h1).1 k hk
  refine⟨this.1.2,fun e=>this.1.1.2 (by rw[hbl,e])⟩
 have hRt:=Kd.R_take (m:=n) (⟨hok,inner,ho,hr⟩:(Kd.tag f k25s).R 25 w base ok _ _) (by omega)
 obtain⟨hok2,inner2,aw,hr2⟩:=hRt
 have hbl2:(Value.slice (some ⟨g,0,none⟩) n c).ownBlock=some g:=by simp[Value.ownBlock]
 have hlt:(xs.zipIdx.take n).length=n:=by rw[List.length_take,hlz];omega
 have hlt2:(xs.take n).length=n:=by rw[List.length_take,hn];omega
 rw[hlt] at aw
 refine⟨fun k hk=>?_,inner2,by rw[hlt2];exact aw,?_,fun j p hj=>?_⟩
 ·have hkg:g=k:=by rw[hbl2] at hk;injection hk
  subst hkg
  exact⟨fun e=>(hu0 _ e.symm).2 rfl,fun e=>(hu1 _ e.symm).2 rfl⟩
 ·rw[hr2.1,hlt,hlt2];rfl
 have hjn:j < n:=by have:=(List.getElem?_eq_some_iff.1 hj).1;omega
 have hj2:xs[j]? = some p:=by rw[List.getElem?_take,if_pos hjn] at hj;exact hj
 have hj3:(xs.zipIdx.take n)[j]? = some (p,j):=by rw[List.getElem?_take,if_pos hjn];exact Kd.zip_at hj2
 have hMj:=hr2.2 j (p,j) hj3
 refine k25.M_mono (fun k hk=>⟨⟨fun e=>?_,fun e=>?_⟩,hk.1.2⟩) (k25s_M hMj)
 ·have:=(hu0 k e.symm).1;have h3:=hk.2;omega
 have:=(hu1 k e.symm).1;have h3:=hk.2;omega
def Gl.j0:Nat->Bool->List Int->List (List Int)->List (S25)->Int->Int->Int->Int->List Int->List (List Int)->List (S25)->Option (List Int × (List (List Int)) × (List (S25)) × Bool)
 | 0,_,_,_,_,_,_,_,_,_,_,_=>none
 | k + 1,x24,lc7,lc8,nv7,lc9,ld0,ld1,ld2,iq0,iq1,gp2=>if x24=true then(none) else((Fq.f k lc7 lc8 lc9 ld0 ld1 ld2).bind fun bt346=>(if bt346.2.2=true then(if gp2.length < 2932031007402 then((some (gp2 ++ [(⟨iq0,iq1⟩:S25)]:List (S25))).bind fun mx=>(if (mx.length:Int) > 8 then(if 1<=(mx.length:Int) then(some (bt346.1,bt346.2.1,(mx.drop (1:Int).toNat),true)) else(none)) else(some (bt346.1,bt346.2.1,mx,true)))) else(none)) else(some (iq0,iq1,gp2,false))))
def Gl.f (k:Nat) (ab:List Int) (aa:List (List Int)) (ai:List (S25)) (aq:Int) (am:Int) (an:Int) (ao:Int):Option (List Int × (List (List Int)) × (List (S25)) × Bool):=(Fv.f k ab aa ai).bind fun ef4=>(if ef4=true then((Fm.f k ab aa ai).bind fun bt336=>(if (aq == 4 && (am == 0 && (an == 0 && (ao == 0))))=true then(Gl.j0 k (decide ((ai.length:Int) > 0)) ab aa ai aq am an ao bt336.1 bt336.2.1 bt336.2.2) else(Gl.j0 k false ab aa ai aq am an ao bt336.1 bt336.2.1 bt336.2.2))) else(some (([]:List Int),([]:List (List Int)),([]:List (S25)),false)))
theorem kv {p:Prop} (h:p:=by repeat(first|(with_reducible first|exact HB.out|apply Jf|apply Je|apply Jd|refine Jc ?_ df4.out|refine Jc ?_ ef5.out|refine Jc ?_ cr8.out|refine Jc ?_ cd4.out|refine Jc ?_ ee7.out)|exact HB.out)):p:=h
set_option maxHeartbeats 8000000 in
set_option maxRecDepth 100000 in
theorem Gl.calls (k:Nat) (ae:Option Addr) (ac:Nat) (ab:List Int) (ag:Option Addr) (af:Nat) (aa:List (List Int)) (av:Option Addr) (au:Nat) (ai:List (S25)) (aq:Int) (am:Int) (an:Int) (ao:Int) (r1:List Int) (r2:List (List Int)) (r3:List (S25)) (r4:Bool) (w:World) (ca:Kd.C (Kd.int .i64) w ae ab.length ab) (ce:ab.length<=ac) (cb:Kd.C (Kd.slice 3 (Kd.int .i64)) w ag aa.length aa) (cg:aa.length<=af) (g8:Kd.C k25 w av ai.length ai) (g9:ai.length<=au) (h:Gl.f k ab aa ai aq am an ao=some (r1,r2,r3,r4)) :
  Calls Try.prog 54 #[.agg #[.slice ae ab.length ac, .slice ag aa.length af, .slice av ai.length au], .agg #[.int .i64 aq, .int .i64 am, .int .i64 an, .int .i64 ao]] w fun e w'=>∃v0_ v1_ v2_:Value,e = .returned (.tuple #[.agg #[v0_,v1_,v2_], .bool r4])/\Kd.R (Kd.int .i64) 3 w' w.heap.size (fun _=>True) v0_ r1/\Kd.S (Kd.slice 3 (Kd.int .i64)) 22 w' w.heap.size (fun k_=>some k_≠(v0_:Value).ownBlock) v1_ r2/\Kd.Q k25 25 w' w.heap.size (fun k_=>some k_≠(v0_:Value).ownBlock/\some k_≠(v1_:Value).ownBlock) v2_ r3/\Below w.heap.size w w':=by
 have hu28:=Try.underlying28
 have hu69:=Try.underlying69
 have hu25:=Try.underlying25
 have bg:=A_ ca
 have bs:=A_ ce
 clear ca ce
 have bd:=A_ cb
 have bv:=A_ cg
 clear cb cg
 have gc:=A_ g8
 have gx:=A_ g9
 clear g8 g9
 have HB:=A_ (Below.refl w.heap.size w)
 have H:=h
 unfold Gl.f at H
 clear h
 obtain⟨ef4,A3,H⟩:=bind_ H
 by_cases c4:ef4=true
 case neg=>
  replace c4:=Bool.eq_false_iff.mpr c4
  subst c4
  replace H:=ifn_ H
  simp only[Option.some.injEq,Prod.mk.injEq] at H
  obtain⟨rfl,rfl,rfl,rfl⟩:=H
  go_enter Try.func54,Try.ntmps54
  go_wp2_with (first|((with_reducible refine gd_ 2 ?_);(try(refine gate_guard (by rfl) ?_;dsimp only));refine bx_ (N:=2) #[.slice ae ab.length ac, .slice ag aa.length af, .slice av ai.length au] 28 ?_;intro ie hg iw4 hbox hb;have eu:=A_ (hbox);have iq2:=A_ ((g15_:w.heap.size<=ie));have df4:=iq2;replace HB:=hs_ (kv) hb;clear hb hbox hg)|((with_reducible refine gd_ 3 ?_);(try(refine gate_guard (by rfl) ?_;dsimp only));refine bx_ (N:=3) #[.int .i64 aq, .int .i64 am, .int .i64 an, .int .i64 ao] 69 ?_;intro iw hg nz5 hbox hb;have gi:=A_ (hbox);have iq3:=A_ ((g15_:w.heap.size<=iw));have ef5:=iq3;replace HB:=hs_ (kv) hb;have bh7:=nl_ eu hg;have bh8:=nr_ eu hg;replace eu:=bb_ eu hb;clear hb hbox hg)|((with_reducible refine gd_ 4 ?_);(try(refine gate_guard (by rfl) ?_;dsimp only));refine bx_ (N:=4) #[.slice none 0 0, .slice none 0 0, .slice none 0 0] 28 ?_;intro du hg nz6 hbox hb;have fe:=A_ (hbox);have iq4:=A_ ((g15_:w.heap.size<=du));have cr8:=iq4;replace HB:=hs_ (kv) hb;have bp9:=nl_ eu hg;have bq0:=nr_ eu hg;replace eu:=bb_ eu hb;have cd5:=nl_ gi hg;have cd6:=nr_ gi hg;replace gi:=bb_ gi hb;clear hb hbox hg;have iw5:=bh7.out;have iw6:=bh8.out;have iw7:=bp9.out;have iw8:=bq0.out;obtain⟨iw9,ix0,ix1,ix2,ix3,ix4⟩:=blk3_ eu)|((with_reducible refine gc_ 28 ?_);refine gl_ 11 Try.func28 #[.agg #[.slice ae ab.length ac, .slice ag aa.length af, .slice av ai.length au]] ?_;(refine(Fv.calls k _ _ ab _ _ aa _ _ ai false _ (uC_ bg) bs.out (uC_ bd) bv.out (uC_ gc) gx.out A3.out).mono ?_);rintro e go8 ⟨rfl,hb⟩;refine⟨_,rfl,?_⟩;replace eu:=bb_ eu hb;replace gi:=bb_ gi hb;replace fe:=bb_ fe hb;replace HB:=hs_ (kv) hb;have ix5:=cd6.out;have ix6:=cd5.out;obtain⟨lg5,lg6,lg7,lg8,lg9,lh0⟩:=blk3_ fe))
  refine bodyPost_ret (Jt rfl _ _ du 28 #[.slice none 0 0, .slice none 0 0, .slice none 0 0] (0,0) _ rfl (ba_ fe) Try.underlying28 rfl (g1_)) rfl ?_
  exact⟨_,_,_,g4_,g25_,g38_,Kd.Q_of_R (g25_),kv⟩
 subst c4
 replace H:=ifp_ H
 replace H:=Option.bind_eq_some_iff.mp H
 obtain⟨⟨gd,g5,em⟩,A50,H⟩:=H
 try dsimp only at H
 have A5:=A_ A50
 clear A50
 have HC6:=A_ H
 clear H
 go_enter Try.func54,Try.ntmps54
 go_upto_region 4 with(first|((with_reducible refine gd_ 2 ?_);(try(refine gate_guard (by rfl) ?_;dsimp only));refine bx_ (N:=2) #[.slice ae ab.length ac, .slice ag aa.length af, .slice av ai.length au] 28 ?_;intro ie hg w7 hbox hb;have eu:=A_ (hbox);have iq2:=A_ ((g15_:w.heap.size<=ie));have df4:=iq2;replace HB:=hs_ (kv) hb;clear hb hbox hg)|((with_reducible refine gd_ 3 ?_);(try(refine gate_guard (by rfl) ?_;dsimp only));refine bx_ (N:=3) #[.int .i64 aq, .int .i64 am, .int .i64 an, .int .i64 ao] 69 ?_;intro iw hg w8 hbox hb;have gi:=A_ (hbox);have iq3:=A_ ((g15_:w.heap.size<=iw));have ef5:=iq3;replace HB:=hs_ (kv) hb;have bh7:=nl_ eu hg;have bh8:=nr_ eu hg;replace eu:=bb_ eu hb;clear hb hbox hg)|((with_reducible refine gd_ 4 ?_);(try(refine gate_guard (by rfl) ?_;dsimp only));refine bx_ (N:=4) #[.slice none 0 0, .slice none 0 0, .slice none 0 0] 28 ?_;intro du hg w9 hbox hb;have fe:=A_ (hbox);have iq4:=A_ ((g15_:w.heap.size<=du));have cr8:=iq4;replace HB:=hs_ (kv) hb;have bp9:=nl_ eu hg;have bq0:=nr_ eu hg;replace eu:=bb_ eu hb;have cd5:=nl_ gi hg;have cd6:=nr_ gi hg;replace gi:=bb_ gi hb;clear hb hbox hg;have cr9:=bh7.out;have cs0:=bh8.out;have bf6:=bp9.out;have bf7:=bq0.out;obtain⟨vi,vj,ba2,vk,vl,ba3⟩:=blk3_ eu)|((with_reducible refine gc_ 28 ?_);refine gl_ 11 Try.func28 #[.agg #[.slice ae ab.length ac, .slice ag aa.length af, .slice av ai.length au]] ?_;(refine(Fv.calls k _ _ ab _ _ aa _ _ ai true _ (uC_ bg) bs.out (uC_ bd) bv.out (uC_ gc) gx.out A3.out).mono ?_);rintro e ps ⟨rfl,hb⟩;refine⟨_,rfl,?_⟩;replace eu:=bb_ eu hb;replace gi:=bb_ gi hb;replace fe:=bb_ fe hb;replace HB:=hs_ (kv) hb;obtain⟨ub,uc,cz2,ud,ue,cz3⟩:=blk3_ eu)|((with_reducible refine gc_ 100 ?_);refine gl_ 15 Try.func100 #[.agg #[.slice ae ab.length ac, .slice ag aa.length af, .slice av ai.length au]] ?_;(refine(Fm.calls k _ _ ab _ _ aa _ _ ai gd g5 em _ (uC_ bg) bs.out (uC_ bd) bv.out (uC_ gc) gx.out A5.out).mono ?_);rintro e w15 ⟨ld3,ld4,ld5,rfl,ah,ak,aw,hb⟩;refine⟨_,rfl,?_⟩;have ba4:=A_ (Kd.R_lower ah (G9 (kv)));have ba5:=A_ (Kd.S_lower ak (G9 (kv)));have am2:=A_ (Kd.R_lower aw (G9 (kv)));replace eu:=bb_ eu hb;replace gi:=bb_ gi hb;replace fe:=bb_ fe hb;replace HB:=hs_ (kv) hb)|((with_reducible refine gd_ 6 ?_);(try(refine gate_guard (by rfl) ?_;dsimp only));refine bx_ (N:=6) #[.slice none 0 0, .slice none 0 0, .slice none 0 0] 28 ?_;intro ci hg pu hbox hb;replace ba4:=rb_ ba4 hb;replace ba5:=sb_ ba5 hb;replace am2:=rb_ am2 hb;have f8:=A_ (hbox);have ld6:=A_ ((g15_:w.heap.size<=ci));have cd4:=ld6;replace HB:=hs_ (kv) hb;have ab2:=nl_ eu hg;have cd7:=nr_ eu hg;replace eu:=bb_ eu hb;have za:=nl_ gi hg;have bq1:=nr_ gi hg;replace gi:=bb_ gi hb;have tl:=nl_ fe hg;have cs1:=nr_ fe hg;replace fe:=bb_ fe hb;clear hb hbox hg;obtain⟨fz,f4,ax4⟩:=Kd.R_slice ba4.out;subst ax4;have dr5:=cd7.out;have dr6:=ab2.out;have bw3:=bq1.out;have bw4:=za.out;have db4:=cs1.out;have db5:=tl.out;obtain⟨t6,t7,ay0,t8,t9,ay1⟩:=blk3_ f8;obtain⟨im,io,cs2⟩:=Kd.S_slice ba5.out;subst cs2;obtain⟨ko,f5,cq0⟩:=Kd.R_slice am2.out;subst cq0))
 (try simp only[Act.put,List.setIfInBounds_toArray,List.set_cons_zero,List.set_cons_succ])
 go_cut [24] (fun v24 wc=>∃(kq:Nat) (fe3:Bool),v24 = .bool fe3/\G7 (Gl.j0 kq fe3 ab aa ai aq am an ao gd g5 em=some (r1,r2,r3,r4))/\G7 (kq<=k)/\G7 (Kd.R (Kd.int .i64) 3 wc w.heap.size (fun _=>True) (.slice fz gd.length f4) gd)/\G7 (Kd.S (Kd.slice 3 (Kd.int .i64)) 22 wc w.heap.size (fun k_=>some k_≠((.slice fz gd.length f4):Value).ownBlock) (.slice im g5.length io) g5)/\G7 (Kd.Q k25 25 wc w.heap.size (fun k_=>some k_≠((.slice fz gd.length f4):Value).ownBlock/\some k_≠((.slice im g5.length io):Value).ownBlock) (.slice ko em.length f5) em)/\G7 (hc_ wc ie #[(.slice ae ab.length ac),(.slice ag aa.length af),(.slice av ai.length au)] 28)/\G7 (hc_ wc iw #[.int .i64 aq, .int .i64 am, .int .i64 an, .int .i64 ao] 69)/\G7 (hc_ wc du #[(.slice none 0 0),(.slice none 0 0),(.slice none 0 0)] 28)/\G7 (hc_ wc ci #[(.slice fz gd.length f4),(.slice im g5.length io),(.slice ko em.length f5)] 28)/\G7 (Below w.heap.size w wc))
 case first=>
  have H:=HC6.out
  clear HC6
  by_cases jv:(aq == 4 && (am == 0 && (an == 0 && (ao == 0))))=true
  ·rw[if_pos jv] at H
   have yl:(aq == 4 && (am == 0 && (an == 0 && (ao == 0))))=true:=jv
   (try(have iq5:decide (aq=4 && (am == 0 && (an == 0 && (ao == 0))))=true:=by simpa using jv))
   (try(have iq6:(aq == 4 && (am == 0 && (an == 0 && (ao == 0))))=true:=by simpa using jv))
   clear jv
   (first|rw[yl]|(simp only[i64_w,i32_w];rw[yl])|skip)
   have H':=A_ H
   clear H
   have gm0:=bh8.out
   have gm1:=bh7.out
   have gk8:=cd5.out
   have gk9:=cd6.out
   have ju8:=za.out
   have ju9:=bq1.out
   obtain⟨fq5,fq6,hn2,ld7,fq7,fq8,hn3,ld8⟩:=blk4_ gi
   have dx9:=bp9.out
   have dy0:=bq0.out
   have ga1:=ab2.out
   have ga2:=cd7.out
   obtain⟨cl0,cl1,ee8,cl2,cl3,ee9⟩:=blk3_ eu
   go_wp2
   go_meet
   case rel=>exact⟨_,(decide ((ai.length:Int) > 0)),(g3_),H',⟨g9_⟩,⟨ra_ ba4⟩,⟨sa_ ba5⟩,⟨Kd.Q_of_R (ra_ am2)⟩,⟨ba_ eu⟩,⟨ba_ gi⟩,⟨ba_ fe⟩,⟨ba_ f8⟩,⟨kv⟩⟩
  rw[if_neg jv] at H
  have yl:(aq == 4 && (am == 0 && (an == 0 && (ao == 0))))=false:=by simpa using jv
  (try(have iq5:decide (aq=4 && (am == 0 && (an == 0 && (ao == 0))))=false:=by simpa using jv))
  (try(have iq6:(aq == 4 && (am == 0 && (an == 0 && (ao == 0))))=false:=by simpa using jv))
  (try(have nv8:¬ (aq=4 && (am == 0 && (an == 0 && (ao == 0)))):=by simpa using jv))
  clear jv
  (first|rw[yl]|(simp only[i64_w,i32_w];rw[yl])|skip)
  have H':=A_ H
  clear H
  have ed0:=bh8.out
  have ed1:=bh7.out
  have bz8:=cd5.out
  have bz9:=cd6.out
  have ef0:=za.out
  have ef1:=bq1.out
  obtain⟨bm8,bm9,cd1,fc2,bn0,bn1,cd2,fc3⟩:=blk4_ gi
  go_wp2
  go_meet
  case rel=>exact⟨_,(false),(g3_),H',⟨g9_⟩,⟨ra_ ba4⟩,⟨sa_ ba5⟩,⟨Kd.Q_of_R (ra_ am2)⟩,⟨ba_ eu⟩,⟨ba_ gi⟩,⟨ba_ fe⟩,⟨ba_ f8⟩,⟨kv⟩⟩
 clear HC6
 obtain⟨kq,fe3,rfl,HA,HJ5,nf,qm,ku,eu,gi,fe,f8,HB⟩:=hcut
 cases kq with
 | zero=>exact absurd HA.out (by simp[Gl.j0])
 | succ kj5=>?_
 have H:=HA.out
 clear HA
 simp only[Gl.j0] at H
 by_cases sw:fe3=true
 ·subst sw
  replace H:=ifp_ H
  exact absurd H (by simp)
 replace sw:=Bool.eq_false_iff.mpr sw
 subst sw
 replace H:=ifn_ H
 replace H:=Option.bind_eq_some_iff.mp H
 obtain⟨⟨fp,gn,ld9⟩,iq7,H⟩:=H
 try dsimp only at H
 have A37:=A_ iq7
 clear iq7
 by_cases c38:ld9=true
 case neg=>
  replace c38:=Bool.eq_false_iff.mpr c38
  subst c38
  replace H:=ifn_ H
  simp only[Option.some.injEq,Prod.mk.injEq] at H
  obtain⟨rfl,rfl,rfl,rfl⟩:=H
  have iv0:=bh7.out
  have iv1:=bh8.out
  have iv2:=bp9.out
  have iv3:=bq0.out
  have gp6:=ab2.out
  have gp7:=cd7.out
  obtain⟨iv4,iv5,iv6,iv7,iv8,iv9⟩:=blk3_ eu
  have iw0:=cd5.out
  have iw1:=cd6.out
  have ny5:=za.out
  have ny6:=bq1.out
  obtain⟨ny7,ny8,ny9,nz0,nz1,nz2,nz3,nz4⟩:=blk4_ gi
  go_wp2_with (first|((with_reducible refine gc_ 101 ?_);refine gl_ 45 Try.func101 #[.agg #[.slice ae ab.length ac, .slice ag aa.length af], .agg #[.int .i64 aq, .int .i64 am, .int .i64 an, .int .i64 ao]] ?_;(refine(Fq.calls kj5 _ _ ab _ _ aa aq am an ao fp gn false _ (uC_ bg) bs.out (uC_ bd) bv.out A37.out).mono ?_);rintro e gp8 ⟨is1,is2,rfl,ah,ak,hb⟩;refine⟨_,rfl,?_⟩;replace ku:=A_ (Kd.Q_mono (Kd.Q_told (Kd.Q_told (Kd.Q_old (uQ_ ku) hb) (Kd.R_base ah)) (Kd.S_base ak)) (fun _ h_=>h_.1));have qe:=A_ (Kd.R_lower (Kd.R_new' ah (Kd.R_lt (uR_ nf))) (G9 (kv)));have o3:=A_ (Kd.S_lower (Kd.S_new' (Kd.S_new' ak (Kd.R_lt (uR_ nf))) (Kd.S_lt (uS_ qm))) (G9 (kv)));replace nf:=A_ (Kd.R_elder' (uR_ nf) (Kd.R_base ah) hb);replace qm:=A_ (Kd.S_mono (Kd.S_told (Kd.S_told (Kd.S_old (uS_ qm) hb) (Kd.R_base ah)) (Kd.S_base ak)) (fun _ h_=>h_.1));replace eu:=bb_ eu hb;replace gi:=bb_ gi hb;replace fe:=bb_ fe hb;replace f8:=bb_ f8 hb;replace HB:=hs_ (kv) hb)|((with_reducible refine gd_ 8 ?_);(try(refine gate_guard (by rfl) ?_;dsimp only));refine bx_ (N:=8) #[.slice none 0 0, .slice none 0 0] 25 ?_;intro b9 hg lg0 hbox hb;replace nf:=rb_ nf hb;replace qm:=sb_ qm hb;replace ku:=A_ (Kd.Q_below (Kd.Q_elderB (uQ_ ku) b9 (Nat.le_of_eq hg.symm)) hb);replace qe:=rb_ qe hb;replace o3:=sb_ o3 hb;have ct:=A_ (hbox);have gl4:=A_ ((g15_:w.heap.size<=b9));have ee7:=gl4;replace HB:=hs_ (kv) hb;have bq2:=nl_ eu hg;have ef6:=nr_ eu hg;replace eu:=bb_ eu hb;have bq3:=nl_ gi hg;have ef7:=nr_ gi hg;replace gi:=bb_ gi hb;have ba6:=nl_ fe hg;have ef8:=nr_ fe hg;replace fe:=bb_ fe hb;have bq4:=nl_ f8 hg;have df5:=nr_ f8 hg;replace f8:=bb_ f8 hb;clear hb hbox hg;obtain⟨gp9,gq0,lg1⟩:=Kd.R_slice qe.out;subst lg1;have lg2:=ef6.out;have lg3:=bq2.out;have fd3:=ef7.out;have fd4:=bq3.out;have fd5:=ef8.out;have fd6:=ba6.out;have fd7:=df5.out;have fd8:=bq4.out;obtain⟨cr4,cr5,cr6,cr7⟩:=blk2_ ct;obtain⟨gq1,gq2,lg4⟩:=Kd.S_slice o3.out;subst lg4;have go1:=cs1.out;have go2:=tl.out;obtain⟨fd9,fe0,gq3,fe1,fe2,gq4⟩:=blk3_ f8;obtain⟨gq5,gq6,iw2,gq7,gq8,iw3⟩:=blk3_ fe))
  refine bodyPost_ret (Jt rfl _ _ du 28 #[.slice fz gd.length f4, .slice im g5.length io, .slice ko em.length f5] (0,0) _ rfl (ba_ fe) Try.underlying28 rfl (g1_)) rfl ?_
  exact⟨_,_,_,g4_,ra_ nf,sa_ qm,qa_ ku,kv⟩
 subst c38
 replace H:=ifp_ H
 obtain⟨c39,H⟩:=pos_ H
 have iq8:=A_ c39
 clear c39
 obtain⟨mx,hyq⟩:∃y_:List (S25),y_=(em ++ [(⟨gd,g5⟩:S25)]):=⟨_,rfl⟩
 replace H:(if (mx.length:Int) > 8 then(if 1<=(mx.length:Int) then(some (fp,gn,(mx.drop (1:Int).toNat),true)) else(none)) else(some (fp,gn,mx,true)))=some (r1,r2,r3,r4):=qh_
 have iq9:=A_ hyq
 clear hyq
 by_cases yr:(mx.length:Int) > 8
 ·rw[if_pos yr] at H
  have ic6:=decide_eq_true yr
  have le0:decide (8 < mx.length)=true:=decide_eq_true (by omega)
  clear yr
  obtain⟨ul,H⟩:=pos_ H
  have ey0:=eq_true ul
  have ic7:=decide_eq_true ul
  clear ul
  obtain⟨as0,hyq⟩:∃y_:List (S25),y_=(mx.drop (1:Int).toNat):=⟨_,rfl⟩
  replace H:(some (fp,gn,as0,true))=some (r1,r2,r3,r4):=qh_
  have ir0:=A_ hyq
  clear hyq
  simp only[Option.some.injEq,Prod.mk.injEq] at H
  obtain⟨rfl,rfl,rfl,rfl⟩:=H
  have gp3:=bh7.out
  have gp4:=bh8.out
  have ir1:=bp9.out
  have ir2:=bq0.out
  have fa5:=ab2.out
  have fa6:=cd7.out
  obtain⟨ir3,ir4,ir5,ir6,ir7,ir8⟩:=blk3_ eu
  have gd5:=cd5.out
  have gd6:=cd6.out
  have gj6:=za.out
  have gj7:=bq1.out
  obtain⟨ed3,ed4,ir9,nv9,ed5,ed6,is0,nw0⟩:=blk4_ gi
  go_wp2_with (first|((with_reducible refine gc_ 101 ?_);refine gl_ 45 Try.func101 #[.agg #[.slice ae ab.length ac, .slice ag aa.length af], .agg #[.int .i64 aq, .int .i64 am, .int .i64 an, .int .i64 ao]] ?_;(refine(Fq.calls kj5 _ _ ab _ _ aa aq am an ao fp gn true _ (uC_ bg) bs.out (uC_ bd) bv.out A37.out).mono ?_);rintro e w49 ⟨is1,is2,rfl,ah,ak,hb⟩;refine⟨_,rfl,?_⟩;replace ku:=A_ (Kd.Q_mono (Kd.Q_told (Kd.Q_told (Kd.Q_old (uQ_ ku) hb) (Kd.R_base ah)) (Kd.S_base ak)) (fun _ h_=>h_.1));have qe:=A_ (Kd.R_lower (Kd.R_new' ah (Kd.R_lt (uR_ nf))) (G9 (kv)));have o3:=A_ (Kd.S_lower (Kd.S_new' (Kd.S_new' ak (Kd.R_lt (uR_ nf))) (Kd.S_lt (uS_ qm))) (G9 (kv)));replace nf:=A_ (Kd.R_elder' (uR_ nf) (Kd.R_base ah) hb);replace qm:=A_ (Kd.S_mono (Kd.S_told (Kd.S_told (Kd.S_old (uS_ qm) hb) (Kd.R_base ah)) (Kd.S_base ak)) (fun _ h_=>h_.1));replace eu:=bb_ eu hb;replace gi:=bb_ gi hb;replace fe:=bb_ fe hb;replace f8:=bb_ f8 hb;replace HB:=hs_ (kv) hb)|((with_reducible refine gd_ 8 ?_);(try(refine gate_guard (by rfl) ?_;dsimp only));refine bx_ (N:=8) #[.slice none 0 0, .slice none 0 0] 25 ?_;intro b9 hg w50 hbox hb;replace nf:=rb_ nf hb;replace qm:=sb_ qm hb;replace ku:=A_ (Kd.Q_below (Kd.Q_elderB (uQ_ ku) b9 (Nat.le_of_eq hg.symm)) hb);replace qe:=rb_ qe hb;replace o3:=sb_ o3 hb;have ct:=A_ (hbox);have gl4:=A_ ((g15_:w.heap.size<=b9));have ee7:=gl4;replace HB:=hs_ (kv) hb;have bq2:=nl_ eu hg;have ef6:=nr_ eu hg;replace eu:=bb_ eu hb;have bq3:=nl_ gi hg;have ef7:=nr_ gi hg;replace gi:=bb_ gi hb;have ba6:=nl_ fe hg;have ef8:=nr_ fe hg;replace fe:=bb_ fe hb;have bq4:=nl_ f8 hg;have df5:=nr_ f8 hg;replace f8:=bb_ f8 hb;clear hb hbox hg;obtain⟨b4,bx,df6⟩:=Kd.R_slice qe.out;subst df6;have is3:=ef6.out;have is4:=bq2.out;have is5:=ef7.out;have is6:=bq3.out;have le1:=ef8.out;have le2:=ba6.out;have ki3:=df5.out;have ki4:=bq4.out;obtain⟨gd8,gd9,ge0,ge1⟩:=blk2_ ct;obtain⟨d5,dx,ef9⟩:=Kd.S_slice o3.out;subst ef9)|((with_reducible refine gate_store (t:=25) (p:=8) rfl ?_);refine store_event (t:=25) (p:=8) (v:=?vo_w58) (w1:=((w50.setCell ⟨b9,0,none⟩ (.slice b4 fp.length bx)).setCell ⟨b9,1,none⟩ (.slice d5 gn.length dx))) ?hg ?ho ?hn ?hr ?_;(case ho=>rfl);(case hg=>rfl);(case hn=>rfl);(case hr=>first|(go_simp;done)|(go_simp;rfl)|(obtain⟨_,_,e0_⟩:=Kd.R_slice nf.out;rw[e0_];first|(go_simp;done)|(go_simp;rfl)));intro ll hw;replace nf:G7 (Kd.R (Kd.int .i64) 3 ll w.heap.size (fun k_=>some k_≠(.slice b4 fp.length bx:Value).ownBlock) (.slice fz gd.length f4) gd):=⟨(by rw[hw];exact(ra_ nf))⟩;replace qm:G7 (Kd.S (Kd.slice 3 (Kd.int .i64)) 22 ll w.heap.size (fun k_=>some k_≠(.slice fz gd.length f4:Value).ownBlock/\some k_≠(.slice b4 fp.length bx:Value).ownBlock/\some k_≠(.slice d5 gn.length dx:Value).ownBlock) (.slice im g5.length io) g5):=⟨(by rw[hw];exact(sa_ qm))⟩;replace ku:G7 (Kd.Q k25 25 ll w.heap.size (fun k_=>some k_≠(.slice fz gd.length f4:Value).ownBlock/\some k_≠(.slice im g5.length io:Value).ownBlock/\some k_≠(.slice b4 fp.length bx:Value).ownBlock/\some k_≠(.slice d5 gn.length dx:Value).ownBlock/\k_≠b9) (.slice ko em.length f5) em):=⟨(by rw[hw];exact(qa_ ku))⟩;replace qe:G7 (Kd.R (Kd.int .i64) 3 ll w.heap.size (fun k_=>some k_≠(.slice fz gd.length f4:Value).ownBlock) (.slice b4 fp.length bx) fp):=⟨(by rw[hw];exact(ra_ qe))⟩;replace o3:G7 (Kd.S (Kd.slice 3 (Kd.int .i64)) 22 ll w.heap.size (fun k_=>some k_≠(.slice fz gd.length f4:Value).ownBlock/\some k_≠(.slice im g5.length io:Value).ownBlock/\some k_≠(.slice b4 fp.length bx:Value).ownBlock) (.slice d5 gn.length dx) gn):=⟨(by rw[hw];exact(sa_ o3))⟩;replace eu:G7 (hc_ ll ie #[.slice ae ab.length ac, .slice ag aa.length af, .slice av ai.length au] 28):=⟨(by rw[hw];exact(ba_ eu))⟩;replace gi:G7 (hc_ ll iw #[.int .i64 aq, .int .i64 am, .int .i64 an, .int .i64 ao] 69):=⟨(by rw[hw];exact(ba_ gi))⟩;replace fe:G7 (hc_ ll du #[.slice none 0 0, .slice none 0 0, .slice none 0 0] 28):=⟨(by rw[hw];exact(ba_ fe))⟩;replace f8:G7 (hc_ ll ci #[.slice fz gd.length f4, .slice im g5.length io, .slice ko em.length f5] 28):=⟨(by rw[hw];exact(ba_ f8))⟩;replace ct:G7 (hc_ ll b9 #[.slice b4 fp.length bx, .slice d5 gn.length dx] 25):=⟨(by rw[hw];exact(ba_ ct))⟩;replace HB:G7 (Below w.heap.size w ll):=⟨(by rw[hw];exact(kv))⟩;clear hw;have le3:=cs1.out;have le4:=tl.out;obtain⟨kl3,kl4,nw1,kl5,kl6,nw2⟩:=blk3_ f8)|((with_reducible refine gate_builtin (b:=.append) (xs:=#[.tmp 52, .tmp 55]) rfl ?_);(try(refine gate_guard (by rfl) ?_;dsimp only));at_builtin;refine Kd.Q_append k25 (w0:=w) w.heap.size rfl (.tmp 52) (.tmp 55) 26 25 (.agg #[(.slice none 0 0),(.slice none 0 0)]) 48 rfl Try.underlying26 info25 rfl (by decide) (by omega) (.slice ko em.length f5) em (⟨gd,g5⟩:S25) [.slice fz gd.length f4, .slice im g5.length io] (fun k_=>some k_≠(.slice b4 fp.length bx:Value).ownBlock/\some k_≠(.slice d5 gn.length dx:Value).ownBlock/\k_≠b9) (fun k_=>((fun k_=>some k_≠(.slice b4 fp.length bx:Value).ownBlock/\some k_≠(.slice d5 gn.length dx:Value).ownBlock/\k_≠b9)) k_/\some k_≠(.slice ko em.length f5:Value).ownBlock) rfl rfl ?aP (fun _ hk=>hk) ?aF ?aO ?aB ?aS ?aL ?_;(case aP=>exact k25_mkM _ _ _ (⟨gd,g5⟩:S25) (Kd.R_mono (Kd.R_types (Kd.R_apart' (Kd.R_apart' (nf.out) (Kd.S_typed o3.out) (by decide)) (Kd.Q_typed ku.out) (by decide)) ct.out (by decide)) (fun k_ hk=>⟨⟨hk.1.1.1,⟨hk.1.1.2,hk.2⟩⟩,hk.1.2⟩)) (Kd.R_mono (Kd.R_types (Kd.R_apart' ((Kd.S_R qm.out)) (Kd.Q_typed ku.out) (by decide)) ct.out (by decide)) (fun k_ hk=>⟨⟨hk.1.1.2.1,⟨hk.1.1.2.2,hk.2⟩⟩,hk.1.2⟩)));(case aB=>exact(kv));(case aF=>exact(fun k_ hk=>⟨Kd.fresh' (Kd.R_lt (uR_ qe)) k_ hk,Kd.fresh' (Kd.S_lt (uS_ o3)) k_ hk,Kd.freshB (g:=b9) (o:=.cells #[.slice b4 fp.length bx, .slice d5 gn.length dx] 25 (0,0)) (uB_ ct) k_ hk⟩));(case aO=>exact(yQ_ ku (fun _ hk=>⟨hk.2.2.1,⟨hk.2.2.2.1,hk.2.2.2.2⟩⟩)));(case aS=>exact(G9 (kv)));(case aL=>have:=iq8.out;omega);intro ik3 w61 ho hb hg hat;rw[<- iq9.out] at ho;replace eu:=(bg_ eu hg (Kd.Q_ne ku.out eu.out (by decide)));replace gi:=(bg_ gi hg (Kd.Q_ne ku.out gi.out (by decide)));replace fe:=(bg_ fe hg (Kd.Q_ne ku.out fe.out (by decide)));replace f8:=(bg_ f8 hg (Kd.Q_ne ku.out f8.out (by decide)));replace qe:=A_ (Kd.R_over' (uR_ qe) (Kd.Q_typed (uQ_ ku)) (by decide) hg);replace o3:=A_ (Kd.S_over' (uS_ o3) (Kd.Q_typed (uQ_ ku)) (by decide) hg);replace ct:=(bg_ ct hg (Kd.Q_away ku.out (fun _ hk=>hk.2.2.2.2)));replace HB:=A_ (hb);have am1:=A_ (ho);clear ku nf qm;clear ho hb hg hat;obtain⟨ba7,bh9,le5,_⟩:=Kd.Q_slice am1.out;subst le5;obtain⟨df7,df8,fe4,df9,dg0,fe5⟩:=blk3_ f8)|((with_reducible refine gate_store (t:=26) (p:=57) rfl ?_);refine store_event (t:=26) (p:=57) (v:=?vo_w64) (w1:=(w61.setCell ⟨ci,2,none⟩ (.slice ba7 mx.length bh9))) ?hg ?ho ?hn ?hr ?_;(case ho=>rfl);(case hg=>rfl);(case hn=>rfl);(case hr=>first|(go_simp;done)|(go_simp;rfl)|(obtain⟨_,_,e0_⟩:=Kd.R_slice nf.out;rw[e0_];first|(go_simp;done)|(go_simp;rfl)));intro w64 hw;replace qe:G7 (Kd.R (Kd.int .i64) 3 w64 w.heap.size (fun _=>True) (.slice b4 fp.length bx) fp):=⟨(by rw[hw];exact(ra_ qe))⟩;replace o3:G7 (Kd.S (Kd.slice 3 (Kd.int .i64)) 22 w64 w.heap.size (fun k_=>some k_≠(.slice b4 fp.length bx:Value).ownBlock) (.slice d5 gn.length dx) gn):=⟨(by rw[hw];exact(sa_ o3))⟩;replace am1:G7 (Kd.Q k25 25 w64 w.heap.size (fun k_=>some k_≠(.slice b4 fp.length bx:Value).ownBlock/\some k_≠(.slice d5 gn.length dx:Value).ownBlock/\k_≠b9) (.slice ba7 mx.length bh9) mx):=⟨(by rw[hw];exact(qa_ am1))⟩;replace eu:G7 (hc_ w64 ie #[.slice ae ab.length ac, .slice ag aa.length af, .slice av ai.length au] 28):=⟨(by rw[hw];exact(ba_ eu))⟩;replace gi:G7 (hc_ w64 iw #[.int .i64 aq, .int .i64 am, .int .i64 an, .int .i64 ao] 69):=⟨(by rw[hw];exact(ba_ gi))⟩;replace fe:G7 (hc_ w64 du #[.slice none 0 0, .slice none 0 0, .slice none 0 0] 28):=⟨(by rw[hw];exact(ba_ fe))⟩;replace f8:G7 (hc_ w64 ci #[.slice fz gd.length f4, .slice im g5.length io, .slice ba7 mx.length bh9] 28):=⟨(by rw[hw];exact(ba_ f8))⟩;replace ct:G7 (hc_ w64 b9 #[.slice b4 fp.length bx, .slice d5 gn.length dx] 25):=⟨(by rw[hw];exact(ba_ ct))⟩;replace HB:G7 (Below w.heap.size w w64):=⟨(by rw[hw];exact(kv))⟩;clear hw;obtain⟨is7,is8,nw3,is9,it0,nw4⟩:=blk3_ f8;have q66:(1:Int)<=((mx.length:Int):Int):=od_;obtain⟨i066,it1,_,hsz66,_⟩:=info_parts info25;have hcut66:=cut_from (P:=Try.prog) 26 25 .i64 Try.underlying26 it1 2 hsz66 ba7 mx.length bh9 1 (by omega) q66;have eg0:=Kd.Q_drop (k:=(1:Int).toNat) am1.out (by omega);obtain⟨A66,hA66⟩:∃A1,A1=(if bh9=(1:Int).toNat then ba7 else(ba7:Option Addr).map (·.add ((1:Int).toNat * 2))):=⟨_,rfl⟩;obtain⟨c66,gp5⟩:∃c1,c1=bh9 - (1:Int).toNat:=⟨_,rfl⟩;have hy66:as0.length=mx.length - (1:Int).toNat:=(by rw[ir0.out,List.length_drop]);rw[<- ir0.out] at eg0;rw[<- hy66, <- hA66, <- gp5] at hcut66;replace eg0:Kd.Q k25 25 w64 w.heap.size (fun k_=>some k_≠(.slice b4 fp.length bx:Value).ownBlock/\some k_≠(.slice d5 gn.length dx:Value).ownBlock/\k_≠b9) (.slice A66 as0.length c66) as0:=(by rw[hA66,gp5,hy66];exact eg0);have HE66:G7 ((Value.slice A66 as0.length c66).ownBlock=(.slice ba7 mx.length bh9:Value).ownBlock):=⟨by rw[hA66];split <;> (cases(ba7:Option Addr) <;> rfl)⟩;clear hy66 it1 hsz66 am1 hA66 gp5;have de9:=A_ eg0;clear eg0;replace q66:=eq_true q66;obtain⟨le6,le7,le8,le9⟩:=blk2_ ct;obtain⟨gn0,gn1,gn2,gn3,gn4,gn5⟩:=blk3_ fe))
  refine bodyPost_ret (Jt rfl _ _ du 28 #[.slice b4 fp.length bx, .slice d5 gn.length dx, .slice A66 as0.length c66] (0,0) _ rfl (ba_ fe) Try.underlying28 rfl (g1_)) rfl ?_
  exact⟨_,_,_,g4_,ra_ qe,sa_ o3,qa_ de9,kv⟩
 rw[if_neg yr] at H
 have ic6:=decide_eq_false yr
 have le0:decide (8 < mx.length)=false:=decide_eq_false (by omega)
 clear yr
 simp only[Option.some.injEq,Prod.mk.injEq] at H
 obtain⟨rfl,rfl,rfl,rfl⟩:=H
 have eg1:=bh7.out
 have eg2:=bh8.out
 have gn6:=bp9.out
 have gn7:=bq0.out
 have im6:=ab2.out
 have im7:=cd7.out
 obtain⟨it2,it3,nw5,it4,it5,nw6⟩:=blk3_ eu
 have it6:=cd5.out
 have it7:=cd6.out
 have fc7:=za.out
 have fc8:=bq1.out
 obtain⟨it8,it9,iu0,iu1,iu2,iu3,iu4,iu5⟩:=blk4_ gi
 go_wp2_with (first|((with_reducible refine gc_ 101 ?_);refine gl_ 45 Try.func101 #[.agg #[.slice ae ab.length ac, .slice ag aa.length af], .agg #[.int .i64 aq, .int .i64 am, .int .i64 an, .int .i64 ao]] ?_;(refine(Fq.calls kj5 _ _ ab _ _ aa aq am an ao fp gn true _ (uC_ bg) bs.out (uC_ bd) bv.out A37.out).mono ?_);rintro e w76 ⟨is1,is2,rfl,ah,ak,hb⟩;refine⟨_,rfl,?_⟩;replace ku:=A_ (Kd.Q_mono (Kd.Q_told (Kd.Q_told (Kd.Q_old (uQ_ ku) hb) (Kd.R_base ah)) (Kd.S_base ak)) (fun _ h_=>h_.1));have qe:=A_ (Kd.R_lower (Kd.R_new' ah (Kd.R_lt (uR_ nf))) (G9 (kv)));have o3:=A_ (Kd.S_lower (Kd.S_new' (Kd.S_new' ak (Kd.R_lt (uR_ nf))) (Kd.S_lt (uS_ qm))) (G9 (kv)));replace nf:=A_ (Kd.R_elder' (uR_ nf) (Kd.R_base ah) hb);replace qm:=A_ (Kd.S_mono (Kd.S_told (Kd.S_told (Kd.S_old (uS_ qm) hb) (Kd.R_base ah)) (Kd.S_base ak)) (fun _ h_=>h_.1));replace eu:=bb_ eu hb;replace gi:=bb_ gi hb;replace fe:=bb_ fe hb;replace f8:=bb_ f8 hb;replace HB:=hs_ (kv) hb)|((with_reducible refine gd_ 8 ?_);(try(refine gate_guard (by rfl) ?_;dsimp only));refine bx_ (N:=8) #[.slice none 0 0, .slice none 0 0] 25 ?_;intro b9 hg w77 hbox hb;replace nf:=rb_ nf hb;replace qm:=sb_ qm hb;replace ku:=A_ (Kd.Q_below (Kd.Q_elderB (uQ_ ku) b9 (Nat.le_of_eq hg.symm)) hb);replace qe:=rb_ qe hb;replace o3:=sb_ o3 hb;have ct:=A_ (hbox);have gl4:=A_ ((g15_:w.heap.size<=b9));have ee7:=gl4;replace HB:=hs_ (kv) hb;have bq2:=nl_ eu hg;have ef6:=nr_ eu hg;replace eu:=bb_ eu hb;have bq3:=nl_ gi hg;have ef7:=nr_ gi hg;replace gi:=bb_ gi hb;have ba6:=nl_ fe hg;have ef8:=nr_ fe hg;replace fe:=bb_ fe hb;have bq4:=nl_ f8 hg;have df5:=nr_ f8 hg;replace f8:=bb_ f8 hb;clear hb hbox hg;obtain⟨pk,pl,lf0⟩:=Kd.R_slice qe.out;subst lf0;have in2:=ef6.out;have in3:=bq2.out;have in4:=ef7.out;have in5:=bq3.out;have lf1:=ef8.out;have lf2:=ba6.out;have in6:=df5.out;have in7:=bq4.out;obtain⟨nw7,nw8,nw9,nx0⟩:=blk2_ ct;obtain⟨r0,r5,lf3⟩:=Kd.S_slice o3.out;subst lf3)|((with_reducible refine gate_store (t:=25) (p:=8) rfl ?_);refine store_event (t:=25) (p:=8) (v:=?vo_w85) (w1:=((w77.setCell ⟨b9,0,none⟩ (.slice pk fp.length pl)).setCell ⟨b9,1,none⟩ (.slice r0 gn.length r5))) ?hg ?ho ?hn ?hr ?_;(case ho=>rfl);(case hg=>rfl);(case hn=>rfl);(case hr=>first|(go_simp;done)|(go_simp;rfl)|(obtain⟨_,_,e0_⟩:=Kd.R_slice nf.out;rw[e0_];first|(go_simp;done)|(go_simp;rfl)));intro w85 hw;replace nf:G7 (Kd.R (Kd.int .i64) 3 w85 w.heap.size (fun k_=>some k_≠(.slice pk fp.length pl:Value).ownBlock) (.slice fz gd.length f4) gd):=⟨(by rw[hw];exact(ra_ nf))⟩;replace qm:G7 (Kd.S (Kd.slice 3 (Kd.int .i64)) 22 w85 w.heap.size (fun k_=>some k_≠(.slice fz gd.length f4:Value).ownBlock/\some k_≠(.slice pk fp.length pl:Value).ownBlock/\some k_≠(.slice r0 gn.length r5:Value).ownBlock) (.slice im g5.length io) g5):=⟨(by rw[hw];exact(sa_ qm))⟩;replace ku:G7 (Kd.Q k25 25 w85 w.heap.size (fun k_=>some k_≠(.slice fz gd.length f4:Value).ownBlock/\some k_≠(.slice im g5.length io:Value).ownBlock/\some k_≠(.slice pk fp.length pl:Value).ownBlock/\some k_≠(.slice r0 gn.length r5:Value).ownBlock/\k_≠b9) (.slice ko em.length f5) em):=⟨(by rw[hw];exact(qa_ ku))⟩;replace qe:G7 (Kd.R (Kd.int .i64) 3 w85 w.heap.size (fun k_=>some k_≠(.slice fz gd.length f4:Value).ownBlock) (.slice pk fp.length pl) fp):=⟨(by rw[hw];exact(ra_ qe))⟩;replace o3:G7 (Kd.S (Kd.slice 3 (Kd.int .i64)) 22 w85 w.heap.size (fun k_=>some k_≠(.slice fz gd.length f4:Value).ownBlock/\some k_≠(.slice im g5.length io:Value).ownBlock/\some k_≠(.slice pk fp.length pl:Value).ownBlock) (.slice r0 gn.length r5) gn):=⟨(by rw[hw];exact(sa_ o3))⟩;replace eu:G7 (hc_ w85 ie #[.slice ae ab.length ac, .slice ag aa.length af, .slice av ai.length au] 28):=⟨(by rw[hw];exact(ba_ eu))⟩;replace gi:G7 (hc_ w85 iw #[.int .i64 aq, .int .i64 am, .int .i64 an, .int .i64 ao] 69):=⟨(by rw[hw];exact(ba_ gi))⟩;replace fe:G7 (hc_ w85 du #[.slice none 0 0, .slice none 0 0, .slice none 0 0] 28):=⟨(by rw[hw];exact(ba_ fe))⟩;replace f8:G7 (hc_ w85 ci #[.slice fz gd.length f4, .slice im g5.length io, .slice ko em.length f5] 28):=⟨(by rw[hw];exact(ba_ f8))⟩;replace ct:G7 (hc_ w85 b9 #[.slice pk fp.length pl, .slice r0 gn.length r5] 25):=⟨(by rw[hw];exact(ba_ ct))⟩;replace HB:G7 (Below w.heap.size w w85):=⟨(by rw[hw];exact(kv))⟩;clear hw;have lf4:=cs1.out;have lf5:=tl.out;obtain⟨lf6,lf7,nx1,lf8,lf9,nx2⟩:=blk3_ f8)|((with_reducible refine gate_builtin (b:=.append) (xs:=#[.tmp 52, .tmp 55]) rfl ?_);(try(refine gate_guard (by rfl) ?_;dsimp only));at_builtin;refine Kd.Q_append k25 (w0:=w) w.heap.size rfl (.tmp 52) (.tmp 55) 26 25 (.agg #[(.slice none 0 0),(.slice none 0 0)]) 48 rfl Try.underlying26 info25 rfl (by decide) (by omega) (.slice ko em.length f5) em (⟨gd,g5⟩:S25) [.slice fz gd.length f4, .slice im g5.length io] (fun k_=>some k_≠(.slice pk fp.length pl:Value).ownBlock/\some k_≠(.slice r0 gn.length r5:Value).ownBlock/\k_≠b9) (fun k_=>((fun k_=>some k_≠(.slice pk fp.length pl:Value).ownBlock/\some k_≠(.slice r0 gn.length r5:Value).ownBlock/\k_≠b9)) k_/\some k_≠(.slice ko em.length f5:Value).ownBlock) rfl rfl ?aP (fun _ hk=>hk) ?aF ?aO ?aB ?aS ?aL ?_;(case aP=>exact k25_mkM _ _ _ (⟨gd,g5⟩:S25) (Kd.R_mono (Kd.R_types (Kd.R_apart' (Kd.R_apart' (nf.out) (Kd.S_typed o3.out) (by decide)) (Kd.Q_typed ku.out) (by decide)) ct.out (by decide)) (fun k_ hk=>⟨⟨hk.1.1.1,⟨hk.1.1.2,hk.2⟩⟩,hk.1.2⟩)) (Kd.R_mono (Kd.R_types (Kd.R_apart' ((Kd.S_R qm.out)) (Kd.Q_typed ku.out) (by decide)) ct.out (by decide)) (fun k_ hk=>⟨⟨hk.1.1.2.1,⟨hk.1.1.2.2,hk.2⟩⟩,hk.1.2⟩)));(case aB=>exact(kv));(case aF=>exact(fun k_ hk=>⟨Kd.fresh' (Kd.R_lt (uR_ qe)) k_ hk,Kd.fresh' (Kd.S_lt (uS_ o3)) k_ hk,Kd.freshB (g:=b9) (o:=.cells #[.slice pk fp.length pl, .slice r0 gn.length r5] 25 (0,0)) (uB_ ct) k_ hk⟩));(case aO=>exact(yQ_ ku (fun _ hk=>⟨hk.2.2.1,⟨hk.2.2.2.1,hk.2.2.2.2⟩⟩)));(case aS=>exact(G9 (kv)));(case aL=>have:=iq8.out;omega);intro ik3 w88 ho hb hg hat;rw[<- iq9.out] at ho;replace eu:=(bg_ eu hg (Kd.Q_ne ku.out eu.out (by decide)));replace gi:=(bg_ gi hg (Kd.Q_ne ku.out gi.out (by decide)));replace fe:=(bg_ fe hg (Kd.Q_ne ku.out fe.out (by decide)));replace f8:=(bg_ f8 hg (Kd.Q_ne ku.out f8.out (by decide)));replace qe:=A_ (Kd.R_over' (uR_ qe) (Kd.Q_typed (uQ_ ku)) (by decide) hg);replace o3:=A_ (Kd.S_over' (uS_ o3) (Kd.Q_typed (uQ_ ku)) (by decide) hg);replace ct:=(bg_ ct hg (Kd.Q_away ku.out (fun _ hk=>hk.2.2.2.2)));replace HB:=A_ (hb);have am1:=A_ (ho);clear ku nf qm;clear ho hb hg hat;obtain⟨bq5,bq6,fe6,_⟩:=Kd.Q_slice am1.out;subst fe6;obtain⟨nx3,nx4,nx5,nx6,nx7,nx8⟩:=blk3_ f8;obtain⟨nx9,ny0,ny1,ny2⟩:=blk2_ ct;obtain⟨iu6,iu7,ny3,iu8,iu9,ny4⟩:=blk3_ fe))
 refine bodyPost_ret (Jt rfl _ _ du 28 #[.slice pk fp.length pl, .slice r0 gn.length r5, .slice bq5 mx.length bq6] (0,0) _ rfl (ba_ fe) Try.underlying28 rfl (g1_)) rfl ?_
 exact⟨_,_,_,g4_,ra_ qe,sa_ o3,qa_ am1,kv⟩
set_option maxHeartbeats 8000000 in
set_option maxRecDepth 100000 in
theorem Gy.back (k:Nat) (ae:Option Addr) (ac:Nat) (ab:List Int) (ag:Option Addr) (af:Nat) (aa:List (List Int)) (av:Option Addr) (au:Nat) (ai:List (S25)) (w:World) (ca:Kd.C (Kd.int .i64) w ae ab.length ab) (ce:ab.length<=ac) (cb:Kd.C (Kd.slice 3 (Kd.int .i64)) w ag aa.length aa) (cg:aa.length<=af) (g8:Kd.C k25 w av ai.length ai) (g9:ai.length<=au) (gd:List Int) (g5:List (List Int)) (em:List S25) (n:Nat) (hd:Fv.f k ab aa ai=some true) (hcp:Fm.f k ab aa ai=some (gd,g5,em)) (hn:em.length=n + 1) (hmx:n < 2932031007402) (hp:0 < ai.length) :
  Calls Try.prog 54 #[.agg #[.slice ae ab.length ac, .slice ag aa.length af, .slice av ai.length au], .agg #[.int .i64 4, .int .i64 0, .int .i64 0, .int .i64 0]] w fun e w'=>∃v0_ v1_ v2_:Value,e = .returned (.tuple #[.agg #[v0_,v1_,v2_], .bool true])/\Kd.R (Kd.int .i64) 3 w' w.heap.size (fun _=>True) v0_ (Jn em (n:Int)).f0/\Kd.S (Kd.slice 3 (Kd.int .i64)) 22 w' w.heap.size (fun k_=>some k_≠(v0_:Value).ownBlock) v1_ (Jn em (n:Int)).f1/\Kd.Q k25 25 w' w.heap.size (fun k_=>some k_≠(v0_:Value).ownBlock/\some k_≠(v1_:Value).ownBlock) v2_ (em.take n)/\Below w.heap.size w w':=by
 have hu28:=Try.underlying28
 have hu69:=Try.underlying69
 have hu25:=Try.underlying25
 have bg:=A_ ca
 have bs:=A_ ce
 have bd:=A_ cb
 have bv:=A_ cg
 have gc:=A_ g8
 have gx:=A_ g9
 have HB:=A_ (Below.refl w.heap.size w)
 have A3:=A_ hd
 have A5:=A_ hcp
 have HN:=A_ hn
 have hp1:decide ((ai.length:Int) > 0)=true:=decide_eq_true (by omega)
 have hp2:wrap64 ((em.length:Int) - 1)=(n:Int):=by rw[show((em.length:Int) - 1)=(n:Int) by omega];unfold wrap64;omega
 have hp3:(0<=(n:Int))=True:=eq_true (by omega)
 have hp4:((n:Int) < (em.length:Int))=True:=eq_true (by omega)
 have hp6:((n:Int) < (n:Int) + 1)=True:=eq_true (by omega)
 have hp7:((n:Int) < ((n + 1:Nat):Int))=True:=eq_true (by omega)
 have hp5:((n:Int)).toNat=n:=Int.toNat_natCast n
 clear ca ce cb cg g8 g9 hd hcp hn
 go_enter Try.func54,Try.ntmps54
 go_upto_region 4 with(first|((with_reducible refine gd_ 2 ?_);(try(refine gate_guard (by rfl) ?_;dsimp only));refine box_event ?hg (N:=2) ?hd (cs:=#[.slice ae ab.length ac, .slice ag aa.length af, .slice av ai.length au]) (t:=28) ?hr ?_;(case hd=>rfl);(case hg=>rfl);(case hr=>first|(go_simp;done)|(go_simp;rfl));intro ie hg w7 hbox hb;have n0_:=hs_ (g13_) hb;have n1_:=A_ (hbox);have n2_:=A_ ((by rw[hg];exact(G9 (g13_)):w.heap.size<=ie));have n3_:=n2_;clear HB;have HB:=n0_;have eu:=n1_;have iq2:=n2_;have df4:=n3_;clear n0_ n1_ n2_ n3_;clear hb hbox hg)|((with_reducible refine gd_ 3 ?_);(try(refine gate_guard (by rfl) ?_;dsimp only));refine box_event ?hg (N:=3) ?hd (cs:=#[.int .i64 4, .int .i64 0, .int .i64 0, .int .i64 0]) (t:=69) ?hr ?_;(case hd=>rfl);(case hg=>rfl);(case hr=>first|(go_simp;done)|(go_simp;rfl));intro iw hg w8 hbox hb;have n0_:=A_ (Jk (g:=ie) (o:=.cells #[.slice ae ab.length ac, .slice ag aa.length af, .slice av ai.length au] 28 (0,0)) (g32_) hb);have n1_:=hs_ (g204_) hb;have n2_:=A_ (hbox);have n3_:=A_ ((by rw[hg];exact(G9 (g204_)):w.heap.size<=iw));have n4_:=n3_;have n5_:=A_ ((by rw[hg];exact Nat.ne_of_lt (blk_lt (g:=ie) (o:=.cells #[.slice ae ab.length ac, .slice ag aa.length af, .slice av ai.length au] 28 (0,0)) (by(with_reducible repeat(first|refine Jh ?_ _|refine Ji ?_|refine Jg ?_ _));exact eu.out)):ie≠iw));have n6_:=A_ ((by rw[hg];exact Nat.ne_of_gt (blk_lt (g:=ie) (o:=.cells #[.slice ae ab.length ac, .slice ag aa.length af, .slice av ai.length au] 28 (0,0)) (by(with_reducible repeat(first|refine Jh ?_ _|refine Ji ?_|refine Jg ?_ _));exact eu.out)):iw≠ie));clear eu;clear HB;have eu:=n0_;have HB:=n1_;have gi:=n2_;have iq3:=n3_;have ef5:=n4_;have bh7:=n5_;have bh8:=n6_;clear n0_ n1_ n2_ n3_ n4_ n5_ n6_;clear hb hbox hg)|((with_reducible refine gd_ 4 ?_);(try(refine gate_guard (by rfl) ?_;dsimp only));refine box_event ?hg (N:=4) ?hd (cs:=#[.slice none 0 0, .slice none 0 0, .slice none 0 0]) (t:=28) ?hr ?_;(case hd=>rfl);(case hg=>rfl);(case hr=>first|(go_simp;done)|(go_simp;rfl));intro du hg w9 hbox hb;have n0_:=A_ (Jk (g:=ie) (o:=.cells #[.slice ae ab.length ac, .slice ag aa.length af, .slice av ai.length au] 28 (0,0)) (g32_) hb);have n1_:=A_ (Jk (g:=iw) (o:=.cells #[.int .i64 4, .int .i64 0, .int .i64 0, .int .i64 0] 69 (0,0)) (g44_) hb);have n2_:=hs_ (g207_) hb;have n3_:=A_ (hbox);have n4_:=A_ ((by rw[hg];exact(G9 (g207_)):w.heap.size<=du));have n5_:=n4_;have n6_:=A_ ((by rw[hg];exact Nat.ne_of_lt (blk_lt (g:=ie) (o:=.cells #[.slice ae ab.length ac, .slice ag aa.length af, .slice av ai.length au] 28 (0,0)) (by(with_reducible repeat(first|refine Jh ?_ _|refine Ji ?_|refine Jg ?_ _));exact eu.out)):ie≠du));have n7_:=A_ ((by rw[hg];exact Nat.ne_of_gt (blk_lt (g:=ie) (o:=.cells #[.slice ae ab.length ac, .slice ag aa.length af, .slice av ai.length au] 28 (0,0)) (by(with_reducible repeat(first|refine Jh ?_ _|refine Ji ?_|refine Jg ?_ _));exact eu.out)):du≠ie));have n8_:=A_ ((by rw[hg];exact Nat.ne_of_lt (blk_lt (g:=iw) (o:=.cells #[.int .i64 4, .int .i64 0, .int .i64 0, .int .i64 0] 69 (0,0)) (g44_)):iw≠du));have n9_:=A_ ((by rw[hg];exact Nat.ne_of_gt (blk_lt (g:=iw) (o:=.cells #[.int .i64 4, .int .i64 0, .int .i64 0, .int .i64 0] 69 (0,0)) (g44_)):du≠iw));clear eu;clear gi;clear HB;have eu:=n0_;have gi:=n1_;have HB:=n2_;have fe:=n3_;have iq4:=n4_;have cr8:=n5_;have bp9:=n6_;have bq0:=n7_;have cd5:=n8_;have cd6:=n9_;clear n0_ n1_ n2_ n3_ n4_ n5_ n6_ n7_ n8_ n9_;clear hb hbox hg;have cr9:=bh7.out;have cs0:=bh8.out;have bf6:=bp9.out;have bf7:=bq0.out;have vi:w9.cell? ⟨ie,0,none⟩=some (.slice ae ab.length ac):=(G8 eu.out 0).trans rfl;have vj:w9.cell? ⟨ie,1,none⟩=some (.slice ag aa.length af):=(G8 eu.out 1).trans rfl;have ba2:w9.cell? ⟨ie,2,none⟩=some (.slice av ai.length au):=(G8 eu.out 2).trans rfl;have vk:=Jj eu.out 0;have vl:=Jj eu.out 1;have ba3:=Jj eu.out 2)|((with_reducible refine gc_ 28 ?_);refine goesL_ (some 11) rfl rfl Try.func28 (g1_) rfl #[.agg #[.slice ae ab.length ac, .slice ag aa.length af, .slice av ai.length au]] rfl (gM_) ?_;(refine(Fv.calls k _ _ ab _ _ aa _ _ ai true _ (cu_ (Kd.C_below bg.out HB.out)) bs.out (cu_ (Kd.C_below bd.out HB.out)) bv.out (cu_ (Kd.C_below gc.out HB.out)) gx.out A3.out).mono ?_);rintro e ps ⟨rfl,hb⟩;refine⟨_,rfl,?_⟩;have n0_:=A_ (Jk (g:=ie) (o:=.cells #[.slice ae ab.length ac, .slice ag aa.length af, .slice av ai.length au] 28 (0,0)) (g32_) hb);have n1_:=A_ (Jk (g:=iw) (o:=.cells #[.int .i64 4, .int .i64 0, .int .i64 0, .int .i64 0] 69 (0,0)) (g44_) hb);have n2_:=A_ (Jk (g:=du) (o:=.cells #[.slice none 0 0, .slice none 0 0, .slice none 0 0] 28 (0,0)) (g90_) hb);have n3_:=hs_ (g45_) hb;clear eu;clear gi;clear fe;clear HB;have eu:=n0_;have gi:=n1_;have fe:=n2_;have HB:=n3_;clear n0_ n1_ n2_ n3_;have ub:ps.cell? ⟨ie,0,none⟩=some (.slice ae ab.length ac):=(G8 eu.out 0).trans rfl;have uc:ps.cell? ⟨ie,1,none⟩=some (.slice ag aa.length af):=(G8 eu.out 1).trans rfl;have cz2:ps.cell? ⟨ie,2,none⟩=some (.slice av ai.length au):=(G8 eu.out 2).trans rfl;have ud:=Jj eu.out 0;have ue:=Jj eu.out 1;have cz3:=Jj eu.out 2)|((with_reducible refine gc_ 100 ?_);refine goesL_ (some 15) rfl rfl Try.func100 (g1_) rfl #[.agg #[.slice ae ab.length ac, .slice ag aa.length af, .slice av ai.length au]] rfl (gM_) ?_;(refine(Fm.calls_s k _ _ ab _ _ aa _ _ ai gd g5 em _ (cu_ (Kd.C_below bg.out HB.out)) bs.out (cu_ (Kd.C_below bd.out HB.out)) bv.out (cu_ (Kd.C_below gc.out HB.out)) gx.out A5.out).mono ?_);rintro e w15 ⟨ld3,ld4,ld5,rfl,ah,ak,aw,hb⟩;refine⟨_,rfl,?_⟩;have n0_:=A_ (Kd.R_lower ah (G9 (g45_)));have n1_:=A_ (Kd.S_lower ak (G9 (g45_)));have n2_:=A_ (Kd.S_lower aw (G9 (g45_)));have n3_:=A_ (Jk (g:=ie) (o:=.cells #[.slice ae ab.length ac, .slice ag aa.length af, .slice av ai.length au] 28 (0,0)) (g32_) hb);have n4_:=A_ (Jk (g:=iw) (o:=.cells #[.int .i64 4, .int .i64 0, .int .i64 0, .int .i64 0] 69 (0,0)) (g44_) hb);have n5_:=A_ (Jk (g:=du) (o:=.cells #[.slice none 0 0, .slice none 0 0, .slice none 0 0] 28 (0,0)) (g90_) hb);have n6_:=hs_ (g45_) hb;clear eu;clear gi;clear fe;clear HB;have ba4:=n0_;have ba5:=n1_;have am2:=n2_;have eu:=n3_;have gi:=n4_;have fe:=n5_;have HB:=n6_;clear n0_ n1_ n2_ n3_ n4_ n5_ n6_)|((with_reducible refine gd_ 6 ?_);(try(refine gate_guard (by rfl) ?_;dsimp only));refine box_event ?hg (N:=6) ?hd (cs:=#[.slice none 0 0, .slice none 0 0, .slice none 0 0]) (t:=28) ?hr ?_;(case hd=>rfl);(case hg=>rfl);(case hr=>first|(go_simp;done)|(go_simp;rfl));intro ci hg pu hbox hb;have n0_:=A_ (Kd.R_below (by(with_reducible repeat(first|apply Kd.R_alloc|apply Kd.R_drewN|apply Kd.R_drew));exact ba4.out) hb);have n1_:=A_ (Kd.S_below (by(with_reducible repeat(first|apply Kd.S_alloc|apply Kd.S_drewN|apply Kd.S_drew));exact ba5.out) hb);have n2_:=A_ (Kd.S_below (by(with_reducible repeat(first|apply Kd.S_alloc|apply Kd.S_drewN|apply Kd.S_drew));exact am2.out) hb);have n3_:=A_ (Jk (g:=ie) (o:=.cells #[.slice ae ab.length ac, .slice ag aa.length af, .slice av ai.length au] 28 (0,0)) (g32_) hb);have n4_:=A_ (Jk (g:=iw) (o:=.cells #[.int .i64 4, .int .i64 0, .int .i64 0, .int .i64 0] 69 (0,0)) (g44_) hb);have n5_:=A_ (Jk (g:=du) (o:=.cells #[.slice none 0 0, .slice none 0 0, .slice none 0 0] 28 (0,0)) (g90_) hb);have n6_:=hs_ (g45_) hb;have n7_:=A_ (hbox);have n8_:=A_ ((by rw[hg];exact(G9 (g45_)):w.heap.size<=ci));have n9_:=n8_;have n10_:=A_ ((by rw[hg];exact Nat.ne_of_lt (blk_lt (g:=ie) (o:=.cells #[.slice ae ab.length ac, .slice ag aa.length af, .slice av ai.length au] 28 (0,0)) (by(with_reducible repeat(first|refine Jh ?_ _|refine Ji ?_|refine Jg ?_ _));exact eu.out)):ie≠ci));have n11_:=A_ ((by rw[hg];exact Nat.ne_of_gt (blk_lt (g:=ie) (o:=.cells #[.slice ae ab.length ac, .slice ag aa.length af, .slice av ai.length au] 28 (0,0)) (by(with_reducible repeat(first|refine Jh ?_ _|refine Ji ?_|refine Jg ?_ _));exact eu.out)):ci≠ie));have n12_:=A_ ((by rw[hg];exact Nat.ne_of_lt (blk_lt (g:=iw) (o:=.cells #[.int .i64 4, .int .i64 0, .int .i64 0, .int .i64 0] 69 (0,0)) (g44_)):iw≠ci));have n13_:=A_ ((by rw[hg];exact Nat.ne_of_gt (blk_lt (g:=iw) (o:=.cells #[.int .i64 4, .int .i64 0, .int .i64 0, .int .i64 0] 69 (0,0)) (g44_)):ci≠iw));have n14_:=A_ ((by rw[hg];exact Nat.ne_of_lt (blk_lt (g:=du) (o:=.cells #[.slice none 0 0, .slice none 0 0, .slice none 0 0] 28 (0,0)) (g90_)):du≠ci));have n15_:=A_ ((by rw[hg];exact Nat.ne_of_gt (blk_lt (g:=du) (o:=.cells #[.slice none 0 0, .slice none 0 0, .slice none 0 0] 28 (0,0)) (g90_)):ci≠du));clear ba4;clear ba5;clear am2;clear eu;clear gi;clear fe;clear HB;have ba4:=n0_;have ba5:=n1_;have am2:=n2_;have eu:=n3_;have gi:=n4_;have fe:=n5_;have HB:=n6_;have f8:=n7_;have ld6:=n8_;have cd4:=n9_;have ab2:=n10_;have cd7:=n11_;have za:=n12_;have bq1:=n13_;have tl:=n14_;have cs1:=n15_;clear n0_ n1_ n2_ n3_ n4_ n5_ n6_ n7_ n8_ n9_ n10_ n11_ n12_ n13_ n14_ n15_;clear hb hbox hg;obtain⟨fz,f4,ax4⟩:=Kd.R_slice ba4.out;subst ax4;have dr5:=cd7.out;have dr6:=ab2.out;have bw3:=bq1.out;have bw4:=za.out;have db4:=cs1.out;have db5:=tl.out;have t6:pu.cell? ⟨ci,0,none⟩=some (.slice none 0 0):=(G8 f8.out 0).trans rfl;have t7:pu.cell? ⟨ci,1,none⟩=some (.slice none 0 0):=(G8 f8.out 1).trans rfl;have ay0:pu.cell? ⟨ci,2,none⟩=some (.slice none 0 0):=(G8 f8.out 2).trans rfl;have t8:=Jj f8.out 0;have t9:=Jj f8.out 1;have ay1:=Jj f8.out 2;obtain⟨im,io,cs2⟩:=Kd.S_slice ba5.out;subst cs2;obtain⟨ko,f5,cq0⟩:=Kd.S_slice am2.out;subst cq0;obtain⟨ga,u0,u1,eA,hx0,hx1,hl0,hl1,hl2,hg1,hg2⟩:=k25s_last (n:=n) HN.out am2.out;subst eA;have HL0:=A_ (Kd.R_types (Kd.R_types hl0 f8.out (by decide)) fe.out (by decide));have HL1:=A_ (Kd.S_types (Kd.S_types hl1 f8.out (by decide)) fe.out (by decide));have HL2:=A_ (Kd.Q_types (Kd.Q_types hl2 f8.out (by decide)) fe.out (by decide));clear hl0 hl1 hl2;have hge1:ga≠ci:=k25s_ne hg1 f8.out (by decide);have hge2:ci≠ga:=fun e_=>hge1 e_.symm;have hge3:ga≠du:=k25s_ne hg1 fe.out (by decide);have hge4:du≠ga:=fun e_=>hge3 e_.symm;obtain⟨B0,b0,eu0⟩:=Kd.R_slice HL0.out;subst eu0;obtain⟨B1,b1,eu1⟩:=Kd.S_slice HL1.out;subst eu1;have hn1:(em.length:Int)=(n:Int) + 1:=(by have:=HN.out;omega);have dg1:pu.cell? ⟨iw,0,none⟩=some (.int .i64 4):=(G8 gi.out 0).trans rfl;have dg2:pu.cell? ⟨iw,1,none⟩=some (.int .i64 0):=(G8 gi.out 1).trans rfl;have lh1:pu.cell? ⟨iw,2,none⟩=some (.int .i64 0):=(G8 gi.out 2).trans rfl;have lh2:pu.cell? ⟨iw,3,none⟩=some (.int .i64 0):=(G8 gi.out 3).trans rfl;have hcr_0:pu.cell? ⟨du,0,none⟩=some (.slice none 0 0):=(G8 fe.out 0).trans rfl;have hcr_1:pu.cell? ⟨du,1,none⟩=some (.slice none 0 0):=(G8 fe.out 1).trans rfl;have hcr_2:pu.cell? ⟨du,2,none⟩=some (.slice none 0 0):=(G8 fe.out 2).trans rfl;have hfr_0:=Jj fe.out 0;have hfr_1:=Jj fe.out 1;have hfr_2:=Jj fe.out 2;have hcd_2:pu.cell? ⟨ie,2,none⟩=some (.slice av ai.length au):=(G8 eu.out 2).trans rfl;have hb1:=za.out;have hb2:=bq1.out;have hb3:=tl.out;have hb4:=cs1.out;have hb5:=ab2.out;have hb6:=cd7.out))
 (try simp only[Act.put,List.setIfInBounds_toArray,List.set_cons_zero,List.set_cons_succ])
 go_upto_region 7 with fail
 obtain⟨i0,hi0,_,hsz0,_⟩:=info_parts info25
 have hcut:=cut_to (P:=Try.prog) 26 25 .i64 Try.underlying26 hi0 (some ⟨ga,0,none⟩) (n + 1) f5 (n:Int) (by omega) (by omega) (by have:=(Kd.S_reads' am2.out).2.1;omega)
 rw[hp5] at hcut
 go_upto_region 8 with fail
 have n0_:G7 (Kd.R (Kd.int .i64) 3 ((((((pu.setCell ⟨ci,0,none⟩ (.slice fz gd.length f4)).setCell ⟨ci,1,none⟩ (.slice im g5.length io)).setCell ⟨ci,2,none⟩ (.slice (some ⟨ga,0,none⟩) (n + 1) f5)).setCell ⟨ci,0,none⟩ (.slice B0 (Jn em (n:Int)).f0.length b0)).setCell ⟨ci,1,none⟩ (.slice B1 (Jn em (n:Int)).f1.length b1)).setCell ⟨ci,2,none⟩ (.slice (some ⟨ga,0,none⟩) n f5)) w.heap.size (fun k_=>(True/\k_≠ci)/\k_≠du) (.slice B0 (Jn em (n:Int)).f0.length b0) (Jn em (n:Int)).f0):=A_ (by refine Kd.R_far ?_ (fun _ hk=>hk.1.2) _;refine Kd.R_far ?_ (fun _ hk=>hk.1.2) _;refine Kd.R_far ?_ (fun _ hk=>hk.1.2) _;refine Kd.R_far ?_ (fun _ hk=>hk.1.2) _;refine Kd.R_far ?_ (fun _ hk=>hk.1.2) _;refine Kd.R_far ?_ (fun _ hk=>hk.1.2) _;exact HL0.out)
 have n1_:G7 (Kd.S (Kd.slice 3 (Kd.int .i64)) 22 ((((((pu.setCell ⟨ci,0,none⟩ (.slice fz gd.length f4)).setCell ⟨ci,1,none⟩ (.slice im g5.length io)).setCell ⟨ci,2,none⟩ (.slice (some ⟨ga,0,none⟩) (n + 1) f5)).setCell ⟨ci,0,none⟩ (.slice B0 (Jn em (n:Int)).f0.length b0)).setCell ⟨ci,1,none⟩ (.slice B1 (Jn em (n:Int)).f1.length b1)).setCell ⟨ci,2,none⟩ (.slice (some ⟨ga,0,none⟩) n f5)) w.heap.size (fun k_=>(some k_≠(.slice B0 (Jn em (n:Int)).f0.length b0:Value).ownBlock/\k_≠ci)/\k_≠du) (.slice B1 (Jn em (n:Int)).f1.length b1) (Jn em (n:Int)).f1):=A_ (by refine Kd.S_far ?_ (fun _ hk=>hk.1.2) _;refine Kd.S_far ?_ (fun _ hk=>hk.1.2) _;refine Kd.S_far ?_ (fun _ hk=>hk.1.2) _;refine Kd.S_far ?_ (fun _ hk=>hk.1.2) _;refine Kd.S_far ?_ (fun _ hk=>hk.1.2) _;refine Kd.S_far ?_ (fun _ hk=>hk.1.2) _;exact HL1.out)
 have n2_:G7 (Kd.Q k25 25 ((((((pu.setCell ⟨ci,0,none⟩ (.slice fz gd.length f4)).setCell ⟨ci,1,none⟩ (.slice im g5.length io)).setCell ⟨ci,2,none⟩ (.slice (some ⟨ga,0,none⟩) (n + 1) f5)).setCell ⟨ci,0,none⟩ (.slice B0 (Jn em (n:Int)).f0.length b0)).setCell ⟨ci,1,none⟩ (.slice B1 (Jn em (n:Int)).f1.length b1)).setCell ⟨ci,2,none⟩ (.slice (some ⟨ga,0,none⟩) n f5)) w.heap.size (fun k_=>((some k_≠(.slice B0 (Jn em (n:Int)).f0.length b0:Value).ownBlock/\some k_≠(.slice B1 (Jn em (n:Int)).f1.length b1:Value).ownBlock)/\k_≠ci)/\k_≠du) (.slice (some ⟨ga,0,none⟩) n f5) (em.take n)):=A_ (by refine Kd.Q_far ?_ (fun _ hk=>hk.1.2) _;refine Kd.Q_far ?_ (fun _ hk=>hk.1.2) _;refine Kd.Q_far ?_ (fun _ hk=>hk.1.2) _;refine Kd.Q_far ?_ (fun _ hk=>hk.1.2) _;refine Kd.Q_far ?_ (fun _ hk=>hk.1.2) _;refine Kd.Q_far ?_ (fun _ hk=>hk.1.2) _;exact HL2.out)
 have n3_:G7 (((((((pu.setCell ⟨ci,0,none⟩ (.slice fz gd.length f4)).setCell ⟨ci,1,none⟩ (.slice im g5.length io)).setCell ⟨ci,2,none⟩ (.slice (some ⟨ga,0,none⟩) (n + 1) f5)).setCell ⟨ci,0,none⟩ (.slice B0 (Jn em (n:Int)).f0.length b0)).setCell ⟨ci,1,none⟩ (.slice B1 (Jn em (n:Int)).f1.length b1)).setCell ⟨ci,2,none⟩ (.slice (some ⟨ga,0,none⟩) n f5)).heap[ci]? = some (.cells #[.slice B0 (Jn em (n:Int)).f0.length b0, .slice B1 (Jn em (n:Int)).f1.length b1, .slice (some ⟨ga,0,none⟩) n f5] 28 (0,0))):=A_ (ba_ f8)
 have n4_:G7 (((((((pu.setCell ⟨ci,0,none⟩ (.slice fz gd.length f4)).setCell ⟨ci,1,none⟩ (.slice im g5.length io)).setCell ⟨ci,2,none⟩ (.slice (some ⟨ga,0,none⟩) (n + 1) f5)).setCell ⟨ci,0,none⟩ (.slice B0 (Jn em (n:Int)).f0.length b0)).setCell ⟨ci,1,none⟩ (.slice B1 (Jn em (n:Int)).f1.length b1)).setCell ⟨ci,2,none⟩ (.slice (some ⟨ga,0,none⟩) n f5)).heap[du]? = some (.cells #[.slice none 0 0, .slice none 0 0, .slice none 0 0] 28 (0,0))):=A_ (ba_ fe)
 have n5_:G7 (Below w.heap.size w ((((((pu.setCell ⟨ci,0,none⟩ (.slice fz gd.length f4)).setCell ⟨ci,1,none⟩ (.slice im g5.length io)).setCell ⟨ci,2,none⟩ (.slice (some ⟨ga,0,none⟩) (n + 1) f5)).setCell ⟨ci,0,none⟩ (.slice B0 (Jn em (n:Int)).f0.length b0)).setCell ⟨ci,1,none⟩ (.slice B1 (Jn em (n:Int)).f1.length b1)).setCell ⟨ci,2,none⟩ (.slice (some ⟨ga,0,none⟩) n f5))):=A_ (by refine Jc ?_ cd4.out;refine Jc ?_ cd4.out;refine Jc ?_ cd4.out;refine Jc ?_ cd4.out;refine Jc ?_ cd4.out;refine Jc ?_ cd4.out;exact HB.out)
 clear HL0 HL1 HL2 f8 fe HB eu gi ba4 ba5 am2 hx0 hx1 hcut
 clear dg1 dg2 lh1 lh2 hcr_0 hcr_1 hcr_2 hcd_2 hfr_0 hfr_1 hfr_2 hg1 hg2
 generalize ((((((pu.setCell ⟨ci,0,none⟩ (.slice fz gd.length f4)).setCell ⟨ci,1,none⟩ (.slice im g5.length io)).setCell ⟨ci,2,none⟩ (.slice (some ⟨ga,0,none⟩) (n + 1) f5)).setCell ⟨ci,0,none⟩ (.slice B0 (Jn em (n:Int)).f0.length b0)).setCell ⟨ci,1,none⟩ (.slice B1 (Jn em (n:Int)).f1.length b1)).setCell ⟨ci,2,none⟩ (.slice (some ⟨ga,0,none⟩) n f5))=zu at n0_ n1_ n2_ n3_ n4_ n5_ |-
 have hcq_0:zu.cell? ⟨ci,0,none⟩=some (.slice B0 (Jn em (n:Int)).f0.length b0):=(G8 n3_.out 0).trans rfl
 have hcq_1:zu.cell? ⟨ci,1,none⟩=some (.slice B1 (Jn em (n:Int)).f1.length b1):=(G8 n3_.out 1).trans rfl
 have hcq_2:zu.cell? ⟨ci,2,none⟩=some (.slice (some ⟨ga,0,none⟩) n f5):=(G8 n3_.out 2).trans rfl
 have hcr_0:zu.cell? ⟨du,0,none⟩=some (.slice none 0 0):=(G8 n4_.out 0).trans rfl
 have hcr_1:zu.cell? ⟨du,1,none⟩=some (.slice none 0 0):=(G8 n4_.out 1).trans rfl
 have hcr_2:zu.cell? ⟨du,2,none⟩=some (.slice none 0 0):=(G8 n4_.out 2).trans rfl
 have hfr_0:=Jj n4_.out 0
 have hfr_1:=Jj n4_.out 1
 have hfr_2:=Jj n4_.out 2
 go_wp2
 refine bodyPost_ret (Jt rfl _ _ du 28 #[.slice B0 (Jn em (n:Int)).f0.length b0, .slice B1 (Jn em (n:Int)).f1.length b1, .slice (some ⟨ga,0,none⟩) n f5] (0,0) _ rfl (ba_ n4_) Try.underlying28 rfl (g1_)) rfl ?_
 exact⟨_,_,_,rfl,Kd.R_mono (Kd.R_far (p:=⟨du,2,none⟩) (Kd.R_far (p:=⟨du,1,none⟩) (Kd.R_far (p:=⟨du,0,none⟩) n0_.out (fun _ hk=>hk.2) (.slice B0 (Jn em (n:Int)).f0.length b0)) (fun _ hk=>hk.2) (.slice B1 (Jn em (n:Int)).f1.length b1)) (fun _ hk=>hk.2) (.slice (some ⟨ga,0,none⟩) n f5)) (fun _ _=>trivial),Kd.S_mono (Kd.S_far (p:=⟨du,2,none⟩) (Kd.S_far (p:=⟨du,1,none⟩) (Kd.S_far (p:=⟨du,0,none⟩) n1_.out (fun _ hk=>hk.2) (.slice B0 (Jn em (n:Int)).f0.length b0)) (fun _ hk=>hk.2) (.slice B1 (Jn em (n:Int)).f1.length b1)) (fun _ hk=>hk.2) (.slice (some ⟨ga,0,none⟩) n f5)) (fun _ hk=>hk.1.1),Kd.Q_mono (Kd.Q_far (p:=⟨du,2,none⟩) (Kd.Q_far (p:=⟨du,1,none⟩) (Kd.Q_far (p:=⟨du,0,none⟩) n2_.out (fun _ hk=>hk.2) (.slice B0 (Jn em (n:Int)).f0.length b0)) (fun _ hk=>hk.2) (.slice B1 (Jn em (n:Int)).f1.length b1)) (fun _ hk=>hk.2) (.slice (some ⟨ga,0,none⟩) n f5)) (fun _ hk=>hk.1.1),by refine Jc ?_ cr8.out;refine Jc ?_ cr8.out;refine Jc ?_ cr8.out;exact n5_.out⟩
def Gy.f (k:Nat) (ab:List Int) (aa:List (List Int)) (ai:List (S25)) (aq:Int) (am:Int) (an:Int) (ao:Int):Option (List Int × (List (List Int)) × (List (S25)) × Bool):=if (aq == 4 && (am == 0 && (an == 0 && (ao == 0))))=true/\0 < ai.length then((Fv.f k ab aa ai).bind fun t=>if t=true then((Fm.f k ab aa ai).bind fun b=>if 0 < b.2.2.length/\b.2.2.length < 2932031007402 then some ((Jn b.2.2 ((b.2.2.length - 1:Nat):Int)).f0,(Jn b.2.2 ((b.2.2.length - 1:Nat):Int)).f1,b.2.2.take (b.2.2.length - 1),true) else none) else some (([]:List Int),([]:List (List Int)),([]:List (S25)),false)) else Gl.f k ab aa ai aq am an ao
theorem Gy.calls (k:Nat) (ae:Option Addr) (ac:Nat) (ab:List Int) (ag:Option Addr) (af:Nat) (aa:List (List Int)) (av:Option Addr) (au:Nat) (ai:List (S25)) (aq:Int) (am:Int) (an:Int) (ao:Int) (r1:List Int) (r2:List (List Int)) (r3:List (S25)) (r4:Bool) (w:World) (ca:Kd.C (Kd.int .i64) w ae ab.length ab) (ce:ab.length<=ac) (cb:Kd.C (Kd.slice 3 (Kd.int .i64)) w ag aa.length aa) (cg:aa.length<=af) (g8:Kd.C k25 w av ai.length ai) (g9:ai.length<=au) (h:Gy.f k ab aa ai aq am an ao=some (r1,r2,r3,r4)) :
  Calls Try.prog 54 #[.agg #[.slice ae ab.length ac, .slice ag aa.length af, .slice av ai.length au], .agg #[.int .i64 aq, .int .i64 am, .int .i64 an, .int .i64 ao]] w fun e w'=>∃v0_ v1_ v2_:Value,e = .returned (.tuple #[.agg #[v0_,v1_,v2_], .bool r4])/\Kd.R (Kd.int .i64) 3 w' w.heap.size (fun _=>True) v0_ r1/\Kd.S (Kd.slice 3 (Kd.int .i64)) 22 w' w.heap.size (fun k_=>some k_≠(v0_:Value).ownBlock) v1_ r2/\Kd.Q k25 25 w' w.heap.size (fun k_=>some k_≠(v0_:Value).ownBlock/\some k_≠(v1_:Value).ownBlock) v2_ r3/\Below w.heap.size w w':=by
 unfold Gy.f at h
 by_cases hc:(aq == 4 && (am == 0 && (an == 0 && (ao == 0))))=true/\0 < ai.length
 case neg=>
  rw[if_neg hc] at h
  exact Gl.calls k ae ac ab ag af aa av au ai aq am an ao r1 r2 r3 r4 w ca ce cb cg g8 g9 h
 rw[if_pos hc] at h
 obtain⟨t,ht,h2⟩:=Option.bind_eq_some_iff.mp h
 have ha:aq=4/\am=0/\an=0/\ao=0:=by simpa using hc.1
 obtain⟨rfl,rfl,rfl,rfl⟩:=ha
 by_cases htt:t=true
 ·subst htt
  rw[if_pos rfl] at h2
  obtain⟨⟨b0,b1,b2⟩,hb,h3⟩:=Option.bind_eq_some_iff.mp h2
  by_cases h4:0 < b2.length/\b2.length < 2932031007402
  ·rw[if_pos h4] at h3
   have h5:=Option.some.inj h3
   simp only[Prod.mk.injEq] at h5
   obtain⟨rfl,rfl,rfl,rfl⟩:=h5
   exact Gy.back k ae ac ab ag af aa av au ai w ca ce cb cg g8 g9 b0 b1 b2 (b2.length - 1) ht hb (by omega) (by omega) hc.2
  rw[if_neg h4] at h3;cases h3
 rw[if_neg htt] at h2
 refine Gl.calls k ae ac ab ag af aa av au ai 4 0 0 0 r1 r2 r3 r4 w ca ce cb cg g8 g9 ?_
 unfold Gl.f
 rw[ht,Option.bind_some,if_neg htt]
 exact h2
end Go.Proofs.Ytfooakkhkehpiaa.PE
