/- FnExactDeskRun: for every input the law holds, and each argument reads as it read before. No condition. -/
import Derived.Test.YtfooakkhkehpiaaZFnExactDeskRun1
import Derived.Test.YtfooakkhkehpiaaZFnExactDeskRun2
import Derived.Test.YtfooakkhkehpiaaZFnExactDeskRun3
namespace Go.Proofs.Ytfooakkhkehpiaa.PE
open Go.RowKit Go.Proofs.YtfooakkhkehpiaaW.PrintWords Go.Proofs.YtfooakkhkehpiaaW.PrintLast Go.Proofs.YtfooakkhkehpiaaW.PrintMore Go.Proofs.Ytfooakkhkehpiaa.Qe
attribute [local go_sem] max2_int min2_int max_two min_two max_three min_three max_four min_four
set_option linter.unusedVariables false
set_option linter.unusedSimpArgs false
mutual
def Fl.l0:Nat->Int->List Int->List (List Int)->List Int->List (List Int)->Option (List Int × (List (List Int)))
 | 0,_,_,_,_,_=>none
 | k + 1,x4,dz5,ah4,dz6,bo7=>if x4 < (dz5.length:Int) then(Fl.l1 k x4 0 dz5 ah4 dz6 bo7) else(some (dz6,bo7))
def Fl.l1:Nat->Int->Int->List Int->List (List Int)->List Int->List (List Int)->Option (List Int × (List (List Int)))
 | 0,_,_,_,_,_,_=>none
 | k + 1,x4,x5,dz5,ah4,dz6,bo7=>if x5 < x4 then(if 0<=x4 then(if x4 < (ah4.length:Int) then(if 0<=x5 then(if x5 < ((Jr ah4 x4).length:Int) then(if x5 < (ah4.length:Int) then(if x4 < ((Jr ah4 x5).length:Int) then(if x4 < (bo7.length:Int) then(if x5 < ((Jr bo7 x4).length:Int) then((some (bo7.set (x4:Int).toNat ((Jr bo7 x4).set (x5:Int).toNat (wrap64 ((rd (Jr ah4 x4) x5) - (mn (rd (Jr ah4 x4) x5) (rd (Jr ah4 x5) x4))))):List (List Int))).bind fun qa=>(if x5 < (bo7.length:Int) then(if x4 < ((Jr qa x5).length:Int) then(Fl.l1 k x4 (wrap64 (x5 + 1)) dz5 ah4 dz6 (qa.set (x5:Int).toNat ((Jr qa x5).set (x4:Int).toNat (wrap64 ((rd (Jr ah4 x5) x4) - (mn (rd (Jr ah4 x4) x5) (rd (Jr ah4 x5) x4))))))) else(none)) else(none))) else(none)) else(none)) else(none)) else(none)) else(none)) else(none)) else(none)) else(none)) else(Fl.l0 k (wrap64 (x4 + 1)) dz5 ah4 dz6 bo7)
end
def Fl.f (k:Nat) (ab:List Int) (aa:List (List Int)):Option (List Int × (List (List Int))):=(Fh.f k ab aa).bind fun dz7=>(if dz7=true then((Fs.f k ab aa).bind fun bt232=>(Fl.l0 k 0 ab aa bt232.1 bt232.2)) else(some (([]:List Int),([]:List (List Int)))))
def Fl.T10:Bool × List (List Nat × List Nat):=(true,[([],[]),([0],[0]),([],[]),([1,2],[1,2]),([3],[3]),([],[]),([4,5],[4,5]),([6],[6]),([],[]),([8],[8]),([],[]),([9,10],[9,10]),([11],[11]),([],[]),([12,13],[12,13]),([14],[14]),([7,15],[7,15]),([16,0,1,2,3,4,5,6,7,8,9,10,11,12,13,14,15,16],[16])])
def Fl.B10:List Nat:=[0,1,0,7,15,0,63,127,0,256,0,1792,3840,0,16128,32512,65535,131071]
theorem Fl.tab10:rtab .any (opsOf Try.f41 10)=Fl.T10:=by kernel_rfl
theorem Fl.bits10:waitsOk Fl.T10.2 Fl.B10=true:=by kernel_rfl
def Fl.T11:Bool × List (List Nat × List Nat):=(true,[([],[]),([0],[0]),([],[]),([1,2],[1,2]),([3],[3]),([],[]),([],[]),([6],[6]),([],[]),([7,8],[7,8]),([9],[9]),([],[]),([10,11],[10,11]),([12],[12]),([],[]),([13,14],[13,14]),([4,5,0,1,2,3,4,5,6,7,8,9,10,11,12,13,14,15],[4,5]),([16,15,0,1,2,3,4,5,6,7,8,9,10,11,12,13,14,15],[15,16])])
def Fl.B11:List Nat:=[0,1,0,7,15,0,0,64,0,448,960,0,4032,8128,0,32704,65535,131071]
theorem Fl.tab11:rtab .any (opsOf Try.f41 11)=Fl.T11:=by kernel_rfl
theorem Fl.bits11:waitsOk Fl.T11.2 Fl.B11=true:=by kernel_rfl
def Fl.T12:Bool × List (List Nat × List Nat):=(true,[([],[]),([0],[0]),([],[]),([1,2],[1,2]),([3],[3]),([],[]),([],[]),([6],[6]),([],[]),([7,8],[7,8]),([9],[9]),([],[]),([10,11],[10,11]),([12],[12]),([],[]),([13,14],[13,14]),([4,5,0,1,2,3,4,5,6,7,8,9,10,11,12,13,14,15],[4,5]),([16,15,0,1,2,3,4,5,6,7,8,9,10,11,12,13,14,15],[15,16])])
def Fl.B12:List Nat:=[0,1,0,7,15,0,0,64,0,448,960,0,4032,8128,0,32704,65535,131071]
theorem Fl.tab12:rtab .any (opsOf Try.f41 12)=Fl.T12:=by kernel_rfl
theorem Fl.bits12:waitsOk Fl.T12.2 Fl.B12=true:=by kernel_rfl
theorem xd {p:Prop} (h:p:=by repeat(first|(with_reducible first|exact HB.out|apply Jk|apply Jj|apply Ji|refine Jh ?_ hy4.out|refine Jh ?_ hy5.out|refine Jh ?_ kg3.out|refine Jh ?_ GB32.out|refine Jh ?_ GB35.out)|exact HB.out)):p:=h
set_option maxHeartbeats 8000000 in
set_option maxRecDepth 100000 in
theorem Fl.calls (k:Nat) (af:Option Addr) (ac:Nat) (ab:List Int) (ah:Option Addr) (ag:Nat) (aa:List (List Int)) (r1:List Int) (r2:List (List Int)) (w:World) (cb:Kd.C (Kd.int .i64) w af ab.length ab) (cg:ab.length<=ac) (cc:Kd.C (Kd.slice 3 (Kd.int .i64)) w ah aa.length aa) (ch:aa.length<=ag) (h:Fl.f k ab aa=some (r1,r2)) :
  Calls Try.prog 41 #[.agg #[.slice af ab.length ac, .slice ah aa.length ag]] w fun e w'=>∃v0_ v1_:Value,e = .returned (.agg #[v0_,v1_])/\Kd.R (Kd.int .i64) 3 w' w.heap.size (fun _=>True) v0_ r1/\Kd.S (Kd.slice 3 (Kd.int .i64)) 22 w' w.heap.size (fun k_=>some k_≠(v0_:Value).ownBlock) v1_ r2/\Below w.heap.size w w':=by
 have hu25:=Try.underlying25
 have bg:=A_ cb
 have bw:=A_ cg
 clear cb cg
 have bd:=A_ cc
 have b4:=A_ ch
 clear cc ch
 have HB:=A_ (Below.refl w.heap.size w)
 have H:=h
 unfold Fl.f at H
 clear h
 obtain⟨dz7,A2,H⟩:=bind_ H
 by_cases c3:dz7=true
 case neg=>
  replace c3:=Bool.eq_false_iff.mpr c3
  subst c3
  replace H:=ifn_ H
  simp only[Option.some.injEq,Prod.mk.injEq] at H
  obtain⟨rfl,rfl⟩:=H
  go_enter Try.func41,Try.ntmps41
  go_wp2_with (first|((with_reducible refine gd_ 1 ?_);refine bx_ (N:=1) #[.slice af ab.length ac, .slice ah aa.length ag] 25 ?_;intro ru hg j5 hbox hb;have jn:=A_ (hbox);have kg4:=A_ ((g35_:w.heap.size<=ru));have hy4:=kg4;replace HB:=hs_ (xd) hb;clear hb hbox hg)|((with_reducible refine gd_ 2 ?_);refine bx_ (N:=2) #[.slice none 0 0, .slice none 0 0] 25 ?_;intro rv hg w54 hbox hb;have la:=A_ (hbox);have kg5:=A_ ((g35_:w.heap.size<=rv));have hy5:=kg5;replace HB:=hs_ (xd) hb;have dz9:=nl_ jn hg;have ea0:=nr_ jn hg;replace jn:=bb_ jn hb;clear hb hbox hg;have kk5:=dz9.out;have kk6:=ea0.out;obtain⟨ge8,ge9,gf0,gf1⟩:=blk2_ jn)|((with_reducible refine gc_ 42 ?_);refine gl_ 8 Try.func42 #[.agg #[.slice af ab.length ac, .slice ah aa.length ag]] ?_;(refine(Fh.calls k _ _ ab _ _ aa false _ (uC_ bg) bw.out (uC_ bd) b4.out A2.out).mono ?_);rintro e w57 ⟨rfl,hb⟩;refine⟨_,rfl,?_⟩;replace jn:=bb_ jn hb;replace la:=bb_ la hb;replace HB:=hs_ (xd) hb;obtain⟨ib8,ib9,ic0,ic1⟩:=blk2_ la))
  refine bodyPost_ret (results_cell_row rfl _ _ rv 25 #[.slice none 0 0, .slice none 0 0] (0,0) _ rfl (ba_ la) Try.underlying25 rfl (g1_)) rfl ?_
  exact⟨_,_,g4_,g34_,g41_,xd⟩
 subst c3
 replace H:=ifp_ H
 replace H:=Option.bind_eq_some_iff.mp H
 obtain⟨⟨dd8,dz8⟩,A40,H⟩:=H
 try dsimp only at H
 have A4:=A_ A40
 clear A40
 have H':=A_ H
 clear H
 go_enter Try.func41,Try.ntmps41
 go_wp2_with (first|((with_reducible refine gd_ 1 ?_);refine bx_ (N:=1) #[.slice af ab.length ac, .slice ah aa.length ag] 25 ?_;intro ru hg w5 hbox hb;have jn:=A_ (hbox);have kg4:=A_ ((g35_:w.heap.size<=ru));have hy4:=kg4;replace HB:=hs_ (xd) hb;clear hb hbox hg)|((with_reducible refine gd_ 2 ?_);refine bx_ (N:=2) #[.slice none 0 0, .slice none 0 0] 25 ?_;intro rv hg w6 hbox hb;have la:=A_ (hbox);have kg5:=A_ ((g35_:w.heap.size<=rv));have hy5:=kg5;replace HB:=hs_ (xd) hb;have dz9:=nl_ jn hg;have ea0:=nr_ jn hg;replace jn:=bb_ jn hb;clear hb hbox hg;have dc0:=dz9.out;have dc1:=ea0.out;obtain⟨bg3,bg4,bg5,bg6⟩:=blk2_ jn)|((with_reducible refine gc_ 42 ?_);refine gl_ 8 Try.func42 #[.agg #[.slice af ab.length ac, .slice ah aa.length ag]] ?_;(refine(Fh.calls k _ _ ab _ _ aa true _ (uC_ bg) bw.out (uC_ bd) b4.out A2.out).mono ?_);rintro e w9 ⟨rfl,hb⟩;refine⟨_,rfl,?_⟩;replace jn:=bb_ jn hb;replace la:=bb_ la hb;replace HB:=hs_ (xd) hb;obtain⟨yo,yp,yq,yr⟩:=blk2_ jn)|((with_reducible refine gc_ 80 ?_);refine gl_ 12 Try.func80 #[.agg #[.slice af ab.length ac, .slice ah aa.length ag]] ?_;(refine(Fs.calls k _ _ ab _ _ aa dd8 dz8 _ (uC_ bg) bw.out (uC_ bd) b4.out A4.out).mono ?_);rintro e g8 ⟨nl8,nl9,rfl,ai,ak,hb⟩;refine⟨_,rfl,?_⟩;have ew2:=A_ (Kd.R_lower ai (Je (xd)));have ew3:=A_ (Kd.S_lower ak (Je (xd)));replace jn:=bb_ jn hb;replace la:=bb_ la hb;replace HB:=hs_ (xd) hb)|((with_reducible refine gd_ 3 ?_);refine bx_ (N:=3) #[.slice none 0 0, .slice none 0 0] 25 ?_;intro xl hg uf hbox hb;replace ew2:=rb_ ew2 hb;replace ew3:=sb_ ew3 hb;have ot:=A_ (hbox);have nm0:=A_ ((g35_:w.heap.size<=xl));have kg3:=nm0;replace HB:=hs_ (xd) hb;have ea1:=nl_ jn hg;have gc4:=nr_ jn hg;replace jn:=bb_ jn hb;have ew4:=nl_ la hg;have hy6:=nr_ la hg;replace la:=bb_ la hb;clear hb hbox hg;obtain⟨jg,gx,bo8⟩:=Kd.R_slice ew2.out;subst bo8;have dp7:=gc4.out;have dp8:=ea1.out;have dd9:=hy6.out;have de0:=ew4.out;obtain⟨af1,af2,af3,af4⟩:=blk2_ ot;obtain⟨f5,f6,ay8⟩:=Kd.S_slice ew3.out;subst ay8))
 go_loopg [4] k (fun kq v4 w'=>∃(ar:Int) (ca9:List Int) (cn9:List (List Int)) (xm:Value) (bo9:Value),v4 = .int .i64 ar/\Jc (Fl.l0 kq ar ab aa ca9 cn9=some (r1,r2))/\Jc (kq<=k)/\Jc (Kd.R (Kd.int .i64) 3 w' w.heap.size (fun _=>True) xm ca9)/\Jc (Kd.S (Kd.slice 3 (Kd.int .i64)) 22 w' w.heap.size (fun k_=>some k_≠(xm:Value).ownBlock) bo9 cn9)/\Jc (hc_ w' ru #[(.slice af ab.length ac),(.slice ah aa.length ag)] 25)/\Jc (hc_ w' rv #[(.slice none 0 0),(.slice none 0 0)] 25)/\Jc (hc_ w' xl #[xm,bo9] 25)/\Jc (Below w.heap.size w w'))
 case atStart=>exact⟨(0),(dd8),(dz8),(.slice jg dd8.length gx),(.slice f5 dz8.length f6),(g3_),H',⟨Nat.le_refl _⟩,⟨ra_ ew2⟩,⟨sa_ ew3⟩,⟨ba_ jn⟩,⟨ba_ la⟩,⟨ba_ ot⟩,⟨xd⟩⟩
 clear H'
 obtain⟨ar,ca9,cn9,xm,bo9,rfl,HA,HK1,wf,nh,jn,la,ot,HB⟩:=hrel
 cases gk with
 | zero=>exact absurd HA.out (by simp[Fl.l0])
 | succ k1=>?_
 have H:=HA.out
 clear HA
 simp only[Fl.l0] at H
 by_cases jz:ar < (ab.length:Int)
 case neg=>
  rw[if_neg jz] at H
  have bh2:=decide_eq_false jz
  clear jz
  simp only[Option.some.injEq,Prod.mk.injEq] at H
  obtain⟨rfl,rfl⟩:=H
  have ea3:=dz9.out
  have ea4:=ea0.out
  have ge5:=ea1.out
  have ge6:=gc4.out
  obtain⟨ey0,ey1,ey2,ey3⟩:=blk2_ jn
  have ib2:=hy6.out
  have ib3:=ew4.out
  obtain⟨ib4,ib5,ib6,ib7⟩:=blk2_ ot
  obtain⟨ar0,ar1,ea5⟩:=Kd.R_slice wf.out
  subst ea5
  obtain⟨ea6,ea7,ea8,ea9⟩:=blk2_ la
  obtain⟨ov,ow,ge7⟩:=Kd.S_slice nh.out
  subst ge7
  go_wp2
  refine bodyPost_ret (results_cell_row rfl _ _ rv 25 #[.slice ar0 ca9.length ar1, .slice ov cn9.length ow] (0,0) _ rfl (ba_ la) Try.underlying25 rfl (g1_)) rfl ?_
  exact⟨_,_,g4_,ra_ wf,sa_ nh,xd⟩
 rw[if_pos jz] at H
 have bh2:=decide_eq_true jz
 clear jz
 have H':=A_ H
 clear H
 have bx0:=dz9.out
 have bx1:=ea0.out
 have dc8:=ea1.out
 have dc9:=gc4.out
 obtain⟨uh,ui,uj,uk⟩:=blk2_ jn
 go_wp2
 go_loopg [5] k1 (fun kq v5 w'=>∃(cv:Int) (az8:List Int) (n4:List (List Int)) (xm:Value) (bo9:Value),v5 = .int .i64 cv/\Jc (Fl.l1 kq ar cv ab aa az8 n4=some (r1,r2))/\Jc (kq<=k1)/\Jc (Kd.R (Kd.int .i64) 3 w' w.heap.size (fun _=>True) xm az8)/\Jc (Kd.S (Kd.slice 3 (Kd.int .i64)) 22 w' w.heap.size (fun k_=>some k_≠(xm:Value).ownBlock) bo9 n4)/\Jc (hc_ w' ru #[(.slice af ab.length ac),(.slice ah aa.length ag)] 25)/\Jc (hc_ w' rv #[(.slice none 0 0),(.slice none 0 0)] 25)/\Jc (hc_ w' xl #[xm,bo9] 25)/\Jc (Below w.heap.size w w'))
 case atStart=>exact⟨(0),(ca9),(cn9),(xm),(bo9),(g3_),H',⟨Nat.le_refl _⟩,⟨uR_ wf⟩,⟨uS_ nh⟩,⟨uB_ jn⟩,⟨uB_ la⟩,⟨uB_ ot⟩,⟨xd⟩⟩
 clear H'
 obtain⟨cv,az8,n4,xm,bo9,rfl,HA,HK2,wf,nh,jn,la,ot,HB⟩:=hrel
 cases gk with
 | zero=>exact absurd HA.out (by simp[Fl.l1])
 | succ k2=>?_
 have H:=HA.out
 clear HA
 simp only[Fl.l1] at H
 by_cases lf:cv < ar
 case neg=>
  rw[if_neg lf] at H
  have ay9:=decide_eq_false lf
  clear lf
  have H':=A_ H
  clear H
  go_wp2
  go_roundg k2
  case measure=>have:=HK1.out;have:=HK2.out;omega
  case rel=>exact⟨(wrap64 (ar + 1)),(az8),(n4),(xm),(bo9),(g3_),H',⟨g42_⟩,⟨uR_ wf⟩,⟨uS_ nh⟩,⟨uB_ jn⟩,⟨uB_ la⟩,⟨uB_ ot⟩,⟨xd⟩⟩
 rw[if_pos lf] at H
 have ay9:=decide_eq_true lf
 clear lf
 obtain⟨bn7,H⟩:=pd_ H
 obtain⟨yw,H⟩:=pd_ H
 obtain⟨bg1,H⟩:=pd_ H
 obtain⟨co0,H⟩:=pd_ H
 obtain⟨cb0,H⟩:=pd_ H
 obtain⟨bp0,H⟩:=pd_ H
 obtain⟨ji29,hji29⟩:∃j_:Int,(mn (rd (Jr aa ar) cv) (rd (Jr aa cv) ar))=j_:=⟨_,rfl⟩
 first|rw[hji29] at H|simp only[hji29] at H
 have hji29_:(if (rd (Jr aa cv) ar) < (rd (Jr aa ar) cv) then(rd (Jr aa cv) ar) else(rd (Jr aa ar) cv))=ji29:=hji29
 obtain⟨de1,H⟩:=pd_ H
 obtain⟨ea2,H⟩:=pd_ H
 obtain⟨gc5,hyq⟩:∃y_:List Int,y_=((Jr n4 ar).set (cv:Int).toNat (wrap64 ((rd (Jr aa ar) cv) - (ji29)))):=⟨_,rfl⟩
 replace H:((some (n4.set (ar:Int).toNat gc5:List (List Int))).bind fun qa=>(if cv < (n4.length:Int) then(if ar < ((Jr qa cv).length:Int) then(Fl.l1 k2 ar (wrap64 (cv + 1)) ab aa az8 (qa.set (cv:Int).toNat ((Jr qa cv).set (ar:Int).toNat (wrap64 ((rd (Jr aa cv) ar) - (ji29)))))) else(none)) else(none)))=some (r1,r2):=qh_
 have kg6:=A_ hyq
 clear hyq
 obtain⟨qa,hyq⟩:∃y_:List (List Int),y_=(n4.set (ar:Int).toNat gc5):=⟨_,rfl⟩
 replace H:(if cv < (n4.length:Int) then(if ar < ((Jr qa cv).length:Int) then(Fl.l1 k2 ar (wrap64 (cv + 1)) ab aa az8 (qa.set (cv:Int).toNat ((Jr qa cv).set (ar:Int).toNat (wrap64 ((rd (Jr aa cv) ar) - (ji29)))))) else(none)) else(none))=some (r1,r2):=qh_
 have gc6:=A_ hyq
 clear hyq
 obtain⟨ew5,H⟩:=pd_ H
 obtain⟨gc7,H⟩:=pd_ H
 obtain⟨gc8,hyq⟩:∃y_:List Int,y_=((Jr qa cv).set (ar:Int).toNat (wrap64 ((rd (Jr aa cv) ar) - (ji29)))):=⟨_,rfl⟩
 replace H:(Fl.l1 k2 ar (wrap64 (cv + 1)) ab aa az8 (qa.set (cv:Int).toNat gc8))=some (r1,r2):=qh_
 have kg7:=A_ hyq
 clear hyq
 obtain⟨hy7,hyq⟩:∃y_:List (List Int),y_=(qa.set (cv:Int).toNat gc8):=⟨_,rfl⟩
 replace H:(Fl.l1 k2 ar (wrap64 (cv + 1)) ab aa az8 hy7)=some (r1,r2):=qh_
 have kg8:=A_ hyq
 clear hyq
 have H':=A_ H
 clear H
 try go_wp2
 replace wf:=rd_ wf
 replace nh:=sd_ nh
 replace jn:=bd_ jn
 replace la:=bd_ la
 replace ot:=bd_ ot
 replace HB:=A_ (Ji HB.out)
 obtain⟨⟨az9,nm1,kg9,kh0,ew6,hy8,hy9⟩,gc9,gd0⟩:=rdp_ (at_L1 bd.out ar)
 have kh1:=ew6
 cases kh0
 replace ew6:=cl_ HB ew6
 have hz1:=A_ hy9
 have nm2:=A_ hy8
 clear hy9 hy8
 obtain⟨⟨hz2,kh2,ew7⟩,gd1,gd2⟩:=rdp_ (Kd.at_int hz1.out cv)
 have kh3:=ew7
 cases kh2
 replace ew7:=cl_ HB ew7
 obtain⟨⟨kh4,nm3,kh5,kh6,ew8,hz3,hz4⟩,gd3,gd4⟩:=rdp_ (at_L1 bd.out cv)
 have kh7:=ew8
 obtain rfl:az9=kh4:=(by injection kh6)
 replace ew8:=cl_ HB ew8
 have hz5:=A_ hz4
 have nm4:=A_ hz3
 clear hz4 hz3
 obtain⟨⟨hz6,kh8,ew9⟩,gd5,gd6⟩:=rdp_ (Kd.at_int hz5.out ar)
 have kh9:=ew9
 cases kh8
 replace ew9:=cl_ HB ew9
 refine start_ (n:=18) (S:=fun w'=>w'.cell? ⟨ru,0,none⟩=some (.slice af ab.length ac)/\w'.cell? ⟨ru,1,none⟩=some (.slice (some az9) aa.length ag)/\w'.cell? (az9.add (ar).toNat)=some (.slice (some hz2) (Jr aa ar).length kg9)/\w'.cell? (hz2.add (cv).toNat)=some (.int .i64 (rd (Jr aa ar) cv))/\w'.cell? (az9.add (cv).toNat)=some (.slice (some hz6) (Jr aa cv).length kh5)/\w'.cell? (hz6.add (ar).toNat)=some (.int .i64 (rd (Jr aa cv) ar))) (ds:=[]) (tl_ 18 0) (g1_) rfl (g1_) ⟨(Jd jn.out 0).trans rfl,(Jd jn.out 1).trans rfl,((cl_ HB kh1).trans rfl),((cl_ HB kh3).trans rfl),((cl_ HB kh7).trans rfl),((cl_ HB kh9).trans rfl)⟩ (fun hHeld=>?_);refine Jx Fl.tab10 Fl.bits10 (fun HT_ HW_=>?_)
 generalize wr.drew=kt at wf nh jn la ot HB hz1 hz5 ew6 ew7 ew8 ew9 hHeld |-
 refine pw_ 0 25 (tl_ 18 1) ?_
 refine pw_ 2 27 (tl_ 18 5) ?_
 refine pw_ 5 30 (tl_ 18 37) ?_
 refine pw_ 8 33 (tl_ 18 293) ?_
 refine pw_ 10 35 (tl_ 18 1317) ?_
 refine pw_ 13 38 (tl_ 18 9509) ?_
 refine tk1_ 1 26 (tl_ 18 9511) hHeld ?_
 refine pw_ 3 28 (tl_ 18 9519) ?_
 refine tk1_ 4 29 (tl_ 18 9535) hHeld ?_
 refine pw_ 6 31 (tl_ 18 9599) ?_
 refine tk1_ 7 32 (tl_ 18 9727) hHeld ?_
 refine tk1_ 9 34 (tl_ 18 10239) hHeld ?_
 refine pw_ 11 36 (tl_ 18 12287) ?_
 refine tk1_ 12 37 (tl_ 18 16383) hHeld ?_
 refine pw_ 14 39 (tl_ 18 32767) ?_
 refine tk1_ 15 40 (tl_ 18 65535) hHeld ?_
 refine pw_ 16 41 (tl_ 18 131071) ?_
 refine pw_ 17 6 (tl_ 18 262143) ?_
 refine done_ (done_of HT_.out (g1_)) ?_
 try go_wp2
 replace wf:=rd_ wf
 replace nh:=sd_ nh
 replace jn:=bd_ jn
 replace la:=bd_ la
 replace ot:=bd_ ot
 replace HB:=A_ (Ji HB.out)
 obtain⟨k5,jr,aq9⟩:=Kd.S_slice nh.out
 (first|subst aq9|(injection aq9 with f1_ f2_ f3_;have f4_:=f1_.symm;have f5_:=f3_.symm;clear f1_ f2_ f3_;subst f4_;subst f5_))
 have ex0:0<=(ar:Int):=od_
 have ex1:ar < (n4.length:Int):=od_
 obtain⟨cb1,nm5,ki0,ki1,ex2,hz7,hz8⟩:=at_L1 (Kd.S_reads' nh.out).2.2 ar ex0 ex1
 cases ki1
 obtain⟨ce243,hce243,hMe243,hcc243⟩:=Kd.S_get nh.out [] ar ex0 (by first|exact ex1|exact od_|(have e_:=(Kd.S_reads' nh.out).1;omega))
 obtain⟨ve243_0,rfl,ge243_0⟩:=hMe243
 have hv243_0:=hcc243 0 _ rfl
 rw[Nat.add_zero,show((Kd.slice 3 (Kd.int .i64))).sz=1 from rfl,Nat.mul_one] at hv243_0
 replace hv243_0:=Option.some.inj (hv243_0.symm.trans ex2)
 rw[hv243_0] at ge243_0
 have co1:=A_ (show Kd.R (Kd.int .i64) 3 _ _ _ _ (Jr n4 ar) from ge243_0)
 clear hv243_0 ge243_0
 have HX243_0:=A_ ex2
 clear hcc243 hce243
 have ki2:=A_ hz8
 have nm6:=A_ hz7
 clear hz8 hz7
 replace ex0:=eq_true ex0
 replace ex1:=eq_true ex1
 obtain⟨⟨ki3,nm7,ki4,ki5,ex3,hz9,ia0⟩,gd7,gd8⟩:=rdp_ (at_L1 bd.out ar)
 have ki6:=ex3
 obtain rfl:az9=ki3:=(by injection ki5)
 replace ex3:=cl_ HB ex3
 have ia1:=A_ ia0
 have nm8:=A_ hz9
 clear ia0 hz9
 obtain⟨⟨ia2,ki7,ex4⟩,gd9,ge0⟩:=rdp_ (Kd.at_int ia1.out cv)
 have ki8:=ex4
 cases ki7
 replace ex4:=cl_ HB ex4
 have p32:0<=(cv:Int):=od_
 have q32:(cv:Int) < (((Jr n4 ar).length:Int):Int):=od_
 obtain⟨bp1,bl,bh3,ia3,gl32,cl32,HG32⟩:=Kd.R_form co1.out (by omega)
 (first|cases bh3|(injection bh3 with ea_ en_ ec_;(first|subst ea_|(injection ea_ with ea_;subst ea_));subst ec_;clear en_))
 have GB32:=A_ ia3
 have GG32:=A_ HG32
 clear ia3 gl32 HG32
 obtain⟨ki9,hf32_0⟩:=Kd.R_celln 0 co1.out (cv:Int) p32 q32
 replace p32:=eq_true p32
 replace q32:=eq_true q32
 have hq39:(ar:Int) < (n4.length:Int):=(by have h_:(ar:Int) < ((n4.length:Int):Int):=od_;first|exact h_|(have e_:=(Kd.S_reads' nh.out).1;omega)|simpa only[List.length_set,List.length_set] using h_)
 obtain⟨oki39,ce39,hcl39,hM39,hcc39,hok39,hbk39⟩:=Kd.S_borrow nh.out [] (ar:Int) (od_) (by first|exact hq39|exact od_|(have e_:=(Kd.S_reads' nh.out).1;omega))
 obtain⟨ve39_0,rfl,ge39_0⟩:=hM39
 have hv39:=hcc39 0 _ rfl
 rw[Nat.add_zero,show((Kd.slice 3 (Kd.int .i64))).sz=1 from rfl,Nat.mul_one] at hv39
 replace hv39:=Option.some.inj (hv39.symm.trans HX243_0.out)
 subst hv39
 clear hcc39 hcl39
 replace ge39_0:=(show Kd.R (Kd.int .i64) 3 _ _ _ _ (Jr n4 ar) from ge39_0)
 have HP39:=Kd.R_putg ge39_0 (cv:Int) (wrap64 ((rd (Jr aa ar) cv) - (ji29)))
 rw[<- kg6.out] at HP39
 have HS39:=hbk39 HP39.2 (fun k_ e_=>by injection e_ with e_;subst e_;exact ge39_0.1 _ rfl) (x':=gc5) (Kd.M_row HP39.1)
 rw[<- gc6.out] at HS39
 have HQ39:=A_ HS39
 clear HP39 HS39 hbk39 hok39
 refine start_ (n:=18) (S:=fun w'=>w'.cell? ⟨xl,0,none⟩=some (xm)/\w'.cell? ⟨xl,1,none⟩=some (.slice (some cb1) n4.length jr)/\w'.cell? ⟨ru,0,none⟩=some (.slice af ab.length ac)/\w'.cell? ⟨ru,1,none⟩=some (.slice (some az9) aa.length ag)/\w'.cell? (cb1.add (ar).toNat)=some (.slice (some ⟨bp1,0,none⟩) (Jr n4 ar).length ki0)/\w'.cell? (az9.add (ar).toNat)=some (.slice (some ia2) (Jr aa ar).length ki4)/\w'.cell? (ia2.add (cv).toNat)=some (.int .i64 (rd (Jr aa ar) cv))) (ds:=[17]) (tl_ 18 0) (g1_) rfl (g1_) ⟨(Jd ot.out 0).trans rfl,(Jd ot.out 1).trans rfl,(Jd jn.out 0).trans rfl,(Jd jn.out 1).trans rfl,ex2,((cl_ HB ki6).trans rfl),((cl_ HB ki8).trans rfl)⟩ (fun hHeld=>?_);refine Jx Fl.tab11 Fl.bits11 (fun HT_ HW_=>?_)
 generalize kt.drew=tb at wf nh jn la ot HB GG32 co1 HQ39 ki2 ia1 HX243_0 hf32_0 ex2 ex3 ex4 ki9 hHeld |-
 refine pw_ 0 42 (tl_ 18 1) ?_
 refine pw_ 2 44 (tl_ 18 5) ?_
 refine pw_ 5 47 (tl_ 18 37) ?_
 refine pw_ 6 48 (tl_ 18 101) ?_
 refine pw_ 8 50 (tl_ 18 357) ?_
 refine pw_ 11 53 (tl_ 18 2405) ?_
 refine pw_ 14 56 (tl_ 18 18789) ?_
 refine tk3_ 1 43 (tl_ 18 18791) hHeld ?_
 refine pw_ 3 45 (tl_ 18 18799) ?_
 refine tk3_ 4 46 (tl_ 18 18815) hHeld ?_
 refine tk3_ 7 49 (tl_ 18 18943) hHeld ?_
 refine pw_ 9 51 (tl_ 18 19455) ?_
 refine tk3_ 10 52 (tl_ 18 20479) hHeld ?_
 refine pw_ 12 54 (tl_ 18 24575) ?_
 refine tk3_ 13 55 (tl_ 18 32767) hHeld ?_
 refine pw_ 15 57 (tl_ 18 65535) ?_
 refine pw_ 16 58 (tl_ 18 131071) ?_
 refine last_ (i:=17) (N:=none) (tl_ 18 262143) rfl rfl (Jz HT_.out (g1_)) (by decide) (fun K hK=>?_)
 refine skip_ (w1:=?_) (by rfl) rfl ?_ ?_
 rotate_left
 ·go_simp
  rfl
 refine hK.out _ _ ?_
 clear hK K
 refine done_ (done_of HT_.out (g1_)) ?_
 try go_wp2
 generalize hw_:(tb.setCell ⟨bp1,(cv:Int).toNat,none⟩ (.int .i64 (wrap64 ((rd (Jr aa ar) cv) - (ji29)))))=w41
 have n0_:Jc (Kd.R (Kd.int .i64) 3 w41 w.heap.size (fun _=>True) xm az8):=A_ (by rw[<- hw_];exact(by(with_reducible repeat(first|apply Kd.R_alloc|apply Kd.R_drewN|apply Kd.R_drew));exact Kd.R_mono (Kd.R_far (p:=⟨bp1,(cv:Int).toNat,none⟩) (Kd.R_far1 wf.out rfl ((co1.out.1 _ rfl).1)) (fun _ hk=>hk.2) (.int .i64 (wrap64 ((rd (Jr aa ar) cv) - (ji29))))) (fun _ hk=>trivial)))
 have n1_:Jc (Kd.S (Kd.slice 3 (Kd.int .i64)) 22 w41 w.heap.size (fun k_=>some k_≠(xm:Value).ownBlock) (.slice (some cb1) n4.length jr) qa):=A_ (by rw[<- hw_];exact uS_ HQ39)
 have n2_:Jc (hc_ w41 ru #[.slice af ab.length ac, .slice (some az9) aa.length ag] 25):=A_ (by rw[<- hw_];exact(by(with_reducible repeat(first|refine Jm ?_ _|refine Jn ?_|refine Jl ?_ _));refine Ju ?_ (by have h_:=Kd.R_ne co1.out jn.out (by decide);intro e_;exact h_ (g6_)) _;exact uB_ jn))
 have n3_:Jc (hc_ w41 rv #[.slice none 0 0, .slice none 0 0] 25):=A_ (by rw[<- hw_];exact(by(with_reducible repeat(first|refine Jm ?_ _|refine Jn ?_|refine Jl ?_ _));refine Ju ?_ (by have h_:=Kd.R_ne co1.out la.out (by decide);intro e_;exact h_ (g6_)) _;exact uB_ la))
 have n4_:Jc (hc_ w41 xl #[xm, .slice (some cb1) n4.length jr] 25):=A_ (by rw[<- hw_];exact(by(with_reducible repeat(first|refine Jm ?_ _|refine Jn ?_|refine Jl ?_ _));refine Ju ?_ (by have h_:=Kd.R_ne co1.out ot.out (by decide);intro e_;exact h_ (g6_)) _;exact uB_ ot))
 have n5_:Jc (Below w.heap.size w w41):=A_ (by rw[<- hw_];exact xd)
 clear hw_
 have wf:=n0_
 have nh:=n1_
 have jn:=n2_
 have la:=n3_
 have ot:=n4_
 have HB:=n5_
 clear n0_ n1_ n2_ n3_ n4_ n5_
 replace wf:=rd_ wf
 replace nh:=sd_ nh
 replace jn:=bd_ jn
 replace la:=bd_ la
 replace ot:=bd_ ot
 replace HB:=A_ (Ji HB.out)
 have ex5:0<=(cv:Int):=od_
 have ex6:cv < (qa.length:Int):=(by have h_:(cv:Int) < ((n4.length:Int):Int):=od_;first|(have e_:=(Kd.S_reads' nh.out).1;omega)|simpa only[gc6.out,List.length_set] using h_)
 have ql249:((cv:Int) < ((n4.length:Int):Int))=True:=eq_true (od_)
 obtain⟨kj0,nm9,kj4,kj6,ex7,ia4,ia5⟩:=at_L1 (Kd.S_reads' nh.out).2.2 cv ex5 ex6
 obtain rfl:cb1=kj0:=(by injection kj6)
 obtain⟨ce249,hce249,hMe249,hcc249⟩:=Kd.S_get nh.out [] cv ex5 (by first|exact ex6|exact od_|(have e_:=(Kd.S_reads' nh.out).1;omega))
 obtain⟨ve249_0,rfl,ge249_0⟩:=hMe249
 have hv249_0:=hcc249 0 _ rfl
 rw[Nat.add_zero,show((Kd.slice 3 (Kd.int .i64))).sz=1 from rfl,Nat.mul_one] at hv249_0
 replace hv249_0:=Option.some.inj (hv249_0.symm.trans ex7)
 rw[hv249_0] at ge249_0
 have co2:=A_ (show Kd.R (Kd.int .i64) 3 _ _ _ _ (Jr qa cv) from ge249_0)
 clear hv249_0 ge249_0
 have HX249_0:=A_ ex7
 clear hcc249 hce249
 have kj7:=A_ ia5
 have nn0:=A_ ia4
 clear ia5 ia4
 replace ex5:=eq_true ex5
 replace ex6:=eq_true ex6
 obtain⟨⟨kj8,nn1,kk0,kk1,ex8,ia6,ia7⟩,ge1,ge2⟩:=rdp_ (at_L1 bd.out cv)
 have kk2:=ex8
 obtain rfl:az9=kj8:=(by injection kk1)
 replace ex8:=cl_ HB ex8
 have ia8:=A_ ia7
 have nn2:=A_ ia6
 clear ia7 ia6
 obtain⟨⟨ia9,kk3,ex9⟩,ge3,ge4⟩:=rdp_ (Kd.at_int ia8.out ar)
 have kk4:=ex9
 cases kk3
 replace ex9:=cl_ HB ex9
 have p35:0<=(ar:Int):=od_
 have q35:(ar:Int) < (((Jr qa cv).length:Int):Int):=od_
 obtain⟨ib0,bk,ba0,ib1,gl35,cl35,HG35⟩:=Kd.R_form co2.out (by omega)
 (first|cases ba0|(injection ba0 with ea_ en_ ec_;(first|subst ea_|(injection ea_ with ea_;subst ea_));subst ec_;clear en_))
 have GB35:=A_ ib1
 have GG35:=A_ HG35
 clear ib1 gl35 HG35
 obtain⟨al9,hf35_0⟩:=Kd.R_celln 0 co2.out (ar:Int) p35 q35
 replace p35:=eq_true p35
 replace q35:=eq_true q35
 have hq43:(cv:Int) < (qa.length:Int):=(by have h_:(cv:Int) < ((n4.length:Int):Int):=od_;first|exact h_|(have e_:=(Kd.S_reads' nh.out).1;omega)|simpa only[gc6.out,List.length_set] using h_)
 obtain⟨oki43,ce43,hcl43,hM43,hcc43,hok43,hbk43⟩:=Kd.S_borrow nh.out [] (cv:Int) (od_) (by first|exact hq43|exact od_|(have e_:=(Kd.S_reads' nh.out).1;omega))
 obtain⟨ve43_0,rfl,ge43_0⟩:=hM43
 have hv43:=hcc43 0 _ rfl
 rw[Nat.add_zero,show((Kd.slice 3 (Kd.int .i64))).sz=1 from rfl,Nat.mul_one] at hv43
 replace hv43:=Option.some.inj (hv43.symm.trans HX249_0.out)
 subst hv43
 clear hcc43 hcl43
 replace ge43_0:=(show Kd.R (Kd.int .i64) 3 _ _ _ _ (Jr qa cv) from ge43_0)
 have HP43:=Kd.R_putg ge43_0 (ar:Int) (wrap64 ((rd (Jr aa cv) ar) - (ji29)))
 rw[<- kg7.out] at HP43
 have HS43:=hbk43 HP43.2 (fun k_ e_=>by injection e_ with e_;subst e_;exact ge43_0.1 _ rfl) (x':=gc8) (Kd.M_row HP43.1)
 rw[<- kg8.out] at HS43
 have HQ43:=A_ HS43
 clear HP43 HS43 hbk43 hok43
 refine start_ (n:=18) (S:=fun w'=>w'.cell? ⟨xl,0,none⟩=some (xm)/\w'.cell? ⟨xl,1,none⟩=some (.slice (some cb1) n4.length jr)/\w'.cell? ⟨ru,0,none⟩=some (.slice af ab.length ac)/\w'.cell? ⟨ru,1,none⟩=some (.slice (some az9) aa.length ag)/\w'.cell? (cb1.add (cv).toNat)=some (.slice (some ⟨ib0,0,none⟩) (Jr qa cv).length kj4)/\w'.cell? (az9.add (cv).toNat)=some (.slice (some ia9) (Jr aa cv).length kk0)/\w'.cell? (ia9.add (ar).toNat)=some (.int .i64 (rd (Jr aa cv) ar))) (ds:=[17]) (tl_ 18 0) (g1_) rfl (g1_) ⟨(Jd ot.out 0).trans rfl,(Jd ot.out 1).trans rfl,(Jd jn.out 0).trans rfl,(Jd jn.out 1).trans rfl,ex7,((cl_ HB kk2).trans rfl),((cl_ HB kk4).trans rfl)⟩ (fun hHeld=>?_);refine Jx Fl.tab12 Fl.bits12 (fun HT_ HW_=>?_)
 generalize w41.drew=w42 at wf nh jn la ot HB GG35 co2 HQ39 HQ43 kj7 ia8 HX249_0 hf35_0 ex7 ex8 ex9 al9 hHeld |-
 refine pw_ 0 59 (tl_ 18 1) ?_
 refine pw_ 2 61 (tl_ 18 5) ?_
 refine pw_ 5 64 (tl_ 18 37) ?_
 refine pw_ 6 65 (tl_ 18 101) ?_
 refine pw_ 8 67 (tl_ 18 357) ?_
 refine pw_ 11 70 (tl_ 18 2405) ?_
 refine pw_ 14 73 (tl_ 18 18789) ?_
 refine tk3_ 1 60 (tl_ 18 18791) hHeld ?_
 refine pw_ 3 62 (tl_ 18 18799) ?_
 refine tk3_ 4 63 (tl_ 18 18815) hHeld ?_
 refine tk3_ 7 66 (tl_ 18 18943) hHeld ?_
 refine pw_ 9 68 (tl_ 18 19455) ?_
 refine tk3_ 10 69 (tl_ 18 20479) hHeld ?_
 refine pw_ 12 71 (tl_ 18 24575) ?_
 refine tk3_ 13 72 (tl_ 18 32767) hHeld ?_
 refine pw_ 15 74 (tl_ 18 65535) ?_
 refine pw_ 16 75 (tl_ 18 131071) ?_
 refine last_ (i:=17) (N:=none) (tl_ 18 262143) rfl rfl (Jz HT_.out (g1_)) (by decide) (fun K hK=>?_)
 refine skip_ (w1:=?_) (by rfl) rfl ?_ ?_
 rotate_left
 ·go_simp
  rfl
 refine hK.out _ _ ?_
 clear hK K
 refine done_ (done_of HT_.out (g1_)) ?_
 try go_wp2
 go_roundg k2
 case measure=>have:=HK1.out;have:=HK2.out;omega
 case rel=>exact⟨(wrap64 (cv + 1)),(az8),(hy7),(xm),(.slice (some cb1) n4.length jr),(g3_),H',⟨g42_⟩,⟨by(with_reducible repeat(first|apply Kd.R_alloc|apply Kd.R_drewN|apply Kd.R_drew));exact Kd.R_mono (Kd.R_far (p:=⟨ib0,(ar:Int).toNat,none⟩) (Kd.R_far1 wf.out rfl ((co2.out.1 _ rfl).1)) (fun _ hk=>hk.2) (.int .i64 (wrap64 ((rd (Jr aa cv) ar) - (ji29))))) (fun _ hk=>trivial)⟩,⟨uS_ HQ43⟩,⟨by(with_reducible repeat(first|refine Jm ?_ _|refine Jn ?_|refine Jl ?_ _));refine Ju ?_ (by have h_:=Kd.R_ne co2.out jn.out (by decide);intro e_;exact h_ (g6_)) _;exact uB_ jn⟩,⟨by(with_reducible repeat(first|refine Jm ?_ _|refine Jn ?_|refine Jl ?_ _));refine Ju ?_ (by have h_:=Kd.R_ne co2.out la.out (by decide);intro e_;exact h_ (g6_)) _;exact uB_ la⟩,⟨by(with_reducible repeat(first|refine Jm ?_ _|refine Jn ?_|refine Jl ?_ _));refine Ju ?_ (by have h_:=Kd.R_ne co2.out ot.out (by decide);intro e_;exact h_ (g6_)) _;exact uB_ ot⟩,⟨xd⟩⟩
mutual
def Fa.j0:Nat->List Int->List (List Int)->Int->Bool->List Int->List (List Int)->Option ((List (List Int)))
 | 0,_,_,_,_,_,_=>none
 | k + 1,x1,x5,x6,x31,am0,ab6=>if x31=true then((some (([]:List Int):List Int)).bind fun cb2=>(if cb2.length + x1.length < 17592186044416 then((some (([(cb2 ++ x1)]:List (List Int)):List (List Int))).bind fun ah5=>(if x5.length + ah5.length < 5864062014805 then(Fa.j1 k x1 (x5 ++ ah5) x6 am0 ab6) else(none))) else(none))) else(Fa.j1 k x1 x5 x6 am0 ab6)
def Fa.j1:Nat->List Int->List (List Int)->Int->List Int->List (List Int)->Option ((List (List Int)))
 | 0,_,_,_,_,_=>none
 | k + 1,x1,x5,x6,am0,ab6=>if 0 < (x1.length:Int) then(Fa.l0 k x1 x5 x6 (wrap64 ((rd x1 0) + 1)) am0 ab6) else(none)
def Fa.l0:Nat->List Int->List (List Int)->Int->Int->List Int->List (List Int)->Option ((List (List Int)))
 | 0,_,_,_,_,_,_=>none
 | k + 1,x1,x5,x6,x7,am0,ab6=>if x7 < (am0.length:Int) then(if 0<=x6 then(if x6 < (ab6.length:Int) then(if 0<=x7 then(if x7 < ((Jr ab6 x6).length:Int) then(if (rd (Jr ab6 x6) x7)=0 then(Fa.l0 k x1 x5 x6 (wrap64 (x7 + 1)) am0 ab6) else(Fa.l1 k x1 x5 x6 x7 0 am0 ab6)) else(none)) else(none)) else(none)) else(none)) else(some x5)
def Fa.l1:Nat->List Int->List (List Int)->Int->Int->Int->List Int->List (List Int)->Option ((List (List Int)))
 | 0,_,_,_,_,_,_,_=>none
 | k + 1,x1,x5,x6,x7,x8,am0,ab6=>if x8 < (x1.length:Int) then(if 0<=x8 then(if (rd x1 x8)=x7 then(Fa.l0 k x1 x5 x6 (wrap64 (x7 + 1)) am0 ab6) else(Fa.l1 k x1 x5 x6 x7 (wrap64 (x8 + 1)) am0 ab6)) else(none)) else((some (([]:List Int):List Int)).bind fun bp2=>(if bp2.length + x1.length < 17592186044416 then((some (bp2 ++ x1:List Int)).bind fun ah6=>((some (([x7]:List Int):List Int)).bind fun rx=>(if ah6.length + rx.length < 17592186044416 then((Fa.f k am0 ab6 (ah6 ++ rx)).bind fun wg=>(if x5.length + wg.length < 5864062014805 then(Fa.l0 k x1 (x5 ++ wg) x6 (wrap64 (x7 + 1)) am0 ab6) else(none))) else(none)))) else(none)))
def Fa.f:Nat->List Int->List (List Int)->List Int->Option ((List (List Int)))
 | 0,_,_,_=>none
 | k + 1,ab,aa,l1=>(some (([]:List (List Int)):List (List Int))).bind fun ry=>(if 0<=(wrap64 ((l1.length:Int) - 1)) then(if (wrap64 ((l1.length:Int) - 1)) < (l1.length:Int) then(if (l1.length:Int) > 1 then(if 0<=(rd l1 (wrap64 ((l1.length:Int) - 1))) then(if (rd l1 (wrap64 ((l1.length:Int) - 1))) < (aa.length:Int) then(if 0 < (l1.length:Int) then(if 0<=(rd l1 0) then(if (rd l1 0) < ((Jr aa (rd l1 (wrap64 ((l1.length:Int) - 1)))).length:Int) then(Fa.j0 k l1 ry (rd l1 (wrap64 ((l1.length:Int) - 1))) (decide ((rd (Jr aa (rd l1 (wrap64 ((l1.length:Int) - 1)))) (rd l1 0)) > 0)) ab aa) else(none)) else(none)) else(none)) else(none)) else(none)) else(Fa.j0 k l1 ry (rd l1 (wrap64 ((l1.length:Int) - 1))) false ab aa)) else(none)) else(none))
end
def Fa.T3:Bool × List (List Nat × List Nat):=(true,[([],[]),([0],[0]),([1],[1]),([2],[2]),([3],[3]),([4,3],[3,4]),([3],[3]),([5,6,3],[3,5,6]),([7,3],[3,7]),([3],[3]),([9,3],[3,9]),([10,3],[3,10]),([8,11,3],[3,8,11]),([12,3],[3,12]),([13,3],[3,13]),([3,14],[3,14])])
def Fa.B3:List Nat:=[0,1,3,7,15,31,15,127,255,15,527,1551,4095,8191,16383,32767]
theorem Fa.tab3:rtab .any (opsOf Try.f113 3)=Fa.T3:=by kernel_rfl
theorem Fa.bits3:waitsOk Fa.T3.2 Fa.B3=true:=by kernel_rfl
def Fa.T13:Bool × List (List Nat × List Nat):=(true,[([],[]),([],[]),([],[]),([],[]),([2,3],[2,3]),([],[]),([5],[5]),([4,6,4],[4,6]),([1,7,7],[1,7]),([0,8,8],[0,8]),([9,9,0,1,2,3,4,5,6,7,8,9],[0,9])])
def Fa.B13:List Nat:=[0,0,0,0,12,0,32,124,254,511,1023]
theorem Fa.tab13:rtab .any (opsOf Try.f113 13)=Fa.T13:=by kernel_rfl
theorem Fa.bits13:waitsOk Fa.T13.2 Fa.B13=true:=by kernel_rfl
theorem e8 {p:Prop} (h:p:=by repeat(first|(with_reducible first|exact HB.out|apply Jk|apply Jj|apply Ji|refine Jh ?_ ic2.out)|exact HB.out)):p:=h
theorem Fa.calls.z0 {p:Prop} (h:p:=by exact norm_ (g14_) (hCont (cc1,bh6,am4) _ ⟨hHeld,(uR_ ar2),(uR_ qo),(yN_ ft (fun _ hk=>⟨hk.1.1,⟨hk.2,⟨hk.1.2.1,hk.1.2.2⟩⟩⟩)),(uB_ cq),(e8)⟩)):p:=h
set_option maxHeartbeats 8000000 in
set_option maxRecDepth 100000 in
theorem Fa.calls (k:Nat):∀(af:Option Addr) (ac:Nat) (ab:List Int) (ah:Option Addr) (ag:Nat) (aa:List (List Int)) (A1:Option Addr) (c1:Nat) (l1:List Int) (r:List (List Int)) (w:World) (cb:Kd.C (Kd.int .i64) w af ab.length ab) (cg:ab.length<=ac) (cc:Kd.C (Kd.slice 3 (Kd.int .i64)) w ah aa.length aa) (ch:aa.length<=ag) (iu:Kd.C (Kd.int .i64) w A1 l1.length l1) (iz:l1.length<=c1) (h:Fa.f k ab aa l1=some r),
  Calls Try.prog 113 #[.agg #[.slice af ab.length ac, .slice ah aa.length ag], .slice A1 l1.length c1] w fun e w'=>∃v0_:Value,e = .returned (v0_)/\Kd.N (Kd.slice 3 (Kd.int .i64)) 22 w' w.heap.size (fun k_=>(w.heap.size<=k_)) v0_ r/\Below w.heap.size w w':=by
 induction k using Nat.strongRecOn with
 | _ k ih=>
 intro af ac ab ah ag aa A1 c1 l1 r w cb cg cc ch iu iz h
 cases k with
 | zero=>exact absurd h (by simp[Fa.f])
 | succ k=>
 simp only[Fa.f] at h
 have hu25:=Try.underlying25
 have bg:=A_ cb
 have bw:=A_ cg
 clear cb cg
 have bd:=A_ cc
 have b4:=A_ ch
 clear cc ch
 have fs:=A_ iu
 have pe:=A_ iz
 clear iu iz
 have HB:=A_ (Below.refl w.heap.size w)
 have H:=h
 unfold Fa.f at H
 clear h
 obtain⟨ry,hyq⟩:∃y_:List (List Int),y_=(([]:List (List Int))):=⟨_,rfl⟩
 replace H:(if 0<=(wrap64 ((l1.length:Int) - 1)) then(if (wrap64 ((l1.length:Int) - 1)) < (l1.length:Int) then(if (l1.length:Int) > 1 then(if 0<=(rd l1 (wrap64 ((l1.length:Int) - 1))) then(if (rd l1 (wrap64 ((l1.length:Int) - 1))) < (aa.length:Int) then(if 0 < (l1.length:Int) then(if 0<=(rd l1 0) then(if (rd l1 0) < ((Jr aa (rd l1 (wrap64 ((l1.length:Int) - 1)))).length:Int) then(Fa.j0 k l1 ry (rd l1 (wrap64 ((l1.length:Int) - 1))) (decide ((rd (Jr aa (rd l1 (wrap64 ((l1.length:Int) - 1)))) (rd l1 0)) > 0)) ab aa) else(none)) else(none)) else(none)) else(none)) else(none)) else(Fa.j0 k l1 ry (rd l1 (wrap64 ((l1.length:Int) - 1))) false ab aa)) else(none)) else(none))=some r:=qh_
 have ey4:=A_ hyq
 clear hyq
 obtain⟨ji3,hji3⟩:∃j_:Int,(wrap64 ((l1.length:Int) - 1))=j_:=⟨_,rfl⟩
 first|rw[hji3] at H|simp only[hji3] at H
 have hji3w:(IntKind.i64.wrap ((l1.length:Int) - 1))=ji3:=(i64_w _).trans hji3
 obtain⟨ic,H⟩:=pd_ H
 obtain⟨kn,H⟩:=pd_ H
 have HC6:=A_ H
 clear H
 go_enter Try.func113,Try.ntmps113
 go_upto_region 3 with(first|((with_reducible refine gd_ 2 ?_);refine bx_ (N:=2) #[.slice af ab.length ac, .slice ah aa.length ag] 25 ?_;intro fb hg w7 hbox hb;have cq:=A_ (hbox);have kk7:=A_ ((g101_:w.heap.size<=fb));have ic2:=kk7;replace HB:=hs_ (e8) hb;clear hb hbox hg)|((with_reducible refine gd_ 9 ?_);refine Kd.N_lit (Kd.slice 3 (Kd.int .i64)) _ 22 ?hg (N':=9) ?hd (xs:=([]:List (List Int))) (inner:=[]) (ok:=(fun k_=>(w.heap.size<=k_)/\k_≠fb)) (okp:=(fun k_=>(w.heap.size<=k_)/\k_≠fb)) ?hr ?hp (fun _ hk=>hk) ((show ∀k_,w7.heap.size<=k_->(fun k_=>(w.heap.size<=k_)/\k_≠fb) k_ from fun k_ hk=>⟨(Nat.le_trans (Je (e8)) hk),Kd.freshB (g:=fb) (o:=.cells #[.slice af ab.length ac, .slice ah aa.length ag] 25 (0,0)) (uB_ cq) k_ hk⟩) _ (Nat.le_refl _)) (Below.refl _ _) (Nat.le_refl _) (by simp) ?_;(case hd=>rfl);(case hg=>rfl);(case hr=>first|(go_simp;done)|(go_simp;rfl));(case hp=>exact(Reps.none _ _));intro wh w8 ho9 hb hg_ hnew_;clear hg_ hnew_;(first|rw[<- ey4.out] at ho9|(simp only[Int.reduceToNat] at ho9;rw[<- ey4.out] at ho9));have bp3:=A_ (Kd.N_lower ho9 (Je (e8)));replace cq:=bb_ cq hb;replace HB:=hs_ (e8) hb;clear hb ho9;have ba1:0<=((ji3):Int):=od_;have ba2:(ji3) < (l1.length:Int):=od_;obtain⟨de2,gf2,bp4⟩:=Kd.at_int fs.out (ji3) ba1 ba2;cases gf2;replace bp4:=cl_ HB bp4;replace ba1:=eq_true ba1;replace ba2:=eq_true ba2));(repeat((first|go_step3|rw[Exit.noGoto_normal]|rw[Exit.noGoto_exit]|rw[Exit.noGoto_ret]);go_upto_region 3 with(first|((with_reducible refine gd_ 2 ?_);refine bx_ (N:=2) #[.slice af ab.length ac, .slice ah aa.length ag] 25 ?_;intro fb hg w7 hbox hb;have cq:=A_ (hbox);have kk7:=A_ ((g101_:w.heap.size<=fb));have ic2:=kk7;replace HB:=hs_ (e8) hb;clear hb hbox hg)|((with_reducible refine gd_ 9 ?_);refine Kd.N_lit (Kd.slice 3 (Kd.int .i64)) _ 22 ?hg (N':=9) ?hd (xs:=([]:List (List Int))) (inner:=[]) (ok:=(fun k_=>(w.heap.size<=k_)/\k_≠fb)) (okp:=(fun k_=>(w.heap.size<=k_)/\k_≠fb)) ?hr ?hp (fun _ hk=>hk) ((show ∀k_,w7.heap.size<=k_->(fun k_=>(w.heap.size<=k_)/\k_≠fb) k_ from fun k_ hk=>⟨(Nat.le_trans (Je (e8)) hk),Kd.freshB (g:=fb) (o:=.cells #[.slice af ab.length ac, .slice ah aa.length ag] 25 (0,0)) (uB_ cq) k_ hk⟩) _ (Nat.le_refl _)) (Below.refl _ _) (Nat.le_refl _) (by simp) ?_;(case hd=>rfl);(case hg=>rfl);(case hr=>first|(go_simp;done)|(go_simp;rfl));(case hp=>exact(Reps.none _ _));intro wh w8 ho9 hb hg_ hnew_;clear hg_ hnew_;(first|rw[<- ey4.out] at ho9|(simp only[Int.reduceToNat] at ho9;rw[<- ey4.out] at ho9));have bp3:=A_ (Kd.N_lower ho9 (Je (e8)));replace cq:=bb_ cq hb;replace HB:=hs_ (e8) hb;clear hb ho9;have ba1:0<=((ji3):Int):=od_;have ba2:(ji3) < (l1.length:Int):=od_;obtain⟨de2,gf2,bp4⟩:=Kd.at_int fs.out (ji3) ba1 ba2;cases gf2;replace bp4:=cl_ HB bp4;replace ba1:=eq_true ba1;replace ba2:=eq_true ba2))))
 (try simp only[Act.put,List.setIfInBounds_toArray,List.set_cons_zero,List.set_cons_succ])
 go_cut [31] (fun v31 wc=>∃(kq:Nat) (ey5:Bool),v31 = .bool ey5/\Jc (Fa.j0 kq l1 ry (rd l1 (ji3)) ey5 ab aa=some r)/\Jc (kq<=k)/\Jc (Kd.N (Kd.slice 3 (Kd.int .i64)) 22 wc w.heap.size (fun k_=>(w.heap.size<=k_)/\k_≠fb) wh ry)/\Jc (hc_ wc fb #[(.slice af ab.length ac),(.slice ah aa.length ag)] 25)/\Jc (Below w.heap.size w wc))
 case first=>
  have H:=HC6.out
  clear HC6
  by_cases i1:(l1.length:Int) > 1
  case neg=>
   rw[if_neg i1] at H
   have ab7:=decide_eq_false i1
   have co3:decide (1 < l1.length)=false:=decide_eq_false (by omega)
   clear i1
   (first|rw[ab7]|(simp only[i64_w,i32_w];rw[ab7])|skip)
   have H':=A_ H
   clear H
   try go_wp2
   replace bp3:=nd_ bp3
   replace cq:=bd_ cq
   replace HB:=A_ (Ji HB.out)
   refine start_ (n:=16) (S:=fun w'=>True) (ds:=[]) (tl_ 16 0) (g1_) rfl (g1_) trivial (fun hHeld=>?_);refine Jx Fa.tab3 Fa.bits3 (fun HT_ HW_=>?_)
   generalize w8.drew=ug at bp3 cq HB hHeld |-
   refine pw_ 0 16 (tl_ 16 1) ?_
   refine pw_ 1 17 (tl_ 16 3) ?_
   refine pw_ 2 18 (tl_ 16 7) ?_
   refine pw_ 3 19 (tl_ 16 15) ?_
   refine pu_ 4 20 (tl_ 16 31) ?_
   refine pu_ 5 21 (tl_ 16 63) ?_
   refine pu_ 6 22 (tl_ 16 127) ?_
   refine pu_ 7 23 (tl_ 16 255) ?_
   refine pu_ 8 24 (tl_ 16 511) ?_
   refine pu_ 9 25 (tl_ 16 1023) ?_
   refine pu_ 10 26 (tl_ 16 2047) ?_
   refine pu_ 11 27 (tl_ 16 4095) ?_
   refine pu_ 12 28 (tl_ 16 8191) ?_
   refine pu_ 13 29 (tl_ 16 16383) ?_
   refine pu_ 14 30 (tl_ 16 32767) ?_
   refine pw_ 15 31 (tl_ 16 65535) ?_
   refine done_ (done_of HT_.out (g1_)) ?_
   try go_wp2
   go_meet
   case rel=>exact⟨_,(false),(g3_),H',⟨g9_⟩,⟨uN_ bp3⟩,⟨uB_ cq⟩,⟨e8⟩⟩
  rw[if_pos i1] at H
  have ab7:=decide_eq_true i1
  have co3:decide (1 < l1.length)=true:=decide_eq_true (by omega)
  clear i1
  (first|rw[ab7]|(simp only[i64_w,i32_w];rw[ab7])|skip)
  obtain⟨co4,H⟩:=pd_ H
  obtain⟨aq4,H⟩:=pd_ H
  obtain⟨yz,H⟩:=pos_ H
  have eb0:=decide_eq_true yz
  have ey6:decide (0 < l1.length)=true:=decide_eq_true (by omega)
  clear yz
  obtain⟨aq8,H⟩:=pd_ H
  obtain⟨pf,H⟩:=pd_ H
  have H':=A_ H
  clear H
  try go_wp2
  replace bp3:=nd_ bp3
  replace cq:=bd_ cq
  replace HB:=A_ (Ji HB.out)
  obtain⟨⟨ic3,nn3,kk8,kk9,cb3,ic4,ic5⟩,cp0,cp1⟩:=rdp_ (at_L1 bd.out (rd l1 (ji3)))
  have kl0:=cb3
  cases kk9
  replace cb3:=cl_ HB cb3
  have ic6:=A_ ic5
  have nn4:=A_ ic4
  clear ic5 ic4
  have cp2:0<=(0:Int):=(by omega)
  have cp3:0 < (l1.length:Int):=od_
  obtain⟨kl1,kl2,bh4⟩:=Kd.at_int fs.out 0 cp2 cp3
  have ey7:=bh4
  (try rw[show((0:Int)).toNat=0 from rfl] at ey7)
  (try rw[show 0 * 1=0 from rfl] at ey7)
  (try rw[Addr.add_zero'] at ey7)
  obtain rfl:de2=kl1:=(by injection kl2)
  have qi261:(0 < l1.length)=True:=eq_true (by omega)
  (try rw[show((0:Int)).toNat=0 from rfl] at bh4)
  (try rw[Addr.add_zero'] at bh4)
  replace bh4:=cl_ HB bh4
  replace cp2:=eq_true cp2
  replace cp3:=eq_true cp3
  obtain⟨⟨ic7,kl3,cb4⟩,cp4,cp5⟩:=rdp_ (Kd.at_int ic6.out (rd l1 0))
  have kl4:=cb4
  cases kl3
  replace cb4:=cl_ HB cb4
  refine start_ (n:=16) (S:=fun w'=>w'.cell? ⟨fb,0,none⟩=some (.slice af ab.length ac)/\w'.cell? ⟨fb,1,none⟩=some (.slice (some ic3) aa.length ag)/\w'.cell? (ic3.add ((rd l1 (ji3))).toNat)=some (.slice (some ic7) (Jr aa (rd l1 (ji3))).length kk8)/\w'.cell? de2=some (.int .i64 (rd l1 0))/\w'.cell? (ic7.add ((rd l1 0)).toNat)=some (.int .i64 (rd (Jr aa (rd l1 (ji3))) (rd l1 0)))) (ds:=[]) (tl_ 16 0) (g1_) rfl (g1_) ⟨(Jd cq.out 0).trans rfl,(Jd cq.out 1).trans rfl,((cl_ HB kl0).trans rfl),((cl_ HB ey7).trans rfl),((cl_ HB kl4).trans rfl)⟩ (fun hHeld=>?_);refine Jx Fa.tab3 Fa.bits3 (fun HT_ HW_=>?_)
  generalize w8.drew=pw at bp3 cq HB ic6 cb3 bh4 cb4 hHeld |-
  refine pw_ 0 16 (tl_ 16 1) ?_
  refine pw_ 1 17 (tl_ 16 3) ?_
  refine pw_ 2 18 (tl_ 16 7) ?_
  refine pw_ 3 19 (tl_ 16 15) ?_
  refine pw_ 4 20 (tl_ 16 31) ?_
  refine pw_ 6 22 (tl_ 16 95) ?_
  refine pw_ 9 25 (tl_ 16 607) ?_
  refine pw_ 10 26 (tl_ 16 1631) ?_
  refine tk4_ 5 21 (tl_ 16 1663) hHeld ?_
  refine pw_ 7 23 (tl_ 16 1791) ?_
  refine tk4_ 8 24 (tl_ 16 2047) hHeld ?_
  refine tk4_ 11 27 (tl_ 16 4095) hHeld ?_
  refine pw_ 12 28 (tl_ 16 8191) ?_
  refine tk4_ 13 29 (tl_ 16 16383) hHeld ?_
  refine pw_ 14 30 (tl_ 16 32767) ?_
  refine pw_ 15 31 (tl_ 16 65535) ?_
  refine done_ (done_of HT_.out (g1_)) ?_
  try go_wp2
  go_meet
  case rel=>exact⟨_,(decide ((rd (Jr aa (rd l1 (ji3))) (rd l1 0)) > 0)),(by first|rfl|(simp;done)|(simp only[<- hji3] <;> (first|rfl|simp))|(simp[*];done)),H',⟨g9_⟩,⟨uN_ bp3⟩,⟨uB_ cq⟩,⟨e8⟩⟩
 clear HC6
 obtain⟨kq,ey5,rfl,HA,HJ5,ft,cq,HB⟩:=hcut
 cases kq with
 | zero=>exact absurd HA.out (by simp[Fa.j0])
 | succ kj5=>?_
 have H:=HA.out
 clear HA
 simp only[Fa.j0] at H
 have gf3:=A_ H
 clear H
 go_upto_if 31 with(fail)
 go_cut [5] (fun v5 wc=>∃(kq:Nat) (ey8:List (List Int)),Jc (Fa.j1 kq l1 ey8 (rd l1 (ji3)) ab aa=some r)/\Jc (kq<=kj5)/\Jc (Kd.N (Kd.slice 3 (Kd.int .i64)) 22 wc w.heap.size (fun k_=>(w.heap.size<=k_)/\k_≠fb) v5 ey8)/\Jc (hc_ wc fb #[(.slice af ab.length ac),(.slice ah aa.length ag)] 25)/\Jc (Below w.heap.size w wc))
 case first=>
  have H:=gf3.out
  clear gf3
  by_cases fe:ey5=true
  case neg=>
   replace fe:=Bool.eq_false_iff.mpr fe
   subst fe
   replace H:=ifn_ H
   have H':=A_ H
   clear H
   go_wp2;(repeat((first|go_step3|rw[Exit.noGoto_normal]|rw[Exit.noGoto_exit]|rw[Exit.noGoto_ret]);go_wp2))
   go_meet
   case rel=>exact⟨_,(ry),H',⟨by have:=HJ5.out;first|omega|exact Nat.le_refl _⟩,⟨uN_ ft⟩,⟨uB_ cq⟩,⟨e8⟩⟩
  subst fe
  replace H:=ifp_ H
  obtain⟨cb2,hyq⟩:∃y_:List Int,y_=(([]:List Int)):=⟨_,rfl⟩
  replace H:(if cb2.length + l1.length < 17592186044416 then((some (([(cb2 ++ l1)]:List (List Int)):List (List Int))).bind fun ah5=>(if ry.length + ah5.length < 5864062014805 then(Fa.j1 kj5 l1 (ry ++ ah5) (rd l1 (ji3)) ab aa) else(none))) else(none))=some r:=qh_
  have ey9:=A_ hyq
  clear hyq
  obtain⟨o3,H⟩:=pos_ H
  have ez0:=A_ o3
  clear o3
  obtain⟨bh5,hyq⟩:∃y_:List Int,y_=(cb2 ++ l1):=⟨_,rfl⟩
  replace H:((some (([bh5]:List (List Int)):List (List Int))).bind fun ah5=>(if ry.length + ah5.length < 5864062014805 then(Fa.j1 kj5 l1 (ry ++ ah5) (rd l1 (ji3)) ab aa) else(none)))=some r:=qh_
  have ic8:=A_ hyq
  clear hyq
  obtain⟨ah5,hyq⟩:∃y_:List (List Int),y_=(([bh5]:List (List Int))):=⟨_,rfl⟩
  replace H:(if ry.length + ah5.length < 5864062014805 then(Fa.j1 kj5 l1 (ry ++ ah5) (rd l1 (ji3)) ab aa) else(none))=some r:=qh_
  have ez1:=A_ hyq
  clear hyq
  obtain⟨pg,H⟩:=pos_ H
  have ic9:=A_ pg
  clear pg
  obtain⟨id0,hyq⟩:∃y_:List (List Int),y_=(ry ++ ah5):=⟨_,rfl⟩
  replace H:(Fa.j1 kj5 l1 id0 (rd l1 (ji3)) ab aa)=some r:=qh_
  have id1:=A_ hyq
  clear hyq
  have H':=A_ H
  clear H
  go_wp2_with (first|((with_reducible refine gd_ 33 ?_);refine rle_ 33 [] ?_;intro gf4 uv tc hb hg_ hnew_;clear hg_ hnew_;(first|rw[<- ey9.out] at tc|(simp only[Int.reduceToNat] at tc;rw[<- ey9.out] at tc));replace ft:=A_ (Kd.N_elder' (uN_ ft) (Kd.R_base tc) hb);have cp6:=A_ (Kd.R_lower (Kd.R_newM (M:=fun k_=>(w.heap.size<=k_)) tc (Je (e8)) (fun k_ h_=>h_)) (Je (e8)));replace cq:=bb_ cq hb;replace HB:=hs_ (e8) hb;clear hb tc)|((with_reducible refine gate_builtin (b:=.append) (xs:=#[.tmp 33, .tmp 34]) rfl ?_);at_builtin;refine Kd.R_append_rows (Kd.int .i64) (w0:=w) w.heap.size rfl (.tmp 33) (.tmp 34) 22 3 (.int .i64 0) 8 rfl Try.underlying22 info3 rfl (by decide) (by omega) gf4 cb2 l1 _ _ _ (fun k_=>(w.heap.size<=k_)) (fun _=>False) rfl rfl ?aO ?aR (fun _ _ h=>h) (fun _ h=>h.elim) ?aF ?aB ?aS ?aL ?_;(case aR=>exact uC_ fs);(case aB=>exact(e8));(case aF=>exact(fun k_ hk=>(Nat.le_trans (Je (e8)) hk)));(case aO=>exact(yR_ cp6 (fun _ hk=>hk.1)));(case aS=>exact(Je (e8)));(case aL=>have:=ez0.out;omega);intro kl5 w24 ho hb hg hat;rw[<- ic8.out] at ho;replace ft:=A_ (Kd.N_afterv (ok:=(fun k_=>(w.heap.size<=k_)/\k_≠fb)) (uN_ ft) hg hat);replace cq:=(bg_ cq hg (Kd.R_ne cp6.out cq.out (by decide)));replace HB:=A_ (hb);have bp5:=A_ (ho);clear cp6;clear ho hb hg hat;obtain⟨bh0,bh1,bo6⟩:=Kd.R_slice bp5.out;subst bo6)|((with_reducible refine gd_ 36 ?_);refine Kd.N_lit (Kd.slice 3 (Kd.int .i64)) _ 22 ?hg (N':=36) ?hd (xs:=([bh5]:List (List Int))) (inner:=[.slice bh0 bh5.length bh1]) (ok:=(fun k_=>(w.heap.size<=k_)/\some k_≠(wh:Value).ownBlock/\k_≠fb)) (okp:=(fun k_=>(w.heap.size<=k_)/\some k_≠(wh:Value).ownBlock/\k_≠fb)) ?hr ?hp (fun _ hk=>hk) ((show ∀k_,w24.heap.size<=k_->(fun k_=>(w.heap.size<=k_)/\some k_≠(wh:Value).ownBlock/\k_≠fb) k_ from fun k_ hk=>⟨(Nat.le_trans (Je (e8)) hk),Kd.fresh' (Kd.N_lt (uN_ ft)) k_ hk,Kd.freshB (g:=fb) (o:=.cells #[.slice af ab.length ac, .slice ah aa.length ag] 25 (0,0)) (uB_ cq) k_ hk⟩) _ (Nat.le_refl _)) (Below.refl _ _) (Nat.le_refl _) (by simp) ?_;(case hd=>rfl);(case hg=>rfl);(case hr=>first|(go_simp;done)|(go_simp;rfl));(case hp=>exact(Reps.one (show Kd.FK (Kd.slice 3 (Kd.int .i64)) _ _ bh5 [.slice bh0 bh5.length bh1] from(Kd.FK_slice_mk (Kd.R_reads' (Kd.R_mono (ok':=(fun k_=>(w.heap.size<=k_)/\some k_≠(wh:Value).ownBlock/\k_≠fb)) (Kd.R_types (Kd.R_apart' (bp5.out) (Kd.N_typed ft.out) (by decide)) cq.out (by decide)) (fun k_ hk=>⟨hk.1.1,⟨hk.1.2,hk.2⟩⟩))).2.1 (Kd.R_F (Kd.R_mono (ok':=(fun k_=>(w.heap.size<=k_)/\some k_≠(wh:Value).ownBlock/\k_≠fb)) (Kd.R_types (Kd.R_apart' (bp5.out) (Kd.N_typed ft.out) (by decide)) cq.out (by decide)) (fun k_ hk=>⟨hk.1.1,⟨hk.1.2,hk.2⟩⟩))))) (Reps.none _ _)));intro kl6 w26 am1 hb hg_ hnew_;clear hg_ hnew_;(first|rw[<- ez1.out] at am1|(simp only[Int.reduceToNat] at am1;rw[<- ez1.out] at am1));replace ft:=A_ (Kd.N_elder' (uN_ ft) (Kd.N_base am1) hb);have bp6:=A_ (Kd.N_lower am1 (Je (e8)));replace cq:=bb_ cq hb;replace HB:=hs_ (e8) hb;clear bp5;clear hb am1;obtain⟨de3,cb5,ba3⟩:=Kd.N_slice bp6.out;subst ba3)|((with_reducible refine gate_builtin (b:=.append) (xs:=#[.tmp 32, .tmp 36]) rfl ?_);at_builtin;refine Kd.N_append_rows (Kd.slice 3 (Kd.int .i64)) (w0:=w) w.heap.size rfl (.tmp 32) (.tmp 36) 23 22 (.slice none 0 0) 24 rfl Try.underlying23 info22 rfl (by decide) (by omega) wh ry ah5 _ _ _ (fun k_=>(w.heap.size<=k_)/\k_≠fb) (fun k_=>((fun k_=>(w.heap.size<=k_)/\k_≠fb)) k_/\some k_≠(wh:Value).ownBlock) rfl rfl ?aO ?aR (fun _ hk=>hk) ?aF ?aB ?aS ?aL ?_;(case aR=>exact(by skip;exact Kd.N_F (Kd.N_mono (ok':=(fun k_=>((fun k_=>(w.heap.size<=k_)/\k_≠fb)) k_/\some k_≠(wh:Value).ownBlock)) (bp6.out) (fun k_ hk=>⟨⟨hk.1,hk.2.2⟩,hk.2.1⟩))));(case aB=>exact(e8));(case aF=>exact(fun k_ hk=>⟨(Nat.le_trans (Je (e8)) hk),Kd.freshB (g:=fb) (o:=.cells #[.slice af ab.length ac, .slice ah aa.length ag] 25 (0,0)) (uB_ cq) k_ hk⟩));(case aO=>exact(yN_ ft (fun _ hk=>⟨hk.1.1.1,hk.1.1.2⟩)));(case aS=>exact(Je (e8)));(case aL=>have:=ic9.out;omega);intro kl7 w28 ho hb hg hat;rw[<- id1.out] at ho;replace cq:=(bg_ cq hg (Kd.N_ne ft.out cq.out (by decide)));replace bp6:=A_ (Kd.N_afterv (ok:=(fun k_=>(w.heap.size<=k_)/\k_≠fb)) (yN_ bp6 (fun _ hk=>⟨⟨hk.1,hk.2.2⟩,hk.2.1⟩)) hg hat);replace HB:=A_ (hb);have id2:=A_ (ho);clear ft;clear ho hb hg hat));(repeat((first|go_step3|rw[Exit.noGoto_normal]|rw[Exit.noGoto_exit]|rw[Exit.noGoto_ret]);go_wp2_with (first|((with_reducible refine gd_ 33 ?_);refine rle_ 33 [] ?_;intro gf4 uv tc hb hg_ hnew_;clear hg_ hnew_;(first|rw[<- ey9.out] at tc|(simp only[Int.reduceToNat] at tc;rw[<- ey9.out] at tc));replace ft:=A_ (Kd.N_elder' (uN_ ft) (Kd.R_base tc) hb);have cp6:=A_ (Kd.R_lower (Kd.R_newM (M:=fun k_=>(w.heap.size<=k_)) tc (Je (e8)) (fun k_ h_=>h_)) (Je (e8)));replace cq:=bb_ cq hb;replace HB:=hs_ (e8) hb;clear hb tc)|((with_reducible refine gate_builtin (b:=.append) (xs:=#[.tmp 33, .tmp 34]) rfl ?_);at_builtin;refine Kd.R_append_rows (Kd.int .i64) (w0:=w) w.heap.size rfl (.tmp 33) (.tmp 34) 22 3 (.int .i64 0) 8 rfl Try.underlying22 info3 rfl (by decide) (by omega) gf4 cb2 l1 _ _ _ (fun k_=>(w.heap.size<=k_)) (fun _=>False) rfl rfl ?aO ?aR (fun _ _ h=>h) (fun _ h=>h.elim) ?aF ?aB ?aS ?aL ?_;(case aR=>exact uC_ fs);(case aB=>exact(e8));(case aF=>exact(fun k_ hk=>(Nat.le_trans (Je (e8)) hk)));(case aO=>exact(yR_ cp6 (fun _ hk=>hk.1)));(case aS=>exact(Je (e8)));(case aL=>have:=ez0.out;omega);intro kl5 w24 ho hb hg hat;rw[<- ic8.out] at ho;replace ft:=A_ (Kd.N_afterv (ok:=(fun k_=>(w.heap.size<=k_)/\k_≠fb)) (uN_ ft) hg hat);replace cq:=(bg_ cq hg (Kd.R_ne cp6.out cq.out (by decide)));replace HB:=A_ (hb);have bp5:=A_ (ho);clear cp6;clear ho hb hg hat;obtain⟨bh0,bh1,bo6⟩:=Kd.R_slice bp5.out;subst bo6)|((with_reducible refine gd_ 36 ?_);refine Kd.N_lit (Kd.slice 3 (Kd.int .i64)) _ 22 ?hg (N':=36) ?hd (xs:=([bh5]:List (List Int))) (inner:=[.slice bh0 bh5.length bh1]) (ok:=(fun k_=>(w.heap.size<=k_)/\some k_≠(wh:Value).ownBlock/\k_≠fb)) (okp:=(fun k_=>(w.heap.size<=k_)/\some k_≠(wh:Value).ownBlock/\k_≠fb)) ?hr ?hp (fun _ hk=>hk) ((show ∀k_,w24.heap.size<=k_->(fun k_=>(w.heap.size<=k_)/\some k_≠(wh:Value).ownBlock/\k_≠fb) k_ from fun k_ hk=>⟨(Nat.le_trans (Je (e8)) hk),Kd.fresh' (Kd.N_lt (uN_ ft)) k_ hk,Kd.freshB (g:=fb) (o:=.cells #[.slice af ab.length ac, .slice ah aa.length ag] 25 (0,0)) (uB_ cq) k_ hk⟩) _ (Nat.le_refl _)) (Below.refl _ _) (Nat.le_refl _) (by simp) ?_;(case hd=>rfl);(case hg=>rfl);(case hr=>first|(go_simp;done)|(go_simp;rfl));(case hp=>exact(Reps.one (show Kd.FK (Kd.slice 3 (Kd.int .i64)) _ _ bh5 [.slice bh0 bh5.length bh1] from(Kd.FK_slice_mk (Kd.R_reads' (Kd.R_mono (ok':=(fun k_=>(w.heap.size<=k_)/\some k_≠(wh:Value).ownBlock/\k_≠fb)) (Kd.R_types (Kd.R_apart' (bp5.out) (Kd.N_typed ft.out) (by decide)) cq.out (by decide)) (fun k_ hk=>⟨hk.1.1,⟨hk.1.2,hk.2⟩⟩))).2.1 (Kd.R_F (Kd.R_mono (ok':=(fun k_=>(w.heap.size<=k_)/\some k_≠(wh:Value).ownBlock/\k_≠fb)) (Kd.R_types (Kd.R_apart' (bp5.out) (Kd.N_typed ft.out) (by decide)) cq.out (by decide)) (fun k_ hk=>⟨hk.1.1,⟨hk.1.2,hk.2⟩⟩))))) (Reps.none _ _)));intro kl6 w26 am1 hb hg_ hnew_;clear hg_ hnew_;(first|rw[<- ez1.out] at am1|(simp only[Int.reduceToNat] at am1;rw[<- ez1.out] at am1));replace ft:=A_ (Kd.N_elder' (uN_ ft) (Kd.N_base am1) hb);have bp6:=A_ (Kd.N_lower am1 (Je (e8)));replace cq:=bb_ cq hb;replace HB:=hs_ (e8) hb;clear bp5;clear hb am1;obtain⟨de3,cb5,ba3⟩:=Kd.N_slice bp6.out;subst ba3)|((with_reducible refine gate_builtin (b:=.append) (xs:=#[.tmp 32, .tmp 36]) rfl ?_);at_builtin;refine Kd.N_append_rows (Kd.slice 3 (Kd.int .i64)) (w0:=w) w.heap.size rfl (.tmp 32) (.tmp 36) 23 22 (.slice none 0 0) 24 rfl Try.underlying23 info22 rfl (by decide) (by omega) wh ry ah5 _ _ _ (fun k_=>(w.heap.size<=k_)/\k_≠fb) (fun k_=>((fun k_=>(w.heap.size<=k_)/\k_≠fb)) k_/\some k_≠(wh:Value).ownBlock) rfl rfl ?aO ?aR (fun _ hk=>hk) ?aF ?aB ?aS ?aL ?_;(case aR=>exact(by skip;exact Kd.N_F (Kd.N_mono (ok':=(fun k_=>((fun k_=>(w.heap.size<=k_)/\k_≠fb)) k_/\some k_≠(wh:Value).ownBlock)) (bp6.out) (fun k_ hk=>⟨⟨hk.1,hk.2.2⟩,hk.2.1⟩))));(case aB=>exact(e8));(case aF=>exact(fun k_ hk=>⟨(Nat.le_trans (Je (e8)) hk),Kd.freshB (g:=fb) (o:=.cells #[.slice af ab.length ac, .slice ah aa.length ag] 25 (0,0)) (uB_ cq) k_ hk⟩));(case aO=>exact(yN_ ft (fun _ hk=>⟨hk.1.1.1,hk.1.1.2⟩)));(case aS=>exact(Je (e8)));(case aL=>have:=ic9.out;omega);intro kl7 w28 ho hb hg hat;rw[<- id1.out] at ho;replace cq:=(bg_ cq hg (Kd.N_ne ft.out cq.out (by decide)));replace bp6:=A_ (Kd.N_afterv (ok:=(fun k_=>(w.heap.size<=k_)/\k_≠fb)) (yN_ bp6 (fun _ hk=>⟨⟨hk.1,hk.2.2⟩,hk.2.1⟩)) hg hat);replace HB:=A_ (hb);have id2:=A_ (ho);clear ft;clear ho hb hg hat))))
  go_meet
  case rel=>exact⟨_,(id0),H',⟨by have:=HJ5.out;first|omega|exact Nat.le_refl _⟩,⟨uN_ id2⟩,⟨uB_ cq⟩,⟨e8⟩⟩
 clear gf3
 obtain⟨kq,ey8,HA,HJ17,ft,cq,HB⟩:=hcut
 cases kq with
 | zero=>exact absurd HA.out (by simp[Fa.j1])
 | succ kj17=>?_
 have H:=HA.out
 clear HA
 simp only[Fa.j1] at H
 obtain⟨uw,H⟩:=pos_ H
 have de1:=decide_eq_true uw
 have gf5:decide (0 < l1.length)=true:=decide_eq_true (by omega)
 clear uw
 have H':=A_ H
 clear H
 have eb1:0<=(0:Int):=(by omega)
 have eb2:0 < (l1.length:Int):=od_
 obtain⟨kl8,kl9,de4⟩:=Kd.at_int fs.out 0 eb1 eb2
 obtain rfl:de2=kl8:=(by injection kl9)
 have qi275:(0 < l1.length)=True:=eq_true (by omega)
 (try rw[show((0:Int)).toNat=0 from rfl] at de4)
 (try rw[Addr.add_zero'] at de4)
 replace de4:=cl_ HB de4
 replace eb1:=eq_true eb1
 replace eb2:=eq_true eb2
 go_wp2;(repeat((first|go_step3|rw[Exit.noGoto_normal]|rw[Exit.noGoto_exit]|rw[Exit.noGoto_ret]);go_wp2))
 go_loopg [5,7] kj17 (fun kq v5 v7 w'=>∃(qb:List (List Int)) (jv:Int),v7 = .int .i64 jv/\Jc (Fa.l0 kq l1 qb (rd l1 (ji3)) jv ab aa=some r)/\Jc (kq<=kj17)/\Jc (Kd.N (Kd.slice 3 (Kd.int .i64)) 22 w' w.heap.size (fun k_=>(w.heap.size<=k_)/\k_≠fb) v5 qb)/\Jc (hc_ w' fb #[(.slice af ab.length ac),(.slice ah aa.length ag)] 25)/\Jc (Below w.heap.size w w'))
 case atStart=>exact⟨(ey8),(wrap64 ((rd l1 0) + 1)),(g3_),H',⟨Nat.le_refl _⟩,⟨uN_ ft⟩,⟨uB_ cq⟩,⟨e8⟩⟩
 clear H'
 obtain⟨qb,jv,rfl,HA,HK3,ft,cq,HB⟩:=hrel
 cases gk with
 | zero=>exact absurd HA.out (by simp[Fa.l0])
 | succ k3=>?_
 have H:=HA.out
 clear HA
 simp only[Fa.l0] at H
 by_cases ta:jv < (ab.length:Int)
 case neg=>
  rw[if_neg ta] at H
  have ea2:=decide_eq_false ta
  clear ta
  obtain rfl:=Option.some.inj H
  obtain⟨kn0,kn1,kn2,kn3⟩:=blk2_ cq
  go_wp2;(repeat((first|go_step3|rw[Exit.noGoto_normal]|rw[Exit.noGoto_exit]|rw[Exit.noGoto_ret]);go_wp2))
  go_ret
  exact⟨_,by first|rfl|(simp[errW_none,errW_some] <;> rfl)|(simp only[<- hji3];first|rfl|(simp[errW_none,errW_some] <;> rfl))|(simp[*,errW_none,errW_some] <;> rfl),by(with_reducible repeat(first|apply Kd.N_alloc|apply Kd.N_drewN|apply Kd.N_drew));exact Kd.N_mono ft.out (fun _ hk=>hk.1),e8⟩
 rw[if_pos ta] at H
 have ea2:=decide_eq_true ta
 clear ta
 obtain⟨gf6,H⟩:=pd_ H
 obtain⟨ew5,H⟩:=pd_ H
 obtain⟨gc7,H⟩:=pd_ H
 obtain⟨gf7,H⟩:=pd_ H
 by_cases td:(rd (Jr aa (rd l1 (ji3))) jv)=0
 ·rw[if_pos td] at H
  have ez2:((rd (Jr aa (rd l1 (ji3))) jv) == 0)=true:=beq_iff_eq.mpr td
  have id5:((rd (Jr aa (rd l1 (ji3))) jv) != 0)=false:=bne_eq_false_iff_eq.mpr td
  clear td
  have H':=A_ H
  clear H
  obtain⟨cp7,cp8,cp9,cq0⟩:=blk2_ cq
  obtain⟨⟨ab8,km1,km2,gf8,de5,eb3,eb4⟩,cb6,cb7⟩:=rdp_ (at_L1 bd.out (rd l1 (ji3)))
  cases gf8
  replace de5:=cl_ HB de5
  have gf9:=A_ eb4
  have km3:=A_ eb3
  clear eb4 eb3
  obtain⟨⟨km4,gg0,de6⟩,cb8,cb9⟩:=rdp_ (Kd.at_int gf9.out jv)
  cases gg0
  replace de6:=cl_ HB de6
  go_wp2;(repeat((first|go_step3|rw[Exit.noGoto_normal]|rw[Exit.noGoto_exit]|rw[Exit.noGoto_ret]);go_wp2))
  go_roundg k3
  case measure=>have:=HJ5.out;have:=HJ17.out;have:=HK3.out;omega
  case rel=>exact⟨(qb),(wrap64 (jv + 1)),(g3_),H',⟨by have:=HJ5.out;have:=HJ17.out;have:=HK3.out;omega⟩,⟨uN_ ft⟩,⟨uB_ cq⟩,⟨e8⟩⟩
 rw[if_neg td] at H
 have ez2:((rd (Jr aa (rd l1 (ji3))) jv) == 0)=false:=beq_eq_false_iff_ne.mpr td
 have id5:((rd (Jr aa (rd l1 (ji3))) jv) != 0)=true:=bne_iff_ne.mpr td
 have H':=A_ H
 clear H
 obtain⟨id6,id7,id8,id9⟩:=blk2_ cq
 obtain⟨⟨ab8,km1,km2,gf8,de5,eb3,eb4⟩,cb6,cb7⟩:=rdp_ (at_L1 bd.out (rd l1 (ji3)))
 cases gf8
 replace de5:=cl_ HB de5
 have gf9:=A_ eb4
 have km3:=A_ eb3
 clear eb4 eb3
 obtain⟨⟨km4,gg0,de6⟩,cb8,cb9⟩:=rdp_ (Kd.at_int gf9.out jv)
 cases gg0
 replace de6:=cl_ HB de6
 go_wp2;(repeat((first|go_step3|rw[Exit.noGoto_normal]|rw[Exit.noGoto_exit]|rw[Exit.noGoto_ret]);go_wp2))
 go_loopg [8] k3 (fun kq v8 w'=>∃(zb:Int),v8 = .int .i64 zb/\Jc (Fa.l1 kq l1 qb (rd l1 (ji3)) jv zb ab aa=some r)/\Jc (kq<=k3)/\Jc (Kd.N (Kd.slice 3 (Kd.int .i64)) 22 w' w.heap.size (fun k_=>(w.heap.size<=k_)/\k_≠fb) u5 qb)/\Jc (hc_ w' fb #[(.slice af ab.length ac),(.slice (some ab8) aa.length ag)] 25)/\Jc (Below w.heap.size w w'))
 case atStart=>exact⟨(0),(g3_),H',⟨Nat.le_refl _⟩,⟨uN_ ft⟩,⟨uB_ cq⟩,⟨e8⟩⟩
 clear H'
 obtain⟨zb,rfl,HA,HK4,ft,cq,HB⟩:=hrel
 cases gk with
 | zero=>exact absurd HA.out (by simp[Fa.l1])
 | succ k4=>?_
 have H:=HA.out
 clear HA
 simp only[Fa.l1] at H
 by_cases c39:zb < (l1.length:Int)
 ·rw[if_pos c39] at H
  have km5:=decide_eq_true c39
  clear c39
  obtain⟨ie0,H⟩:=pd_ H
  by_cases ux:(rd l1 zb)=jv
  ·rw[if_pos ux] at H
   have ez3:((rd l1 zb) == jv)=true:=beq_iff_eq.mpr ux
   have ie1:((rd l1 zb) != jv)=false:=bne_eq_false_iff_eq.mpr ux
   clear ux
   have H':=A_ H
   clear H
   obtain⟨⟨gg1,gg2,eb5⟩,cq1,cq2⟩:=rdp_ (Kd.at_int fs.out zb)
   obtain rfl:de2=gg1:=(by injection gg2)
   replace eb5:=cl_ HB eb5
   go_wp2;(repeat((first|go_step3|rw[Exit.noGoto_normal]|rw[Exit.noGoto_exit]|rw[Exit.noGoto_ret]);go_wp2))
   go_roundg k4
   case measure=>have:=HJ5.out;have:=HJ17.out;have:=HK3.out;have:=HK4.out;omega
   case rel=>exact⟨(qb),(wrap64 (jv + 1)),(g3_),H',⟨g102_⟩,⟨uN_ ft⟩,⟨uB_ cq⟩,⟨e8⟩⟩
  rw[if_neg ux] at H
  have ez3:((rd l1 zb) == jv)=false:=beq_eq_false_iff_ne.mpr ux
  have ie1:((rd l1 zb) != jv)=true:=bne_iff_ne.mpr ux
  have H':=A_ H
  clear H
  obtain⟨⟨gg1,gg2,eb5⟩,cq1,cq2⟩:=rdp_ (Kd.at_int fs.out zb)
  obtain rfl:de2=gg1:=(by injection gg2)
  replace eb5:=cl_ HB eb5
  go_wp2;(repeat((first|go_step3|rw[Exit.noGoto_normal]|rw[Exit.noGoto_exit]|rw[Exit.noGoto_ret]);go_wp2))
  go_roundg k4
  case measure=>have:=HJ5.out;have:=HJ17.out;have:=HK3.out;have:=HK4.out;omega
  case rel=>exact⟨(wrap64 (zb + 1)),(g3_),H',⟨g102_⟩,⟨uN_ ft⟩,⟨uB_ cq⟩,⟨e8⟩⟩
 rw[if_neg c39] at H
 have km5:=decide_eq_false c39
 clear c39
 obtain⟨bp2,hyq⟩:∃y_:List Int,y_=(([]:List Int)):=⟨_,rfl⟩
 replace H:(if bp2.length + l1.length < 17592186044416 then((some (bp2 ++ l1:List Int)).bind fun ah6=>((some (([jv]:List Int):List Int)).bind fun rx=>(if ah6.length + rx.length < 17592186044416 then((Fa.f k4 ab aa (ah6 ++ rx)).bind fun wg=>(if qb.length + wg.length < 5864062014805 then(Fa.l0 k4 l1 (qb ++ wg) (rd l1 (ji3)) (wrap64 (jv + 1)) ab aa) else(none))) else(none)))) else(none))=some r:=qh_
 have ez4:=A_ hyq
 clear hyq
 obtain⟨c42,H⟩:=pos_ H
 have gg3:=A_ c42
 clear c42
 obtain⟨ah6,hyq⟩:∃y_:List Int,y_=(bp2 ++ l1):=⟨_,rfl⟩
 replace H:((some (([jv]:List Int):List Int)).bind fun rx=>(if ah6.length + rx.length < 17592186044416 then((Fa.f k4 ab aa (ah6 ++ rx)).bind fun wg=>(if qb.length + wg.length < 5864062014805 then(Fa.l0 k4 l1 (qb ++ wg) (rd l1 (ji3)) (wrap64 (jv + 1)) ab aa) else(none))) else(none)))=some r:=qh_
 have gg4:=A_ hyq
 clear hyq
 obtain⟨rx,hyq⟩:∃y_:List Int,y_=(([jv]:List Int)):=⟨_,rfl⟩
 replace H:(if ah6.length + rx.length < 17592186044416 then((Fa.f k4 ab aa (ah6 ++ rx)).bind fun wg=>(if qb.length + wg.length < 5864062014805 then(Fa.l0 k4 l1 (qb ++ wg) (rd l1 (ji3)) (wrap64 (jv + 1)) ab aa) else(none))) else(none))=some r:=qh_
 have de7:=A_ hyq
 clear hyq
 obtain⟨c43,H⟩:=pos_ H
 have km6:=A_ c43
 clear c43
 obtain⟨cc0,hyq⟩:∃y_:List Int,y_=(ah6 ++ rx):=⟨_,rfl⟩
 replace H:((Fa.f k4 ab aa cc0).bind fun wg=>(if qb.length + wg.length < 5864062014805 then(Fa.l0 k4 l1 (qb ++ wg) (rd l1 (ji3)) (wrap64 (jv + 1)) ab aa) else(none)))=some r:=qh_
 have km7:=A_ hyq
 clear hyq
 obtain⟨wg,A44,H⟩:=bind_ H
 obtain⟨c45,H⟩:=pos_ H
 have km8:=A_ c45
 clear c45
 obtain⟨ie2,hyq⟩:∃y_:List (List Int),y_=(qb ++ wg):=⟨_,rfl⟩
 replace H:(Fa.l0 k4 l1 ie2 (rd l1 (ji3)) (wrap64 (jv + 1)) ab aa)=some r:=qh_
 have km9:=A_ hyq
 clear hyq
 have H':=A_ H
 clear H
 obtain⟨bs,bt,eb6⟩:=Kd.N_slice ft.out
 subst eb6
 try go_wp2
 replace ft:=nd_ ft
 replace cq:=bd_ cq
 replace HB:=A_ (Ji HB.out)
 refine start_ (n:=11) (S:=fun w'=>w'.cell? ⟨fb,0,none⟩=some (.slice af ab.length ac)/\w'.cell? ⟨fb,1,none⟩=some (.slice (some ab8) aa.length ag)) (ds:=[]) (tl_ 11 0) (g1_) rfl (g1_) ⟨(Jd cq.out 0).trans rfl,(Jd cq.out 1).trans rfl⟩ (fun hHeld=>?_);refine Jx Fa.tab13 Fa.bits13 (fun HT_ HW_=>?_)
 generalize wr.drew=w47 at ft cq HB hHeld |-
 refine pw_ 0 70 (tl_ 11 1) ?_
 refine pw_ 3 73 (tl_ 11 9) ?_
 refine pw_ 5 75 (tl_ 11 41) ?_
 refine tk6_ 1 71 (tl_ 11 43) hHeld ?_
 refine join_ (σ:=Value × Value × Value) 4 (tl_ 11 127) (fun s_=>[(72,s_.1),(74,s_.2.1),(76,s_.2.2)]) (fun s_ w'=>(w'.cell? ⟨fb,0,none⟩=some (.slice af ab.length ac)/\w'.cell? ⟨fb,1,none⟩=some (.slice (some ab8) aa.length ag))/\(Kd.R (Kd.int .i64) 3 w' w.heap.size (fun k_=>(w.heap.size<=k_)/\some k_≠(s_.2.2:Value).ownBlock) s_.2.1 ah6)/\(Kd.R (Kd.int .i64) 3 w' w.heap.size (fun k_=>(w.heap.size<=k_)/\some k_≠(s_.2.1:Value).ownBlock) s_.2.2 rx)/\(Kd.N (Kd.slice 3 (Kd.int .i64)) 22 w' w.heap.size (fun k_=>(w.heap.size<=k_)/\some k_≠(s_.2.1:Value).ownBlock/\some k_≠(s_.2.2:Value).ownBlock/\k_≠fb) (.slice bs qb.length bt) qb)/\(hc_ w' fb #[.slice af ab.length ac, .slice (some ab8) aa.length ag] 25)/\(Below w.heap.size w w')) ?_ ?_
 rotate_left
 ·intro hCont
  refine two_ (i:=2) (j:=6) (Ni:=some 72) (Nj:=some 76) (tl_ 11 47) (tl_ 11 107) rfl rfl rfl rfl (two_of HT_.out (g1_)) (by decide) (by decide) (fun K hK=>?_) (fun K hK=>?_)
  ·skip
   refine rls_ 72 [] ?_
   intro cc1 w48 am2 hb hg_ hnew_
   clear hg_ hnew_
   (first|rw[<- ez4.out] at am2|(simp only[Int.reduceToNat] at am2;rw[<- ez4.out] at am2))
   replace ft:=A_ (Kd.N_elder' (uN_ ft) (Kd.R_base am2) hb)
   have am3:=A_ (Kd.R_lower (Kd.R_newM (M:=fun k_=>(w.heap.size<=k_)) am2 (Je (e8)) (fun k_ h_=>h_)) (Je (e8)))
   replace cq:=bb_ cq hb
   replace HB:=hs_ (e8) hb
   clear hb am2
   refine hK.out _ _ ⟨(Jd cq.out 0).trans rfl,(Jd cq.out 1).trans rfl⟩ (fun hHeld=>?_)
   clear hK K
   refine nm_ ?_
   refine two_ (i:=4) (j:=6) (Ni:=some 74) (Nj:=some 76) (tl_ 11 63) (tl_ 11 111) rfl rfl rfl rfl (two_of HT_.out (g1_)) (by decide) (by decide) (fun K hK=>?_) (fun K hK=>?_)
   ·skip
    refine Kd.R_append_rows_step (Kd.int .i64) (w0:=w) w.heap.size (by rfl) (.tmp 72) (.tmp 73) 22 3 (.int .i64 0) 8 rfl Try.underlying22 info3 rfl (by decide) (by omega) cc1 bp2 l1 _ _ _ (fun k_=>(w.heap.size<=k_)) (fun _=>False) rfl rfl ?aO ?aR (fun _ _ h=>h) (fun _ h=>h.elim) ?aF ?aB ?aS ?aL ?_
    (case aR=>exact uC_ fs)
    (case aB=>exact(e8))
    (case aF=>exact(fun k_ hk=>(Nat.le_trans (Je (e8)) hk)))
    (case aO=>exact(yR_ am3 (fun _ hk=>hk.1)))
    (case aS=>exact(Je (e8)))
    (case aL=>have:=gg3.out;omega)
    intro bh6 w50 ho hb hg hat
    rw[<- gg4.out] at ho
    replace ft:=A_ (Kd.N_afterv (ok:=(fun k_=>(w.heap.size<=k_)/\k_≠fb)) (uN_ ft) hg hat)
    replace cq:=(bg_ cq hg (Kd.R_ne am3.out cq.out (by decide)))
    replace HB:=A_ (hb)
    have ar2:=A_ (ho)
    clear am3
    clear ho hb hg hat
    refine hK.out _ _ ⟨(Jd cq.out 0).trans rfl,(Jd cq.out 1).trans rfl⟩ (fun hHeld=>?_)
    clear hK K
    refine nm_ ?_
    refine one_ (i:=6) (N:=some 76) (tl_ 11 127) rfl rfl (Jz HT_.out (g1_)) (by decide) (fun K hK=>?_)
    refine rls_ 76 [jv] ?_
    intro am4 w51 cq3 hb hg_ hnew_
    clear hg_ hnew_
    (first|rw[<- de7.out] at cq3|(simp only[Int.reduceToNat] at cq3;rw[<- de7.out] at cq3))
    replace ft:=A_ (Kd.N_elder' (uN_ ft) (Kd.R_base cq3) hb)
    have qo:=A_ (Kd.R_lower (Kd.R_new' (Kd.R_newM (M:=fun k_=>(w.heap.size<=k_)) cq3 (Je (e8)) (fun k_ h_=>h_)) (Kd.R_lt (uR_ ar2))) (Je (e8)))
    replace ar2:=A_ (Kd.R_elder' (uR_ ar2) (Kd.R_base cq3) hb)
    replace cq:=bb_ cq hb
    replace HB:=hs_ (e8) hb
    clear hb cq3
    refine hK.out _ _ ⟨(Jd cq.out 0).trans rfl,(Jd cq.out 1).trans rfl⟩ (fun hHeld=>?_)
    clear hK K
    refine nm_ ?_
    exact norm_ (g14_) (hCont (cc1,bh6,am4) _ ⟨hHeld,(uR_ ar2),(yR_ qo (fun _ hk=>⟨hk.1.1,hk.2⟩)),(yN_ ft (fun _ hk=>⟨hk.1.1.1,⟨hk.1.2,⟨hk.2,hk.1.1.2⟩⟩⟩)),(uB_ cq),(e8)⟩)
   skip
   refine rls_ 76 [jv] ?_
   intro am4 w50 ab9 hb hg_ hnew_
   clear hg_ hnew_
   (first|rw[<- de7.out] at ab9|(simp only[Int.reduceToNat] at ab9;rw[<- de7.out] at ab9))
   replace ft:=A_ (Kd.N_elder' (uN_ ft) (Kd.R_base ab9) hb)
   have qo:=A_ (Kd.R_lower (Kd.R_new' (Kd.R_newM (M:=fun k_=>(w.heap.size<=k_)) ab9 (Je (e8)) (fun k_ h_=>h_)) (Kd.R_lt (uR_ am3))) (Je (e8)))
   replace am3:=A_ (Kd.R_elder' (uR_ am3) (Kd.R_base ab9) hb)
   replace cq:=bb_ cq hb
   replace HB:=hs_ (e8) hb
   clear hb ab9
   refine hK.out _ _ ⟨(Jd cq.out 0).trans rfl,(Jd cq.out 1).trans rfl⟩ (fun hHeld=>?_)
   clear hK K
   refine nm_ ?_
   refine one_ (i:=4) (N:=some 74) (tl_ 11 127) rfl rfl (Jz HT_.out (g1_)) (by decide) (fun K hK=>?_)
   refine Kd.R_append_rows_step (Kd.int .i64) (w0:=w) w.heap.size (by rfl) (.tmp 72) (.tmp 73) 22 3 (.int .i64 0) 8 rfl Try.underlying22 info3 rfl (by decide) (by omega) cc1 bp2 l1 _ _ _ (fun k_=>(w.heap.size<=k_)/\some k_≠(am4:Value).ownBlock) (fun _=>False) rfl rfl ?aO ?aR (fun _ _ h=>h) (fun _ h=>h.elim) ?aF ?aB ?aS ?aL ?_
   (case aR=>exact uC_ fs)
   (case aB=>exact(e8))
   (case aF=>exact(fun k_ hk=>⟨(Nat.le_trans (Je (e8)) hk),Kd.fresh' (Kd.R_lt (uR_ qo)) k_ hk⟩))
   (case aO=>exact(yR_ am3 (fun _ hk=>⟨hk.1.1,hk.2⟩)))
   (case aS=>exact(Je (e8)))
   (case aL=>have:=gg3.out;omega)
   intro bh6 w52 ho hb hg hat
   rw[<- gg4.out] at ho
   replace ft:=A_ (Kd.N_afterv (ok:=(fun k_=>(w.heap.size<=k_)/\some k_≠(am4:Value).ownBlock/\k_≠fb)) (yN_ ft (fun _ hk=>⟨⟨hk.1.1.1,⟨hk.2,hk.1.1.2⟩⟩,hk.1.2⟩)) hg hat)
   replace cq:=(bg_ cq hg (Kd.R_ne am3.out cq.out (by decide)))
   replace qo:=A_ (Kd.R_after (ok:=(fun k_=>(w.heap.size<=k_))) (yR_ qo (fun _ hk=>⟨hk.1.1,hk.2⟩)) hg hat)
   replace HB:=A_ (hb)
   have ar2:=A_ (ho)
   clear am3
   clear ho hb hg hat
   refine hK.out _ _ ⟨(Jd cq.out 0).trans rfl,(Jd cq.out 1).trans rfl⟩ (fun hHeld=>?_)
   clear hK K
   refine nm_ ?_
   exact Fa.calls.z0
  skip
  refine rls_ 76 [jv] ?_
  intro am4 w48 am2 hb hg_ hnew_
  clear hg_ hnew_
  (first|rw[<- de7.out] at am2|(simp only[Int.reduceToNat] at am2;rw[<- de7.out] at am2))
  replace ft:=A_ (Kd.N_elder' (uN_ ft) (Kd.R_base am2) hb)
  have qo:=A_ (Kd.R_lower (Kd.R_newM (M:=fun k_=>(w.heap.size<=k_)) am2 (Je (e8)) (fun k_ h_=>h_)) (Je (e8)))
  replace cq:=bb_ cq hb
  replace HB:=hs_ (e8) hb
  clear hb am2
  refine hK.out _ _ ⟨(Jd cq.out 0).trans rfl,(Jd cq.out 1).trans rfl⟩ (fun hHeld=>?_)
  clear hK K
  refine nm_ ?_
  refine one_ (i:=2) (N:=some 72) (tl_ 11 111) rfl rfl (Jz HT_.out (g1_)) (by decide) (fun K hK=>?_)
  refine rls_ 72 [] ?_
  intro cc1 w50 ab9 hb hg_ hnew_
  clear hg_ hnew_
  (first|rw[<- ez4.out] at ab9|(simp only[Int.reduceToNat] at ab9;rw[<- ez4.out] at ab9))
  replace ft:=A_ (Kd.N_elder' (uN_ ft) (Kd.R_base ab9) hb)
  have am3:=A_ (Kd.R_lower (Kd.R_new' (Kd.R_newM (M:=fun k_=>(w.heap.size<=k_)) ab9 (Je (e8)) (fun k_ h_=>h_)) (Kd.R_lt (uR_ qo))) (Je (e8)))
  replace qo:=A_ (Kd.R_elder' (uR_ qo) (Kd.R_base ab9) hb)
  replace cq:=bb_ cq hb
  replace HB:=hs_ (e8) hb
  clear hb ab9
  refine hK.out _ _ ⟨(Jd cq.out 0).trans rfl,(Jd cq.out 1).trans rfl⟩ (fun hHeld=>?_)
  clear hK K
  refine nm_ ?_
  refine one_ (i:=4) (N:=some 74) (tl_ 11 127) rfl rfl (Jz HT_.out (g1_)) (by decide) (fun K hK=>?_)
  refine Kd.R_append_rows_step (Kd.int .i64) (w0:=w) w.heap.size (by rfl) (.tmp 72) (.tmp 73) 22 3 (.int .i64 0) 8 rfl Try.underlying22 info3 rfl (by decide) (by omega) cc1 bp2 l1 _ _ _ (fun k_=>(w.heap.size<=k_)/\some k_≠(am4:Value).ownBlock) (fun _=>False) rfl rfl ?aO ?aR (fun _ _ h=>h) (fun _ h=>h.elim) ?aF ?aB ?aS ?aL ?_
  (case aR=>exact uC_ fs)
  (case aB=>exact(e8))
  (case aF=>exact(fun k_ hk=>⟨(Nat.le_trans (Je (e8)) hk),Kd.fresh' (Kd.R_lt (uR_ qo)) k_ hk⟩))
  (case aO=>exact(yR_ am3 (fun _ hk=>⟨hk.1.1,hk.2⟩)))
  (case aS=>exact(Je (e8)))
  (case aL=>have:=gg3.out;omega)
  intro bh6 w52 ho hb hg hat
  rw[<- gg4.out] at ho
  replace ft:=A_ (Kd.N_afterv (ok:=(fun k_=>(w.heap.size<=k_)/\some k_≠(am4:Value).ownBlock/\k_≠fb)) (yN_ ft (fun _ hk=>⟨⟨hk.1.1.1,⟨hk.1.2,hk.1.1.2⟩⟩,hk.2⟩)) hg hat)
  replace cq:=(bg_ cq hg (Kd.R_ne am3.out cq.out (by decide)))
  replace qo:=A_ (Kd.R_after (ok:=(fun k_=>(w.heap.size<=k_))) (yR_ qo (fun _ hk=>⟨hk.1.1,hk.2⟩)) hg hat)
  replace HB:=A_ (hb)
  have ar2:=A_ (ho)
  clear am3
  clear ho hb hg hat
  refine hK.out _ _ ⟨(Jd cq.out 0).trans rfl,(Jd cq.out 1).trans rfl⟩ (fun hHeld=>?_)
  clear hK K
  refine nm_ ?_
  exact Fa.calls.z0
 rintro⟨cc1,bh6,am4⟩ j5 ⟨hS_,h0_,h1_,h2_,h3_,h4_⟩
 have ar2:Jc (Kd.R (Kd.int .i64) 3 j5 w.heap.size (fun k_=>(w.heap.size<=k_)/\some k_≠(am4:Value).ownBlock) bh6 ah6):=⟨h0_⟩
 have qo:Jc (Kd.R (Kd.int .i64) 3 j5 w.heap.size (fun k_=>(w.heap.size<=k_)/\some k_≠(bh6:Value).ownBlock) am4 rx):=⟨h1_⟩
 replace ft:Jc (Kd.N (Kd.slice 3 (Kd.int .i64)) 22 j5 w.heap.size (fun k_=>(w.heap.size<=k_)/\some k_≠(bh6:Value).ownBlock/\some k_≠(am4:Value).ownBlock/\k_≠fb) (.slice bs qb.length bt) qb):=⟨h2_⟩
 replace cq:Jc (hc_ j5 fb #[.slice af ab.length ac, .slice (some ab8) aa.length ag] 25):=⟨h3_⟩
 replace HB:Jc (Below w.heap.size w j5):=⟨h4_⟩
 clear h0_ h1_ h2_ h3_ h4_
 have hHeld:j5.cell? ⟨fb,0,none⟩=some (.slice af ab.length ac)/\j5.cell? ⟨fb,1,none⟩=some (.slice (some ab8) aa.length ag):=hS_
 obtain⟨xo,wi,cq4⟩:=Kd.R_slice qo.out
 (first|subst cq4|(injection cq4 with f1_ f2_ f3_;have f4_:=f1_.symm;have f5_:=f3_.symm;clear f1_ f2_ f3_;subst f4_;subst f5_))
 refine norm_ (a':=?_) ?_ ?_
 rotate_left
 · exact sq_
 refine one_ (i:=7) (N:=some 77) (tl_ 11 255) rfl rfl (Jz HT_.out (g1_)) (by decide) (fun K hK=>?_)
 refine Kd.R_append_rows_step (Kd.int .i64) (w0:=w) w.heap.size (by rfl) (.tmp 74) (.tmp 76) 22 3 (.int .i64 0) 8 rfl Try.underlying22 info3 rfl (by decide) (by omega) bh6 ah6 rx _ _ _ (fun k_=>(w.heap.size<=k_)/\some k_≠(.slice xo rx.length wi:Value).ownBlock) (fun _=>False) rfl rfl ?aO ?aR (fun _ _ h=>h) (fun _ h=>h.elim) ?aF ?aB ?aS ?aL ?_
 (case aR=>repeat(first|exact(Kd.R_reads' qo.out).2.2|(with_reducible refine Kd.C_alloc ?_ _)|(with_reducible refine Kd.C_drewN ?_ _)|(with_reducible refine Kd.C_drew ?_)))
 (case aB=>exact(e8))
 (case aF=>exact(fun k_ hk=>⟨(Nat.le_trans (Je (e8)) hk),Kd.fresh' (Kd.R_lt (uR_ qo)) k_ hk⟩))
 (case aO=>exact(uR_ ar2))
 (case aS=>exact(Je (e8)))
 (case aL=>have:=km6.out;omega)
 intro nn5 w54 ho hb hg hat
 rw[<- km7.out] at ho
 replace ft:=A_ (Kd.N_afterv (ok:=(fun k_=>(w.heap.size<=k_)/\some k_≠(.slice xo rx.length wi:Value).ownBlock/\k_≠fb)) (yN_ ft (fun _ hk=>⟨⟨hk.1,⟨hk.2.2.1,hk.2.2.2⟩⟩,hk.2.1⟩)) hg hat)
 replace cq:=(bg_ cq hg (Kd.R_ne ar2.out cq.out (by decide)))
 replace qo:=A_ (Kd.R_after (ok:=(fun k_=>(w.heap.size<=k_))) (uR_ qo) hg hat)
 replace HB:=A_ (hb)
 have bp7:=A_ (ho)
 clear ar2
 clear ho hb hg hat
 obtain⟨az,ax,bp8⟩:=Kd.R_slice bp7.out
 (first|subst bp8|(injection bp8 with f1_ f2_ f3_;have f4_:=f1_.symm;have f5_:=f3_.symm;clear f1_ f2_ f3_;subst f4_;subst f5_))
 refine hK.out _ _ ⟨(Jd cq.out 0).trans rfl,(Jd cq.out 1).trans rfl⟩ (fun hHeld=>?_)
 clear hK K
 refine nm_ ?_
 refine one_ (i:=8) (N:=some 78) (tl_ 11 511) rfl rfl (Jz HT_.out (g1_)) (by decide) (fun K hK=>?_)
 refine goes_ Try.func113 (g1_) rfl #[.agg #[.slice af ab.length ac, .slice (some ab8) aa.length ag], .slice az cc0.length ax] (by rfl) rfl rfl (gM_) ?_
 with_reducible refine(ih k4 (g102_) _ _ ab _ _ aa _ _ cc0 wg _ ?side1 ?side2 ?side3 ?side4 ?side5 ?side6 A44.out).mono ?_
 (case side1=>exact uC_ bg)
 (case side2=>exact bw.out)
 (case side3=>exact uC_ bd)
 (case side4=>exact b4.out)
 (case side5=>exact cR_ bp7)
 (case side6=>exact lR_ bp7)
 rintro e w57 ⟨nn6,rfl,ai,hb⟩
 refine⟨_,rfl,?_⟩
 have ez5:=A_ (Kd.N_lower (Kd.N_mono (ok':=fun k_=>(w.heap.size<=k_)/\some k_≠(.slice bs qb.length bt:Value).ownBlock/\some k_≠(.slice xo rx.length wi:Value).ownBlock/\some k_≠(.slice az cc0.length ax:Value).ownBlock/\k_≠fb) ai (fun k_ hk_=>⟨(Nat.le_trans (Je (e8)) hk_),(Kd.fresh' (Kd.N_lt (uN_ ft)) k_ hk_),(Kd.fresh' (Kd.R_lt (uR_ qo)) k_ hk_),(Kd.fresh' (Kd.R_lt (uR_ bp7)) k_ hk_),(Kd.freshB (g:=fb) (o:=.cells #[.slice af ab.length ac, .slice (some ab8) aa.length ag] 25 (0,0)) (uB_ cq) k_ hk_)⟩)) (Je (e8)))
 replace ft:=A_ (Kd.N_elder' (uN_ ft) (Kd.N_base ai) hb)
 replace qo:=rb_ qo hb
 replace bp7:=rb_ bp7 hb
 replace cq:=bb_ cq hb
 replace HB:=hs_ (e8) hb
 obtain⟨ez6,ez7,eb7⟩:=Kd.N_slice ez5.out
 (first|subst eb7|(injection eb7 with f1_ f2_ f3_;have f4_:=f1_.symm;have f5_:=f3_.symm;clear f1_ f2_ f3_;subst f4_;subst f5_))
 refine hK.out _ _ ⟨(Jd cq.out 0).trans rfl,(Jd cq.out 1).trans rfl⟩ (fun hHeld=>?_)
 clear hK K
 refine nm_ ?_
 refine one_ (i:=9) (N:=some 79) (tl_ 11 1023) rfl rfl (Jz HT_.out (g1_)) (by decide) (fun K hK=>?_)
 refine Kd.N_append_rows_step (Kd.slice 3 (Kd.int .i64)) (w0:=w) w.heap.size (by rfl) (.tmp 70) (.tmp 78) 23 22 (.slice none 0 0) 24 rfl Try.underlying23 info22 rfl (by decide) (by omega) (.slice bs qb.length bt) qb wg _ _ _ (fun k_=>(w.heap.size<=k_)/\some k_≠(.slice xo rx.length wi:Value).ownBlock/\some k_≠(.slice az cc0.length ax:Value).ownBlock/\k_≠fb) (fun k_=>((fun k_=>(w.heap.size<=k_)/\some k_≠(.slice xo rx.length wi:Value).ownBlock/\some k_≠(.slice az cc0.length ax:Value).ownBlock/\k_≠fb)) k_/\some k_≠(.slice bs qb.length bt:Value).ownBlock) rfl rfl ?aO ?aR (fun _ hk=>hk) ?aF ?aB ?aS ?aL ?_
 (case aR=>exact(by skip;exact Kd.N_F (Kd.N_mono (ok':=(fun k_=>((fun k_=>(w.heap.size<=k_)/\some k_≠(.slice xo rx.length wi:Value).ownBlock/\some k_≠(.slice az cc0.length ax:Value).ownBlock/\k_≠fb)) k_/\some k_≠(.slice bs qb.length bt:Value).ownBlock)) (ez5.out) (fun k_ hk=>⟨⟨hk.1,⟨hk.2.2.1,⟨hk.2.2.2.1,hk.2.2.2.2⟩⟩⟩,hk.2.1⟩))))
 (case aB=>exact(e8))
 (case aF=>exact(fun k_ hk=>⟨(Nat.le_trans (Je (e8)) hk),Kd.fresh' (Kd.R_lt (uR_ qo)) k_ hk,Kd.fresh' (Kd.R_lt (uR_ bp7)) k_ hk,Kd.freshB (g:=fb) (o:=.cells #[.slice af ab.length ac, .slice (some ab8) aa.length ag] 25 (0,0)) (uB_ cq) k_ hk⟩))
 (case aO=>exact(yN_ ft (fun _ hk=>⟨hk.1.1.1,⟨hk.1.1.2.1,⟨hk.1.2,hk.1.1.2.2⟩⟩⟩)))
 (case aS=>exact(Je (e8)))
 (case aL=>have:=km8.out;omega)
 intro ie3 lp ho hb hg hat
 rw[<- km9.out] at ho
 replace cq:=(bg_ cq hg (Kd.N_ne ft.out cq.out (by decide)))
 replace qo:=A_ (Kd.R_over' (uR_ qo) (Kd.N_typed (uN_ ft)) (by decide) hg)
 replace bp7:=A_ (Kd.R_over' (uR_ bp7) (Kd.N_typed (uN_ ft)) (by decide) hg)
 replace ez5:=A_ (Kd.N_afterv (ok:=(fun k_=>(w.heap.size<=k_)/\some k_≠(.slice xo rx.length wi:Value).ownBlock/\some k_≠(.slice az cc0.length ax:Value).ownBlock/\k_≠fb)) (yN_ ez5 (fun _ hk=>⟨⟨hk.1,⟨hk.2.2.1,⟨hk.2.2.2.1,hk.2.2.2.2⟩⟩⟩,hk.2.1⟩)) hg hat)
 replace HB:=A_ (hb)
 have ah7:=A_ (ho)
 clear ft
 clear ho hb hg hat
 refine hK.out _ _ ⟨(Jd cq.out 0).trans rfl,(Jd cq.out 1).trans rfl⟩ (fun hHeld=>?_)
 clear hK K
 refine nm_ ?_
 refine pw_ 10 5 (tl_ 11 2047) ?_
 refine done_ (done_of HT_.out (g1_)) ?_
 try go_wp2
 go_roundg k4
 case measure=>have:=HJ5.out;have:=HJ17.out;have:=HK3.out;have:=HK4.out;omega
 case rel=>exact⟨(ie2),(wrap64 (jv + 1)),(g3_),H',⟨g102_⟩,⟨by(with_reducible repeat(first|apply Kd.N_alloc|apply Kd.N_drewN|apply Kd.N_drew));exact Kd.N_mono ah7.out (fun _ hk=>⟨hk.1,hk.2.2.2⟩)⟩,⟨uB_ cq⟩,⟨e8⟩⟩
def Gg.l0:Nat->List Int->List Int->Int->Option (Bool)
 | 0,_,_,_=>none
 | k + 1,x0,x1,x5=>if x5 < (x0.length:Int) then(if 0<=x5 then(if x5 < (x1.length:Int) then(if (rd x0 x5)=(rd x1 x5) then(Gg.l0 k x0 x1 (wrap64 (x5 + 1))) else(some (decide ((rd x0 x5) < (rd x1 x5))))) else(none)) else(none)) else(some false)
def Gg.f (k:Nat) (l0:List Int) (l1:List Int):Option (Bool):=if (l0.length:Int)=(l1.length:Int) then(Gg.l0 k l0 l1 0) else(some (decide ((l0.length:Int) < (l1.length:Int))))
set_option maxHeartbeats 8000000 in
set_option maxRecDepth 100000 in
theorem Gg.calls (k:Nat) (A0:Option Addr) (c0:Nat) (l0:List Int) (A1:Option Addr) (c1:Nat) (l1:List Int) (r:Bool) (w:World) (fa:Kd.C (Kd.int .i64) w A0 l0.length l0) (ec:l0.length<=c0) (iu:Kd.C (Kd.int .i64) w A1 l1.length l1) (iz:l1.length<=c1) (h:Gg.f k l0 l1=some r) :
  Calls Try.prog 114 #[.slice A0 l0.length c0, .slice A1 l1.length c1] w fun e w'=>e = .returned (.bool r)/\Drawn0 w w':=by
 have fp:=A_ fa
 have op:=A_ ec
 clear fa ec
 have fs:=A_ iu
 have pe:=A_ iz
 clear iu iz
 have H:=h
 unfold Gg.f at H
 clear h
 by_cases c3:(l0.length:Int)=(l1.length:Int)
 case neg=>
  rw[if_neg c3] at H
  have gj:((l0.length:Int) == (l1.length:Int))=false:=beq_eq_false_iff_ne.mpr c3
  have ny:((l0.length:Int) != (l1.length:Int))=true:=bne_iff_ne.mpr c3
  have ul:(l0.length == l1.length)=false:=by first|simpa using c3|(simp at c3 |-;omega)
  obtain rfl:=Option.some.inj H
  go_enter Try.func114,Try.ntmps114
  go_wp2
  repeat(go_quiet (fail);try go_wp2)
  go_ret
  exact⟨g3_,g5_⟩
 rw[if_pos c3] at H
 have gj:((l0.length:Int) == (l1.length:Int))=true:=beq_iff_eq.mpr c3
 have ny:((l0.length:Int) != (l1.length:Int))=false:=bne_eq_false_iff_eq.mpr c3
 have ul:(l0.length == l1.length)=true:=by first|simpa using c3|(simp at c3 |-;omega)
 clear c3
 have H':=A_ H
 clear H
 go_enter Try.func114,Try.ntmps114
 go_wp2
 repeat(go_quiet (fail);try go_wp2)
 go_loopg [5] k (fun kq v5 w'=>∃(ae:Int),v5 = .int .i64 ae/\Jc (Gg.l0 kq l0 l1 ae=some r)/\Jc (kq<=k)/\Drawn0 w w')
 case atStart=>exact⟨(0),(g3_),H',⟨Nat.le_refl _⟩,g5_⟩
 clear H'
 obtain⟨ae,rfl,HA,HK1,⟨m1,rfl⟩⟩:=hrel
 cases gk with
 | zero=>exact absurd HA.out (by simp[Gg.l0])
 | succ k1=>?_
 have H:=HA.out
 clear HA
 simp only[Gg.l0] at H
 by_cases c4:ae < (l0.length:Int)
 case neg=>
  rw[if_neg c4] at H
  have ic:=decide_eq_false c4
  clear c4
  obtain rfl:=Option.some.inj H
  go_wp2
  repeat(go_quiet (fail);try go_wp2)
  go_ret
  exact⟨g3_,g5_⟩
 rw[if_pos c4] at H
 have ic:=decide_eq_true c4
 clear c4
 obtain⟨kn,H⟩:=pd_ H
 obtain⟨kf,H⟩:=pd_ H
 by_cases c7:(rd l0 ae)=(rd l1 ae)
 ·rw[if_pos c7] at H
  have pz:((rd l0 ae) == (rd l1 ae))=true:=beq_iff_eq.mpr c7
  have bn8:((rd l0 ae) != (rd l1 ae))=false:=bne_eq_false_iff_eq.mpr c7
  clear c7
  have H':=A_ H
  clear H
  obtain⟨⟨eb9,ec0,cq7⟩,ar3,ar4⟩:=rdp_ (Kd.at_int fp.out ae)
  cases ec0
  obtain⟨⟨ie6,gg6,kn7⟩,cq8,cq9⟩:=rdp_ (Kd.at_int fs.out ae)
  cases gg6
  go_wp2
  repeat(go_quiet (fail);try go_wp2)
  go_roundg k1
  case measure=>have:=HK1.out;omega
  case rel=>exact⟨(wrap64 (ae + 1)),(g3_),H',⟨g8_⟩,g5_⟩
 rw[if_neg c7] at H
 have pz:((rd l0 ae) == (rd l1 ae))=false:=beq_eq_false_iff_ne.mpr c7
 have bn8:((rd l0 ae) != (rd l1 ae))=true:=bne_iff_ne.mpr c7
 obtain rfl:=Option.some.inj H
 obtain⟨⟨eb9,ec0,cq7⟩,ar3,ar4⟩:=rdp_ (Kd.at_int fp.out ae)
 cases ec0
 obtain⟨⟨ie6,gg6,kn7⟩,cq8,cq9⟩:=rdp_ (Kd.at_int fs.out ae)
 cases gg6
 obtain⟨⟨kn8,kn9,nn7⟩,gg7,gg8⟩:=rdp_ (Kd.at_int fp.out ae)
 obtain rfl:eb9=kn8:=(by injection kn9)
 obtain⟨⟨ez8,gg9,de8⟩,cc2,cc3⟩:=rdp_ (Kd.at_int fs.out ae)
 obtain rfl:ie6=ez8:=(by injection gg9)
 go_wp2
 repeat(go_quiet (fail);try go_wp2)
 go_ret
 exact⟨g3_,g5_⟩
mutual
def Fg.j1:Nat->List (List Int)->Option ((List (List Int)))
 | 0,_=>none
 | k + 1,x3=>Fg.l1 k x3 1
def Fg.l1:Nat->List (List Int)->Int->Option ((List (List Int)))
 | 0,_,_=>none
 | k + 1,x3,x5=>if x5 < (x3.length:Int) then(Fg.l2 k x3 x5 x5) else(some x3)
def Fg.l2:Nat->List (List Int)->Int->Int->Option ((List (List Int)))
 | 0,_,_,_=>none
 | k + 1,x3,x5,x6=>if x6 > 0 then(if 0<=x6 then(if x6 < (x3.length:Int) then(if 0<=(wrap64 (x6 - 1)) then(if (wrap64 (x6 - 1)) < (x3.length:Int) then((Gg.f k (Jr x3 x6) (Jr x3 (wrap64 (x6 - 1)))).bind fun ec1=>(if ec1=true then(Fg.l2 k ((x3.set (x6:Int).toNat (Jr x3 (wrap64 (x6 - 1)))).set ((wrap64 (x6 - 1)):Int).toNat (Jr x3 x6)) x5 (wrap64 (x6 - 1))) else(Fg.l1 k x3 (wrap64 (x5 + 1))))) else(none)) else(none)) else(none)) else(none)) else(Fg.l1 k x3 (wrap64 (x5 + 1)))
def Fg.l0:Nat->List (List Int)->Int->List Int->List (List Int)->Option ((List (List Int)))
 | 0,_,_,_,_=>none
 | k + 1,x3,x4,ez9,gh0=>if x4 < (ez9.length:Int) then((Fh.f k ez9 gh0).bind fun gh1=>(if gh1=true then((Fa.f k ez9 gh0 (([x4]:List Int))).bind fun am5=>(if x3.length + am5.length < 5864062014805 then(Fg.l0 k (x3 ++ am5) (wrap64 (x4 + 1)) ez9 gh0) else(none))) else(Fg.j1 k x3))) else(Fg.j1 k x3)
end
def Fg.f (k:Nat) (ab:List Int) (aa:List (List Int)):Option ((List (List Int))):=Fg.l0 k (([]:List (List Int))) 0 ab aa
theorem Fg.V_atq {α:Type} {d:Kd α} {e:Nat} {w w1:World} {base n:Nat} {ok:Nat->Prop} {v:Value} {xs:List α} (hq:World.drewN w n=w1) (h:Kd.V d e w base ok v xs):Kd.V d e w1 base ok v xs:=by subst hq;exact Kd.V_drewN h n
theorem g7 {p:Prop} (h:p:=by repeat(first|(with_reducible first|exact HB.out|apply Jk|apply Jj|apply Ji|refine Jh ?_ gh2.out)|exact HB.out)):p:=h
set_option maxHeartbeats 8000000 in
set_option maxRecDepth 100000 in
theorem Fg.calls (k:Nat) (af:Option Addr) (ac:Nat) (ab:List Int) (ah:Option Addr) (ag:Nat) (aa:List (List Int)) (r:List (List Int)) (w:World) (cb:Kd.C (Kd.int .i64) w af ab.length ab) (cg:ab.length<=ac) (cc:Kd.C (Kd.slice 3 (Kd.int .i64)) w ah aa.length aa) (ch:aa.length<=ag) (h:Fg.f k ab aa=some r) :
  Calls Try.prog 95 #[.agg #[.slice af ab.length ac, .slice ah aa.length ag]] w fun e w'=>∃v0_:Value,e = .returned (v0_)/\Kd.N (Kd.slice 3 (Kd.int .i64)) 22 w' w.heap.size (fun k_=>(w.heap.size<=k_)) v0_ r/\Below w.heap.size w w':=by
 have hu25:=Try.underlying25
 have bg:=A_ cb
 have bw:=A_ cg
 clear cb cg
 have bd:=A_ cc
 have b4:=A_ ch
 clear cc ch
 have HB:=A_ (Below.refl w.heap.size w)
 have H:=h
 unfold Fg.f at H
 clear h
 obtain⟨ie7,hyq⟩:∃y_:List (List Int),y_=(([]:List (List Int))):=⟨_,rfl⟩
 replace H:(Fg.l0 k ie7 0 ab aa)=some r:=qh_
 have de9:=A_ hyq
 clear hyq
 have HC2:=A_ H
 clear H
 go_enter Try.func95,Try.ntmps95
 go_upto_block 0 with(first|((with_reducible refine gd_ 1 ?_);refine bx_ (N:=1) #[.slice af ab.length ac, .slice ah aa.length ag] 25 ?_;intro cn hg w3 hbox hb;have dt:=A_ (hbox);have ie8:=A_ ((g67_:w.heap.size<=cn));have gh2:=ie8;replace HB:=hs_ (g7) hb;clear hb hbox hg)|((with_reducible refine gd_ 8 ?_);refine Kd.N_lit (Kd.slice 3 (Kd.int .i64)) _ 22 ?hg (N':=8) ?hd (xs:=([]:List (List Int))) (inner:=[]) (ok:=(fun k_=>(w.heap.size<=k_)/\k_≠cn)) (okp:=(fun k_=>(w.heap.size<=k_)/\k_≠cn)) ?hr ?hp (fun _ hk=>hk) ((show ∀k_,w3.heap.size<=k_->(fun k_=>(w.heap.size<=k_)/\k_≠cn) k_ from fun k_ hk=>⟨(Nat.le_trans (Je (g7)) hk),Kd.freshB (g:=cn) (o:=.cells #[.slice af ab.length ac, .slice ah aa.length ag] 25 (0,0)) (uB_ dt) k_ hk⟩) _ (Nat.le_refl _)) (Below.refl _ _) (Nat.le_refl _) (by simp) ?_;(case hd=>rfl);(case hg=>rfl);(case hr=>first|(go_simp;done)|(go_simp;rfl));(case hp=>exact(Reps.none _ _));intro ie9 w4 kh hb hg_ hnew_;clear hg_ hnew_;(first|rw[<- de9.out] at kh|(simp only[Int.reduceToNat] at kh;rw[<- de9.out] at kh));have gh3:=A_ (Kd.N_lower kh (Je (g7)));replace dt:=bb_ dt hb;replace HB:=hs_ (g7) hb;clear hb kh))
 repeat(go_quiet (first|((with_reducible refine gd_ 1 ?_);refine bx_ (N:=1) #[.slice af ab.length ac, .slice ah aa.length ag] 25 ?_;intro cn hg w3 hbox hb;have dt:=A_ (hbox);have ie8:=A_ ((g67_:w.heap.size<=cn));have gh2:=ie8;replace HB:=hs_ (g7) hb;clear hb hbox hg)|((with_reducible refine gd_ 8 ?_);refine Kd.N_lit (Kd.slice 3 (Kd.int .i64)) _ 22 ?hg (N':=8) ?hd (xs:=([]:List (List Int))) (inner:=[]) (ok:=(fun k_=>(w.heap.size<=k_)/\k_≠cn)) (okp:=(fun k_=>(w.heap.size<=k_)/\k_≠cn)) ?hr ?hp (fun _ hk=>hk) ((show ∀k_,w3.heap.size<=k_->(fun k_=>(w.heap.size<=k_)/\k_≠cn) k_ from fun k_ hk=>⟨(Nat.le_trans (Je (g7)) hk),Kd.freshB (g:=cn) (o:=.cells #[.slice af ab.length ac, .slice ah aa.length ag] 25 (0,0)) (uB_ dt) k_ hk⟩) _ (Nat.le_refl _)) (Below.refl _ _) (Nat.le_refl _) (by simp) ?_;(case hd=>rfl);(case hg=>rfl);(case hr=>first|(go_simp;done)|(go_simp;rfl));(case hp=>exact(Reps.none _ _));intro ie9 w4 kh hb hg_ hnew_;clear hg_ hnew_;(first|rw[<- de9.out] at kh|(simp only[Int.reduceToNat] at kh;rw[<- de9.out] at kh));have gh3:=A_ (Kd.N_lower kh (Je (g7)));replace dt:=bb_ dt hb;replace HB:=hs_ (g7) hb;clear hb kh));go_upto_block 0 with(first|((with_reducible refine gd_ 1 ?_);refine bx_ (N:=1) #[.slice af ab.length ac, .slice ah aa.length ag] 25 ?_;intro cn hg w3 hbox hb;have dt:=A_ (hbox);have ie8:=A_ ((g67_:w.heap.size<=cn));have gh2:=ie8;replace HB:=hs_ (g7) hb;clear hb hbox hg)|((with_reducible refine gd_ 8 ?_);refine Kd.N_lit (Kd.slice 3 (Kd.int .i64)) _ 22 ?hg (N':=8) ?hd (xs:=([]:List (List Int))) (inner:=[]) (ok:=(fun k_=>(w.heap.size<=k_)/\k_≠cn)) (okp:=(fun k_=>(w.heap.size<=k_)/\k_≠cn)) ?hr ?hp (fun _ hk=>hk) ((show ∀k_,w3.heap.size<=k_->(fun k_=>(w.heap.size<=k_)/\k_≠cn) k_ from fun k_ hk=>⟨(Nat.le_trans (Je (g7)) hk),Kd.freshB (g:=cn) (o:=.cells #[.slice af ab.length ac, .slice ah aa.length ag] 25 (0,0)) (uB_ dt) k_ hk⟩) _ (Nat.le_refl _)) (Below.refl _ _) (Nat.le_refl _) (by simp) ?_;(case hd=>rfl);(case hg=>rfl);(case hr=>first|(go_simp;done)|(go_simp;rfl));(case hp=>exact(Reps.none _ _));intro ie9 w4 kh hb hg_ hnew_;clear hg_ hnew_;(first|rw[<- de9.out] at kh|(simp only[Int.reduceToNat] at kh;rw[<- de9.out] at kh));have gh3:=A_ (Kd.N_lower kh (Je (g7)));replace dt:=bb_ dt hb;replace HB:=hs_ (g7) hb;clear hb kh)))
 (try simp only[Act.put,List.setIfInBounds_toArray,List.set_cons_zero,List.set_cons_succ])
 go_cut [3] (fun v3 wc=>∃(kq:Nat) (ci:List (List Int)),Jc (Fg.j1 kq ci=some r)/\Jc (kq<=k)/\Jc (Kd.N (Kd.slice 3 (Kd.int .i64)) 22 wc w.heap.size (fun k_=>(w.heap.size<=k_)/\k_≠cn) v3 ci)/\Jc (hc_ wc cn #[(.slice af ab.length ac),(.slice ah aa.length ag)] 25)/\Jc (Below w.heap.size w wc))
 case first=>
  have H:=HC2.out
  clear HC2
  have H':=A_ H
  clear H
  go_wp2
  repeat(go_quiet (fail);try go_wp2)
  go_loopg [3,4] k (fun kq v3 v4 w'=>∃(ci:List (List Int)) (ar:Int),v4 = .int .i64 ar/\Jc (Fg.l0 kq ci ar ab aa=some r)/\Jc (kq<=k)/\Jc (Kd.N (Kd.slice 3 (Kd.int .i64)) 22 w' w.heap.size (fun k_=>(w.heap.size<=k_)/\k_≠cn) v3 ci)/\Jc (hc_ w' cn #[(.slice af ab.length ac),(.slice ah aa.length ag)] 25)/\Jc (Below w.heap.size w w'))
  case atStart=>exact⟨(ie7),(0),(g3_),H',⟨Nat.le_refl _⟩,⟨uN_ gh3⟩,⟨uB_ dt⟩,⟨g7⟩⟩
  clear H'
  obtain⟨ci,ar,rfl,HA,HK1,a8,dt,HB⟩:=hrel
  cases gk with
  | zero=>exact absurd HA.out (by simp[Fg.l0])
  | succ k1=>?_
  have H:=HA.out
  clear HA
  simp only[Fg.l0] at H
  by_cases c6:ar < (ab.length:Int)
  case neg=>
   rw[if_neg c6] at H
   have kf:=decide_eq_false c6
   clear c6
   (first|rw[kf]|(simp only[i64_w,i32_w];rw[kf])|skip)
   have H':=A_ H
   clear H
   obtain⟨af6,af7,af8,af9⟩:=blk2_ dt
   go_wp2
   repeat(go_quiet (fail);try go_wp2)
   go_meet
   case rel=>exact⟨_,(ci),H',⟨by have:=HK1.out;first|omega|exact Nat.le_refl _⟩,⟨uN_ a8⟩,⟨uB_ dt⟩,⟨g7⟩⟩
  rw[if_pos c6] at H
  have kf:=decide_eq_true c6
  clear c6
  (first|rw[kf]|(simp only[i64_w,i32_w];rw[kf])|skip)
  obtain⟨gh1,A7,H⟩:=bind_ H
  by_cases c8:gh1=true
  case neg=>
   replace c8:=Bool.eq_false_iff.mpr c8
   subst c8
   replace H:=ifn_ H
   have H':=A_ H
   clear H
   obtain⟨bl8,bl9,bm0,bm1⟩:=blk2_ dt
   iterate 2 (go_wp2_with (first|(go_at_call 42;(refine(Fh.calls k1 _ _ ab _ _ aa false _ (uC_ bg) bw.out (uC_ bd) b4.out A7.out).mono ?_);rintro e w21 ⟨rfl,hb⟩;replace a8:=nb_ a8 hb;replace dt:=bb_ dt hb;replace HB:=hs_ (g7) hb));try(go_quiet (first|(go_at_call 42;(refine(Fh.calls k1 _ _ ab _ _ aa false _ (uC_ bg) bw.out (uC_ bd) b4.out A7.out).mono ?_);rintro e w21 ⟨rfl,hb⟩;replace a8:=nb_ a8 hb;replace dt:=bb_ dt hb;replace HB:=hs_ (g7) hb))))
   go_meet
   case rel=>exact⟨_,(ci),H',⟨by have:=HK1.out;first|omega|exact Nat.le_refl _⟩,⟨uN_ a8⟩,⟨uB_ dt⟩,⟨g7⟩⟩
  subst c8
  replace H:=ifp_ H
  obtain⟨xp,hyq⟩:∃y_:List Int,y_=(([ar]:List Int)):=⟨_,rfl⟩
  replace H:((Fa.f k1 ab aa xp).bind fun am5=>(if ci.length + am5.length < 5864062014805 then(Fg.l0 k1 (ci ++ am5) (wrap64 (ar + 1)) ab aa) else(none)))=some r:=qh_
  have df0:=A_ hyq
  clear hyq
  obtain⟨am5,A9,H⟩:=bind_ H
  obtain⟨i1,H⟩:=pos_ H
  have gh4:=A_ i1
  clear i1
  obtain⟨if0,hyq⟩:∃y_:List (List Int),y_=(ci ++ am5):=⟨_,rfl⟩
  replace H:(Fg.l0 k1 if0 (wrap64 (ar + 1)) ab aa)=some r:=qh_
  have gh5:=A_ hyq
  clear hyq
  have H':=A_ H
  clear H
  obtain⟨sr,ss,st,su⟩:=blk2_ dt
  iterate 2 (go_wp2_with (first|(go_at_call 42;(refine(Fh.calls k1 _ _ ab _ _ aa true _ (uC_ bg) bw.out (uC_ bd) b4.out A7.out).mono ?_);rintro e uf ⟨rfl,hb⟩;replace a8:=nb_ a8 hb;replace dt:=bb_ dt hb;replace HB:=hs_ (g7) hb;obtain⟨sv,sw,sx,sy⟩:=blk2_ dt)|((with_reducible refine gd_ 23 ?_);refine rle_ 23 [ar] ?_;intro if1 w14 tq hb hg_ hnew_;clear hg_ hnew_;(first|rw[<- df0.out] at tq|(simp only[Int.reduceToNat] at tq;rw[<- df0.out] at tq));replace a8:=A_ (Kd.N_elder' (uN_ a8) (Kd.R_base tq) hb);have n6:=A_ (Kd.R_lower (Kd.R_newM (M:=fun k_=>(w.heap.size<=k_)) tq (Je (g7)) (fun k_ h_=>h_)) (Je (g7)));replace dt:=bb_ dt hb;replace HB:=hs_ (g7) hb;clear hb tq;obtain⟨s8,s9,cl6⟩:=Kd.R_slice n6.out;subst cl6)|(go_at_call 113;(refine(Fa.calls k1 _ _ ab _ _ aa _ _ xp am5 _ (uC_ bg) bw.out (uC_ bd) b4.out (cR_ n6) (lR_ n6) A9.out).mono ?_);rintro e ug ⟨if2,rfl,ai,hb⟩;have bh8:=A_ (Kd.N_lower (Kd.N_mono (ok':=fun k_=>(w.heap.size<=k_)/\some k_≠(u3:Value).ownBlock/\some k_≠(.slice s8 xp.length s9:Value).ownBlock/\k_≠cn) ai (fun k_ hk_=>⟨(Nat.le_trans (Je (g7)) hk_),(Kd.fresh' (Kd.N_lt (uN_ a8)) k_ hk_),(Kd.fresh' (Kd.R_lt (uR_ n6)) k_ hk_),(Kd.freshB (g:=cn) (o:=.cells #[.slice af ab.length ac, .slice ah aa.length ag] 25 (0,0)) (uB_ dt) k_ hk_)⟩)) (Je (g7)));replace a8:=A_ (Kd.N_elder' (uN_ a8) (Kd.N_base ai) hb);replace n6:=rb_ n6 hb;replace dt:=bb_ dt hb;replace HB:=hs_ (g7) hb;obtain⟨zd,ze,ba6⟩:=Kd.N_slice bh8.out;subst ba6)|((with_reducible refine gate_builtin (b:=.append) (xs:=#[.tmp 20, .tmp 24]) rfl ?_);at_builtin;refine Kd.N_append_rows (Kd.slice 3 (Kd.int .i64)) (w0:=w) w.heap.size rfl (.tmp 20) (.tmp 24) 23 22 (.slice none 0 0) 24 rfl Try.underlying23 info22 rfl (by decide) (by omega) u3 ci am5 _ _ _ (fun k_=>(w.heap.size<=k_)/\some k_≠(.slice s8 xp.length s9:Value).ownBlock/\k_≠cn) (fun k_=>((fun k_=>(w.heap.size<=k_)/\some k_≠(.slice s8 xp.length s9:Value).ownBlock/\k_≠cn)) k_/\some k_≠(u3:Value).ownBlock) rfl rfl ?aO ?aR (fun _ hk=>hk) ?aF ?aB ?aS ?aL ?_;(case aR=>exact(g191_));(case aB=>exact(g7));(case aF=>exact(fun k_ hk=>⟨(Nat.le_trans (Je (g7)) hk),Kd.fresh' (Kd.R_lt (uR_ n6)) k_ hk,Kd.freshB (g:=cn) (o:=.cells #[.slice af ab.length ac, .slice ah aa.length ag] 25 (0,0)) (uB_ dt) k_ hk⟩));(case aO=>exact(g192_));(case aS=>exact(Je (g7)));(case aL=>have:=gh4.out;omega);intro if3 w18 ho hb hg hat;rw[<- gh5.out] at ho;replace dt:=(bg_ dt hg (Kd.N_ne a8.out dt.out (by decide)));replace n6:=A_ (Kd.R_over' (uR_ n6) (Kd.N_typed (uN_ a8)) (by decide) hg);replace bh8:=A_ (Kd.N_afterv (ok:=(fun k_=>(w.heap.size<=k_)/\some k_≠(.slice s8 xp.length s9:Value).ownBlock/\k_≠cn)) (g193_) hg hat);replace HB:=A_ (hb);have gh6:=A_ (ho);clear a8;clear ho hb hg hat));try(go_quiet (first|(go_at_call 42;(refine(Fh.calls k1 _ _ ab _ _ aa true _ (uC_ bg) bw.out (uC_ bd) b4.out A7.out).mono ?_);rintro e uf ⟨rfl,hb⟩;replace a8:=nb_ a8 hb;replace dt:=bb_ dt hb;replace HB:=hs_ (g7) hb;obtain⟨sv,sw,sx,sy⟩:=blk2_ dt)|(go_at_call 113;(refine(Fa.calls k1 _ _ ab _ _ aa _ _ xp am5 _ (uC_ bg) bw.out (uC_ bd) b4.out (cR_ n6) (lR_ n6) A9.out).mono ?_);rintro e ug ⟨if2,rfl,ai,hb⟩;have bh8:=A_ (Kd.N_lower (Kd.N_mono (ok':=fun k_=>(w.heap.size<=k_)/\some k_≠(u3:Value).ownBlock/\some k_≠(.slice s8 xp.length s9:Value).ownBlock/\k_≠cn) ai (fun k_ hk_=>⟨(Nat.le_trans (Je (g7)) hk_),(Kd.fresh' (Kd.N_lt (uN_ a8)) k_ hk_),(Kd.fresh' (Kd.R_lt (uR_ n6)) k_ hk_),(Kd.freshB (g:=cn) (o:=.cells #[.slice af ab.length ac, .slice ah aa.length ag] 25 (0,0)) (uB_ dt) k_ hk_)⟩)) (Je (g7)));replace a8:=A_ (Kd.N_elder' (uN_ a8) (Kd.N_base ai) hb);replace n6:=rb_ n6 hb;replace dt:=bb_ dt hb;replace HB:=hs_ (g7) hb;obtain⟨zd,ze,ba6⟩:=Kd.N_slice bh8.out;subst ba6))))
  go_roundg k1
  case measure=>have:=HK1.out;omega
  case rel=>exact⟨(if0),(wrap64 (ar + 1)),(g3_),H',⟨g8_⟩,⟨by(with_reducible repeat(first|apply Kd.N_alloc|apply Kd.N_drewN|apply Kd.N_drew));exact Kd.N_mono gh6.out (fun _ hk=>⟨hk.1,hk.2.2⟩)⟩,⟨uB_ dt⟩,⟨g7⟩⟩
 clear HC2
 obtain⟨kq,ci,HA,HJ1,a8,dt,HB⟩:=hcut
 cases kq with
 | zero=>exact absurd HA.out (by simp[Fg.j1])
 | succ kj1=>?_
 have H:=HA.out
 clear HA
 simp only[Fg.j1] at H
 have H':=A_ H
 clear H
 go_wp2
 repeat(go_quiet (fail);try go_wp2)
 go_loopg [5] kj1 (fun kq v5 w'=>∃(ed:List (List Int)) (cv:Int),v5 = .int .i64 cv/\Jc (Fg.l1 kq ed cv=some r)/\Jc (kq<=kj1)/\Jc (Kd.N (Kd.slice 3 (Kd.int .i64)) 22 w' w.heap.size (fun k_=>(w.heap.size<=k_)/\k_≠cn) u3 ed)/\Jc (hc_ w' cn #[(.slice af ab.length ac),(.slice ah aa.length ag)] 25)/\Jc (Below w.heap.size w w'))
 case atStart=>exact⟨(ci),(1),(g3_),H',⟨Nat.le_refl _⟩,⟨uN_ a8⟩,⟨uB_ dt⟩,⟨g7⟩⟩
 clear H'
 obtain⟨ed,cv,rfl,HA,HK2,a8,dt,HB⟩:=hrel
 cases gk with
 | zero=>exact absurd HA.out (by simp[Fg.l1])
 | succ k2=>?_
 have H:=HA.out
 clear HA
 simp only[Fg.l1] at H
 by_cases my:cv < (ed.length:Int)
 case neg=>
  rw[if_neg my] at H
  have bn7:=decide_eq_false my
  clear my
  obtain rfl:=Option.some.inj H
  obtain⟨ai0,zf,am7⟩:=Kd.N_slice a8.out
  subst am7
  go_wp2
  repeat(go_quiet (fail);try go_wp2)
  go_ret
  exact⟨_,g4_,by(with_reducible repeat(first|apply Kd.N_alloc|apply Kd.N_drewN|apply Kd.N_drew));exact Kd.N_mono a8.out (fun _ hk=>hk.1),g7⟩
 rw[if_pos my] at H
 have bn7:=decide_eq_true my
 clear my
 have H':=A_ H
 clear H
 obtain⟨ab5,ew,ca8⟩:=Kd.N_slice a8.out
 subst ca8
 go_wp2
 repeat(go_quiet (fail);try go_wp2)
 go_loopg [6] k2 (fun kq v6 w'=>∃(ba:List (List Int)) (d3:Int),v6 = .int .i64 d3/\Jc (Fg.l2 kq ba cv d3=some r)/\Jc (kq<=k2)/\Jc (Kd.N (Kd.slice 3 (Kd.int .i64)) 22 w' w.heap.size (fun k_=>(w.heap.size<=k_)/\k_≠cn) (.slice ab5 ed.length ew) ba)/\Jc (hc_ w' cn #[(.slice af ab.length ac),(.slice ah aa.length ag)] 25)/\Jc (Below w.heap.size w w'))
 case atStart=>exact⟨(ed),(cv),(g3_),H',⟨Nat.le_refl _⟩,⟨uN_ a8⟩,⟨uB_ dt⟩,⟨g7⟩⟩
 clear H'
 obtain⟨ba,d3,rfl,HA,HK3,a8,dt,HB⟩:=hrel
 have cc4:=(Kd.N_reads' a8.out).1
 rw[cc4] at a8
 (try simp only[cc4])
 (try simp only[cc4] at dt)
 cases gk with
 | zero=>exact absurd HA.out (by simp[Fg.l2])
 | succ k3=>?_
 have H:=HA.out
 clear HA
 simp only[Fg.l2] at H
 by_cases l6:d3 > 0
 case neg=>
  rw[if_neg l6] at H
  have bg1:=decide_eq_false l6
  clear l6
  have H':=A_ H
  clear H
  go_wp2
  repeat(go_quiet (fail);try go_wp2)
  (try simp only[<- cc4])
  go_roundg k3
  case measure=>have:=HJ1.out;have:=HK2.out;have:=HK3.out;omega
  case rel=>exact⟨(ba),(wrap64 (cv + 1)),(g3_),H',⟨g196_⟩,⟨g197_⟩,⟨g198_⟩,⟨g7⟩⟩
 rw[if_pos l6] at H
 have bg1:=decide_eq_true l6
 clear l6
 obtain⟨co0,H⟩:=pd_ H
 obtain⟨cb0,H⟩:=pd_ H
 obtain⟨ji28,hji28⟩:∃j_:Int,(wrap64 (d3 - 1))=j_:=⟨_,rfl⟩
 first|rw[hji28] at H|simp only[hji28] at H
 have hji28w:(IntKind.i64.wrap (d3 - 1))=ji28:=(i64_w _).trans hji28
 obtain⟨gh7,H⟩:=pd_ H
 obtain⟨de1,H⟩:=pd_ H
 obtain⟨ec1,A31,H⟩:=bind_ H
 by_cases xn:ec1=true
 ·subst xn
  replace H:=ifp_ H
  obtain⟨ba7,hyq⟩:∃y_:List (List Int),y_=(ba.set (d3:Int).toNat (Jr ba (ji28))):=⟨_,rfl⟩
  replace H:(Fg.l2 k3 (ba7.set ((ji28):Int).toNat (Jr ba d3)) cv ji28)=some r:=qh_
  have gh8:=A_ hyq
  clear hyq
  obtain⟨ec2,hyq⟩:∃y_:List (List Int),y_=(ba7.set ((ji28):Int).toNat (Jr ba d3)):=⟨_,rfl⟩
  replace H:(Fg.l2 k3 ec2 cv ji28)=some r:=qh_
  have gh9:=A_ hyq
  clear hyq
  have H':=A_ H
  clear H
  have bp9:0<=(d3:Int):=od_
  have bq0:d3 < (ba.length:Int):=od_
  obtain⟨bq1,bh9,bi0,gi0,bq2,ec3,ec4⟩:=at_L1 (Kd.N_reads' a8.out).2.2 d3 bp9 bq0
  cases gi0
  obtain⟨ce315,hce315,hMe315,hcc315⟩:=Kd.N_get a8.out [] d3 bp9 (by first|exact bq0|exact od_|(have e_:=(Kd.N_reads' a8.out).1;omega))
  obtain⟨ua315_0,uc315_0,rfl,ul315_0,ge315_0⟩:=Kd.FK_slice_open hMe315
  have hv315_0:=hcc315 0 _ rfl
  rw[Nat.add_zero,show((Kd.slice 3 (Kd.int .i64))).sz=1 from rfl,Nat.mul_one] at hv315_0
  replace hv315_0:=Option.some.inj (hv315_0.symm.trans bq2)
  injection hv315_0 with hva_ hvn_ hvc_
  rw[hva_] at ge315_0
  rw[hvc_] at ul315_0
  have qc:=A_ (show Kd.V (Kd.int .i64) 3 _ w.heap.size _ _ (Jr ba d3) from Kd.V_mk ul315_0 ge315_0)
  clear hva_ hvn_ hvc_ ge315_0 ul315_0
  clear hcc315 hce315
  have gi1:=A_ ec4
  have cr0:=A_ ec3
  clear ec4 ec3
  replace bp9:=eq_true bp9
  replace bq0:=eq_true bq0
  have bq3:0<=((ji28):Int):=od_
  have bq4:(ji28) < (ba.length:Int):=od_
  obtain⟨gi2,bi1,bi2,gi3,bq5,ec5,ec6⟩:=at_L1 (Kd.N_reads' a8.out).2.2 (ji28) bq3 bq4
  obtain rfl:bq1=gi2:=(by injection gi3)
  obtain⟨ce316,hce316,hMe316,hcc316⟩:=Kd.N_get a8.out [] (ji28) bq3 (by first|exact bq4|exact od_|(have e_:=(Kd.N_reads' a8.out).1;omega))
  obtain⟨ua316_0,uc316_0,rfl,ul316_0,ge316_0⟩:=Kd.FK_slice_open hMe316
  have hv316_0:=hcc316 0 _ rfl
  rw[Nat.add_zero,show((Kd.slice 3 (Kd.int .i64))).sz=1 from rfl,Nat.mul_one] at hv316_0
  replace hv316_0:=Option.some.inj (hv316_0.symm.trans bq5)
  injection hv316_0 with hva_ hvn_ hvc_
  rw[hva_] at ge316_0
  rw[hvc_] at ul316_0
  have qd:=A_ (show Kd.V (Kd.int .i64) 3 _ w.heap.size _ _ (Jr ba (ji28)) from Kd.V_mk ul316_0 ge316_0)
  clear hva_ hvn_ hvc_ ge316_0 ul316_0
  clear hcc316 hce316
  have gi4:=A_ ec6
  have cr1:=A_ ec5
  clear ec6 ec5
  replace bq3:=eq_true bq3
  replace bq4:=eq_true bq4
  iterate 2 (go_wp2_with (first|(go_at_call 114;(refine(Gg.calls k3 _ _ (Jr ba d3) _ _ (Jr ba (ji28)) true _ (cu_ (g68_)) cr0.out (cu_ (g69_)) cr1.out A31.out).mono ?_);rintro e w' ⟨rfl,⟨nd,rfl⟩⟩;(try first|exact⟨rfl,_,World.drewN_drewN _ _ _⟩|exact⟨rfl,_,Eq.trans (World.drewN_drewN _ _ _) (congrArg (World.drewN _) (Nat.add_assoc _ _ _))⟩);have ah8:0<=(d3:Int):=od_;have ar5:d3 < (ba.length:Int):=od_;obtain⟨ec7,if4,if5,ec8,ba8,cc5,cc6⟩:=at_L1 (Kd.N_reads' a8.out).2.2 d3 ah8 ar5;obtain rfl:bq1=ec7:=(by injection ec8);obtain⟨ce318,hce318,hMe318,hcc318⟩:=Kd.N_get a8.out [] d3 ah8 (g194_);obtain⟨ua318_0,uc318_0,rfl,ul318_0,ge318_0⟩:=Kd.FK_slice_open hMe318;have hv318_0:=hcc318 0 _ rfl;rw[Nat.add_zero,show((Kd.slice 3 (Kd.int .i64))).sz=1 from rfl,Nat.mul_one] at hv318_0;replace hv318_0:=Option.some.inj (hv318_0.symm.trans ba8);injection hv318_0 with hva_ hvn_ hvc_;rw[hva_] at ge318_0;rw[hvc_] at ul318_0;have k6:=A_ (show Kd.V (Kd.int .i64) 3 _ w.heap.size _ _ (Jr ba d3) from Kd.V_mk ul318_0 ge318_0);clear hva_ hvn_ hvc_ ge318_0 ul318_0;clear hcc318 hce318;have if6:=A_ cc6;have if7:=A_ cc5;clear cc6 cc5;replace ah8:=eq_true ah8;replace ar5:=eq_true ar5;have ea_:=Option.some.inj (bq2.symm.trans ba8);injection ea_ with ea_ en_ ec_;subst ea_;subst ec_;clear en_;have ah9:0<=((ji28):Int):=od_;have ar6:(ji28) < (ba.length:Int):=od_;obtain⟨ec9,if8,if9,ed0,ba9,cc7,cc8⟩:=at_L1 (Kd.N_reads' a8.out).2.2 (ji28) ah9 ar6;obtain rfl:bq1=ec9:=(by injection ed0);obtain⟨ce319,hce319,hMe319,hcc319⟩:=Kd.N_get a8.out [] (ji28) ah9 (g195_);obtain⟨ua319_0,uc319_0,rfl,ul319_0,ge319_0⟩:=Kd.FK_slice_open hMe319;have hv319_0:=hcc319 0 _ rfl;rw[Nat.add_zero,show((Kd.slice 3 (Kd.int .i64))).sz=1 from rfl,Nat.mul_one] at hv319_0;replace hv319_0:=Option.some.inj (hv319_0.symm.trans ba9);injection hv319_0 with hva_ hvn_ hvc_;rw[hva_] at ge319_0;rw[hvc_] at ul319_0;have k7:=A_ (show Kd.V (Kd.int .i64) 3 _ w.heap.size _ _ (Jr ba (ji28)) from Kd.V_mk ul319_0 ge319_0);clear hva_ hvn_ hvc_ ge319_0 ul319_0;clear hcc319 hce319;have ig0:=A_ cc8;have ig1:=A_ cc7;clear cc8 cc7;replace ah9:=eq_true ah9;replace ar6:=eq_true ar6;have ea_:=Option.some.inj (bq5.symm.trans ba9);injection ea_ with ea_ en_ ec_;subst ea_;subst ec_;clear en_;have p33:0<=(d3:Int):=od_;have q33:(d3:Int) < ((ba.length:Int):Int):=od_;obtain⟨di,b7,am6,cc9,gl33,cl33,HG33⟩:=Kd.N_form a8.out (by omega);(first|cases am6|(injection am6 with ea_ en_ ec_;(first|subst ea_|(injection ea_ with ea_;subst ea_));subst ec_;clear en_));have GB33:=A_ cc9;have GG33:=A_ HG33;clear cc9 gl33 HG33;(first|simp only[add_plain] at bq2|skip);(first|simp only[add_plain] at bq5|skip);(first|simp only[add_plain] at ba8|skip);(first|simp only[add_plain] at ba9|skip);obtain⟨ce33,hcl33,hM33,hcc33,hfr33⟩:=Kd.N_elem a8.out [] (d3:Int) p33 q33;obtain⟨ua33_0,uc33_0,rfl,ul33_0,ge33_0⟩:=Kd.FK_slice_open hM33;have ed1:=hcc33 0 _ rfl;have hf33_0:=hfr33 0;(try simp only[show((Kd.slice 3 (Kd.int .i64))).sz=1 from rfl,Nat.mul_one,Nat.add_zero] at ed1);(try simp only[show((Kd.slice 3 (Kd.int .i64))).sz=1 from rfl,Nat.mul_one,Nat.add_zero] at hf33_0);clear hcl33 hcc33 hfr33 hM33;replace p33:=eq_true p33;replace q33:=eq_true q33;have HX35:=A_ (show Kd.N (Kd.slice 3 (Kd.int .i64)) 22 wr w.heap.size (fun k_=>(w.heap.size<=k_)/\k_≠cn) (.slice (some ⟨di,0,none⟩) ba.length ew) ba from(uN_ a8));obtain⟨ce35,hcl35,hM35,hcc35,hfr35⟩:=Kd.N_elem HX35.out [] (d3:Int) (od_) (by have h_:(d3:Int) < ((ba.length:Int):Int):=od_;first|exact h_|(have e_:=(Kd.N_reads' a8.out).1;omega)|simpa using h_);obtain⟨ua35_0,uc35_0,rfl,ul35_0,ge35_0⟩:=Kd.FK_slice_open hM35;have HP35:=Kd.N_seg HX35.out (d3:Int) (od_) (by have h_:(d3:Int) < ((ba.length:Int):Int):=od_;first|exact h_|(have e_:=(Kd.N_reads' a8.out).1;omega)|simpa using h_) (seg:=[.slice bi1 (Jr ba (ji28)).length bi2]) (j:=0) hcl35 hcc35 (show 1<=1 from by decide) (x':=Jr ba (ji28)) (Kd.FK_slice_mk (Kd.V_reads' (Kd.V_mono (ok':=(fun k_=>((fun k_=>(w.heap.size<=k_)/\k_≠cn)) k_/\k_≠di)) (k7.out) (fun k_ hk=>⟨⟨hk.1.1,hk.1.2⟩,fun e_=>(hk.2) (g6_)⟩))).2.1 (Kd.V_F (Kd.V_mono (ok':=(fun k_=>((fun k_=>(w.heap.size<=k_)/\k_≠cn)) k_/\k_≠di)) (k7.out) (fun k_ hk=>⟨⟨hk.1.1,hk.1.2⟩,fun e_=>(hk.2) (g6_)⟩)))) (fun _ hk=>hk);have al9:=hcc35 0 _ rfl;(try simp only[show((Kd.slice 3 (Kd.int .i64))).sz=1 from rfl,Nat.mul_one,Nat.add_zero] at al9);have hf35_0:=hfr35 0;(try simp only[show((Kd.slice 3 (Kd.int .i64))).sz=1 from rfl,Nat.mul_one,Nat.add_zero] at hf35_0);clear hcl35 hcc35 hfr35 hM35;(try simp only[show((Kd.slice 3 (Kd.int .i64))).sz=1 from rfl,Nat.mul_one,Nat.add_zero] at HP35);(try simp only[show((Kd.slice 3 (Kd.int .i64))).sz=1 from rfl,Nat.mul_one,Nat.add_zero] at HP35))|((with_reducible refine gate_store (t:=22) (p:=60) rfl ?_);(try(rw[drewN_self wr];generalize hq_:World.drewN wr _=wr;replace a8:=A_ (Kd.N_at hq_ a8.out);replace qc:=A_ (Fg.V_atq hq_ qc.out);replace qd:=A_ (Fg.V_atq hq_ qd.out);replace k6:=A_ (Fg.V_atq hq_ k6.out);replace k7:=A_ (Fg.V_atq hq_ k7.out);replace dt:=A_ (blk_at hq_ dt.out);replace HB:=A_ (below_at hq_ HB.out);clear hq_;(try(have HX35:=A_ (show Kd.N (Kd.slice 3 (Kd.int .i64)) 22 wr w.heap.size (fun k_=>(w.heap.size<=k_)/\k_≠cn) (.slice (some ⟨di,0,none⟩) ba.length ew) ba from(uN_ a8))));(try(obtain⟨ce35,hcl35,hM35,hcc35,hfr35⟩:=Kd.N_elem HX35.out [] (d3:Int) (od_) (by have h_:(d3:Int) < ((ba.length:Int):Int):=od_;first|exact h_|(have e_:=(Kd.N_reads' a8.out).1;omega)|simpa using h_)));(try(obtain⟨ua35_0,uc35_0,rfl,ul35_0,ge35_0⟩:=Kd.FK_slice_open hM35));(try(have HP35:=Kd.N_seg HX35.out (d3:Int) (od_) (by have h_:(d3:Int) < ((ba.length:Int):Int):=od_;first|exact h_|(have e_:=(Kd.N_reads' a8.out).1;omega)|simpa using h_) (seg:=[.slice bi1 (Jr ba (ji28)).length bi2]) (j:=0) hcl35 hcc35 (show 1<=1 from by decide) (x':=Jr ba (ji28)) (Kd.FK_slice_mk (Kd.V_reads' (Kd.V_mono (ok':=(fun k_=>((fun k_=>(w.heap.size<=k_)/\k_≠cn)) k_/\k_≠di)) (k7.out) (fun k_ hk=>⟨⟨hk.1.1,hk.1.2⟩,fun e_=>(hk.2) (g6_)⟩))).2.1 (Kd.V_F (Kd.V_mono (ok':=(fun k_=>((fun k_=>(w.heap.size<=k_)/\k_≠cn)) k_/\k_≠di)) (k7.out) (fun k_ hk=>⟨⟨hk.1.1,hk.1.2⟩,fun e_=>(hk.2) (g6_)⟩)))) (fun _ hk=>hk)));(try(have al9:=hcc35 0 _ rfl));(try(try simp only[show((Kd.slice 3 (Kd.int .i64))).sz=1 from rfl,Nat.mul_one,Nat.add_zero] at al9));(try(have hf35_0:=hfr35 0));(try(try simp only[show((Kd.slice 3 (Kd.int .i64))).sz=1 from rfl,Nat.mul_one,Nat.add_zero] at hf35_0));(try(clear hcl35 hcc35 hfr35 hM35));(try(try simp only[show((Kd.slice 3 (Kd.int .i64))).sz=1 from rfl,Nat.mul_one,Nat.add_zero] at HP35));(try(try simp only[show((Kd.slice 3 (Kd.int .i64))).sz=1 from rfl,Nat.mul_one,Nat.add_zero] at HP35))));refine store_event (t:=22) (p:=60) (v:=?vo_w36) (w1:=(wr.setCell ⟨di,(d3:Int).toNat,none⟩ (.slice bi1 (Jr ba (ji28)).length bi2))) ?hg ?ho ?hn ?hr ?_;(case ho=>rfl);(case hg=>rfl);(case hn=>rfl);(case hr=>first|(go_simp;done)|(go_simp;rfl));intro kt hw;have hg:wr.grownBy kt (some di):=(by rw[hw];exact HP35.2);have hp_:Kd.N (Kd.slice 3 (Kd.int .i64)) 22 kt w.heap.size (fun k_=>(w.heap.size<=k_)/\k_≠cn) (.slice (some ⟨di,0,none⟩) ba.length ew) ba7:=(by rw[hw,gh8.out];exact HP35.1);clear HP35;replace dt:=(bg_ dt hg (Kd.N_ne a8.out dt.out (by decide)));replace a8:=A_ (hp_);replace qc:=A_ (Kd.V_afterv (v:=(.slice (some ⟨di,0,none⟩) ba.length ew)) (v1:=(.slice (some ⟨di,0,none⟩) ba.length ew)) (ok:=(fun k_=>(w.heap.size<=k_)/\k_≠cn)) (uV_ qc) hg (.inl rfl));replace qd:=A_ (Kd.V_afterv (v:=(.slice (some ⟨di,0,none⟩) ba.length ew)) (v1:=(.slice (some ⟨di,0,none⟩) ba.length ew)) (ok:=(fun k_=>(w.heap.size<=k_)/\k_≠cn)) (uV_ qd) hg (.inl rfl));replace k6:=A_ (Kd.V_afterv (v:=(.slice (some ⟨di,0,none⟩) ba.length ew)) (v1:=(.slice (some ⟨di,0,none⟩) ba.length ew)) (ok:=(fun k_=>(w.heap.size<=k_)/\k_≠cn)) (uV_ k6) hg (.inl rfl));replace k7:=A_ (Kd.V_afterv (v:=(.slice (some ⟨di,0,none⟩) ba.length ew)) (v1:=(.slice (some ⟨di,0,none⟩) ba.length ew)) (ok:=(fun k_=>(w.heap.size<=k_)/\k_≠cn)) (uV_ k7) hg (.inl rfl));replace HB:=A_ ((g70_:Below w.heap.size w kt));clear hg hw hp_;have p34:0<=((ji28):Int):=od_;have q34:((ji28):Int) < ((ba.length:Int):Int):=od_;obtain⟨ce34,hcl34,hM34,hcc34,hfr34⟩:=Kd.N_elem a8.out [] ((ji28):Int) p34 q34;obtain⟨ua34_0,uc34_0,rfl,ul34_0,ge34_0⟩:=Kd.FK_slice_open hM34;have ed2:=hcc34 0 _ rfl;have hf34_0:=hfr34 0;(try simp only[show((Kd.slice 3 (Kd.int .i64))).sz=1 from rfl,Nat.mul_one,Nat.add_zero] at ed2);(try simp only[show((Kd.slice 3 (Kd.int .i64))).sz=1 from rfl,Nat.mul_one,Nat.add_zero] at hf34_0);clear hcl34 hcc34 hfr34 hM34;replace p34:=eq_true p34;replace q34:=eq_true q34;have HX37:=A_ (show Kd.N (Kd.slice 3 (Kd.int .i64)) 22 kt w.heap.size (fun k_=>(w.heap.size<=k_)/\k_≠cn) (.slice (some ⟨di,0,none⟩) ba.length ew) ba7 from(uN_ a8));obtain⟨ce37,hcl37,hM37,hcc37,hfr37⟩:=Kd.N_elem HX37.out [] ((ji28):Int) (od_) (by have h_:((ji28):Int) < ((ba.length:Int):Int):=od_;first|exact h_|(have e_:=(Kd.N_reads' a8.out).1;omega)|simpa using h_);obtain⟨ua37_0,uc37_0,rfl,ul37_0,ge37_0⟩:=Kd.FK_slice_open hM37;have HP37:=Kd.N_seg HX37.out ((ji28):Int) (od_) (by have h_:((ji28):Int) < ((ba.length:Int):Int):=od_;first|exact h_|(have e_:=(Kd.N_reads' a8.out).1;omega)|simpa using h_) (seg:=[.slice bh9 (Jr ba d3).length bi0]) (j:=0) hcl37 hcc37 (show 1<=1 from by decide) (x':=Jr ba d3) (Kd.FK_slice_mk (Kd.V_reads' (Kd.V_mono (ok':=(fun k_=>((fun k_=>(w.heap.size<=k_)/\k_≠cn)) k_/\k_≠di)) (k6.out) (fun k_ hk=>⟨⟨hk.1.1,hk.1.2⟩,fun e_=>(hk.2) (g6_)⟩))).2.1 (Kd.V_F (Kd.V_mono (ok':=(fun k_=>((fun k_=>(w.heap.size<=k_)/\k_≠cn)) k_/\k_≠di)) (k6.out) (fun k_ hk=>⟨⟨hk.1.1,hk.1.2⟩,fun e_=>(hk.2) (g6_)⟩)))) (fun _ hk=>hk);have bb0:=hcc37 0 _ rfl;(try simp only[show((Kd.slice 3 (Kd.int .i64))).sz=1 from rfl,Nat.mul_one,Nat.add_zero] at bb0);have hf37_0:=hfr37 0;(try simp only[show((Kd.slice 3 (Kd.int .i64))).sz=1 from rfl,Nat.mul_one,Nat.add_zero] at hf37_0);clear hcl37 hcc37 hfr37 hM37;(try simp only[show((Kd.slice 3 (Kd.int .i64))).sz=1 from rfl,Nat.mul_one,Nat.add_zero] at HP37);(try simp only[show((Kd.slice 3 (Kd.int .i64))).sz=1 from rfl,Nat.mul_one,Nat.add_zero] at HP37))|((with_reducible refine gate_store (t:=22) (p:=65) rfl ?_);(try(rw[drewN_self kt];generalize hq_:World.drewN kt _=kt;replace a8:=A_ (Kd.N_at hq_ a8.out);replace qc:=A_ (Fg.V_atq hq_ qc.out);replace qd:=A_ (Fg.V_atq hq_ qd.out);replace k6:=A_ (Fg.V_atq hq_ k6.out);replace k7:=A_ (Fg.V_atq hq_ k7.out);replace dt:=A_ (blk_at hq_ dt.out);replace HB:=A_ (below_at hq_ HB.out);clear hq_;(try(have HX37:=A_ (show Kd.N (Kd.slice 3 (Kd.int .i64)) 22 kt w.heap.size (fun k_=>(w.heap.size<=k_)/\k_≠cn) (.slice (some ⟨di,0,none⟩) ba.length ew) ba7 from(uN_ a8))));(try(obtain⟨ce37,hcl37,hM37,hcc37,hfr37⟩:=Kd.N_elem HX37.out [] ((ji28):Int) (od_) (by have h_:((ji28):Int) < ((ba.length:Int):Int):=od_;first|exact h_|(have e_:=(Kd.N_reads' a8.out).1;omega)|simpa using h_)));(try(obtain⟨ua37_0,uc37_0,rfl,ul37_0,ge37_0⟩:=Kd.FK_slice_open hM37));(try(have HP37:=Kd.N_seg HX37.out ((ji28):Int) (od_) (by have h_:((ji28):Int) < ((ba.length:Int):Int):=od_;first|exact h_|(have e_:=(Kd.N_reads' a8.out).1;omega)|simpa using h_) (seg:=[.slice bh9 (Jr ba d3).length bi0]) (j:=0) hcl37 hcc37 (show 1<=1 from by decide) (x':=Jr ba d3) (Kd.FK_slice_mk (Kd.V_reads' (Kd.V_mono (ok':=(fun k_=>((fun k_=>(w.heap.size<=k_)/\k_≠cn)) k_/\k_≠di)) (k6.out) (fun k_ hk=>⟨⟨hk.1.1,hk.1.2⟩,fun e_=>(hk.2) (g6_)⟩))).2.1 (Kd.V_F (Kd.V_mono (ok':=(fun k_=>((fun k_=>(w.heap.size<=k_)/\k_≠cn)) k_/\k_≠di)) (k6.out) (fun k_ hk=>⟨⟨hk.1.1,hk.1.2⟩,fun e_=>(hk.2) (g6_)⟩)))) (fun _ hk=>hk)));(try(have bb0:=hcc37 0 _ rfl));(try(try simp only[show((Kd.slice 3 (Kd.int .i64))).sz=1 from rfl,Nat.mul_one,Nat.add_zero] at bb0));(try(have hf37_0:=hfr37 0));(try(try simp only[show((Kd.slice 3 (Kd.int .i64))).sz=1 from rfl,Nat.mul_one,Nat.add_zero] at hf37_0));(try(clear hcl37 hcc37 hfr37 hM37));(try(try simp only[show((Kd.slice 3 (Kd.int .i64))).sz=1 from rfl,Nat.mul_one,Nat.add_zero] at HP37));(try(try simp only[show((Kd.slice 3 (Kd.int .i64))).sz=1 from rfl,Nat.mul_one,Nat.add_zero] at HP37))));refine store_event (t:=22) (p:=65) (v:=?vo_w38) (w1:=(kt.setCell ⟨di,((ji28):Int).toNat,none⟩ (.slice bh9 (Jr ba d3).length bi0))) ?hg ?ho ?hn ?hr ?_;(case ho=>rfl);(case hg=>rfl);(case hn=>rfl);(case hr=>first|(go_simp;done)|(go_simp;rfl));intro lh hw;have hg:kt.grownBy lh (some di):=(by rw[hw];exact HP37.2);have hp_:Kd.N (Kd.slice 3 (Kd.int .i64)) 22 lh w.heap.size (fun k_=>(w.heap.size<=k_)/\k_≠cn) (.slice (some ⟨di,0,none⟩) ba.length ew) ec2:=(by rw[hw,gh9.out];exact HP37.1);clear HP37;replace dt:=(bg_ dt hg (Kd.N_ne a8.out dt.out (by decide)));replace a8:=A_ (hp_);replace qc:=A_ (Kd.V_afterv (v:=(.slice (some ⟨di,0,none⟩) ba.length ew)) (v1:=(.slice (some ⟨di,0,none⟩) ba.length ew)) (ok:=(fun k_=>(w.heap.size<=k_)/\k_≠cn)) (uV_ qc) hg (.inl rfl));replace qd:=A_ (Kd.V_afterv (v:=(.slice (some ⟨di,0,none⟩) ba.length ew)) (v1:=(.slice (some ⟨di,0,none⟩) ba.length ew)) (ok:=(fun k_=>(w.heap.size<=k_)/\k_≠cn)) (uV_ qd) hg (.inl rfl));replace k6:=A_ (Kd.V_afterv (v:=(.slice (some ⟨di,0,none⟩) ba.length ew)) (v1:=(.slice (some ⟨di,0,none⟩) ba.length ew)) (ok:=(fun k_=>(w.heap.size<=k_)/\k_≠cn)) (uV_ k6) hg (.inl rfl));replace k7:=A_ (Kd.V_afterv (v:=(.slice (some ⟨di,0,none⟩) ba.length ew)) (v1:=(.slice (some ⟨di,0,none⟩) ba.length ew)) (ok:=(fun k_=>(w.heap.size<=k_)/\k_≠cn)) (uV_ k7) hg (.inl rfl));replace HB:=A_ ((g70_:Below w.heap.size w lh));clear hg hw hp_));try(go_quiet (first|(go_at_call 114;(refine(Gg.calls k3 _ _ (Jr ba d3) _ _ (Jr ba (ji28)) true _ (cu_ (g68_)) cr0.out (cu_ (g69_)) cr1.out A31.out).mono ?_);rintro e w' ⟨rfl,⟨nd,rfl⟩⟩;(try first|exact⟨rfl,_,World.drewN_drewN _ _ _⟩|exact⟨rfl,_,Eq.trans (World.drewN_drewN _ _ _) (congrArg (World.drewN _) (Nat.add_assoc _ _ _))⟩);have ah8:0<=(d3:Int):=od_;have ar5:d3 < (ba.length:Int):=od_;obtain⟨ec7,if4,if5,ec8,ba8,cc5,cc6⟩:=at_L1 (Kd.N_reads' a8.out).2.2 d3 ah8 ar5;obtain rfl:bq1=ec7:=(by injection ec8);obtain⟨ce318,hce318,hMe318,hcc318⟩:=Kd.N_get a8.out [] d3 ah8 (g194_);obtain⟨ua318_0,uc318_0,rfl,ul318_0,ge318_0⟩:=Kd.FK_slice_open hMe318;have hv318_0:=hcc318 0 _ rfl;rw[Nat.add_zero,show((Kd.slice 3 (Kd.int .i64))).sz=1 from rfl,Nat.mul_one] at hv318_0;replace hv318_0:=Option.some.inj (hv318_0.symm.trans ba8);injection hv318_0 with hva_ hvn_ hvc_;rw[hva_] at ge318_0;rw[hvc_] at ul318_0;have k6:=A_ (show Kd.V (Kd.int .i64) 3 _ w.heap.size _ _ (Jr ba d3) from Kd.V_mk ul318_0 ge318_0);clear hva_ hvn_ hvc_ ge318_0 ul318_0;clear hcc318 hce318;have if6:=A_ cc6;have if7:=A_ cc5;clear cc6 cc5;replace ah8:=eq_true ah8;replace ar5:=eq_true ar5;have ea_:=Option.some.inj (bq2.symm.trans ba8);injection ea_ with ea_ en_ ec_;subst ea_;subst ec_;clear en_;have ah9:0<=((ji28):Int):=od_;have ar6:(ji28) < (ba.length:Int):=od_;obtain⟨ec9,if8,if9,ed0,ba9,cc7,cc8⟩:=at_L1 (Kd.N_reads' a8.out).2.2 (ji28) ah9 ar6;obtain rfl:bq1=ec9:=(by injection ed0);obtain⟨ce319,hce319,hMe319,hcc319⟩:=Kd.N_get a8.out [] (ji28) ah9 (g195_);obtain⟨ua319_0,uc319_0,rfl,ul319_0,ge319_0⟩:=Kd.FK_slice_open hMe319;have hv319_0:=hcc319 0 _ rfl;rw[Nat.add_zero,show((Kd.slice 3 (Kd.int .i64))).sz=1 from rfl,Nat.mul_one] at hv319_0;replace hv319_0:=Option.some.inj (hv319_0.symm.trans ba9);injection hv319_0 with hva_ hvn_ hvc_;rw[hva_] at ge319_0;rw[hvc_] at ul319_0;have k7:=A_ (show Kd.V (Kd.int .i64) 3 _ w.heap.size _ _ (Jr ba (ji28)) from Kd.V_mk ul319_0 ge319_0);clear hva_ hvn_ hvc_ ge319_0 ul319_0;clear hcc319 hce319;have ig0:=A_ cc8;have ig1:=A_ cc7;clear cc8 cc7;replace ah9:=eq_true ah9;replace ar6:=eq_true ar6;have ea_:=Option.some.inj (bq5.symm.trans ba9);injection ea_ with ea_ en_ ec_;subst ea_;subst ec_;clear en_;have p33:0<=(d3:Int):=od_;have q33:(d3:Int) < ((ba.length:Int):Int):=od_;obtain⟨di,b7,am6,cc9,gl33,cl33,HG33⟩:=Kd.N_form a8.out (by omega);(first|cases am6|(injection am6 with ea_ en_ ec_;(first|subst ea_|(injection ea_ with ea_;subst ea_));subst ec_;clear en_));have GB33:=A_ cc9;have GG33:=A_ HG33;clear cc9 gl33 HG33;(first|simp only[add_plain] at bq2|skip);(first|simp only[add_plain] at bq5|skip);(first|simp only[add_plain] at ba8|skip);(first|simp only[add_plain] at ba9|skip);obtain⟨ce33,hcl33,hM33,hcc33,hfr33⟩:=Kd.N_elem a8.out [] (d3:Int) p33 q33;obtain⟨ua33_0,uc33_0,rfl,ul33_0,ge33_0⟩:=Kd.FK_slice_open hM33;have ed1:=hcc33 0 _ rfl;have hf33_0:=hfr33 0;(try simp only[show((Kd.slice 3 (Kd.int .i64))).sz=1 from rfl,Nat.mul_one,Nat.add_zero] at ed1);(try simp only[show((Kd.slice 3 (Kd.int .i64))).sz=1 from rfl,Nat.mul_one,Nat.add_zero] at hf33_0);clear hcl33 hcc33 hfr33 hM33;replace p33:=eq_true p33;replace q33:=eq_true q33;have HX35:=A_ (show Kd.N (Kd.slice 3 (Kd.int .i64)) 22 wr w.heap.size (fun k_=>(w.heap.size<=k_)/\k_≠cn) (.slice (some ⟨di,0,none⟩) ba.length ew) ba from(uN_ a8));obtain⟨ce35,hcl35,hM35,hcc35,hfr35⟩:=Kd.N_elem HX35.out [] (d3:Int) (od_) (by have h_:(d3:Int) < ((ba.length:Int):Int):=od_;first|exact h_|(have e_:=(Kd.N_reads' a8.out).1;omega)|simpa using h_);obtain⟨ua35_0,uc35_0,rfl,ul35_0,ge35_0⟩:=Kd.FK_slice_open hM35;have HP35:=Kd.N_seg HX35.out (d3:Int) (od_) (by have h_:(d3:Int) < ((ba.length:Int):Int):=od_;first|exact h_|(have e_:=(Kd.N_reads' a8.out).1;omega)|simpa using h_) (seg:=[.slice bi1 (Jr ba (ji28)).length bi2]) (j:=0) hcl35 hcc35 (show 1<=1 from by decide) (x':=Jr ba (ji28)) (Kd.FK_slice_mk (Kd.V_reads' (Kd.V_mono (ok':=(fun k_=>((fun k_=>(w.heap.size<=k_)/\k_≠cn)) k_/\k_≠di)) (k7.out) (fun k_ hk=>⟨⟨hk.1.1,hk.1.2⟩,fun e_=>(hk.2) (g6_)⟩))).2.1 (Kd.V_F (Kd.V_mono (ok':=(fun k_=>((fun k_=>(w.heap.size<=k_)/\k_≠cn)) k_/\k_≠di)) (k7.out) (fun k_ hk=>⟨⟨hk.1.1,hk.1.2⟩,fun e_=>(hk.2) (g6_)⟩)))) (fun _ hk=>hk);have al9:=hcc35 0 _ rfl;(try simp only[show((Kd.slice 3 (Kd.int .i64))).sz=1 from rfl,Nat.mul_one,Nat.add_zero] at al9);have hf35_0:=hfr35 0;(try simp only[show((Kd.slice 3 (Kd.int .i64))).sz=1 from rfl,Nat.mul_one,Nat.add_zero] at hf35_0);clear hcl35 hcc35 hfr35 hM35;(try simp only[show((Kd.slice 3 (Kd.int .i64))).sz=1 from rfl,Nat.mul_one,Nat.add_zero] at HP35);(try simp only[show((Kd.slice 3 (Kd.int .i64))).sz=1 from rfl,Nat.mul_one,Nat.add_zero] at HP35)))))
  (try simp only[<- cc4])
  go_roundg k3
  case measure=>have:=HJ1.out;have:=HK2.out;have:=HK3.out;omega
  case rel=>exact⟨(ec2),(ji28),(by first|rfl|(simp;done)|(simp only[<- hji28] <;> (first|rfl|simp))|(simp[*];done)),H',⟨g196_⟩,⟨g197_⟩,⟨g198_⟩,⟨g7⟩⟩
 replace xn:=Bool.eq_false_iff.mpr xn
 subst xn
 replace H:=ifn_ H
 have H':=A_ H
 clear H
 have bp9:0<=(d3:Int):=od_
 have bq0:d3 < (ba.length:Int):=od_
 obtain⟨bq1,bh9,bi0,gi0,bq2,ec3,ec4⟩:=at_L1 (Kd.N_reads' a8.out).2.2 d3 bp9 bq0
 cases gi0
 obtain⟨ce315,hce315,hMe315,hcc315⟩:=Kd.N_get a8.out [] d3 bp9 (by first|exact bq0|exact od_|(have e_:=(Kd.N_reads' a8.out).1;omega))
 obtain⟨ua315_0,uc315_0,rfl,ul315_0,ge315_0⟩:=Kd.FK_slice_open hMe315
 have hv315_0:=hcc315 0 _ rfl
 rw[Nat.add_zero,show((Kd.slice 3 (Kd.int .i64))).sz=1 from rfl,Nat.mul_one] at hv315_0
 replace hv315_0:=Option.some.inj (hv315_0.symm.trans bq2)
 injection hv315_0 with hva_ hvn_ hvc_
 rw[hva_] at ge315_0
 rw[hvc_] at ul315_0
 have qc:=A_ (show Kd.V (Kd.int .i64) 3 _ w.heap.size _ _ (Jr ba d3) from Kd.V_mk ul315_0 ge315_0)
 clear hva_ hvn_ hvc_ ge315_0 ul315_0
 clear hcc315 hce315
 have gi1:=A_ ec4
 have cr0:=A_ ec3
 clear ec4 ec3
 replace bp9:=eq_true bp9
 replace bq0:=eq_true bq0
 have bq3:0<=((ji28):Int):=od_
 have bq4:(ji28) < (ba.length:Int):=od_
 obtain⟨gi2,bi1,bi2,gi3,bq5,ec5,ec6⟩:=at_L1 (Kd.N_reads' a8.out).2.2 (ji28) bq3 bq4
 obtain rfl:bq1=gi2:=(by injection gi3)
 obtain⟨ce316,hce316,hMe316,hcc316⟩:=Kd.N_get a8.out [] (ji28) bq3 (by first|exact bq4|exact od_|(have e_:=(Kd.N_reads' a8.out).1;omega))
 obtain⟨ua316_0,uc316_0,rfl,ul316_0,ge316_0⟩:=Kd.FK_slice_open hMe316
 have hv316_0:=hcc316 0 _ rfl
 rw[Nat.add_zero,show((Kd.slice 3 (Kd.int .i64))).sz=1 from rfl,Nat.mul_one] at hv316_0
 replace hv316_0:=Option.some.inj (hv316_0.symm.trans bq5)
 injection hv316_0 with hva_ hvn_ hvc_
 rw[hva_] at ge316_0
 rw[hvc_] at ul316_0
 have qd:=A_ (show Kd.V (Kd.int .i64) 3 _ w.heap.size _ _ (Jr ba (ji28)) from Kd.V_mk ul316_0 ge316_0)
 clear hva_ hvn_ hvc_ ge316_0 ul316_0
 clear hcc316 hce316
 have gi4:=A_ ec6
 have cr1:=A_ ec5
 clear ec6 ec5
 replace bq3:=eq_true bq3
 replace bq4:=eq_true bq4
 iterate 2 (go_wp2_with (first|(go_at_call 114;(refine(Gg.calls k3 _ _ (Jr ba d3) _ _ (Jr ba (ji28)) false _ (cu_ (g68_)) cr0.out (cu_ (g69_)) cr1.out A31.out).mono ?_);rintro e w' ⟨rfl,⟨nd,rfl⟩⟩;(try first|exact⟨rfl,_,World.drewN_drewN _ _ _⟩|exact⟨rfl,_,Eq.trans (World.drewN_drewN _ _ _) (congrArg (World.drewN _) (Nat.add_assoc _ _ _))⟩)));try(go_quiet (first|(go_at_call 114;(refine(Gg.calls k3 _ _ (Jr ba d3) _ _ (Jr ba (ji28)) false _ (cu_ (g68_)) cr0.out (cu_ (g69_)) cr1.out A31.out).mono ?_);rintro e w' ⟨rfl,⟨nd,rfl⟩⟩;(try first|exact⟨rfl,_,World.drewN_drewN _ _ _⟩|exact⟨rfl,_,Eq.trans (World.drewN_drewN _ _ _) (congrArg (World.drewN _) (Nat.add_assoc _ _ _))⟩)))))
 (try simp only[<- cc4])
 go_roundg k3
 case measure=>have:=HJ1.out;have:=HK2.out;have:=HK3.out;omega
 case rel=>exact⟨(ba),(wrap64 (cv + 1)),(g3_),H',⟨g196_⟩,⟨g197_⟩,⟨g198_⟩,⟨g7⟩⟩
mutual
def Fm.l0:Nat->List Int->Int->Int->List Int->List (List Int)->List Int->List (List Int)->Option (List Int × (List (List Int)))
 | 0,_,_,_,_,_,_,_=>none
 | k + 1,x1,x6,x7,fa0,bi3,ed3,cd0=>if x7 < (x1.length:Int) then(if 0<=x7 then(if 0<=(rd x1 x7) then(if (rd x1 x7) < (bi3.length:Int) then(if (x1.length:Int)=0 then(none) else(if 0<=(Int.tmod (wrap64 (x7 + 1)) (x1.length:Int)) then(if (Int.tmod (wrap64 (x7 + 1)) (x1.length:Int)) < (x1.length:Int) then(if 0<=(rd x1 (Int.tmod (wrap64 (x7 + 1)) (x1.length:Int))) then(if (rd x1 (Int.tmod (wrap64 (x7 + 1)) (x1.length:Int))) < ((Jr bi3 (rd x1 x7)).length:Int) then(Fm.l0 k x1 (mn x6 (rd (Jr bi3 (rd x1 x7)) (rd x1 (Int.tmod (wrap64 (x7 + 1)) (x1.length:Int))))) (wrap64 (x7 + 1)) fa0 bi3 ed3 cd0) else(none)) else(none)) else(none)) else(none))) else(none)) else(none)) else(none)) else(Fm.l1 k x1 x6 0 fa0 bi3 ed3 cd0)
def Fm.l1:Nat->List Int->Int->Int->List Int->List (List Int)->List Int->List (List Int)->Option (List Int × (List (List Int)))
 | 0,_,_,_,_,_,_,_=>none
 | k + 1,x1,x6,x8,fa0,bi3,ed3,cd0=>if x8 < (x1.length:Int) then(if 0<=x8 then(if (x1.length:Int)=0 then(none) else(if 0<=(Int.tmod (wrap64 (x8 + 1)) (x1.length:Int)) then(if (Int.tmod (wrap64 (x8 + 1)) (x1.length:Int)) < (x1.length:Int) then(if 0<=(rd x1 x8) then(if (rd x1 x8) < (cd0.length:Int) then(if (rd x1 x8) < (bi3.length:Int) then(if 0<=(rd x1 (Int.tmod (wrap64 (x8 + 1)) (x1.length:Int))) then(if (rd x1 (Int.tmod (wrap64 (x8 + 1)) (x1.length:Int))) < ((Jr bi3 (rd x1 x8)).length:Int) then(if (rd x1 (Int.tmod (wrap64 (x8 + 1)) (x1.length:Int))) < ((Jr cd0 (rd x1 x8)).length:Int) then(Fm.l1 k x1 x6 (wrap64 (x8 + 1)) fa0 bi3 ed3 (cd0.set ((rd x1 x8):Int).toNat ((Jr cd0 (rd x1 x8)).set ((rd x1 (Int.tmod (wrap64 (x8 + 1)) (x1.length:Int))):Int).toNat (wrap64 ((rd (Jr bi3 (rd x1 x8)) (rd x1 (Int.tmod (wrap64 (x8 + 1)) (x1.length:Int)))) - x6))))) else(none)) else(none)) else(none)) else(none)) else(none)) else(none)) else(none)) else(none))) else(none)) else(some (ed3,cd0))
end
def Fm.f (k:Nat) (ab:List Int) (aa:List (List Int)) (l1:List Int):Option (List Int × (List (List Int))):=(Fs.f k ab aa).bind fun bt324=>(Fm.l0 k l1 9 0 ab aa bt324.1 bt324.2)
def Fm.T6:Bool × List (List Nat × List Nat):=(true,[([],[]),([],[]),([1],[1]),([],[]),([],[]),([3,4],[3,4]),([5],[5]),([2,6],[2,6]),([7],[7]),([],[]),([],[]),([10],[10]),([],[]),([12],[12]),([11,13],[11,13]),([9,14],[9,14]),([15],[15]),([8,16],[8,16]),([17],[17]),([0,18],[0,18]),([19,0,1,2,3,4,5,6,7,8,9,10,11,12,13,14,15,16,17,18,19],[0,19])])
def Fm.B6:List Nat:=[0,0,2,0,0,24,56,126,254,0,0,1024,0,4096,15360,32256,65024,131070,262142,524287,1048575]
theorem Fm.tab6:rtab .any (opsOf Try.f98 6)=Fm.T6:=by kernel_rfl
theorem Fm.bits6:waitsOk Fm.T6.2 Fm.B6=true:=by kernel_rfl
def Fm.T12:Bool × List (List Nat × List Nat):=(true,[([],[]),([0],[0]),([],[]),([1,2],[1,2]),([3],[3]),([],[]),([],[]),([6],[6]),([],[]),([7,8],[7,8]),([9],[9]),([],[]),([10,11],[10,11]),([12],[12]),([],[]),([13,14],[13,14]),([4,5,0,1,2,3,4,5,6,7,8,9,10,11,12,13,14,15],[4,5]),([16,15,0,1,2,3,4,5,6,7,8,9,10,11,12,13,14,15],[15,16])])
def Fm.B12:List Nat:=[0,1,0,7,15,0,0,64,0,448,960,0,4032,8128,0,32704,65535,131071]
theorem Fm.tab12:rtab .any (opsOf Try.f98 12)=Fm.T12:=by kernel_rfl
theorem Fm.bits12:waitsOk Fm.T12.2 Fm.B12=true:=by kernel_rfl
theorem aw8 {p:Prop} (h:p:=by repeat(first|(with_reducible first|exact HB.out|apply Jk|apply Jj|apply Ji|refine Jh ?_ ko0.out|refine Jh ?_ ko1.out|refine Jh ?_ ko2.out|refine Jh ?_ GB39.out)|exact HB.out)):p:=h
set_option maxHeartbeats 8000000 in
set_option maxRecDepth 100000 in
theorem Fm.calls (k:Nat) (af:Option Addr) (ac:Nat) (ab:List Int) (ah:Option Addr) (ag:Nat) (aa:List (List Int)) (A1:Option Addr) (c1:Nat) (l1:List Int) (r1:List Int) (r2:List (List Int)) (w:World) (cb:Kd.C (Kd.int .i64) w af ab.length ab) (cg:ab.length<=ac) (cc:Kd.C (Kd.slice 3 (Kd.int .i64)) w ah aa.length aa) (ch:aa.length<=ag) (iu:Kd.C (Kd.int .i64) w A1 l1.length l1) (iz:l1.length<=c1) (h:Fm.f k ab aa l1=some (r1,r2)) :
  Calls Try.prog 98 #[.agg #[.slice af ab.length ac, .slice ah aa.length ag], .slice A1 l1.length c1] w fun e w'=>∃v0_ v1_:Value,e = .returned (.agg #[v0_,v1_])/\Kd.R (Kd.int .i64) 3 w' w.heap.size (fun _=>True) v0_ r1/\Kd.S (Kd.slice 3 (Kd.int .i64)) 22 w' w.heap.size (fun k_=>some k_≠(v0_:Value).ownBlock) v1_ r2/\Below w.heap.size w w':=by
 have hu25:=Try.underlying25
 have bg:=A_ cb
 have bw:=A_ cg
 clear cb cg
 have bd:=A_ cc
 have b4:=A_ ch
 clear cc ch
 have fs:=A_ iu
 have pe:=A_ iz
 clear iu iz
 have HB:=A_ (Below.refl w.heap.size w)
 have H:=h
 unfold Fm.f at H
 clear h
 replace H:=Option.bind_eq_some_iff.mp H
 obtain⟨⟨am8,bb1⟩,zg,H⟩:=H
 try dsimp only at H
 have A3:=A_ zg
 clear zg
 have H':=A_ H
 clear H
 go_enter Try.func98,Try.ntmps98
 go_wp2_with (first|((with_reducible refine gd_ 2 ?_);refine bx_ (N:=2) #[.slice af ab.length ac, .slice ah aa.length ag] 25 ?_;intro zh hg w4 hbox hb;have ox:=A_ (hbox);have nn8:=A_ ((g71_:w.heap.size<=zh));have ko0:=nn8;replace HB:=hs_ (aw8) hb;clear hb hbox hg)|((with_reducible refine gd_ 4 ?_);refine bx_ (N:=4) #[.slice none 0 0, .slice none 0 0] 25 ?_;intro ac0 hg w5 hbox hb;have rb:=A_ (hbox);have nn9:=A_ ((g71_:w.heap.size<=ac0));have ko1:=nn9;replace HB:=hs_ (aw8) hb;have ig2:=nl_ ox hg;have ig3:=nr_ ox hg;replace ox:=bb_ ox hb;clear hb hbox hg;have ig4:=ig2.out;have ig5:=ig3.out;obtain⟨aa9,ab0,ab1,ab2⟩:=blk2_ ox)|((with_reducible refine gc_ 80 ?_);refine gl_ 12 Try.func80 #[.agg #[.slice af ab.length ac, .slice ah aa.length ag]] ?_;(refine(Fs.calls k _ _ ab _ _ aa am8 bb1 _ (uC_ bg) bw.out (uC_ bd) b4.out A3.out).mono ?_);rintro e w8 ⟨no0,no1,rfl,ai,ak,hb⟩;refine⟨_,rfl,?_⟩;have fa1:=A_ (Kd.R_lower ai (Je (aw8)));have fa2:=A_ (Kd.S_lower ak (Je (aw8)));replace ox:=bb_ ox hb;replace rb:=bb_ rb hb;replace HB:=hs_ (aw8) hb)|((with_reducible refine gd_ 5 ?_);refine bx_ (N:=5) #[.slice none 0 0, .slice none 0 0] 25 ?_;intro ai1 hg w9 hbox hb;replace fa1:=rb_ fa1 hb;replace fa2:=sb_ fa2 hb;have uy:=A_ (hbox);have no2:=A_ ((g71_:w.heap.size<=ai1));have ko2:=no2;replace HB:=hs_ (aw8) hb;have fa3:=nl_ ox hg;have ig6:=nr_ ox hg;replace ox:=bb_ ox hb;have fa4:=nl_ rb hg;have ig7:=nr_ rb hg;replace rb:=bb_ rb hb;clear hb hbox hg;obtain⟨ie,gl,yu⟩:=Kd.R_slice fa1.out;subst yu;have bg8:=ig6.out;have bg9:=fa3.out;have cl3:=ig7.out;have cl4:=fa4.out;obtain⟨sv,sw,sx,sy⟩:=blk2_ uy;obtain⟨nz,k8,bn4⟩:=Kd.S_slice fa2.out;subst bn4))
 go_loopg [6,7] k (fun kq v6 v7 w'=>∃(m3:Int) (qe:Int),v6 = .int .i64 m3/\v7 = .int .i64 qe/\Jc (Fm.l0 kq l1 m3 qe ab aa am8 bb1=some (r1,r2))/\Jc (kq<=k)/\Jc (Kd.R (Kd.int .i64) 3 w' w.heap.size (fun _=>True) (.slice ie am8.length gl) am8)/\Jc (Kd.S (Kd.slice 3 (Kd.int .i64)) 22 w' w.heap.size (fun k_=>some k_≠((.slice ie am8.length gl):Value).ownBlock) (.slice nz bb1.length k8) bb1)/\Jc (hc_ w' zh #[(.slice af ab.length ac),(.slice ah aa.length ag)] 25)/\Jc (hc_ w' ac0 #[(.slice none 0 0),(.slice none 0 0)] 25)/\Jc (hc_ w' ai1 #[(.slice ie am8.length gl),(.slice nz bb1.length k8)] 25)/\Jc (Below w.heap.size w w'))
 case atStart=>exact⟨(9),(0),(g3_),(g3_),H',⟨Nat.le_refl _⟩,⟨ra_ fa1⟩,⟨sa_ fa2⟩,⟨ba_ ox⟩,⟨ba_ rb⟩,⟨ba_ uy⟩,⟨aw8⟩⟩
 clear H'
 obtain⟨m3,qe,rfl,rfl,HA,HK1,ar7,wj,ox,rb,uy,HB⟩:=hrel
 cases gk with
 | zero=>exact absurd HA.out (by simp[Fm.l0])
 | succ k1=>?_
 have H:=HA.out
 clear HA
 simp only[Fm.l0] at H
 by_cases eu:qe < (l1.length:Int)
 ·rw[if_pos eu] at H
  have pf:=decide_eq_true eu
  clear eu
  obtain⟨ag9,H⟩:=pd_ H
  obtain⟨al4,H⟩:=pd_ H
  obtain⟨bh2,H⟩:=pd_ H
  by_cases fe:(l1.length:Int)=0
  ·rw[if_pos fe] at H
   exact absurd H (by simp)
  rw[if_neg fe] at H
  have tr:((l1.length:Int) == 0)=false:=beq_eq_false_iff_ne.mpr fe
  have am9:((l1.length:Int) != 0)=true:=bne_iff_ne.mpr fe
  have df1:¬ (l1=[]):=fun h_=>fe (by rw[h_];rfl)
  obtain⟨ji20,hji20⟩:∃j_:Int,(Int.tmod (wrap64 (qe + 1)) (l1.length:Int))=j_:=⟨_,rfl⟩
  first|rw[hji20] at H|simp only[hji20] at H
  obtain⟨ig8,H⟩:=pd_ H
  obtain⟨ay9,H⟩:=pd_ H
  obtain⟨bn7,H⟩:=pd_ H
  obtain⟨yw,H⟩:=pd_ H
  obtain⟨ji25,hji25⟩:∃j_:Int,(mn m3 (rd (Jr aa (rd l1 qe)) (rd l1 (ji20))))=j_:=⟨_,rfl⟩
  first|rw[hji25] at H|simp only[hji25] at H
  have hji25_:(if (rd (Jr aa (rd l1 qe)) (rd l1 (ji20))) < m3 then(rd (Jr aa (rd l1 qe)) (rd l1 (ji20))) else m3)=ji25:=hji25
  have H':=A_ H
  clear H
  try go_wp2
  replace ar7:=rd_ ar7
  replace wj:=sd_ wj
  replace ox:=bd_ ox
  replace rb:=bd_ rb
  replace uy:=bd_ uy
  replace HB:=A_ (Ji HB.out)
  obtain⟨⟨gi5,ko3,ed4⟩,fa5,fa6⟩:=rdp_ (Kd.at_int fs.out qe)
  have ko4:=ed4
  cases ko3
  replace ed4:=cl_ HB ed4
  obtain⟨⟨ig9,no3,ko5,ko6,ed5,ih5,ih6⟩,fa7,fa8⟩:=rdp_ (at_L1 bd.out (rd l1 qe))
  have ko7:=ed5
  cases ko6
  replace ed5:=cl_ HB ed5
  have ih7:=A_ ih6
  have no4:=A_ ih5
  clear ih6 ih5
  obtain⟨⟨ko8,ko9,ed6⟩,fa9,fb0⟩:=rdp_ (Kd.at_int fs.out (ji20))
  have kp0:=ed6
  obtain rfl:gi5=ko8:=(by injection ko9)
  replace ed6:=cl_ HB ed6
  obtain⟨⟨ih8,kp1,ed7⟩,fb1,fb2⟩:=rdp_ (Kd.at_int ih7.out (rd l1 (ji20)))
  have kp2:=ed7
  cases kp1
  replace ed7:=cl_ HB ed7
  refine start_ (n:=21) (S:=fun w'=>w'.cell? ⟨zh,0,none⟩=some (.slice af ab.length ac)/\w'.cell? ⟨zh,1,none⟩=some (.slice (some ig9) aa.length ag)/\w'.cell? (gi5.add (qe).toNat)=some (.int .i64 (rd l1 qe))/\w'.cell? (ig9.add ((rd l1 qe)).toNat)=some (.slice (some ih8) (Jr aa (rd l1 qe)).length ko5)/\w'.cell? (gi5.add ((ji20)).toNat)=some (.int .i64 (rd l1 (ji20)))/\w'.cell? (ih8.add ((rd l1 (ji20))).toNat)=some (.int .i64 (rd (Jr aa (rd l1 qe)) (rd l1 (ji20))))) (ds:=[]) (tl_ 21 0) (g1_) rfl (g1_) ⟨(Jd ox.out 0).trans rfl,(Jd ox.out 1).trans rfl,((cl_ HB ko4).trans rfl),((cl_ HB ko7).trans rfl),((cl_ HB kp0).trans rfl),((cl_ HB kp2).trans rfl)⟩ (fun hHeld=>?_);refine Jx Fm.tab6 Fm.bits6 (fun HT_ HW_=>?_)
  generalize wr.drew=w26 at ar7 wj ox rb uy HB ih7 ed4 ed5 ed6 ed7 hHeld |-
  refine pw_ 0 19 (tl_ 21 1) ?_
  refine pw_ 1 20 (tl_ 21 3) ?_
  refine pw_ 3 22 (tl_ 21 11) ?_
  refine pw_ 4 23 (tl_ 21 27) ?_
  refine pw_ 5 24 (tl_ 21 59) ?_
  refine pw_ 9 28 (tl_ 21 571) ?_
  refine pw_ 10 29 (tl_ 21 1595) ?_
  refine pw_ 11 30 (tl_ 21 3643) ?_
  refine pw_ 12 31 (tl_ 21 7739) ?_
  refine pw_ 13 32 (tl_ 21 15931) ?_
  refine pw_ 14 33 (tl_ 21 32315) ?_
  refine pw_ 15 34 (tl_ 21 65083) ?_
  refine tk1_ 2 21 (tl_ 21 65087) hHeld ?_
  refine tk1_ 6 25 (tl_ 21 65151) hHeld ?_
  refine pw_ 7 26 (tl_ 21 65279) ?_
  refine tk1_ 8 27 (tl_ 21 65535) hHeld ?_
  refine tk1_ 16 35 (tl_ 21 131071) hHeld ?_
  refine pw_ 17 36 (tl_ 21 262143) ?_
  refine tk1_ 18 37 (tl_ 21 524287) hHeld ?_
  refine pw_ 19 38 (tl_ 21 1048575) ?_
  refine pw_ 20 6 (tl_ 21 2097151) ?_
  refine done_ (done_of HT_.out (g1_)) ?_
  try go_wp2
  go_roundg k1
  case measure=>have:=HK1.out;omega
  case rel=>exact⟨(ji25),(wrap64 (qe + 1)),(by first|rfl|(simp;done)|(simp only[<- hji25] <;> (first|rfl|simp))|(simp[*];done)),(g3_),H',⟨g8_⟩,⟨uR_ ar7⟩,⟨uS_ wj⟩,⟨uB_ ox⟩,⟨uB_ rb⟩,⟨uB_ uy⟩,⟨aw8⟩⟩
 rw[if_neg eu] at H
 have pf:=decide_eq_false eu
 clear eu
 have H':=A_ H
 clear H
 go_wp2
 go_loopg [8] k1 (fun kq v8 w'=>∃(bi:Int) (bb2:List Int) (rz:List (List Int)) (df2:Value) (gi6:Value),v8 = .int .i64 bi/\Jc (Fm.l1 kq l1 m3 bi ab aa bb2 rz=some (r1,r2))/\Jc (kq<=k1)/\Jc (Kd.R (Kd.int .i64) 3 w' w.heap.size (fun _=>True) df2 bb2)/\Jc (Kd.S (Kd.slice 3 (Kd.int .i64)) 22 w' w.heap.size (fun k_=>some k_≠(df2:Value).ownBlock) gi6 rz)/\Jc (hc_ w' zh #[(.slice af ab.length ac),(.slice ah aa.length ag)] 25)/\Jc (hc_ w' ac0 #[(.slice none 0 0),(.slice none 0 0)] 25)/\Jc (hc_ w' ai1 #[df2,gi6] 25)/\Jc (Below w.heap.size w w'))
 case atStart=>exact⟨(0),(am8),(bb1),(.slice ie am8.length gl),(.slice nz bb1.length k8),(g3_),H',⟨Nat.le_refl _⟩,⟨uR_ ar7⟩,⟨uS_ wj⟩,⟨uB_ ox⟩,⟨uB_ rb⟩,⟨uB_ uy⟩,⟨aw8⟩⟩
 clear H'
 obtain⟨bi,bb2,rz,df2,gi6,rfl,HA,HK2,ar7,wj,ox,rb,uy,HB⟩:=hrel
 cases gk with
 | zero=>exact absurd HA.out (by simp[Fm.l1])
 | succ k2=>?_
 have H:=HA.out
 clear HA
 simp only[Fm.l1] at H
 by_cases mb:bi < (l1.length:Int)
 case neg=>
  rw[if_neg mb] at H
  have cb0:=decide_eq_false mb
  clear mb
  simp only[Option.some.injEq,Prod.mk.injEq] at H
  obtain⟨rfl,rfl⟩:=H
  have fb8:=ig6.out
  have fb9:=fa3.out
  have ea3:=ig7.out
  have ea4:=fa4.out
  obtain⟨gj8,gj9,gk0,gk1⟩:=blk2_ uy
  obtain⟨de,df,cr3⟩:=Kd.R_slice ar7.out
  subst cr3
  have ib2:=ig3.out
  have ib3:=ig2.out
  obtain⟨ib4,ib5,ib6,ib7⟩:=blk2_ rb
  obtain⟨ar0,ar1,ea5⟩:=Kd.S_slice wj.out
  subst ea5
  go_wp2
  refine bodyPost_ret (results_cell_row rfl _ _ ac0 25 #[.slice de bb2.length df, .slice ar0 rz.length ar1] (0,0) _ rfl (ba_ rb) Try.underlying25 rfl (g1_)) rfl ?_
  exact⟨_,_,g4_,ra_ ar7,sa_ wj,aw8⟩
 rw[if_pos mb] at H
 have cb0:=decide_eq_true mb
 clear mb
 obtain⟨bp0,H⟩:=pd_ H
 by_cases o4:(l1.length:Int)=0
 ·rw[if_pos o4] at H
  exact absurd H (by simp)
 rw[if_neg o4] at H
 have gh7:((l1.length:Int) == 0)=false:=beq_eq_false_iff_ne.mpr o4
 have no5:((l1.length:Int) != 0)=true:=bne_iff_ne.mpr o4
 have no6:¬ (l1=[]):=fun h_=>o4 (by rw[h_];rfl)
 obtain⟨ji30,hji30⟩:∃j_:Int,(Int.tmod (wrap64 (bi + 1)) (l1.length:Int))=j_:=⟨_,rfl⟩
 first|rw[hji30] at H|simp only[hji30] at H
 obtain⟨ea2,H⟩:=pd_ H
 obtain⟨gf6,H⟩:=pd_ H
 obtain⟨ew5,H⟩:=pd_ H
 obtain⟨gc7,H⟩:=pd_ H
 obtain⟨gf7,H⟩:=pd_ H
 obtain⟨ez2,H⟩:=pd_ H
 obtain⟨kp3,H⟩:=pd_ H
 obtain⟨kp4,H⟩:=pd_ H
 obtain⟨gi7,hyq⟩:∃y_:List Int,y_=((Jr rz (rd l1 bi)).set ((rd l1 (ji30)):Int).toNat (wrap64 ((rd (Jr aa (rd l1 bi)) (rd l1 (ji30))) - m3))):=⟨_,rfl⟩
 replace H:(Fm.l1 k2 l1 m3 (wrap64 (bi + 1)) ab aa bb2 (rz.set ((rd l1 bi):Int).toNat gi7))=some (r1,r2):=qh_
 have kp5:=A_ hyq
 clear hyq
 obtain⟨ih9,hyq⟩:∃y_:List (List Int),y_=(rz.set ((rd l1 bi):Int).toNat gi7):=⟨_,rfl⟩
 replace H:(Fm.l1 k2 l1 m3 (wrap64 (bi + 1)) ab aa bb2 ih9)=some (r1,r2):=qh_
 have kp6:=A_ hyq
 clear hyq
 have H':=A_ H
 clear H
 obtain⟨⟨kp7,kp8,ii0⟩,gi8,gi9⟩:=rdp_ (Kd.at_int fs.out bi)
 cases kp8
 replace ii0:=cl_ HB ii0
 obtain⟨⟨kp9,kq0,ii1⟩,gj0,gj1⟩:=rdp_ (Kd.at_int fs.out (ji30))
 obtain rfl:kp7=kp9:=(by injection kq0)
 replace ii1:=cl_ HB ii1
 try go_wp2
 replace ar7:=rd_ ar7
 replace wj:=sd_ wj
 replace ox:=bd_ ox
 replace rb:=bd_ rb
 replace uy:=bd_ uy
 replace HB:=A_ (Ji HB.out)
 obtain⟨a7,ay,ac1⟩:=Kd.S_slice wj.out
 (first|subst ac1|(injection ac1 with f1_ f2_ f3_;have f4_:=f1_.symm;have f5_:=f3_.symm;clear f1_ f2_ f3_;subst f4_;subst f5_))
 have fb3:0<=((rd l1 bi):Int):=od_
 have fb4:(rd l1 bi) < (rz.length:Int):=od_
 obtain⟨gj2,no7,kq1,kq2,fb5,ii2,ii3⟩:=at_L1 (Kd.S_reads' wj.out).2.2 (rd l1 bi) fb3 fb4
 cases kq2
 obtain⟨ce337,hce337,hMe337,hcc337⟩:=Kd.S_get wj.out [] (rd l1 bi) fb3 (by first|exact fb4|exact od_|(have e_:=(Kd.S_reads' wj.out).1;omega))
 obtain⟨ve337_0,rfl,ge337_0⟩:=hMe337
 have hv337_0:=hcc337 0 _ rfl
 rw[Nat.add_zero,show((Kd.slice 3 (Kd.int .i64))).sz=1 from rfl,Nat.mul_one] at hv337_0
 replace hv337_0:=Option.some.inj (hv337_0.symm.trans fb5)
 rw[hv337_0] at ge337_0
 have cr2:=A_ (show Kd.R (Kd.int .i64) 3 _ _ _ _ (Jr rz (rd l1 bi)) from ge337_0)
 clear hv337_0 ge337_0
 have HX337_0:=A_ fb5
 clear hcc337 hce337
 have kq3:=A_ ii3
 have no8:=A_ ii2
 clear ii3 ii2
 replace fb3:=eq_true fb3
 replace fb4:=eq_true fb4
 obtain⟨⟨ii4,no9,kq4,kq5,fb6,ii5,ii6⟩,gj3,gj4⟩:=rdp_ (at_L1 bd.out (rd l1 bi))
 have kq6:=fb6
 cases kq5
 replace fb6:=cl_ HB fb6
 have ii7:=A_ ii6
 have np0:=A_ ii5
 clear ii6 ii5
 obtain⟨⟨ii8,kq7,fb7⟩,gj5,gj6⟩:=rdp_ (Kd.at_int ii7.out (rd l1 (ji30)))
 have kq8:=fb7
 cases kq7
 replace fb7:=cl_ HB fb7
 have p39:0<=((rd l1 (ji30)):Int):=od_
 have q39:((rd l1 (ji30)):Int) < (((Jr rz (rd l1 bi)).length:Int):Int):=od_
 obtain⟨df3,zf,am7,ed8,gl39,cl39,HG39⟩:=Kd.R_form cr2.out (by omega)
 (first|cases am7|(injection am7 with ea_ en_ ec_;(first|subst ea_|(injection ea_ with ea_;subst ea_));subst ec_;clear en_))
 have GB39:=A_ ed8
 have GG39:=A_ HG39
 clear ed8 gl39 HG39
 obtain⟨gj7,hf39_0⟩:=Kd.R_celln 0 cr2.out ((rd l1 (ji30)):Int) p39 q39
 replace p39:=eq_true p39
 replace q39:=eq_true q39
 have hq42:((rd l1 bi):Int) < (rz.length:Int):=(by have h_:((rd l1 bi):Int) < ((rz.length:Int):Int):=od_;first|exact h_|(have e_:=(Kd.S_reads' wj.out).1;omega)|simpa only[List.length_set,List.length_set] using h_)
 obtain⟨oki42,ce42,hcl42,hM42,hcc42,hok42,hbk42⟩:=Kd.S_borrow wj.out [] ((rd l1 bi):Int) (od_) (by first|exact hq42|exact od_|(have e_:=(Kd.S_reads' wj.out).1;omega))
 obtain⟨ve42_0,rfl,ge42_0⟩:=hM42
 have hv42:=hcc42 0 _ rfl
 rw[Nat.add_zero,show((Kd.slice 3 (Kd.int .i64))).sz=1 from rfl,Nat.mul_one] at hv42
 replace hv42:=Option.some.inj (hv42.symm.trans HX337_0.out)
 subst hv42
 clear hcc42 hcl42
 replace ge42_0:=(show Kd.R (Kd.int .i64) 3 _ _ _ _ (Jr rz (rd l1 bi)) from ge42_0)
 have HP42:=Kd.R_putg ge42_0 ((rd l1 (ji30)):Int) (wrap64 ((rd (Jr aa (rd l1 bi)) (rd l1 (ji30))) - m3))
 rw[<- kp5.out] at HP42
 have HS42:=hbk42 HP42.2 (fun k_ e_=>by injection e_ with e_;subst e_;exact ge42_0.1 _ rfl) (x':=gi7) (Kd.M_row HP42.1)
 rw[<- kp6.out] at HS42
 have HQ42:=A_ HS42
 clear HP42 HS42 hbk42 hok42
 refine start_ (n:=18) (S:=fun w'=>w'.cell? ⟨ai1,0,none⟩=some (df2)/\w'.cell? ⟨ai1,1,none⟩=some (.slice (some gj2) rz.length ay)/\w'.cell? ⟨zh,0,none⟩=some (.slice af ab.length ac)/\w'.cell? ⟨zh,1,none⟩=some (.slice (some ii4) aa.length ag)/\w'.cell? (gj2.add ((rd l1 bi)).toNat)=some (.slice (some ⟨df3,0,none⟩) (Jr rz (rd l1 bi)).length kq1)/\w'.cell? (ii4.add ((rd l1 bi)).toNat)=some (.slice (some ii8) (Jr aa (rd l1 bi)).length kq4)/\w'.cell? (ii8.add ((rd l1 (ji30))).toNat)=some (.int .i64 (rd (Jr aa (rd l1 bi)) (rd l1 (ji30))))) (ds:=[17]) (tl_ 18 0) (g1_) rfl (g1_) ⟨(Jd uy.out 0).trans rfl,(Jd uy.out 1).trans rfl,(Jd ox.out 0).trans rfl,(Jd ox.out 1).trans rfl,fb5,((cl_ HB kq6).trans rfl),((cl_ HB kq8).trans rfl)⟩ (fun hHeld=>?_);refine Jx Fm.tab12 Fm.bits12 (fun HT_ HW_=>?_)
 generalize wr.drew=o5 at ar7 wj ox rb uy HB GG39 cr2 HQ42 kq3 ii7 HX337_0 hf39_0 fb5 fb6 fb7 gj7 hHeld |-
 refine pw_ 0 57 (tl_ 18 1) ?_
 refine pw_ 2 59 (tl_ 18 5) ?_
 refine pw_ 5 62 (tl_ 18 37) ?_
 refine pw_ 6 63 (tl_ 18 101) ?_
 refine pw_ 8 65 (tl_ 18 357) ?_
 refine pw_ 11 68 (tl_ 18 2405) ?_
 refine pw_ 14 71 (tl_ 18 18789) ?_
 refine tk3_ 1 58 (tl_ 18 18791) hHeld ?_
 refine pw_ 3 60 (tl_ 18 18799) ?_
 refine tk3_ 4 61 (tl_ 18 18815) hHeld ?_
 refine tk3_ 7 64 (tl_ 18 18943) hHeld ?_
 refine pw_ 9 66 (tl_ 18 19455) ?_
 refine tk3_ 10 67 (tl_ 18 20479) hHeld ?_
 refine pw_ 12 69 (tl_ 18 24575) ?_
 refine tk3_ 13 70 (tl_ 18 32767) hHeld ?_
 refine pw_ 15 72 (tl_ 18 65535) ?_
 refine pw_ 16 73 (tl_ 18 131071) ?_
 refine last_ (i:=17) (N:=none) (tl_ 18 262143) rfl rfl (Jz HT_.out (g1_)) (by decide) (fun K hK=>?_)
 refine skip_ (w1:=?_) (by rfl) rfl ?_ ?_
 rotate_left
 ·go_simp
  rfl
 refine hK.out _ _ ?_
 clear hK K
 refine done_ (done_of HT_.out (g1_)) ?_
 try go_wp2
 go_roundg k2
 case measure=>have:=HK1.out;have:=HK2.out;omega
 case rel=>exact⟨(wrap64 (bi + 1)),(bb2),(ih9),(df2),(.slice (some gj2) rz.length ay),(g3_),H',⟨g42_⟩,⟨by(with_reducible repeat(first|apply Kd.R_alloc|apply Kd.R_drewN|apply Kd.R_drew));exact Kd.R_mono (Kd.R_far (p:=⟨df3,((rd l1 (ji30)):Int).toNat,none⟩) (Kd.R_far1 ar7.out rfl ((cr2.out.1 _ rfl).1)) (fun _ hk=>hk.2) (.int .i64 (wrap64 ((rd (Jr aa (rd l1 bi)) (rd l1 (ji30))) - m3)))) (fun _ hk=>trivial)⟩,⟨uS_ HQ42⟩,⟨by(with_reducible repeat(first|refine Jm ?_ _|refine Jn ?_|refine Jl ?_ _));refine Ju ?_ (by have h_:=Kd.R_ne cr2.out ox.out (by decide);intro e_;exact h_ (g6_)) _;exact uB_ ox⟩,⟨by(with_reducible repeat(first|refine Jm ?_ _|refine Jn ?_|refine Jl ?_ _));refine Ju ?_ (by have h_:=Kd.R_ne cr2.out rb.out (by decide);intro e_;exact h_ (g6_)) _;exact uB_ rb⟩,⟨by(with_reducible repeat(first|refine Jm ?_ _|refine Jn ?_|refine Jl ?_ _));refine Ju ?_ (by have h_:=Kd.R_ne cr2.out uy.out (by decide);intro e_;exact h_ (g6_)) _;exact uB_ uy⟩,⟨aw8⟩⟩
def Fd.l0:Nat->Int->List Int->List (List Int)->Option (List Int × (List (List Int)) × Int)
 | 0,_,_,_=>none
 | k + 1,x5,gk2,gk3=>(Fg.f k gk2 gk3).bind fun ts=>(if (ts.length:Int)=0 then(some (gk2,gk3,x5)) else(if 0 < (ts.length:Int) then((Fm.f k gk2 gk3 (Jr ts 0)).bind fun bt301=>(Fd.l0 k (wrap64 (x5 + 1)) bt301.1 bt301.2)) else(none)))
def Fd.f (k:Nat) (ab:List Int) (aa:List (List Int)):Option (List Int × (List (List Int)) × Int):=(Fh.f k ab aa).bind fun ed9=>(if ed9=true then((Fs.f k ab aa).bind fun bt290=>(Fd.l0 k 0 bt290.1 bt290.2)) else(some (([]:List Int),([]:List (List Int)),(-1))))
theorem Fd.calls0_q0 {p:Prop} (h:p:=by repeat(first|(with_reducible first|exact HB.out|apply Jk|apply Jj|apply Ji|refine Jh ?_ ii9.out|refine Jh ?_ ij0.out|refine Jh ?_ kq9.out)|exact HB.out)):p:=h
set_option maxHeartbeats 8000000 in
set_option maxRecDepth 100000 in
theorem Fd.calls0 (k:Nat) (af:Option Addr) (ac:Nat) (ab:List Int) (ah:Option Addr) (ag:Nat) (aa:List (List Int)) (r1:List Int) (r2:List (List Int)) (r3:Int) (w:World) (cb:Kd.C (Kd.int .i64) w af ab.length ab) (cg:ab.length<=ac) (cc:Kd.C (Kd.slice 3 (Kd.int .i64)) w ah aa.length aa) (ch:aa.length<=ag) (h:Fd.f k ab aa=some (r1,r2,r3)) :
  Calls Try.prog 53 #[.agg #[.slice af ab.length ac, .slice ah aa.length ag]] w fun e w'=>∃v0_ v1_:Value,e = .returned (.tuple #[.agg #[v0_,v1_], .int .i64 r3])/\Kd.R (Kd.int .i64) 3 w' w.heap.size (fun k_=>(w.heap.size<=k_)) v0_ r1/\Kd.S (Kd.slice 3 (Kd.int .i64)) 22 w' w.heap.size (fun k_=>(w.heap.size<=k_)/\some k_≠(v0_:Value).ownBlock) v1_ r2/\Below w.heap.size w w':=by
 have hu25:=Try.underlying25
 have bg:=A_ cb
 have bw:=A_ cg
 clear cb cg
 have bd:=A_ cc
 have b4:=A_ ch
 clear cc ch
 have HB:=A_ (Below.refl w.heap.size w)
 have H:=h
 unfold Fd.f at H
 clear h
 obtain⟨ed9,A2,H⟩:=bind_ H
 by_cases c3:ed9=true
 case neg=>
  replace c3:=Bool.eq_false_iff.mpr c3
  subst c3
  replace H:=ifn_ H
  simp only[Option.some.injEq,Prod.mk.injEq] at H
  obtain⟨rfl,rfl,rfl⟩:=H
  go_enter Try.func53,Try.ntmps53
  go_wp2_with (first|((with_reducible refine gd_ 1 ?_);refine bx_ (N:=1) #[.slice af ab.length ac, .slice ah aa.length ag] 25 ?_;intro rc hg w45 hbox hb;have l8:=A_ (hbox);have kr0:=A_ ((g36_:w.heap.size<=rc));have ii9:=kr0;replace HB:=A_ (Jw (Fd.calls0_q0) hb);clear hb hbox hg)|((with_reducible refine gd_ 2 ?_);refine bx_ (N:=2) #[.slice none 0 0, .slice none 0 0] 25 ?_;intro ni hg w46 hbox hb;have mo:=A_ (hbox);have kr1:=A_ ((g36_:w.heap.size<=ni));have ij0:=kr1;replace HB:=A_ (Jw (Fd.calls0_q0) hb);have fc0:=nl_ l8 hg;have fc1:=nr_ l8 hg;replace l8:=bb_ l8 hb;clear hb hbox hg;have gk6:=fc0.out;have gk7:=fc1.out;obtain⟨ee7,ee8,ee9,ef0⟩:=blk2_ l8)|((with_reducible refine gc_ 42 ?_);refine gl_ 8 Try.func42 #[.agg #[.slice af ab.length ac, .slice ah aa.length ag]] ?_;(refine(Fh.calls k _ _ ab _ _ aa false _ (uC_ bg) bw.out (uC_ bd) b4.out A2.out).mono ?_);rintro e w49 ⟨rfl,hb⟩;refine⟨_,rfl,?_⟩;replace l8:=bb_ l8 hb;replace mo:=bb_ mo hb;replace HB:=A_ (Jw (Fd.calls0_q0) hb);obtain⟨np4,np5,np6,np7⟩:=blk2_ mo))
  refine bodyPost_ret (Jy rfl _ _ ni 25 #[.slice none 0 0, .slice none 0 0] (0,0) _ rfl (ba_ mo) Try.underlying25 rfl (g1_)) rfl ?_
  exact⟨_,_,g4_,g34_,g41_,Fd.calls0_q0⟩
 subst c3
 replace H:=ifp_ H
 replace H:=Option.bind_eq_some_iff.mp H
 obtain⟨⟨ar8,ee0⟩,A40,H⟩:=H
 try dsimp only at H
 have A4:=A_ A40
 clear A40
 have H':=A_ H
 clear H
 go_enter Try.func53,Try.ntmps53
 go_wp2_with (first|((with_reducible refine gd_ 1 ?_);refine bx_ (N:=1) #[.slice af ab.length ac, .slice ah aa.length ag] 25 ?_;intro rc hg w5 hbox hb;have l8:=A_ (hbox);have kr0:=A_ ((g36_:w.heap.size<=rc));have ii9:=kr0;replace HB:=A_ (Jw (Fd.calls0_q0) hb);clear hb hbox hg)|((with_reducible refine gd_ 2 ?_);refine bx_ (N:=2) #[.slice none 0 0, .slice none 0 0] 25 ?_;intro ni hg w6 hbox hb;have mo:=A_ (hbox);have kr1:=A_ ((g36_:w.heap.size<=ni));have ij0:=kr1;replace HB:=A_ (Jw (Fd.calls0_q0) hb);have fc0:=nl_ l8 hg;have fc1:=nr_ l8 hg;replace l8:=bb_ l8 hb;clear hb hbox hg;have dc0:=fc0.out;have dc1:=fc1.out;obtain⟨bg3,bg4,bg5,bg6⟩:=blk2_ l8)|((with_reducible refine gc_ 42 ?_);refine gl_ 8 Try.func42 #[.agg #[.slice af ab.length ac, .slice ah aa.length ag]] ?_;(refine(Fh.calls k _ _ ab _ _ aa true _ (uC_ bg) bw.out (uC_ bd) b4.out A2.out).mono ?_);rintro e w9 ⟨rfl,hb⟩;refine⟨_,rfl,?_⟩;replace l8:=bb_ l8 hb;replace mo:=bb_ mo hb;replace HB:=A_ (Jw (Fd.calls0_q0) hb);obtain⟨yo,yp,yq,yr⟩:=blk2_ l8)|((with_reducible refine gc_ 80 ?_);refine gl_ 12 Try.func80 #[.agg #[.slice af ab.length ac, .slice ah aa.length ag]] ?_;(refine(Fs.calls k _ _ ab _ _ aa ar8 ee0 _ (uC_ bg) bw.out (uC_ bd) b4.out A4.out).mono ?_);rintro e g8 ⟨ij1,np1,rfl,ai,ak,hb⟩;refine⟨_,rfl,?_⟩;have bq6:=A_ (Kd.R_lower (Kd.R_newM (M:=fun k_=>(w.heap.size<=k_)) ai (Je (Fd.calls0_q0)) (fun k_ h_=>h_)) (Je (Fd.calls0_q0)));have fc2:=A_ (Kd.S_lower (Kd.S_mono (ok':=fun k_=>(w.heap.size<=k_)/\some k_≠(ij1:Value).ownBlock/\k_≠rc/\k_≠ni) (id (Kd.S_bound ak)) (fun k_ hk_=>⟨(Nat.le_trans (Je (Fd.calls0_q0)) hk_.2.1),hk_.1,(Kd.freshB (g:=rc) (o:=.cells #[.slice af ab.length ac, .slice ah aa.length ag] 25 (0,0)) (uB_ l8) k_ hk_.2.1),(Kd.freshB (g:=ni) (o:=.cells #[.slice none 0 0, .slice none 0 0] 25 (0,0)) (uB_ mo) k_ hk_.2.1)⟩)) (Je (Fd.calls0_q0)));replace l8:=bb_ l8 hb;replace mo:=bb_ mo hb;replace HB:=A_ (Jw (Fd.calls0_q0) hb))|((with_reducible refine gd_ 4 ?_);refine bx_ (N:=4) #[.slice none 0 0, .slice none 0 0] 25 ?_;intro n7 hg uf hbox hb;replace bq6:=rb_ bq6 hb;replace fc2:=A_ (Kd.S_below (Kd.S_elderB (uS_ fc2) n7 (Nat.le_of_eq hg.symm)) hb);have n8:=A_ (hbox);have np2:=A_ ((g36_:w.heap.size<=n7));have kq9:=np2;replace HB:=A_ (Jw (Fd.calls0_q0) hb);have bq7:=nl_ l8 hg;have ee1:=nr_ l8 hg;replace l8:=bb_ l8 hb;have bq8:=nl_ mo hg;have ee2:=nr_ mo hg;replace mo:=bb_ mo hb;clear hb hbox hg;obtain⟨jg,gx,bo8⟩:=Kd.R_slice bq6.out;subst bo8;have dp7:=ee1.out;have dp8:=bq7.out;have dd9:=ee2.out;have de0:=bq8.out;obtain⟨af1,af2,af3,af4⟩:=blk2_ n8;obtain⟨f5,f6,ay8⟩:=Kd.S_slice fc2.out;subst ay8))
 go_loopg [5] k (fun kq v5 w'=>∃(ae:Int) (r0:List Int) (r5:List (List Int)) (fc3:Value) (gk4:Value),v5 = .int .i64 ae/\Jc (Fd.l0 kq ae r0 r5=some (r1,r2,r3))/\Jc (kq<=k)/\Jc (Kd.R (Kd.int .i64) 3 w' w.heap.size (fun k_=>(w.heap.size<=k_)) fc3 r0)/\Jc (Kd.S (Kd.slice 3 (Kd.int .i64)) 22 w' w.heap.size (fun k_=>(w.heap.size<=k_)/\some k_≠(fc3:Value).ownBlock/\k_≠rc/\k_≠ni/\k_≠n7) gk4 r5)/\Jc (hc_ w' rc #[(.slice af ab.length ac),(.slice ah aa.length ag)] 25)/\Jc (hc_ w' ni #[(.slice none 0 0),(.slice none 0 0)] 25)/\Jc (hc_ w' n7 #[fc3,gk4] 25)/\Jc (Below w.heap.size w w'))
 case atStart=>exact⟨(0),(ar8),(ee0),(.slice jg ar8.length gx),(.slice f5 ee0.length f6),(g3_),H',⟨Nat.le_refl _⟩,⟨ra_ bq6⟩,⟨sa_ fc2⟩,⟨ba_ l8⟩,⟨ba_ mo⟩,⟨ba_ n8⟩,⟨Fd.calls0_q0⟩⟩
 clear H'
 obtain⟨ae,r0,r5,fc3,gk4,rfl,HA,HK1,r6,te,l8,mo,n8,HB⟩:=hrel
 cases gk with
 | zero=>exact absurd HA.out (by simp[Fd.l0])
 | succ k1=>?_
 have H:=HA.out
 clear HA
 simp only[Fd.l0] at H
 obtain⟨ts,A18,H⟩:=bind_ H
 by_cases fe:(ts.length:Int)=0
 ·rw[if_pos fe] at H
  have tr:((ts.length:Int) == 0)=true:=beq_iff_eq.mpr fe
  have am9:((ts.length:Int) != 0)=false:=bne_eq_false_iff_eq.mpr fe
  clear fe
  simp only[Option.some.injEq,Prod.mk.injEq] at H
  obtain⟨rfl,rfl,rfl⟩:=H
  have dc8:=ee1.out
  have dc9:=bq7.out
  have ij2:=ee2.out
  have ij3:=bq8.out
  obtain⟨af6,af7,af8,af9⟩:=blk2_ n8
  obtain⟨ku,f7,cr4⟩:=Kd.R_slice r6.out
  subst cr4
  obtain⟨ab5,ew,ca8⟩:=Kd.S_slice te.out
  subst ca8
  go_wp2_with (first|((with_reducible refine gc_ 95 ?_);refine gl_ 14 Try.func95 #[.agg #[.slice ku r0.length f7, .slice ab5 r5.length ew]] ?_;(refine(Fg.calls k1 _ _ r0 _ _ r5 ts _ (cR_ r6) (lR_ r6) (cS_ te) (lS_ te) A18.out).mono ?_);rintro e w25 ⟨kr2,rfl,ai,hb⟩;refine⟨_,rfl,?_⟩;have ar9:=A_ (Kd.N_lower (Kd.N_mono (ok':=fun k_=>(w.heap.size<=k_)/\some k_≠(.slice ku r0.length f7:Value).ownBlock/\some k_≠(.slice ab5 r5.length ew:Value).ownBlock/\k_≠rc/\k_≠ni/\k_≠n7) ai (fun k_ hk_=>⟨(Nat.le_trans (Je (Fd.calls0_q0)) hk_),(Kd.fresh' (Kd.R_lt (uR_ r6)) k_ hk_),(Kd.fresh' (Kd.S_lt (uS_ te)) k_ hk_),(Kd.freshB (g:=rc) (o:=.cells #[.slice af ab.length ac, .slice ah aa.length ag] 25 (0,0)) (uB_ l8) k_ hk_),(Kd.freshB (g:=ni) (o:=.cells #[.slice none 0 0, .slice none 0 0] 25 (0,0)) (uB_ mo) k_ hk_),(Kd.freshB (g:=n7) (o:=.cells #[.slice ku r0.length f7, .slice ab5 r5.length ew] 25 (0,0)) (uB_ n8) k_ hk_)⟩)) (Je (Fd.calls0_q0)));replace r6:=rb_ r6 hb;replace te:=A_ (Kd.S_elder' (uS_ te) (Kd.N_base (g103_)) hb);replace l8:=bb_ l8 hb;replace mo:=bb_ mo hb;replace n8:=bb_ n8 hb;replace HB:=A_ (Jw (Fd.calls0_q0) hb);obtain⟨kr,ks,qy⟩:=Kd.N_slice ar9.out;subst qy;obtain⟨df4,df5,df6,df7⟩:=blk2_ n8;have dd6:=fc1.out;have dd7:=fc0.out;obtain⟨db6,db7,db8,db9⟩:=blk2_ mo))
  refine bodyPost_ret (Jy rfl _ _ ni 25 #[.slice ku r0.length f7, .slice ab5 r5.length ew] (0,0) _ rfl (ba_ mo) Try.underlying25 rfl (g1_)) rfl ?_
  exact⟨_,_,g4_,ra_ r6,sa_ te,Fd.calls0_q0⟩
 rw[if_neg fe] at H
 have tr:((ts.length:Int) == 0)=false:=beq_eq_false_iff_ne.mpr fe
 have am9:((ts.length:Int) != 0)=true:=bne_iff_ne.mpr fe
 have df1:¬ (ts=[]):=fun h_=>fe (by rw[h_];rfl)
 obtain⟨uw,H⟩:=pos_ H
 have de1:=decide_eq_true uw
 have gf5:decide (0 < ts.length)=true:=decide_eq_true (by omega)
 clear uw
 replace H:=Option.bind_eq_some_iff.mp H
 obtain⟨⟨as0,ee3⟩,ij4,H⟩:=H
 try dsimp only at H
 have A31:=A_ ij4
 clear ij4
 have H':=A_ H
 clear H
 have ee4:=ee1.out
 have ee5:=bq7.out
 have ca5:=ee2.out
 have ca6:=bq8.out
 obtain⟨dd1,dd2,dd3,dd4⟩:=blk2_ n8
 obtain⟨bz,bk,ba0⟩:=Kd.R_slice r6.out
 subst ba0
 obtain⟨gc,fq,cn6⟩:=Kd.S_slice te.out
 subst cn6
 try go_wp2_with (first|((with_reducible refine gc_ 95 ?_);refine gl_ 14 Try.func95 #[.agg #[.slice bz r0.length bk, .slice gc r5.length fq]] ?_;(refine(Fg.calls k1 _ _ r0 _ _ r5 ts _ (cR_ r6) (lR_ r6) (cS_ te) (lS_ te) A18.out).mono ?_);rintro e tb ⟨kr2,rfl,ai,hb⟩;refine⟨_,rfl,?_⟩;have ar9:=A_ (Kd.N_lower (Kd.N_mono (ok':=fun k_=>(w.heap.size<=k_)/\some k_≠(.slice bz r0.length bk:Value).ownBlock/\some k_≠(.slice gc r5.length fq:Value).ownBlock/\k_≠rc/\k_≠ni/\k_≠n7) ai (fun k_ hk_=>⟨(Nat.le_trans (Je (Fd.calls0_q0)) hk_),(Kd.fresh' (Kd.R_lt (uR_ r6)) k_ hk_),(Kd.fresh' (Kd.S_lt (uS_ te)) k_ hk_),(Kd.freshB (g:=rc) (o:=.cells #[.slice af ab.length ac, .slice ah aa.length ag] 25 (0,0)) (uB_ l8) k_ hk_),(Kd.freshB (g:=ni) (o:=.cells #[.slice none 0 0, .slice none 0 0] 25 (0,0)) (uB_ mo) k_ hk_),(Kd.freshB (g:=n7) (o:=.cells #[.slice bz r0.length bk, .slice gc r5.length fq] 25 (0,0)) (uB_ n8) k_ hk_)⟩)) (Je (Fd.calls0_q0)));replace r6:=rb_ r6 hb;replace te:=A_ (Kd.S_elder' (uS_ te) (Kd.N_base (g103_)) hb);replace l8:=bb_ l8 hb;replace mo:=bb_ mo hb;replace n8:=bb_ n8 hb;replace HB:=A_ (Jw (Fd.calls0_q0) hb);obtain⟨k5,jr,aq9⟩:=Kd.N_slice ar9.out;subst aq9))
 replace r6:=rd_ r6
 replace te:=sd_ te
 replace ar9:=nd_ ar9
 replace l8:=bd_ l8
 replace mo:=bd_ mo
 replace n8:=bd_ n8
 replace HB:=A_ (Ji HB.out)
 have cc2:0<=(0:Int):=(by omega)
 have cc3:0 < (ts.length:Int):=od_
 obtain⟨ez8,ij5,ij6,gg9,de8,ij7,ij8⟩:=at_L1 (Kd.N_reads' ar9.out).2.2 0 cc2 cc3
 cases gg9
 obtain⟨ce300,hce300,hMe300,hcc300⟩:=Kd.N_get ar9.out [] 0 cc2 (by first|exact cc3|exact od_|(have e_:=(Kd.N_reads' ar9.out).1;omega))
 obtain⟨ua300_0,uc300_0,rfl,ul300_0,ge300_0⟩:=Kd.FK_slice_open hMe300
 have hv300_0:=hcc300 0 _ rfl
 rw[Nat.add_zero,show((Kd.slice 3 (Kd.int .i64))).sz=1 from rfl,Nat.mul_one] at hv300_0
 replace hv300_0:=Option.some.inj (hv300_0.symm.trans de8)
 injection hv300_0 with hva_ hvn_ hvc_
 rw[hva_] at ge300_0
 rw[hvc_] at ul300_0
 have gk5:=A_ (show Kd.V (Kd.int .i64) 3 _ w.heap.size _ _ (Jr ts 0) from Kd.V_mk ul300_0 ge300_0)
 clear hva_ hvn_ hvc_ ge300_0 ul300_0
 clear hcc300 hce300
 have qi300:(0 < ts.length)=True:=eq_true (by omega)
 (try rw[show((0:Int)).toNat=0 from rfl] at de8)
 (try rw[Addr.add_zero'] at de8)
 have df8:=A_ ij8
 have kr3:=A_ ij7
 clear ij8 ij7
 replace cc2:=eq_true cc2
 replace cc3:=eq_true cc3
 refine start_ (n:=6) (S:=fun w'=>w'.cell? ⟨n7,0,none⟩=some (.slice bz r0.length bk)/\w'.cell? ⟨n7,1,none⟩=some (.slice gc r5.length fq)/\w'.cell? ez8=some (.slice ij5 (Jr ts 0).length ij6)) (ds:=[5]) (tl_ 6 0) (g1_) rfl (g1_) ⟨(Jd n8.out 0).trans rfl,(Jd n8.out 1).trans rfl,de8⟩ (fun hHeld=>?_)
 generalize tb.drew=w39 at r6 te ar9 l8 mo n8 HB gk5 df8 de8 hHeld |-
 refine pure_ (i:=1) (N:=some 21) (v:=?_) (a':=?_) (tl_ 6 2) rfl rfl (g1_) (fun _ _ _ h=>h) (Or.inl ⟨by rfl,?_⟩) ?_ ?_
 rotate_left
 ·intro w'
  go_simp
  with_reducible rfl
 rotate_left
 · exact sp_
 refine pure_ (i:=2) (N:=some 22) (v:=?_) (a':=?_) (tl_ 6 6) rfl rfl (g1_) (fun _ _ _ h=>h) (Or.inl ⟨by rfl,?_⟩) ?_ ?_
 rotate_left
 ·intro w'
  go_simp
  with_reducible rfl
 rotate_left
 · exact sp_
 refine take_ (i:=0) (N:=some 20) (v:=?_) (a':=?_) (tl_ 6 7) rfl rfl (g1_) (fun _ _ _ h=>h) (Or.inl ⟨by rfl,?_⟩) hHeld ?_ ?_
 rotate_left
 ·rintro w' ⟨s0,s1,s2⟩
  go_simp
  with_reducible rfl
 rotate_left
 · exact sp_
 refine take_ (i:=3) (N:=some 23) (v:=?_) (a':=?_) (tl_ 6 15) rfl rfl (g1_) (fun _ _ _ h=>h) (Or.inl ⟨by rfl,?_⟩) hHeld ?_ ?_
 rotate_left
 ·rintro w' ⟨s0,s1,s2⟩
  go_simp
  with_reducible rfl
 rotate_left
 · exact sp_
 refine one_ (i:=4) (N:=some 24) (tl_ 6 31) rfl rfl (g1_) (by decide) (fun K hK=>?_)
 refine goes_ Try.func98 (g1_) rfl #[.agg #[.slice bz r0.length bk, .slice gc r5.length fq], .slice ij5 (Jr ts 0).length ij6] (by rfl) rfl rfl (gM_) ?_
 with_reducible refine(Fm.calls k1 _ _ r0 _ _ r5 _ _ (Jr ts 0) as0 ee3 _ ?side1 ?side2 ?side3 ?side4 ?side5 ?side6 A31.out).mono ?_
 (case side1=>exact cR_ r6)
 (case side2=>exact lR_ r6)
 (case side3=>exact cS_ te)
 (case side4=>exact lS_ te)
 (case side5=>repeat(first|exact(by repeat(first|(with_reducible exact df8.out)|(with_reducible refine Kd.C_alloc ?_ _)|(with_reducible refine Kd.C_drewN ?_ _)|(with_reducible refine Kd.C_drew ?_)|exact df8.out))|(with_reducible refine Kd.C_alloc ?_ _)|(with_reducible refine Kd.C_drewN ?_ _)|(with_reducible refine Kd.C_drew ?_)))
 (case side6=>exact kr3.out)
 rintro e o5 ⟨ij9,np3,rfl,ai,ak,hb⟩
 have HS2_:=(hb.cell (World.block_lt_of_cell? _ _ (hHeld.2.2))).trans (hHeld.2.2)
 refine⟨_,rfl,?_⟩
 replace gk5:=A_ (Kd.V_mono (Kd.V_told (Kd.V_told (Kd.V_old (uV_ gk5) hb) (Kd.R_base ai)) (Kd.S_base (g72_))) (fun _ h_=>h_.1))
 have ee6:=A_ (Kd.R_lower (Kd.R_new' (Kd.R_newM (M:=fun k_=>(w.heap.size<=k_)) ai (Je (Fd.calls0_q0)) (fun k_ h_=>h_)) (Kd.R_lt (uR_ r6))) (Je (Fd.calls0_q0)))
 have ik0:=A_ (Kd.S_lower (Kd.S_mono (ok':=fun k_=>(w.heap.size<=k_)/\some k_≠(ij9:Value).ownBlock/\some k_≠(.slice bz r0.length bk:Value).ownBlock/\some k_≠(.slice gc r5.length fq:Value).ownBlock/\some k_≠(.slice (some ez8) ts.length jr:Value).ownBlock/\k_≠rc/\k_≠ni/\k_≠n7) (id (Kd.S_bound ak)) (fun k_ hk_=>⟨(Nat.le_trans (Je (Fd.calls0_q0)) hk_.2.1),hk_.1,(Kd.fresh' (Kd.R_lt (uR_ r6)) k_ hk_.2.1),(Kd.fresh' (Kd.S_lt (uS_ te)) k_ hk_.2.1),(Kd.fresh' (Kd.N_lt (uN_ ar9)) k_ hk_.2.1),(Kd.freshB (g:=rc) (o:=.cells #[.slice af ab.length ac, .slice ah aa.length ag] 25 (0,0)) (uB_ l8) k_ hk_.2.1),(Kd.freshB (g:=ni) (o:=.cells #[.slice none 0 0, .slice none 0 0] 25 (0,0)) (uB_ mo) k_ hk_.2.1),(Kd.freshB (g:=n7) (o:=.cells #[.slice bz r0.length bk, .slice gc r5.length fq] 25 (0,0)) (uB_ n8) k_ hk_.2.1)⟩)) (Je (Fd.calls0_q0)))
 replace r6:=A_ (Kd.R_elder' (uR_ r6) (Kd.R_base ai) hb)
 replace te:=A_ (Kd.S_mono (Kd.S_told (Kd.S_told (Kd.S_old (uS_ te) hb) (Kd.R_base ai)) (Kd.S_base (g72_))) (fun _ h_=>h_.1))
 replace ar9:=A_ (Kd.N_mono (Kd.N_told (Kd.N_told (Kd.N_old (uN_ ar9) hb) (Kd.R_base ai)) (Kd.S_base (g72_))) (fun _ h_=>h_.1))
 replace l8:=bb_ l8 hb
 replace mo:=bb_ mo hb
 replace n8:=bb_ n8 hb
 replace df8:=A_ (Kd.C_below (by repeat(first|(with_reducible exact df8.out)|(with_reducible refine Kd.C_alloc ?_ _)|(with_reducible refine Kd.C_drewN ?_ _)|(with_reducible refine Kd.C_drew ?_)|exact df8.out)) hb)
 replace HB:=A_ (Jw (Fd.calls0_q0) hb)
 obtain⟨a7,ay,ac1⟩:=Kd.R_slice ee6.out
 (first|subst ac1|(injection ac1 with f1_ f2_ f3_;have f4_:=f1_.symm;have f5_:=f3_.symm;clear f1_ f2_ f3_;subst f4_;subst f5_))
 obtain⟨n9,nj,bi4⟩:=Kd.S_slice ik0.out
 (first|subst bi4|(injection bi4 with f1_ f2_ f3_;have f4_:=f1_.symm;have f5_:=f3_.symm;clear f1_ f2_ f3_;subst f4_;subst f5_))
 refine hK.out _ _ ⟨(Jd n8.out 0).trans rfl,(Jd n8.out 1).trans rfl,HS2_⟩ (fun hHeld=>?_)
 clear hK K
 refine nm_ ?_
 refine last_ (i:=5) (N:=none) (tl_ 6 63) rfl rfl (g1_) (by decide) (fun K hK=>?_)
 have ik1:o5.cell? ⟨n7,0,none⟩=some (.slice bz r0.length bk):=(Jd n8.out 0).trans rfl
 have ik2:=Jo n8.out 0
 have kr4:o5.cell? ⟨n7,1,none⟩=some (.slice gc r5.length fq):=(Jd n8.out 1).trans rfl
 have kr5:=Jo n8.out 1
 refine skip_ (w1:=?_) (by rfl) rfl ?_ ?_
 rotate_left
 ·go_simp
  rfl
 refine hK.out _ _ ?_
 clear hK K
 refine done_ (g1_) ?_
 try go_wp2
 go_roundg k1
 case measure=>have:=HK1.out;omega
 case rel=>exact⟨(wrap64 (ae + 1)),(as0),(ee3),(.slice a7 as0.length ay),(.slice n9 ee3.length nj),(g3_),H',⟨g8_⟩,⟨ra_ ee6⟩,⟨sa_ ik0⟩,⟨ba_ l8⟩,⟨ba_ mo⟩,⟨ba_ n8⟩,⟨Fd.calls0_q0⟩⟩
theorem Fd.calls (k:Nat) (af:Option Addr) (ac:Nat) (ab:List Int) (ah:Option Addr) (ag:Nat) (aa:List (List Int)) (r1:List Int) (r2:List (List Int)) (r3:Int) (w:World) (cb:Kd.C (Kd.int .i64) w af ab.length ab) (cg:ab.length<=ac) (cc:Kd.C (Kd.slice 3 (Kd.int .i64)) w ah aa.length aa) (ch:aa.length<=ag) (h:Fd.f k ab aa=some (r1,r2,r3)) :
  Calls Try.prog 53 #[.agg #[.slice af ab.length ac, .slice ah aa.length ag]] w fun e w'=>∃v0_ v1_:Value,e = .returned (.tuple #[.agg #[v0_,v1_], .int .i64 r3])/\Kd.R (Kd.int .i64) 3 w' w.heap.size (fun _=>True) v0_ r1/\Kd.S (Kd.slice 3 (Kd.int .i64)) 22 w' w.heap.size (fun k_=>some k_≠(v0_:Value).ownBlock) v1_ r2/\Below w.heap.size w w':=by
 refine(Fd.calls0 k af ac ab ah ag aa r1 r2 r3 w cb cg cc ch h).mono ?_
 rintro e w' ⟨v0_,v1_,he,h0,h1,hb⟩
 exact⟨v0_,v1_,he,Kd.R_mono h0 (fun _ _=>trivial),Kd.S_mono h1 (fun _ h_=>h_.2),hb⟩
mutual
def Fw.l0:Nat->Int->List Int->List (List Int)->List Int->List (List Int)->Option (Bool)
 | 0,_,_,_,_,_=>none
 | k + 1,x5,cr5,cr6,df9,cr7=>if x5 < (cr5.length:Int) then(if 0<=x5 then(if x5 < (df9.length:Int) then(if (rd cr5 x5)=(rd df9 x5) then(Fw.l1 k x5 0 cr5 cr6 df9 cr7) else(some false)) else(none)) else(none)) else(some true)
def Fw.l1:Nat->Int->Int->List Int->List (List Int)->List Int->List (List Int)->Option (Bool)
 | 0,_,_,_,_,_,_=>none
 | k + 1,x5,x6,cr5,cr6,df9,cr7=>if x6 < (cr5.length:Int) then(if 0<=x5 then(if x5 < (cr6.length:Int) then(if 0<=x6 then(if x6 < ((Jr cr6 x5).length:Int) then(if x5 < (cr7.length:Int) then(if x6 < ((Jr cr7 x5).length:Int) then(if (rd (Jr cr6 x5) x6)=(rd (Jr cr7 x5) x6) then(Fw.l1 k x5 (wrap64 (x6 + 1)) cr5 cr6 df9 cr7) else(some false)) else(none)) else(none)) else(none)) else(none)) else(none)) else(none)) else(Fw.l0 k (wrap64 (x5 + 1)) cr5 cr6 df9 cr7)
end
def Fw.f (k:Nat) (ab:List Int) (aa:List (List Int)) (fj:List Int) (fn:List (List Int)):Option (Bool):=Fw.l0 k 0 ab aa fj fn
theorem ak9 {p:Prop} (h:p:=by repeat(first|(with_reducible first|exact HB.out|apply Jk|apply Jj|apply Ji|refine Jh ?_ gk8.out|refine Jh ?_ gk9.out)|exact HB.out)):p:=h
set_option maxHeartbeats 8000000 in
set_option maxRecDepth 100000 in
theorem Fw.calls (k:Nat) (af:Option Addr) (ac:Nat) (ab:List Int) (ah:Option Addr) (ag:Nat) (aa:List (List Int)) (mx:Option Addr) (mm:Nat) (fj:List Int) (nw:Option Addr) (nx:Nat) (fn:List (List Int)) (r:Bool) (w:World) (cb:Kd.C (Kd.int .i64) w af ab.length ab) (cg:ab.length<=ac) (cc:Kd.C (Kd.slice 3 (Kd.int .i64)) w ah aa.length aa) (ch:aa.length<=ag) (ax1:Kd.C (Kd.int .i64) w mx fj.length fj) (ax2:fj.length<=mm) (ax3:Kd.C (Kd.slice 3 (Kd.int .i64)) w nw fn.length fn) (ax4:fn.length<=nx) (h:Fw.f k ab aa fj fn=some r) :
  Calls Try.prog 122 #[.agg #[.slice af ab.length ac, .slice ah aa.length ag], .agg #[.slice mx fj.length mm, .slice nw fn.length nx]] w fun e w'=>e = .returned (.bool r)/\Below w.heap.size w w':=by
 have hu25:=Try.underlying25
 have bg:=A_ cb
 have bw:=A_ cg
 clear cb cg
 have bd:=A_ cc
 have b4:=A_ ch
 clear cc ch
 have al0:=A_ ax1
 have ax5:=A_ ax2
 clear ax1 ax2
 have ax6:=A_ ax3
 have bl7:=A_ ax4
 clear ax3 ax4
 have HB:=A_ (Below.refl w.heap.size w)
 have H:(Fw.l0 k 0 ab aa fj fn)=some r:=h
 clear h
 have H':=A_ H
 clear H
 go_enter Try.func122,Try.ntmps122
 iterate 2 (go_wp2_with (first|((with_reducible refine gd_ 2 ?_);refine bx_ (N:=2) #[.slice af ab.length ac, .slice ah aa.length ag] 25 ?_;intro wk hg w3 hbox hb;have r7:=A_ (hbox);have ik7:=A_ ((g25_:w.heap.size<=wk));have gk8:=ik7;replace HB:=hs_ (ak9) hb;clear hb hbox hg)|((with_reducible refine gd_ 3 ?_);refine bx_ (N:=3) #[.slice mx fj.length mm, .slice nw fn.length nx] 25 ?_;intro zi hg w4 hbox hb;have as1:=A_ (hbox);have ik8:=A_ ((g25_:w.heap.size<=zi));have gk9:=ik8;replace HB:=hs_ (ak9) hb;have cd1:=nl_ r7 hg;have cd2:=nr_ r7 hg;replace r7:=bb_ r7 hb;clear hb hbox hg));try(go_quiet (fail)))
 go_loopg [5] k (fun kq v5 w'=>∃(ae:Int),v5 = .int .i64 ae/\Jc (Fw.l0 kq ae ab aa fj fn=some r)/\Jc (kq<=k)/\Jc (hc_ w' wk #[(.slice af ab.length ac),(.slice ah aa.length ag)] 25)/\Jc (hc_ w' zi #[(.slice mx fj.length mm),(.slice nw fn.length nx)] 25)/\Jc (Below w.heap.size w w'))
 case atStart=>exact⟨(0),(g3_),H',⟨Nat.le_refl _⟩,⟨uB_ r7⟩,⟨uB_ as1⟩,⟨ak9⟩⟩
 clear H'
 obtain⟨ae,rfl,HA,HK1,r7,as1,HB⟩:=hrel
 cases gk with
 | zero=>exact absurd HA.out (by simp[Fw.l0])
 | succ k1=>?_
 have H:=HA.out
 clear HA
 simp only[Fw.l0] at H
 by_cases c5:ae < (ab.length:Int)
 case neg=>
  rw[if_neg c5] at H
  have kn:=decide_eq_false c5
  clear c5
  obtain rfl:=Option.some.inj H
  have gb3:=cd1.out
  have gb4:=cd2.out
  obtain⟨hv2,hv3,hv4,hv5⟩:=blk2_ r7
  go_wp2
  repeat(go_quiet (fail);try go_wp2)
  go_ret
  exact⟨g4_,ak9⟩
 rw[if_pos c5] at H
 have kn:=decide_eq_true c5
 clear c5
 obtain⟨kf,H⟩:=pd_ H
 obtain⟨pz,H⟩:=pd_ H
 by_cases c8:(rd ab ae)=(rd fj ae)
 case neg=>
  rw[if_neg c8] at H
  have xf:((rd ab ae) == (rd fj ae))=false:=beq_eq_false_iff_ne.mpr c8
  have cd3:((rd ab ae) != (rd fj ae))=true:=bne_iff_ne.mpr c8
  obtain rfl:=Option.some.inj H
  have dd6:=cd1.out
  have dd7:=cd2.out
  obtain⟨db6,db7,db8,db9⟩:=blk2_ r7
  obtain⟨⟨ik9,gl0,dg0⟩,cd4,cd5⟩:=rdp_ (Kd.at_int bg.out ae)
  cases gl0
  replace dg0:=cl_ HB dg0
  obtain⟨eu3,eu4,eu5,eu6⟩:=blk2_ as1
  obtain⟨⟨il0,gl1,dg1⟩,cd6,cd7⟩:=rdp_ (Kd.at_int al0.out ae)
  cases gl1
  replace dg1:=cl_ HB dg1
  go_wp2
  repeat(go_quiet (fail);try go_wp2)
  go_ret
  exact⟨g4_,ak9⟩
 rw[if_pos c8] at H
 have xf:((rd ab ae) == (rd fj ae))=true:=beq_iff_eq.mpr c8
 have cd3:((rd ab ae) != (rd fj ae))=false:=bne_eq_false_iff_eq.mpr c8
 clear c8
 have H':=A_ H
 clear H
 have da4:=cd1.out
 have da5:=cd2.out
 obtain⟨yo,yp,yq,yr⟩:=blk2_ r7
 obtain⟨⟨ik9,gl0,dg0⟩,cd4,cd5⟩:=rdp_ (Kd.at_int bg.out ae)
 cases gl0
 replace dg0:=cl_ HB dg0
 obtain⟨sr,ss,st,su⟩:=blk2_ as1
 obtain⟨⟨il0,gl1,dg1⟩,cd6,cd7⟩:=rdp_ (Kd.at_int al0.out ae)
 cases gl1
 replace dg1:=cl_ HB dg1
 go_wp2
 repeat(go_quiet (fail);try go_wp2)
 go_loopg [6] k1 (fun kq v6 w'=>∃(me:Int),v6 = .int .i64 me/\Jc (Fw.l1 kq ae me ab aa fj fn=some r)/\Jc (kq<=k1)/\Jc (hc_ w' wk #[(.slice (some ik9) ab.length ac),(.slice ah aa.length ag)] 25)/\Jc (hc_ w' zi #[(.slice (some il0) fj.length mm),(.slice nw fn.length nx)] 25)/\Jc (Below w.heap.size w w'))
 case atStart=>exact⟨(0),(g3_),H',⟨Nat.le_refl _⟩,⟨uB_ r7⟩,⟨uB_ as1⟩,⟨ak9⟩⟩
 clear H'
 obtain⟨me,rfl,HA,HK2,r7,as1,HB⟩:=hrel
 cases gk with
 | zero=>exact absurd HA.out (by simp[Fw.l1])
 | succ k2=>?_
 have H:=HA.out
 clear HA
 simp only[Fw.l1] at H
 by_cases k9:me < (ab.length:Int)
 case neg=>
  rw[if_neg k9] at H
  have aq4:=decide_eq_false k9
  clear k9
  have H':=A_ H
  clear H
  obtain⟨df4,df5,df6,df7⟩:=blk2_ r7
  go_wp2
  repeat(go_quiet (fail);try go_wp2)
  go_roundg k2
  case measure=>have:=HK1.out;have:=HK2.out;omega
  case rel=>exact⟨(wrap64 (ae + 1)),(g3_),H',⟨g42_⟩,⟨uB_ r7⟩,⟨uB_ as1⟩,⟨ak9⟩⟩
 rw[if_pos k9] at H
 have aq4:=decide_eq_true k9
 clear k9
 obtain⟨eb0,H⟩:=pd_ H
 obtain⟨aq8,H⟩:=pd_ H
 obtain⟨pf,H⟩:=pd_ H
 obtain⟨ag9,H⟩:=pd_ H
 obtain⟨al4,H⟩:=pd_ H
 obtain⟨bh2,H⟩:=pd_ H
 by_cases fe:(rd (Jr aa ae) me)=(rd (Jr fn ae) me)
 ·rw[if_pos fe] at H
  have tr:((rd (Jr aa ae) me) == (rd (Jr fn ae) me))=true:=beq_iff_eq.mpr fe
  have am9:((rd (Jr aa ae) me) != (rd (Jr fn ae) me))=false:=bne_eq_false_iff_eq.mpr fe
  clear fe
  have H':=A_ H
  clear H
  obtain⟨uh,ui,uj,uk⟩:=blk2_ r7
  obtain⟨⟨ks0,ks1,ks2,gl2,ef1,ef2,ef3⟩,cr8,cr9⟩:=rdp_ (at_L1 bd.out ae)
  cases gl2
  replace ef1:=cl_ HB ef1
  have gl3:=A_ ef3
  have ks3:=A_ ef2
  clear ef3 ef2
  obtain⟨⟨ks4,gl4,ef4⟩,cs0,cs1⟩:=rdp_ (Kd.at_int gl3.out me)
  cases gl4
  replace ef4:=cl_ HB ef4
  obtain⟨af6,af7,af8,af9⟩:=blk2_ as1
  obtain⟨⟨ks5,ks6,ks7,gl6,ef5,ef6,ef7⟩,cs2,cs3⟩:=rdp_ (at_L1 ax6.out ae)
  cases gl6
  replace ef5:=cl_ HB ef5
  have gl8:=A_ ef7
  have ks8:=A_ ef6
  clear ef7 ef6
  obtain⟨⟨ks9,gm0,ef8⟩,cs4,cs5⟩:=rdp_ (Kd.at_int gl8.out me)
  cases gm0
  replace ef8:=cl_ HB ef8
  go_wp2
  repeat(go_quiet (fail);try go_wp2)
  go_roundg k2
  case measure=>have:=HK1.out;have:=HK2.out;omega
  case rel=>exact⟨(wrap64 (me + 1)),(g3_),H',⟨g42_⟩,⟨uB_ r7⟩,⟨uB_ as1⟩,⟨ak9⟩⟩
 rw[if_neg fe] at H
 have tr:((rd (Jr aa ae) me) == (rd (Jr fn ae) me))=false:=beq_eq_false_iff_ne.mpr fe
 have am9:((rd (Jr aa ae) me) != (rd (Jr fn ae) me))=true:=bne_iff_ne.mpr fe
 obtain rfl:=Option.some.inj H
 obtain⟨il3,il4,il5,il6⟩:=blk2_ r7
 obtain⟨⟨ks0,ks1,ks2,gl2,ef1,ef2,ef3⟩,cr8,cr9⟩:=rdp_ (at_L1 bd.out ae)
 cases gl2
 replace ef1:=cl_ HB ef1
 have gl3:=A_ ef3
 have ks3:=A_ ef2
 clear ef3 ef2
 obtain⟨⟨ks4,gl4,ef4⟩,cs0,cs1⟩:=rdp_ (Kd.at_int gl3.out me)
 cases gl4
 replace ef4:=cl_ HB ef4
 obtain⟨fc4,fc5,fc6,fc7⟩:=blk2_ as1
 obtain⟨⟨ks5,ks6,ks7,gl6,ef5,ef6,ef7⟩,cs2,cs3⟩:=rdp_ (at_L1 ax6.out ae)
 cases gl6
 replace ef5:=cl_ HB ef5
 have gl8:=A_ ef7
 have ks8:=A_ ef6
 clear ef7 ef6
 obtain⟨⟨ks9,gm0,ef8⟩,cs4,cs5⟩:=rdp_ (Kd.at_int gl8.out me)
 cases gm0
 replace ef8:=cl_ HB ef8
 go_wp2
 repeat(go_quiet (fail);try go_wp2)
 go_ret
 exact⟨g4_,ak9⟩
attribute [local go_sem high] eqA69
mutual
def Fr.j0:Nat->Int->Bool->List Int->List (List Int)->Int->Int->Int->Int->List Int->List (List Int)->Option (List Int × (List (List Int)) × Bool)
 | 0,_,_,_,_,_,_,_,_,_,_=>none
 | k + 1,x6,x14,as2,as3,bq9,wl,an0,bb3,bi5,as4=>if x14=true then(if 0<=wl then(if wl < (bi5.length:Int) then((some (bi5.set (wl:Int).toNat bb3:List Int)).bind fun bi6=>((Fw.f k bi6 as4 as2 as3).bind fun ef9=>(some (bi6,as4, !ef9)))) else(none)) else(none)) else(if bq9=1 then((F8.f wl 0 (wrap64 (x6 - 1))).bind fun gm3=>(if gm3=true then((F8.f an0 0 (wrap64 (x6 - 1))).bind fun gm4=>(if gm4=true then(if wl=an0 then(Fr.j1 k false as2 as3 bq9 wl an0 bb3 bi5 as4) else((F8.f bb3 0 9).bind fun fc8=>(Fr.j1 k fc8 as2 as3 bq9 wl an0 bb3 bi5 as4))) else(Fr.j1 k false as2 as3 bq9 wl an0 bb3 bi5 as4))) else(Fr.j1 k false as2 as3 bq9 wl an0 bb3 bi5 as4))) else(Fr.j1 k false as2 as3 bq9 wl an0 bb3 bi5 as4))
def Fr.j1:Nat->Bool->List Int->List (List Int)->Int->Int->Int->Int->List Int->List (List Int)->Option (List Int × (List (List Int)) × Bool)
 | 0,_,_,_,_,_,_,_,_,_=>none
 | k + 1,x42,as2,as3,bq9,wl,an0,bb3,bi5,as4=>if x42=true then(if 0<=wl then(if wl < (as4.length:Int) then(if 0<=an0 then(if an0 < ((Jr as4 wl).length:Int) then((some (as4.set (wl:Int).toNat ((Jr as4 wl).set (an0:Int).toNat bb3):List (List Int))).bind fun an1=>((Fw.f k bi5 an1 as2 as3).bind fun cs6=>(some (bi5,an1, !cs6)))) else(none)) else(none)) else(none)) else(none)) else(if (bq9 == 2 && (wl == 0 && (an0 == 0 && (bb3 == 0))))=true then((Fl.f k as2 as3).bind fun bt373=>((Fw.f k bt373.1 bt373.2 as2 as3).bind fun gm5=>(some (bt373.1,bt373.2, !gm5)))) else(if (bq9 == 3 && (wl == 0 && (an0 == 0 && (bb3 == 0))))=true then((Fd.f k as2 as3).bind fun bt380=>((Fw.f k bt380.1 bt380.2.1 as2 as3).bind fun gm6=>(some (bt380.1,bt380.2.1, !gm6)))) else(some (([]:List Int),([]:List (List Int)),false))))
end
def Fr.f (k:Nat) (ab:List Int) (aa:List (List Int)) (aq:Int) (am:Int) (an:Int) (ao:Int):Option (List Int × (List (List Int)) × Bool):=(Fs.f k ab aa).bind fun bt354=>(if aq=0 then((F8.f am 0 (wrap64 ((ab.length:Int) - 1))).bind fun eg0=>(if eg0=true then(if an=0 then((F8.f ao 0 20).bind fun dg2=>(Fr.j0 k (ab.length:Int) dg2 ab aa aq am an ao bt354.1 bt354.2)) else(Fr.j0 k (ab.length:Int) false ab aa aq am an ao bt354.1 bt354.2)) else(Fr.j0 k (ab.length:Int) false ab aa aq am an ao bt354.1 bt354.2))) else(Fr.j0 k (ab.length:Int) false ab aa aq am an ao bt354.1 bt354.2))
def Fr.T7:Bool × List (List Nat × List Nat):=(true,[([],[]),([0],[0]),([],[]),([2],[2]),([1,3],[1,3]),([4],[4]),([],[]),([6],[6]),([],[]),([8],[8]),([5,7,0,1,2,3,4,5,6,7,8,9],[5,7]),([10,9,0,1,2,3,4,5,6,7,8,9],[9,10])])
def Fr.B7:List Nat:=[0,1,0,4,15,31,0,64,0,256,1023,2047]
theorem Fr.tab7:rtab .any (opsOf Try.f101 7)=Fr.T7:=by kernel_rfl
theorem Fr.bits7:waitsOk Fr.T7.2 Fr.B7=true:=by kernel_rfl
theorem l4 {p:Prop} (h:p:=by repeat(first|(with_reducible first|exact HB.out|apply Jk|apply Jj|apply Ji|refine Jh ?_ kt0.out|refine Jh ?_ kt1.out|refine Jh ?_ eg1.out|refine Jh ?_ kt2.out|refine Jh ?_ GB91.out)|exact HB.out)):p:=h
set_option maxHeartbeats 8000000 in
set_option maxRecDepth 100000 in
theorem Fr.calls (k:Nat) (af:Option Addr) (ac:Nat) (ab:List Int) (ah:Option Addr) (ag:Nat) (aa:List (List Int)) (aq:Int) (am:Int) (an:Int) (ao:Int) (r1:List Int) (r2:List (List Int)) (r3:Bool) (w:World) (cb:Kd.C (Kd.int .i64) w af ab.length ab) (cg:ab.length<=ac) (cc:Kd.C (Kd.slice 3 (Kd.int .i64)) w ah aa.length aa) (ch:aa.length<=ag) (h:Fr.f k ab aa aq am an ao=some (r1,r2,r3)) :
  Calls Try.prog 101 #[.agg #[.slice af ab.length ac, .slice ah aa.length ag], .agg #[.int .i64 aq, .int .i64 am, .int .i64 an, .int .i64 ao]] w fun e w'=>∃v0_ v1_:Value,e = .returned (.tuple #[.agg #[v0_,v1_], .bool r3])/\Kd.R (Kd.int .i64) 3 w' w.heap.size (fun _=>True) v0_ r1/\Kd.S (Kd.slice 3 (Kd.int .i64)) 22 w' w.heap.size (fun k_=>some k_≠(v0_:Value).ownBlock) v1_ r2/\Below w.heap.size w w':=by
 have hu25:=Try.underlying25
 have hu69:=Try.underlying69
 have bg:=A_ cb
 have bw:=A_ cg
 clear cb cg
 have bd:=A_ cc
 have b4:=A_ ch
 clear cc ch
 have HB:=A_ (Below.refl w.heap.size w)
 have H:=h
 unfold Fr.f at H
 clear h
 replace H:=Option.bind_eq_some_iff.mp H
 obtain⟨⟨g9,i8⟩,zg,H⟩:=H
 try dsimp only at H
 have A3:=A_ zg
 clear zg
 have HC4:=A_ H
 clear H
 go_enter Try.func101,Try.ntmps101
 go_upto_region 4 with(first|((with_reducible refine gd_ 2 ?_);refine bx_ (N:=2) #[.slice af ab.length ac, .slice ah aa.length ag] 25 ?_;intro qp hg w5 hbox hb;have ff:=A_ (hbox);have np8:=A_ ((g43_:w.heap.size<=qp));have kt0:=np8;replace HB:=hs_ (l4) hb;clear hb hbox hg)|((with_reducible refine gd_ 3 ?_);refine bx_ (N:=3) #[.int .i64 aq, .int .i64 am, .int .i64 an, .int .i64 ao] 69 ?_;intro r8 hg w6 hbox hb;have fk:=A_ (hbox);have np9:=A_ ((g43_:w.heap.size<=r8));have kt1:=np9;replace HB:=hs_ (l4) hb;have ai2:=nl_ ff hg;have ai3:=nr_ ff hg;replace ff:=bb_ ff hb;clear hb hbox hg)|((with_reducible refine gd_ 4 ?_);refine bx_ (N:=4) #[.slice none 0 0, .slice none 0 0] 25 ?_;intro ca hg w7 hbox hb;have ct:=A_ (hbox);have gm7:=A_ ((g43_:w.heap.size<=ca));have eg1:=gm7;replace HB:=hs_ (l4) hb;have oy:=nl_ ff hg;have as5:=nr_ ff hg;replace ff:=bb_ ff hb;have tf:=nl_ fk hg;have tg:=nr_ fk hg;replace fk:=bb_ fk hb;clear hb hbox hg;have dc2:=ai2.out;have dc3:=ai3.out;have da4:=oy.out;have da5:=as5.out;obtain⟨yo,yp,yq,yr⟩:=blk2_ ff)|((with_reducible refine gc_ 80 ?_);refine gl_ 12 Try.func80 #[.agg #[.slice af ab.length ac, .slice ah aa.length ag]] ?_;(refine(Fs.calls k _ _ ab _ _ aa g9 i8 _ (uC_ bg) bw.out (uC_ bd) b4.out A3.out).mono ?_);rintro e g8 ⟨il7,nq0,rfl,ai,ak,hb⟩;refine⟨_,rfl,?_⟩;have an2:=A_ (Kd.R_lower ai (Je (l4)));have dg3:=A_ (Kd.S_lower ak (Je (l4)));replace ff:=bb_ ff hb;replace fk:=bb_ fk hb;replace ct:=bb_ ct hb;replace HB:=hs_ (l4) hb)|((with_reducible refine gd_ 7 ?_);refine bx_ (N:=7) #[.slice none 0 0, .slice none 0 0] 25 ?_;intro ep hg uf hbox hb;replace an2:=rb_ an2 hb;replace dg3:=sb_ dg3 hb;have ez:=A_ (hbox);have nq1:=A_ ((g43_:w.heap.size<=ep));have kt2:=nq1;replace HB:=hs_ (l4) hb;have dg4:=nl_ ff hg;have fc9:=nr_ ff hg;replace ff:=bb_ ff hb;have zj:=nl_ fk hg;have ai4:=nr_ fk hg;replace fk:=bb_ fk hb;have ac2:=nl_ ct hg;have oa:=nr_ ct hg;replace ct:=bb_ ct hb;clear hb hbox hg;obtain⟨jg,gx,bo8⟩:=Kd.R_slice an2.out;subst bo8;have dp7:=fc9.out;have dp8:=dg4.out;have dd9:=ai4.out;have de0:=zj.out;have fd0:=oa.out;have fd1:=ac2.out;obtain⟨du3,du4,du5,du6⟩:=blk2_ ez;obtain⟨m4,ky,eg2⟩:=Kd.S_slice dg3.out;subst eg2))
 (try simp only[Act.put,List.setIfInBounds_toArray,List.set_cons_zero,List.set_cons_succ])
 go_cut [14] (fun v14 wc=>∃(kq:Nat) (fd2:Bool),v14 = .bool fd2/\Jc (Fr.j0 kq (ab.length:Int) fd2 ab aa aq am an ao g9 i8=some (r1,r2,r3))/\Jc (kq<=k)/\Jc (Kd.R (Kd.int .i64) 3 wc w.heap.size (fun _=>True) (.slice jg g9.length gx) g9)/\Jc (Kd.S (Kd.slice 3 (Kd.int .i64)) 22 wc w.heap.size (fun k_=>some k_≠((.slice jg g9.length gx):Value).ownBlock) (.slice m4 i8.length ky) i8)/\Jc (hc_ wc qp #[(.slice af ab.length ac),(.slice ah aa.length ag)] 25)/\Jc (hc_ wc r8 #[.int .i64 aq, .int .i64 am, .int .i64 an, .int .i64 ao] 69)/\Jc (hc_ wc ca #[(.slice none 0 0),(.slice none 0 0)] 25)/\Jc (hc_ wc ep #[(.slice jg g9.length gx),(.slice m4 i8.length ky)] 25)/\Jc (Below w.heap.size w wc))
 case first=>
  have H:=HC4.out
  clear HC4
  by_cases fe:aq=0
  case neg=>
   rw[if_neg fe] at H
   have tr:(aq == 0)=false:=beq_eq_false_iff_ne.mpr fe
   have am9:(aq != 0)=true:=bne_iff_ne.mpr fe
   (first|rw[tr]|(simp only[i64_w,i32_w];rw[tr])|skip)
   have H':=A_ H
   clear H
   have im2:=ai3.out
   have im3:=ai2.out
   have kt3:=tf.out
   have kt4:=tg.out
   have nq2:=zj.out
   have nq3:=ai4.out
   obtain⟨im4,im5,im6,im7,im8,im9,in0,in1⟩:=blk4_ fk
   go_wp2
   go_meet
   case rel=>exact⟨_,(false),(g3_),H',⟨g9_⟩,⟨ra_ an2⟩,⟨sa_ dg3⟩,⟨ba_ ff⟩,⟨ba_ fk⟩,⟨ba_ ct⟩,⟨ba_ ez⟩,⟨l4⟩⟩
  rw[if_pos fe] at H
  have tr:(aq == 0)=true:=beq_iff_eq.mpr fe
  have am9:(aq != 0)=false:=bne_eq_false_iff_eq.mpr fe
  clear fe
  (first|rw[tr]|(simp only[i64_w,i32_w];rw[tr])|skip)
  obtain⟨eg0,vy,H⟩:=bind_ H
  by_cases pg:eg0=true
  case neg=>
   replace pg:=Bool.eq_false_iff.mpr pg
   subst pg
   replace H:=ifn_ H
   have H':=A_ H
   clear H
   have ee4:=ai3.out
   have ee5:=ai2.out
   have ca5:=tf.out
   have ca6:=tg.out
   have eg5:=zj.out
   have eg6:=ai4.out
   obtain⟨bo1,bo2,cd8,fd5,bo3,bo4,cd9,fd6⟩:=blk4_ fk
   go_wp2_with (first|(go_at_call 65;(with_reducible refine(F8.calls am 0 (wrap64 ((ab.length:Int) - 1)) false _ vy.out).mono ?_);rintro e w' ⟨rfl,⟨nd,rfl⟩⟩))
   go_meet
   case rel=>exact⟨_,(false),(g3_),H',⟨g9_⟩,⟨ra_ an2⟩,⟨sa_ dg3⟩,⟨ba_ ff⟩,⟨ba_ fk⟩,⟨ba_ ct⟩,⟨ba_ ez⟩,⟨l4⟩⟩
  subst pg
  replace H:=ifp_ H
  by_cases lf:an=0
  ·rw[if_pos lf] at H
   have ay9:(an == 0)=true:=beq_iff_eq.mpr lf
   have gm8:(an != 0)=false:=bne_eq_false_iff_eq.mpr lf
   clear lf
   obtain⟨dg2,A23,H⟩:=bind_ H
   have H':=A_ H
   clear H
   have fd3:=ai3.out
   have fd4:=ai2.out
   have gm9:=tf.out
   have gn0:=tg.out
   have gm1:=zj.out
   have gm2:=ai4.out
   obtain⟨df4,df5,il8,il9,df6,df7,im0,im1⟩:=blk4_ fk
   have MK65_0:=True.intro
   go_wp2_with (first|(clear MK65_0;go_at_call 65;(with_reducible refine(F8.calls am 0 (wrap64 ((ab.length:Int) - 1)) true _ vy.out).mono ?_);rintro e w' ⟨rfl,⟨nd,rfl⟩⟩)|(go_at_call 65;(with_reducible refine(F8.calls ao 0 20 dg2 _ A23.out).mono ?_);rintro e w' ⟨rfl,⟨nd,rfl⟩⟩))
   go_meet
   case rel=>exact⟨_,(dg2),(g3_),H',⟨g9_⟩,⟨ra_ an2⟩,⟨sa_ dg3⟩,⟨ba_ ff⟩,⟨ba_ fk⟩,⟨ba_ ct⟩,⟨ba_ ez⟩,⟨l4⟩⟩
  rw[if_neg lf] at H
  have ay9:(an == 0)=false:=beq_eq_false_iff_ne.mpr lf
  have gm8:(an != 0)=true:=bne_iff_ne.mpr lf
  have H':=A_ H
  clear H
  have dd6:=ai3.out
  have dd7:=ai2.out
  have dz3:=tf.out
  have dz4:=tg.out
  have gb1:=zj.out
  have gb2:=ai4.out
  obtain⟨cm7,cm8,eg3,gn1,cm9,cn0,eg4,gn2⟩:=blk4_ fk
  go_wp2_with (first|(go_at_call 65;(with_reducible refine(F8.calls am 0 (wrap64 ((ab.length:Int) - 1)) true _ vy.out).mono ?_);rintro e w' ⟨rfl,⟨nd,rfl⟩⟩))
  go_meet
  case rel=>exact⟨_,(false),(g3_),H',⟨g9_⟩,⟨ra_ an2⟩,⟨sa_ dg3⟩,⟨ba_ ff⟩,⟨ba_ fk⟩,⟨ba_ ct⟩,⟨ba_ ez⟩,⟨l4⟩⟩
 clear HC4
 obtain⟨kq,fd2,rfl,HA,HJ3,gm,gv,ff,fk,ct,ez,HB⟩:=hcut
 cases kq with
 | zero=>exact absurd HA.out (by simp[Fr.j0])
 | succ kj3=>?_
 have H:=HA.out
 clear HA
 simp only[Fr.j0] at H
 by_cases zc:fd2=true
 ·subst zc
  replace H:=ifp_ H
  obtain⟨ez3,H⟩:=pd_ H
  obtain⟨kt5,H⟩:=pd_ H
  obtain⟨bi6,hyq⟩:∃y_:List Int,y_=(g9.set (am:Int).toNat ao):=⟨_,rfl⟩
  replace H:((Fw.f kj3 bi6 i8 ab aa).bind fun ef9=>(some (bi6,i8, !ef9)))=some (r1,r2,r3):=qh_
  have kt6:=A_ hyq
  clear hyq
  obtain⟨ef9,A44,H⟩:=bind_ H
  simp only[Option.some.injEq,Prod.mk.injEq] at H
  obtain⟨rfl,rfl,rfl⟩:=H
  have ea3:=fc9.out
  have ea4:=dg4.out
  have ge5:=ai4.out
  have ge6:=zj.out
  have gk6:=oa.out
  have gk7:=ac2.out
  obtain⟨ee7,ee8,ee9,ef0⟩:=blk2_ ez
  have in2:=ai3.out
  have in3:=ai2.out
  have gn3:=tf.out
  have gn4:=tg.out
  obtain⟨ea6,ea7,fd7,gn5,ea8,ea9,fd8,gn6⟩:=blk4_ fk
  have p43:0<=(am:Int):=od_
  have q43:(am:Int) < ((g9.length:Int):Int):=od_
  obtain⟨as6,nj,bi4,in4,gl43,cl43,HG43⟩:=Kd.R_form gm.out (by omega)
  (first|cases bi4|(injection bi4 with ea_ en_ ec_;(first|subst ea_|(injection ea_ with ea_;subst ea_));subst ec_;clear en_))
  have GB43:=A_ in4
  have GG43:=A_ HG43
  clear in4 gl43 HG43
  obtain⟨kt7,hf43_0⟩:=Kd.R_celln 0 gm.out (am:Int) p43 q43
  replace p43:=eq_true p43
  replace q43:=eq_true q43
  have HP52:=Kd.R_putg gm.out (am:Int) ao
  try go_wp2_with (first|((with_reducible refine gate_store (t:=3) (p:=41) rfl ?_);refine store_event (t:=3) (p:=41) (v:=?vo_w53) (w1:=(wc.setCell ⟨as6,(am:Int).toNat,none⟩ (.int .i64 ao))) ?hg ?ho ?hn ?hr ?_;(case ho=>rfl);(case hg=>rfl);(case hn=>rfl);(case hr=>first|(go_simp;done)|(go_simp;rfl));intro j5 hw;have hg:wc.grownBy j5 (some as6):=(by rw[hw];exact HP52.2);have hp_:Kd.R (Kd.int .i64) 3 j5 w.heap.size (fun _=>True) (.slice (some ⟨as6,0,none⟩) g9.length gx) bi6:=(by rw[hw,kt6.out];exact HP52.1);clear HP52;replace gv:=A_ (Kd.S_after (v:=(.slice (some ⟨as6,0,none⟩) g9.length gx)) (v1:=(.slice (some ⟨as6,0,none⟩) g9.length gx)) (ok:=(fun _=>True)) (yS_ gv (fun _ hk=>⟨trivial,hk⟩)) hg (.inl rfl));replace ff:=(bg_ ff hg (Kd.R_ne gm.out ff.out (by decide)));replace fk:=(bg_ fk hg (Kd.R_ne gm.out fk.out (by decide)));replace ct:=(bg_ ct hg (Kd.R_ne gm.out ct.out (by decide)));replace ez:=(bg_ ez hg (Kd.R_ne gm.out ez.out (by decide)));replace gm:=A_ (hp_);replace HB:=A_ ((by rw[hw];exact Jh (HB.out) GB43.out:Below w.heap.size w j5));clear hg hw hp_))
  replace gm:=rd_ gm
  replace gv:=sd_ gv
  replace ff:=bd_ ff
  replace fk:=bd_ fk
  replace ct:=bd_ ct
  replace ez:=bd_ ez
  replace HB:=A_ (Ji HB.out)
  refine start_ (n:=7) (S:=fun w'=>w'.cell? ⟨ep,0,none⟩=some (.slice (some ⟨as6,0,none⟩) g9.length gx)/\w'.cell? ⟨ep,1,none⟩=some (.slice m4 i8.length ky)/\w'.cell? ⟨qp,0,none⟩=some (.slice af ab.length ac)/\w'.cell? ⟨qp,1,none⟩=some (.slice ah aa.length ag)) (ds:=[]) (tl_ 7 0) (g1_) rfl (g1_) ⟨(Jd ez.out 0).trans rfl,(Jd ez.out 1).trans rfl,(Jd ff.out 0).trans rfl,(Jd ff.out 1).trans rfl⟩ (fun hHeld=>?_)
  generalize j5.drew=w54 at gm gv ff fk ct ez HB hHeld |-
  refine take_ (i:=0) (N:=some 98) (v:=?_) (a':=?_) (tl_ 7 1) rfl rfl (g1_) (fun _ _ _ h=>h) (Or.inl ⟨by rfl,?_⟩) hHeld ?_ ?_
  rotate_left
  ·rintro w' ⟨s0,s1,s2,s3⟩
   go_simp
   with_reducible rfl
  rotate_left
  · exact sp_
  refine take_ (i:=1) (N:=some 99) (v:=?_) (a':=?_) (tl_ 7 3) rfl rfl (g1_) (fun _ _ _ h=>h) (Or.inl ⟨by rfl,?_⟩) hHeld ?_ ?_
  rotate_left
  ·rintro w' ⟨s0,s1,s2,s3⟩
   go_simp
   with_reducible rfl
  rotate_left
  · exact sp_
  refine take_ (i:=2) (N:=some 100) (v:=?_) (a':=?_) (tl_ 7 7) rfl rfl (g1_) (fun _ _ _ h=>h) (Or.inl ⟨by rfl,?_⟩) hHeld ?_ ?_
  rotate_left
  ·rintro w' ⟨s0,s1,s2,s3⟩
   go_simp
   with_reducible rfl
  rotate_left
  · exact sp_
  refine one_ (i:=3) (N:=some 101) (tl_ 7 15) rfl rfl (g1_) (by decide) (fun K hK=>?_)
  refine goes_ Try.func122 (g1_) rfl #[.agg #[.slice (some ⟨as6,0,none⟩) bi6.length gx, .slice m4 i8.length ky], .agg #[.slice af ab.length ac, .slice ah aa.length ag]] (by rfl) rfl rfl (by(try simp only[List.map_toArray,List.map_cons,List.map_nil]);first|done|(rw[show bi6.length=g9.length from(Kd.R_reads' gm.out).1.symm] <;> rfl)|rfl|(simp only[List.length_drop,List.length_take];rfl)) ?_
  with_reducible refine(Fw.calls kj3 _ _ bi6 _ _ i8 _ _ ab _ _ aa ef9 _ ?side1 ?side2 ?side3 ?side4 ?side5 ?side6 ?side7 ?side8 A44.out).mono ?_
  (case side1=>exact cR_ gm)
  (case side2=>rw[show bi6.length=g9.length from(Kd.R_reads' gm.out).1.symm];exact(Kd.R_reads' gm.out).2.1)
  (case side3=>exact cS_ gv)
  (case side4=>exact lS_ gv)
  (case side5=>exact uC_ bg)
  (case side6=>exact bw.out)
  (case side7=>exact uC_ bd)
  (case side8=>exact b4.out)
  rintro e w55 ⟨rfl,hb⟩
  refine⟨_,rfl,?_⟩
  replace gm:=rb_ gm hb
  replace gv:=sb_ gv hb
  replace ff:=bb_ ff hb
  replace fk:=bb_ fk hb
  replace ct:=bb_ ct hb
  replace ez:=bb_ ez hb
  replace HB:=hs_ (l4) hb
  refine hK.out _ _ ⟨(Jd ez.out 0).trans rfl,(Jd ez.out 1).trans rfl,(Jd ff.out 0).trans rfl,(Jd ff.out 1).trans rfl⟩ (fun hHeld=>?_)
  clear hK K
  refine nm_ ?_
  refine pure_ (i:=4) (N:=some 102) (v:=?_) (a':=?_) (tl_ 7 31) rfl rfl (g1_) (fun _ _ _ h=>h) (Or.inl ⟨by rfl,?_⟩) ?_ ?_
  rotate_left
  ·intro w'
   go_simp
   with_reducible rfl
  rotate_left
  · exact sp_
  refine one_ (i:=5) (N:=none) (tl_ 7 63) rfl rfl (g1_) (by decide) (fun K hK=>?_)
  have kt8:w55.cell? ⟨ca,0,none⟩=some (.slice none 0 0):=(Jd ct.out 0).trans rfl
  have kt9:=Jo ct.out 0
  have ku0:=oy.out
  have ku3:=as5.out
  have ku6:w55.cell? ⟨ca,1,none⟩=some (.slice none 0 0):=(Jd ct.out 1).trans rfl
  have ku7:=Jo ct.out 1
  refine skip_ (w1:=?_) (by rfl) rfl ?_ ?_
  rotate_left
  ·go_simp
   rfl
  refine hK.out _ _ ⟨(cf_ oa ((cf_ oa (hHeld.1)))),(cf_ oa ((cf_ oa (hHeld.2.1)))),(cf_ oy ((cf_ oy (hHeld.2.2.1)))),(cf_ oy ((cf_ oy (hHeld.2.2.2))))⟩ (fun hHeld=>?_)
  clear hK K
  refine pure_ (i:=6) (N:=some 5) (v:=?_) (a':=?_) (tl_ 7 127) rfl rfl (g1_) (fun _ _ _ h=>h) (Or.inl ⟨by rfl,?_⟩) ?_ ?_
  rotate_left
  ·intro w'
   go_simp
   with_reducible rfl
  rotate_left
  · exact sp_
  refine done_ (g1_) ?_
  try go_wp2
  refine bodyPost_ret (Jy rfl _ _ ca 25 #[.slice (some ⟨as6,0,none⟩) g9.length gx, .slice m4 i8.length ky] (0,0) _ rfl (ba_ ct) Try.underlying25 rfl (g1_)) rfl ?_
  exact⟨_,_,g4_,ra_ gm,sa_ gv,l4⟩
 replace zc:=Bool.eq_false_iff.mpr zc
 subst zc
 replace H:=ifn_ H
 have cs7:=A_ H
 clear H
 go_upto_region 6 with(fail)
 go_cut [42] (fun v42 wc=>∃(kq:Nat) (fd9:Bool),v42 = .bool fd9/\Jc (Fr.j1 kq fd9 ab aa aq am an ao g9 i8=some (r1,r2,r3))/\Jc (kq<=kj3)/\Jc (Kd.R (Kd.int .i64) 3 wc w.heap.size (fun _=>True) (.slice jg g9.length gx) g9)/\Jc (Kd.S (Kd.slice 3 (Kd.int .i64)) 22 wc w.heap.size (fun k_=>some k_≠((.slice jg g9.length gx):Value).ownBlock) (.slice m4 i8.length ky) i8)/\Jc (hc_ wc qp #[(.slice af ab.length ac),(.slice ah aa.length ag)] 25)/\Jc (hc_ wc r8 #[.int .i64 aq, .int .i64 am, .int .i64 an, .int .i64 ao] 69)/\Jc (hc_ wc ca #[(.slice none 0 0),(.slice none 0 0)] 25)/\Jc (hc_ wc ep #[(.slice jg g9.length gx),(.slice m4 i8.length ky)] 25)/\Jc (Below w.heap.size w wc))
 case first=>
  have H:=cs7.out
  clear cs7
  by_cases xq:aq=1
  case neg=>
   rw[if_neg xq] at H
   have dg5:(aq == 1)=false:=beq_eq_false_iff_ne.mpr xq
   have in5:(aq != 1)=true:=bne_iff_ne.mpr xq
   (first|rw[dg5]|(simp only[i64_w,i32_w];rw[dg5])|skip)
   have H':=A_ H
   clear H
   have ip0:=ai3.out
   have ip1:=ai2.out
   have ky4:=tf.out
   have ky5:=tg.out
   have nq6:=zj.out
   have nq7:=ai4.out
   obtain⟨ky6,ky7,ky8,ky9,kz0,kz1,kz2,kz3⟩:=blk4_ fk
   go_wp2
   go_meet
   case rel=>exact⟨_,(false),(g3_),H',⟨g92_⟩,⟨uR_ gm⟩,⟨uS_ gv⟩,⟨uB_ ff⟩,⟨uB_ fk⟩,⟨uB_ ct⟩,⟨uB_ ez⟩,⟨l4⟩⟩
  rw[if_pos xq] at H
  have dg5:(aq == 1)=true:=beq_iff_eq.mpr xq
  have in5:(aq != 1)=false:=bne_eq_false_iff_eq.mpr xq
  clear xq
  (first|rw[dg5]|(simp only[i64_w,i32_w];rw[dg5])|skip)
  obtain⟨gm3,A60,H⟩:=bind_ H
  by_cases c61:gm3=true
  case neg=>
   replace c61:=Bool.eq_false_iff.mpr c61
   subst c61
   replace H:=ifn_ H
   have H':=A_ H
   clear H
   have kx4:=ai3.out
   have kx5:=ai2.out
   have io6:=tf.out
   have io7:=tg.out
   have io8:=zj.out
   have io9:=ai4.out
   obtain⟨kx6,kx7,kx8,kx9,ky0,ky1,ky2,ky3⟩:=blk4_ fk
   go_wp2_with (first|(go_at_call 65;(with_reducible refine(F8.calls am 0 (wrap64 ((ab.length:Int) - 1)) false _ A60.out).mono ?_);rintro e w' ⟨rfl,⟨nd,rfl⟩⟩))
   go_meet
   case rel=>exact⟨_,(false),(g3_),H',⟨g92_⟩,⟨uR_ gm⟩,⟨uS_ gv⟩,⟨uB_ ff⟩,⟨uB_ fk⟩,⟨uB_ ct⟩,⟨uB_ ez⟩,⟨l4⟩⟩
  subst c61
  replace H:=ifp_ H
  obtain⟨gm4,A62,H⟩:=bind_ H
  by_cases c63:gm4=true
  case neg=>
   replace c63:=Bool.eq_false_iff.mpr c63
   subst c63
   replace H:=ifn_ H
   have H':=A_ H
   clear H
   have fe0:=ai3.out
   have fe1:=ai2.out
   have io4:=tf.out
   have io5:=tg.out
   have nq4:=zj.out
   have nq5:=ai4.out
   obtain⟨kw6,kw7,kw8,kw9,kx0,kx1,kx2,kx3⟩:=blk4_ fk
   have MK65_0:=True.intro
   go_wp2_with (first|(clear MK65_0;go_at_call 65;(with_reducible refine(F8.calls am 0 (wrap64 ((ab.length:Int) - 1)) true _ A60.out).mono ?_);rintro e w' ⟨rfl,⟨nd,rfl⟩⟩)|(go_at_call 65;(with_reducible refine(F8.calls an 0 (wrap64 ((ab.length:Int) - 1)) false _ A62.out).mono ?_);rintro e w' ⟨rfl,⟨nd,rfl⟩⟩))
   go_meet
   case rel=>exact⟨_,(false),(g3_),H',⟨g92_⟩,⟨uR_ gm⟩,⟨uS_ gv⟩,⟨uB_ ff⟩,⟨uB_ fk⟩,⟨uB_ ct⟩,⟨uB_ ez⟩,⟨l4⟩⟩
  subst c63
  replace H:=ifp_ H
  by_cases c64:am=an
  ·rw[if_pos c64] at H
   have in6:(am == an)=true:=beq_iff_eq.mpr c64
   have in7:(am != an)=false:=bne_eq_false_iff_eq.mpr c64
   clear c64
   have H':=A_ H
   clear H
   have gn7:=ai3.out
   have gn8:=ai2.out
   have kv4:=tf.out
   have kv5:=tg.out
   have in8:=zj.out
   have in9:=ai4.out
   obtain⟨gn9,go0,go1,kv6,go2,go3,go4,kv7⟩:=blk4_ fk
   have MK65_0:=True.intro
   go_wp2_with (first|(clear MK65_0;go_at_call 65;(with_reducible refine(F8.calls am 0 (wrap64 ((ab.length:Int) - 1)) true _ A60.out).mono ?_);rintro e w' ⟨rfl,⟨nd,rfl⟩⟩)|(go_at_call 65;(with_reducible refine(F8.calls an 0 (wrap64 ((ab.length:Int) - 1)) true _ A62.out).mono ?_);rintro e w' ⟨rfl,⟨nd,rfl⟩⟩))
   go_meet
   case rel=>exact⟨_,(false),(g3_),H',⟨g92_⟩,⟨uR_ gm⟩,⟨uS_ gv⟩,⟨uB_ ff⟩,⟨uB_ fk⟩,⟨uB_ ct⟩,⟨uB_ ez⟩,⟨l4⟩⟩
  rw[if_neg c64] at H
  have in6:(am == an)=false:=beq_eq_false_iff_ne.mpr c64
  have in7:(am != an)=true:=bne_iff_ne.mpr c64
  obtain⟨fc8,A69,H⟩:=bind_ H
  have H':=A_ H
  clear H
  have go6:=ai3.out
  have go8:=ai2.out
  have io0:=tf.out
  have io1:=tg.out
  have io2:=zj.out
  have io3:=ai4.out
  obtain⟨kv8,kv9,kw0,kw1,kw2,kw3,kw4,kw5⟩:=blk4_ fk
  have MK65_0:=True.intro
  have MK65_1:=True.intro
  go_wp2_with (first|(clear MK65_0;go_at_call 65;(with_reducible refine(F8.calls am 0 (wrap64 ((ab.length:Int) - 1)) true _ A60.out).mono ?_);rintro e w' ⟨rfl,⟨nd,rfl⟩⟩)|(clear MK65_1;go_at_call 65;(with_reducible refine(F8.calls an 0 (wrap64 ((ab.length:Int) - 1)) true _ A62.out).mono ?_);rintro e w' ⟨rfl,⟨nd,rfl⟩⟩)|(go_at_call 65;(with_reducible refine(F8.calls ao 0 9 fc8 _ A69.out).mono ?_);rintro e w' ⟨rfl,⟨nd,rfl⟩⟩))
  go_meet
  case rel=>exact⟨_,(fc8),(g3_),H',⟨g92_⟩,⟨uR_ gm⟩,⟨uS_ gv⟩,⟨uB_ ff⟩,⟨uB_ fk⟩,⟨uB_ ct⟩,⟨uB_ ez⟩,⟨l4⟩⟩
 clear cs7
 obtain⟨kq,fd9,rfl,HA,HJ57,gm,gv,ff,fk,ct,ez,HB⟩:=hcut
 cases kq with
 | zero=>exact absurd HA.out (by simp[Fr.j1])
 | succ kj57=>?_
 have H:=HA.out
 clear HA
 simp only[Fr.j1] at H
 by_cases c86:fd9=true
 ·subst c86
  replace H:=ifp_ H
  obtain⟨nq9,H⟩:=pd_ H
  obtain⟨nr0,H⟩:=pd_ H
  obtain⟨nr1,H⟩:=pd_ H
  obtain⟨nr2,H⟩:=pd_ H
  obtain⟨gp0,hyq⟩:∃y_:List Int,y_=((Jr i8 am).set (an:Int).toNat ao):=⟨_,rfl⟩
  replace H:((some (i8.set (am:Int).toNat gp0:List (List Int))).bind fun an1=>((Fw.f kj57 g9 an1 ab aa).bind fun cs6=>(some (g9,an1, !cs6))))=some (r1,r2,r3):=qh_
  have kz4:=A_ hyq
  clear hyq
  obtain⟨an1,hyq⟩:∃y_:List (List Int),y_=(i8.set (am:Int).toNat gp0):=⟨_,rfl⟩
  replace H:((Fw.f kj57 g9 an1 ab aa).bind fun cs6=>(some (g9,an1, !cs6)))=some (r1,r2,r3):=qh_
  have kz5:=A_ hyq
  clear hyq
  obtain⟨cs6,A92,H⟩:=bind_ H
  simp only[Option.some.injEq,Prod.mk.injEq] at H
  obtain⟨rfl,rfl,rfl⟩:=H
  try go_wp2
  replace gm:=rd_ gm
  replace gv:=sd_ gv
  replace ff:=bd_ ff
  replace fk:=bd_ fk
  replace ct:=bd_ ct
  replace ez:=bd_ ez
  replace HB:=A_ (Ji HB.out)
  have fe2:0<=(am:Int):=od_
  have fe3:am < (i8.length:Int):=od_
  obtain⟨br0,nr3,kz6,kz7,fe4,ip2,ip3⟩:=at_L1 (Kd.S_reads' gv.out).2.2 am fe2 fe3
  cases kz7
  obtain⟨ce368,hce368,hMe368,hcc368⟩:=Kd.S_get gv.out [] am fe2 (by first|exact fe3|exact od_|(have e_:=(Kd.S_reads' gv.out).1;omega))
  obtain⟨ve368_0,rfl,ge368_0⟩:=hMe368
  have hv368_0:=hcc368 0 _ rfl
  rw[Nat.add_zero,show((Kd.slice 3 (Kd.int .i64))).sz=1 from rfl,Nat.mul_one] at hv368_0
  replace hv368_0:=Option.some.inj (hv368_0.symm.trans fe4)
  rw[hv368_0] at ge368_0
  have ce0:=A_ (show Kd.R (Kd.int .i64) 3 _ _ _ _ (Jr i8 am) from ge368_0)
  clear hv368_0 ge368_0
  have HX368_0:=A_ fe4
  clear hcc368 hce368
  have kz8:=A_ ip3
  have nr4:=A_ ip2
  clear ip3 ip2
  replace fe2:=eq_true fe2
  replace fe3:=eq_true fe3
  have p91:0<=(an:Int):=od_
  have q91:(an:Int) < (((Jr i8 am).length:Int):Int):=od_
  obtain⟨bi7,ip4,eg7,ip5,gl91,cl91,HG91⟩:=Kd.R_form ce0.out (by omega)
  (first|cases eg7|(injection eg7 with ea_ en_ ec_;(first|subst ea_|(injection ea_ with ea_;subst ea_));subst ec_;clear en_))
  have GB91:=A_ ip5
  have GG91:=A_ HG91
  clear ip5 gl91 HG91
  obtain⟨kz9,hf91_0⟩:=Kd.R_celln 0 ce0.out (an:Int) p91 q91
  replace p91:=eq_true p91
  replace q91:=eq_true q91
  have hq94:(am:Int) < (i8.length:Int):=(by have h_:(am:Int) < ((i8.length:Int):Int):=od_;first|exact h_|(have e_:=(Kd.S_reads' gv.out).1;omega)|simpa only[List.length_set,List.length_set] using h_)
  obtain⟨oki94,ce94,hcl94,hM94,hcc94,hok94,hbk94⟩:=Kd.S_borrow gv.out [] (am:Int) (od_) (by first|exact hq94|exact od_|(have e_:=(Kd.S_reads' gv.out).1;omega))
  obtain⟨ve94_0,rfl,ge94_0⟩:=hM94
  have hv94:=hcc94 0 _ rfl
  rw[Nat.add_zero,show((Kd.slice 3 (Kd.int .i64))).sz=1 from rfl,Nat.mul_one] at hv94
  replace hv94:=Option.some.inj (hv94.symm.trans HX368_0.out)
  subst hv94
  clear hcc94 hcl94
  replace ge94_0:=(show Kd.R (Kd.int .i64) 3 _ _ _ _ (Jr i8 am) from ge94_0)
  have HP94:=Kd.R_putg ge94_0 (an:Int) ao
  rw[<- kz4.out] at HP94
  have HS94:=hbk94 HP94.2 (fun k_ e_=>by injection e_ with e_;subst e_;exact ge94_0.1 _ rfl) (x':=gp0) (Kd.M_row HP94.1)
  rw[<- kz5.out] at HS94
  have HQ94:=A_ HS94
  clear HP94 HS94 hbk94 hok94
  refine start_ (n:=12) (S:=fun w'=>w'.cell? ⟨ep,0,none⟩=some (.slice jg g9.length gx)/\w'.cell? ⟨ep,1,none⟩=some (.slice (some br0) i8.length ky)/\w'.cell? ⟨r8,0,none⟩=some (.int .i64 aq)/\w'.cell? ⟨r8,1,none⟩=some (.int .i64 am)/\w'.cell? ⟨r8,2,none⟩=some (.int .i64 an)/\w'.cell? ⟨r8,3,none⟩=some (.int .i64 ao)/\w'.cell? (br0.add (am).toNat)=some (.slice (some ⟨bi7,0,none⟩) (Jr i8 am).length kz6)) (ds:=[11]) (tl_ 12 0) (g1_) rfl (g1_) ⟨(Jd ez.out 0).trans rfl,(Jd ez.out 1).trans rfl,(Jd fk.out 0).trans rfl,(Jd fk.out 1).trans rfl,(Jd fk.out 2).trans rfl,(Jd fk.out 3).trans rfl,fe4⟩ (fun hHeld=>?_);refine Jx Fr.tab7 Fr.bits7 (fun HT_ HW_=>?_)
  generalize wc.drew=w93 at gm gv ff fk ct ez HB GG91 ce0 HQ94 kz8 HX368_0 hf91_0 fe4 kz9 hHeld |-
  refine pw_ 0 72 (tl_ 12 1) ?_
  refine pw_ 2 74 (tl_ 12 5) ?_
  refine pw_ 6 78 (tl_ 12 69) ?_
  refine pw_ 8 80 (tl_ 12 325) ?_
  refine tk3_ 1 73 (tl_ 12 327) hHeld ?_
  refine tk3_ 3 75 (tl_ 12 335) hHeld ?_
  refine pw_ 4 76 (tl_ 12 351) ?_
  refine tk3_ 5 77 (tl_ 12 383) hHeld ?_
  refine tk3_ 7 79 (tl_ 12 511) hHeld ?_
  refine tk3_ 9 81 (tl_ 12 1023) hHeld ?_
  refine pw_ 10 82 (tl_ 12 2047) ?_
  refine last_ (i:=11) (N:=none) (tl_ 12 4095) rfl rfl (Jz HT_.out (g1_)) (by decide) (fun K hK=>?_)
  refine skip_ (w1:=?_) (by rfl) rfl ?_ ?_
  rotate_left
  ·go_simp
   rfl
  refine hK.out _ _ ?_
  clear hK K
  refine done_ (done_of HT_.out (g1_)) ?_
  generalize hw_:(w93.setCell ⟨bi7,(an:Int).toNat,none⟩ (.int .i64 ao))=w96
  have n0_:Jc (Kd.R (Kd.int .i64) 3 w96 w.heap.size (fun _=>True) (.slice jg g9.length gx) g9):=A_ (by rw[<- hw_];exact(by(with_reducible repeat(first|apply Kd.R_alloc|apply Kd.R_drewN|apply Kd.R_drew));exact Kd.R_mono (Kd.R_far (p:=⟨bi7,(an:Int).toNat,none⟩) (Kd.R_far1 gm.out rfl ((ce0.out.1 _ rfl).1)) (fun _ hk=>hk.2) (.int .i64 ao)) (fun _ hk=>trivial)))
  have n1_:Jc (Kd.S (Kd.slice 3 (Kd.int .i64)) 22 w96 w.heap.size (fun k_=>some k_≠(.slice jg g9.length gx:Value).ownBlock) (.slice (some br0) i8.length ky) an1):=A_ (by rw[<- hw_];exact uS_ HQ94)
  have n2_:Jc (hc_ w96 qp #[.slice af ab.length ac, .slice ah aa.length ag] 25):=A_ (by rw[<- hw_];exact(by(with_reducible repeat(first|refine Jm ?_ _|refine Jn ?_|refine Jl ?_ _));refine Ju ?_ (by have h_:=Kd.R_ne ce0.out ff.out (by decide);intro e_;exact h_ (g6_)) _;exact uB_ ff))
  have n3_:Jc (hc_ w96 r8 #[.int .i64 aq, .int .i64 am, .int .i64 an, .int .i64 ao] 69):=A_ (by rw[<- hw_];exact(by(with_reducible repeat(first|refine Jm ?_ _|refine Jn ?_|refine Jl ?_ _));refine Ju ?_ (by have h_:=Kd.R_ne ce0.out fk.out (by decide);intro e_;exact h_ (g6_)) _;exact uB_ fk))
  have n4_:Jc (hc_ w96 ca #[.slice none 0 0, .slice none 0 0] 25):=A_ (by rw[<- hw_];exact(by(with_reducible repeat(first|refine Jm ?_ _|refine Jn ?_|refine Jl ?_ _));refine Ju ?_ (by have h_:=Kd.R_ne ce0.out ct.out (by decide);intro e_;exact h_ (g6_)) _;exact uB_ ct))
  have n5_:Jc (hc_ w96 ep #[.slice jg g9.length gx, .slice (some br0) i8.length ky] 25):=A_ (by rw[<- hw_];exact(by(with_reducible repeat(first|refine Jm ?_ _|refine Jn ?_|refine Jl ?_ _));refine Ju ?_ (by have h_:=Kd.R_ne ce0.out ez.out (by decide);intro e_;exact h_ (g6_)) _;exact uB_ ez))
  have n6_:Jc (Below w.heap.size w w96):=A_ (by rw[<- hw_];exact l4)
  clear hw_
  have gm:=n0_
  have gv:=n1_
  have ff:=n2_
  have fk:=n3_
  have ct:=n4_
  have ez:=n5_
  have HB:=n6_
  clear n0_ n1_ n2_ n3_ n4_ n5_ n6_
  try go_wp2
  replace gm:=rd_ gm
  replace gv:=sd_ gv
  replace ff:=bd_ ff
  replace fk:=bd_ fk
  replace ct:=bd_ ct
  replace ez:=bd_ ez
  replace HB:=A_ (Ji HB.out)
  refine start_ (n:=7) (S:=fun w'=>w'.cell? ⟨ep,0,none⟩=some (.slice jg g9.length gx)/\w'.cell? ⟨ep,1,none⟩=some (.slice (some br0) i8.length ky)/\w'.cell? ⟨qp,0,none⟩=some (.slice af ab.length ac)/\w'.cell? ⟨qp,1,none⟩=some (.slice ah aa.length ag)) (ds:=[]) (tl_ 7 0) (g1_) rfl (g1_) ⟨(Jd ez.out 0).trans rfl,(Jd ez.out 1).trans rfl,(Jd ff.out 0).trans rfl,(Jd ff.out 1).trans rfl⟩ (fun hHeld=>?_)
  generalize w96.drew=w97 at gm gv ff fk ct ez HB hHeld |-
  refine take_ (i:=0) (N:=some 98) (v:=?_) (a':=?_) (tl_ 7 1) rfl rfl (g1_) (fun _ _ _ h=>h) (Or.inl ⟨by rfl,?_⟩) hHeld ?_ ?_
  rotate_left
  ·rintro w' ⟨s0,s1,s2,s3⟩
   go_simp
   with_reducible rfl
  rotate_left
  · exact sp_
  refine take_ (i:=1) (N:=some 99) (v:=?_) (a':=?_) (tl_ 7 3) rfl rfl (g1_) (fun _ _ _ h=>h) (Or.inl ⟨by rfl,?_⟩) hHeld ?_ ?_
  rotate_left
  ·rintro w' ⟨s0,s1,s2,s3⟩
   go_simp
   with_reducible rfl
  rotate_left
  · exact sp_
  refine take_ (i:=2) (N:=some 100) (v:=?_) (a':=?_) (tl_ 7 7) rfl rfl (g1_) (fun _ _ _ h=>h) (Or.inl ⟨by rfl,?_⟩) hHeld ?_ ?_
  rotate_left
  ·rintro w' ⟨s0,s1,s2,s3⟩
   go_simp
   with_reducible rfl
  rotate_left
  · exact sp_
  refine one_ (i:=3) (N:=some 101) (tl_ 7 15) rfl rfl (g1_) (by decide) (fun K hK=>?_)
  refine goes_ Try.func122 (g1_) rfl #[.agg #[.slice jg g9.length gx, .slice (some br0) an1.length ky], .agg #[.slice af ab.length ac, .slice ah aa.length ag]] (by rfl) rfl rfl (by(try simp only[List.map_toArray,List.map_cons,List.map_nil]);first|done|(rw[show an1.length=i8.length from(Kd.S_reads' gv.out).1.symm] <;> rfl)|rfl|(simp only[List.length_drop,List.length_take];rfl)) ?_
  with_reducible refine(Fw.calls kj57 _ _ g9 _ _ an1 _ _ ab _ _ aa cs6 _ ?side1 ?side2 ?side3 ?side4 ?side5 ?side6 ?side7 ?side8 A92.out).mono ?_
  (case side1=>exact cR_ gm)
  (case side2=>exact lR_ gm)
  (case side3=>exact cS_ gv)
  (case side4=>rw[show an1.length=i8.length from(Kd.S_reads' gv.out).1.symm];exact(Kd.S_reads' gv.out).2.1)
  (case side5=>exact uC_ bg)
  (case side6=>exact bw.out)
  (case side7=>exact uC_ bd)
  (case side8=>exact b4.out)
  rintro e w98 ⟨rfl,hb⟩
  refine⟨_,rfl,?_⟩
  replace gm:=rb_ gm hb
  replace gv:=sb_ gv hb
  replace ff:=bb_ ff hb
  replace fk:=bb_ fk hb
  replace ct:=bb_ ct hb
  replace ez:=bb_ ez hb
  replace HB:=hs_ (l4) hb
  refine hK.out _ _ ⟨(Jd ez.out 0).trans rfl,(Jd ez.out 1).trans rfl,(Jd ff.out 0).trans rfl,(Jd ff.out 1).trans rfl⟩ (fun hHeld=>?_)
  clear hK K
  refine nm_ ?_
  refine pure_ (i:=4) (N:=some 102) (v:=?_) (a':=?_) (tl_ 7 31) rfl rfl (g1_) (fun _ _ _ h=>h) (Or.inl ⟨by rfl,?_⟩) ?_ ?_
  rotate_left
  ·intro w'
   go_simp
   with_reducible rfl
  rotate_left
  · exact sp_
  refine one_ (i:=5) (N:=none) (tl_ 7 63) rfl rfl (g1_) (by decide) (fun K hK=>?_)
  have nr5:w98.cell? ⟨ca,0,none⟩=some (.slice none 0 0):=(Jd ct.out 0).trans rfl
  have nr6:=Jo ct.out 0
  have nr7:=oy.out
  have nr8:=tf.out
  have nr9:=oa.out
  have ns0:=as5.out
  have ns1:=tg.out
  have ns2:=ac2.out
  have ns3:w98.cell? ⟨ca,1,none⟩=some (.slice none 0 0):=(Jd ct.out 1).trans rfl
  have ns4:=Jo ct.out 1
  refine skip_ (w1:=?_) (by rfl) rfl ?_ ?_
  rotate_left
  ·go_simp
   rfl
  refine hK.out _ _ ⟨(cf_ oa ((cf_ oa (hHeld.1)))),(cf_ oa ((cf_ oa (hHeld.2.1)))),(cf_ oy ((cf_ oy (hHeld.2.2.1)))),(cf_ oy ((cf_ oy (hHeld.2.2.2))))⟩ (fun hHeld=>?_)
  clear hK K
  refine pure_ (i:=6) (N:=some 5) (v:=?_) (a':=?_) (tl_ 7 127) rfl rfl (g1_) (fun _ _ _ h=>h) (Or.inl ⟨by rfl,?_⟩) ?_ ?_
  rotate_left
  ·intro w'
   go_simp
   with_reducible rfl
  rotate_left
  · exact sp_
  refine done_ (g1_) ?_
  try go_wp2
  refine bodyPost_ret (Jy rfl _ _ ca 25 #[.slice jg g9.length gx, .slice (some br0) i8.length ky] (0,0) _ rfl (ba_ ct) Try.underlying25 rfl (g1_)) rfl ?_
  exact⟨_,_,g4_,ra_ gm,sa_ gv,l4⟩
 replace c86:=Bool.eq_false_iff.mpr c86
 subst c86
 replace H:=ifn_ H
 by_cases tt:(aq == 2 && (am == 0 && (an == 0 && (ao == 0))))=true
 ·rw[if_pos tt] at H
  have br1:(aq == 2 && (am == 0 && (an == 0 && (ao == 0))))=true:=tt
  (try(have la0:decide (aq=2 && (am == 0 && (an == 0 && (ao == 0))))=true:=by simpa using tt))
  (try(have la1:(aq == 2 && (am == 0 && (an == 0 && (ao == 0))))=true:=by simpa using tt))
  clear tt
  replace H:=Option.bind_eq_some_iff.mp H
  obtain⟨⟨ob,qf⟩,ip6,H⟩:=H
  try dsimp only at H
  have fe5:=A_ ip6
  clear ip6
  obtain⟨gm5,la2,H⟩:=bind_ H
  simp only[Option.some.injEq,Prod.mk.injEq] at H
  obtain⟨rfl,rfl,rfl⟩:=H
  have fe6:=ai3.out
  have fe7:=ai2.out
  have fe8:=tf.out
  have fe9:=tg.out
  have ff0:=zj.out
  have ff1:=ai4.out
  obtain⟨cs8,cs9,dg6,nt1,ct0,ct1,dg7,nt2⟩:=blk4_ fk
  have gp1:=oy.out
  have gp2:=as5.out
  have gp3:=dg4.out
  have gp4:=fc9.out
  obtain⟨ff2,ff3,ff4,ff5⟩:=blk2_ ff
  try go_wp2_with (first|((with_reducible refine gc_ 41 ?_);refine gl_ 88 Try.func41 #[.agg #[.slice af ab.length ac, .slice ah aa.length ag]] ?_;(refine(Fl.calls kj57 _ _ ab _ _ aa ob qf _ (uC_ bg) bw.out (uC_ bd) b4.out fe5.out).mono ?_);rintro e bb4 ⟨nt3,nt4,rfl,ai,ak,hb⟩;refine⟨_,rfl,?_⟩;have as7:=A_ (Kd.R_lower (Kd.R_new' ai (Kd.R_lt (uR_ gm))) (Je (l4)));have as8:=A_ (Kd.S_lower (Kd.S_new' (Kd.S_new' ak (Kd.R_lt (uR_ gm))) (Kd.S_lt (uS_ gv))) (Je (l4)));replace gm:=A_ (Kd.R_elder' (uR_ gm) (Kd.R_base ai) hb);replace gv:=A_ (Kd.S_mono (Kd.S_told (Kd.S_told (Kd.S_old (uS_ gv) hb) (Kd.R_base ai)) (Kd.S_base ak)) (fun _ h_=>h_.1));replace ff:=bb_ ff hb;replace fk:=bb_ fk hb;replace ct:=bb_ ct hb;replace ez:=bb_ ez hb;replace HB:=hs_ (l4) hb;obtain⟨ph,pi,la3⟩:=Kd.R_slice as7.out;subst la3;have gp5:=oa.out;have gp6:=ac2.out;obtain⟨la4,la5,la6,la7⟩:=blk2_ ez;obtain⟨pj,pk,gp7⟩:=Kd.S_slice as8.out;subst gp7))
  have n0_:Jc (Kd.R (Kd.int .i64) 3 ((bb4.setCell ⟨ep,0,none⟩ (.slice ph ob.length pi)).setCell ⟨ep,1,none⟩ (.slice pj qf.length pk)) w.heap.size (fun k_=>some k_≠(.slice ph ob.length pi:Value).ownBlock) (.slice jg g9.length gx) g9):=⟨ra_ gm⟩
  have n1_:Jc (Kd.S (Kd.slice 3 (Kd.int .i64)) 22 ((bb4.setCell ⟨ep,0,none⟩ (.slice ph ob.length pi)).setCell ⟨ep,1,none⟩ (.slice pj qf.length pk)) w.heap.size (fun k_=>some k_≠(.slice jg g9.length gx:Value).ownBlock/\some k_≠(.slice ph ob.length pi:Value).ownBlock/\some k_≠(.slice pj qf.length pk:Value).ownBlock) (.slice m4 i8.length ky) i8):=⟨sa_ gv⟩
  have n2_:Jc (Kd.R (Kd.int .i64) 3 ((bb4.setCell ⟨ep,0,none⟩ (.slice ph ob.length pi)).setCell ⟨ep,1,none⟩ (.slice pj qf.length pk)) w.heap.size (fun k_=>some k_≠(.slice jg g9.length gx:Value).ownBlock) (.slice ph ob.length pi) ob):=⟨ra_ as7⟩
  have n3_:Jc (Kd.S (Kd.slice 3 (Kd.int .i64)) 22 ((bb4.setCell ⟨ep,0,none⟩ (.slice ph ob.length pi)).setCell ⟨ep,1,none⟩ (.slice pj qf.length pk)) w.heap.size (fun k_=>some k_≠(.slice jg g9.length gx:Value).ownBlock/\some k_≠(.slice m4 i8.length ky:Value).ownBlock/\some k_≠(.slice ph ob.length pi:Value).ownBlock) (.slice pj qf.length pk) qf):=⟨sa_ as8⟩
  have n4_:Jc (((bb4.setCell ⟨ep,0,none⟩ (.slice ph ob.length pi)).setCell ⟨ep,1,none⟩ (.slice pj qf.length pk)).heap[qp]? = some (.cells #[.slice af ab.length ac, .slice ah aa.length ag] 25 (0,0))):=⟨ba_ ff⟩
  have n5_:Jc (((bb4.setCell ⟨ep,0,none⟩ (.slice ph ob.length pi)).setCell ⟨ep,1,none⟩ (.slice pj qf.length pk)).heap[r8]? = some (.cells #[.int .i64 aq, .int .i64 am, .int .i64 an, .int .i64 ao] 69 (0,0))):=⟨ba_ fk⟩
  have n6_:Jc (((bb4.setCell ⟨ep,0,none⟩ (.slice ph ob.length pi)).setCell ⟨ep,1,none⟩ (.slice pj qf.length pk)).heap[ca]? = some (.cells #[.slice none 0 0, .slice none 0 0] 25 (0,0))):=⟨ba_ ct⟩
  have n7_:Jc (((bb4.setCell ⟨ep,0,none⟩ (.slice ph ob.length pi)).setCell ⟨ep,1,none⟩ (.slice pj qf.length pk)).heap[ep]? = some (.cells #[.slice ph ob.length pi, .slice pj qf.length pk] 25 (0,0))):=⟨ba_ ez⟩
  have n8_:Jc (Below w.heap.size w ((bb4.setCell ⟨ep,0,none⟩ (.slice ph ob.length pi)).setCell ⟨ep,1,none⟩ (.slice pj qf.length pk))):=⟨l4⟩
  generalize ((bb4.setCell ⟨ep,0,none⟩ (.slice ph ob.length pi)).setCell ⟨ep,1,none⟩ (.slice pj qf.length pk))=la8 at n0_ n1_ n2_ n3_ n4_ n5_ n6_ n7_ n8_ |-
  have gm:=n0_
  have gv:=n1_
  have as7:=n2_
  have as8:=n3_
  have ff:=n4_
  have fk:=n5_
  have ct:=n6_
  have ez:=n7_
  have HB:=n8_
  clear n0_ n1_ n2_ n3_ n4_ n5_ n6_ n7_ n8_
  replace gm:=rd_ gm
  replace gv:=sd_ gv
  replace as7:=rd_ as7
  replace as8:=sd_ as8
  replace ff:=bd_ ff
  replace fk:=bd_ fk
  replace ct:=bd_ ct
  replace ez:=bd_ ez
  replace HB:=A_ (Ji HB.out)
  refine start_ (n:=7) (S:=fun w'=>w'.cell? ⟨ep,0,none⟩=some (.slice ph ob.length pi)/\w'.cell? ⟨ep,1,none⟩=some (.slice pj qf.length pk)/\w'.cell? ⟨qp,0,none⟩=some (.slice af ab.length ac)/\w'.cell? ⟨qp,1,none⟩=some (.slice ah aa.length ag)) (ds:=[]) (tl_ 7 0) (g1_) rfl (g1_) ⟨(Jd ez.out 0).trans rfl,(Jd ez.out 1).trans rfl,(Jd ff.out 0).trans rfl,(Jd ff.out 1).trans rfl⟩ (fun hHeld=>?_)
  generalize la8.drew=ip7 at gm gv as7 as8 ff fk ct ez HB hHeld |-
  refine take_ (i:=0) (N:=some 98) (v:=?_) (a':=?_) (tl_ 7 1) rfl rfl (g1_) (fun _ _ _ h=>h) (Or.inl ⟨by rfl,?_⟩) hHeld ?_ ?_
  rotate_left
  ·rintro w' ⟨s0,s1,s2,s3⟩
   go_simp
   with_reducible rfl
  rotate_left
  · exact sp_
  refine take_ (i:=1) (N:=some 99) (v:=?_) (a':=?_) (tl_ 7 3) rfl rfl (g1_) (fun _ _ _ h=>h) (Or.inl ⟨by rfl,?_⟩) hHeld ?_ ?_
  rotate_left
  ·rintro w' ⟨s0,s1,s2,s3⟩
   go_simp
   with_reducible rfl
  rotate_left
  · exact sp_
  refine take_ (i:=2) (N:=some 100) (v:=?_) (a':=?_) (tl_ 7 7) rfl rfl (g1_) (fun _ _ _ h=>h) (Or.inl ⟨by rfl,?_⟩) hHeld ?_ ?_
  rotate_left
  ·rintro w' ⟨s0,s1,s2,s3⟩
   go_simp
   with_reducible rfl
  rotate_left
  · exact sp_
  refine one_ (i:=3) (N:=some 101) (tl_ 7 15) rfl rfl (g1_) (by decide) (fun K hK=>?_)
  refine goes_ Try.func122 (g1_) rfl #[.agg #[.slice ph ob.length pi, .slice pj qf.length pk], .agg #[.slice af ab.length ac, .slice ah aa.length ag]] (by rfl) rfl rfl (gM_) ?_
  refine(Fw.calls kj57 _ _ ob _ _ qf _ _ ab _ _ aa gm5 _ (cR_ as7) (lR_ as7) (cS_ as8) (lS_ as8) (uC_ bg) bw.out (uC_ bd) b4.out la2.out).mono ?_
  rintro e gp8 ⟨rfl,hb⟩
  refine⟨_,rfl,?_⟩
  replace gm:=rb_ gm hb
  replace gv:=sb_ gv hb
  replace as7:=rb_ as7 hb
  replace as8:=sb_ as8 hb
  replace ff:=bb_ ff hb
  replace fk:=bb_ fk hb
  replace ct:=bb_ ct hb
  replace ez:=bb_ ez hb
  replace HB:=hs_ (l4) hb
  refine hK.out _ _ ⟨(Jd ez.out 0).trans rfl,(Jd ez.out 1).trans rfl,(Jd ff.out 0).trans rfl,(Jd ff.out 1).trans rfl⟩ (fun hHeld=>?_)
  clear hK K
  refine nm_ ?_
  refine pure_ (i:=4) (N:=some 102) (v:=?_) (a':=?_) (tl_ 7 31) rfl rfl (g1_) (fun _ _ _ h=>h) (Or.inl ⟨by rfl,?_⟩) ?_ ?_
  rotate_left
  ·intro w'
   go_simp
   with_reducible rfl
  rotate_left
  · exact sp_
  refine one_ (i:=5) (N:=none) (tl_ 7 63) rfl rfl (g1_) (by decide) (fun K hK=>?_)
  have nt5:gp8.cell? ⟨ca,0,none⟩=some (.slice none 0 0):=(Jd ct.out 0).trans rfl
  have nt6:=Jo ct.out 0
  have nt9:=oa.out
  have nu2:=ac2.out
  have nu3:gp8.cell? ⟨ca,1,none⟩=some (.slice none 0 0):=(Jd ct.out 1).trans rfl
  have nu4:=Jo ct.out 1
  refine skip_ (w1:=?_) (by rfl) rfl ?_ ?_
  rotate_left
  ·go_simp
   rfl
  refine hK.out _ _ ⟨(cf_ oa ((cf_ oa (hHeld.1)))),(cf_ oa ((cf_ oa (hHeld.2.1)))),(cf_ oy ((cf_ oy (hHeld.2.2.1)))),(cf_ oy ((cf_ oy (hHeld.2.2.2))))⟩ (fun hHeld=>?_)
  clear hK K
  refine pure_ (i:=6) (N:=some 5) (v:=?_) (a':=?_) (tl_ 7 127) rfl rfl (g1_) (fun _ _ _ h=>h) (Or.inl ⟨by rfl,?_⟩) ?_ ?_
  rotate_left
  ·intro w'
   go_simp
   with_reducible rfl
  rotate_left
  · exact sp_
  refine done_ (g1_) ?_
  try go_wp2
  refine bodyPost_ret (Jy rfl _ _ ca 25 #[.slice ph ob.length pi, .slice pj qf.length pk] (0,0) _ rfl (ba_ ct) Try.underlying25 rfl (g1_)) rfl ?_
  exact⟨_,_,g4_,ra_ as7,sa_ as8,l4⟩
 rw[if_neg tt] at H
 have br1:(aq == 2 && (am == 0 && (an == 0 && (ao == 0))))=false:=by simpa using tt
 (try(have la0:decide (aq=2 && (am == 0 && (an == 0 && (ao == 0))))=false:=by simpa using tt))
 (try(have la1:(aq == 2 && (am == 0 && (an == 0 && (ao == 0))))=false:=by simpa using tt))
 (try(have nv1:¬ (aq=2 && (am == 0 && (an == 0 && (ao == 0)))):=by simpa using tt))
 clear tt
 by_cases bb5:(aq == 3 && (am == 0 && (an == 0 && (ao == 0))))=true
 case neg=>
  rw[if_neg bb5] at H
  have la9:(aq == 3 && (am == 0 && (an == 0 && (ao == 0))))=false:=by simpa using bb5
  (try(have lb0:decide (aq=3 && (am == 0 && (an == 0 && (ao == 0))))=false:=by simpa using bb5))
  (try(have lb1:(aq == 3 && (am == 0 && (an == 0 && (ao == 0))))=false:=by simpa using bb5))
  (try(have nx6:¬ (aq=3 && (am == 0 && (an == 0 && (ao == 0)))):=by simpa using bb5))
  clear bb5
  simp only[Option.some.injEq,Prod.mk.injEq] at H
  obtain⟨rfl,rfl,rfl⟩:=H
  have ir0:=ai3.out
  have ir1:=ai2.out
  have lc8:=tf.out
  have lc9:=tg.out
  have ir2:=zj.out
  have ir3:=ai4.out
  obtain⟨ld0,ld1,ld2,nx7,ld3,ld4,ld5,nx8⟩:=blk4_ fk
  have ld6:=as5.out
  have ld7:=oy.out
  have ld8:=ac2.out
  have ld9:=oa.out
  obtain⟨le0,le1,le2,le3⟩:=blk2_ ct
  go_wp2
  refine bodyPost_ret (Jy rfl _ _ ca 25 #[.slice none 0 0, .slice none 0 0] (0,0) _ rfl (ba_ ct) Try.underlying25 rfl (g1_)) rfl ?_
  exact⟨_,_,g4_,g34_,g41_,l4⟩
 rw[if_pos bb5] at H
 have la9:(aq == 3 && (am == 0 && (an == 0 && (ao == 0))))=true:=bb5
 (try(have lb0:decide (aq=3 && (am == 0 && (an == 0 && (ao == 0))))=true:=by simpa using bb5))
 (try(have lb1:(aq == 3 && (am == 0 && (an == 0 && (ao == 0))))=true:=by simpa using bb5))
 clear bb5
 replace H:=Option.bind_eq_some_iff.mp H
 obtain⟨⟨oc,qg,lb2⟩,ip8,H⟩:=H
 try dsimp only at H
 have eg8:=A_ ip8
 clear ip8
 obtain⟨gm6,lb3,H⟩:=bind_ H
 simp only[Option.some.injEq,Prod.mk.injEq] at H
 obtain⟨rfl,rfl,rfl⟩:=H
 have lb4:=ai3.out
 have lb5:=ai2.out
 have lb6:=tf.out
 have lb7:=tg.out
 have gp9:=zj.out
 have gq0:=ai4.out
 obtain⟨ip9,iq0,iq1,nv2,iq2,iq3,iq4,nv3⟩:=blk4_ fk
 have iq5:=oy.out
 have iq6:=as5.out
 have lb8:=dg4.out
 have lb9:=fc9.out
 obtain⟨nv4,nv5,nv6,nv7⟩:=blk2_ ff
 try go_wp2_with (first|((with_reducible refine gc_ 53 ?_);refine gl_ 95 Try.func53 #[.agg #[.slice af ab.length ac, .slice ah aa.length ag]] ?_;(refine(Fd.calls kj57 _ _ ab _ _ aa oc qg lb2 _ (uC_ bg) bw.out (uC_ bd) b4.out eg8.out).mono ?_);rintro e bi8 ⟨nv8,nv9,rfl,ai,ak,hb⟩;refine⟨_,rfl,?_⟩;have as9:=A_ (Kd.R_lower (Kd.R_new' ai (Kd.R_lt (uR_ gm))) (Je (l4)));have at0:=A_ (Kd.S_lower (Kd.S_new' (Kd.S_new' ak (Kd.R_lt (uR_ gm))) (Kd.S_lt (uS_ gv))) (Je (l4)));replace gm:=A_ (Kd.R_elder' (uR_ gm) (Kd.R_base ai) hb);replace gv:=A_ (Kd.S_mono (Kd.S_told (Kd.S_told (Kd.S_old (uS_ gv) hb) (Kd.R_base ai)) (Kd.S_base ak)) (fun _ h_=>h_.1));replace ff:=bb_ ff hb;replace fk:=bb_ fk hb;replace ct:=bb_ ct hb;replace ez:=bb_ ez hb;replace HB:=hs_ (l4) hb;obtain⟨pl,pm,lc0⟩:=Kd.R_slice as9.out;subst lc0;have iq7:=oa.out;have iq8:=ac2.out;obtain⟨lc1,lc2,lc3,lc4⟩:=blk2_ ez;obtain⟨r9,sa,lc5⟩:=Kd.S_slice at0.out;subst lc5))
 have n0_:Jc (Kd.R (Kd.int .i64) 3 ((bi8.setCell ⟨ep,0,none⟩ (.slice pl oc.length pm)).setCell ⟨ep,1,none⟩ (.slice r9 qg.length sa)) w.heap.size (fun k_=>some k_≠(.slice pl oc.length pm:Value).ownBlock) (.slice jg g9.length gx) g9):=⟨ra_ gm⟩
 have n1_:Jc (Kd.S (Kd.slice 3 (Kd.int .i64)) 22 ((bi8.setCell ⟨ep,0,none⟩ (.slice pl oc.length pm)).setCell ⟨ep,1,none⟩ (.slice r9 qg.length sa)) w.heap.size (fun k_=>some k_≠(.slice jg g9.length gx:Value).ownBlock/\some k_≠(.slice pl oc.length pm:Value).ownBlock/\some k_≠(.slice r9 qg.length sa:Value).ownBlock) (.slice m4 i8.length ky) i8):=⟨sa_ gv⟩
 have n2_:Jc (Kd.R (Kd.int .i64) 3 ((bi8.setCell ⟨ep,0,none⟩ (.slice pl oc.length pm)).setCell ⟨ep,1,none⟩ (.slice r9 qg.length sa)) w.heap.size (fun k_=>some k_≠(.slice jg g9.length gx:Value).ownBlock) (.slice pl oc.length pm) oc):=⟨ra_ as9⟩
 have n3_:Jc (Kd.S (Kd.slice 3 (Kd.int .i64)) 22 ((bi8.setCell ⟨ep,0,none⟩ (.slice pl oc.length pm)).setCell ⟨ep,1,none⟩ (.slice r9 qg.length sa)) w.heap.size (fun k_=>some k_≠(.slice jg g9.length gx:Value).ownBlock/\some k_≠(.slice m4 i8.length ky:Value).ownBlock/\some k_≠(.slice pl oc.length pm:Value).ownBlock) (.slice r9 qg.length sa) qg):=⟨sa_ at0⟩
 have n4_:Jc (((bi8.setCell ⟨ep,0,none⟩ (.slice pl oc.length pm)).setCell ⟨ep,1,none⟩ (.slice r9 qg.length sa)).heap[qp]? = some (.cells #[.slice af ab.length ac, .slice ah aa.length ag] 25 (0,0))):=⟨ba_ ff⟩
 have n5_:Jc (((bi8.setCell ⟨ep,0,none⟩ (.slice pl oc.length pm)).setCell ⟨ep,1,none⟩ (.slice r9 qg.length sa)).heap[r8]? = some (.cells #[.int .i64 aq, .int .i64 am, .int .i64 an, .int .i64 ao] 69 (0,0))):=⟨ba_ fk⟩
 have n6_:Jc (((bi8.setCell ⟨ep,0,none⟩ (.slice pl oc.length pm)).setCell ⟨ep,1,none⟩ (.slice r9 qg.length sa)).heap[ca]? = some (.cells #[.slice none 0 0, .slice none 0 0] 25 (0,0))):=⟨ba_ ct⟩
 have n7_:Jc (((bi8.setCell ⟨ep,0,none⟩ (.slice pl oc.length pm)).setCell ⟨ep,1,none⟩ (.slice r9 qg.length sa)).heap[ep]? = some (.cells #[.slice pl oc.length pm, .slice r9 qg.length sa] 25 (0,0))):=⟨ba_ ez⟩
 have n8_:Jc (Below w.heap.size w ((bi8.setCell ⟨ep,0,none⟩ (.slice pl oc.length pm)).setCell ⟨ep,1,none⟩ (.slice r9 qg.length sa))):=⟨l4⟩
 generalize ((bi8.setCell ⟨ep,0,none⟩ (.slice pl oc.length pm)).setCell ⟨ep,1,none⟩ (.slice r9 qg.length sa))=lc6 at n0_ n1_ n2_ n3_ n4_ n5_ n6_ n7_ n8_ |-
 have gm:=n0_
 have gv:=n1_
 have as9:=n2_
 have at0:=n3_
 have ff:=n4_
 have fk:=n5_
 have ct:=n6_
 have ez:=n7_
 have HB:=n8_
 clear n0_ n1_ n2_ n3_ n4_ n5_ n6_ n7_ n8_
 replace gm:=rd_ gm
 replace gv:=sd_ gv
 replace as9:=rd_ as9
 replace at0:=sd_ at0
 replace ff:=bd_ ff
 replace fk:=bd_ fk
 replace ct:=bd_ ct
 replace ez:=bd_ ez
 replace HB:=A_ (Ji HB.out)
 refine start_ (n:=7) (S:=fun w'=>w'.cell? ⟨ep,0,none⟩=some (.slice pl oc.length pm)/\w'.cell? ⟨ep,1,none⟩=some (.slice r9 qg.length sa)/\w'.cell? ⟨qp,0,none⟩=some (.slice af ab.length ac)/\w'.cell? ⟨qp,1,none⟩=some (.slice ah aa.length ag)) (ds:=[]) (tl_ 7 0) (g1_) rfl (g1_) ⟨(Jd ez.out 0).trans rfl,(Jd ez.out 1).trans rfl,(Jd ff.out 0).trans rfl,(Jd ff.out 1).trans rfl⟩ (fun hHeld=>?_)
 generalize lc6.drew=lc7 at gm gv as9 at0 ff fk ct ez HB hHeld |-
 refine take_ (i:=0) (N:=some 98) (v:=?_) (a':=?_) (tl_ 7 1) rfl rfl (g1_) (fun _ _ _ h=>h) (Or.inl ⟨by rfl,?_⟩) hHeld ?_ ?_
 rotate_left
 ·rintro w' ⟨s0,s1,s2,s3⟩
  go_simp
  with_reducible rfl
 rotate_left
 · exact sp_
 refine take_ (i:=1) (N:=some 99) (v:=?_) (a':=?_) (tl_ 7 3) rfl rfl (g1_) (fun _ _ _ h=>h) (Or.inl ⟨by rfl,?_⟩) hHeld ?_ ?_
 rotate_left
 ·rintro w' ⟨s0,s1,s2,s3⟩
  go_simp
  with_reducible rfl
 rotate_left
 · exact sp_
 refine take_ (i:=2) (N:=some 100) (v:=?_) (a':=?_) (tl_ 7 7) rfl rfl (g1_) (fun _ _ _ h=>h) (Or.inl ⟨by rfl,?_⟩) hHeld ?_ ?_
 rotate_left
 ·rintro w' ⟨s0,s1,s2,s3⟩
  go_simp
  with_reducible rfl
 rotate_left
 · exact sp_
 refine one_ (i:=3) (N:=some 101) (tl_ 7 15) rfl rfl (g1_) (by decide) (fun K hK=>?_)
 refine goes_ Try.func122 (g1_) rfl #[.agg #[.slice pl oc.length pm, .slice r9 qg.length sa], .agg #[.slice af ab.length ac, .slice ah aa.length ag]] (by rfl) rfl rfl (gM_) ?_
 refine(Fw.calls kj57 _ _ oc _ _ qg _ _ ab _ _ aa gm6 _ (cR_ as9) (lR_ as9) (cS_ at0) (lS_ at0) (uC_ bg) bw.out (uC_ bd) b4.out lb3.out).mono ?_
 rintro e iq9 ⟨rfl,hb⟩
 refine⟨_,rfl,?_⟩
 replace gm:=rb_ gm hb
 replace gv:=sb_ gv hb
 replace as9:=rb_ as9 hb
 replace at0:=sb_ at0 hb
 replace ff:=bb_ ff hb
 replace fk:=bb_ fk hb
 replace ct:=bb_ ct hb
 replace ez:=bb_ ez hb
 replace HB:=hs_ (l4) hb
 refine hK.out _ _ ⟨(Jd ez.out 0).trans rfl,(Jd ez.out 1).trans rfl,(Jd ff.out 0).trans rfl,(Jd ff.out 1).trans rfl⟩ (fun hHeld=>?_)
 clear hK K
 refine nm_ ?_
 refine pure_ (i:=4) (N:=some 102) (v:=?_) (a':=?_) (tl_ 7 31) rfl rfl (g1_) (fun _ _ _ h=>h) (Or.inl ⟨by rfl,?_⟩) ?_ ?_
 rotate_left
 ·intro w'
  go_simp
  with_reducible rfl
 rotate_left
 · exact sp_
 refine one_ (i:=5) (N:=none) (tl_ 7 63) rfl rfl (g1_) (by decide) (fun K hK=>?_)
 have nw0:iq9.cell? ⟨ca,0,none⟩=some (.slice none 0 0):=(Jd ct.out 0).trans rfl
 have nw1:=Jo ct.out 0
 have nw4:=oa.out
 have nw7:=ac2.out
 have nw8:iq9.cell? ⟨ca,1,none⟩=some (.slice none 0 0):=(Jd ct.out 1).trans rfl
 have nw9:=Jo ct.out 1
 refine skip_ (w1:=?_) (by rfl) rfl ?_ ?_
 rotate_left
 ·go_simp
  rfl
 refine hK.out _ _ ⟨(cf_ oa ((cf_ oa (hHeld.1)))),(cf_ oa ((cf_ oa (hHeld.2.1)))),(cf_ oy ((cf_ oy (hHeld.2.2.1)))),(cf_ oy ((cf_ oy (hHeld.2.2.2))))⟩ (fun hHeld=>?_)
 clear hK K
 refine pure_ (i:=6) (N:=some 5) (v:=?_) (a':=?_) (tl_ 7 127) rfl rfl (g1_) (fun _ _ _ h=>h) (Or.inl ⟨by rfl,?_⟩) ?_ ?_
 rotate_left
 ·intro w'
  go_simp
  with_reducible rfl
 rotate_left
 · exact sp_
 refine done_ (g1_) ?_
 try go_wp2
 refine bodyPost_ret (Jy rfl _ _ ca 25 #[.slice pl oc.length pm, .slice r9 qg.length sa] (0,0) _ rfl (ba_ ct) Try.underlying25 rfl (g1_)) rfl ?_
 exact⟨_,_,g4_,ra_ as9,sa_ at0,l4⟩
attribute [local go_sem high] eqA69
theorem k25s_ne {w:World} {g g':Nat} {t:Nat} (h:∃cells,w.heap[g]? = some (.cells cells 25 (0,0))) {cells':Array Value} (h':w.heap[g']? = some (.cells cells' t (0,0))) (ht:(25:Nat)≠t):g≠g':=by
 rintro rfl
 obtain⟨cells,hc⟩:=h
 rw[hc] at h'
 injection h' with h1
 injection h1 with _ h2
 exact ht h2
theorem k25s_last {w:World} {base:Nat} {ok:Nat->Prop} {A:Option Addr} {m c n:Nat} {xs:List S25} (hn:xs.length=n + 1) (h:Kd.S k25s 25 w base ok (.slice A m c) xs) :
  ∃g u0 u1,A=some ⟨g,0,none⟩/\w.cell? ⟨g,n * 2,none⟩=some u0/\w.cell? ⟨g,n * 2 + 1,none⟩=some u1/\Kd.R (Kd.int .i64) 3 w base (fun _=>True) u0 (Js xs (n:Int)).f0/\Kd.S (Kd.slice 3 (Kd.int .i64)) 22 w base (fun k=>some k≠u0.ownBlock) u1 (Js xs (n:Int)).f1/\Kd.Q k25 25 w base (fun k=>some k≠u0.ownBlock/\some k≠u1.ownBlock) (.slice (some ⟨g,0,none⟩) n c) (xs.take n)/\(∃cells,w.heap[g]? = some (.cells cells 25 (0,0)))/\m=n + 1:=by
 obtain⟨f,hR⟩:=h
 have hlz:xs.zipIdx.length=n + 1:=by rw[List.length_zipIdx,hn]
 have hm:m=n + 1:=by rw[(Kd.R_reads' hR).1,hlz]
 subst hm
 obtain⟨hok,inner,ho,hr⟩:=hR
 have ai:=ho
 rcases ai.2 with⟨hv,_⟩ | ⟨g,cap',cur,hv,hgb,hh,_⟩
 ·cases hv
 injection hv with hA _ hc
 subst hA
 have hbl:(Value.slice (some ⟨g,0,none⟩) (n + 1) c).ownBlock=some g:=by simp[Value.ownBlock]
 obtain⟨cs,hcl,hM,hcc⟩:=Kd.R_getA (⟨hok,inner,ho,hr⟩:(Kd.tag f k25s).R 25 w base ok _ _) (z25,0) (n:Int) (by omega) (by omega)
 have hzi:xs.zipIdx.getD (n:Int).toNat (z25,0)=(Js xs (n:Int),n):=by
  simp[Js,List.getD_eq_getElem?_getD,hn]
 rw[hzi] at hM
 obtain⟨u0,u1,rfl,h0,h1⟩:=hM
 have e0:=hcc 0 u0 rfl
 have e1:=hcc 1 u1 rfl
 have hsz:(Kd.tag f k25s).sz=2:=rfl
 rw[hsz] at e0 e1
 refine⟨g,u0,u1,rfl,?_,?_,Kd.R_mono h0 (fun _ _=>trivial),Kd.S_mono h1 (fun _ hk=>hk.2),Kd.Q_of_R ?_,⟨cur,hh⟩,rfl⟩
 ·rw[add_at] at e0;simpa using e0
 ·rw[add_at] at e1;simpa using e1
 have hu0:∀k,u0.ownBlock=some k->f k=n/\k≠g:=fun k hk=>by
  have:=h0.1 k hk
  refine⟨this.2,fun e=>this.1.2 (by rw[hbl,e])⟩
 have hu1:∀k,u1.ownBlock=some k->f k=n/\k≠g:=fun k hk=>by
  have:=(Kd.S_R h1).1 k hk
  refine⟨this.1.2,fun e=>this.1.1.2 (by rw[hbl,e])⟩
 have hRt:=Kd.R_take (m:=n) (⟨hok,inner,ho,hr⟩:(Kd.tag f k25s).R 25 w base ok _ _) (by omega)
 obtain⟨hok2,inner2,aw,hr2⟩:=hRt
 have hbl2:(Value.slice (some ⟨g,0,none⟩) n c).ownBlock=some g:=by simp[Value.ownBlock]
 have hlt:(xs.zipIdx.take n).length=n:=by rw[List.length_take,hlz];omega
 have hlt2:(xs.take n).length=n:=by rw[List.length_take,hn];omega
 rw[hlt] at aw
 refine⟨fun k hk=>?_,inner2,by rw[hlt2];exact aw,?_,fun j p hj=>?_⟩
 ·have hkg:g=k:=by rw[hbl2] at hk;injection hk
  subst hkg
  exact⟨fun e=>(hu0 _ e.symm).2 rfl,fun e=>(hu1 _ e.symm).2 rfl⟩
 ·rw[hr2.1,hlt,hlt2];rfl
 have hjn:j < n:=by have:=(List.getElem?_eq_some_iff.1 hj).1;omega
 have hj2:xs[j]? = some p:=by rw[List.getElem?_take,if_pos hjn] at hj;exact hj
 have hj3:(xs.zipIdx.take n)[j]? = some (p,j):=by rw[List.getElem?_take,if_pos hjn];exact Kd.zip_at hj2
 have hMj:=hr2.2 j (p,j) hj3
 refine k25.M_mono (fun k hk=>⟨⟨fun e=>?_,fun e=>?_⟩,hk.1.2⟩) (k25s_M hMj)
 ·have:=(hu0 k e.symm).1;have h3:=hk.2;omega
 have:=(hu1 k e.symm).1;have h3:=hk.2;omega
def Gp.j0:Nat->Bool->List Int->List (List Int)->List (S25)->Int->Int->Int->Int->List Int->List (List Int)->List (S25)->Option (List Int × (List (List Int)) × (List (S25)) × Bool)
 | 0,_,_,_,_,_,_,_,_,_,_,_=>none
 | k + 1,x24,le4,le5,nx9,le6,le7,le8,le9,ir4,ir5,gq1=>if x24=true then(none) else((Fr.f k le4 le5 le6 le7 le8 le9).bind fun bt346=>(if bt346.2.2=true then(if gq1.length < 2932031007402 then((some (gq1 ++ [(⟨ir4,ir5⟩:S25)]:List (S25))).bind fun m5=>(if (m5.length:Int) > 8 then(if 1<=(m5.length:Int) then(some (bt346.1,bt346.2.1,(m5.drop (1:Int).toNat),true)) else(none)) else(some (bt346.1,bt346.2.1,m5,true)))) else(none)) else(some (ir4,ir5,gq1,false))))
def Gp.f (k:Nat) (ab:List Int) (aa:List (List Int)) (aj:List (S25)) (aq:Int) (am:Int) (an:Int) (ao:Int):Option (List Int × (List (List Int)) × (List (S25)) × Bool):=(Fv.f k ab aa aj).bind fun eg9=>(if eg9=true then((Fn.f k ab aa aj).bind fun bt336=>(if (aq == 4 && (am == 0 && (an == 0 && (ao == 0))))=true then(Gp.j0 k (decide ((aj.length:Int) > 0)) ab aa aj aq am an ao bt336.1 bt336.2.1 bt336.2.2) else(Gp.j0 k false ab aa aj aq am an ao bt336.1 bt336.2.1 bt336.2.2))) else(some (([]:List Int),([]:List (List Int)),([]:List (S25)),false)))
theorem k0 {p:Prop} (h:p:=by repeat(first|(with_reducible first|exact HB.out|apply Jk|apply Jj|apply Ji|refine Jh ?_ dg8.out|refine Jh ?_ eh0.out|refine Jh ?_ ct2.out|refine Jh ?_ ce1.out|refine Jh ?_ eg1.out)|exact HB.out)):p:=h
set_option maxHeartbeats 8000000 in
set_option maxRecDepth 100000 in
theorem Gp.calls (k:Nat) (af:Option Addr) (ac:Nat) (ab:List Int) (ah:Option Addr) (ag:Nat) (aa:List (List Int)) (av:Option Addr) (au:Nat) (aj:List (S25)) (aq:Int) (am:Int) (an:Int) (ao:Int) (r1:List Int) (r2:List (List Int)) (r3:List (S25)) (r4:Bool) (w:World) (cb:Kd.C (Kd.int .i64) w af ab.length ab) (cg:ab.length<=ac) (cc:Kd.C (Kd.slice 3 (Kd.int .i64)) w ah aa.length aa) (ch:aa.length<=ag) (h9:Kd.C k25 w av aj.length aj) (ia:aj.length<=au) (h:Gp.f k ab aa aj aq am an ao=some (r1,r2,r3,r4)) :
  Calls Try.prog 54 #[.agg #[.slice af ab.length ac, .slice ah aa.length ag, .slice av aj.length au], .agg #[.int .i64 aq, .int .i64 am, .int .i64 an, .int .i64 ao]] w fun e w'=>∃v0_ v1_ v2_:Value,e = .returned (.tuple #[.agg #[v0_,v1_,v2_], .bool r4])/\Kd.R (Kd.int .i64) 3 w' w.heap.size (fun _=>True) v0_ r1/\Kd.S (Kd.slice 3 (Kd.int .i64)) 22 w' w.heap.size (fun k_=>some k_≠(v0_:Value).ownBlock) v1_ r2/\Kd.Q k25 25 w' w.heap.size (fun k_=>some k_≠(v0_:Value).ownBlock/\some k_≠(v1_:Value).ownBlock) v2_ r3/\Below w.heap.size w w':=by
 have hu28:=Try.underlying28
 have hu69:=Try.underlying69
 have hu25:=Try.underlying25
 have bg:=A_ cb
 have bw:=A_ cg
 clear cb cg
 have bd:=A_ cc
 have b4:=A_ ch
 clear cc ch
 have gg:=A_ h9
 have g3:=A_ ia
 clear h9 ia
 have HB:=A_ (Below.refl w.heap.size w)
 have H:=h
 unfold Gp.f at H
 clear h
 obtain⟨eg9,A3,H⟩:=bind_ H
 by_cases c4:eg9=true
 case neg=>
  replace c4:=Bool.eq_false_iff.mpr c4
  subst c4
  replace H:=ifn_ H
  simp only[Option.some.injEq,Prod.mk.injEq] at H
  obtain⟨rfl,rfl,rfl,rfl⟩:=H
  go_enter Try.func54,Try.ntmps54
  go_wp2_with (first|((with_reducible refine gd_ 2 ?_);(try(refine gate_guard (by rfl) ?_;dsimp only));refine bx_ (N:=2) #[.slice af ab.length ac, .slice ah aa.length ag, .slice av aj.length au] 28 ?_;intro ik hg ix8 hbox hb;have ex:=A_ (hbox);have ir6:=A_ ((g15_:w.heap.size<=ik));have dg8:=ir6;replace HB:=hs_ (k0) hb;clear hb hbox hg)|((with_reducible refine gd_ 3 ?_);(try(refine gate_guard (by rfl) ?_;dsimp only));refine bx_ (N:=3) #[.int .i64 aq, .int .i64 am, .int .i64 an, .int .i64 ao] 69 ?_;intro i2 hg ob7 hbox hb;have gn:=A_ (hbox);have ir7:=A_ ((g15_:w.heap.size<=i2));have eh0:=ir7;replace HB:=hs_ (k0) hb;have bi9:=nl_ ex hg;have bj0:=nr_ ex hg;replace ex:=bb_ ex hb;clear hb hbox hg)|((with_reducible refine gd_ 4 ?_);(try(refine gate_guard (by rfl) ?_;dsimp only));refine bx_ (N:=4) #[.slice none 0 0, .slice none 0 0, .slice none 0 0] 28 ?_;intro dy hg ob8 hbox hb;have fg:=A_ (hbox);have ir8:=A_ ((g15_:w.heap.size<=dy));have ct2:=ir8;replace HB:=hs_ (k0) hb;have br2:=nl_ ex hg;have br3:=nr_ ex hg;replace ex:=bb_ ex hb;have ce2:=nl_ gn hg;have ce3:=nr_ gn hg;replace gn:=bb_ gn hb;clear hb hbox hg;have ix9:=bi9.out;have iy0:=bj0.out;have iy1:=br2.out;have iy2:=br3.out;obtain⟨iy3,iy4,iy5,iy6,iy7,iy8⟩:=blk3_ ex)|((with_reducible refine gc_ 28 ?_);refine gl_ 11 Try.func28 #[.agg #[.slice af ab.length ac, .slice ah aa.length ag, .slice av aj.length au]] ?_;(refine(Fv.calls k _ _ ab _ _ aa _ _ aj false _ (uC_ bg) bw.out (uC_ bd) b4.out (uC_ gg) g3.out A3.out).mono ?_);rintro e gp8 ⟨rfl,hb⟩;refine⟨_,rfl,?_⟩;replace ex:=bb_ ex hb;replace gn:=bb_ gn hb;replace fg:=bb_ fg hb;replace HB:=hs_ (k0) hb;have iy9:=ce3.out;have iz0:=ce2.out;obtain⟨li2,li3,li4,li5,li6,li7⟩:=blk3_ fg))
  refine bodyPost_ret (Jy rfl _ _ dy 28 #[.slice none 0 0, .slice none 0 0, .slice none 0 0] (0,0) _ rfl (ba_ fg) Try.underlying28 rfl (g1_)) rfl ?_
  exact⟨_,_,_,g4_,g34_,g41_,Kd.Q_of_R (g34_),k0⟩
 subst c4
 replace H:=ifp_ H
 replace H:=Option.bind_eq_some_iff.mp H
 obtain⟨⟨gh,hf,er⟩,A50,H⟩:=H
 try dsimp only at H
 have A5:=A_ A50
 clear A50
 have HC6:=A_ H
 clear H
 go_enter Try.func54,Try.ntmps54
 go_upto_region 4 with(first|((with_reducible refine gd_ 2 ?_);(try(refine gate_guard (by rfl) ?_;dsimp only));refine bx_ (N:=2) #[.slice af ab.length ac, .slice ah aa.length ag, .slice av aj.length au] 28 ?_;intro ik hg w7 hbox hb;have ex:=A_ (hbox);have ir6:=A_ ((g15_:w.heap.size<=ik));have dg8:=ir6;replace HB:=hs_ (k0) hb;clear hb hbox hg)|((with_reducible refine gd_ 3 ?_);(try(refine gate_guard (by rfl) ?_;dsimp only));refine bx_ (N:=3) #[.int .i64 aq, .int .i64 am, .int .i64 an, .int .i64 ao] 69 ?_;intro i2 hg w8 hbox hb;have gn:=A_ (hbox);have ir7:=A_ ((g15_:w.heap.size<=i2));have eh0:=ir7;replace HB:=hs_ (k0) hb;have bi9:=nl_ ex hg;have bj0:=nr_ ex hg;replace ex:=bb_ ex hb;clear hb hbox hg)|((with_reducible refine gd_ 4 ?_);(try(refine gate_guard (by rfl) ?_;dsimp only));refine bx_ (N:=4) #[.slice none 0 0, .slice none 0 0, .slice none 0 0] 28 ?_;intro dy hg w9 hbox hb;have fg:=A_ (hbox);have ir8:=A_ ((g15_:w.heap.size<=dy));have ct2:=ir8;replace HB:=hs_ (k0) hb;have br2:=nl_ ex hg;have br3:=nr_ ex hg;replace ex:=bb_ ex hb;have ce2:=nl_ gn hg;have ce3:=nr_ gn hg;replace gn:=bb_ gn hb;clear hb hbox hg;have ct3:=bi9.out;have ct4:=bj0.out;have bg8:=br2.out;have bg9:=br3.out;obtain⟨vu,vv,bb6,vw,vx,bb7⟩:=blk3_ ex)|((with_reducible refine gc_ 28 ?_);refine gl_ 11 Try.func28 #[.agg #[.slice af ab.length ac, .slice ah aa.length ag, .slice av aj.length au]] ?_;(refine(Fv.calls k _ _ ab _ _ aa _ _ aj true _ (uC_ bg) bw.out (uC_ bd) b4.out (uC_ gg) g3.out A3.out).mono ?_);rintro e km ⟨rfl,hb⟩;refine⟨_,rfl,?_⟩;replace ex:=bb_ ex hb;replace gn:=bb_ gn hb;replace fg:=bb_ fg hb;replace HB:=hs_ (k0) hb;obtain⟨um,un,da6,uo,uq,da7⟩:=blk3_ ex)|((with_reducible refine gc_ 100 ?_);refine gl_ 15 Try.func100 #[.agg #[.slice af ab.length ac, .slice ah aa.length ag, .slice av aj.length au]] ?_;(refine(Fn.calls k _ _ ab _ _ aa _ _ aj gh hf er _ (uC_ bg) bw.out (uC_ bd) b4.out (uC_ gg) g3.out A5.out).mono ?_);rintro e rq ⟨lf0,lf1,lf2,rfl,ai,ak,aw,hb⟩;refine⟨_,rfl,?_⟩;have bb8:=A_ (Kd.R_lower ai (Je (k0)));have bb9:=A_ (Kd.S_lower ak (Je (k0)));have an3:=A_ (Kd.R_lower aw (Je (k0)));replace ex:=bb_ ex hb;replace gn:=bb_ gn hb;replace fg:=bb_ fg hb;replace HB:=hs_ (k0) hb)|((with_reducible refine gd_ 6 ?_);(try(refine gate_guard (by rfl) ?_;dsimp only));refine bx_ (N:=6) #[.slice none 0 0, .slice none 0 0, .slice none 0 0] 28 ?_;intro cj hg pw hbox hb;replace bb8:=rb_ bb8 hb;replace bb9:=sb_ bb9 hb;replace an3:=rb_ an3 hb;have gd:=A_ (hbox);have lf3:=A_ ((g15_:w.heap.size<=cj));have ce1:=lf3;replace HB:=hs_ (k0) hb;have ac3:=nl_ ex hg;have ce4:=nr_ ex hg;replace ex:=bb_ ex hb;have zk:=nl_ gn hg;have br4:=nr_ gn hg;replace gn:=bb_ gn hb;have tu:=nl_ fg hg;have ct5:=nr_ fg hg;replace fg:=bb_ fg hb;clear hb hbox hg;obtain⟨f5,f6,ay8⟩:=Kd.R_slice bb8.out;subst ay8;have ds7:=ce4.out;have ds8:=ac3.out;have bx0:=br4.out;have bx1:=zk.out;have dc8:=ct5.out;have dc9:=tu.out;obtain⟨uh,ui,az4,uj,uk,az5⟩:=blk3_ gd;obtain⟨iv,iw,ct6⟩:=Kd.S_slice bb9.out;subst ct6;obtain⟨ku,f7,cr4⟩:=Kd.R_slice an3.out;subst cr4))
 (try simp only[Act.put,List.setIfInBounds_toArray,List.set_cons_zero,List.set_cons_succ])
 go_cut [24] (fun v24 wc=>∃(kq:Nat) (ff6:Bool),v24 = .bool ff6/\Jc (Gp.j0 kq ff6 ab aa aj aq am an ao gh hf er=some (r1,r2,r3,r4))/\Jc (kq<=k)/\Jc (Kd.R (Kd.int .i64) 3 wc w.heap.size (fun _=>True) (.slice f5 gh.length f6) gh)/\Jc (Kd.S (Kd.slice 3 (Kd.int .i64)) 22 wc w.heap.size (fun k_=>some k_≠((.slice f5 gh.length f6):Value).ownBlock) (.slice iv hf.length iw) hf)/\Jc (Kd.Q k25 25 wc w.heap.size (fun k_=>some k_≠((.slice f5 gh.length f6):Value).ownBlock/\some k_≠((.slice iv hf.length iw):Value).ownBlock) (.slice ku er.length f7) er)/\Jc (hc_ wc ik #[(.slice af ab.length ac),(.slice ah aa.length ag),(.slice av aj.length au)] 28)/\Jc (hc_ wc i2 #[.int .i64 aq, .int .i64 am, .int .i64 an, .int .i64 ao] 69)/\Jc (hc_ wc dy #[(.slice none 0 0),(.slice none 0 0),(.slice none 0 0)] 28)/\Jc (hc_ wc cj #[(.slice f5 gh.length f6),(.slice iv hf.length iw),(.slice ku er.length f7)] 28)/\Jc (Below w.heap.size w wc))
 case first=>
  have H:=HC6.out
  clear HC6
  by_cases jy:(aq == 4 && (am == 0 && (an == 0 && (ao == 0))))=true
  ·rw[if_pos jy] at H
   have yw:(aq == 4 && (am == 0 && (an == 0 && (ao == 0))))=true:=jy
   (try(have ir9:decide (aq=4 && (am == 0 && (an == 0 && (ao == 0))))=true:=by simpa using jy))
   (try(have is0:(aq == 4 && (am == 0 && (an == 0 && (ao == 0))))=true:=by simpa using jy))
   clear jy
   (first|rw[yw]|(simp only[i64_w,i32_w];rw[yw])|skip)
   have H':=A_ H
   clear H
   have gm9:=bj0.out
   have gn0:=bi9.out
   have gm1:=ce2.out
   have gm2:=ce3.out
   have jw4:=zk.out
   have jw5:=br4.out
   obtain⟨fr7,fr8,hp9,lf4,fr9,fs0,hq0,lf5⟩:=blk4_ gn
   have dz3:=br2.out
   have dz4:=br3.out
   have gb1:=ac3.out
   have gb2:=ce4.out
   obtain⟨cm7,cm8,eg3,cm9,cn0,eg4⟩:=blk3_ ex
   go_wp2
   go_meet
   case rel=>exact⟨_,(decide ((aj.length:Int) > 0)),(g3_),H',⟨g9_⟩,⟨ra_ bb8⟩,⟨sa_ bb9⟩,⟨Kd.Q_of_R (ra_ an3)⟩,⟨ba_ ex⟩,⟨ba_ gn⟩,⟨ba_ fg⟩,⟨ba_ gd⟩,⟨k0⟩⟩
  rw[if_neg jy] at H
  have yw:(aq == 4 && (am == 0 && (an == 0 && (ao == 0))))=false:=by simpa using jy
  (try(have ir9:decide (aq=4 && (am == 0 && (an == 0 && (ao == 0))))=false:=by simpa using jy))
  (try(have is0:(aq == 4 && (am == 0 && (an == 0 && (ao == 0))))=false:=by simpa using jy))
  (try(have ny0:¬ (aq=4 && (am == 0 && (an == 0 && (ao == 0)))):=by simpa using jy))
  clear jy
  (first|rw[yw]|(simp only[i64_w,i32_w];rw[yw])|skip)
  have H':=A_ H
  clear H
  have ee4:=bj0.out
  have ee5:=bi9.out
  have ca5:=ce2.out
  have ca6:=ce3.out
  have eg5:=zk.out
  have eg6:=br4.out
  obtain⟨bo1,bo2,cd8,fd5,bo3,bo4,cd9,fd6⟩:=blk4_ gn
  go_wp2
  go_meet
  case rel=>exact⟨_,(false),(g3_),H',⟨g9_⟩,⟨ra_ bb8⟩,⟨sa_ bb9⟩,⟨Kd.Q_of_R (ra_ an3)⟩,⟨ba_ ex⟩,⟨ba_ gn⟩,⟨ba_ fg⟩,⟨ba_ gd⟩,⟨k0⟩⟩
 clear HC6
 obtain⟨kq,ff6,rfl,HA,HJ5,nk,qq,kz,ex,gn,fg,gd,HB⟩:=hcut
 cases kq with
 | zero=>exact absurd HA.out (by simp[Gp.j0])
 | succ kj5=>?_
 have H:=HA.out
 clear HA
 simp only[Gp.j0] at H
 by_cases td:ff6=true
 ·subst td
  replace H:=ifp_ H
  exact absurd H (by simp)
 replace td:=Bool.eq_false_iff.mpr td
 subst td
 replace H:=ifn_ H
 replace H:=Option.bind_eq_some_iff.mp H
 obtain⟨⟨fr,gr,lf6⟩,is1,H⟩:=H
 try dsimp only at H
 have A37:=A_ is1
 clear is1
 by_cases c38:lf6=true
 case neg=>
  replace c38:=Bool.eq_false_iff.mpr c38
  subst c38
  replace H:=ifn_ H
  simp only[Option.some.injEq,Prod.mk.injEq] at H
  obtain⟨rfl,rfl,rfl,rfl⟩:=H
  have iw4:=bi9.out
  have iw5:=bj0.out
  have iw6:=br2.out
  have iw7:=br3.out
  have gq5:=ac3.out
  have gq6:=ce4.out
  obtain⟨iw8,iw9,ix0,ix1,ix2,ix3⟩:=blk3_ ex
  have ix4:=ce2.out
  have ix5:=ce3.out
  have oa7:=zk.out
  have oa8:=br4.out
  obtain⟨oa9,ob0,ob1,ob2,ob3,ob4,ob5,ob6⟩:=blk4_ gn
  go_wp2_with (first|((with_reducible refine gc_ 101 ?_);refine gl_ 45 Try.func101 #[.agg #[.slice af ab.length ac, .slice ah aa.length ag], .agg #[.int .i64 aq, .int .i64 am, .int .i64 an, .int .i64 ao]] ?_;(refine(Fr.calls kj5 _ _ ab _ _ aa aq am an ao fr gr false _ (uC_ bg) bw.out (uC_ bd) b4.out A37.out).mono ?_);rintro e gq7 ⟨it5,it6,rfl,ai,ak,hb⟩;refine⟨_,rfl,?_⟩;replace kz:=A_ (Kd.Q_mono (Kd.Q_told (Kd.Q_told (Kd.Q_old (uQ_ kz) hb) (Kd.R_base ai)) (Kd.S_base ak)) (fun _ h_=>h_.1));have qh:=A_ (Kd.R_lower (Kd.R_new' ai (Kd.R_lt (uR_ nk))) (Je (k0)));have o6:=A_ (Kd.S_lower (Kd.S_new' (Kd.S_new' ak (Kd.R_lt (uR_ nk))) (Kd.S_lt (uS_ qq))) (Je (k0)));replace nk:=A_ (Kd.R_elder' (uR_ nk) (Kd.R_base ai) hb);replace qq:=A_ (Kd.S_mono (Kd.S_told (Kd.S_told (Kd.S_old (uS_ qq) hb) (Kd.R_base ai)) (Kd.S_base ak)) (fun _ h_=>h_.1));replace ex:=bb_ ex hb;replace gn:=bb_ gn hb;replace fg:=bb_ fg hb;replace gd:=bb_ gd hb;replace HB:=hs_ (k0) hb)|((with_reducible refine gd_ 8 ?_);(try(refine gate_guard (by rfl) ?_;dsimp only));refine bx_ (N:=8) #[.slice none 0 0, .slice none 0 0] 25 ?_;intro ca hg lh7 hbox hb;replace nk:=rb_ nk hb;replace qq:=sb_ qq hb;replace kz:=A_ (Kd.Q_below (Kd.Q_elderB (uQ_ kz) ca (Nat.le_of_eq hg.symm)) hb);replace qh:=rb_ qh hb;replace o6:=sb_ o6 hb;have ct:=A_ (hbox);have gm7:=A_ ((g15_:w.heap.size<=ca));have eg1:=gm7;replace HB:=hs_ (k0) hb;have br5:=nl_ ex hg;have eh1:=nr_ ex hg;replace ex:=bb_ ex hb;have br6:=nl_ gn hg;have eh2:=nr_ gn hg;replace gn:=bb_ gn hb;have bc0:=nl_ fg hg;have eh3:=nr_ fg hg;replace fg:=bb_ fg hb;have br7:=nl_ gd hg;have dg9:=nr_ gd hg;replace gd:=bb_ gd hb;clear hb hbox hg;obtain⟨gq8,gq9,lh8⟩:=Kd.R_slice qh.out;subst lh8;have lh9:=eh1.out;have li0:=br5.out;have fe6:=eh2.out;have fe7:=br6.out;have fe8:=eh3.out;have fe9:=bc0.out;have ff0:=dg9.out;have ff1:=br7.out;obtain⟨cs8,cs9,ct0,ct1⟩:=blk2_ ct;obtain⟨gr0,gr1,li1⟩:=Kd.S_slice o6.out;subst li1;have gp3:=ct5.out;have gp4:=tu.out;obtain⟨ff2,ff3,gr2,ff4,ff5,gr3⟩:=blk3_ gd;obtain⟨gr4,gr5,ix6,gr6,gr7,ix7⟩:=blk3_ fg))
  refine bodyPost_ret (Jy rfl _ _ dy 28 #[.slice f5 gh.length f6, .slice iv hf.length iw, .slice ku er.length f7] (0,0) _ rfl (ba_ fg) Try.underlying28 rfl (g1_)) rfl ?_
  exact⟨_,_,_,g4_,ra_ nk,sa_ qq,qa_ kz,k0⟩
 subst c38
 replace H:=ifp_ H
 obtain⟨c39,H⟩:=pos_ H
 have is2:=A_ c39
 clear c39
 obtain⟨m5,hyq⟩:∃y_:List (S25),y_=(er ++ [(⟨gh,hf⟩:S25)]):=⟨_,rfl⟩
 replace H:(if (m5.length:Int) > 8 then(if 1<=(m5.length:Int) then(some (fr,gr,(m5.drop (1:Int).toNat),true)) else(none)) else(some (fr,gr,m5,true)))=some (r1,r2,r3,r4):=qh_
 have is3:=A_ hyq
 clear hyq
 by_cases zc:(m5.length:Int) > 8
 ·rw[if_pos zc] at H
  have ie0:=decide_eq_true zc
  have lf7:decide (8 < m5.length)=true:=decide_eq_true (by omega)
  clear zc
  obtain⟨ux,H⟩:=pos_ H
  have ez3:=eq_true ux
  have ie1:=decide_eq_true ux
  clear ux
  obtain⟨at1,hyq⟩:∃y_:List (S25),y_=(m5.drop (1:Int).toNat):=⟨_,rfl⟩
  replace H:(some (fr,gr,at1,true))=some (r1,r2,r3,r4):=qh_
  have is4:=A_ hyq
  clear hyq
  simp only[Option.some.injEq,Prod.mk.injEq] at H
  obtain⟨rfl,rfl,rfl,rfl⟩:=H
  have gq2:=bi9.out
  have gq3:=bj0.out
  have is5:=br2.out
  have is6:=br3.out
  have fb8:=ac3.out
  have fb9:=ce4.out
  obtain⟨is7,is8,is9,it0,it1,it2⟩:=blk3_ ex
  have ge5:=ce2.out
  have ge6:=ce3.out
  have gk6:=zk.out
  have gk7:=br4.out
  obtain⟨ee7,ee8,it3,ny1,ee9,ef0,it4,ny2⟩:=blk4_ gn
  go_wp2_with (first|((with_reducible refine gc_ 101 ?_);refine gl_ 45 Try.func101 #[.agg #[.slice af ab.length ac, .slice ah aa.length ag], .agg #[.int .i64 aq, .int .i64 am, .int .i64 an, .int .i64 ao]] ?_;(refine(Fr.calls kj5 _ _ ab _ _ aa aq am an ao fr gr true _ (uC_ bg) bw.out (uC_ bd) b4.out A37.out).mono ?_);rintro e w49 ⟨it5,it6,rfl,ai,ak,hb⟩;refine⟨_,rfl,?_⟩;replace kz:=A_ (Kd.Q_mono (Kd.Q_told (Kd.Q_told (Kd.Q_old (uQ_ kz) hb) (Kd.R_base ai)) (Kd.S_base ak)) (fun _ h_=>h_.1));have qh:=A_ (Kd.R_lower (Kd.R_new' ai (Kd.R_lt (uR_ nk))) (Je (k0)));have o6:=A_ (Kd.S_lower (Kd.S_new' (Kd.S_new' ak (Kd.R_lt (uR_ nk))) (Kd.S_lt (uS_ qq))) (Je (k0)));replace nk:=A_ (Kd.R_elder' (uR_ nk) (Kd.R_base ai) hb);replace qq:=A_ (Kd.S_mono (Kd.S_told (Kd.S_told (Kd.S_old (uS_ qq) hb) (Kd.R_base ai)) (Kd.S_base ak)) (fun _ h_=>h_.1));replace ex:=bb_ ex hb;replace gn:=bb_ gn hb;replace fg:=bb_ fg hb;replace gd:=bb_ gd hb;replace HB:=hs_ (k0) hb)|((with_reducible refine gd_ 8 ?_);(try(refine gate_guard (by rfl) ?_;dsimp only));refine bx_ (N:=8) #[.slice none 0 0, .slice none 0 0] 25 ?_;intro ca hg w50 hbox hb;replace nk:=rb_ nk hb;replace qq:=sb_ qq hb;replace kz:=A_ (Kd.Q_below (Kd.Q_elderB (uQ_ kz) ca (Nat.le_of_eq hg.symm)) hb);replace qh:=rb_ qh hb;replace o6:=sb_ o6 hb;have ct:=A_ (hbox);have gm7:=A_ ((g15_:w.heap.size<=ca));have eg1:=gm7;replace HB:=hs_ (k0) hb;have br5:=nl_ ex hg;have eh1:=nr_ ex hg;replace ex:=bb_ ex hb;have br6:=nl_ gn hg;have eh2:=nr_ gn hg;replace gn:=bb_ gn hb;have bc0:=nl_ fg hg;have eh3:=nr_ fg hg;replace fg:=bb_ fg hb;have br7:=nl_ gd hg;have dg9:=nr_ gd hg;replace gd:=bb_ gd hb;clear hb hbox hg;obtain⟨bp,bn,dh0⟩:=Kd.R_slice qh.out;subst dh0;have it7:=eh1.out;have it8:=br5.out;have it9:=eh2.out;have iu0:=br6.out;have lf8:=eh3.out;have lf9:=bc0.out;have kk5:=dg9.out;have kk6:=br7.out;obtain⟨ge8,ge9,gf0,gf1⟩:=blk2_ ct;obtain⟨d4,dx,eh4⟩:=Kd.S_slice o6.out;subst eh4)|((with_reducible refine gate_store (t:=25) (p:=8) rfl ?_);refine store_event (t:=25) (p:=8) (v:=?vo_w58) (w1:=((w50.setCell ⟨ca,0,none⟩ (.slice bp fr.length bn)).setCell ⟨ca,1,none⟩ (.slice d4 gr.length dx))) ?hg ?ho ?hn ?hr ?_;(case ho=>rfl);(case hg=>rfl);(case hn=>rfl);(case hr=>first|(go_simp;done)|(go_simp;rfl)|(obtain⟨_,_,e0_⟩:=Kd.R_slice nk.out;rw[e0_];first|(go_simp;done)|(go_simp;rfl)));intro lp hw;replace nk:Jc (Kd.R (Kd.int .i64) 3 lp w.heap.size (fun k_=>some k_≠(.slice bp fr.length bn:Value).ownBlock) (.slice f5 gh.length f6) gh):=⟨(by rw[hw];exact(ra_ nk))⟩;replace qq:Jc (Kd.S (Kd.slice 3 (Kd.int .i64)) 22 lp w.heap.size (fun k_=>some k_≠(.slice f5 gh.length f6:Value).ownBlock/\some k_≠(.slice bp fr.length bn:Value).ownBlock/\some k_≠(.slice d4 gr.length dx:Value).ownBlock) (.slice iv hf.length iw) hf):=⟨(by rw[hw];exact(sa_ qq))⟩;replace kz:Jc (Kd.Q k25 25 lp w.heap.size (fun k_=>some k_≠(.slice f5 gh.length f6:Value).ownBlock/\some k_≠(.slice iv hf.length iw:Value).ownBlock/\some k_≠(.slice bp fr.length bn:Value).ownBlock/\some k_≠(.slice d4 gr.length dx:Value).ownBlock/\k_≠ca) (.slice ku er.length f7) er):=⟨(by rw[hw];exact(qa_ kz))⟩;replace qh:Jc (Kd.R (Kd.int .i64) 3 lp w.heap.size (fun k_=>some k_≠(.slice f5 gh.length f6:Value).ownBlock) (.slice bp fr.length bn) fr):=⟨(by rw[hw];exact(ra_ qh))⟩;replace o6:Jc (Kd.S (Kd.slice 3 (Kd.int .i64)) 22 lp w.heap.size (fun k_=>some k_≠(.slice f5 gh.length f6:Value).ownBlock/\some k_≠(.slice iv hf.length iw:Value).ownBlock/\some k_≠(.slice bp fr.length bn:Value).ownBlock) (.slice d4 gr.length dx) gr):=⟨(by rw[hw];exact(sa_ o6))⟩;replace ex:Jc (hc_ lp ik #[.slice af ab.length ac, .slice ah aa.length ag, .slice av aj.length au] 28):=⟨(by rw[hw];exact(ba_ ex))⟩;replace gn:Jc (hc_ lp i2 #[.int .i64 aq, .int .i64 am, .int .i64 an, .int .i64 ao] 69):=⟨(by rw[hw];exact(ba_ gn))⟩;replace fg:Jc (hc_ lp dy #[.slice none 0 0, .slice none 0 0, .slice none 0 0] 28):=⟨(by rw[hw];exact(ba_ fg))⟩;replace gd:Jc (hc_ lp cj #[.slice f5 gh.length f6, .slice iv hf.length iw, .slice ku er.length f7] 28):=⟨(by rw[hw];exact(ba_ gd))⟩;replace ct:Jc (hc_ lp ca #[.slice bp fr.length bn, .slice d4 gr.length dx] 25):=⟨(by rw[hw];exact(ba_ ct))⟩;replace HB:Jc (Below w.heap.size w lp):=⟨(by rw[hw];exact(k0))⟩;clear hw;have lg0:=ct5.out;have lg1:=tu.out;obtain⟨kn0,kn1,ny3,kn2,kn3,ny4⟩:=blk3_ gd)|((with_reducible refine gate_builtin (b:=.append) (xs:=#[.tmp 52, .tmp 55]) rfl ?_);(try(refine gate_guard (by rfl) ?_;dsimp only));at_builtin;refine Kd.Q_append k25 (w0:=w) w.heap.size rfl (.tmp 52) (.tmp 55) 26 25 (.agg #[(.slice none 0 0),(.slice none 0 0)]) 48 rfl Try.underlying26 info25 rfl (by decide) (by omega) (.slice ku er.length f7) er (⟨gh,hf⟩:S25) [.slice f5 gh.length f6, .slice iv hf.length iw] (fun k_=>some k_≠(.slice bp fr.length bn:Value).ownBlock/\some k_≠(.slice d4 gr.length dx:Value).ownBlock/\k_≠ca) (fun k_=>((fun k_=>some k_≠(.slice bp fr.length bn:Value).ownBlock/\some k_≠(.slice d4 gr.length dx:Value).ownBlock/\k_≠ca)) k_/\some k_≠(.slice ku er.length f7:Value).ownBlock) rfl rfl ?aP (fun _ hk=>hk) ?aF ?aO ?aB ?aS ?aL ?_;(case aP=>exact k25_mkM _ _ _ (⟨gh,hf⟩:S25) (Kd.R_mono (Kd.R_types (Kd.R_apart' (Kd.R_apart' (nk.out) (Kd.S_typed o6.out) (by decide)) (Kd.Q_typed kz.out) (by decide)) ct.out (by decide)) (fun k_ hk=>⟨⟨hk.1.1.1,⟨hk.1.1.2,hk.2⟩⟩,hk.1.2⟩)) (Kd.R_mono (Kd.R_types (Kd.R_apart' ((Kd.S_R qq.out)) (Kd.Q_typed kz.out) (by decide)) ct.out (by decide)) (fun k_ hk=>⟨⟨hk.1.1.2.1,⟨hk.1.1.2.2,hk.2⟩⟩,hk.1.2⟩)));(case aB=>exact(k0));(case aF=>exact(fun k_ hk=>⟨Kd.fresh' (Kd.R_lt (uR_ qh)) k_ hk,Kd.fresh' (Kd.S_lt (uS_ o6)) k_ hk,Kd.freshB (g:=ca) (o:=.cells #[.slice bp fr.length bn, .slice d4 gr.length dx] 25 (0,0)) (uB_ ct) k_ hk⟩));(case aO=>exact(yQ_ kz (fun _ hk=>⟨hk.2.2.1,⟨hk.2.2.2.1,hk.2.2.2.2⟩⟩)));(case aS=>exact(Je (k0)));(case aL=>have:=is2.out;omega);intro il7 w61 ho hb hg hat;rw[<- is3.out] at ho;replace ex:=(bg_ ex hg (Kd.Q_ne kz.out ex.out (by decide)));replace gn:=(bg_ gn hg (Kd.Q_ne kz.out gn.out (by decide)));replace fg:=(bg_ fg hg (Kd.Q_ne kz.out fg.out (by decide)));replace gd:=(bg_ gd hg (Kd.Q_ne kz.out gd.out (by decide)));replace qh:=A_ (Kd.R_over' (uR_ qh) (Kd.Q_typed (uQ_ kz)) (by decide) hg);replace o6:=A_ (Kd.S_over' (uS_ o6) (Kd.Q_typed (uQ_ kz)) (by decide) hg);replace ct:=(bg_ ct hg (Kd.Q_away kz.out (fun _ hk=>hk.2.2.2.2)));replace HB:=A_ (hb);have an2:=A_ (ho);clear kz nk qq;clear ho hb hg hat;obtain⟨bc1,bj1,lg2,_⟩:=Kd.Q_slice an2.out;subst lg2;obtain⟨dh1,dh2,ff7,dh3,dh4,ff8⟩:=blk3_ gd)|((with_reducible refine gate_store (t:=26) (p:=57) rfl ?_);refine store_event (t:=26) (p:=57) (v:=?vo_w64) (w1:=(w61.setCell ⟨cj,2,none⟩ (.slice bc1 m5.length bj1))) ?hg ?ho ?hn ?hr ?_;(case ho=>rfl);(case hg=>rfl);(case hn=>rfl);(case hr=>first|(go_simp;done)|(go_simp;rfl)|(obtain⟨_,_,e0_⟩:=Kd.R_slice nk.out;rw[e0_];first|(go_simp;done)|(go_simp;rfl)));intro w64 hw;replace qh:Jc (Kd.R (Kd.int .i64) 3 w64 w.heap.size (fun _=>True) (.slice bp fr.length bn) fr):=⟨(by rw[hw];exact(ra_ qh))⟩;replace o6:Jc (Kd.S (Kd.slice 3 (Kd.int .i64)) 22 w64 w.heap.size (fun k_=>some k_≠(.slice bp fr.length bn:Value).ownBlock) (.slice d4 gr.length dx) gr):=⟨(by rw[hw];exact(sa_ o6))⟩;replace an2:Jc (Kd.Q k25 25 w64 w.heap.size (fun k_=>some k_≠(.slice bp fr.length bn:Value).ownBlock/\some k_≠(.slice d4 gr.length dx:Value).ownBlock/\k_≠ca) (.slice bc1 m5.length bj1) m5):=⟨(by rw[hw];exact(qa_ an2))⟩;replace ex:Jc (hc_ w64 ik #[.slice af ab.length ac, .slice ah aa.length ag, .slice av aj.length au] 28):=⟨(by rw[hw];exact(ba_ ex))⟩;replace gn:Jc (hc_ w64 i2 #[.int .i64 aq, .int .i64 am, .int .i64 an, .int .i64 ao] 69):=⟨(by rw[hw];exact(ba_ gn))⟩;replace fg:Jc (hc_ w64 dy #[.slice none 0 0, .slice none 0 0, .slice none 0 0] 28):=⟨(by rw[hw];exact(ba_ fg))⟩;replace gd:Jc (hc_ w64 cj #[.slice f5 gh.length f6, .slice iv hf.length iw, .slice bc1 m5.length bj1] 28):=⟨(by rw[hw];exact(ba_ gd))⟩;replace ct:Jc (hc_ w64 ca #[.slice bp fr.length bn, .slice d4 gr.length dx] 25):=⟨(by rw[hw];exact(ba_ ct))⟩;replace HB:Jc (Below w.heap.size w w64):=⟨(by rw[hw];exact(k0))⟩;clear hw;obtain⟨iu1,iu2,ny5,iu3,iu4,ny6⟩:=blk3_ gd;have q66:(1:Int)<=((m5.length:Int):Int):=od_;obtain⟨i066,iu5,_,hsz66,_⟩:=info_parts info25;have hcut66:=cut_from (P:=Try.prog) 26 25 .i64 Try.underlying26 iu5 2 hsz66 bc1 m5.length bj1 1 (by omega) q66;have eh5:=Kd.Q_drop (k:=(1:Int).toNat) an2.out (by omega);obtain⟨A66,hA66⟩:∃A1,A1=(if bj1=(1:Int).toNat then bc1 else(bc1:Option Addr).map (·.add ((1:Int).toNat * 2))):=⟨_,rfl⟩;obtain⟨c66,gq4⟩:∃c1,c1=bj1 - (1:Int).toNat:=⟨_,rfl⟩;have hy66:at1.length=m5.length - (1:Int).toNat:=(by rw[is4.out,List.length_drop]);rw[<- is4.out] at eh5;rw[<- hy66, <- hA66, <- gq4] at hcut66;replace eh5:Kd.Q k25 25 w64 w.heap.size (fun k_=>some k_≠(.slice bp fr.length bn:Value).ownBlock/\some k_≠(.slice d4 gr.length dx:Value).ownBlock/\k_≠ca) (.slice A66 at1.length c66) at1:=(by rw[hA66,gq4,hy66];exact eh5);have HE66:Jc ((Value.slice A66 at1.length c66).ownBlock=(.slice bc1 m5.length bj1:Value).ownBlock):=⟨by rw[hA66];split <;> (cases(bc1:Option Addr) <;> rfl)⟩;clear hy66 iu5 hsz66 an2 hA66 gq4;have dg3:=A_ eh5;clear eh5;replace q66:=eq_true q66;obtain⟨lg3,lg4,lg5,lg6⟩:=blk2_ ct;obtain⟨gn9,go0,go1,go2,go3,go4⟩:=blk3_ fg))
  refine bodyPost_ret (Jy rfl _ _ dy 28 #[.slice bp fr.length bn, .slice d4 gr.length dx, .slice A66 at1.length c66] (0,0) _ rfl (ba_ fg) Try.underlying28 rfl (g1_)) rfl ?_
  exact⟨_,_,_,g4_,ra_ qh,sa_ o6,qa_ dg3,k0⟩
 rw[if_neg zc] at H
 have ie0:=decide_eq_false zc
 have lf7:decide (8 < m5.length)=false:=decide_eq_false (by omega)
 clear zc
 simp only[Option.some.injEq,Prod.mk.injEq] at H
 obtain⟨rfl,rfl,rfl,rfl⟩:=H
 have eh6:=bi9.out
 have eh7:=bj0.out
 have go6:=br2.out
 have go8:=br3.out
 have io0:=ac3.out
 have io1:=ce4.out
 obtain⟨iu6,iu7,ny7,iu8,iu9,ny8⟩:=blk3_ ex
 have iv0:=ce2.out
 have iv1:=ce3.out
 have fe0:=zk.out
 have fe1:=br4.out
 obtain⟨iv2,iv3,iv4,iv5,iv6,iv7,iv8,iv9⟩:=blk4_ gn
 go_wp2_with (first|((with_reducible refine gc_ 101 ?_);refine gl_ 45 Try.func101 #[.agg #[.slice af ab.length ac, .slice ah aa.length ag], .agg #[.int .i64 aq, .int .i64 am, .int .i64 an, .int .i64 ao]] ?_;(refine(Fr.calls kj5 _ _ ab _ _ aa aq am an ao fr gr true _ (uC_ bg) bw.out (uC_ bd) b4.out A37.out).mono ?_);rintro e w76 ⟨it5,it6,rfl,ai,ak,hb⟩;refine⟨_,rfl,?_⟩;replace kz:=A_ (Kd.Q_mono (Kd.Q_told (Kd.Q_told (Kd.Q_old (uQ_ kz) hb) (Kd.R_base ai)) (Kd.S_base ak)) (fun _ h_=>h_.1));have qh:=A_ (Kd.R_lower (Kd.R_new' ai (Kd.R_lt (uR_ nk))) (Je (k0)));have o6:=A_ (Kd.S_lower (Kd.S_new' (Kd.S_new' ak (Kd.R_lt (uR_ nk))) (Kd.S_lt (uS_ qq))) (Je (k0)));replace nk:=A_ (Kd.R_elder' (uR_ nk) (Kd.R_base ai) hb);replace qq:=A_ (Kd.S_mono (Kd.S_told (Kd.S_told (Kd.S_old (uS_ qq) hb) (Kd.R_base ai)) (Kd.S_base ak)) (fun _ h_=>h_.1));replace ex:=bb_ ex hb;replace gn:=bb_ gn hb;replace fg:=bb_ fg hb;replace gd:=bb_ gd hb;replace HB:=hs_ (k0) hb)|((with_reducible refine gd_ 8 ?_);(try(refine gate_guard (by rfl) ?_;dsimp only));refine bx_ (N:=8) #[.slice none 0 0, .slice none 0 0] 25 ?_;intro ca hg w77 hbox hb;replace nk:=rb_ nk hb;replace qq:=sb_ qq hb;replace kz:=A_ (Kd.Q_below (Kd.Q_elderB (uQ_ kz) ca (Nat.le_of_eq hg.symm)) hb);replace qh:=rb_ qh hb;replace o6:=sb_ o6 hb;have ct:=A_ (hbox);have gm7:=A_ ((g15_:w.heap.size<=ca));have eg1:=gm7;replace HB:=hs_ (k0) hb;have br5:=nl_ ex hg;have eh1:=nr_ ex hg;replace ex:=bb_ ex hb;have br6:=nl_ gn hg;have eh2:=nr_ gn hg;replace gn:=bb_ gn hb;have bc0:=nl_ fg hg;have eh3:=nr_ fg hg;replace fg:=bb_ fg hb;have br7:=nl_ gd hg;have dg9:=nr_ gd hg;replace gd:=bb_ gd hb;clear hb hbox hg;obtain⟨pn,po,lg7⟩:=Kd.R_slice qh.out;subst lg7;have io6:=eh1.out;have io7:=br5.out;have io8:=eh2.out;have io9:=br6.out;have lg8:=eh3.out;have lg9:=bc0.out;have ip0:=dg9.out;have ip1:=br7.out;obtain⟨ny9,nz0,nz1,nz2⟩:=blk2_ ct;obtain⟨sb,sc,lh0⟩:=Kd.S_slice o6.out;subst lh0)|((with_reducible refine gate_store (t:=25) (p:=8) rfl ?_);refine store_event (t:=25) (p:=8) (v:=?vo_w85) (w1:=((w77.setCell ⟨ca,0,none⟩ (.slice pn fr.length po)).setCell ⟨ca,1,none⟩ (.slice sb gr.length sc))) ?hg ?ho ?hn ?hr ?_;(case ho=>rfl);(case hg=>rfl);(case hn=>rfl);(case hr=>first|(go_simp;done)|(go_simp;rfl)|(obtain⟨_,_,e0_⟩:=Kd.R_slice nk.out;rw[e0_];first|(go_simp;done)|(go_simp;rfl)));intro w85 hw;replace nk:Jc (Kd.R (Kd.int .i64) 3 w85 w.heap.size (fun k_=>some k_≠(.slice pn fr.length po:Value).ownBlock) (.slice f5 gh.length f6) gh):=⟨(by rw[hw];exact(ra_ nk))⟩;replace qq:Jc (Kd.S (Kd.slice 3 (Kd.int .i64)) 22 w85 w.heap.size (fun k_=>some k_≠(.slice f5 gh.length f6:Value).ownBlock/\some k_≠(.slice pn fr.length po:Value).ownBlock/\some k_≠(.slice sb gr.length sc:Value).ownBlock) (.slice iv hf.length iw) hf):=⟨(by rw[hw];exact(sa_ qq))⟩;replace kz:Jc (Kd.Q k25 25 w85 w.heap.size (fun k_=>some k_≠(.slice f5 gh.length f6:Value).ownBlock/\some k_≠(.slice iv hf.length iw:Value).ownBlock/\some k_≠(.slice pn fr.length po:Value).ownBlock/\some k_≠(.slice sb gr.length sc:Value).ownBlock/\k_≠ca) (.slice ku er.length f7) er):=⟨(by rw[hw];exact(qa_ kz))⟩;replace qh:Jc (Kd.R (Kd.int .i64) 3 w85 w.heap.size (fun k_=>some k_≠(.slice f5 gh.length f6:Value).ownBlock) (.slice pn fr.length po) fr):=⟨(by rw[hw];exact(ra_ qh))⟩;replace o6:Jc (Kd.S (Kd.slice 3 (Kd.int .i64)) 22 w85 w.heap.size (fun k_=>some k_≠(.slice f5 gh.length f6:Value).ownBlock/\some k_≠(.slice iv hf.length iw:Value).ownBlock/\some k_≠(.slice pn fr.length po:Value).ownBlock) (.slice sb gr.length sc) gr):=⟨(by rw[hw];exact(sa_ o6))⟩;replace ex:Jc (hc_ w85 ik #[.slice af ab.length ac, .slice ah aa.length ag, .slice av aj.length au] 28):=⟨(by rw[hw];exact(ba_ ex))⟩;replace gn:Jc (hc_ w85 i2 #[.int .i64 aq, .int .i64 am, .int .i64 an, .int .i64 ao] 69):=⟨(by rw[hw];exact(ba_ gn))⟩;replace fg:Jc (hc_ w85 dy #[.slice none 0 0, .slice none 0 0, .slice none 0 0] 28):=⟨(by rw[hw];exact(ba_ fg))⟩;replace gd:Jc (hc_ w85 cj #[.slice f5 gh.length f6, .slice iv hf.length iw, .slice ku er.length f7] 28):=⟨(by rw[hw];exact(ba_ gd))⟩;replace ct:Jc (hc_ w85 ca #[.slice pn fr.length po, .slice sb gr.length sc] 25):=⟨(by rw[hw];exact(ba_ ct))⟩;replace HB:Jc (Below w.heap.size w w85):=⟨(by rw[hw];exact(k0))⟩;clear hw;have lh1:=ct5.out;have lh2:=tu.out;obtain⟨lh3,lh4,nz3,lh5,lh6,nz4⟩:=blk3_ gd)|((with_reducible refine gate_builtin (b:=.append) (xs:=#[.tmp 52, .tmp 55]) rfl ?_);(try(refine gate_guard (by rfl) ?_;dsimp only));at_builtin;refine Kd.Q_append k25 (w0:=w) w.heap.size rfl (.tmp 52) (.tmp 55) 26 25 (.agg #[(.slice none 0 0),(.slice none 0 0)]) 48 rfl Try.underlying26 info25 rfl (by decide) (by omega) (.slice ku er.length f7) er (⟨gh,hf⟩:S25) [.slice f5 gh.length f6, .slice iv hf.length iw] (fun k_=>some k_≠(.slice pn fr.length po:Value).ownBlock/\some k_≠(.slice sb gr.length sc:Value).ownBlock/\k_≠ca) (fun k_=>((fun k_=>some k_≠(.slice pn fr.length po:Value).ownBlock/\some k_≠(.slice sb gr.length sc:Value).ownBlock/\k_≠ca)) k_/\some k_≠(.slice ku er.length f7:Value).ownBlock) rfl rfl ?aP (fun _ hk=>hk) ?aF ?aO ?aB ?aS ?aL ?_;(case aP=>exact k25_mkM _ _ _ (⟨gh,hf⟩:S25) (Kd.R_mono (Kd.R_types (Kd.R_apart' (Kd.R_apart' (nk.out) (Kd.S_typed o6.out) (by decide)) (Kd.Q_typed kz.out) (by decide)) ct.out (by decide)) (fun k_ hk=>⟨⟨hk.1.1.1,⟨hk.1.1.2,hk.2⟩⟩,hk.1.2⟩)) (Kd.R_mono (Kd.R_types (Kd.R_apart' ((Kd.S_R qq.out)) (Kd.Q_typed kz.out) (by decide)) ct.out (by decide)) (fun k_ hk=>⟨⟨hk.1.1.2.1,⟨hk.1.1.2.2,hk.2⟩⟩,hk.1.2⟩)));(case aB=>exact(k0));(case aF=>exact(fun k_ hk=>⟨Kd.fresh' (Kd.R_lt (uR_ qh)) k_ hk,Kd.fresh' (Kd.S_lt (uS_ o6)) k_ hk,Kd.freshB (g:=ca) (o:=.cells #[.slice pn fr.length po, .slice sb gr.length sc] 25 (0,0)) (uB_ ct) k_ hk⟩));(case aO=>exact(yQ_ kz (fun _ hk=>⟨hk.2.2.1,⟨hk.2.2.2.1,hk.2.2.2.2⟩⟩)));(case aS=>exact(Je (k0)));(case aL=>have:=is2.out;omega);intro il7 w88 ho hb hg hat;rw[<- is3.out] at ho;replace ex:=(bg_ ex hg (Kd.Q_ne kz.out ex.out (by decide)));replace gn:=(bg_ gn hg (Kd.Q_ne kz.out gn.out (by decide)));replace fg:=(bg_ fg hg (Kd.Q_ne kz.out fg.out (by decide)));replace gd:=(bg_ gd hg (Kd.Q_ne kz.out gd.out (by decide)));replace qh:=A_ (Kd.R_over' (uR_ qh) (Kd.Q_typed (uQ_ kz)) (by decide) hg);replace o6:=A_ (Kd.S_over' (uS_ o6) (Kd.Q_typed (uQ_ kz)) (by decide) hg);replace ct:=(bg_ ct hg (Kd.Q_away kz.out (fun _ hk=>hk.2.2.2.2)));replace HB:=A_ (hb);have an2:=A_ (ho);clear kz nk qq;clear ho hb hg hat;obtain⟨zl,zm,ff9,_⟩:=Kd.Q_slice an2.out;subst ff9;obtain⟨nz5,nz6,nz7,nz8,nz9,oa0⟩:=blk3_ gd;obtain⟨oa1,oa2,oa3,oa4⟩:=blk2_ ct;obtain⟨iw0,iw1,oa5,iw2,iw3,oa6⟩:=blk3_ fg))
 refine bodyPost_ret (Jy rfl _ _ dy 28 #[.slice pn fr.length po, .slice sb gr.length sc, .slice zl m5.length zm] (0,0) _ rfl (ba_ fg) Try.underlying28 rfl (g1_)) rfl ?_
 exact⟨_,_,_,g4_,ra_ qh,sa_ o6,qa_ an2,k0⟩
set_option maxHeartbeats 8000000 in
set_option maxRecDepth 100000 in
theorem G1.back (k:Nat) (af:Option Addr) (ac:Nat) (ab:List Int) (ah:Option Addr) (ag:Nat) (aa:List (List Int)) (av:Option Addr) (au:Nat) (aj:List (S25)) (w:World) (cb:Kd.C (Kd.int .i64) w af ab.length ab) (cg:ab.length<=ac) (cc:Kd.C (Kd.slice 3 (Kd.int .i64)) w ah aa.length aa) (ch:aa.length<=ag) (h9:Kd.C k25 w av aj.length aj) (ia:aj.length<=au) (gh:List Int) (hf:List (List Int)) (er:List S25) (n:Nat) (hd:Fv.f k ab aa aj=some true) (hcp:Fn.f k ab aa aj=some (gh,hf,er)) (hn:er.length=n + 1) (hmx:n < 2932031007402) (hp:0 < aj.length) :
  Calls Try.prog 54 #[.agg #[.slice af ab.length ac, .slice ah aa.length ag, .slice av aj.length au], .agg #[.int .i64 4, .int .i64 0, .int .i64 0, .int .i64 0]] w fun e w'=>∃v0_ v1_ v2_:Value,e = .returned (.tuple #[.agg #[v0_,v1_,v2_], .bool true])/\Kd.R (Kd.int .i64) 3 w' w.heap.size (fun _=>True) v0_ (Js er (n:Int)).f0/\Kd.S (Kd.slice 3 (Kd.int .i64)) 22 w' w.heap.size (fun k_=>some k_≠(v0_:Value).ownBlock) v1_ (Js er (n:Int)).f1/\Kd.Q k25 25 w' w.heap.size (fun k_=>some k_≠(v0_:Value).ownBlock/\some k_≠(v1_:Value).ownBlock) v2_ (er.take n)/\Below w.heap.size w w':=by
 have hu28:=Try.underlying28
 have hu69:=Try.underlying69
 have hu25:=Try.underlying25
 have bg:=A_ cb
 have bw:=A_ cg
 have bd:=A_ cc
 have b4:=A_ ch
 have gg:=A_ h9
 have g3:=A_ ia
 have HB:=A_ (Below.refl w.heap.size w)
 have A3:=A_ hd
 have A5:=A_ hcp
 have HN:=A_ hn
 have hp1:decide ((aj.length:Int) > 0)=true:=decide_eq_true (by omega)
 have hp2:wrap64 ((er.length:Int) - 1)=(n:Int):=by rw[show((er.length:Int) - 1)=(n:Int) by omega];unfold wrap64;omega
 have hp3:(0<=(n:Int))=True:=eq_true (by omega)
 have hp4:((n:Int) < (er.length:Int))=True:=eq_true (by omega)
 have hp6:((n:Int) < (n:Int) + 1)=True:=eq_true (by omega)
 have hp7:((n:Int) < ((n + 1:Nat):Int))=True:=eq_true (by omega)
 have hp5:((n:Int)).toNat=n:=Int.toNat_natCast n
 clear cb cg cc ch h9 ia hd hcp hn
 go_enter Try.func54,Try.ntmps54
 go_upto_region 4 with(first|((with_reducible refine gd_ 2 ?_);(try(refine gate_guard (by rfl) ?_;dsimp only));refine box_event ?hg (N:=2) ?hd (cs:=#[.slice af ab.length ac, .slice ah aa.length ag, .slice av aj.length au]) (t:=28) ?hr ?_;(case hd=>rfl);(case hg=>rfl);(case hr=>first|(go_simp;done)|(go_simp;rfl));intro ik hg w7 hbox hb;have n0_:=hs_ (g13_) hb;have n1_:=A_ (hbox);have n2_:=A_ ((by rw[hg];exact(Je (g13_)):w.heap.size<=ik));have n3_:=n2_;clear HB;have HB:=n0_;have ex:=n1_;have ir6:=n2_;have dg8:=n3_;clear n0_ n1_ n2_ n3_;clear hb hbox hg)|((with_reducible refine gd_ 3 ?_);(try(refine gate_guard (by rfl) ?_;dsimp only));refine box_event ?hg (N:=3) ?hd (cs:=#[.int .i64 4, .int .i64 0, .int .i64 0, .int .i64 0]) (t:=69) ?hr ?_;(case hd=>rfl);(case hg=>rfl);(case hr=>first|(go_simp;done)|(go_simp;rfl));intro i2 hg w8 hbox hb;have n0_:=A_ (Jp (g:=ik) (o:=.cells #[.slice af ab.length ac, .slice ah aa.length ag, .slice av aj.length au] 28 (0,0)) (g33_) hb);have n1_:=hs_ (g207_) hb;have n2_:=A_ (hbox);have n3_:=A_ ((by rw[hg];exact(Je (g207_)):w.heap.size<=i2));have n4_:=n3_;have n5_:=A_ ((by rw[hg];exact Nat.ne_of_lt (blk_lt (g:=ik) (o:=.cells #[.slice af ab.length ac, .slice ah aa.length ag, .slice av aj.length au] 28 (0,0)) (by(with_reducible repeat(first|refine Jm ?_ _|refine Jn ?_|refine Jl ?_ _));exact ex.out)):ik≠i2));have n6_:=A_ ((by rw[hg];exact Nat.ne_of_gt (blk_lt (g:=ik) (o:=.cells #[.slice af ab.length ac, .slice ah aa.length ag, .slice av aj.length au] 28 (0,0)) (by(with_reducible repeat(first|refine Jm ?_ _|refine Jn ?_|refine Jl ?_ _));exact ex.out)):i2≠ik));clear ex;clear HB;have ex:=n0_;have HB:=n1_;have gn:=n2_;have ir7:=n3_;have eh0:=n4_;have bi9:=n5_;have bj0:=n6_;clear n0_ n1_ n2_ n3_ n4_ n5_ n6_;clear hb hbox hg)|((with_reducible refine gd_ 4 ?_);(try(refine gate_guard (by rfl) ?_;dsimp only));refine box_event ?hg (N:=4) ?hd (cs:=#[.slice none 0 0, .slice none 0 0, .slice none 0 0]) (t:=28) ?hr ?_;(case hd=>rfl);(case hg=>rfl);(case hr=>first|(go_simp;done)|(go_simp;rfl));intro dy hg w9 hbox hb;have n0_:=A_ (Jp (g:=ik) (o:=.cells #[.slice af ab.length ac, .slice ah aa.length ag, .slice av aj.length au] 28 (0,0)) (g33_) hb);have n1_:=A_ (Jp (g:=i2) (o:=.cells #[.int .i64 4, .int .i64 0, .int .i64 0, .int .i64 0] 69 (0,0)) (g46_) hb);have n2_:=hs_ (g210_) hb;have n3_:=A_ (hbox);have n4_:=A_ ((by rw[hg];exact(Je (g210_)):w.heap.size<=dy));have n5_:=n4_;have n6_:=A_ ((by rw[hg];exact Nat.ne_of_lt (blk_lt (g:=ik) (o:=.cells #[.slice af ab.length ac, .slice ah aa.length ag, .slice av aj.length au] 28 (0,0)) (by(with_reducible repeat(first|refine Jm ?_ _|refine Jn ?_|refine Jl ?_ _));exact ex.out)):ik≠dy));have n7_:=A_ ((by rw[hg];exact Nat.ne_of_gt (blk_lt (g:=ik) (o:=.cells #[.slice af ab.length ac, .slice ah aa.length ag, .slice av aj.length au] 28 (0,0)) (by(with_reducible repeat(first|refine Jm ?_ _|refine Jn ?_|refine Jl ?_ _));exact ex.out)):dy≠ik));have n8_:=A_ ((by rw[hg];exact Nat.ne_of_lt (blk_lt (g:=i2) (o:=.cells #[.int .i64 4, .int .i64 0, .int .i64 0, .int .i64 0] 69 (0,0)) (g46_)):i2≠dy));have n9_:=A_ ((by rw[hg];exact Nat.ne_of_gt (blk_lt (g:=i2) (o:=.cells #[.int .i64 4, .int .i64 0, .int .i64 0, .int .i64 0] 69 (0,0)) (g46_)):dy≠i2));clear ex;clear gn;clear HB;have ex:=n0_;have gn:=n1_;have HB:=n2_;have fg:=n3_;have ir8:=n4_;have ct2:=n5_;have br2:=n6_;have br3:=n7_;have ce2:=n8_;have ce3:=n9_;clear n0_ n1_ n2_ n3_ n4_ n5_ n6_ n7_ n8_ n9_;clear hb hbox hg;have ct3:=bi9.out;have ct4:=bj0.out;have bg8:=br2.out;have bg9:=br3.out;have vu:w9.cell? ⟨ik,0,none⟩=some (.slice af ab.length ac):=(Jd ex.out 0).trans rfl;have vv:w9.cell? ⟨ik,1,none⟩=some (.slice ah aa.length ag):=(Jd ex.out 1).trans rfl;have bb6:w9.cell? ⟨ik,2,none⟩=some (.slice av aj.length au):=(Jd ex.out 2).trans rfl;have vw:=Jo ex.out 0;have vx:=Jo ex.out 1;have bb7:=Jo ex.out 2)|((with_reducible refine gc_ 28 ?_);refine goesL_ (some 11) rfl rfl Try.func28 (g1_) rfl #[.agg #[.slice af ab.length ac, .slice ah aa.length ag, .slice av aj.length au]] rfl (gM_) ?_;(refine(Fv.calls k _ _ ab _ _ aa _ _ aj true _ (cu_ (Kd.C_below bg.out HB.out)) bw.out (cu_ (Kd.C_below bd.out HB.out)) b4.out (cu_ (Kd.C_below gg.out HB.out)) g3.out A3.out).mono ?_);rintro e km ⟨rfl,hb⟩;refine⟨_,rfl,?_⟩;have n0_:=A_ (Jp (g:=ik) (o:=.cells #[.slice af ab.length ac, .slice ah aa.length ag, .slice av aj.length au] 28 (0,0)) (g33_) hb);have n1_:=A_ (Jp (g:=i2) (o:=.cells #[.int .i64 4, .int .i64 0, .int .i64 0, .int .i64 0] 69 (0,0)) (g46_) hb);have n2_:=A_ (Jp (g:=dy) (o:=.cells #[.slice none 0 0, .slice none 0 0, .slice none 0 0] 28 (0,0)) (g93_) hb);have n3_:=hs_ (g47_) hb;clear ex;clear gn;clear fg;clear HB;have ex:=n0_;have gn:=n1_;have fg:=n2_;have HB:=n3_;clear n0_ n1_ n2_ n3_;have um:km.cell? ⟨ik,0,none⟩=some (.slice af ab.length ac):=(Jd ex.out 0).trans rfl;have un:km.cell? ⟨ik,1,none⟩=some (.slice ah aa.length ag):=(Jd ex.out 1).trans rfl;have da6:km.cell? ⟨ik,2,none⟩=some (.slice av aj.length au):=(Jd ex.out 2).trans rfl;have uo:=Jo ex.out 0;have uq:=Jo ex.out 1;have da7:=Jo ex.out 2)|((with_reducible refine gc_ 100 ?_);refine goesL_ (some 15) rfl rfl Try.func100 (g1_) rfl #[.agg #[.slice af ab.length ac, .slice ah aa.length ag, .slice av aj.length au]] rfl (gM_) ?_;(refine(Fn.calls_s k _ _ ab _ _ aa _ _ aj gh hf er _ (cu_ (Kd.C_below bg.out HB.out)) bw.out (cu_ (Kd.C_below bd.out HB.out)) b4.out (cu_ (Kd.C_below gg.out HB.out)) g3.out A5.out).mono ?_);rintro e rq ⟨lf0,lf1,lf2,rfl,ai,ak,aw,hb⟩;refine⟨_,rfl,?_⟩;have n0_:=A_ (Kd.R_lower ai (Je (g47_)));have n1_:=A_ (Kd.S_lower ak (Je (g47_)));have n2_:=A_ (Kd.S_lower aw (Je (g47_)));have n3_:=A_ (Jp (g:=ik) (o:=.cells #[.slice af ab.length ac, .slice ah aa.length ag, .slice av aj.length au] 28 (0,0)) (g33_) hb);have n4_:=A_ (Jp (g:=i2) (o:=.cells #[.int .i64 4, .int .i64 0, .int .i64 0, .int .i64 0] 69 (0,0)) (g46_) hb);have n5_:=A_ (Jp (g:=dy) (o:=.cells #[.slice none 0 0, .slice none 0 0, .slice none 0 0] 28 (0,0)) (g93_) hb);have n6_:=hs_ (g47_) hb;clear ex;clear gn;clear fg;clear HB;have bb8:=n0_;have bb9:=n1_;have an3:=n2_;have ex:=n3_;have gn:=n4_;have fg:=n5_;have HB:=n6_;clear n0_ n1_ n2_ n3_ n4_ n5_ n6_)|((with_reducible refine gd_ 6 ?_);(try(refine gate_guard (by rfl) ?_;dsimp only));refine box_event ?hg (N:=6) ?hd (cs:=#[.slice none 0 0, .slice none 0 0, .slice none 0 0]) (t:=28) ?hr ?_;(case hd=>rfl);(case hg=>rfl);(case hr=>first|(go_simp;done)|(go_simp;rfl));intro cj hg pw hbox hb;have n0_:=A_ (Kd.R_below (by(with_reducible repeat(first|apply Kd.R_alloc|apply Kd.R_drewN|apply Kd.R_drew));exact bb8.out) hb);have n1_:=A_ (Kd.S_below (by(with_reducible repeat(first|apply Kd.S_alloc|apply Kd.S_drewN|apply Kd.S_drew));exact bb9.out) hb);have n2_:=A_ (Kd.S_below (by(with_reducible repeat(first|apply Kd.S_alloc|apply Kd.S_drewN|apply Kd.S_drew));exact an3.out) hb);have n3_:=A_ (Jp (g:=ik) (o:=.cells #[.slice af ab.length ac, .slice ah aa.length ag, .slice av aj.length au] 28 (0,0)) (g33_) hb);have n4_:=A_ (Jp (g:=i2) (o:=.cells #[.int .i64 4, .int .i64 0, .int .i64 0, .int .i64 0] 69 (0,0)) (g46_) hb);have n5_:=A_ (Jp (g:=dy) (o:=.cells #[.slice none 0 0, .slice none 0 0, .slice none 0 0] 28 (0,0)) (g93_) hb);have n6_:=hs_ (g47_) hb;have n7_:=A_ (hbox);have n8_:=A_ ((by rw[hg];exact(Je (g47_)):w.heap.size<=cj));have n9_:=n8_;have n10_:=A_ ((by rw[hg];exact Nat.ne_of_lt (blk_lt (g:=ik) (o:=.cells #[.slice af ab.length ac, .slice ah aa.length ag, .slice av aj.length au] 28 (0,0)) (by(with_reducible repeat(first|refine Jm ?_ _|refine Jn ?_|refine Jl ?_ _));exact ex.out)):ik≠cj));have n11_:=A_ ((by rw[hg];exact Nat.ne_of_gt (blk_lt (g:=ik) (o:=.cells #[.slice af ab.length ac, .slice ah aa.length ag, .slice av aj.length au] 28 (0,0)) (by(with_reducible repeat(first|refine Jm ?_ _|refine Jn ?_|refine Jl ?_ _));exact ex.out)):cj≠ik));have n12_:=A_ ((by rw[hg];exact Nat.ne_of_lt (blk_lt (g:=i2) (o:=.cells #[.int .i64 4, .int .i64 0, .int .i64 0, .int .i64 0] 69 (0,0)) (g46_)):i2≠cj));have n13_:=A_ ((by rw[hg];exact Nat.ne_of_gt (blk_lt (g:=i2) (o:=.cells #[.int .i64 4, .int .i64 0, .int .i64 0, .int .i64 0] 69 (0,0)) (g46_)):cj≠i2));have n14_:=A_ ((by rw[hg];exact Nat.ne_of_lt (blk_lt (g:=dy) (o:=.cells #[.slice none 0 0, .slice none 0 0, .slice none 0 0] 28 (0,0)) (g93_)):dy≠cj));have n15_:=A_ ((by rw[hg];exact Nat.ne_of_gt (blk_lt (g:=dy) (o:=.cells #[.slice none 0 0, .slice none 0 0, .slice none 0 0] 28 (0,0)) (g93_)):cj≠dy));clear bb8;clear bb9;clear an3;clear ex;clear gn;clear fg;clear HB;have bb8:=n0_;have bb9:=n1_;have an3:=n2_;have ex:=n3_;have gn:=n4_;have fg:=n5_;have HB:=n6_;have gd:=n7_;have lf3:=n8_;have ce1:=n9_;have ac3:=n10_;have ce4:=n11_;have zk:=n12_;have br4:=n13_;have tu:=n14_;have ct5:=n15_;clear n0_ n1_ n2_ n3_ n4_ n5_ n6_ n7_ n8_ n9_ n10_ n11_ n12_ n13_ n14_ n15_;clear hb hbox hg;obtain⟨f5,f6,ay8⟩:=Kd.R_slice bb8.out;subst ay8;have ds7:=ce4.out;have ds8:=ac3.out;have bx0:=br4.out;have bx1:=zk.out;have dc8:=ct5.out;have dc9:=tu.out;have uh:pw.cell? ⟨cj,0,none⟩=some (.slice none 0 0):=(Jd gd.out 0).trans rfl;have ui:pw.cell? ⟨cj,1,none⟩=some (.slice none 0 0):=(Jd gd.out 1).trans rfl;have az4:pw.cell? ⟨cj,2,none⟩=some (.slice none 0 0):=(Jd gd.out 2).trans rfl;have uj:=Jo gd.out 0;have uk:=Jo gd.out 1;have az5:=Jo gd.out 2;obtain⟨iv,iw,ct6⟩:=Kd.S_slice bb9.out;subst ct6;obtain⟨ku,f7,cr4⟩:=Kd.S_slice an3.out;subst cr4;obtain⟨ga,u0,u1,eA,hx0,hx1,hl0,hl1,hl2,hg1,hg2⟩:=k25s_last (n:=n) HN.out an3.out;subst eA;have HL0:=A_ (Kd.R_types (Kd.R_types hl0 gd.out (by decide)) fg.out (by decide));have HL1:=A_ (Kd.S_types (Kd.S_types hl1 gd.out (by decide)) fg.out (by decide));have HL2:=A_ (Kd.Q_types (Kd.Q_types hl2 gd.out (by decide)) fg.out (by decide));clear hl0 hl1 hl2;have hge1:ga≠cj:=k25s_ne hg1 gd.out (by decide);have hge2:cj≠ga:=fun e_=>hge1 e_.symm;have hge3:ga≠dy:=k25s_ne hg1 fg.out (by decide);have hge4:dy≠ga:=fun e_=>hge3 e_.symm;obtain⟨B0,b0,eu0⟩:=Kd.R_slice HL0.out;subst eu0;obtain⟨B1,b1,eu1⟩:=Kd.S_slice HL1.out;subst eu1;have hn1:(er.length:Int)=(n:Int) + 1:=(by have:=HN.out;omega);have dh5:pw.cell? ⟨i2,0,none⟩=some (.int .i64 4):=(Jd gn.out 0).trans rfl;have dh6:pw.cell? ⟨i2,1,none⟩=some (.int .i64 0):=(Jd gn.out 1).trans rfl;have li8:pw.cell? ⟨i2,2,none⟩=some (.int .i64 0):=(Jd gn.out 2).trans rfl;have li9:pw.cell? ⟨i2,3,none⟩=some (.int .i64 0):=(Jd gn.out 3).trans rfl;have hcr_0:pw.cell? ⟨dy,0,none⟩=some (.slice none 0 0):=(Jd fg.out 0).trans rfl;have hcr_1:pw.cell? ⟨dy,1,none⟩=some (.slice none 0 0):=(Jd fg.out 1).trans rfl;have hcr_2:pw.cell? ⟨dy,2,none⟩=some (.slice none 0 0):=(Jd fg.out 2).trans rfl;have hfr_0:=Jo fg.out 0;have hfr_1:=Jo fg.out 1;have hfr_2:=Jo fg.out 2;have hcd_2:pw.cell? ⟨ik,2,none⟩=some (.slice av aj.length au):=(Jd ex.out 2).trans rfl;have hb1:=zk.out;have hb2:=br4.out;have hb3:=tu.out;have hb4:=ct5.out;have hb5:=ac3.out;have hb6:=ce4.out))
 (try simp only[Act.put,List.setIfInBounds_toArray,List.set_cons_zero,List.set_cons_succ])
 go_upto_region 7 with fail
 obtain⟨i0,hi0,_,hsz0,_⟩:=info_parts info25
 have hcut:=cut_to (P:=Try.prog) 26 25 .i64 Try.underlying26 hi0 (some ⟨ga,0,none⟩) (n + 1) f7 (n:Int) (by omega) (by omega) (by have:=(Kd.S_reads' an3.out).2.1;omega)
 rw[hp5] at hcut
 go_upto_region 8 with fail
 have n0_:Jc (Kd.R (Kd.int .i64) 3 ((((((pw.setCell ⟨cj,0,none⟩ (.slice f5 gh.length f6)).setCell ⟨cj,1,none⟩ (.slice iv hf.length iw)).setCell ⟨cj,2,none⟩ (.slice (some ⟨ga,0,none⟩) (n + 1) f7)).setCell ⟨cj,0,none⟩ (.slice B0 (Js er (n:Int)).f0.length b0)).setCell ⟨cj,1,none⟩ (.slice B1 (Js er (n:Int)).f1.length b1)).setCell ⟨cj,2,none⟩ (.slice (some ⟨ga,0,none⟩) n f7)) w.heap.size (fun k_=>(True/\k_≠cj)/\k_≠dy) (.slice B0 (Js er (n:Int)).f0.length b0) (Js er (n:Int)).f0):=A_ (by refine Kd.R_far ?_ (fun _ hk=>hk.1.2) _;refine Kd.R_far ?_ (fun _ hk=>hk.1.2) _;refine Kd.R_far ?_ (fun _ hk=>hk.1.2) _;refine Kd.R_far ?_ (fun _ hk=>hk.1.2) _;refine Kd.R_far ?_ (fun _ hk=>hk.1.2) _;refine Kd.R_far ?_ (fun _ hk=>hk.1.2) _;exact HL0.out)
 have n1_:Jc (Kd.S (Kd.slice 3 (Kd.int .i64)) 22 ((((((pw.setCell ⟨cj,0,none⟩ (.slice f5 gh.length f6)).setCell ⟨cj,1,none⟩ (.slice iv hf.length iw)).setCell ⟨cj,2,none⟩ (.slice (some ⟨ga,0,none⟩) (n + 1) f7)).setCell ⟨cj,0,none⟩ (.slice B0 (Js er (n:Int)).f0.length b0)).setCell ⟨cj,1,none⟩ (.slice B1 (Js er (n:Int)).f1.length b1)).setCell ⟨cj,2,none⟩ (.slice (some ⟨ga,0,none⟩) n f7)) w.heap.size (fun k_=>(some k_≠(.slice B0 (Js er (n:Int)).f0.length b0:Value).ownBlock/\k_≠cj)/\k_≠dy) (.slice B1 (Js er (n:Int)).f1.length b1) (Js er (n:Int)).f1):=A_ (by refine Kd.S_far ?_ (fun _ hk=>hk.1.2) _;refine Kd.S_far ?_ (fun _ hk=>hk.1.2) _;refine Kd.S_far ?_ (fun _ hk=>hk.1.2) _;refine Kd.S_far ?_ (fun _ hk=>hk.1.2) _;refine Kd.S_far ?_ (fun _ hk=>hk.1.2) _;refine Kd.S_far ?_ (fun _ hk=>hk.1.2) _;exact HL1.out)
 have n2_:Jc (Kd.Q k25 25 ((((((pw.setCell ⟨cj,0,none⟩ (.slice f5 gh.length f6)).setCell ⟨cj,1,none⟩ (.slice iv hf.length iw)).setCell ⟨cj,2,none⟩ (.slice (some ⟨ga,0,none⟩) (n + 1) f7)).setCell ⟨cj,0,none⟩ (.slice B0 (Js er (n:Int)).f0.length b0)).setCell ⟨cj,1,none⟩ (.slice B1 (Js er (n:Int)).f1.length b1)).setCell ⟨cj,2,none⟩ (.slice (some ⟨ga,0,none⟩) n f7)) w.heap.size (fun k_=>((some k_≠(.slice B0 (Js er (n:Int)).f0.length b0:Value).ownBlock/\some k_≠(.slice B1 (Js er (n:Int)).f1.length b1:Value).ownBlock)/\k_≠cj)/\k_≠dy) (.slice (some ⟨ga,0,none⟩) n f7) (er.take n)):=A_ (by refine Kd.Q_far ?_ (fun _ hk=>hk.1.2) _;refine Kd.Q_far ?_ (fun _ hk=>hk.1.2) _;refine Kd.Q_far ?_ (fun _ hk=>hk.1.2) _;refine Kd.Q_far ?_ (fun _ hk=>hk.1.2) _;refine Kd.Q_far ?_ (fun _ hk=>hk.1.2) _;refine Kd.Q_far ?_ (fun _ hk=>hk.1.2) _;exact HL2.out)
 have n3_:Jc (((((((pw.setCell ⟨cj,0,none⟩ (.slice f5 gh.length f6)).setCell ⟨cj,1,none⟩ (.slice iv hf.length iw)).setCell ⟨cj,2,none⟩ (.slice (some ⟨ga,0,none⟩) (n + 1) f7)).setCell ⟨cj,0,none⟩ (.slice B0 (Js er (n:Int)).f0.length b0)).setCell ⟨cj,1,none⟩ (.slice B1 (Js er (n:Int)).f1.length b1)).setCell ⟨cj,2,none⟩ (.slice (some ⟨ga,0,none⟩) n f7)).heap[cj]? = some (.cells #[.slice B0 (Js er (n:Int)).f0.length b0, .slice B1 (Js er (n:Int)).f1.length b1, .slice (some ⟨ga,0,none⟩) n f7] 28 (0,0))):=A_ (ba_ gd)
 have n4_:Jc (((((((pw.setCell ⟨cj,0,none⟩ (.slice f5 gh.length f6)).setCell ⟨cj,1,none⟩ (.slice iv hf.length iw)).setCell ⟨cj,2,none⟩ (.slice (some ⟨ga,0,none⟩) (n + 1) f7)).setCell ⟨cj,0,none⟩ (.slice B0 (Js er (n:Int)).f0.length b0)).setCell ⟨cj,1,none⟩ (.slice B1 (Js er (n:Int)).f1.length b1)).setCell ⟨cj,2,none⟩ (.slice (some ⟨ga,0,none⟩) n f7)).heap[dy]? = some (.cells #[.slice none 0 0, .slice none 0 0, .slice none 0 0] 28 (0,0))):=A_ (ba_ fg)
 have n5_:Jc (Below w.heap.size w ((((((pw.setCell ⟨cj,0,none⟩ (.slice f5 gh.length f6)).setCell ⟨cj,1,none⟩ (.slice iv hf.length iw)).setCell ⟨cj,2,none⟩ (.slice (some ⟨ga,0,none⟩) (n + 1) f7)).setCell ⟨cj,0,none⟩ (.slice B0 (Js er (n:Int)).f0.length b0)).setCell ⟨cj,1,none⟩ (.slice B1 (Js er (n:Int)).f1.length b1)).setCell ⟨cj,2,none⟩ (.slice (some ⟨ga,0,none⟩) n f7))):=A_ (by refine Jh ?_ ce1.out;refine Jh ?_ ce1.out;refine Jh ?_ ce1.out;refine Jh ?_ ce1.out;refine Jh ?_ ce1.out;refine Jh ?_ ce1.out;exact HB.out)
 clear HL0 HL1 HL2 gd fg HB ex gn bb8 bb9 an3 hx0 hx1 hcut
 clear dh5 dh6 li8 li9 hcr_0 hcr_1 hcr_2 hcd_2 hfr_0 hfr_1 hfr_2 hg1 hg2
 generalize ((((((pw.setCell ⟨cj,0,none⟩ (.slice f5 gh.length f6)).setCell ⟨cj,1,none⟩ (.slice iv hf.length iw)).setCell ⟨cj,2,none⟩ (.slice (some ⟨ga,0,none⟩) (n + 1) f7)).setCell ⟨cj,0,none⟩ (.slice B0 (Js er (n:Int)).f0.length b0)).setCell ⟨cj,1,none⟩ (.slice B1 (Js er (n:Int)).f1.length b1)).setCell ⟨cj,2,none⟩ (.slice (some ⟨ga,0,none⟩) n f7))=ug at n0_ n1_ n2_ n3_ n4_ n5_ |-
 have hcq_0:ug.cell? ⟨cj,0,none⟩=some (.slice B0 (Js er (n:Int)).f0.length b0):=(Jd n3_.out 0).trans rfl
 have hcq_1:ug.cell? ⟨cj,1,none⟩=some (.slice B1 (Js er (n:Int)).f1.length b1):=(Jd n3_.out 1).trans rfl
 have hcq_2:ug.cell? ⟨cj,2,none⟩=some (.slice (some ⟨ga,0,none⟩) n f7):=(Jd n3_.out 2).trans rfl
 have hcr_0:ug.cell? ⟨dy,0,none⟩=some (.slice none 0 0):=(Jd n4_.out 0).trans rfl
 have hcr_1:ug.cell? ⟨dy,1,none⟩=some (.slice none 0 0):=(Jd n4_.out 1).trans rfl
 have hcr_2:ug.cell? ⟨dy,2,none⟩=some (.slice none 0 0):=(Jd n4_.out 2).trans rfl
 have hfr_0:=Jo n4_.out 0
 have hfr_1:=Jo n4_.out 1
 have hfr_2:=Jo n4_.out 2
 go_wp2
 refine bodyPost_ret (Jy rfl _ _ dy 28 #[.slice B0 (Js er (n:Int)).f0.length b0, .slice B1 (Js er (n:Int)).f1.length b1, .slice (some ⟨ga,0,none⟩) n f7] (0,0) _ rfl (ba_ n4_) Try.underlying28 rfl (g1_)) rfl ?_
 exact⟨_,_,_,rfl,Kd.R_mono (Kd.R_far (p:=⟨dy,2,none⟩) (Kd.R_far (p:=⟨dy,1,none⟩) (Kd.R_far (p:=⟨dy,0,none⟩) n0_.out (fun _ hk=>hk.2) (.slice B0 (Js er (n:Int)).f0.length b0)) (fun _ hk=>hk.2) (.slice B1 (Js er (n:Int)).f1.length b1)) (fun _ hk=>hk.2) (.slice (some ⟨ga,0,none⟩) n f7)) (fun _ _=>trivial),Kd.S_mono (Kd.S_far (p:=⟨dy,2,none⟩) (Kd.S_far (p:=⟨dy,1,none⟩) (Kd.S_far (p:=⟨dy,0,none⟩) n1_.out (fun _ hk=>hk.2) (.slice B0 (Js er (n:Int)).f0.length b0)) (fun _ hk=>hk.2) (.slice B1 (Js er (n:Int)).f1.length b1)) (fun _ hk=>hk.2) (.slice (some ⟨ga,0,none⟩) n f7)) (fun _ hk=>hk.1.1),Kd.Q_mono (Kd.Q_far (p:=⟨dy,2,none⟩) (Kd.Q_far (p:=⟨dy,1,none⟩) (Kd.Q_far (p:=⟨dy,0,none⟩) n2_.out (fun _ hk=>hk.2) (.slice B0 (Js er (n:Int)).f0.length b0)) (fun _ hk=>hk.2) (.slice B1 (Js er (n:Int)).f1.length b1)) (fun _ hk=>hk.2) (.slice (some ⟨ga,0,none⟩) n f7)) (fun _ hk=>hk.1.1),by refine Jh ?_ ct2.out;refine Jh ?_ ct2.out;refine Jh ?_ ct2.out;exact n5_.out⟩
def G1.f (k:Nat) (ab:List Int) (aa:List (List Int)) (aj:List (S25)) (aq:Int) (am:Int) (an:Int) (ao:Int):Option (List Int × (List (List Int)) × (List (S25)) × Bool):=if (aq == 4 && (am == 0 && (an == 0 && (ao == 0))))=true/\0 < aj.length then((Fv.f k ab aa aj).bind fun t=>if t=true then((Fn.f k ab aa aj).bind fun b=>if 0 < b.2.2.length/\b.2.2.length < 2932031007402 then some ((Js b.2.2 ((b.2.2.length - 1:Nat):Int)).f0,(Js b.2.2 ((b.2.2.length - 1:Nat):Int)).f1,b.2.2.take (b.2.2.length - 1),true) else none) else some (([]:List Int),([]:List (List Int)),([]:List (S25)),false)) else Gp.f k ab aa aj aq am an ao
theorem G1.calls (k:Nat) (af:Option Addr) (ac:Nat) (ab:List Int) (ah:Option Addr) (ag:Nat) (aa:List (List Int)) (av:Option Addr) (au:Nat) (aj:List (S25)) (aq:Int) (am:Int) (an:Int) (ao:Int) (r1:List Int) (r2:List (List Int)) (r3:List (S25)) (r4:Bool) (w:World) (cb:Kd.C (Kd.int .i64) w af ab.length ab) (cg:ab.length<=ac) (cc:Kd.C (Kd.slice 3 (Kd.int .i64)) w ah aa.length aa) (ch:aa.length<=ag) (h9:Kd.C k25 w av aj.length aj) (ia:aj.length<=au) (h:G1.f k ab aa aj aq am an ao=some (r1,r2,r3,r4)) :
  Calls Try.prog 54 #[.agg #[.slice af ab.length ac, .slice ah aa.length ag, .slice av aj.length au], .agg #[.int .i64 aq, .int .i64 am, .int .i64 an, .int .i64 ao]] w fun e w'=>∃v0_ v1_ v2_:Value,e = .returned (.tuple #[.agg #[v0_,v1_,v2_], .bool r4])/\Kd.R (Kd.int .i64) 3 w' w.heap.size (fun _=>True) v0_ r1/\Kd.S (Kd.slice 3 (Kd.int .i64)) 22 w' w.heap.size (fun k_=>some k_≠(v0_:Value).ownBlock) v1_ r2/\Kd.Q k25 25 w' w.heap.size (fun k_=>some k_≠(v0_:Value).ownBlock/\some k_≠(v1_:Value).ownBlock) v2_ r3/\Below w.heap.size w w':=by
 unfold G1.f at h
 by_cases hc:(aq == 4 && (am == 0 && (an == 0 && (ao == 0))))=true/\0 < aj.length
 case neg=>
  rw[if_neg hc] at h
  exact Gp.calls k af ac ab ah ag aa av au aj aq am an ao r1 r2 r3 r4 w cb cg cc ch h9 ia h
 rw[if_pos hc] at h
 obtain⟨t,ht,h2⟩:=Option.bind_eq_some_iff.mp h
 have ha:aq=4/\am=0/\an=0/\ao=0:=by simpa using hc.1
 obtain⟨rfl,rfl,rfl,rfl⟩:=ha
 by_cases htt:t=true
 ·subst htt
  rw[if_pos rfl] at h2
  obtain⟨⟨b0,b1,b2⟩,hb,h3⟩:=Option.bind_eq_some_iff.mp h2
  by_cases h4:0 < b2.length/\b2.length < 2932031007402
  ·rw[if_pos h4] at h3
   have h5:=Option.some.inj h3
   simp only[Prod.mk.injEq] at h5
   obtain⟨rfl,rfl,rfl,rfl⟩:=h5
   exact G1.back k af ac ab ah ag aa av au aj w cb cg cc ch h9 ia b0 b1 b2 (b2.length - 1) ht hb (by omega) (by omega) hc.2
  rw[if_neg h4] at h3;cases h3
 rw[if_neg htt] at h2
 refine Gp.calls k af ac ab ah ag aa av au aj 4 0 0 0 r1 r2 r3 r4 w cb cg cc ch h9 ia ?_
 unfold Gp.f
 rw[ht,Option.bind_some,if_neg htt]
 exact h2
end Go.Proofs.Ytfooakkhkehpiaa.PE
