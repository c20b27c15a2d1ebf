/- FnExactDeskRun: for every input the law holds, and each argument reads as it read before. No condition. -/
import Derived.Test.YtfooakkhkehpiaaZFnExactDeskRun1
namespace Go.Proofs.Ytfooakkhkehpiaa.PE
open Go.RowKit Go.Proofs.YtfooakkhkehpiaaW.PrintWords Go.Proofs.YtfooakkhkehpiaaW.PrintLast Go.Proofs.YtfooakkhkehpiaaW.PrintMore Go.Proofs.Ytfooakkhkehpiaa.Qe
attribute [local go_sem] max2_int min2_int max_two min_two max_three min_three max_four min_four
set_option linter.unusedVariables false
set_option linter.unusedSimpArgs false
def Gz.f (k:Nat) (ab:List Int) (aa:List (List Int)) (fj:List Int) (fn:List (List Int)):Option (Bool):=(Gd.f k ab fj).bind fun dp2=>(if dp2=true then((Gq.f k aa fn).bind fun dp3=>(if dp3=true then(some true) else(some false))) else(some false))
theorem ak7 {p:Prop} (h:p:=by repeat(first|(with_reducible first|exact HB.out|apply Jk|apply Jj|apply Ji|refine Jh ?_ fq4.out|refine Jh ?_ fq5.out)|exact HB.out)):p:=h
set_option maxHeartbeats 8000000 in
set_option maxRecDepth 100000 in
theorem Gz.calls (k:Nat) (af:Option Addr) (ac:Nat) (ab:List Int) (ah:Option Addr) (ag:Nat) (aa:List (List Int)) (mx:Option Addr) (mm:Nat) (fj:List Int) (nw:Option Addr) (nx:Nat) (fn:List (List Int)) (r:Bool) (w:World) (cb:Kd.C (Kd.int .i64) w af ab.length ab) (cg:ab.length<=ac) (cc:Kd.C (Kd.slice 3 (Kd.int .i64)) w ah aa.length aa) (ch:aa.length<=ag) (ax1:Kd.C (Kd.int .i64) w mx fj.length fj) (ax2:fj.length<=mm) (ax3:Kd.C (Kd.slice 3 (Kd.int .i64)) w nw fn.length fn) (ax4:fn.length<=nx) (h:Gz.f k ab aa fj fn=some r) :
  Calls Try.prog 35 #[.agg #[.slice af ab.length ac, .slice ah aa.length ag], .agg #[.slice mx fj.length mm, .slice nw fn.length nx]] w fun e w'=>e = .returned (.bool r)/\Below w.heap.size w w':=by
 have hu25:=Try.underlying25
 have bg:=A_ cb
 have bw:=A_ cg
 clear cb cg
 have bd:=A_ cc
 have b4:=A_ ch
 clear cc ch
 have al0:=A_ ax1
 have ax5:=A_ ax2
 clear ax1 ax2
 have ax6:=A_ ax3
 have bl7:=A_ ax4
 clear ax3 ax4
 have HB:=A_ (Below.refl w.heap.size w)
 have H:=h
 unfold Gz.f at H
 clear h
 obtain⟨dp2,A3,H⟩:=bind_ H
 by_cases c4:dp2=true
 case neg=>
  replace c4:=Bool.eq_false_iff.mpr c4
  subst c4
  replace H:=ifn_ H
  obtain rfl:=Option.some.inj H
  go_enter Try.func35,Try.ntmps35
  go_wp2_with (first|((with_reducible refine gd_ 2 ?_);refine bx_ (N:=2) #[.slice af ab.length ac, .slice ah aa.length ag] 25 ?_;intro yn hg ug hbox hb;have al1:=A_ (hbox);have hn5:=A_ ((g23_:w.heap.size<=yn));have fq4:=hn5;replace HB:=hs_ (ak7) hb;clear hb hbox hg)|((with_reducible refine gd_ 3 ?_);refine bx_ (N:=3) #[.slice mx fj.length mm, .slice nw fn.length nx] 25 ?_;intro af0 hg w18 hbox hb;have dp4:=A_ (hbox);have hn6:=A_ ((g23_:w.heap.size<=af0));have fq5:=hn6;replace HB:=hs_ (ak7) hb;have dp5:=nl_ al1 hg;have dp6:=nr_ al1 hg;replace al1:=bb_ al1 hb;clear hb hbox hg;have bx0:=dp5.out;have bx1:=dp6.out;obtain⟨bl8,bl9,bm0,bm1⟩:=blk2_ al1;obtain⟨uh,ui,uj,uk⟩:=blk2_ dp4)|((with_reducible refine gc_ 85 ?_);refine gl_ 9 Try.func85 #[.slice af ab.length ac, .slice mx fj.length mm] ?_;(refine(Gd.calls k _ _ ab _ _ fj false _ (uC_ bg) bw.out (uC_ al0) ax5.out A3.out).mono ?_);rintro e w' ⟨rfl,⟨nd,rfl⟩⟩;refine⟨_,rfl,?_⟩))
  go_ret
  exact⟨g4_,ak7⟩
 subst c4
 replace H:=ifp_ H
 obtain⟨dp3,A5,H⟩:=bind_ H
 by_cases c6:dp3=true
 ·subst c6
  replace H:=ifp_ H
  obtain rfl:=Option.some.inj H
  go_enter Try.func35,Try.ntmps35
  go_wp2_with (first|((with_reducible refine gd_ 2 ?_);refine bx_ (N:=2) #[.slice af ab.length ac, .slice ah aa.length ag] 25 ?_;intro yn hg w7 hbox hb;have al1:=A_ (hbox);have hn5:=A_ ((g23_:w.heap.size<=yn));have fq4:=hn5;replace HB:=hs_ (ak7) hb;clear hb hbox hg)|((with_reducible refine gd_ 3 ?_);refine bx_ (N:=3) #[.slice mx fj.length mm, .slice nw fn.length nx] 25 ?_;intro af0 hg w8 hbox hb;have dp4:=A_ (hbox);have hn6:=A_ ((g23_:w.heap.size<=af0));have fq5:=hn6;replace HB:=hs_ (ak7) hb;have dp5:=nl_ al1 hg;have dp6:=nr_ al1 hg;replace al1:=bb_ al1 hb;clear hb hbox hg;have da4:=dp5.out;have da5:=dp6.out;obtain⟨yo,yp,yq,yr⟩:=blk2_ al1;obtain⟨sr,ss,st,su⟩:=blk2_ dp4)|((with_reducible refine gc_ 85 ?_);refine gl_ 9 Try.func85 #[.slice af ab.length ac, .slice mx fj.length mm] ?_;(refine(Gd.calls k _ _ ab _ _ fj true _ (uC_ bg) bw.out (uC_ al0) ax5.out A3.out).mono ?_);rintro e w' ⟨rfl,⟨nd,rfl⟩⟩;refine⟨_,rfl,?_⟩)|((with_reducible refine gc_ 86 ?_);refine gl_ 15 Try.func86 #[.slice ah aa.length ag, .slice nw fn.length nx] ?_;(refine(Gq.calls k _ _ aa _ _ fn true _ (cu_ (Kd.C_below bd.out (ak7))) b4.out (cu_ (Kd.C_below ax6.out (ak7))) bl7.out A5.out).mono ?_);rintro e w' ⟨rfl,⟨nd,rfl⟩⟩;refine⟨_,rfl,?_⟩))
  go_ret
  exact⟨g4_,ak7⟩
 replace c6:=Bool.eq_false_iff.mpr c6
 subst c6
 replace H:=ifn_ H
 obtain rfl:=Option.some.inj H
 go_enter Try.func35,Try.ntmps35
 go_wp2_with (first|((with_reducible refine gd_ 2 ?_);refine bx_ (N:=2) #[.slice af ab.length ac, .slice ah aa.length ag] 25 ?_;intro yn hg uf hbox hb;have al1:=A_ (hbox);have hn5:=A_ ((g23_:w.heap.size<=yn));have fq4:=hn5;replace HB:=hs_ (ak7) hb;clear hb hbox hg)|((with_reducible refine gd_ 3 ?_);refine bx_ (N:=3) #[.slice mx fj.length mm, .slice nw fn.length nx] 25 ?_;intro af0 hg km hbox hb;have dp4:=A_ (hbox);have hn6:=A_ ((g23_:w.heap.size<=af0));have fq5:=hn6;replace HB:=hs_ (ak7) hb;have dp5:=nl_ al1 hg;have dp6:=nr_ al1 hg;replace al1:=bb_ al1 hb;clear hb hbox hg;have dp7:=dp5.out;have dp8:=dp6.out;obtain⟨ci5,ci6,ci7,ci8⟩:=blk2_ al1;obtain⟨af1,af2,af3,af4⟩:=blk2_ dp4)|((with_reducible refine gc_ 85 ?_);refine gl_ 9 Try.func85 #[.slice af ab.length ac, .slice mx fj.length mm] ?_;(refine(Gd.calls k _ _ ab _ _ fj true _ (uC_ bg) bw.out (uC_ al0) ax5.out A3.out).mono ?_);rintro e w' ⟨rfl,⟨nd,rfl⟩⟩;refine⟨_,rfl,?_⟩)|((with_reducible refine gc_ 86 ?_);refine gl_ 15 Try.func86 #[.slice ah aa.length ag, .slice nw fn.length nx] ?_;(refine(Gq.calls k _ _ aa _ _ fn false _ (cu_ (Kd.C_below bd.out (ak7))) b4.out (cu_ (Kd.C_below ax6.out (ak7))) bl7.out A5.out).mono ?_);rintro e w' ⟨rfl,⟨nd,rfl⟩⟩;refine⟨_,rfl,?_⟩))
 go_ret
 exact⟨g4_,ak7⟩
def Gm.l0:Nat->List Int->List Int->Int->Option (List Int)
 | 0,_,_,_=>none
 | k + 1,x0,x3,x4=>if x4 < (x0.length:Int) then(if 0<=x4 then(if x4 < (x3.length:Int) then(Gm.l0 k x0 (x3.set (x4:Int).toNat (rd x0 x4)) (wrap64 (x4 + 1))) else(none)) else(none)) else(some x3)
def Gm.f (k:Nat) (l0:List Int):Option (List Int):=if 0<=(l0.length:Int) then(if ((l0.length:Int):Int).toNat<=35184372088832 then(Gm.l0 k l0 (List.replicate ((l0.length:Int):Int).toNat 0) 0) else(none)) else(none)
theorem es4 {p:Prop} (h:p:=by repeat(first|(with_reducible first|exact HB.out|apply Jk|apply Jj|apply Ji)|exact HB.out)):p:=h
set_option maxHeartbeats 8000000 in
set_option maxRecDepth 100000 in
theorem Gm.calls (k:Nat) (A0:Option Addr) (c0:Nat) (l0:List Int) (r:List Int) (w:World) (fa:Kd.C (Kd.int .i64) w A0 l0.length l0) (ec:l0.length<=c0) (h:Gm.f k l0=some r) :
  Calls Try.prog 81 #[.slice A0 l0.length c0] w fun e w'=>∃v0_:Value,e = .returned (v0_)/\Kd.R (Kd.int .i64) 3 w' w.heap.size (fun _=>True) v0_ r/\Below w.heap.size w w':=by
 have fp:=A_ fa
 have op:=A_ ec
 clear fa ec
 have HB:=A_ (Below.refl w.heap.size w)
 have H:=h
 unfold Gm.f at H
 clear h
 obtain⟨c2,H⟩:=pos_ H
 have bn2:=eq_true c2
 have cl2:=decide_eq_true c2
 clear c2
 obtain⟨c3,H⟩:=pos_ H
 have gj:=eq_true c3
 have ny:=decide_eq_true c3
 clear c3
 obtain⟨hq7,hyq⟩:∃y_:List Int,y_=(List.replicate ((l0.length:Int):Int).toNat 0):=⟨_,rfl⟩
 replace H:(Gm.l0 k l0 hq7 0)=some r:=qh_
 have hq8:=A_ hyq
 clear hyq
 have H':=A_ H
 clear H
 go_enter Try.func81,Try.ntmps81
 go_wp2_with (first|((with_reducible refine gd_ 7 ?_);refine Kd.R_make (Kd.int .i64) _ 3 rfl (N:=7) rfl 22 _ _ rfl (l0.length:Int) rfl rfl Try.underlying22 (.int .i64 0) 8 info3 rfl (by decide) (by omega) 0 (ok:=fun _=>True) (okp:=fun _=>True) rfl (fun _ hk=>hk) trivial (od_) (Nat.le_trans (Nat.mul_le_mul_right _ (od_:(l0.length:Int).toNat<=35184372088832)) (by omega)) (Below.refl _ _) (Nat.le_refl _) ?_;intro jy1 w4 kh hb hg_ hnew_;clear hg_ hnew_;(first|rw[<- hq8.out] at kh|(simp only[Int.reduceToNat] at kh;rw[<- hq8.out] at kh));have jy2:=A_ (Kd.R_lower kh (Je (es4)));replace HB:=hs_ (es4) hb;clear hb kh))
 go_loopg [4] k (fun kq v4 w'=>∃(ci:List Int) (ar:Int),v4 = .int .i64 ar/\Jc (Gm.l0 kq l0 ci ar=some r)/\Jc (kq<=k)/\Jc (Kd.R (Kd.int .i64) 3 w' w.heap.size (fun _=>True) jy1 ci)/\Jc (Below w.heap.size w w'))
 case atStart=>exact⟨(hq7),(0),(g3_),H',⟨Nat.le_refl _⟩,⟨uR_ jy2⟩,⟨es4⟩⟩
 clear H'
 obtain⟨ci,ar,rfl,HA,HK1,a8,HB⟩:=hrel
 cases gk with
 | zero=>exact absurd HA.out (by simp[Gm.l0])
 | succ k1=>?_
 have H:=HA.out
 clear HA
 simp only[Gm.l0] at H
 by_cases c6:ar < (l0.length:Int)
 case neg=>
  rw[if_neg c6] at H
  have kf:=decide_eq_false c6
  clear c6
  obtain rfl:=Option.some.inj H
  go_wp2
  go_ret
  exact⟨_,g4_,uR_ a8,es4⟩
 rw[if_pos c6] at H
 have kf:=decide_eq_true c6
 clear c6
 obtain⟨pz,H⟩:=pd_ H
 obtain⟨xf,H⟩:=pd_ H
 obtain⟨fv6,hyq⟩:∃y_:List Int,y_=(ci.set (ar:Int).toNat (rd l0 ar)):=⟨_,rfl⟩
 replace H:(Gm.l0 k1 l0 fv6 (wrap64 (ar + 1)))=some r:=qh_
 have jy3:=A_ hyq
 clear hyq
 have H':=A_ H
 clear H
 obtain⟨⟨nh3,jy4,hq9⟩,fv7,fv8⟩:=rdp_ (Kd.at_int fp.out ar)
 cases jy4
 replace hq9:=cl_ HB hq9
 have p9:0<=(ar:Int):=od_
 have q9:(ar:Int) < ((ci.length:Int):Int):=od_
 obtain⟨go9,fw,eo9,gb9,gl9,cl9,HG9⟩:=Kd.R_form a8.out (by omega)
 (first|cases eo9|(injection eo9 with ea_ en_ ec_;(first|subst ea_|(injection ea_ with ea_;subst ea_));subst ec_;clear en_))
 have GB9:=A_ gb9
 have GG9:=A_ HG9
 clear gb9 gl9 HG9
 obtain⟨nh4,hf9_0⟩:=Kd.R_celln 0 a8.out (ar:Int) p9 q9
 replace p9:=eq_true p9
 replace q9:=eq_true q9
 have HP10:=Kd.R_putg a8.out (ar:Int) (rd l0 ar)
 go_wp2_with (first|((with_reducible refine gate_store (t:=3) (p:=20) rfl ?_);refine store_event (t:=3) (p:=20) (v:=?vo_w11) (w1:=(wr.setCell ⟨go9,(ar:Int).toNat,none⟩ (.int .i64 (rd l0 ar)))) ?hg ?ho ?hn ?hr ?_;(case ho=>rfl);(case hg=>rfl);(case hn=>rfl);(case hr=>first|(go_simp;done)|(go_simp;rfl));intro g8 hw;have hg:wr.grownBy g8 (some go9):=(by rw[hw];exact HP10.2);have hp_:Kd.R (Kd.int .i64) 3 g8 w.heap.size (fun _=>True) (.slice (some ⟨go9,0,none⟩) ci.length fw) fv6:=(by rw[hw,jy3.out];exact HP10.1);clear HP10;replace a8:=A_ (hp_);replace HB:=A_ ((by rw[hw];exact Jh (HB.out) GB9.out:Below w.heap.size w g8));clear hg hw hp_))
 go_roundg k1
 case measure=>have:=HK1.out;omega
 case rel=>exact⟨(fv6),(wrap64 (ar + 1)),(g3_),H',⟨g8_⟩,⟨uR_ a8⟩,⟨es4⟩⟩
def Gn.l0:Nat->List (List Int)->List (List Int)->Int->Option ((List (List Int)))
 | 0,_,_,_=>none
 | k + 1,x0,x3,x4=>if x4 < (x0.length:Int) then(if 0<=x4 then((Gm.f k (Jr x0 x4)).bind fun dv8=>(if x4 < (x3.length:Int) then(Gn.l0 k x0 (x3.set (x4:Int).toNat dv8) (wrap64 (x4 + 1))) else(none))) else(none)) else(some x3)
def Gn.f (k:Nat) (l0:List (List Int)):Option ((List (List Int))):=if 0<=(l0.length:Int) then(if ((l0.length:Int):Int).toNat<=11728124029610 then(Gn.l0 k l0 (List.replicate ((l0.length:Int):Int).toNat []) 0) else(none)) else(none)
theorem da1 {p:Prop} (h:p:=by repeat(first|(with_reducible first|exact HB.out|apply Jk|apply Jj|apply Ji)|exact HB.out)):p:=h
set_option maxHeartbeats 8000000 in
set_option maxRecDepth 100000 in
theorem Gn.calls (k:Nat) (A0:Option Addr) (c0:Nat) (l0:List (List Int)) (r:List (List Int)) (w:World) (fa:Kd.C (Kd.slice 3 (Kd.int .i64)) w A0 l0.length l0) (ec:l0.length<=c0) (h:Gn.f k l0=some r) :
  Calls Try.prog 82 #[.slice A0 l0.length c0] w fun e w'=>∃v0_:Value,e = .returned (v0_)/\Kd.S (Kd.slice 3 (Kd.int .i64)) 22 w' w.heap.size (fun _=>True) v0_ r/\Below w.heap.size w w':=by
 have fp:=A_ fa
 have op:=A_ ec
 clear fa ec
 have HB:=A_ (Below.refl w.heap.size w)
 have H:=h
 unfold Gn.f at H
 clear h
 obtain⟨c2,H⟩:=pos_ H
 have bn2:=eq_true c2
 have cl2:=decide_eq_true c2
 clear c2
 obtain⟨c3,H⟩:=pos_ H
 have gj:=eq_true c3
 have ny:=decide_eq_true c3
 clear c3
 obtain⟨hr3,hyq⟩:∃y_:List (List Int),y_=(List.replicate ((l0.length:Int):Int).toNat []):=⟨_,rfl⟩
 replace H:(Gn.l0 k l0 hr3 0)=some r:=qh_
 have hr4:=A_ hyq
 clear hyq
 have H':=A_ H
 clear H
 go_enter Try.func82,Try.ntmps82
 go_wp2_with (first|((with_reducible refine gd_ 7 ?_);refine Kd.S_make (Kd.slice 3 (Kd.int .i64)) _ 22 rfl (N:=7) rfl 23 _ _ rfl (l0.length:Int) rfl rfl Try.underlying23 (.slice none 0 0) 24 info22 rfl (by decide) (by omega) [] (ok:=fun _=>True) (okp:=fun _=>True) ⟨_,rfl,Kd.R_nil _ _ _ _ _⟩ (fun _ hk=>hk) trivial (od_) (Nat.le_trans (Nat.mul_le_mul_right _ (od_:(l0.length:Int).toNat<=11728124029610)) (by omega)) (Below.refl _ _) (Nat.le_refl _) ?_;intro jy5 w4 kh hb hg_ hnew_;clear hg_ hnew_;(first|rw[<- hr4.out] at kh|(simp only[Int.reduceToNat] at kh;rw[<- hr4.out] at kh));have jy6:=A_ (Kd.S_lower kh (Je (da1)));replace HB:=hs_ (da1) hb;clear hb kh))
 go_loopg [4] k (fun kq v4 w'=>∃(ci:List (List Int)) (ar:Int),v4 = .int .i64 ar/\Jc (Gn.l0 kq l0 ci ar=some r)/\Jc (kq<=k)/\Jc (Kd.S (Kd.slice 3 (Kd.int .i64)) 22 w' w.heap.size (fun _=>True) jy5 ci)/\Jc (Below w.heap.size w w'))
 case atStart=>exact⟨(hr3),(0),(g3_),H',⟨Nat.le_refl _⟩,⟨uS_ jy6⟩,⟨da1⟩⟩
 clear H'
 obtain⟨ci,ar,rfl,HA,HK1,a8,HB⟩:=hrel
 cases gk with
 | zero=>exact absurd HA.out (by simp[Gn.l0])
 | succ k1=>?_
 have H:=HA.out
 clear HA
 simp only[Gn.l0] at H
 by_cases c6:ar < (l0.length:Int)
 case neg=>
  rw[if_neg c6] at H
  have kf:=decide_eq_false c6
  clear c6
  obtain rfl:=Option.some.inj H
  go_wp2
  go_ret
  exact⟨_,g4_,uS_ a8,da1⟩
 rw[if_pos c6] at H
 have kf:=decide_eq_true c6
 clear c6
 obtain⟨pz,H⟩:=pd_ H
 obtain⟨dv8,A8,H⟩:=bind_ H
 obtain⟨xg,H⟩:=pd_ H
 obtain⟨fv9,hyq⟩:∃y_:List (List Int),y_=(ci.set (ar:Int).toNat dv8):=⟨_,rfl⟩
 replace H:(Gn.l0 k1 l0 fv9 (wrap64 (ar + 1)))=some r:=qh_
 have jy7:=A_ hyq
 clear hyq
 have H':=A_ H
 clear H
 obtain⟨⟨nh5,jy8,jy9,jz0,hr5,hr6,hr7⟩,fw0,fw1⟩:=rdp_ (at_L1 fp.out ar)
 cases jz0
 replace hr5:=cl_ HB hr5
 have jz1:=A_ hr7
 have jz2:=A_ hr6
 clear hr7 hr6
 go_wp2_with (first|((with_reducible refine gc_ 81 ?_);refine gl_ 20 Try.func81 #[.slice jy8 (Jr l0 ar).length jy9] ?_;(refine(Gm.calls k1 _ _ (Jr l0 ar) dv8 _ (uC_ jz1) jz2.out A8.out).mono ?_);rintro e g8 ⟨et1,rfl,ai,hb⟩;refine⟨_,rfl,?_⟩;replace a8:=A_ (Kd.S_elder' (uS_ a8) (Kd.R_base ai) hb);have et2:=A_ (Kd.R_lower ai (Je (da1)));replace HB:=hs_ (da1) hb;have p10:0<=(ar:Int):=od_;have q10:(ar:Int) < ((ci.length:Int):Int):=od_;obtain⟨l5,gl,yu,by6,gl10,cl10,HG10⟩:=Kd.S_form a8.out (by omega);(first|cases yu|(injection yu with ea_ en_ ec_;(first|subst ea_|(injection ea_ with ea_;subst ea_));subst ec_;clear en_));have GB10:=A_ by6;have GG10:=A_ HG10;clear by6 gl10 HG10;obtain⟨_,ce10,hcl10,hM10,hcc10,hfr10,_,_⟩:=Kd.S_elem a8.out [] (ar:Int) p10 q10;obtain⟨ve10_0,rfl,ge10_0⟩:=hM10;have dv9:=hcc10 0 _ rfl;have hf10_0:=hfr10 0;(try simp only[show((Kd.slice 3 (Kd.int .i64))).sz=1 from rfl,Nat.mul_one,Nat.add_zero] at dv9);(try simp only[show((Kd.slice 3 (Kd.int .i64))).sz=1 from rfl,Nat.mul_one,Nat.add_zero] at hf10_0);replace p10:=eq_true p10;replace q10:=eq_true q10;have n_:=A_ (Kd.S_mono (ok':=(fun k_=>some k_≠(et1:Value).ownBlock)) a8.out (fun k_ hk=>hk.2));clear a8;have a8:=n_;clear n_;have HX12:=A_ (show Kd.S (Kd.slice 3 (Kd.int .i64)) 22 g8 w.heap.size (fun k_=>((fun _=>True)) k_/\¬ ((fun k_=>some k_=(et1:Value).ownBlock)) k_) (.slice (some ⟨l5,0,none⟩) ci.length gl) ci from(by(with_reducible repeat(first|apply Kd.S_alloc|apply Kd.S_drewN|apply Kd.S_drew));exact Kd.S_mono a8.out (fun k_ hk=>⟨trivial,fun e_=>hk e_⟩)));obtain⟨oki12,ce12,hcl12,hM12,hcc12,hfr12,hoki12,hH12⟩:=Kd.S_elem HX12.out [] (ar:Int) (od_) (by have h_:(ar:Int) < ((ci.length:Int):Int):=od_;first|exact h_|(have e_:=(Kd.S_reads' a8.out).1;omega)|simpa using h_);obtain⟨ve12_0,rfl,ge12_0⟩:=hM12;have HP12:=Kd.S_seg hH12 (od_) (by have h_:(ar:Int) < ((ci.length:Int):Int):=od_;first|exact h_|(have e_:=(Kd.S_reads' a8.out).1;omega)|simpa using h_) (seg:=[et1]) (j:=0) (show 1<=1 from by decide) (x':=dv8) (Kd.M_row (Kd.R_mono (Kd.R_tight rfl (Kd.R_mono (ok':=fun k_=>((fun _=>True)) k_/\k_≠l5) (Kd.R_apart' (et2.out) (Kd.S_typed a8.out) (by decide)) (fun k_ hk=>⟨trivial,fun e_=>(hk.2) (g6_)⟩))) (fun _ h_=>Or.inr (h_)))) (fun _ hk=>hk) (fun k_ hk_=>((Kd.R_mono (ok':=fun k_=>((fun _=>True)) k_/\k_≠l5) (Kd.R_apart' (et2.out) (Kd.S_typed a8.out) (by decide)) (fun k_ hk=>⟨trivial,fun e_=>(hk.2) (g6_)⟩))).1 k_ hk_.symm);have dw0:=hcc12 0 _ rfl;(try simp only[show((Kd.slice 3 (Kd.int .i64))).sz=1 from rfl,Nat.mul_one,Nat.add_zero] at dw0);have hf12_0:=hfr12 0;(try simp only[show((Kd.slice 3 (Kd.int .i64))).sz=1 from rfl,Nat.mul_one,Nat.add_zero] at hf12_0);(try simp only[show((Kd.slice 3 (Kd.int .i64))).sz=1 from rfl,Nat.mul_one,Nat.add_zero] at HP12))|((with_reducible refine gate_store (t:=22) (p:=21) rfl ?_);refine store_event (t:=22) (p:=21) (v:=?vo_w13) (w1:=(g8.setCell ⟨l5,(ar:Int).toNat,none⟩ (et1))) ?hg ?ho ?hn ?hr ?_;(case ho=>rfl);(case hg=>rfl);(case hn=>rfl);(case hr=>first|(go_simp;done)|(go_simp;rfl)|(obtain⟨_,_,e0_⟩:=Kd.R_slice et2.out;rw[e0_];first|(go_simp;done)|(go_simp;rfl)));intro km hw;have hg:g8.grownBy km (some l5):=(by rw[hw];exact HP12.2);have hp_:Kd.S (Kd.slice 3 (Kd.int .i64)) 22 km w.heap.size (fun _=>True) (.slice (some ⟨l5,0,none⟩) ci.length gl) fv9:=(by rw[hw,jy7.out];exact HP12.1);clear HP12;replace a8:=A_ (hp_);replace HB:=A_ ((by rw[hw];exact Jh (HB.out) GB10.out:Below w.heap.size w km));clear et2;clear hg hw hp_))
 go_roundg k1
 case measure=>have:=HK1.out;omega
 case rel=>exact⟨(fv9),(wrap64 (ar + 1)),(g3_),H',⟨g8_⟩,⟨uS_ a8⟩,⟨da1⟩⟩
def G7.f (k:Nat) (ab:List Int) (aa:List (List Int)):Option (List Int × (List (List Int))):=(Gm.f k ab).bind fun aq1=>((Gn.f k aa).bind fun bf8=>(some (aq1,bf8)))
theorem bl5 {p:Prop} (h:p:=by repeat(first|(with_reducible first|exact HB.out|apply Jk|apply Jj|apply Ji|refine Jh ?_ fw2.out|refine Jh ?_ jz3.out|refine Jh ?_ jz4.out)|exact HB.out)):p:=h
set_option maxHeartbeats 8000000 in
set_option maxRecDepth 100000 in
theorem G7.calls (k:Nat) (af:Option Addr) (ac:Nat) (ab:List Int) (ah:Option Addr) (ag:Nat) (aa:List (List Int)) (r1:List Int) (r2:List (List Int)) (w:World) (cb:Kd.C (Kd.int .i64) w af ab.length ab) (cg:ab.length<=ac) (cc:Kd.C (Kd.slice 3 (Kd.int .i64)) w ah aa.length aa) (ch:aa.length<=ag) (h:G7.f k ab aa=some (r1,r2)) :
  Calls Try.prog 33 #[.agg #[.slice af ab.length ac, .slice ah aa.length ag]] w fun e w'=>∃v0_ v1_:Value,e = .returned (.agg #[v0_,v1_])/\Kd.R (Kd.int .i64) 3 w' w.heap.size (fun _=>True) v0_ r1/\Kd.S (Kd.slice 3 (Kd.int .i64)) 22 w' w.heap.size (fun k_=>some k_≠(v0_:Value).ownBlock) v1_ r2/\Below w.heap.size w w':=by
 have hu40:=Try.underlying40
 have hu25:=Try.underlying25
 have bg:=A_ cb
 have bw:=A_ cg
 clear cb cg
 have bd:=A_ cc
 have b4:=A_ ch
 clear cc ch
 have HB:=A_ (Below.refl w.heap.size w)
 have H:=h
 unfold G7.f at H
 clear h
 obtain⟨aq1,A2,H⟩:=bind_ H
 obtain⟨bf8,A3,H⟩:=bind_ H
 simp only[Option.some.injEq,Prod.mk.injEq] at H
 obtain⟨rfl,rfl⟩:=H
 go_enter Try.func33,Try.ntmps33
 go_wp2_with (first|((with_reducible refine gd_ 1 ?_);refine bx_ (N:=1) #[.slice af ab.length ac, .slice ah aa.length ag] 40 ?_;intro ma hg w4 hbox hb;have jf:=A_ (hbox);have jz5:=A_ ((g63_:w.heap.size<=ma));have fw2:=jz5;replace HB:=hs_ (bl5) hb;clear hb hbox hg)|((with_reducible refine gd_ 2 ?_);refine bx_ (N:=2) #[.slice none 0 0, .slice none 0 0] 25 ?_;intro ag4 hg w5 hbox hb;have aq2:=A_ (hbox);have nh6:=A_ ((g63_:w.heap.size<=ag4));have jz3:=nh6;replace HB:=hs_ (bl5) hb;have jz6:=nl_ jf hg;have jz7:=nr_ jf hg;replace jf:=bb_ jf hb;clear hb hbox hg)|((with_reducible refine gd_ 3 ?_);refine bx_ (N:=3) #[.slice none 0 0, .slice none 0 0] 25 ?_;intro ay4 hg w6 hbox hb;have bf9:=A_ (hbox);have nh7:=A_ ((g63_:w.heap.size<=ay4));have jz4:=nh7;replace HB:=hs_ (bl5) hb;have hr8:=nl_ jf hg;have jz8:=nr_ jf hg;replace jf:=bb_ jf hb;have fw3:=nl_ aq2 hg;have jz9:=nr_ aq2 hg;replace aq2:=bb_ aq2 hb;clear hb hbox hg;have dc0:=jz6.out;have dc1:=jz7.out;have dc2:=hr8.out;have dc3:=jz8.out;obtain⟨ag5,ag6,ag7,ag8⟩:=blk2_ jf)|((with_reducible refine gc_ 81 ?_);refine gl_ 6 Try.func81 #[.slice af ab.length ac] ?_;(refine(Gm.calls k _ _ ab aq1 _ (uC_ bg) bw.out A2.out).mono ?_);rintro e w10 ⟨nh8,rfl,ai,hb⟩;refine⟨_,rfl,?_⟩;have dw2:=A_ (Kd.R_lower ai (Je (bl5)));replace jf:=bb_ jf hb;replace aq2:=bb_ aq2 hb;replace bf9:=bb_ bf9 hb;replace HB:=hs_ (bl5) hb;obtain⟨aa6,aa7,fw4⟩:=Kd.R_slice dw2.out;subst fw4;have cl3:=jz9.out;have cl4:=fw3.out;obtain⟨sv,sw,sx,sy⟩:=blk2_ bf9;obtain⟨um,un,uo,uq⟩:=blk2_ jf)|((with_reducible refine gc_ 82 ?_);refine gl_ 10 Try.func82 #[.slice ah aa.length ag] ?_;(refine(Gn.calls k _ _ aa bf8 _ (Kd.C_below bd.out (bl5)) b4.out A3.out).mono ?_);rintro e rq ⟨nh9,rfl,ai,hb⟩;refine⟨_,rfl,?_⟩;have hr9:=A_ (Kd.S_lower (Kd.S_new' ai (Kd.R_lt (ra_ dw2))) (Je (bl5)));replace dw2:=A_ (Kd.R_below (ra_ dw2) hb);replace jf:=A_ (Jp (g:=ma) (o:=.cells #[.slice af ab.length ac, .slice ah aa.length ag] 40 (0,0)) (ba_ jf) hb);replace aq2:=A_ (Jp (g:=ag4) (o:=.cells #[.slice none 0 0, .slice none 0 0] 25 (0,0)) (ba_ aq2) hb);replace bf9:=A_ (Jp (g:=ay4) (o:=.cells #[.slice aa6 aq1.length aa7, .slice none 0 0] 25 (0,0)) (ba_ bf9) hb);replace HB:=hs_ (bl5) hb;obtain⟨s8,s9,cl6⟩:=Kd.S_slice hr9.out;subst cl6;obtain⟨du3,du4,du5,du6⟩:=blk2_ bf9;obtain⟨ap7,ap8,ap9,aq0⟩:=blk2_ aq2))
 refine bodyPost_ret (results_cell_row rfl _ _ ag4 25 #[.slice aa6 aq1.length aa7, .slice s8 bf8.length s9] (0,0) _ rfl (ba_ aq2) Try.underlying25 rfl (g1_)) rfl ?_
 exact⟨_,_,g4_,ra_ dw2,sa_ hr9,bl5⟩
end Go.Proofs.Ytfooakkhkehpiaa.PE
namespace Go.Proofs.Ytfooakkhkehpiaa.PE
open Go.RowKit Go.Proofs.YtfooakkhkehpiaaW.PrintWords Go.Proofs.YtfooakkhkehpiaaW.PrintLast Go.Proofs.YtfooakkhkehpiaaW.PrintMore
set_option linter.unusedVariables false
set_option linter.unusedSimpArgs false
def F9.l0:Nat->List (List Int)->Int->Int->Option (Int × List (List Int))
  | 0,_,_,_=>none
  | k + 1,xs,x1,x5=>if x5 < (xs.length:Int) then(if 0<=x5 then((F5.f k (xs.getD x5.toNat []) x1).bind fun bt=>F9.l0 k (xs.set x5.toNat bt.2) bt.1 (wrap64 (x5 + 1))) else none) else some (x1,xs)
def F9.f (k:Nat) (l0:List (List Int)) (a1:Int):Option (Int × List (List Int)):=F9.l0 k l0 a1 0
set_option maxHeartbeats 8000000 in
set_option maxRecDepth 100000 in
theorem F9.calls (k:Nat) (u:Value) (l0:List (List Int)) (a1 r1:Int) (r2:List (List Int)) (w0 w:World) (ok:Nat->Prop) (hB:Below w0.heap.size w0 w) (ho0:Kd.S (Kd.slice 3 (Kd.int .i64)) 22 w w0.heap.size ok u l0) (h:F9.f k l0 a1=some (r1,r2)) :
    Calls Try.prog 88 #[u, .int .i64 a1] w fun e w'=>e = .returned (.int .i64 r1)/\Kd.S (Kd.slice 3 (Kd.int .i64)) 22 w' w0.heap.size ok u r2/\Below w0.heap.size w0 w'/\Kept w w' ok:=by
  obtain⟨A,c,rfl,hlc,hC⟩:=Kd.S_reads ho0
  have hn:l0.length<=9223372036854775807:=hC.2.1
  have HN:=Jc.mk hn
  have HS:=Jc.mk ho0
  have HK:=Jc.mk (Kept.refl w ok)
  have HB:=Jc.mk hB
  have H':=Jc.mk (show F9.l0 k l0 a1 0=some (r1,r2) from h)
  clear hC hB h hn ho0
  generalize hNl:l0.length=n at *
  have HNN:=Jc.mk hNl
  clear hNl
  go_enter Try.func88,Try.ntmps88
  go_wp2
  go_loopg [1,5] k (fun kq v1 v5 w'=>∃(x1_1:Int) (i:Nat) (cur:List (List Int)),v1 = .int .i64 x1_1/\v5 = .int .i64 i/\i<=n/\Jc (cur.length=n)/\Jc (F9.l0 kq cur x1_1 i=some (r1,r2))/\Jc (kq<=k)/\Jc (Kd.S (Kd.slice 3 (Kd.int .i64)) 22 w' w0.heap.size ok (.slice A n c) cur)/\Jc (Kept w w' ok)/\Jc (Below w0.heap.size w0 w'))
  case atStart=>exact⟨a1,0,l0,rfl,rfl,Nat.zero_le _,HNN,H',⟨Nat.le_refl _⟩,⟨by(with_reducible repeat(first|apply Kd.S_alloc|apply Kd.S_drewN|apply Kd.S_drew));exact HS.out⟩,⟨by repeat(first|(with_reducible first|exact HK.out|apply Kept.alloc|apply Kept.drewN|apply Kept.drew)|exact HK.out)⟩,⟨by repeat(first|(with_reducible first|exact HB.out|apply Jk|apply Jj|apply Ji)|exact HB.out)⟩⟩
  case round=>
    clear H' HK HB HS HNN
    obtain⟨x1_1,i,cur,rfl,rfl,hi,HNN,HA,HK1,HS,HK,HB⟩:=hrel
    cases gk with
    | zero=>exact absurd HA.out (by simp[F9.l0])
    | succ k1=>
      have H:=HA.out
      clear HA
      simp only[F9.l0] at H
      rw[HNN.out,Int.toNat_natCast] at H
      by_cases hlt:i < n
      · rw[if_pos (by omega),if_pos (by omega)] at H
        obtain⟨⟨t1,t2⟩,A0,H⟩:=Option.bind_eq_some_iff.mp H
        have AT:=Jc.mk A0
        clear A0
        have H':=Jc.mk H
        clear H
        obtain⟨g,cap,he,_,_,cells,hcell⟩:=Kd.S_form HS.out (by rw[HNN.out];omega)
        obtain⟨rfl,rfl⟩:A=some ⟨g,0,none⟩/\c=cap:=by
          injection he with h1 h2 h3
          exact⟨h1,h3⟩
        clear he hcell
        obtain⟨oki,cc,_,hM,hcc,hoki,hH⟩:=Kd.S_lend HS.out [] (i:Int) (by omega) (by omega)
        have HOK:=Jc.mk hoki
        have HH:=Jc.mk hH
        clear hH hoki
        rw[Int.toNat_natCast] at hM
        obtain⟨v,rfl,hv⟩:=hM
        have hx1:wr.cell? ⟨g,i,none⟩=some v:=by
          have:=hcc 0 v rfl
          rw[Int.toNat_natCast] at this
          have e1:i * (Kd.slice 3 (Kd.int .i64)).sz + 0=i:=by show i * 1 + 0=i;omega
          rw[e1] at this
          exact this
        clear hcc
        have HRow:=Jc.mk hv
        clear hv
        have p5:(0<=(i:Int))=True:=eq_true (by omega)
        have q5:((i:Int) < (n:Int))=True:=eq_true (by omega)
        have c3b0:decide ((i:Int) < (n:Int))=true:=decide_eq_true (by omega)
        go_wp2_with (first|((with_reducible refine Jf (f:=87) rfl ?_);refine goesL_ (some 17) rfl rfl Try.func87 (by kernel_rfl) rfl #[v, .int .i64 x1_1] rfl (by(try simp only[List.map_toArray,List.map_cons,List.map_nil]);first|done|rfl) ?_;(with_reducible refine(F5.calls k1 oki v (cur.getD i []) x1_1 t1 t2 w0 _ ?side1 ?side2 AT.out).mono ?_);(case side1=>repeat(first|(with_reducible first|exact HB.out|apply Jk|apply Jj|apply Ji)|exact HB.out));(case side2=>(with_reducible repeat(first|apply Kd.R_alloc|apply Kd.R_drewN|apply Kd.R_drew));exact HRow.out);rintro e w8 ⟨rfl,hy,hb,hkp⟩;refine⟨_,rfl,?_⟩;have n0_:=Jc.mk (Kept.then_ (S:=ok) (by repeat(first|(with_reducible first|exact HK.out|apply Kept.alloc|apply Kept.drewN|apply Kept.drew)|exact HK.out)) hkp (fun k_ hs=>.inl (HOK.out k_ hs).1));have n1_:=Jc.mk hb;have n2_:=Jc.mk (Kd.H_step (w1:=w8) (by(with_reducible repeat(first|apply Kd.H_alloc|apply Kd.H_drewN|apply Kd.H_drew));exact HH.out) (fun k_ _ hno hl=>hkp.2 k_ hl hno));have n3_:=Jc.mk (Kd.R_reok rfl hy (ok:=oki) (fun k_ e_=>HRow.out.1 k_ e_));clear HK HB HH HRow hb hkp hy;have HK:=n0_;have HB:=n1_;have HH:=n2_;have HRow:=n3_;clear n0_ n1_ n2_ n3_))
        go_roundg k1
        case measure=>have:=HK1.out;omega
        case rel=>
          have hs:wrap64 ((i:Int) + 1)=((i + 1:Nat):Int):=by have:=HN.out;unfold wrap64;omega
          have hback:=Kd.H_back (okp:=oki) HH.out (x':=t2) ⟨v,rfl,HRow.out⟩ (fun _ h_=>h_)
          rw[Int.toNat_natCast] at hback
          exact⟨t1,i + 1,cur.set i t2,rfl,by rw[<- hs],by omega,⟨by rw[List.length_set];exact HNN.out⟩,⟨by have:=H'.out;rw[hs] at this;exact this⟩,⟨by have:=HK1.out;omega⟩,⟨by(with_reducible repeat(first|apply Kd.S_alloc|apply Kd.S_drewN|apply Kd.S_drew));exact hback⟩,⟨by repeat(first|(with_reducible first|exact HK.out|apply Kept.alloc|apply Kept.drewN|apply Kept.drew)|exact HK.out)⟩,⟨by repeat(first|(with_reducible first|exact HB.out|apply Jk|apply Jj|apply Ji)|exact HB.out)⟩⟩
      · rw[if_neg (by omega)] at H
        have c3b0:decide ((i:Int) < (n:Int))=false:=decide_eq_false (by omega)
        obtain⟨rfl,rfl⟩:x1_1=r1/\cur=r2:=by
          have:=Option.some.inj H
          exact⟨congrArg Prod.fst this,congrArg Prod.snd this⟩
        go_wp2
        go_ret
        exact⟨rfl,by(with_reducible repeat(first|apply Kd.S_alloc|apply Kd.S_drewN|apply Kd.S_drew));exact HS.out,by repeat(first|(with_reducible first|exact HB.out|apply Jk|apply Jj|apply Ji)|exact HB.out),by repeat(first|(with_reducible first|exact HK.out|apply Kept.alloc|apply Kept.drewN|apply Kept.drew)|exact HK.out)⟩
def BkAt (base lo hi:Nat) (q:Nat->Prop) (u0 u1:Value) (c:List Int) (d:List (List Int)) (W:World):Prop:=
  hi<=W.heap.size/\Kd.R (Kd.int .i64) 3 W base (fun k=>((lo<=k/\k < hi)/\q k)/\some k=u0.ownBlock) u0 c/\Kd.S (Kd.slice 3 (Kd.int .i64)) 22 W base (fun k=>((lo<=k/\k < hi)/\q k)/\some k≠u0.ownBlock) u1 d
theorem BkAt.step {base lo hi:Nat} {q:Nat->Prop} {u0 u1:Value} {c:List Int} {d:List (List Int)} {W W1:World} (h:BkAt base lo hi q u0 u1 c d W) (hm:∀k,lo<=k->k < hi->W1.heap[k]? = W.heap[k]?) (hs:hi<=W1.heap.size):BkAt base lo hi q u0 u1 c d W1:=
  ⟨hs,Kd.R_step h.2.1 (fun k hk _=>hm k hk.1.1.1 hk.1.1.2),Kd.S_step h.2.2 (fun k hk _=>hm k hk.1.1.1 hk.1.1.2)⟩
theorem BkAt.below {base lo hi:Nat} {q:Nat->Prop} {u0 u1:Value} {c:List Int} {d:List (List Int)} {W W1:World} (h:BkAt base lo hi q u0 u1 c d W) (hb:Below W.heap.size W W1):BkAt base lo hi q u0 u1 c d W1:=
  h.step (fun k _ hk=>hb.block k (Nat.lt_of_lt_of_le hk h.1)) (Nat.le_trans h.1 hb.size)
theorem BkAt.made {base z:Nat} {q:Nat->Prop} {u0 u1:Value} {c:List Int} {d:List (List Int)} {W W1:World} (hbz:base<=z) (hz:z<=W.heap.size) (h0:Kd.R (Kd.int .i64) 3 W1 W.heap.size (fun _=>True) u0 c) (h1:Kd.S (Kd.slice 3 (Kd.int .i64)) 22 W1 W.heap.size (fun k=>some k≠u0.ownBlock) u1 d) (hb:Below W.heap.size W W1)
    (hq0:∀k,some k=u0.ownBlock->q k) (hq1:∀k,(∃t,t ∈ 22 :: (Kd.slice 3 (Kd.int .i64)).E/\∃cells,W1.heap[k]? = some (.cells cells t (0,0)))->q k):∃A0 c0 A1 c1 lo hi,u0 = .slice A0 c.length c0/\u1 = .slice A1 d.length c1/\z<=lo/\lo<=hi/\BkAt base lo hi q u0 u1 c d W1:=by
  obtain⟨A0,c0,e0⟩:=Kd.R_slice h0
  obtain⟨A1,c1,e1⟩:=Kd.S_slice h1
  refine⟨A0,c0,A1,c1,W.heap.size,W1.heap.size,e0,e1,hz,hb.size,Nat.le_refl _,Kd.R_lower (Kd.R_mono (Kd.R_bound (Kd.R_tight rfl h0)) (fun k hk=>⟨⟨⟨hk.2.1,hk.2.2.1⟩,hq0 k hk.1⟩,hk.1⟩)) (Nat.le_trans hbz hz),Kd.S_lower (Kd.S_mono (Kd.S_bound h1) (fun k hk=>⟨⟨⟨hk.2.1,hk.2.2.1⟩,hq1 k hk.2.2.2⟩,hk.1⟩)) (Nat.le_trans hbz hz)⟩
def Ja.f (k:Nat) (l0:List Int) (l1:List (List Int)) (a1:Int):Option (Int × List Int × List (List Int)):=(F5.f k l0 a1).bind fun bt=>(F9.f k l1 bt.1).bind fun bs=>some (bs.1,bt.2,bs.2)
set_option maxHeartbeats 8000000 in
set_option maxRecDepth 100000 in
theorem Ja.calls (k:Nat) (lo hi:Nat) (q:Nat->Prop) (u0 u1:Value) (l0:List Int) (l1:List (List Int)) (a1 r1:Int) (r2:List Int) (r3:List (List Int)) (w0 w:World) (hB:Below w0.heap.size w0 w) (hbk:BkAt w0.heap.size lo hi q u0 u1 l0 l1 w) (h:Ja.f k l0 l1 a1=some (r1,r2,r3)) :
    Calls Try.prog 36 #[.agg #[u0,u1], .int .i64 a1] w fun e w'=>e = .returned (.int .i64 r1)/\BkAt w0.heap.size lo hi q u0 u1 r2 r3 w'/\Below w0.heap.size w0 w'/\Kept w w' (fun k=>(lo<=k/\k < hi)/\q k):=by
  obtain⟨hhi,ho0,ho1⟩:=hbk
  obtain⟨A0,c0,rfl,_⟩:=Kd.R_reads ho0
  obtain⟨A1,c1,rfl,_⟩:=Kd.S_reads ho1
  obtain⟨⟨t1,t2⟩,h1,h2⟩:=Option.bind_eq_some_iff.mp (show(F5.f k l0 a1).bind (fun bt=>(F9.f k l1 bt.1).bind fun bs=>some (bs.1,bt.2,bs.2))=some (r1,r2,r3) from h)
  obtain⟨⟨t3,t4⟩,h4,h3⟩:=Option.bind_eq_some_iff.mp h2
  obtain⟨rfl,rfl,rfl⟩:t3=r1/\t2=r2/\t4=r3:=by
    have:=Option.some.inj h3
    exact⟨congrArg Prod.fst this,congrArg (fun z=>z.2.1) this,congrArg (fun z=>z.2.2) this⟩
  clear h3 h
  have HT1:=Jc.mk h1
  have HT2:=Jc.mk h4
  have HO0:=Jc.mk ho0
  have HO1:=Jc.mk ho1
  have HB:=Jc.mk hB
  have HHI:=Jc.mk hhi
  have HK:=Jc.mk (Kept.refl w (fun k=>(lo<=k/\k < hi)/\q k))
  have HHW:=hhi
  clear h1 h2 h4 ho0 ho1 hB hhi
  have hu:=Try.underlying25
  go_enter Try.func36,Try.ntmps36
  go_wp2_with (first|((with_reducible refine Jg (N:=2) rfl ?_);(try(refine gate_guard (by rfl) ?_;dsimp only));refine box_event ?hg (N:=2) ?hd (cs:=#[.slice A0 l0.length c0, .slice A1 l1.length c1]) (t:=25) ?hr ?_;(case hd=>rfl);(case hg=>rfl);(case hr=>first|(go_simp;done)|(go_simp;rfl));intro gb hg w2 hbox hb;have n0_:=Jc.mk (Kd.R_below HO0.out hb);have n1_:=Jc.mk (Kd.S_below HO1.out hb);have n2_:=Jc.mk (Kept.then_ HK.out (Kept.of_below hb (fun _=>False)) (fun _ h_=>h_.elim));have n3_:=Jc.mk (Jw HB.out hb);have n4_:=Jc.mk (show hi<=gb by rw[hg];exact HHI.out);have BK:=Jc.mk hbox;clear HO0 HO1 HK HB HHI hb hbox hg;have HO0:=n0_;have HO1:=n1_;have HK:=n2_;have HB:=n3_;have HHI:=n4_;clear n0_ n1_ n2_ n3_ n4_;have hcz_0:w2.cell? ⟨gb,0,none⟩=some (.slice A0 l0.length c0):=(Jd BK.out 0).trans rfl;have hcz_1:w2.cell? ⟨gb,1,none⟩=some (.slice A1 l1.length c1):=(Jd BK.out 1).trans rfl)|((with_reducible refine Jf (f:=87) rfl ?_);refine goesL_ (some 8) rfl rfl Try.func87 (by kernel_rfl) rfl #[.slice A0 l0.length c0, .int .i64 a1] rfl (by(try simp only[List.map_toArray,List.map_cons,List.map_nil]);first|done|rfl) ?_;(with_reducible refine(F5.calls k (fun k=>((lo<=k/\k < hi)/\q k)/\some k=(Value.slice A0 l0.length c0).ownBlock) (.slice A0 l0.length c0) l0 a1 t1 t2 w0 _ ?side1 ?side2 HT1.out).mono ?_);(case side1=>repeat(first|(with_reducible first|exact HB.out|apply Jk|apply Jj|apply Ji)|exact HB.out));(case side2=>(with_reducible repeat(first|apply Kd.R_alloc|apply Kd.R_drewN|apply Kd.R_drew));exact HO0.out);rintro e w3 ⟨rfl,hy,hb,hkp⟩;refine⟨_,rfl,?_⟩;have n5_:=Jc.mk (Kd.R_reok rfl hy (ok:=fun k=>((lo<=k/\k < hi)/\q k)/\some k=(Value.slice A0 l0.length c0).ownBlock) (fun k_ e_=>HO0.out.1 k_ e_));have n0_:=Jc.mk (Kd.S_kept (ok:=fun k=>((lo<=k/\k < hi)/\q k)/\some k≠(Value.slice A0 l0.length c0).ownBlock) (by(with_reducible repeat(first|apply Kd.S_alloc|apply Kd.S_drewN|apply Kd.S_drew));exact HO1.out) hkp (fun k_ h_ e_=>h_.2 e_.2));have n1_:=Jc.mk (Kept.then_ (by repeat(first|(with_reducible first|exact HK.out|apply Kept.alloc|apply Kept.drewN|apply Kept.drew)|exact HK.out)) hkp (fun _ h_=>.inl h_.1));have n2_:=Jc.mk hb;have n3_:=Jc.mk (blk_kept (g:=gb) (by(with_reducible repeat(first|refine Jm ?_ _|refine Jn ?_|refine Jl ?_ _));exact BK.out) hkp (fun hs_=>by have:=hs_.1.1.2;have:=HHI.out;omega));clear HO0 HO1 HK HB BK hb hkp hy;have HO0:=n5_;have HO1:=n0_;have HK:=n1_;have HB:=n2_;have BK:=n3_;clear n0_ n1_ n2_ n3_ n5_;have hcy_0:w3.cell? ⟨gb,0,none⟩=some (.slice A0 l0.length c0):=(Jd BK.out 0).trans rfl;have hcy_1:w3.cell? ⟨gb,1,none⟩=some (.slice A1 l1.length c1):=(Jd BK.out 1).trans rfl)|((with_reducible refine Jf (f:=88) rfl ?_);refine goesL_ (some 12) rfl rfl Try.func88 (by kernel_rfl) rfl #[.slice A1 l1.length c1, .int .i64 t1] rfl (by(try simp only[List.map_toArray,List.map_cons,List.map_nil]);first|done|rfl) ?_;(with_reducible refine(F9.calls k (.slice A1 l1.length c1) l1 t1 t3 t4 w0 _ (fun k=>((lo<=k/\k < hi)/\q k)/\some k≠(Value.slice A0 l0.length c0).ownBlock) ?side1 ?side2 HT2.out).mono ?_);(case side1=>repeat(first|(with_reducible first|exact HB.out|apply Jk|apply Jj|apply Ji)|exact HB.out));(case side2=>(with_reducible repeat(first|apply Kd.S_alloc|apply Kd.S_drewN|apply Kd.S_drew));exact HO1.out);rintro e w4 ⟨rfl,hy,hb,hkp⟩;refine⟨_,rfl,?_⟩;have n0_:=Jc.mk (Kd.R_kept (ok:=fun k=>((lo<=k/\k < hi)/\q k)/\some k=(Value.slice A0 l0.length c0).ownBlock) (by(with_reducible repeat(first|apply Kd.R_alloc|apply Kd.R_drewN|apply Kd.R_drew));exact HO0.out) hkp (fun k_ h_ e_=>e_.2 h_.2));have n1_:=Jc.mk (Kept.then_ (by repeat(first|(with_reducible first|exact HK.out|apply Kept.alloc|apply Kept.drewN|apply Kept.drew)|exact HK.out)) hkp (fun _ h_=>.inl h_.1));have n2_:=Jc.mk hb;have n3_:=Jc.mk hy;clear HO0 HO1 HK HB BK hb hkp hy;have HO0:=n0_;have HO1:=n3_;have HK:=n1_;have HB:=n2_;clear n0_ n1_ n2_ n3_))
  go_ret
  have HKK:Kept w _ (fun k=>(lo<=k/\k < hi)/\q k):=(by repeat(first|(with_reducible first|exact HK.out|apply Kept.alloc|apply Kept.drewN|apply Kept.drew)|exact HK.out))
  exact⟨rfl,⟨Nat.le_trans HHW HKK.1,by(with_reducible repeat(first|apply Kd.R_alloc|apply Kd.R_drewN|apply Kd.R_drew));exact HO0.out,by(with_reducible repeat(first|apply Kd.S_alloc|apply Kd.S_drewN|apply Kd.S_drew));exact HO1.out⟩,by repeat(first|(with_reducible first|exact HB.out|apply Jk|apply Jj|apply Ji)|exact HB.out),HKK⟩
end Go.Proofs.Ytfooakkhkehpiaa.PE
namespace Go.Proofs.Ytfooakkhkehpiaa.PE
open Go.RowKit Go.Proofs.YtfooakkhkehpiaaW.PrintWords Go.Proofs.YtfooakkhkehpiaaW.PrintLast Go.Proofs.YtfooakkhkehpiaaW.PrintMore Go.Proofs.Ytfooakkhkehpiaa.Qe
attribute [local go_sem] max2_int min2_int max_two min_two max_three min_three max_four min_four
set_option linter.unusedVariables false
set_option linter.unusedSimpArgs false
def Fs.l0:Nat->Int->List Int->List (List Int)->List Int->List (List Int)->Option (List Int × (List (List Int)))
 | 0,_,_,_,_,_=>none
 | k + 1,x4,kd7,eu7,hu5,ga1=>if x4 < (eu7.length:Int) then((some (([]:List Int):List Int)).bind fun cn3=>(if 0<=x4 then(if cn3.length + (Jr eu7 x4).length < 17592186044416 then(if ga1.length < 5864062014805 then(Fs.l0 k (wrap64 (x4 + 1)) kd7 eu7 hu5 (ga1 ++ [(cn3 ++ (Jr eu7 x4))])) else(none)) else(none)) else(none))) else(some (hu5,ga1))
def Fs.f (k:Nat) (ab:List Int) (aa:List (List Int)):Option (List Int × (List (List Int))):=(some (([]:List Int):List Int)).bind fun bg7=>(if bg7.length + ab.length < 17592186044416 then(Fs.l0 k 0 ab aa (bg7 ++ ab) ([]:List (List Int))) else(none))
def Fs.T5:Bool × List (List Nat × List Nat):=(true,[([],[]),([0],[0]),([],[]),([],[]),([3],[3]),([],[]),([4,5],[4,5]),([6],[6]),([2,7],[2,7]),([8],[8]),([1,9,8],[1,9]),([0,1,2,3,4,5,6,7,8,9,10],[]),([11,10,10,0,1,2,3,4,5,6,7,8,9,10],[10,11])])
def Fs.B5:List Nat:=[0,1,0,0,8,0,56,120,252,508,1023,2047,4095]
theorem Fs.tab5:rtab .any (opsOf Try.f80 5)=Fs.T5:=by kernel_rfl
theorem Fs.bits5:waitsOk Fs.T5.2 Fs.B5=true:=by kernel_rfl
theorem yl {p:Prop} (h:p:=by repeat(first|(with_reducible first|exact HB.out|apply Jk|apply Jj|apply Ji|refine Jh ?_ kd8.out|refine Jh ?_ kd9.out|refine Jh ?_ ke0.out)|exact HB.out)):p:=h
set_option maxHeartbeats 8000000 in
set_option maxRecDepth 100000 in
theorem Fs.calls (k:Nat) (af:Option Addr) (ac:Nat) (ab:List Int) (ah:Option Addr) (ag:Nat) (aa:List (List Int)) (r1:List Int) (r2:List (List Int)) (w:World) (cb:Kd.C (Kd.int .i64) w af ab.length ab) (cg:ab.length<=ac) (cc:Kd.C (Kd.slice 3 (Kd.int .i64)) w ah aa.length aa) (ch:aa.length<=ag) (h:Fs.f k ab aa=some (r1,r2)) :
  Calls Try.prog 80 #[.agg #[.slice af ab.length ac, .slice ah aa.length ag]] w fun e w'=>∃v0_ v1_:Value,e = .returned (.agg #[v0_,v1_])/\Kd.R (Kd.int .i64) 3 w' w.heap.size (fun _=>True) v0_ r1/\Kd.S (Kd.slice 3 (Kd.int .i64)) 22 w' w.heap.size (fun k_=>some k_≠(v0_:Value).ownBlock) v1_ r2/\Below w.heap.size w w':=by
 have hu25:=Try.underlying25
 have bg:=A_ cb
 have bw:=A_ cg
 clear cb cg
 have bd:=A_ cc
 have b4:=A_ ch
 clear cc ch
 have HB:=A_ (Below.refl w.heap.size w)
 have H:=h
 unfold Fs.f at H
 clear h
 obtain⟨bg7,hyq⟩:∃y_:List Int,y_=(([]:List Int)):=⟨_,rfl⟩
 replace H:(if bg7.length + ab.length < 17592186044416 then(Fs.l0 k 0 ab aa (bg7 ++ ab) ([]:List (List Int))) else(none))=some (r1,r2):=qh_
 have hu6:=A_ hyq
 clear hyq
 obtain⟨c2,H⟩:=pos_ H
 have ga2:=A_ c2
 clear c2
 obtain⟨qm,hyq⟩:∃y_:List Int,y_=(bg7 ++ ab):=⟨_,rfl⟩
 replace H:(Fs.l0 k 0 ab aa qm ([]:List (List Int)))=some (r1,r2):=qh_
 have ke1:=A_ hyq
 clear hyq
 have H':=A_ H
 clear H
 go_enter Try.func80,Try.ntmps80
 go_wp2_with (first|((with_reducible refine gd_ 1 ?_);refine bx_ (N:=1) #[.slice af ab.length ac, .slice ah aa.length ag] 25 ?_;intro yx hg w3 hbox hb;have ko:=A_ (hbox);have nj2:=A_ ((g65_:w.heap.size<=yx));have kd8:=nj2;replace HB:=hs_ (yl) hb;clear hb hbox hg)|((with_reducible refine gd_ 2 ?_);refine bx_ (N:=2) #[.slice none 0 0, .slice none 0 0] 25 ?_;intro xj hg w4 hbox hb;have o2:=A_ (hbox);have nj3:=A_ ((g65_:w.heap.size<=xj));have kd9:=nj3;replace HB:=hs_ (yl) hb;have ga3:=nl_ ko hg;have ga4:=nr_ ko hg;replace ko:=bb_ ko hb;clear hb hbox hg)|((with_reducible refine gd_ 5 ?_);refine rle_ 5 [] ?_;intro ke2 w5 ho6 hb hg_ hnew_;clear hg_ hnew_;(first|rw[<- hu6.out] at ho6|(simp only[Int.reduceToNat] at ho6;rw[<- hu6.out] at ho6));have eu8:=A_ (Kd.R_lower ho6 (Je (yl)));replace ko:=bb_ ko hb;replace o2:=bb_ o2 hb;replace HB:=hs_ (yl) hb;clear hb ho6;have dc0:=ga3.out;have dc1:=ga4.out;obtain⟨bg3,bg4,bg5,bg6⟩:=blk2_ ko)|((with_reducible refine gate_builtin (b:=.append) (xs:=#[.tmp 5, .tmp 7]) rfl ?_);at_builtin;refine Kd.R_append_rows (Kd.int .i64) (w0:=w) w.heap.size rfl (.tmp 5) (.tmp 7) 22 3 (.int .i64 0) 8 rfl Try.underlying22 info3 rfl (by decide) (by omega) ke2 bg7 ab _ _ _ (fun _=>True) (fun _=>False) rfl rfl ?aO ?aR (fun _ _ h=>h) (fun _ h=>h.elim) ?aF ?aB ?aS ?aL ?_;(case aR=>exact uC_ bg);(case aB=>exact(yl));(case aF=>exact(fun _ _=>trivial));(case aO=>exact(uR_ eu8));(case aS=>exact(Je (yl)));(case aL=>have:=ga2.out;omega);intro nj4 w9 ho hb hg hat;rw[<- ke1.out] at ho;replace ko:=(bg_ ko hg (Kd.R_ne eu8.out ko.out (by decide)));replace o2:=(bg_ o2 hg (Kd.R_ne eu8.out o2.out (by decide)));replace HB:=A_ (hb);have eu9:=A_ (ho);clear eu8;clear ho hb hg hat;obtain⟨ie,gl,yu⟩:=Kd.R_slice eu9.out;subst yu)|((with_reducible refine gd_ 3 ?_);refine bx_ (N:=3) #[.slice none 0 0, .slice none 0 0] 25 ?_;intro yy hg g8 hbox hb;replace eu9:=rb_ eu9 hb;have mz:=A_ (hbox);have nj5:=A_ ((g65_:w.heap.size<=yy));have ke0:=nj5;replace HB:=hs_ (yl) hb;have cn4:=nl_ ko hg;have ev0:=nr_ ko hg;replace ko:=bb_ ko hb;have dc7:=nl_ o2 hg;have ga5:=nr_ o2 hg;replace o2:=bb_ o2 hb;clear hb hbox hg;have cl3:=ev0.out;have cl4:=cn4.out;have ga6:=ga5.out;have ga7:=dc7.out;obtain⟨um,un,uo,uq⟩:=blk2_ mz))
 go_loopg [4] k (fun kq v4 w'=>∃(ar:Int) (aq7:List (List Int)) (az6:Value),v4 = .int .i64 ar/\Jc (Fs.l0 kq ar ab aa qm aq7=some (r1,r2))/\Jc (kq<=k)/\Jc (Kd.R (Kd.int .i64) 3 w' w.heap.size (fun _=>True) (.slice ie qm.length gl) qm)/\Jc (Kd.S (Kd.slice 3 (Kd.int .i64)) 22 w' w.heap.size (fun k_=>some k_≠((.slice ie qm.length gl):Value).ownBlock) az6 aq7)/\Jc (hc_ w' yx #[(.slice af ab.length ac),(.slice ah aa.length ag)] 25)/\Jc (hc_ w' xj #[(.slice none 0 0),(.slice none 0 0)] 25)/\Jc (hc_ w' yy #[(.slice ie qm.length gl),az6] 25)/\Jc (Below w.heap.size w w'))
 case atStart=>exact⟨(0),(([]:List (List Int))),(.slice none 0 0),(g3_),H',⟨Nat.le_refl _⟩,⟨ra_ eu9⟩,⟨g41_⟩,⟨ba_ ko⟩,⟨ba_ o2⟩,⟨ba_ mz⟩,⟨yl⟩⟩
 clear H'
 obtain⟨ar,aq7,az6,rfl,HA,HK1,ah2,xk,ko,o2,mz,HB⟩:=hrel
 cases gk with
 | zero=>exact absurd HA.out (by simp[Fs.l0])
 | succ k1=>?_
 have H:=HA.out
 clear HA
 simp only[Fs.l0] at H
 by_cases eu:ar < (aa.length:Int)
 case neg=>
  rw[if_neg eu] at H
  have pf:=decide_eq_false eu
  clear eu
  simp only[Option.some.injEq,Prod.mk.injEq] at H
  obtain⟨rfl,rfl⟩:=H
  have gb1:=ga3.out
  have gb2:=ga4.out
  have gb3:=cn4.out
  have gb4:=ev0.out
  obtain⟨hv2,hv3,hv4,hv5⟩:=blk2_ ko
  have ca5:=ga5.out
  have ca6:=dc7.out
  obtain⟨dd1,dd2,dd3,dd4⟩:=blk2_ mz
  obtain⟨bo1,bo2,bo3,bo4⟩:=blk2_ o2
  obtain⟨gc,fq,cn6⟩:=Kd.S_slice xk.out
  subst cn6
  go_wp2
  refine bodyPost_ret (results_cell_row rfl _ _ xj 25 #[.slice ie qm.length gl, .slice gc aq7.length fq] (0,0) _ rfl (ba_ o2) Try.underlying25 rfl (g1_)) rfl ?_
  exact⟨_,_,g4_,ra_ ah2,sa_ xk,yl⟩
 rw[if_pos eu] at H
 have pf:=decide_eq_true eu
 clear eu
 obtain⟨cn3,hyq⟩:∃y_:List Int,y_=(([]:List Int)):=⟨_,rfl⟩
 replace H:(if 0<=ar then(if cn3.length + (Jr aa ar).length < 17592186044416 then(if aq7.length < 5864062014805 then(Fs.l0 k1 (wrap64 (ar + 1)) ab aa qm (aq7 ++ [(cn3 ++ (Jr aa ar))])) else(none)) else(none)) else(none))=some (r1,r2):=qh_
 have hu7:=A_ hyq
 clear hyq
 obtain⟨ag9,H⟩:=pd_ H
 obtain⟨i7,H⟩:=pos_ H
 have ga8:=A_ i7
 clear i7
 obtain⟨dy4,hyq⟩:∃y_:List Int,y_=(cn3 ++ (Jr aa ar)):=⟨_,rfl⟩
 replace H:(if aq7.length < 5864062014805 then(Fs.l0 k1 (wrap64 (ar + 1)) ab aa qm (aq7 ++ [dy4])) else(none))=some (r1,r2):=qh_
 have ke3:=A_ hyq
 clear hyq
 obtain⟨jz,H⟩:=pos_ H
 have ke4:=A_ jz
 clear jz
 obtain⟨dy5,hyq⟩:∃y_:List (List Int),y_=(aq7 ++ [dy4]):=⟨_,rfl⟩
 replace H:(Fs.l0 k1 (wrap64 (ar + 1)) ab aa qm dy5)=some (r1,r2):=qh_
 have ke5:=A_ hyq
 clear hyq
 have H':=A_ H
 clear H
 have bx0:=ga3.out
 have bx1:=ga4.out
 have dc8:=cn4.out
 have dc9:=ev0.out
 obtain⟨uh,ui,uj,uk⟩:=blk2_ ko
 try go_wp2
 replace ah2:=rd_ ah2
 replace xk:=sd_ xk
 replace ko:=bd_ ko
 replace o2:=bd_ o2
 replace mz:=bd_ mz
 replace HB:=A_ (Ji HB.out)
 obtain⟨⟨ev1,ke6,ke7,ke8,ev2,hu8,hu9⟩,ga9,gb0⟩:=rdp_ (at_L1 bd.out ar)
 have dd0:=ev2
 cases ke8
 replace ev2:=cl_ HB ev2
 have hv0:=A_ hu9
 have nj6:=A_ hu8
 clear hu9 hu8
 refine start_ (n:=13) (S:=fun w'=>w'.cell? ⟨yy,0,none⟩=some (.slice ie qm.length gl)/\w'.cell? ⟨yy,1,none⟩=some (az6)/\w'.cell? ⟨yx,0,none⟩=some (.slice af ab.length ac)/\w'.cell? ⟨yx,1,none⟩=some (.slice (some ev1) aa.length ag)/\w'.cell? (ev1.add (ar).toNat)=some (.slice ke6 (Jr aa ar).length ke7)) (ds:=[12]) (tl_ 13 0) (g1_) rfl (g1_) ⟨(Jd mz.out 0).trans rfl,(Jd mz.out 1).trans rfl,(Jd ko.out 0).trans rfl,(Jd ko.out 1).trans rfl,((cl_ HB dd0).trans rfl)⟩ (fun hHeld=>?_);refine Jx Fs.tab5 Fs.bits5 (fun HT_ HW_=>?_)
 generalize wr.drew=uv at ah2 xk ko o2 mz HB hv0 ev2 hHeld |-
 refine pw_ 0 17 (tl_ 13 1) ?_
 refine pw_ 3 20 (tl_ 13 9) ?_
 refine pw_ 5 22 (tl_ 13 41) ?_
 refine tk4_ 1 18 (tl_ 13 43) hHeld ?_
 refine tk4_ 4 21 (tl_ 13 59) hHeld ?_
 refine pw_ 6 23 (tl_ 13 123) ?_
 refine tk4_ 7 24 (tl_ 13 251) hHeld ?_
 refine one_ (i:=2) (N:=some 19) (tl_ 13 255) rfl rfl (Jz HT_.out (g1_)) (by decide) (fun K hK=>?_)
 refine rls_ 19 [] ?_
 intro ke9 w23 cn5 hb hg_ hnew_
 clear hg_ hnew_
 (first|rw[<- hu7.out] at cn5|(simp only[Int.reduceToNat] at cn5;rw[<- hu7.out] at cn5))
 replace xk:=A_ (Kd.S_elder' (uS_ xk) (Kd.R_base cn5) hb)
 have dy6:=A_ (Kd.R_lower (Kd.R_new' cn5 (Kd.R_lt (uR_ ah2))) (Je (yl)))
 replace ah2:=A_ (Kd.R_elder' (uR_ ah2) (Kd.R_base cn5) hb)
 replace ko:=bb_ ko hb
 replace o2:=bb_ o2 hb
 replace mz:=bb_ mz hb
 replace HB:=hs_ (yl) hb
 clear hb cn5
 refine hK.out _ _ ⟨(Jd mz.out 0).trans rfl,(Jd mz.out 1).trans rfl,(Jd ko.out 0).trans rfl,(Jd ko.out 1).trans rfl,((cl_ HB dd0).trans rfl)⟩ (fun hHeld=>?_)
 clear hK K
 refine nm_ ?_
 refine one_ (i:=8) (N:=some 25) (tl_ 13 511) rfl rfl (Jz HT_.out (g1_)) (by decide) (fun K hK=>?_)
 refine Kd.R_append_rows_step (Kd.int .i64) (w0:=w) w.heap.size (by rfl) (.tmp 19) (.tmp 24) 22 3 (.int .i64 0) 8 rfl Try.underlying22 info3 rfl (by decide) (by omega) ke9 cn3 (Jr aa ar) _ _ _ (fun k_=>some k_≠(.slice ie qm.length gl:Value).ownBlock) (fun _=>False) rfl rfl ?aO ?aR (fun _ _ h=>h) (fun _ h=>h.elim) ?aF ?aB ?aS ?aL ?_
 (case aR=>exact uC_ hv0)
 (case aB=>exact(yl))
 (case aF=>exact(fun k_ hk=>Kd.fresh' (Kd.R_lt (uR_ ah2)) k_ hk))
 (case aO=>exact(yR_ dy6 (fun _ hk=>hk.2)))
 (case aS=>exact(Je (yl)))
 (case aL=>have:=ga8.out;omega)
 intro nj7 w25 ho hb hg hat
 rw[<- ke3.out] at ho
 replace ah2:=A_ (Kd.R_after (ok:=(fun _=>True)) (uR_ ah2) hg hat)
 replace xk:=A_ (Kd.S_after (ok:=(fun k_=>some k_≠(.slice ie qm.length gl:Value).ownBlock)) (uS_ xk) hg hat)
 replace ko:=(bg_ ko hg (Kd.R_ne dy6.out ko.out (by decide)))
 replace o2:=(bg_ o2 hg (Kd.R_ne dy6.out o2.out (by decide)))
 replace mz:=(bg_ mz hg (Kd.R_ne dy6.out mz.out (by decide)))
 replace HB:=A_ (hb)
 have ev3:=A_ (ho)
 clear dy6
 clear ho hb hg hat
 obtain⟨mc,l7,qn⟩:=Kd.R_slice ev3.out
 (first|subst qn|(injection qn with f1_ f2_ f3_;have f4_:=f1_.symm;have f5_:=f3_.symm;clear f1_ f2_ f3_;subst f4_;subst f5_))
 refine hK.out _ _ ⟨(Jd mz.out 0).trans rfl,(Jd mz.out 1).trans rfl,(Jd ko.out 0).trans rfl,(Jd ko.out 1).trans rfl,((cl_ HB dd0).trans rfl)⟩ (fun hHeld=>?_)
 clear hK K
 refine nm_ ?_
 refine one_ (i:=9) (N:=some 26) (tl_ 13 1023) rfl rfl (Jz HT_.out (g1_)) (by decide) (fun K hK=>?_)
 refine value_ (w1:=?_) (v:=?_) (by rfl) rfl ?_ ?_
 rotate_left 2
 ·go_simp
  constructor
  ·rfl
  rfl
 refine hK.out _ _ ⟨(Jd (Jl mz.out _) 0).trans rfl,(Jd (Jl mz.out _) 1).trans rfl,(Jd (Jl ko.out _) 0).trans rfl,(Jd (Jl ko.out _) 1).trans rfl,(World.cell?_alloc_lt _ _ _ (World.block_lt_of_cell? _ _ (((cl_ HB dd0).trans rfl)))).trans (((cl_ HB dd0).trans rfl))⟩ (fun hHeld=>?_)
 clear hK K
 refine nm_ ?_
 refine one_ (i:=10) (N:=some 27) (tl_ 13 2047) rfl rfl (Jz HT_.out (g1_)) (by decide) (fun K hK=>?_)
 refine Kd.S_append_step (Kd.slice 3 (Kd.int .i64)) (w0:=w) w.heap.size (by rfl) (.tmp 18) (.tmp 26) 23 22 (.slice none 0 0) 24 rfl Try.underlying23 info22 rfl (by decide) (by omega) az6 aq7 dy4 [.slice mc dy4.length l7] (fun k_=>some k_≠(.slice ie qm.length gl:Value).ownBlock) (fun k_=>some k_=(.slice mc dy4.length l7:Value).ownBlock) rfl rfl ?aP (fun k_ hk_=>((Kd.R_mono (ok':=fun k_=>((fun k_=>some k_≠(.slice ie qm.length gl:Value).ownBlock)) k_/\some k_≠(az6:Value).ownBlock) (Kd.R_apart' (ev3.out) (Kd.S_typed xk.out) (by decide)) (fun k_ hk=>⟨hk.1,hk.2⟩))).1 k_ hk_.symm) ?aF ?aO ?aB ?aS ?aL ?_
 (case aP=>exact Kd.M_row (Kd.R_mono (Kd.R_tight rfl (Kd.R_mono (ok':=fun k_=>((fun k_=>some k_≠(.slice ie qm.length gl:Value).ownBlock)) k_/\some k_≠(az6:Value).ownBlock) (Kd.R_apart' (ev3.out) (Kd.S_typed xk.out) (by decide)) (fun k_ hk=>⟨hk.1,hk.2⟩))) (fun _ h_=>h_)))
 (case aB=>exact(yl))
 (case aF=>exact(fun k_ hk=>Kd.fresh' (Kd.R_lt (uR_ ah2)) k_ hk))
 (case aO=>exact(by(with_reducible repeat(first|apply Kd.S_alloc|apply Kd.S_drewN|apply Kd.S_drew));exact Kd.S_mono xk.out (fun k_ hk=>⟨hk.1,fun e_=>hk.2 e_⟩)))
 (case aS=>exact(Je (yl)))
 (case aL=>have:=ke4.out;omega)
 intro nj8 w26 ho hb hg hat
 rw[<- ke5.out] at ho
 replace ah2:=A_ (Kd.R_over' (uR_ ah2) (Kd.S_typed (uS_ xk)) (by decide) hg)
 replace ko:=(bg_ ko hg (Kd.S_ne xk.out ko.out (by decide)))
 replace o2:=(bg_ o2 hg (Kd.S_ne xk.out o2.out (by decide)))
 replace mz:=(bg_ mz hg (Kd.S_ne xk.out mz.out (by decide)))
 replace HB:=A_ (hb)
 have hv1:=A_ (ho)
 clear xk ev3
 clear ho hb hg hat
 obtain⟨vz,we,al7⟩:=Kd.S_slice hv1.out
 (first|subst al7|(injection al7 with f1_ f2_ f3_;have f4_:=f1_.symm;have f5_:=f3_.symm;clear f1_ f2_ f3_;subst f4_;subst f5_))
 refine hK.out _ _ ⟨(Jd mz.out 0).trans rfl,(Jd mz.out 1).trans rfl,(Jd ko.out 0).trans rfl,(Jd ko.out 1).trans rfl,((cl_ HB dd0).trans rfl)⟩ (fun hHeld=>?_)
 clear hK K
 refine nm_ ?_
 refine pw_ 11 28 (tl_ 13 4095) ?_
 refine last_ (i:=12) (N:=none) (tl_ 13 8191) rfl rfl (Jz HT_.out (g1_)) (by decide) (fun K hK=>?_)
 have nj9:w26.cell? ⟨yy,1,none⟩=some (az6):=(Jd mz.out 1).trans rfl
 have nk0:=Jo mz.out 1
 have nk2:=dc7.out
 have nk4:=ga5.out
 refine skip_ (w1:=?_) (by rfl) rfl ?_ ?_
 rotate_left
 ·go_simp
  rfl
 refine hK.out _ _ ?_
 clear hK K
 refine done_ (done_of HT_.out (g1_)) ?_
 try go_wp2
 go_roundg k1
 case measure=>have:=HK1.out;omega
 case rel=>exact⟨(wrap64 (ar + 1)),(dy5),(.slice vz dy5.length we),(g3_),H',⟨g8_⟩,⟨ra_ ah2⟩,⟨sa_ hv1⟩,⟨ba_ ko⟩,⟨ba_ o2⟩,⟨ba_ mz⟩,⟨yl⟩⟩
def k25s:Kd S25 where
 sz:=k25.sz
 E:=k25.E
 K:=k25.K
 M:=fun w base ok x cs=>∃v0 v1,cs=[v0,v1]/\(Kd.int .i64).R 3 w base ok v0 x.f0/\Kd.S (Kd.slice 3 (Kd.int .i64)) 22 w base (fun k=>ok k/\some k≠v0.ownBlock) v1 x.f1
 K_len:=k25.K_len
 K_one:=k25.K_one
 K_below:=k25.K_below
 K_of_M:=fun h=>by
  obtain⟨v0,v1,rfl,h0,h1⟩:=h
  exact k25.K_of_M (k25_mkM _ _ _ _ h0 (Kd.R_mono (Kd.S_R h1) (fun _ hk=>hk.1)))
 M_mono:=fun hok h=>by
  obtain⟨v0,v1,rfl,h0,h1⟩:=h
  exact⟨v0,v1,rfl,Kd.R_mono h0 hok,Kd.S_mono h1 (fun _ hk=>⟨hok _ hk.1,hk.2⟩)⟩
 M_bound:=fun h=>by
  obtain⟨v0,v1,rfl,h0,h1⟩:=h
  refine⟨v0,v1,rfl,Kd.R_mono (Kd.R_bound h0) (fun _ hk=>⟨hk.1,hk.2.1,hk.2.2.1,?_⟩),Kd.S_mono (Kd.S_bound h1) (fun _ hk=>⟨⟨hk.1.1,hk.2.1,hk.2.2.1,?_⟩,hk.1.2⟩)⟩
  ·obtain⟨q,hq,c,hc⟩:=hk.2.2.2
   exact⟨q,(List.mem_cons.1 hq).elim (fun e_=>by rw[e_];decide) (fun h_=>absurd h_ (by simp[Kd.int,Kd.scalar])),c,hc⟩
  ·obtain⟨q,hq,c,hc⟩:=hk.2.2.2
   refine⟨q,?_,c,hc⟩
   have h2:q=22 ∨ q=3:=by simpa [Kd.slice,Kd.int,Kd.scalar] using hq
   rcases h2 with rfl|rfl <;> decide
 M_move:=fun hm h=>by
  obtain⟨v0,v1,rfl,h0,h1⟩:=h
  exact⟨v0,v1,rfl,Kd.R_move h0 hm,Kd.S_move h1 (fun _ hk=>hm _ hk.1)⟩
 M_lower:=fun hb h=>by
  obtain⟨v0,v1,rfl,h0,h1⟩:=h
  exact⟨v0,v1,rfl,Kd.R_lower h0 hb,Kd.S_lower h1 hb⟩
theorem k25s_mkM (w:World) (base:Nat) (ok:Nat->Prop) (x:S25) {v0:Value} (g0:(Kd.int .i64).R 3 w base ok v0 x.f0) {v1:Value} (g1:Kd.S (Kd.slice 3 (Kd.int .i64)) 22 w base (fun k=>ok k/\some k≠v0.ownBlock) v1 x.f1):k25s.M w base ok x [v0,v1]:=⟨v0,v1,rfl,g0,g1⟩
theorem k25s_M {w:World} {base:Nat} {ok:Nat->Prop} {x:S25} {cs:List Value} (h:k25s.M w base ok x cs):k25.M w base ok x cs:=by
 obtain⟨v0,v1,rfl,h0,h1⟩:=h
 exact k25_mkM _ _ _ _ h0 (Kd.R_mono (Kd.S_R h1) (fun _ hk=>hk.1))
theorem k25s_R {e:Nat} {w:World} {base:Nat} {ok:Nat->Prop} {v:Value} {xs:List S25} (h:Kd.S k25s e w base ok v xs):k25.R e w base ok v xs:=by
 obtain⟨h0,inner,ho,hr⟩:=Kd.S_R h
 exact⟨h0,inner,ho,hr.imp_ (fun _ _ hp=>k25s_M hp)⟩
def Fn.l0:Nat->Int->List Int->List (List Int)->List (S25)->List Int->List (List Int)->List (S25)->Option (List Int × (List (List Int)) × (List (S25)))
 | 0,_,_,_,_,_,_,_=>none
 | k + 1,x4,kf0,kf1,ev4,hv6,hv7,gb6=>if x4 < (ev4.length:Int) then(if 0<=x4 then((Fs.f k ((Js ev4 x4).f0) ((Js ev4 x4).f1)).bind fun bt164=>(if gb6.length < 2932031007402 then(Fn.l0 k (wrap64 (x4 + 1)) kf0 kf1 ev4 hv6 hv7 (gb6 ++ [(⟨bt164.1,bt164.2⟩:S25)])) else(none))) else(none)) else(some (hv6,hv7,gb6))
def Fn.f (k:Nat) (ab:List Int) (aa:List (List Int)) (aj:List (S25)):Option (List Int × (List (List Int)) × (List (S25))):=(Fs.f k ab aa).bind fun bt156=>(Fn.l0 k 0 ab aa aj bt156.1 bt156.2 ([]:List (S25)))
def Fn.T5:Bool × List (List Nat × List Nat):=(true,[([],[]),([0],[0]),([],[]),([2],[2]),([],[]),([3,4],[3,4]),([5],[5]),([6],[6]),([7],[7]),([1,8,7],[1,8]),([0,1,2,3,4,5,6,7,8,9],[]),([10,9,9,0,1,2,3,4,5,6,7,8,9],[9,10])])
def Fn.B5:List Nat:=[0,1,0,4,0,28,60,124,252,511,1023,2047]
theorem Fn.tab5:rtab .any (opsOf Try.f100 5)=Fn.T5:=by kernel_rfl
theorem Fn.bits5:waitsOk Fn.T5.2 Fn.B5=true:=by kernel_rfl
theorem Fn.calls_s_q0 {p:Prop} (h:p:=by repeat(first|(with_reducible first|exact HB.out|apply Jk|apply Jj|apply Ji|refine Jh ?_ kf2.out|refine Jh ?_ kf3.out|refine Jh ?_ fw2.out)|exact HB.out)):p:=h
set_option maxHeartbeats 8000000 in
set_option maxRecDepth 100000 in
theorem Fn.calls_s (k:Nat) (af:Option Addr) (ac:Nat) (ab:List Int) (ah:Option Addr) (ag:Nat) (aa:List (List Int)) (av:Option Addr) (au:Nat) (aj:List (S25)) (r1:List Int) (r2:List (List Int)) (r3:List (S25)) (w:World) (cb:Kd.C (Kd.int .i64) w af ab.length ab) (cg:ab.length<=ac) (cc:Kd.C (Kd.slice 3 (Kd.int .i64)) w ah aa.length aa) (ch:aa.length<=ag) (h9:Kd.C k25 w av aj.length aj) (ia:aj.length<=au) (h:Fn.f k ab aa aj=some (r1,r2,r3)) :
  Calls Try.prog 100 #[.agg #[.slice af ab.length ac, .slice ah aa.length ag, .slice av aj.length au]] w fun e w'=>∃v0_ v1_ v2_:Value,e = .returned (.agg #[v0_,v1_,v2_])/\Kd.R (Kd.int .i64) 3 w' w.heap.size (fun _=>True) v0_ r1/\Kd.S (Kd.slice 3 (Kd.int .i64)) 22 w' w.heap.size (fun k_=>some k_≠(v0_:Value).ownBlock) v1_ r2/\Kd.S k25s 25 w' w.heap.size (fun k_=>some k_≠(v0_:Value).ownBlock/\some k_≠(v1_:Value).ownBlock) v2_ r3/\Below w.heap.size w w':=by
 have hu28:=Try.underlying28
 have hu25:=Try.underlying25
 have bg:=A_ cb
 have bw:=A_ cg
 clear cb cg
 have bd:=A_ cc
 have b4:=A_ ch
 clear cc ch
 have gg:=A_ h9
 have g3:=A_ ia
 clear h9 ia
 have HB:=A_ (Below.refl w.heap.size w)
 have H:=h
 unfold Fn.f at H
 clear h
 replace H:=Option.bind_eq_some_iff.mp H
 obtain⟨⟨p0,rs⟩,vy,H⟩:=H
 try dsimp only at H
 have A2:=A_ vy
 clear vy
 have H':=A_ H
 clear H
 go_enter Try.func100,Try.ntmps100
 go_wp2_with (first|((with_reducible refine gd_ 1 ?_);refine bx_ (N:=1) #[.slice af ab.length ac, .slice ah aa.length ag, .slice av aj.length au] 28 ?_;intro ab4 hg w3 hbox hb;have lg:=A_ (hbox);have nk5:=A_ ((g66_:w.heap.size<=ab4));have kf2:=nk5;replace HB:=A_ (Jw (Fn.calls_s_q0) hb);clear hb hbox hg)|((with_reducible refine gd_ 2 ?_);refine bx_ (N:=2) #[.slice none 0 0, .slice none 0 0, .slice none 0 0] 28 ?_;intro tp hg w4 hbox hb;have rt:=A_ (hbox);have nk6:=A_ ((g66_:w.heap.size<=tp));have kf3:=nk6;replace HB:=A_ (Jw (Fn.calls_s_q0) hb);have gb8:=nl_ lg hg;have gc0:=nr_ lg hg;replace lg:=bb_ lg hb;clear hb hbox hg;have ev5:=gb8.out;have ev6:=gc0.out;obtain⟨ur,us,bm8,ut,uu,bm9⟩:=blk3_ lg)|((with_reducible refine gc_ 80 ?_);refine gl_ 7 Try.func80 #[.agg #[.slice af ab.length ac, .slice ah aa.length ag]] ?_;(refine(Fs.calls k _ _ ab _ _ aa p0 rs _ (uC_ bg) bw.out (uC_ bd) b4.out A2.out).mono ?_);rintro e w7 ⟨nk7,nk8,rfl,ai,ak,hb⟩;refine⟨_,rfl,?_⟩;have ev7:=A_ (Kd.R_lower ai (Je (Fn.calls_s_q0)));have ev8:=A_ (Kd.S_lower ak (Je (Fn.calls_s_q0)));replace lg:=bb_ lg hb;replace rt:=bb_ rt hb;replace HB:=A_ (Jw (Fn.calls_s_q0) hb);obtain⟨j3,j4,eo8⟩:=Kd.S_slice ev8.out;subst eo8;obtain⟨g5,fw,eo9⟩:=Kd.R_slice ev7.out;subst eo9)|((with_reducible refine gd_ 3 ?_);refine bx_ (N:=3) #[.slice none 0 0, .slice none 0 0, .slice none 0 0] 28 ?_;intro ma hg w10 hbox hb;replace ev7:=rb_ ev7 hb;replace ev8:=sb_ ev8 hb;have jf:=A_ (hbox);have jz5:=A_ ((g66_:w.heap.size<=ma));have fw2:=jz5;replace HB:=A_ (Jw (Fn.calls_s_q0) hb);have ca7:=nl_ lg hg;have ev9:=nr_ lg hg;replace lg:=bb_ lg hb;have cn7:=nl_ rt hg;have gc1:=nr_ rt hg;replace rt:=bb_ rt hb;clear hb hbox hg;have bg8:=ev9.out;have bg9:=ca7.out;have cl3:=gc1.out;have cl4:=cn7.out;obtain⟨sv,sw,bx2,sx,sy,bx3⟩:=blk3_ jf))
 go_loopg [4] k (fun kq v4 w'=>∃(ar:Int) (bo5:List (S25)) (az7:Value),v4 = .int .i64 ar/\Jc (Fn.l0 kq ar ab aa aj p0 rs bo5=some (r1,r2,r3))/\Jc (kq<=k)/\Jc (Kd.R (Kd.int .i64) 3 w' w.heap.size (fun _=>True) (.slice g5 p0.length fw) p0)/\Jc (Kd.S (Kd.slice 3 (Kd.int .i64)) 22 w' w.heap.size (fun k_=>some k_≠((.slice g5 p0.length fw):Value).ownBlock) (.slice j3 rs.length j4) rs)/\Jc (Kd.S k25s 25 w' w.heap.size (fun k_=>some k_≠((.slice g5 p0.length fw):Value).ownBlock/\some k_≠((.slice j3 rs.length j4):Value).ownBlock) az7 bo5)/\Jc (hc_ w' ab4 #[(.slice af ab.length ac),(.slice ah aa.length ag),(.slice av aj.length au)] 28)/\Jc (hc_ w' tp #[(.slice none 0 0),(.slice none 0 0),(.slice none 0 0)] 28)/\Jc (hc_ w' ma #[(.slice g5 p0.length fw),(.slice j3 rs.length j4),az7] 28)/\Jc (Below w.heap.size w w'))
 case atStart=>exact⟨(0),(([]:List (S25))),(.slice none 0 0),(g3_),H',⟨Nat.le_refl _⟩,⟨ra_ ev7⟩,⟨sa_ ev8⟩,⟨g34_⟩,⟨ba_ lg⟩,⟨ba_ rt⟩,⟨ba_ jf⟩,⟨Fn.calls_s_q0⟩⟩
 clear H'
 obtain⟨ar,bo5,az7,rfl,HA,HK1,ah3,al8,za,lg,rt,jf,HB⟩:=hrel
 cases gk with
 | zero=>exact absurd HA.out (by simp[Fn.l0])
 | succ k1=>?_
 have H:=HA.out
 clear HA
 simp only[Fn.l0] at H
 by_cases jl:ar < (aj.length:Int)
 case neg=>
  rw[if_neg jl] at H
  have aq8:=decide_eq_false jl
  clear jl
  simp only[Option.some.injEq,Prod.mk.injEq] at H
  obtain⟨rfl,rfl,rfl⟩:=H
  have dd6:=gb8.out
  have dd7:=gc0.out
  have dz3:=ca7.out
  have dz4:=ev9.out
  obtain⟨eu3,eu4,kf9,eu5,eu6,kg0⟩:=blk3_ lg
  have gb3:=gc1.out
  have gb4:=cn7.out
  obtain⟨hv2,hv3,nl6,hv4,hv5,nl7⟩:=blk3_ jf
  obtain⟨hx9,hy1,kg1,hy2,hy3,kg2⟩:=blk3_ rt
  obtain⟨oq,n0,cn8⟩:=Kd.S_slice za.out
  subst cn8
  go_wp2
  refine bodyPost_ret (results_cell_row rfl _ _ tp 28 #[.slice g5 p0.length fw, .slice j3 rs.length j4, .slice oq bo5.length n0] (0,0) _ rfl (ba_ rt) Try.underlying28 rfl (g1_)) rfl ?_
  exact⟨_,_,_,g4_,ra_ ah3,sa_ al8,sa_ za,Fn.calls_s_q0⟩
 rw[if_pos jl] at H
 have aq8:=decide_eq_true jl
 clear jl
 obtain⟨pf,H⟩:=pd_ H
 replace H:=Option.bind_eq_some_iff.mp H
 obtain⟨⟨dy7,dy8⟩,dy9,H⟩:=H
 try dsimp only at H
 have A16:=A_ dy9
 clear dy9
 obtain⟨i7,H⟩:=pos_ H
 have ga8:=A_ i7
 clear i7
 obtain⟨dd5,hyq⟩:∃y_:List (S25),y_=(bo5 ++ [(⟨dy7,dy8⟩:S25)]):=⟨_,rfl⟩
 replace H:(Fn.l0 k1 (wrap64 (ar + 1)) ab aa aj p0 rs dd5)=some (r1,r2,r3):=qh_
 have kf4:=A_ hyq
 clear hyq
 have H':=A_ H
 clear H
 have ds7:=gb8.out
 have ds8:=gc0.out
 have bx0:=ca7.out
 have bx1:=ev9.out
 obtain⟨bl8,bl9,fr5,bm0,bm1,fr6⟩:=blk3_ lg
 try go_wp2
 replace ah3:=rd_ ah3
 replace al8:=sd_ al8
 replace za:=sd_ za
 replace lg:=bd_ lg
 replace rt:=bd_ rt
 replace jf:=bd_ jf
 replace HB:=A_ (Ji HB.out)
 have gc2:0<=(ar:Int):=od_
 have gc3:ar < (aj.length:Int):=od_
 obtain⟨dz0,hv8,hv9,hw0,hw2,kf5,ew0,ew1,hw3,hw4,hw5,hw6⟩:=at_T25 gg.out ar gc2 gc3
 have dz1:=ew1
 have dz2:=ew0
 cases kf5
 replace ew0:=cl_ HB ew0
 replace ew1:=cl_ HB ew1
 have hw7:=A_ hw4
 have kf6:=A_ hw3
 clear hw4 hw3
 have hw8:=A_ hw6
 have kf7:=A_ hw5
 clear hw6 hw5
 replace gc2:=eq_true gc2
 replace gc3:=eq_true gc3
 refine start_ (n:=12) (S:=fun w'=>w'.cell? ⟨ma,0,none⟩=some (.slice g5 p0.length fw)/\w'.cell? ⟨ma,1,none⟩=some (.slice j3 rs.length j4)/\w'.cell? ⟨ma,2,none⟩=some (az7)/\w'.cell? ⟨ab4,0,none⟩=some (.slice af ab.length ac)/\w'.cell? ⟨ab4,1,none⟩=some (.slice ah aa.length ag)/\w'.cell? ⟨ab4,2,none⟩=some (.slice (some dz0) aj.length au)/\w'.cell? (dz0.add ((ar).toNat * 2))=some (.slice hv8 ((Js aj ar).f0).length hv9)/\w'.cell? ⟨(dz0.add ((ar).toNat * 2)).block,(dz0.add ((ar).toNat * 2)).off + 1,none⟩=some (.slice hw0 ((Js aj ar).f1).length hw2)) (ds:=[11]) (tl_ 12 0) (g1_) rfl (g1_) ⟨(Jd jf.out 0).trans rfl,(Jd jf.out 1).trans rfl,(Jd jf.out 2).trans rfl,(Jd lg.out 0).trans rfl,(Jd lg.out 1).trans rfl,(Jd lg.out 2).trans rfl,((cl_ HB dz2).trans rfl),((cl_ HB dz1).trans rfl)⟩ (fun hHeld=>?_);refine Jx Fn.tab5 Fn.bits5 (fun HT_ HW_=>?_)
 generalize wr.drew=w21 at ah3 al8 za lg rt jf HB hw7 hw8 ew0 ew1 hHeld |-
 refine pw_ 0 16 (tl_ 12 1) ?_
 refine pw_ 2 18 (tl_ 12 5) ?_
 refine pw_ 4 20 (tl_ 12 21) ?_
 refine tk5_ 1 17 (tl_ 12 23) hHeld ?_
 refine tk5_ 3 19 (tl_ 12 31) hHeld ?_
 refine pw_ 5 21 (tl_ 12 63) ?_
 refine tk5_ 6 22 (tl_ 12 127) hHeld ?_
 refine one_ (i:=7) (N:=some 23) (tl_ 12 255) rfl rfl (Jz HT_.out (g1_)) (by decide) (fun K hK=>?_)
 refine goes_ Try.func80 (g1_) rfl #[.agg #[.slice hv8 ((Js aj ar).f0).length hv9, .slice hw0 ((Js aj ar).f1).length hw2]] (by rfl) rfl rfl (gM_) ?_
 refine(Fs.calls k1 _ _ ((Js aj ar).f0) _ _ ((Js aj ar).f1) dy7 dy8 _ (uC_ hw7) kf6.out (uC_ hw8) kf7.out A16.out).mono ?_
 rintro e uv ⟨hw9,kf8,rfl,ai,ak,hb⟩
 refine⟨_,rfl,?_⟩
 have HP1:Jc (Kd.R (Kd.int .i64) 3 uv w.heap.size (fun k_=>w21.heap.size<=k_/\(fun k_=>some k_≠(.slice g5 p0.length fw:Value).ownBlock/\some k_≠(.slice j3 rs.length j4:Value).ownBlock) k_/\some k_≠(az7:Value).ownBlock) hw9 _):=A_ (Kd.R_lower (Kd.R_mono (Kd.R_bound ai) (fun _ hk=>⟨hk.2.1,⟨Kd.fresh' (Kd.R_lt ah3.out) _ hk.2.1,Kd.fresh' (Kd.S_lt al8.out) _ hk.2.1⟩,Kd.fresh' (Kd.S_lt za.out) _ hk.2.1⟩)) (Je (Fn.calls_s_q0)))
 have HP2:Jc (Kd.S (Kd.slice 3 (Kd.int .i64)) 22 uv w.heap.size (fun k_=>(fun k_=>w21.heap.size<=k_/\(fun k_=>some k_≠(.slice g5 p0.length fw:Value).ownBlock/\some k_≠(.slice j3 rs.length j4:Value).ownBlock) k_/\some k_≠(az7:Value).ownBlock) k_/\some k_≠(hw9:Value).ownBlock) kf8 _):=A_ (Kd.S_lower (Kd.S_mono (Kd.S_bound ak) (fun _ hk=>⟨⟨hk.2.1,⟨Kd.fresh' (Kd.R_lt ah3.out) _ hk.2.1,Kd.fresh' (Kd.S_lt al8.out) _ hk.2.1⟩,Kd.fresh' (Kd.S_lt za.out) _ hk.2.1⟩,hk.1⟩)) (Je (Fn.calls_s_q0)))
 have HP3:=A_ (Kd.S_old (uS_ za) hb)
 replace za:=A_ (Kd.S_mono (Kd.S_told (Kd.S_told (Kd.S_old (uS_ za) hb) (Kd.R_base ai)) (Kd.S_base ak)) (fun _ h_=>h_.1))
 have hx6:=A_ (Kd.R_lower (Kd.R_new' ai (Kd.R_lt (uR_ ah3))) (Je (Fn.calls_s_q0)))
 have hx7:=A_ (Kd.S_lower (Kd.S_new' (Kd.S_new' ak (Kd.R_lt (uR_ ah3))) (Kd.S_lt (uS_ al8))) (Je (Fn.calls_s_q0)))
 replace ah3:=A_ (Kd.R_elder' (uR_ ah3) (Kd.R_base ai) hb)
 replace al8:=A_ (Kd.S_mono (Kd.S_told (Kd.S_told (Kd.S_old (uS_ al8) hb) (Kd.R_base ai)) (Kd.S_base ak)) (fun _ h_=>h_.1))
 replace lg:=bb_ lg hb
 replace rt:=bb_ rt hb
 replace jf:=bb_ jf hb
 replace HB:=A_ (Jw (Fn.calls_s_q0) hb)
 obtain⟨ab5,ew,ca8⟩:=Kd.R_slice hx6.out
 (first|subst ca8|(injection ca8 with f1_ f2_ f3_;have f4_:=f1_.symm;have f5_:=f3_.symm;clear f1_ f2_ f3_;subst f4_;subst f5_))
 obtain⟨bh0,bh1,bo6⟩:=Kd.S_slice hx7.out
 (first|subst bo6|(injection bo6 with f1_ f2_ f3_;have f4_:=f1_.symm;have f5_:=f3_.symm;clear f1_ f2_ f3_;subst f4_;subst f5_))
 refine hK.out _ _ ⟨(Jd jf.out 0).trans rfl,(Jd jf.out 1).trans rfl,(Jd jf.out 2).trans rfl,(Jd lg.out 0).trans rfl,(Jd lg.out 1).trans rfl,(Jd lg.out 2).trans rfl,((cl_ HB dz2).trans rfl),((cl_ HB dz1).trans rfl)⟩ (fun hHeld=>?_)
 clear hK K
 refine nm_ ?_
 refine one_ (i:=8) (N:=some 24) (tl_ 12 511) rfl rfl (Jz HT_.out (g1_)) (by decide) (fun K hK=>?_)
 refine value_ (w1:=?_) (v:=?_) (by rfl) rfl ?_ ?_
 rotate_left 2
 ·go_simp
  constructor
  ·rfl
  rfl
 refine hK.out _ _ ⟨(Jd (Jl jf.out _) 0).trans rfl,(Jd (Jl jf.out _) 1).trans rfl,(Jd (Jl jf.out _) 2).trans rfl,(Jd (Jl lg.out _) 0).trans rfl,(Jd (Jl lg.out _) 1).trans rfl,(Jd (Jl lg.out _) 2).trans rfl,(World.cell?_alloc_lt _ _ _ (World.block_lt_of_cell? _ _ (((cl_ HB dz2).trans rfl)))).trans (((cl_ HB dz2).trans rfl)),(World.cell?_alloc_lt _ _ _ (World.block_lt_of_cell? _ _ (((cl_ HB dz1).trans rfl)))).trans (((cl_ HB dz1).trans rfl))⟩ (fun hHeld=>?_)
 clear hK K
 refine nm_ ?_
 refine one_ (i:=9) (N:=some 25) (tl_ 12 1023) rfl rfl (Jz HT_.out (g1_)) (by decide) (fun K hK=>?_)
 refine Kd.S_append_step k25s (w0:=w) w.heap.size (by rfl) (.tmp 17) (.tmp 24) 26 25 (.agg #[(.slice none 0 0),(.slice none 0 0)]) 48 rfl Try.underlying26 info25 rfl (by decide) (by omega) az7 bo5 (⟨dy7,dy8⟩:S25) [.slice ab5 dy7.length ew, .slice bh0 dy8.length bh1] (fun k_=>some k_≠(.slice g5 p0.length fw:Value).ownBlock/\some k_≠(.slice j3 rs.length j4:Value).ownBlock) (fun k_=>w21.heap.size<=k_/\(fun k_=>some k_≠(.slice g5 p0.length fw:Value).ownBlock/\some k_≠(.slice j3 rs.length j4:Value).ownBlock) k_/\some k_≠(az7:Value).ownBlock) rfl rfl ?aP (fun _ hk=>hk.2) ?aF ?aO ?aB ?aS ?aL ?_
 (case aP=>exact k25s_mkM _ _ _ (⟨dy7,dy8⟩:S25) HP1.out HP2.out)
 (case aB=>exact(Fn.calls_s_q0))
 (case aF=>exact(fun k_ hk=>⟨Kd.fresh' (Kd.R_lt (uR_ ah3)) k_ hk,Kd.fresh' (Kd.S_lt (uS_ al8)) k_ hk⟩))
 (case aO=>exact Kd.S_mono HP3.out (fun _ hk=>⟨hk.1,fun h_=>Nat.not_le.2 hk.2 h_.1⟩))
 (case aS=>exact(Je (Fn.calls_s_q0)))
 (case aL=>have:=ga8.out;omega)
 intro nk9 w23 ho hb hg hat
 rw[<- kf4.out] at ho
 replace ah3:=A_ (Kd.R_over' (uR_ ah3) (Kd.S_typed (uS_ za)) (by decide) hg)
 replace al8:=A_ (Kd.S_over' (uS_ al8) (Kd.S_typed (uS_ za)) (by decide) hg)
 replace lg:=(bg_ lg hg (Kd.S_ne za.out lg.out (by decide)))
 replace rt:=(bg_ rt hg (Kd.S_ne za.out rt.out (by decide)))
 replace jf:=(bg_ jf hg (Kd.S_ne za.out jf.out (by decide)))
 replace HB:=A_ (hb)
 have hx8:=A_ (ho)
 clear za hx6 hx7
 clear ho hb hg hat
 obtain⟨kr,ks,qy⟩:=Kd.S_slice hx8.out
 (first|subst qy|(injection qy with f1_ f2_ f3_;have f4_:=f1_.symm;have f5_:=f3_.symm;clear f1_ f2_ f3_;subst f4_;subst f5_))
 refine hK.out _ _ ⟨(Jd jf.out 0).trans rfl,(Jd jf.out 1).trans rfl,(Jd jf.out 2).trans rfl,(Jd lg.out 0).trans rfl,(Jd lg.out 1).trans rfl,(Jd lg.out 2).trans rfl,((cl_ HB dz2).trans rfl),((cl_ HB dz1).trans rfl)⟩ (fun hHeld=>?_)
 clear hK K
 refine nm_ ?_
 refine pw_ 10 26 (tl_ 12 2047) ?_
 refine last_ (i:=11) (N:=none) (tl_ 12 4095) rfl rfl (Jz HT_.out (g1_)) (by decide) (fun K hK=>?_)
 have nl0:w23.cell? ⟨ma,2,none⟩=some (az7):=(Jd jf.out 2).trans rfl
 have nl1:=Jo jf.out 2
 have nl3:=cn7.out
 have nl5:=gc1.out
 refine skip_ (w1:=?_) (by rfl) rfl ?_ ?_
 rotate_left
 ·go_simp
  rfl
 refine hK.out _ _ ?_
 clear hK K
 refine done_ (done_of HT_.out (g1_)) ?_
 try go_wp2
 go_roundg k1
 case measure=>have:=HK1.out;omega
 case rel=>exact⟨(wrap64 (ar + 1)),(dd5),(.slice kr dd5.length ks),(g3_),H',⟨g8_⟩,⟨ra_ ah3⟩,⟨sa_ al8⟩,⟨sa_ hx8⟩,⟨ba_ lg⟩,⟨ba_ rt⟩,⟨ba_ jf⟩,⟨Fn.calls_s_q0⟩⟩
theorem Fn.calls (k:Nat) (af:Option Addr) (ac:Nat) (ab:List Int) (ah:Option Addr) (ag:Nat) (aa:List (List Int)) (av:Option Addr) (au:Nat) (aj:List (S25)) (r1:List Int) (r2:List (List Int)) (r3:List (S25)) (w:World) (cb:Kd.C (Kd.int .i64) w af ab.length ab) (cg:ab.length<=ac) (cc:Kd.C (Kd.slice 3 (Kd.int .i64)) w ah aa.length aa) (ch:aa.length<=ag) (h9:Kd.C k25 w av aj.length aj) (ia:aj.length<=au) (h:Fn.f k ab aa aj=some (r1,r2,r3)) :
  Calls Try.prog 100 #[.agg #[.slice af ab.length ac, .slice ah aa.length ag, .slice av aj.length au]] w fun e w'=>∃v0_ v1_ v2_:Value,e = .returned (.agg #[v0_,v1_,v2_])/\Kd.R (Kd.int .i64) 3 w' w.heap.size (fun _=>True) v0_ r1/\Kd.S (Kd.slice 3 (Kd.int .i64)) 22 w' w.heap.size (fun k_=>some k_≠(v0_:Value).ownBlock) v1_ r2/\Kd.R k25 25 w' w.heap.size (fun k_=>some k_≠(v0_:Value).ownBlock/\some k_≠(v1_:Value).ownBlock) v2_ r3/\Below w.heap.size w w':=by
 refine(Fn.calls_s k af ac ab ah ag aa av au aj r1 r2 r3 w cb cg cc ch h9 ia h).mono ?_
 rintro e w' ⟨v0_,v1_,v2_,he,h0,h1,h2,hb⟩
 exact⟨v0_,v1_,v2_,he,h0,h1,k25s_R h2,hb⟩
end Go.Proofs.Ytfooakkhkehpiaa.PE
namespace Go.Proofs.Ytfooakkhkehpiaa.PE
open Go.RowKit Go.Proofs.YtfooakkhkehpiaaW.PrintWords Go.Proofs.YtfooakkhkehpiaaW.PrintLast Go.Proofs.YtfooakkhkehpiaaW.PrintMore
set_option linter.unusedVariables false
set_option linter.unusedSimpArgs false
def Gj.l0:Nat->List (S25)->Int->Int->Option (Int × List (S25))
  | 0,_,_,_=>none
  | k + 1,xs,x1,x5=>if x5 < (xs.length:Int) then(if 0<=x5 then((F5.f k (xs.getD x5.toNat z25).f0 x1).bind fun bt=>(F9.f k (xs.getD x5.toNat z25).f1 bt.1).bind fun bs=>Gj.l0 k (xs.set x5.toNat ⟨bt.2,bs.2⟩) bs.1 (wrap64 (x5 + 1))) else none) else some (x1,xs)
def Gj.f (k:Nat) (l0:List (S25)) (a1:Int):Option (Int × List (S25)):=Gj.l0 k l0 a1 0
set_option maxHeartbeats 8000000 in
set_option maxRecDepth 100000 in
theorem Gj.calls (k:Nat) (u:Value) (l0:List (S25)) (a1 r1:Int) (r2:List (S25)) (w0 w:World) (ok:Nat->Prop) (hB:Below w0.heap.size w0 w) (ho0:Kd.S k25s 25 w w0.heap.size ok u l0) (h:Gj.f k l0 a1=some (r1,r2)) :
    Calls Try.prog 67 #[u, .int .i64 a1] w fun e w'=>e = .returned (.int .i64 r1)/\Kd.S k25s 25 w' w0.heap.size ok u r2/\Below w0.heap.size w0 w'/\Kept w w' ok:=by
  have hu25:=Try.underlying25
  obtain⟨A,c,rfl,hlc,hC⟩:=Kd.S_reads ho0
  have hn:l0.length<=9223372036854775807:=hC.2.1
  have HN:=Jc.mk hn
  have HS:=Jc.mk ho0
  have HK:=Jc.mk (Kept.refl w ok)
  have HB:=Jc.mk hB
  have H':=Jc.mk (show Gj.l0 k l0 a1 0=some (r1,r2) from h)
  clear hC hB h hn ho0
  generalize hNl:l0.length=n at *
  have HNN:=Jc.mk hNl
  clear hNl
  go_enter Try.func67,Try.ntmps67
  go_wp2
  go_loopg [1,5] k (fun kq v1 v5 w'=>∃(x1_1:Int) (i:Nat) (cur:List (S25)),v1 = .int .i64 x1_1/\v5 = .int .i64 i/\i<=n/\Jc (cur.length=n)/\Jc (Gj.l0 kq cur x1_1 i=some (r1,r2))/\Jc (kq<=k)/\Jc (Kd.S k25s 25 w' w0.heap.size ok (.slice A n c) cur)/\Jc (Kept w w' ok)/\Jc (Below w0.heap.size w0 w'))
  case atStart=>exact⟨a1,0,l0,rfl,rfl,Nat.zero_le _,HNN,H',⟨Nat.le_refl _⟩,⟨by(with_reducible repeat(first|apply Kd.S_alloc|apply Kd.S_drewN|apply Kd.S_drew));exact HS.out⟩,⟨by repeat(first|(with_reducible first|exact HK.out|apply Kept.alloc|apply Kept.drewN|apply Kept.drew)|exact HK.out)⟩,⟨by repeat(first|(with_reducible first|exact HB.out|apply Jk|apply Jj|apply Ji)|exact HB.out)⟩⟩
  case round=>
    clear H' HK HB HS HNN
    obtain⟨x1_1,i,cur,rfl,rfl,hi,HNN,HA,HK1,HS,HK,HB⟩:=hrel
    cases gk with
    | zero=>exact absurd HA.out (by simp[Gj.l0])
    | succ k1=>
      have H:=HA.out
      clear HA
      simp only[Gj.l0] at H
      rw[HNN.out,Int.toNat_natCast] at H
      by_cases hlt:i < n
      · rw[if_pos (by omega),if_pos (by omega)] at H
        obtain⟨⟨t1,t2⟩,A0,H⟩:=Option.bind_eq_some_iff.mp H
        have AT:=Jc.mk A0
        clear A0
        obtain⟨⟨t3,t4⟩,A0,H⟩:=Option.bind_eq_some_iff.mp H
        have AU:=Jc.mk A0
        clear A0
        have H':=Jc.mk H
        clear H
        obtain⟨g,cap,he,_,_,cells,hcell⟩:=Kd.S_form HS.out (by rw[HNN.out];omega)
        obtain⟨rfl,rfl⟩:A=some ⟨g,0,none⟩/\c=cap:=by
          injection he with h1 h2 h3
          exact⟨h1,h3⟩
        clear he hcell
        obtain⟨oki,cc,_,hM,hcc,hoki,hH⟩:=Kd.S_lend HS.out z25 (i:Int) (by omega) (by omega)
        have HOK:=Jc.mk hoki
        have HH:=Jc.mk hH
        clear hH hoki
        rw[Int.toNat_natCast] at hM
        obtain⟨v0,v1,rfl,hv0,hv1⟩:=hM
        have hx0:wr.cell? ⟨g,i * 2,none⟩=some v0:=by
          have:=hcc 0 v0 rfl
          rw[Int.toNat_natCast] at this
          exact this
        have hx1:wr.cell? ⟨g,i * 2 + 1,none⟩=some v1:=by
          have:=hcc 1 v1 rfl
          rw[Int.toNat_natCast] at this
          exact this
        clear hcc
        have HR0:=Jc.mk (Kd.R_mono (ok':=fun k=>oki k/\some k=v0.ownBlock) (Kd.R_tight rfl hv0) (fun k hk=>⟨hv0.1 k hk.symm,hk⟩))
        have HR1:=Jc.mk hv1
        clear hv0 hv1
        have p5:(0<=(i:Int))=True:=eq_true (by omega)
        have q5:((i:Int) < (n:Int))=True:=eq_true (by omega)
        have c3b0:decide ((i:Int) < (n:Int))=true:=decide_eq_true (by omega)
        go_wp2_with (first|((with_reducible refine Jf (f:=87) rfl ?_);refine goesL_ (some 18) rfl rfl Try.func87 (by kernel_rfl) rfl #[v0, .int .i64 x1_1] rfl (by(try simp only[List.map_toArray,List.map_cons,List.map_nil]);first|done|rfl) ?_;(with_reducible refine(F5.calls k1 (fun k=>oki k/\some k=v0.ownBlock) v0 (cur.getD i z25).f0 x1_1 t1 t2 w0 _ ?side1 ?side2 AT.out).mono ?_);(case side1=>repeat(first|(with_reducible first|exact HB.out|apply Jk|apply Jj|apply Ji)|exact HB.out));(case side2=>(with_reducible repeat(first|apply Kd.R_alloc|apply Kd.R_drewN|apply Kd.R_drew));exact HR0.out);rintro e w8 ⟨rfl,hy,hb,hkp⟩;refine⟨_,rfl,?_⟩;have n0_:=Jc.mk (Kept.then_ (S:=ok) (by repeat(first|(with_reducible first|exact HK.out|apply Kept.alloc|apply Kept.drewN|apply Kept.drew)|exact HK.out)) hkp (fun k_ hs=>.inl (HOK.out k_ hs.1).1));have n1_:=Jc.mk hb;have n2_:=Jc.mk (Kd.H_step (w1:=w8) (by(with_reducible repeat(first|apply Kd.H_alloc|apply Kd.H_drewN|apply Kd.H_drew));exact HH.out) (fun k_ _ hno hl=>hkp.2 k_ hl (fun e_=>hno e_.1)));have n3_:=Jc.mk (Kd.R_reok rfl hy (ok:=fun k=>oki k/\some k=v0.ownBlock) (fun k_ e_=>HR0.out.1 k_ e_));have n4_:=Jc.mk (Kd.S_kept (ok:=fun k=>oki k/\some k≠v0.ownBlock) (by(with_reducible repeat(first|apply Kd.S_alloc|apply Kd.S_drewN|apply Kd.S_drew));exact HR1.out) hkp (fun k_ h_ e_=>h_.2 e_.2));clear HK HB HH HR0 HR1 hb hkp hy;have HK:=n0_;have HB:=n1_;have HH:=n2_;have HR0:=n3_;have HR1:=n4_;clear n0_ n1_ n2_ n3_ n4_;have hz1:w8.cell? ⟨g,i * 2 + 1,none⟩=some v1:=(by obtain⟨_,_,_,_,_,hcc_,_⟩:=Kd.H_raw HH.out (by omega) (by omega);have:=hcc_ 1 v1 rfl;rw[Int.toNat_natCast] at this;exact this))|((with_reducible refine Jf (f:=88) rfl ?_);refine goesL_ (some 25) rfl rfl Try.func88 (by kernel_rfl) rfl #[v1, .int .i64 t1] rfl (by(try simp only[List.map_toArray,List.map_cons,List.map_nil]);first|done|rfl) ?_;(with_reducible refine(F9.calls k1 v1 (cur.getD i z25).f1 t1 t3 t4 w0 _ (fun k=>oki k/\some k≠v0.ownBlock) ?side1 ?side2 AU.out).mono ?_);(case side1=>repeat(first|(with_reducible first|exact HB.out|apply Jk|apply Jj|apply Ji)|exact HB.out));(case side2=>(with_reducible repeat(first|apply Kd.S_alloc|apply Kd.S_drewN|apply Kd.S_drew));exact HR1.out);rintro e w9 ⟨rfl,hy,hb,hkp⟩;refine⟨_,rfl,?_⟩;have n0_:=Jc.mk (Kept.then_ (S:=ok) (by repeat(first|(with_reducible first|exact HK.out|apply Kept.alloc|apply Kept.drewN|apply Kept.drew)|exact HK.out)) hkp (fun k_ hs=>.inl (HOK.out k_ hs.1).1));have n1_:=Jc.mk hb;have n2_:=Jc.mk (Kd.H_step (w1:=w9) (by(with_reducible repeat(first|apply Kd.H_alloc|apply Kd.H_drewN|apply Kd.H_drew));exact HH.out) (fun k_ _ hno hl=>hkp.2 k_ hl (fun e_=>hno e_.1)));have n3_:=Jc.mk (Kd.R_kept (ok:=fun k=>oki k/\some k=v0.ownBlock) (by(with_reducible repeat(first|apply Kd.R_alloc|apply Kd.R_drewN|apply Kd.R_drew));exact HR0.out) hkp (fun k_ h_ e_=>e_.2 h_.2));have n4_:=Jc.mk hy;clear HK HB HH HR0 HR1 hb hkp hy;have HK:=n0_;have HB:=n1_;have HH:=n2_;have HR0:=n3_;have HR1:=n4_;clear n0_ n1_ n2_ n3_ n4_))
        go_roundg k1
        case measure=>have:=HK1.out;omega
        case rel=>
          have hs:wrap64 ((i:Int) + 1)=((i + 1:Nat):Int):=by have:=HN.out;unfold wrap64;omega
          have hback:=Kd.H_back (okp:=oki) HH.out (x':=(⟨t2,t4⟩:S25)) ⟨v0,v1,rfl,Kd.R_mono HR0.out (fun _ h_=>h_.1),HR1.out⟩ (fun _ h_=>h_)
          rw[Int.toNat_natCast] at hback
          exact⟨t3,i + 1,cur.set i ⟨t2,t4⟩,rfl,by rw[<- hs],by omega,⟨by rw[List.length_set];exact HNN.out⟩,⟨by have:=H'.out;rw[hs] at this;exact this⟩,⟨by have:=HK1.out;omega⟩,⟨by(with_reducible repeat(first|apply Kd.S_alloc|apply Kd.S_drewN|apply Kd.S_drew));exact hback⟩,⟨by repeat(first|(with_reducible first|exact HK.out|apply Kept.alloc|apply Kept.drewN|apply Kept.drew)|exact HK.out)⟩,⟨by repeat(first|(with_reducible first|exact HB.out|apply Jk|apply Jj|apply Ji)|exact HB.out)⟩⟩
      · rw[if_neg (by omega)] at H
        have c3b0:decide ((i:Int) < (n:Int))=false:=decide_eq_false (by omega)
        obtain⟨rfl,rfl⟩:x1_1=r1/\cur=r2:=by
          have:=Option.some.inj H
          exact⟨congrArg Prod.fst this,congrArg Prod.snd this⟩
        go_wp2
        go_ret
        exact⟨rfl,by(with_reducible repeat(first|apply Kd.S_alloc|apply Kd.S_drewN|apply Kd.S_drew));exact HS.out,by repeat(first|(with_reducible first|exact HB.out|apply Jk|apply Jj|apply Ji)|exact HB.out),by repeat(first|(with_reducible first|exact HK.out|apply Kept.alloc|apply Kept.drewN|apply Kept.drew)|exact HK.out)⟩
def DkS (base lo hi:Nat) (u0 u1 u2:Value) (c:List Int) (d:List (List Int)) (ps:List (S25)) (W:World):Prop:=
  hi<=W.heap.size/\∃mid,lo<=mid/\mid<=hi/\BkAt base lo mid (fun _=>True) u0 u1 c d W/\Kd.S k25s 25 W base (fun k=>mid<=k/\k < hi) u2 ps
section
variable {base lo hi:Nat} {u0 u1 u2:Value} {c:List Int} {d:List (List Int)} {ps:List (S25)} {W W1:World}
theorem DkS.step (h:DkS base lo hi u0 u1 u2 c d ps W) (hm:∀k,lo<=k->k < hi->W1.heap[k]? = W.heap[k]?) (hs:hi<=W1.heap.size):DkS base lo hi u0 u1 u2 c d ps W1:=by
  obtain⟨_,mid,h1,h2,h3,h4⟩:=h
  exact⟨hs,mid,h1,h2,h3.step (fun k a b=>hm k a (by omega)) (Nat.le_trans h2 hs),Kd.S_step h4 (fun k hk _=>hm k (by omega) hk.2)⟩
theorem DkS.below (h:DkS base lo hi u0 u1 u2 c d ps W) (hb:Below W.heap.size W W1):DkS base lo hi u0 u1 u2 c d ps W1:=
  h.step (fun k _ hk=>hb.block k (Nat.lt_of_lt_of_le hk h.1)) (Nat.le_trans h.1 hb.size)
theorem DkS.drew (h:DkS base lo hi u0 u1 u2 c d ps W):DkS base lo hi u0 u1 u2 c d ps W.drew:=h.below (below_drew (Below.refl _ _))
theorem DkS.set (h:DkS base lo hi u0 u1 u2 c d ps W) {p:Addr} (hp:p.block < lo ∨ hi<=p.block) (u:Value):DkS base lo hi u0 u1 u2 c d ps (W.setCell p u):=
  h.step (fun k h1 h2=>Below.heap_setCell W p u k (fun e=>by omega)) (by rw[World.size_setCell];exact h.1)
theorem DkS.kept (h:DkS base lo hi u0 u1 u2 c d ps W) {l2 h2:Nat} (hk:Kept W W1 (fun k=>l2<=k/\k < h2)) (ha:hi<=l2 ∨ h2<=lo):DkS base lo hi u0 u1 u2 c d ps W1:=
  h.step (fun k h3 h4=>hk.2 k (Nat.lt_of_lt_of_le h4 h.1) (fun hs=>by omega)) (Nat.le_trans h.1 hk.1)
theorem BkAt.lower {b b' lo hi:Nat} {q:Nat->Prop} (h:BkAt b lo hi q u0 u1 c d W) (hb:b'<=b):BkAt b' lo hi q u0 u1 c d W:=⟨h.1,Kd.R_lower h.2.1 hb,Kd.S_lower h.2.2 hb⟩
theorem BkAt.widen {b lo lo' hi:Nat} {q:Nat->Prop} (h:BkAt b lo hi q u0 u1 c d W) (hl:lo'<=lo):BkAt b lo' hi q u0 u1 c d W:=⟨h.1,Kd.R_mono h.2.1 (fun k hk=>⟨⟨⟨by have:=hk.1.1.1;omega,hk.1.1.2⟩,hk.1.2⟩,hk.2⟩),Kd.S_mono h.2.2 (fun k hk=>⟨⟨⟨by have:=hk.1.1.1;omega,hk.1.1.2⟩,hk.1.2⟩,hk.2⟩)⟩
theorem DkS.lower {b':Nat} (h:DkS base lo hi u0 u1 u2 c d ps W) (hb:b'<=base):DkS b' lo hi u0 u1 u2 c d ps W:=by
  obtain⟨h0,mid,h1,h2,h3,h4⟩:=h
  exact⟨h0,mid,h1,h2,h3.lower hb,Kd.S_lower h4 hb⟩
theorem DkS.ext {lo' hi':Nat} (h:DkS base lo hi u0 u1 u2 c d ps W) (hl:lo'<=lo) (h1:hi<=hi') (h2:hi'<=W.heap.size):DkS base lo' hi' u0 u1 u2 c d ps W:=by
  obtain⟨_,mid,g1,g2,h3,h4⟩:=h
  exact⟨h2,mid,by omega,by omega,h3.widen hl,Kd.S_mono h4 (fun k hk=>⟨hk.1,by omega⟩)⟩
theorem DkS.tell (h:DkS base lo hi u0 u1 u2 c d ps W):Kd.R (Kd.int .i64) 3 W base (fun _=>True) u0 c/\Kd.S (Kd.slice 3 (Kd.int .i64)) 22 W base (fun k_=>some k_≠u0.ownBlock) u1 d/\Kd.S k25s 25 W base (fun k_=>some k_≠u0.ownBlock/\some k_≠u1.ownBlock) u2 ps:=by
  obtain⟨h0,mid,h1,h2,h3,h4⟩:=h
  refine⟨Kd.R_mono h3.2.1 (fun _ _=>trivial),Kd.S_mono h3.2.2 (fun _ hk=>hk.2),Kd.S_mono h4 (fun k hk=>⟨fun e=>?_,fun e=>?_⟩)⟩
  · have:=h3.2.1.1 k e.symm
    have:=this.1.1.2
    omega
  · have:=(Kd.S_R h3.2.2).1 k e.symm
    have:=this.1.1.2
    omega
theorem DkS.tellR (h:DkS base lo hi u0 u1 u2 c d ps W):Kd.R (Kd.int .i64) 3 W base (fun _=>True) u0 c/\Kd.S (Kd.slice 3 (Kd.int .i64)) 22 W base (fun k_=>some k_≠u0.ownBlock) u1 d/\Kd.R k25 25 W base (fun k_=>some k_≠u0.ownBlock/\some k_≠u1.ownBlock) u2 ps:=⟨h.tell.1,h.tell.2.1,k25s_R h.tell.2.2⟩
theorem DkS.nil (W:World) (hb:base<=W.heap.size) (hl:lo<=W.heap.size):DkS base lo W.heap.size (.slice none 0 0) (.slice none 0 0) (.slice none 0 0) [] [] [] W:=
  ⟨Nat.le_refl _,W.heap.size,hl,Nat.le_refl _,⟨Nat.le_refl _,Kd.R_nil _ _ _ _ _,Kd.S_nil _ _ _ _ _⟩,Kd.S_nil _ _ _ _ _⟩
def Ty0 (W:World) (g:Nat):Prop:=∃(t:Nat) (cells:Array Value),W.heap[g]? = some (.cells cells t (0,0))/\(t≠3/\t≠22/\t≠25)
theorem Ty0.of {g t:Nat} {cells:Array Value} (h:W.heap[g]? = some (.cells cells t (0,0))) (ht:t≠3/\t≠22/\t≠25):Ty0 W g:=⟨t,cells,h,ht⟩
theorem Ty0.set {g g' j:Nat} (h:Ty0 W g) (u:Value):Ty0 (W.setCell ⟨g',j,none⟩ u) g:=by
  obtain⟨t,cells,h,ht⟩:=h
  by_cases he:g=g'
  · subst he
    exact⟨t,_,blk_set h j u,ht⟩
  · exact⟨t,cells,by rw[Below.heap_setCell W _ u g he];exact h,ht⟩
theorem DkS.setT {g j:Nat} (h:DkS base lo hi u0 u1 u2 c d ps W) (ht:Ty0 W g) (u:Value):DkS base lo hi u0 u1 u2 c d ps (W.setCell ⟨g,j,none⟩ u):=by
  obtain⟨h0,mid,h1,h2,⟨h5,h6,h7⟩,h4⟩:=h
  obtain⟨t,cells,hb,t3,t22,t25⟩:=ht
  refine⟨by rw[World.size_setCell];exact h0,mid,h1,h2,⟨by rw[World.size_setCell];exact h5,Kd.R_mono (Kd.R_far (p:=⟨g,j,none⟩) (Kd.R_types h6 hb ?_) (fun _ hk=>hk.2) u) (fun _ hk=>hk.1),Kd.S_set h7 hb ?_ j u⟩,Kd.S_set h4 hb ?_ j u⟩
  · intro q hq
    have:q=3:=by simpa [Kd.int,Kd.scalar] using hq
    omega
  · intro q hq
    have h2:q=22 ∨ q=3:=by simpa [Kd.slice,Kd.int,Kd.scalar] using hq
    omega
  · intro q hq
    have h2:q=25 ∨ q ∈ k25s.E:=by simpa using hq
    rcases h2 with rfl|h2
    · omega
    · have:q=3 ∨ q=22:=by revert h2;show q ∈ k25.E->_;intro h2;revert h2;decide +revert
      omega
theorem DkS.of_ (hw:base<=W.heap.size) (h0:Kd.R (Kd.int .i64) 3 W base (fun _=>True) u0 c) (h1:Kd.S (Kd.slice 3 (Kd.int .i64)) 22 W base (fun k_=>some k_≠u0.ownBlock) u1 d) (h2:Kd.S k25s 25 W1 W.heap.size (fun _=>True) u2 ps) (hb:Below W.heap.size W W1):DkS base base W1.heap.size u0 u1 u2 c d ps W1:=
  ⟨Nat.le_refl _,W.heap.size,hw,hb.size,⟨hb.size,Kd.R_below (Kd.R_mono (Kd.R_bound (Kd.R_tight rfl h0)) (fun _ hk=>⟨⟨⟨hk.2.1,hk.2.2.1⟩,trivial⟩,hk.1⟩)) hb,Kd.S_below (Kd.S_mono (Kd.S_bound h1) (fun _ hk=>⟨⟨⟨hk.2.1,hk.2.2.1⟩,trivial⟩,hk.1⟩)) hb⟩,Kd.S_lower (Kd.S_mono (Kd.S_bound h2) (fun _ hk=>⟨hk.2.1,hk.2.2.1⟩)) hw⟩
theorem DkS.mk_ {mid:Nat} (h0:Kd.R (Kd.int .i64) 3 W base (fun k=>k < mid) u0 c) (h1:Kd.S (Kd.slice 3 (Kd.int .i64)) 22 W base (fun k=>k < mid/\some k≠u0.ownBlock) u1 d) (h2:Kd.S k25s 25 W base (fun k=>mid < k) u2 ps) (hm:base<=mid) (hw:base<=W.heap.size):DkS base base W.heap.size u0 u1 u2 c d ps W:=
  ⟨Nat.le_refl _,min mid W.heap.size,by omega,by omega,⟨by omega,Kd.R_mono (Kd.R_bound (Kd.R_tight rfl h0)) (fun k hk=>⟨⟨⟨hk.2.1,by have:=h0.1 k hk.1.symm;have:=hk.2.2.1;omega⟩,trivial⟩,hk.1⟩),Kd.S_mono (Kd.S_bound h1) (fun k hk=>⟨⟨⟨hk.2.1,by have:=hk.1.1;have:=hk.2.2.1;omega⟩,trivial⟩,hk.1.2⟩)⟩,Kd.S_mono (Kd.S_bound h2) (fun k hk=>⟨by have:=hk.1;omega,hk.2.2.1⟩)⟩
theorem DkS.mv (x:Jc (DkS base lo hi u0 u1 u2 c d ps W)) {w1 w2:World} (hb:Below w1.heap.size w1 w2) (h:DkS base lo hi u0 u1 u2 c d ps W->DkS base lo hi u0 u1 u2 c d ps w1):Jc (DkS base lo hi u0 u1 u2 c d ps w2):=⟨(h x.out).below hb⟩
theorem DkS.go (x:Jc (DkS base lo hi u0 u1 u2 c d ps W)) {w1:World} (h:DkS base lo hi u0 u1 u2 c d ps W->DkS base lo hi u0 u1 u2 c d ps w1):DkS base lo hi u0 u1 u2 c d ps w1:=h x.out
theorem DkS.ge (x:Jc (DkS base lo hi u0 u1 u2 c d ps W)) {w1:World} {g:Nat} (hg:g=w1.heap.size) (h:DkS base lo hi u0 u1 u2 c d ps W->DkS base lo hi u0 u1 u2 c d ps w1):Jc (hi<=g):=⟨hg ▸ (h x.out).1⟩
theorem DkS.end_ (x:Jc (DkS base lo hi u0 u1 u2 c d ps W)) (hl:Jc (base<=lo)) {w1:World} (h:DkS base lo hi u0 u1 u2 c d ps W->DkS base lo hi u0 u1 u2 c d ps w1):DkS base base w1.heap.size u0 u1 u2 c d ps w1:=(h x.out).ext hl.out (h x.out).1 (Nat.le_refl _)
theorem DkS.tk {b:Nat} {W0:World} (h:DkS W0.heap.size W0.heap.size hi u0 u1 u2 c d ps W) (hb:b<=W0.heap.size):∃LO HI:Nat,Jc (b<=LO)/\Jc (DkS b LO HI u0 u1 u2 c d ps W):=⟨_,_,⟨hb⟩,⟨h.lower hb⟩⟩
theorem DkS.fin (h:DkS base lo hi u0 u1 u2 c d ps W) (hl:base<=lo):DkS base base W.heap.size u0 u1 u2 c d ps W:=h.ext hl h.1 (Nat.le_refl _)
end
end Go.Proofs.Ytfooakkhkehpiaa.PE
namespace Go.Proofs.Ytfooakkhkehpiaa.PE
open Go.RowKit Go.Proofs.YtfooakkhkehpiaaW.PrintWords Go.Proofs.YtfooakkhkehpiaaW.PrintLast Go.Proofs.YtfooakkhkehpiaaW.PrintMore Go.Proofs.Ytfooakkhkehpiaa.Qe
attribute [local go_sem] max2_int min2_int max_two min_two max_three min_three max_four min_four
set_option linter.unusedVariables false
set_option linter.unusedSimpArgs false
def F1.l0:Nat->List (S25)->List (S25)->Int->Option (Bool)
 | 0,_,_,_=>none
 | k + 1,x0,x1,x5=>if x5 < (x0.length:Int) then(if 0<=x5 then(if x5 < (x1.length:Int) then((Gz.f k ((Js x0 x5).f0) ((Js x0 x5).f1) ((Js x1 x5).f0) ((Js x1 x5).f1)).bind fun fq6=>(if fq6=true then(F1.l0 k x0 x1 (wrap64 (x5 + 1))) else(some false))) else(none)) else(none)) else(some true)
def F1.f (k:Nat) (l0:List (S25)) (l1:List (S25)):Option (Bool):=if (l0.length:Int)=(l1.length:Int) then(F1.l0 k l0 l1 0) else(some false)
def F1.T6:Bool × List (List Nat × List Nat):=(true,[([],[]),([],[]),([0,1],[0,1]),([2],[2]),([],[]),([],[]),([4,5],[4,5]),([6],[6]),([3,7],[3,7]),([8],[8])])
def F1.B6:List Nat:=[0,0,3,7,0,0,48,112,255,511]
theorem F1.tab6:rtab .any (opsOf Try.f66 6)=F1.T6:=by kernel_rfl
theorem F1.bits6:waitsOk F1.T6.2 F1.B6=true:=by kernel_rfl
theorem cz9 {p:Prop} (h:p:=by repeat(first|(with_reducible first|exact HB.out|apply Jk|apply Jj|apply Ji)|exact HB.out)):p:=h
set_option maxHeartbeats 8000000 in
set_option maxRecDepth 100000 in
theorem F1.calls (k:Nat) (A0:Option Addr) (c0:Nat) (l0:List (S25)) (A1:Option Addr) (c1:Nat) (l1:List (S25)) (r:Bool) (w:World) (fa:Kd.C k25 w A0 l0.length l0) (ec:l0.length<=c0) (iu:Kd.C k25 w A1 l1.length l1) (iz:l1.length<=c1) (h:F1.f k l0 l1=some r) :
  Calls Try.prog 66 #[.slice A0 l0.length c0, .slice A1 l1.length c1] w fun e w'=>e = .returned (.bool r)/\Below w.heap.size w w':=by
 have hu25:=Try.underlying25
 have fp:=A_ fa
 have op:=A_ ec
 clear fa ec
 have fs:=A_ iu
 have pe:=A_ iz
 clear iu iz
 have HB:=A_ (Below.refl w.heap.size w)
 have H:=h
 unfold F1.f at H
 clear h
 by_cases c3:(l0.length:Int)=(l1.length:Int)
 case neg=>
  rw[if_neg c3] at H
  have gj:((l0.length:Int) == (l1.length:Int))=false:=beq_eq_false_iff_ne.mpr c3
  have ny:((l0.length:Int) != (l1.length:Int))=true:=bne_iff_ne.mpr c3
  have ul:(l0.length == l1.length)=false:=by first|simpa using c3|(simp at c3 |-;omega)
  obtain rfl:=Option.some.inj H
  go_enter Try.func66,Try.ntmps66
  go_wp2
  go_ret
  exact⟨g4_,cz9⟩
 rw[if_pos c3] at H
 have gj:((l0.length:Int) == (l1.length:Int))=true:=beq_iff_eq.mpr c3
 have ny:((l0.length:Int) != (l1.length:Int))=false:=bne_eq_false_iff_eq.mpr c3
 have ul:(l0.length == l1.length)=true:=by first|simpa using c3|(simp at c3 |-;omega)
 clear c3
 have H':=A_ H
 clear H
 go_enter Try.func66,Try.ntmps66
 go_wp2
 go_loopg [5] k (fun kq v5 w'=>∃(ae:Int),v5 = .int .i64 ae/\Jc (F1.l0 kq l0 l1 ae=some r)/\Jc (kq<=k)/\Jc (Below w.heap.size w w'))
 case atStart=>exact⟨(0),(g3_),H',⟨Nat.le_refl _⟩,⟨cz9⟩⟩
 clear H'
 obtain⟨ae,rfl,HA,HK1,HB⟩:=hrel
 cases gk with
 | zero=>exact absurd HA.out (by simp[F1.l0])
 | succ k1=>?_
 have H:=HA.out
 clear HA
 simp only[F1.l0] at H
 by_cases c4:ae < (l0.length:Int)
 case neg=>
  rw[if_neg c4] at H
  have ic:=decide_eq_false c4
  clear c4
  obtain rfl:=Option.some.inj H
  go_wp2
  go_ret
  exact⟨g4_,cz9⟩
 rw[if_pos c4] at H
 have ic:=decide_eq_true c4
 clear c4
 obtain⟨kn,H⟩:=pd_ H
 obtain⟨kf,H⟩:=pd_ H
 obtain⟨fq6,A7,H⟩:=bind_ H
 by_cases c8:fq6=true
 ·subst c8
  replace H:=ifp_ H
  have H':=A_ H
  clear H
  try go_wp2
  replace HB:=A_ (Ji HB.out)
  have ci9:0<=(ae:Int):=od_
  have cj0:ae < (l0.length:Int):=od_
  obtain⟨cj1,dp9,dq0,dq1,dq2,fq7,bm2,bm3,dq3,dq4,dq5,dq6⟩:=at_T25 fp.out ae ci9 cj0
  have dq7:=bm3
  have dq8:=bm2
  cases fq7
  replace bm2:=cl_ HB bm2
  replace bm3:=cl_ HB bm3
  have dq9:=A_ dq4
  have fq8:=A_ dq3
  clear dq4 dq3
  have dr0:=A_ dq6
  have fq9:=A_ dq5
  clear dq6 dq5
  replace ci9:=eq_true ci9
  replace cj0:=eq_true cj0
  have cj2:0<=(ae:Int):=od_
  have ax7:ae < (l1.length:Int):=od_
  obtain⟨cj3,dr1,dr2,dr3,dr4,fr0,bm4,bm5,dr5,dr6,dr7,dr8⟩:=at_T25 fs.out ae cj2 ax7
  have dr9:=bm5
  have ds0:=bm4
  cases fr0
  replace bm4:=cl_ HB bm4
  replace bm5:=cl_ HB bm5
  have ds1:=A_ dr6
  have fr1:=A_ dr5
  clear dr6 dr5
  have ds2:=A_ dr8
  have fr2:=A_ dr7
  clear dr8 dr7
  replace cj2:=eq_true cj2
  replace ax7:=eq_true ax7
  refine start_ (n:=10) (S:=fun w'=>w'.cell? (cj1.add ((ae).toNat * 2))=some (.slice dp9 ((Js l0 ae).f0).length dq0)/\w'.cell? ⟨(cj1.add ((ae).toNat * 2)).block,(cj1.add ((ae).toNat * 2)).off + 1,none⟩=some (.slice dq1 ((Js l0 ae).f1).length dq2)/\w'.cell? (cj3.add ((ae).toNat * 2))=some (.slice dr1 ((Js l1 ae).f0).length dr2)/\w'.cell? ⟨(cj3.add ((ae).toNat * 2)).block,(cj3.add ((ae).toNat * 2)).off + 1,none⟩=some (.slice dr3 ((Js l1 ae).f1).length dr4)) (ds:=[]) (tl_ 10 0) (g1_) rfl (g1_) ⟨((cl_ HB dq8).trans rfl),((cl_ HB dq7).trans rfl),((cl_ HB ds0).trans rfl),((cl_ HB dr9).trans rfl)⟩ (fun hHeld=>?_);refine Jx F1.tab6 F1.bits6 (fun HT_ HW_=>?_)
  generalize wr.drew=w9 at HB dq9 dr0 ds1 ds2 bm2 bm3 bm4 bm5 hHeld |-
  refine pw_ 0 17 (tl_ 10 1) ?_
  refine pw_ 1 18 (tl_ 10 3) ?_
  refine pw_ 2 19 (tl_ 10 7) ?_
  refine pw_ 4 21 (tl_ 10 23) ?_
  refine pw_ 5 22 (tl_ 10 55) ?_
  refine pw_ 6 23 (tl_ 10 119) ?_
  refine tk0_ 3 20 (tl_ 10 127) hHeld ?_
  refine tk0_ 7 24 (tl_ 10 255) hHeld ?_
  refine one_ (i:=8) (N:=some 25) (tl_ 10 511) rfl rfl (Jz HT_.out (g1_)) (by decide) (fun K hK=>?_)
  refine goes_ Try.func35 (g1_) rfl #[.agg #[.slice dp9 ((Js l0 ae).f0).length dq0, .slice dq1 ((Js l0 ae).f1).length dq2], .agg #[.slice dr1 ((Js l1 ae).f0).length dr2, .slice dr3 ((Js l1 ae).f1).length dr4]] (by rfl) rfl rfl (gM_) ?_
  refine(Gz.calls k1 _ _ ((Js l0 ae).f0) _ _ ((Js l0 ae).f1) _ _ ((Js l1 ae).f0) _ _ ((Js l1 ae).f1) true _ (uC_ dq9) fq8.out (uC_ dr0) fq9.out (uC_ ds1) fr1.out (uC_ ds2) fr2.out A7.out).mono ?_
  rintro e w10 ⟨rfl,hb⟩
  refine⟨_,rfl,?_⟩
  replace HB:=hs_ (cz9) hb
  refine hK.out _ _ ⟨((cl_ HB dq8).trans rfl),((cl_ HB dq7).trans rfl),((cl_ HB ds0).trans rfl),((cl_ HB dr9).trans rfl)⟩ (fun hHeld=>?_)
  clear hK K
  refine nm_ ?_
  refine pw_ 9 26 (tl_ 10 1023) ?_
  refine done_ (done_of HT_.out (g1_)) ?_
  try go_wp2
  go_roundg k1
  case measure=>have:=HK1.out;omega
  case rel=>exact⟨(wrap64 (ae + 1)),(g3_),H',⟨g8_⟩,⟨cz9⟩⟩
 replace c8:=Bool.eq_false_iff.mpr c8
 subst c8
 replace H:=ifn_ H
 obtain rfl:=Option.some.inj H
 try go_wp2
 replace HB:=A_ (Ji HB.out)
 have ci9:0<=(ae:Int):=od_
 have cj0:ae < (l0.length:Int):=od_
 obtain⟨cj1,dp9,dq0,dq1,dq2,fq7,bm2,bm3,dq3,dq4,dq5,dq6⟩:=at_T25 fp.out ae ci9 cj0
 have dq7:=bm3
 have dq8:=bm2
 cases fq7
 replace bm2:=cl_ HB bm2
 replace bm3:=cl_ HB bm3
 have dq9:=A_ dq4
 have fq8:=A_ dq3
 clear dq4 dq3
 have dr0:=A_ dq6
 have fq9:=A_ dq5
 clear dq6 dq5
 replace ci9:=eq_true ci9
 replace cj0:=eq_true cj0
 have cj2:0<=(ae:Int):=od_
 have ax7:ae < (l1.length:Int):=od_
 obtain⟨cj3,dr1,dr2,dr3,dr4,fr0,bm4,bm5,dr5,dr6,dr7,dr8⟩:=at_T25 fs.out ae cj2 ax7
 have dr9:=bm5
 have ds0:=bm4
 cases fr0
 replace bm4:=cl_ HB bm4
 replace bm5:=cl_ HB bm5
 have ds1:=A_ dr6
 have fr1:=A_ dr5
 clear dr6 dr5
 have ds2:=A_ dr8
 have fr2:=A_ dr7
 clear dr8 dr7
 replace cj2:=eq_true cj2
 replace ax7:=eq_true ax7
 refine start_ (n:=10) (S:=fun w'=>w'.cell? (cj1.add ((ae).toNat * 2))=some (.slice dp9 ((Js l0 ae).f0).length dq0)/\w'.cell? ⟨(cj1.add ((ae).toNat * 2)).block,(cj1.add ((ae).toNat * 2)).off + 1,none⟩=some (.slice dq1 ((Js l0 ae).f1).length dq2)/\w'.cell? (cj3.add ((ae).toNat * 2))=some (.slice dr1 ((Js l1 ae).f0).length dr2)/\w'.cell? ⟨(cj3.add ((ae).toNat * 2)).block,(cj3.add ((ae).toNat * 2)).off + 1,none⟩=some (.slice dr3 ((Js l1 ae).f1).length dr4)) (ds:=[]) (tl_ 10 0) (g1_) rfl (g1_) ⟨((cl_ HB dq8).trans rfl),((cl_ HB dq7).trans rfl),((cl_ HB ds0).trans rfl),((cl_ HB dr9).trans rfl)⟩ (fun hHeld=>?_);refine Jx F1.tab6 F1.bits6 (fun HT_ HW_=>?_)
 generalize wr.drew=g8 at HB dq9 dr0 ds1 ds2 bm2 bm3 bm4 bm5 hHeld |-
 refine pw_ 0 17 (tl_ 10 1) ?_
 refine pw_ 1 18 (tl_ 10 3) ?_
 refine pw_ 2 19 (tl_ 10 7) ?_
 refine pw_ 4 21 (tl_ 10 23) ?_
 refine pw_ 5 22 (tl_ 10 55) ?_
 refine pw_ 6 23 (tl_ 10 119) ?_
 refine tk0_ 3 20 (tl_ 10 127) hHeld ?_
 refine tk0_ 7 24 (tl_ 10 255) hHeld ?_
 refine one_ (i:=8) (N:=some 25) (tl_ 10 511) rfl rfl (Jz HT_.out (g1_)) (by decide) (fun K hK=>?_)
 refine goes_ Try.func35 (g1_) rfl #[.agg #[.slice dp9 ((Js l0 ae).f0).length dq0, .slice dq1 ((Js l0 ae).f1).length dq2], .agg #[.slice dr1 ((Js l1 ae).f0).length dr2, .slice dr3 ((Js l1 ae).f1).length dr4]] (by rfl) rfl rfl (gM_) ?_
 refine(Gz.calls k1 _ _ ((Js l0 ae).f0) _ _ ((Js l0 ae).f1) _ _ ((Js l1 ae).f0) _ _ ((Js l1 ae).f1) false _ (uC_ dq9) fq8.out (uC_ dr0) fq9.out (uC_ ds1) fr1.out (uC_ ds2) fr2.out A7.out).mono ?_
 rintro e uf ⟨rfl,hb⟩
 refine⟨_,rfl,?_⟩
 replace HB:=hs_ (cz9) hb
 refine hK.out _ _ ⟨((cl_ HB dq8).trans rfl),((cl_ HB dq7).trans rfl),((cl_ HB ds0).trans rfl),((cl_ HB dr9).trans rfl)⟩ (fun hHeld=>?_)
 clear hK K
 refine nm_ ?_
 refine pw_ 9 26 (tl_ 10 1023) ?_
 refine done_ (done_of HT_.out (g1_)) ?_
 try go_wp2
 go_ret
 exact⟨g4_,cz9⟩
def Gw.f (k:Nat) (ab:List Int) (aa:List (List Int)) (aj:List (S25)) (fj:List Int) (fn:List (List Int)) (aa5:List (S25)):Option (Bool):=(Gz.f k ab aa fj fn).bind fun ds3=>(if ds3=true then((F1.f k aj aa5).bind fun ds4=>(if ds4=true then(some true) else(some false))) else(some false))
theorem ae9 {p:Prop} (h:p:=by repeat(first|(with_reducible first|exact HB.out|apply Jk|apply Jj|apply Ji|refine Jh ?_ fr3.out|refine Jh ?_ fr4.out)|exact HB.out)):p:=h
set_option maxHeartbeats 8000000 in
set_option maxRecDepth 100000 in
theorem Gw.calls (k:Nat) (af:Option Addr) (ac:Nat) (ab:List Int) (ah:Option Addr) (ag:Nat) (aa:List (List Int)) (av:Option Addr) (au:Nat) (aj:List (S25)) (mx:Option Addr) (mm:Nat) (fj:List Int) (nw:Option Addr) (nx:Nat) (fn:List (List Int)) (cj4:Option Addr) (cj5:Nat) (aa5:List (S25)) (r:Bool) (w:World) (cb:Kd.C (Kd.int .i64) w af ab.length ab) (cg:ab.length<=ac) (cc:Kd.C (Kd.slice 3 (Kd.int .i64)) w ah aa.length aa) (ch:aa.length<=ag) (h9:Kd.C k25 w av aj.length aj) (ia:aj.length<=au) (ax1:Kd.C (Kd.int .i64) w mx fj.length fj) (ax2:fj.length<=mm) (ax3:Kd.C (Kd.slice 3 (Kd.int .i64)) w nw fn.length fn) (ax4:fn.length<=nx) (hn7:Kd.C k25 w cj4 aa5.length aa5) (hn8:aa5.length<=cj5) (h:Gw.f k ab aa aj fj fn aa5=some r) :
  Calls Try.prog 17 #[.agg #[.slice af ab.length ac, .slice ah aa.length ag, .slice av aj.length au], .agg #[.slice mx fj.length mm, .slice nw fn.length nx, .slice cj4 aa5.length cj5]] w fun e w'=>e = .returned (.bool r)/\Below w.heap.size w w':=by
 have hu28:=Try.underlying28
 have hu25:=Try.underlying25
 have bg:=A_ cb
 have bw:=A_ cg
 clear cb cg
 have bd:=A_ cc
 have b4:=A_ ch
 clear cc ch
 have gg:=A_ h9
 have g3:=A_ ia
 clear h9 ia
 have al0:=A_ ax1
 have ax5:=A_ ax2
 clear ax1 ax2
 have ax6:=A_ ax3
 have bl7:=A_ ax4
 clear ax3 ax4
 have hn9:=A_ hn7
 have ho3:=A_ hn8
 clear hn7 hn8
 have HB:=A_ (Below.refl w.heap.size w)
 have H:=h
 unfold Gw.f at H
 clear h
 obtain⟨ds3,A3,H⟩:=bind_ H
 by_cases c4:ds3=true
 case neg=>
  replace c4:=Bool.eq_false_iff.mpr c4
  subst c4
  replace H:=ifn_ H
  obtain rfl:=Option.some.inj H
  go_enter Try.func17,Try.ntmps17
  go_wp2_with (first|((with_reducible refine gd_ 2 ?_);refine bx_ (N:=2) #[.slice af ab.length ac, .slice ah aa.length ag, .slice av aj.length au] 28 ?_;intro yt hg w25 hbox hb;have pv:=A_ (hbox);have ho4:=A_ ((g24_:w.heap.size<=yt));have fr3:=ho4;replace HB:=hs_ (ae9) hb;clear hb hbox hg)|((with_reducible refine gd_ 3 ?_);refine bx_ (N:=3) #[.slice mx fj.length mm, .slice nw fn.length nx, .slice cj4 aa5.length cj5] 28 ?_;intro af5 hg w26 hbox hb;have xe:=A_ (hbox);have ho7:=A_ ((g24_:w.heap.size<=af5));have fr4:=ho7;replace HB:=hs_ (ae9) hb;have ds5:=nl_ pv hg;have ds6:=nr_ pv hg;replace pv:=bb_ pv hb;clear hb hbox hg;have jw4:=ds5.out;have jw5:=ds6.out;obtain⟨fr7,fr8,hp9,fr9,fs0,hq0⟩:=blk3_ pv;obtain⟨db6,db7,fs1,db8,db9,fs2⟩:=blk3_ xe)|((with_reducible refine gc_ 35 ?_);refine gl_ 9 Try.func35 #[.agg #[.slice af ab.length ac, .slice ah aa.length ag], .agg #[.slice mx fj.length mm, .slice nw fn.length nx]] ?_;(refine(Gz.calls k _ _ ab _ _ aa _ _ fj _ _ fn false _ (uC_ bg) bw.out (uC_ bd) b4.out (uC_ al0) ax5.out (uC_ ax6) bl7.out A3.out).mono ?_);rintro e px ⟨rfl,hb⟩;refine⟨_,rfl,?_⟩;replace pv:=bb_ pv hb;replace xe:=bb_ xe hb;replace HB:=hs_ (ae9) hb))
  go_ret
  exact⟨g4_,ae9⟩
 subst c4
 replace H:=ifp_ H
 obtain⟨ds4,A5,H⟩:=bind_ H
 by_cases c6:ds4=true
 ·subst c6
  replace H:=ifp_ H
  obtain rfl:=Option.some.inj H
  go_enter Try.func17,Try.ntmps17
  go_wp2_with (first|((with_reducible refine gd_ 2 ?_);refine bx_ (N:=2) #[.slice af ab.length ac, .slice ah aa.length ag, .slice av aj.length au] 28 ?_;intro yt hg w7 hbox hb;have pv:=A_ (hbox);have ho4:=A_ ((g24_:w.heap.size<=yt));have fr3:=ho4;replace HB:=hs_ (ae9) hb;clear hb hbox hg)|((with_reducible refine gd_ 3 ?_);refine bx_ (N:=3) #[.slice mx fj.length mm, .slice nw fn.length nx, .slice cj4 aa5.length cj5] 28 ?_;intro af5 hg w8 hbox hb;have xe:=A_ (hbox);have ho7:=A_ ((g24_:w.heap.size<=af5));have fr4:=ho7;replace HB:=hs_ (ae9) hb;have ds5:=nl_ pv hg;have ds6:=nr_ pv hg;replace pv:=bb_ pv hb;clear hb hbox hg;have da4:=ds5.out;have da5:=ds6.out;obtain⟨yo,yp,ho8,yq,yr,hp8⟩:=blk3_ pv;obtain⟨sr,ss,ax8,st,su,ax9⟩:=blk3_ xe)|((with_reducible refine gc_ 35 ?_);refine gl_ 9 Try.func35 #[.agg #[.slice af ab.length ac, .slice ah aa.length ag], .agg #[.slice mx fj.length mm, .slice nw fn.length nx]] ?_;(refine(Gz.calls k _ _ ab _ _ aa _ _ fj _ _ fn true _ (uC_ bg) bw.out (uC_ bd) b4.out (uC_ al0) ax5.out (uC_ ax6) bl7.out A3.out).mono ?_);rintro e uf ⟨rfl,hb⟩;refine⟨_,rfl,?_⟩;replace pv:=bb_ pv hb;replace xe:=bb_ xe hb;replace HB:=hs_ (ae9) hb;obtain⟨sv,sw,bx2,sx,sy,bx3⟩:=blk3_ pv;obtain⟨um,un,da6,uo,uq,da7⟩:=blk3_ xe)|((with_reducible refine gc_ 66 ?_);refine gl_ 15 Try.func66 #[.slice av aj.length au, .slice cj4 aa5.length cj5] ?_;(refine(F1.calls k _ _ aj _ _ aa5 true _ (uC_ gg) g3.out (uC_ hn9) ho3.out A5.out).mono ?_);rintro e rq ⟨rfl,hb⟩;refine⟨_,rfl,?_⟩;replace pv:=bb_ pv hb;replace xe:=bb_ xe hb;replace HB:=hs_ (ae9) hb))
  go_ret
  exact⟨g4_,ae9⟩
 replace c6:=Bool.eq_false_iff.mpr c6
 subst c6
 replace H:=ifn_ H
 obtain rfl:=Option.some.inj H
 go_enter Try.func17,Try.ntmps17
 go_wp2_with (first|((with_reducible refine gd_ 2 ?_);refine bx_ (N:=2) #[.slice af ab.length ac, .slice ah aa.length ag, .slice av aj.length au] 28 ?_;intro yt hg pw hbox hb;have pv:=A_ (hbox);have ho4:=A_ ((g24_:w.heap.size<=yt));have fr3:=ho4;replace HB:=hs_ (ae9) hb;clear hb hbox hg)|((with_reducible refine gd_ 3 ?_);refine bx_ (N:=3) #[.slice mx fj.length mm, .slice nw fn.length nx, .slice cj4 aa5.length cj5] 28 ?_;intro af5 hg ug hbox hb;have xe:=A_ (hbox);have ho7:=A_ ((g24_:w.heap.size<=af5));have fr4:=ho7;replace HB:=hs_ (ae9) hb;have ds5:=nl_ pv hg;have ds6:=nr_ pv hg;replace pv:=bb_ pv hb;clear hb hbox hg;have ds7:=ds5.out;have ds8:=ds6.out;obtain⟨da8,da9,db0,db1,db2,db3⟩:=blk3_ pv;obtain⟨bl8,bl9,fr5,bm0,bm1,fr6⟩:=blk3_ xe)|((with_reducible refine gc_ 35 ?_);refine gl_ 9 Try.func35 #[.agg #[.slice af ab.length ac, .slice ah aa.length ag], .agg #[.slice mx fj.length mm, .slice nw fn.length nx]] ?_;(refine(Gz.calls k _ _ ab _ _ aa _ _ fj _ _ fn true _ (uC_ bg) bw.out (uC_ bd) b4.out (uC_ al0) ax5.out (uC_ ax6) bl7.out A3.out).mono ?_);rintro e w21 ⟨rfl,hb⟩;refine⟨_,rfl,?_⟩;replace pv:=bb_ pv hb;replace xe:=bb_ xe hb;replace HB:=hs_ (ae9) hb;obtain⟨af6,af7,ds9,af8,af9,dt0⟩:=blk3_ pv;obtain⟨bx4,bx5,db4,bx6,bx7,db5⟩:=blk3_ xe)|((with_reducible refine gc_ 66 ?_);refine gl_ 15 Try.func66 #[.slice av aj.length au, .slice cj4 aa5.length cj5] ?_;(refine(F1.calls k _ _ aj _ _ aa5 false _ (uC_ gg) g3.out (uC_ hn9) ho3.out A5.out).mono ?_);rintro e w24 ⟨rfl,hb⟩;refine⟨_,rfl,?_⟩;replace pv:=bb_ pv hb;replace xe:=bb_ xe hb;replace HB:=hs_ (ae9) hb))
 go_ret
 exact⟨g4_,ae9⟩
def Gk.l0:Nat->List (S25)->Int->Int->Option (Int)
 | 0,_,_,_=>none
 | k + 1,x0,x1,x5=>if x5 < (x0.length:Int) then(if 0<=x5 then((Fz.f k ((Js x0 x5).f0) x1).bind fun ay1=>(if ay1 < 0 then(some (-1)) else((F6.f k ((Js x0 x5).f1) ay1).bind fun ck1=>(if ck1 < 0 then(some (-1)) else(Gk.l0 k x0 ck1 (wrap64 (x5 + 1))))))) else(none)) else(some x1)
def Gk.f (k:Nat) (l0:List (S25)) (a1:Int):Option (Int):=Gk.l0 k l0 a1 0
set_option maxHeartbeats 8000000 in
set_option maxRecDepth 100000 in
theorem Gk.calls (k:Nat) (A0:Option Addr) (c0:Nat) (l0:List (S25)) (a1:Int) (r:Int) (w:World) (fa:Kd.C k25 w A0 l0.length l0) (ec:l0.length<=c0) (h:Gk.f k l0 a1=some r) :
  Calls Try.prog 68 #[.slice A0 l0.length c0, .int .i64 a1] w fun e w'=>e = .returned (.int .i64 r)/\Drawn0 w w':=by
 have fp:=A_ fa
 have op:=A_ ec
 clear fa ec
 have H:(Gk.l0 k l0 a1 0)=some r:=h
 clear h
 have H':=A_ H
 clear H
 go_enter Try.func68,Try.ntmps68
 go_wp2
 go_loopg [1,5] k (fun kq v1 v5 w'=>∃(eg:Int) (ae:Int),v1 = .int .i64 eg/\v5 = .int .i64 ae/\Jc (Gk.l0 kq l0 eg ae=some r)/\Jc (kq<=k)/\Drawn0 w w')
 case atStart=>exact⟨(a1),(0),(g3_),(g3_),H',⟨Nat.le_refl _⟩,g5_⟩
 clear H'
 obtain⟨eg,ae,rfl,rfl,HA,HK1,⟨m1,rfl⟩⟩:=hrel
 cases gk with
 | zero=>exact absurd HA.out (by simp[Gk.l0])
 | succ k1=>?_
 have H:=HA.out
 clear HA
 simp only[Gk.l0] at H
 by_cases c3:ae < (l0.length:Int)
 case neg=>
  rw[if_neg c3] at H
  have gj:=decide_eq_false c3
  clear c3
  obtain rfl:=Option.some.inj H
  go_wp2
  go_ret
  exact⟨g3_,g5_⟩
 rw[if_pos c3] at H
 have gj:=decide_eq_true c3
 clear c3
 obtain⟨ic,H⟩:=pd_ H
 obtain⟨ay1,A5,H⟩:=bind_ H
 by_cases c6:ay1 < 0
 ·rw[if_pos c6] at H
  have kf:=decide_eq_true c6
  clear c6
  obtain rfl:=Option.some.inj H
  obtain⟨⟨es6,dt4,dt5,es7,es8,dt6,es9,et0,bx9,by0,by1,by2⟩,ay2,ay3⟩:=rdp_ (at_T25 fp.out ae)
  cases dt6
  have dt7:=A_ by0
  have dt8:=A_ bx9
  clear by0 bx9
  have hq2:=A_ by2
  have hq3:=A_ by1
  clear by2 by1
  go_wp2_with (first|((with_reducible refine gc_ 89 ?_);refine gl_ 18 Try.func89 #[.slice dt4 ((Js l0 ae).f0).length dt5, .int .i64 eg] ?_;(refine(Fz.calls k1 _ _ ((Js l0 ae).f0) eg ay1 _ (cu_ dt7.out) dt8.out A5.out).mono ?_);rintro e w' ⟨rfl,⟨nd,rfl⟩⟩;refine⟨_,rfl,?_⟩))
  go_ret
  exact⟨g3_,g5_⟩
 rw[if_neg c6] at H
 have kf:=decide_eq_false c6
 clear c6
 obtain⟨ck1,A7,H⟩:=bind_ H
 by_cases c8:ck1 < 0
 ·rw[if_pos c8] at H
  have xf:=decide_eq_true c8
  clear c8
  obtain rfl:=Option.some.inj H
  obtain⟨⟨es6,dt4,dt5,es7,es8,dt6,es9,et0,bx9,by0,by1,by2⟩,ay2,ay3⟩:=rdp_ (at_T25 fp.out ae)
  cases dt6
  have dt7:=A_ by0
  have dt8:=A_ bx9
  clear by0 bx9
  have hq2:=A_ by2
  have hq3:=A_ by1
  clear by2 by1
  go_wp2_with (first|((with_reducible refine gc_ 89 ?_);refine gl_ 18 Try.func89 #[.slice dt4 ((Js l0 ae).f0).length dt5, .int .i64 eg] ?_;(refine(Fz.calls k1 _ _ ((Js l0 ae).f0) eg ay1 _ (cu_ dt7.out) dt8.out A5.out).mono ?_);rintro e w' ⟨rfl,⟨nd,rfl⟩⟩;refine⟨_,rfl,?_⟩;have ck2:0<=(ae:Int):=od_;have ck3:ae < (l0.length:Int):=od_;obtain⟨ft1,jx2,jx3,jx4,jx5,ft2,ft3,ft4,dt9,du0,du1,du2⟩:=at_T25 fp.out ae ck2 ck3;obtain rfl:es6=ft1:=(by injection ft2);have jx6:=A_ du0;have jx7:=A_ dt9;clear du0 dt9;have ft5:=A_ du2;have ft6:=A_ du1;clear du2 du1;replace ck2:=eq_true ck2;replace ck3:=eq_true ck3;have ea_:=Option.some.inj (es9.symm.trans ft3);injection ea_ with ea_ en_ ec_;subst ea_;subst ec_;clear en_;have ea_:=Option.some.inj (et0.symm.trans ft4);injection ea_ with ea_ en_ ec_;subst ea_;subst ec_;clear en_)|((with_reducible refine gc_ 90 ?_);refine gl_ 27 Try.func90 #[.slice es7 ((Js l0 ae).f1).length es8, .int .i64 ay1] ?_;(refine(F6.calls k1 _ _ ((Js l0 ae).f1) ay1 ck1 _ (cu_ ft5.out) ft6.out A7.out).mono ?_);rintro e w' ⟨rfl,⟨nd,rfl⟩⟩;refine⟨_,rfl,?_⟩))
  go_ret
  exact⟨g3_,g5_⟩
 rw[if_neg c8] at H
 have xf:=decide_eq_false c8
 clear c8
 have H':=A_ H
 clear H
 obtain⟨⟨es6,dt4,dt5,es7,es8,dt6,es9,et0,bx9,by0,by1,by2⟩,ay2,ay3⟩:=rdp_ (at_T25 fp.out ae)
 cases dt6
 have dt7:=A_ by0
 have dt8:=A_ bx9
 clear by0 bx9
 have hq2:=A_ by2
 have hq3:=A_ by1
 clear by2 by1
 go_wp2_with (first|((with_reducible refine gc_ 89 ?_);refine gl_ 18 Try.func89 #[.slice dt4 ((Js l0 ae).f0).length dt5, .int .i64 eg] ?_;(refine(Fz.calls k1 _ _ ((Js l0 ae).f0) eg ay1 _ (cu_ dt7.out) dt8.out A5.out).mono ?_);rintro e w' ⟨rfl,⟨nd,rfl⟩⟩;refine⟨_,rfl,?_⟩;have ck2:0<=(ae:Int):=od_;have ck3:ae < (l0.length:Int):=od_;obtain⟨ft1,jx2,jx3,jx4,jx5,ft2,ft3,ft4,dt9,du0,du1,du2⟩:=at_T25 fp.out ae ck2 ck3;obtain rfl:es6=ft1:=(by injection ft2);have jx6:=A_ du0;have jx7:=A_ dt9;clear du0 dt9;have ft5:=A_ du2;have ft6:=A_ du1;clear du2 du1;replace ck2:=eq_true ck2;replace ck3:=eq_true ck3;have ea_:=Option.some.inj (es9.symm.trans ft3);injection ea_ with ea_ en_ ec_;subst ea_;subst ec_;clear en_;have ea_:=Option.some.inj (et0.symm.trans ft4);injection ea_ with ea_ en_ ec_;subst ea_;subst ec_;clear en_)|((with_reducible refine gc_ 90 ?_);refine gl_ 27 Try.func90 #[.slice es7 ((Js l0 ae).f1).length es8, .int .i64 ay1] ?_;(refine(F6.calls k1 _ _ ((Js l0 ae).f1) ay1 ck1 _ (cu_ ft5.out) ft6.out A7.out).mono ?_);rintro e w' ⟨rfl,⟨nd,rfl⟩⟩;refine⟨_,rfl,?_⟩))
 go_roundg k1
 case measure=>have:=HK1.out;omega
 case rel=>exact⟨(ck1),(wrap64 (ae + 1)),(g3_),(g3_),H',⟨g8_⟩,g5_⟩
def G0.f (k:Nat) (ab:List Int) (aa:List (List Int)) (aj:List (S25)) (a1:Int):Option (Int):=(G5.f k ab aa a1).bind fun ag1=>(if ag1 < 0 then(some (-1)) else((Gk.f k aj ag1).bind fun bm7=>(if bm7 < 0 then(some (-1)) else(some bm7))))
theorem bl4 {p:Prop} (h:p:=by repeat(first|(with_reducible first|exact HB.out|apply Jk|apply Jj|apply Ji|refine Jh ?_ ft7.out)|exact HB.out)):p:=h
set_option maxHeartbeats 8000000 in
set_option maxRecDepth 100000 in
theorem G0.calls (k:Nat) (af:Option Addr) (ac:Nat) (ab:List Int) (ah:Option Addr) (ag:Nat) (aa:List (List Int)) (av:Option Addr) (au:Nat) (aj:List (S25)) (a1:Int) (r:Int) (w:World) (cb:Kd.C (Kd.int .i64) w af ab.length ab) (cg:ab.length<=ac) (cc:Kd.C (Kd.slice 3 (Kd.int .i64)) w ah aa.length aa) (ch:aa.length<=ag) (h9:Kd.C k25 w av aj.length aj) (ia:aj.length<=au) (h:G0.f k ab aa aj a1=some r) :
  Calls Try.prog 19 #[.agg #[.slice af ab.length ac, .slice ah aa.length ag, .slice av aj.length au], .int .i64 a1] w fun e w'=>e = .returned (.int .i64 r)/\Below w.heap.size w w':=by
 have hu28:=Try.underlying28
 have hu25:=Try.underlying25
 have bg:=A_ cb
 have bw:=A_ cg
 clear cb cg
 have bd:=A_ cc
 have b4:=A_ ch
 clear cc ch
 have gg:=A_ h9
 have g3:=A_ ia
 clear h9 ia
 have HB:=A_ (Below.refl w.heap.size w)
 have H:=h
 unfold G0.f at H
 clear h
 obtain⟨ag1,A3,H⟩:=bind_ H
 by_cases c4:ag1 < 0
 ·rw[if_pos c4] at H
  have ic:=decide_eq_true c4
  clear c4
  obtain rfl:=Option.some.inj H
  go_enter Try.func19,Try.ntmps19
  go_wp2_with (first|((with_reducible refine gd_ 2 ?_);refine bx_ (N:=2) #[.slice af ab.length ac, .slice ah aa.length ag, .slice av aj.length au] 28 ?_;intro by3 hg w5 hbox hb;have al2:=A_ (hbox);have hq4:=A_ ((g60_:w.heap.size<=by3));have ft7:=hq4;replace HB:=hs_ (bl4) hb;clear hb hbox hg;obtain⟨ur,us,bm8,ut,uu,bm9⟩:=blk3_ al2)|((with_reducible refine gc_ 37 ?_);refine gl_ 8 Try.func37 #[.agg #[.slice af ab.length ac, .slice ah aa.length ag], .int .i64 a1] ?_;(refine(G5.calls k _ _ ab _ _ aa a1 ag1 _ (uC_ bg) bw.out (uC_ bd) b4.out A3.out).mono ?_);rintro e w7 ⟨rfl,hb⟩;refine⟨_,rfl,?_⟩;replace al2:=bb_ al2 hb;replace HB:=hs_ (bl4) hb))
  go_ret
  exact⟨g4_,bl4⟩
 rw[if_neg c4] at H
 have ic:=decide_eq_false c4
 clear c4
 obtain⟨bm7,A8,H⟩:=bind_ H
 by_cases c9:bm7 < 0
 ·rw[if_pos c9] at H
  have xg:=decide_eq_true c9
  clear c9
  obtain rfl:=Option.some.inj H
  go_enter Try.func19,Try.ntmps19
  go_wp2_with (first|((with_reducible refine gd_ 2 ?_);refine bx_ (N:=2) #[.slice af ab.length ac, .slice ah aa.length ag, .slice av aj.length au] 28 ?_;intro by3 hg w10 hbox hb;have al2:=A_ (hbox);have hq4:=A_ ((g60_:w.heap.size<=by3));have ft7:=hq4;replace HB:=hs_ (bl4) hb;clear hb hbox hg;obtain⟨sr,ss,ax8,st,su,ax9⟩:=blk3_ al2)|((with_reducible refine gc_ 37 ?_);refine gl_ 8 Try.func37 #[.agg #[.slice af ab.length ac, .slice ah aa.length ag], .int .i64 a1] ?_;(refine(G5.calls k _ _ ab _ _ aa a1 ag1 _ (uC_ bg) bw.out (uC_ bd) b4.out A3.out).mono ?_);rintro e uf ⟨rfl,hb⟩;refine⟨_,rfl,?_⟩;replace al2:=bb_ al2 hb;replace HB:=hs_ (bl4) hb;obtain⟨sv,sw,bx2,sx,sy,bx3⟩:=blk3_ al2)|((with_reducible refine gc_ 68 ?_);refine gl_ 14 Try.func68 #[.slice av aj.length au, .int .i64 ag1] ?_;(refine(Gk.calls k _ _ aj ag1 bm7 _ (uC_ gg) g3.out A8.out).mono ?_);rintro e w' ⟨rfl,⟨nd,rfl⟩⟩;refine⟨_,rfl,?_⟩))
  go_ret
  exact⟨g4_,bl4⟩
 rw[if_neg c9] at H
 have xg:=decide_eq_false c9
 clear c9
 obtain rfl:=Option.some.inj H
 go_enter Try.func19,Try.ntmps19
 go_wp2_with (first|((with_reducible refine gd_ 2 ?_);refine bx_ (N:=2) #[.slice af ab.length ac, .slice ah aa.length ag, .slice av aj.length au] 28 ?_;intro by3 hg w14 hbox hb;have al2:=A_ (hbox);have hq4:=A_ ((g60_:w.heap.size<=by3));have ft7:=hq4;replace HB:=hs_ (bl4) hb;clear hb hbox hg;obtain⟨ci5,ci6,ft8,ci7,ci8,ft9⟩:=blk3_ al2)|((with_reducible refine gc_ 37 ?_);refine gl_ 8 Try.func37 #[.agg #[.slice af ab.length ac, .slice ah aa.length ag], .int .i64 a1] ?_;(refine(G5.calls k _ _ ab _ _ aa a1 ag1 _ (uC_ bg) bw.out (uC_ bd) b4.out A3.out).mono ?_);rintro e pw ⟨rfl,hb⟩;refine⟨_,rfl,?_⟩;replace al2:=bb_ al2 hb;replace HB:=hs_ (bl4) hb;obtain⟨du3,du4,nh1,du5,du6,nh2⟩:=blk3_ al2)|((with_reducible refine gc_ 68 ?_);refine gl_ 14 Try.func68 #[.slice av aj.length au, .int .i64 ag1] ?_;(refine(Gk.calls k _ _ aj ag1 bm7 _ (uC_ gg) g3.out A8.out).mono ?_);rintro e w' ⟨rfl,⟨nd,rfl⟩⟩;refine⟨_,rfl,?_⟩))
 go_ret
 exact⟨g4_,bl4⟩
end Go.Proofs.Ytfooakkhkehpiaa.PE
namespace Go.Proofs.Ytfooakkhkehpiaa.PE
open Go.RowKit Go.Proofs.YtfooakkhkehpiaaW.PrintWords Go.Proofs.YtfooakkhkehpiaaW.PrintLast Go.Proofs.YtfooakkhkehpiaaW.PrintMore
set_option linter.unusedVariables false
set_option linter.unusedSimpArgs false
def Gv.f (k:Nat) (l0:List Int) (l1:List (List Int)) (l2:List (S25)) (a1:Int):Option (Int × List Int × List (List Int) × List (S25)):=(Ja.f k l0 l1 a1).bind fun bt=>(Gj.f k l2 bt.1).bind fun bs=>some (bs.1,bt.2.1,bt.2.2,bs.2)
set_option maxHeartbeats 8000000 in
set_option maxRecDepth 100000 in
theorem Gv.calls (k lo hi:Nat) (A0:Option Addr) (n0 c0:Nat) (A1:Option Addr) (n1 c1:Nat) (A2:Option Addr) (n2 c2:Nat) (l0:List Int) (l1:List (List Int)) (l2:List (S25)) (a1 r1:Int) (r2:List Int) (r3:List (List Int)) (r4:List (S25)) (w0 w:World) (hB:Below w0.heap.size w0 w) (hd:DkS w0.heap.size lo hi (.slice A0 n0 c0) (.slice A1 n1 c1) (.slice A2 n2 c2) l0 l1 l2 w) (h:Gv.f k l0 l1 l2 a1=some (r1,r2,r3,r4)) :
    Calls Try.prog 18 #[.agg #[.slice A0 n0 c0, .slice A1 n1 c1, .slice A2 n2 c2], .int .i64 a1] w fun e w'=>e = .returned (.int .i64 r1)/\DkS w0.heap.size lo hi (.slice A0 n0 c0) (.slice A1 n1 c1) (.slice A2 n2 c2) r2 r3 r4 w'/\Below w0.heap.size w0 w'/\Kept w w' (fun k=>lo<=k/\k < hi):=by
  have hu28:=Try.underlying28
  have hu25:=Try.underlying25
  obtain⟨hhi,mid,hm1,hm2,ho,hs⟩:=hd
  obtain⟨⟨t1,t2,t3⟩,h1,h2⟩:=Option.bind_eq_some_iff.mp (show(Ja.f k l0 l1 a1).bind (fun bt=>(Gj.f k l2 bt.1).bind fun bs=>some (bs.1,bt.2.1,bt.2.2,bs.2))=some (r1,r2,r3,r4) from h)
  obtain⟨⟨t4,t5⟩,h4,h3⟩:=Option.bind_eq_some_iff.mp h2
  obtain⟨rfl,rfl,rfl,rfl⟩:t4=r1/\t2=r2/\t3=r3/\t5=r4:=by
    have:=Option.some.inj h3
    exact⟨congrArg Prod.fst this,congrArg (fun z=>z.2.1) this,congrArg (fun z=>z.2.2.1) this,congrArg (fun z=>z.2.2.2) this⟩
  clear h3 h
  have HT1:=Jc.mk h1
  have HT2:=Jc.mk h4
  have HB:=Jc.mk hB
  have HO:=Jc.mk ho
  have HS:=Jc.mk hs
  have HM:=Jc.mk (And.intro hm1 hm2)
  have HHI:=Jc.mk hhi
  have HHW:=hhi
  have HK:=Jc.mk (Kept.refl w (fun k=>lo<=k/\k < hi))
  clear h1 h2 h4 hB ho hs hm1 hm2 hhi
  go_enter Try.func18,Try.ntmps18
  go_wp2_with (first|((with_reducible refine Jg (N:=2) rfl ?_);(try(refine gate_guard (by rfl) ?_;dsimp only));refine box_event ?hg (N:=2) ?hd (cs:=#[.slice A0 n0 c0, .slice A1 n1 c1, .slice A2 n2 c2]) (t:=28) ?hr ?_;(case hd=>rfl);(case hg=>rfl);(case hr=>first|(go_simp;done)|(go_simp;rfl));intro gb hg w2 hbox hb;have n0_:=Jc.mk (BkAt.below HO.out hb);have n1_:=Jc.mk (Kd.S_below HS.out hb);have n2_:=Jc.mk (Kept.then_ HK.out (Kept.of_below hb (fun _=>False)) (fun _ h_=>h_.elim));have n3_:=Jc.mk (Jw HB.out hb);have n4_:=Jc.mk (show hi<=gb by rw[hg];exact HHI.out);have BK:=Jc.mk hbox;clear HO HS HK HB HHI hb hbox hg;have HO:=n0_;have HS:=n1_;have HK:=n2_;have HB:=n3_;have HHI:=n4_;clear n0_ n1_ n2_ n3_ n4_;have hcz_0:w2.cell? ⟨gb,0,none⟩=some (.slice A0 n0 c0):=(Jd BK.out 0).trans rfl;have hcz_1:w2.cell? ⟨gb,1,none⟩=some (.slice A1 n1 c1):=(Jd BK.out 1).trans rfl;have hcz_2:w2.cell? ⟨gb,2,none⟩=some (.slice A2 n2 c2):=(Jd BK.out 2).trans rfl)|((with_reducible refine Jf (f:=36) rfl ?_);refine goesL_ (some 8) rfl rfl Try.func36 (by kernel_rfl) rfl #[.agg #[.slice A0 n0 c0, .slice A1 n1 c1], .int .i64 a1] rfl (by(try simp only[List.map_toArray,List.map_cons,List.map_nil]);first|done|rfl) ?_;(with_reducible refine(Ja.calls k lo mid (fun _=>True) _ _ l0 l1 a1 t1 t2 t3 w0 _ ?side1 ?side2 HT1.out).mono ?_);(case side1=>repeat(first|(with_reducible first|exact HB.out|apply Jk|apply Jj|apply Ji)|exact HB.out));(case side2=>(repeat(first|with_reducible refine BkAt.alloc ?_ _|with_reducible refine BkAt.drewN ?_ _|with_reducible refine BkAt.drew ?_));exact HO.out);rintro e w3 ⟨rfl,hy,hb,hkp⟩;refine⟨_,rfl,?_⟩;have n0_:=Jc.mk hy;have n5_:=Jc.mk (Kd.S_kept (ok:=fun k=>mid<=k/\k < hi) (by(with_reducible repeat(first|apply Kd.S_alloc|apply Kd.S_drewN|apply Kd.S_drew));exact HS.out) hkp (fun k_ h_ e_=>by have:=e_.1.2;omega));have n1_:=Jc.mk (Kept.then_ (S:=fun k=>lo<=k/\k < hi) (by repeat(first|(with_reducible first|exact HK.out|apply Kept.alloc|apply Kept.drewN|apply Kept.drew)|exact HK.out)) hkp (fun k_ h_=>.inl ⟨h_.1.1,by have:=h_.1.2;have:=HM.out;omega⟩));have n2_:=Jc.mk hb;have n3_:=Jc.mk (blk_kept (g:=gb) (by(with_reducible repeat(first|refine Jm ?_ _|refine Jn ?_|refine Jl ?_ _));exact BK.out) hkp (fun hs_=>by have:=hs_.1.2;have:=HHI.out;have:=HM.out;omega));clear HO HS HK HB BK hb hkp hy;have HO:=n0_;have HS:=n5_;have HK:=n1_;have HB:=n2_;have BK:=n3_;clear n0_ n1_ n2_ n3_ n5_;have hcy_0:w3.cell? ⟨gb,0,none⟩=some (.slice A0 n0 c0):=(Jd BK.out 0).trans rfl;have hcy_1:w3.cell? ⟨gb,1,none⟩=some (.slice A1 n1 c1):=(Jd BK.out 1).trans rfl;have hcy_2:w3.cell? ⟨gb,2,none⟩=some (.slice A2 n2 c2):=(Jd BK.out 2).trans rfl)|((with_reducible refine Jf (f:=67) rfl ?_);refine goesL_ (some 12) rfl rfl Try.func67 (by kernel_rfl) rfl #[.slice A2 n2 c2, .int .i64 t1] rfl (by(try simp only[List.map_toArray,List.map_cons,List.map_nil]);first|done|rfl) ?_;(with_reducible refine(Gj.calls k (.slice A2 n2 c2) l2 t1 t4 t5 w0 _ (fun k=>mid<=k/\k < hi) ?side1 ?side2 HT2.out).mono ?_);(case side1=>repeat(first|(with_reducible first|exact HB.out|apply Jk|apply Jj|apply Ji)|exact HB.out));(case side2=>(with_reducible repeat(first|apply Kd.S_alloc|apply Kd.S_drewN|apply Kd.S_drew));exact HS.out);rintro e w4 ⟨rfl,hy,hb,hkp⟩;refine⟨_,rfl,?_⟩;have n0_:=Jc.mk (BkAt.step (W1:=w4) (by(repeat(first|with_reducible refine BkAt.alloc ?_ _|with_reducible refine BkAt.drewN ?_ _|with_reducible refine BkAt.drew ?_));exact HO.out) (fun k_ h3_ h4_=>hkp.2 k_ (Nat.lt_of_lt_of_le h4_ (show mid<=_ from HO.out.1)) (fun hs_=>by have:=hs_.1;omega)) (Nat.le_trans HO.out.1 hkp.1));have n1_:=Jc.mk (Kept.then_ (S:=fun k=>lo<=k/\k < hi) (by repeat(first|(with_reducible first|exact HK.out|apply Kept.alloc|apply Kept.drewN|apply Kept.drew)|exact HK.out)) hkp (fun k_ h_=>.inl ⟨by have:=h_.1;have:=HM.out;omega,h_.2⟩));have n2_:=Jc.mk hb;have n3_:=Jc.mk hy;clear HO HS HK HB BK hb hkp hy;have HO:=n0_;have HK:=n1_;have HB:=n2_;have HS:=n3_;clear n0_ n1_ n2_ n3_))
  go_ret
  have HKK:Kept w _ (fun k=>lo<=k/\k < hi):=(by repeat(first|(with_reducible first|exact HK.out|apply Kept.alloc|apply Kept.drewN|apply Kept.drew)|exact HK.out))
  exact⟨rfl,⟨Nat.le_trans HHW HKK.1,mid,HM.out.1,HM.out.2,by(repeat(first|with_reducible refine BkAt.alloc ?_ _|with_reducible refine BkAt.drewN ?_ _|with_reducible refine BkAt.drew ?_));exact HO.out,by(with_reducible repeat(first|apply Kd.S_alloc|apply Kd.S_drewN|apply Kd.S_drew));exact HS.out⟩,by repeat(first|(with_reducible first|exact HB.out|apply Jk|apply Jj|apply Ji)|exact HB.out),HKK⟩
theorem DkS.reads {base lo hi:Nat} {A0:Option Addr} {n0 c0:Nat} {A1:Option Addr} {n1 c1:Nat} {A2:Option Addr} {n2 c2:Nat} {c:List Int} {d:List (List Int)} {ps:List (S25)} {W:World} (h:DkS base lo hi (.slice A0 n0 c0) (.slice A1 n1 c1) (.slice A2 n2 c2) c d ps W):(n0=c.length/\n0<=c0/\Kd.C (Kd.int .i64) W A0 c.length c)/\(n1=d.length/\n1<=c1/\Kd.C (Kd.slice 3 (Kd.int .i64)) W A1 d.length d)/\n2=ps.length/\n2<=c2/\Kd.C k25 W A2 ps.length ps:=by
  obtain⟨h0,h1,h2⟩:=h.tellR
  obtain⟨rfl,e1,e2⟩:=Kd.R_reads' h0
  obtain⟨rfl,e3,e4⟩:=Kd.S_reads' h1
  obtain⟨rfl,e5,e6⟩:=Kd.R_reads' h2
  exact⟨⟨rfl,e1,e2⟩,⟨rfl,e3,e4⟩,rfl,e5,e6⟩
end Go.Proofs.Ytfooakkhkehpiaa.PE
namespace Go.Proofs.Ytfooakkhkehpiaa.PE
open Go.RowKit Go.Proofs.YtfooakkhkehpiaaW.PrintWords Go.Proofs.YtfooakkhkehpiaaW.PrintLast Go.Proofs.YtfooakkhkehpiaaW.PrintMore Go.Proofs.Ytfooakkhkehpiaa.Qe
attribute [local go_sem] max2_int min2_int max_two min_two max_three min_three max_four min_four
set_option linter.unusedVariables false
set_option linter.unusedSimpArgs false
mutual
def Fi.j0:Nat->Int->Bool->List Int->List (List Int)->Option (Bool)
 | 0,_,_,_,_=>none
 | k + 1,x3,x23,ai5,an4=>if x23=true then(some false) else(Fi.l0 k x3 an4 (an4.length:Int) 0 ai5 an4)
def Fi.l0:Nat->Int->List (List Int)->Int->Int->List Int->List (List Int)->Option (Bool)
 | 0,_,_,_,_,_,_=>none
 | k + 1,x3,xt,x26,qr,ai5,an4=>if qr < x26 then(if 0<=qr then(if qr < (xt.length:Int) then(if qr < (ai5.length:Int) then(if (rd ai5 qr) < 0 then(Fi.j2 k x3 (Jr xt qr) xt x26 qr true ai5 an4) else(if (rd ai5 qr) > 20 then(Fi.j2 k x3 (Jr xt qr) xt x26 qr true ai5 an4) else(if ((Jr xt qr).length:Int)=x3 then(if qr < ((Jr xt qr).length:Int) then(Fi.j2 k x3 (Jr xt qr) xt x26 qr ((rd (Jr xt qr) qr) != 0) ai5 an4) else(none)) else(Fi.j2 k x3 (Jr xt qr) xt x26 qr true ai5 an4)))) else(none)) else(none)) else(none)) else(some true)
def Fi.j2:Nat->Int->List Int->List (List Int)->Int->Int->Bool->List Int->List (List Int)->Option (Bool)
 | 0,_,_,_,_,_,_,_,_=>none
 | k + 1,x3,x5,xt,x26,qr,x58,ai5,an4=>if x58=true then(some false) else(Fi.l1 k x3 xt x26 qr x5 (x5.length:Int) 0 ai5 an4)
def Fi.l1:Nat->Int->List (List Int)->Int->Int->List Int->Int->Int->List Int->List (List Int)->Option (Bool)
 | 0,_,_,_,_,_,_,_,_,_=>none
 | k + 1,x3,xt,x26,qr,x59,x60,x61,ai5,an4=>if x61 < x60 then(if 0<=x61 then(if x61 < (x59.length:Int) then(if (rd x59 x61) < 0 then(some false) else(if (rd x59 x61) > 9 then(some false) else(Fi.l1 k x3 xt x26 qr x59 x60 (wrap64 (x61 + 1)) ai5 an4))) else(none)) else(none)) else(Fi.l0 k x3 xt x26 (wrap64 (qr + 1)) ai5 an4)
end
def Fi.f (k:Nat) (ab:List Int) (aa:List (List Int)):Option (Bool):=if (ab.length:Int) < 1 then(Fi.j0 k (ab.length:Int) true ab aa) else(if (ab.length:Int) > 4 then(Fi.j0 k (ab.length:Int) true ab aa) else(Fi.j0 k (ab.length:Int) ((aa.length:Int) != (ab.length:Int)) ab aa))
theorem vt {p:Prop} (h:p:=by repeat(first|(with_reducible first|exact HB.out|apply Jk|apply Jj|apply Ji|refine Jh ?_ lk1.out)|exact HB.out)):p:=h
set_option maxHeartbeats 8000000 in
set_option maxRecDepth 100000 in
theorem Fi.calls (k:Nat) (af:Option Addr) (ac:Nat) (ab:List Int) (ah:Option Addr) (ag:Nat) (aa:List (List Int)) (r:Bool) (w:World) (cb:Kd.C (Kd.int .i64) w af ab.length ab) (cg:ab.length<=ac) (cc:Kd.C (Kd.slice 3 (Kd.int .i64)) w ah aa.length aa) (ch:aa.length<=ag) (h:Fi.f k ab aa=some r) :
  Calls Try.prog 73 #[.agg #[.slice af ab.length ac, .slice ah aa.length ag]] w fun e w'=>e = .returned (.bool r)/\Below w.heap.size w w':=by
 have hu25:=Try.underlying25
 have bg:=A_ cb
 have bw:=A_ cg
 clear cb cg
 have bd:=A_ cc
 have b4:=A_ ch
 clear cc ch
 have HB:=A_ (Below.refl w.heap.size w)
 have H:=h
 unfold Fi.f at H
 clear h
 have HC2:=A_ H
 clear H
 go_enter Try.func73,Try.ntmps73
 go_upto_region 2 with(first|((with_reducible refine gd_ 1 ?_);(try(refine gate_guard (by rfl) ?_;dsimp only));refine bx_ (N:=1) #[.slice af ab.length ac, .slice ah aa.length ag] 25 ?_;intro dh9 hg w3 hbox hb;have sd:=A_ (hbox);have oc8:=A_ ((by rw[hg];exact(Je (vt)):w.heap.size<=dh9));have lk1:=oc8;replace HB:=hs_ (vt) hb;clear hb hbox hg;obtain⟨dh5,dh6,fg0,fg1⟩:=blk2_ sd))
 (try simp only[Act.put,List.setIfInBounds_toArray,List.set_cons_zero,List.set_cons_succ])
 go_cut [23] (fun v23 wc=>∃(kq:Nat) (fg2:Bool),v23 = .bool fg2/\Jc (Fi.j0 kq (ab.length:Int) fg2 ab aa=some r)/\Jc (kq<=k)/\Jc (hc_ wc dh9 #[(.slice af ab.length ac),(.slice ah aa.length ag)] 25)/\Jc (Below w.heap.size w wc))
 case first=>
  have H:=HC2.out
  clear HC2
  by_cases c5:(ab.length:Int) < 1
  ·rw[if_pos c5] at H
   have kn:=decide_eq_true c5
   have ay0:decide (ab.length < 1)=true:=decide_eq_true (by omega)
   clear c5
   (first|rw[kn]|(simp only[i64_w,i32_w];rw[kn])|skip)
   have H':=A_ H
   clear H
   go_wp2
   go_meet
   case rel=>exact⟨_,(true),(g3_),H',⟨g9_⟩,⟨uB_ sd⟩,⟨vt⟩⟩
  rw[if_neg c5] at H
  have kn:=decide_eq_false c5
  have ay0:decide (ab.length < 1)=false:=decide_eq_false (by omega)
  clear c5
  (first|rw[kn]|(simp only[i64_w,i32_w];rw[kn])|skip)
  by_cases c6:(ab.length:Int) > 4
  ·rw[if_pos c6] at H
   have kf:=decide_eq_true c6
   have bs0:decide (4 < ab.length)=true:=decide_eq_true (by omega)
   clear c6
   have H':=A_ H
   clear H
   go_wp2
   go_meet
   case rel=>exact⟨_,(true),(g3_),H',⟨g9_⟩,⟨uB_ sd⟩,⟨vt⟩⟩
  rw[if_neg c6] at H
  have kf:=decide_eq_false c6
  have bs0:decide (4 < ab.length)=false:=decide_eq_false (by omega)
  clear c6
  have H':=A_ H
  clear H
  obtain⟨aa9,ab0,ab1,ab2⟩:=blk2_ sd
  go_wp2
  go_meet
  case rel=>exact⟨_,(((aa.length:Int) != (ab.length:Int))),(g3_),H',⟨g9_⟩,⟨uB_ sd⟩,⟨vt⟩⟩
 clear HC2
 obtain⟨kq,fg2,rfl,HA,HJ1,sd,HB⟩:=hcut
 cases kq with
 | zero=>exact absurd HA.out (by simp[Fi.j0])
 | succ kj1=>?_
 have H:=HA.out
 clear HA
 simp only[Fi.j0] at H
 by_cases c8:fg2=true
 ·subst c8
  replace H:=ifp_ H
  obtain rfl:=Option.some.inj H
  go_wp2
  go_ret
  exact⟨g4_,vt⟩
 replace c8:=Bool.eq_false_iff.mpr c8
 subst c8
 replace H:=ifn_ H
 have H':=A_ H
 clear H
 obtain⟨ag5,ag6,ag7,ag8⟩:=blk2_ sd
 go_wp2
 go_loopg [27] kj1 (fun kq v27 w'=>∃(hz:Int),v27 = .int .i64 hz/\Jc (Fi.l0 kq (ab.length:Int) aa (aa.length:Int) hz ab aa=some r)/\Jc (kq<=kj1)/\Jc (hc_ w' dh9 #[(.slice af ab.length ac),(.slice ah aa.length ag)] 25)/\Jc (Below w.heap.size w w'))
 case atStart=>exact⟨(0),(g3_),H',⟨Nat.le_refl _⟩,⟨uB_ sd⟩,⟨vt⟩⟩
 clear H'
 obtain⟨hz,rfl,HA,HK2,sd,HB⟩:=hrel
 cases gk with
 | zero=>exact absurd HA.out (by simp[Fi.l0])
 | succ k2=>?_
 have H:=HA.out
 clear HA
 simp only[Fi.l0] at H
 by_cases i1:hz < (aa.length:Int)
 case neg=>
  rw[if_neg i1] at H
  have ab7:=decide_eq_false i1
  clear i1
  obtain rfl:=Option.some.inj H
  go_wp2
  go_ret
  exact⟨g4_,vt⟩
 rw[if_pos i1] at H
 have ab7:=decide_eq_true i1
 clear i1
 obtain⟨co4,H⟩:=pd_ H
 obtain⟨aq4,H⟩:=pd_ H
 have gr8:=A_ H
 clear H
 obtain⟨⟨iz1,oc9,od0,lk2,fg3,iz2,iz3⟩,eh9,ei0⟩:=rdp_ (at_L1 bd.out hz)
 cases lk2
 replace fg3:=cl_ HB fg3
 have fg4:=A_ iz3
 have od1:=A_ iz2
 clear iz3 iz2
 go_upto_region 7 with(fail)
 go_cut [58] (fun v58 wc=>∃(kq:Nat) (fg5:Bool),v58 = .bool fg5/\Jc (Fi.j2 kq (ab.length:Int) (Jr aa hz) aa (aa.length:Int) hz fg5 ab aa=some r)/\Jc (kq<=k2)/\Jc (hc_ wc dh9 #[(.slice af ab.length ac),(.slice (some iz1) aa.length ag)] 25)/\Jc (Below w.heap.size w wc))
 case first=>
  have H:=gr8.out
  clear gr8
  obtain⟨aq8,H⟩:=pd_ H
  (first|rw[aq8]|(simp only[i64_w,i32_w];rw[aq8])|skip)
  by_cases eu:(rd ab hz) < 0
  ·rw[if_pos eu] at H
   have pf:=decide_eq_true eu
   clear eu
   have H':=A_ H
   clear H
   obtain⟨af1,af2,af3,af4⟩:=blk2_ sd
   obtain⟨⟨di0,ct7,an5⟩,xu,xv⟩:=rdp_ (Kd.at_int bg.out hz)
   cases ct7
   replace an5:=cl_ HB an5
   go_wp2
   go_meet
   case rel=>exact⟨_,(true),(g3_),H',⟨g54_⟩,⟨uB_ sd⟩,⟨vt⟩⟩
  rw[if_neg eu] at H
  have pf:=decide_eq_false eu
  clear eu
  by_cases i7:(rd ab hz) > 20
  ·rw[if_pos i7] at H
   have al4:=decide_eq_true i7
   clear i7
   have H':=A_ H
   clear H
   obtain⟨ap7,ap8,ap9,aq0⟩:=blk2_ sd
   obtain⟨⟨di0,ct7,an5⟩,xu,xv⟩:=rdp_ (Kd.at_int bg.out hz)
   cases ct7
   replace an5:=cl_ HB an5
   obtain⟨⟨ei1,ei2,bj3⟩,an6,an7⟩:=rdp_ (Kd.at_int bg.out hz)
   obtain rfl:di0=ei1:=(by injection ei2)
   replace bj3:=cl_ HB bj3
   go_wp2
   go_meet
   case rel=>exact⟨_,(true),(g3_),H',⟨g54_⟩,⟨uB_ sd⟩,⟨vt⟩⟩
  rw[if_neg i7] at H
  have al4:=decide_eq_false i7
  clear i7
  by_cases fe:((Jr aa hz).length:Int)=(ab.length:Int)
  ·rw[if_pos fe] at H
   have tr:(((Jr aa hz).length:Int) == (ab.length:Int))=true:=beq_iff_eq.mpr fe
   have am9:(((Jr aa hz).length:Int) != (ab.length:Int))=false:=bne_eq_false_iff_eq.mpr fe
   have df1:((Jr aa hz).length == ab.length)=true:=by first|simpa using fe|(simp at fe |-;omega)
   clear fe
   obtain⟨ei3,H⟩:=pd_ H
   have H':=A_ H
   clear H
   obtain⟨uh,ui,uj,uk⟩:=blk2_ sd
   obtain⟨⟨di0,ct7,an5⟩,xu,xv⟩:=rdp_ (Kd.at_int bg.out hz)
   cases ct7
   replace an5:=cl_ HB an5
   obtain⟨⟨ei1,ei2,bj3⟩,an6,an7⟩:=rdp_ (Kd.at_int bg.out hz)
   obtain rfl:di0=ei1:=(by injection ei2)
   replace bj3:=cl_ HB bj3
   obtain⟨⟨od2,lk3,fg6⟩,ei4,ei5⟩:=rdp_ (Kd.at_int fg4.out hz)
   cases lk3
   replace fg6:=cl_ HB fg6
   go_wp2
   go_meet
   case rel=>exact⟨_,(((rd (Jr aa hz) hz) != 0)),(g3_),H',⟨g54_⟩,⟨uB_ sd⟩,⟨vt⟩⟩
  rw[if_neg fe] at H
  have tr:(((Jr aa hz).length:Int) == (ab.length:Int))=false:=beq_eq_false_iff_ne.mpr fe
  have am9:(((Jr aa hz).length:Int) != (ab.length:Int))=true:=bne_iff_ne.mpr fe
  have df1:((Jr aa hz).length == ab.length)=false:=by first|simpa using fe|(simp at fe |-;omega)
  have H':=A_ H
  clear H
  obtain⟨af6,af7,af8,af9⟩:=blk2_ sd
  obtain⟨⟨di0,ct7,an5⟩,xu,xv⟩:=rdp_ (Kd.at_int bg.out hz)
  cases ct7
  replace an5:=cl_ HB an5
  obtain⟨⟨ei1,ei2,bj3⟩,an6,an7⟩:=rdp_ (Kd.at_int bg.out hz)
  obtain rfl:di0=ei1:=(by injection ei2)
  replace bj3:=cl_ HB bj3
  go_wp2
  go_meet
  case rel=>exact⟨_,(true),(g3_),H',⟨g54_⟩,⟨uB_ sd⟩,⟨vt⟩⟩
 clear gr8
 obtain⟨kq,fg5,rfl,HA,HJ12,sd,HB⟩:=hcut
 cases kq with
 | zero=>exact absurd HA.out (by simp[Fi.j2])
 | succ kj12=>?_
 have H:=HA.out
 clear HA
 simp only[Fi.j2] at H
 by_cases my:fg5=true
 ·subst my
  replace H:=ifp_ H
  obtain rfl:=Option.some.inj H
  go_wp2
  go_ret
  exact⟨g4_,vt⟩
 replace my:=Bool.eq_false_iff.mpr my
 subst my
 replace H:=ifn_ H
 have H':=A_ H
 clear H
 go_wp2
 go_loopg [61] kj12 (fun kq v61 w'=>∃(zn:Int),v61 = .int .i64 zn/\Jc (Fi.l1 kq (ab.length:Int) aa (aa.length:Int) hz (Jr aa hz) ((Jr aa hz).length:Int) zn ab aa=some r)/\Jc (kq<=kj12)/\Jc (hc_ w' dh9 #[(.slice af ab.length ac),(.slice (some iz1) aa.length ag)] 25)/\Jc (Below w.heap.size w w'))
 case atStart=>exact⟨(0),(g3_),H',⟨Nat.le_refl _⟩,⟨uB_ sd⟩,⟨vt⟩⟩
 clear H'
 obtain⟨zn,rfl,HA,HK4,sd,HB⟩:=hrel
 cases gk with
 | zero=>exact absurd HA.out (by simp[Fi.l1])
 | succ k4=>?_
 have H:=HA.out
 clear HA
 simp only[Fi.l1] at H
 by_cases jy:zn < ((Jr aa hz).length:Int)
 case neg=>
  rw[if_neg jy] at H
  have yw:=decide_eq_false jy
  clear jy
  have H':=A_ H
  clear H
  go_wp2
  go_roundg k4
  case measure=>have:=HJ1.out;have:=HK2.out;have:=HJ12.out;have:=HK4.out;omega
  case rel=>exact⟨(wrap64 (hz + 1)),(g3_),H',⟨by have:=HJ1.out;have:=HK2.out;have:=HJ12.out;have:=HK4.out;omega⟩,⟨uB_ sd⟩,⟨vt⟩⟩
 rw[if_pos jy] at H
 have yw:=decide_eq_true jy
 clear jy
 obtain⟨bg1,H⟩:=pd_ H
 obtain⟨co0,H⟩:=pd_ H
 by_cases mb:(rd (Jr aa hz) zn) < 0
 ·rw[if_pos mb] at H
  have cb0:=decide_eq_true mb
  clear mb
  obtain rfl:=Option.some.inj H
  obtain⟨⟨iz4,ei6,ce9⟩,bc2,bc3⟩:=rdp_ (Kd.at_int fg4.out zn)
  cases ei6
  replace ce9:=cl_ HB ce9
  go_wp2
  go_ret
  exact⟨g4_,vt⟩
 rw[if_neg mb] at H
 have cb0:=decide_eq_false mb
 clear mb
 by_cases lo:(rd (Jr aa hz) zn) > 9
 ·rw[if_pos lo] at H
  have bp0:=decide_eq_true lo
  clear lo
  obtain rfl:=Option.some.inj H
  obtain⟨⟨iz4,ei6,ce9⟩,bc2,bc3⟩:=rdp_ (Kd.at_int fg4.out zn)
  cases ei6
  replace ce9:=cl_ HB ce9
  go_wp2
  go_ret
  exact⟨g4_,vt⟩
 rw[if_neg lo] at H
 have bp0:=decide_eq_false lo
 clear lo
 have H':=A_ H
 clear H
 obtain⟨⟨iz4,ei6,ce9⟩,bc2,bc3⟩:=rdp_ (Kd.at_int fg4.out zn)
 cases ei6
 replace ce9:=cl_ HB ce9
 go_wp2
 go_roundg k4
 case measure=>have:=HJ1.out;have:=HK2.out;have:=HJ12.out;have:=HK4.out;omega
 case rel=>exact⟨(wrap64 (zn + 1)),(g3_),H',⟨by have:=HJ1.out;have:=HK2.out;have:=HJ12.out;have:=HK4.out;omega⟩,⟨uB_ sd⟩,⟨vt⟩⟩
def F7.bad (k:Nat) (n:Int):List S25->Nat->Option Int
 | [],_=>some (-1)
 | x :: r,i=>(Fi.f k x.f0 x.f1).bind fun t=>if t=true then(if (x.f0.length:Int)=n then F7.bad k n r (i + 1) else some (i:Int)) else some (i:Int)
def F7.f (k:Nat) (l0:List Int) (l1:List (List Int)) (l2:List S25):Option Bool:=(Fi.f k l0 l1).bind fun t=>if t=true then(if (l2.length:Int)<=8 then(F7.bad k (l0.length:Int) l2 0).bind fun q=>some (!decide (q ≥ 0)) else some false) else some false
set_option maxHeartbeats 8000000 in
set_option maxRecDepth 100000 in
theorem F7.lit (k:Nat) (A0:Option Addr) (c0:Nat) (l0:List Int) (A1:Option Addr) (c1:Nat) (l1:List (List Int)) (gb:Nat) (AN:Option Addr) (nN cN:Nat) (vD vP:Value) (t:Bool) (w:World) (fa:Kd.C (Kd.int .i64) w A0 l0.length l0) (ec:l0.length<=c0) (iu:Kd.C (Kd.slice 3 (Kd.int .i64)) w A1 l1.length l1) (iz:l1.length<=c1) (hbk:w.heap[gb]? = some (.cells #[.slice AN nN cN,vD,vP] 28 (0,0))) (h:Fi.f k l0 l1=some t) :
  Calls Try.prog 110 #[.agg #[.slice A0 l0.length c0, .slice A1 l1.length c1], .pointer (some ⟨gb,0,none⟩)] w fun e w'=>e = .returned (.bool (if t=true then((l0.length:Int) != (nN:Int)) else true))/\Below w.heap.size w w':=by
 have hu:=Try.underlying25
 have hu2:=Try.underlying28
 have fp:=A_ fa
 have fs:=A_ iu
 have BKD:=A_ hbk
 have HB:=A_ (Below.refl w.heap.size w)
 have HT:=A_ h
 have op:=A_ ec
 have pe:=A_ iz
 clear fa iu hbk h ec iz
 by_cases ht:t=true
 ·subst ht
  go_enter Try.func110,Try.ntmps110
  go_wp2_with (first|((with_reducible refine gd_ 2 ?_);refine box_event ?hg (N:=2) ?hd (cs:=#[.slice A0 l0.length c0, .slice A1 l1.length c1]) (t:=25) ?hr ?_;(case hd=>rfl);(case hg=>rfl);(case hr=>first|(go_simp;done)|(go_simp;rfl));intro g2 hg w2 hbox hb;have n0_:=A_ (Jp BKD.out hb);have n1_:=A_ (Jw HB.out hb);have BK:=A_ hbox;clear BKD HB hbox hg;have BKD:=n0_;have HB:=n1_;clear n0_ n1_ hb;have hcz_0:w2.cell? ⟨g2,0,none⟩=some (.slice A0 l0.length c0):=(Jd BK.out 0).trans rfl;have hcz_1:w2.cell? ⟨g2,1,none⟩=some (.slice A1 l1.length c1):=(Jd BK.out 1).trans rfl)|((with_reducible refine gc_ 73 ?_);refine goesL_ (some 5) rfl rfl Try.func73 (g1_) rfl #[.agg #[.slice A0 l0.length c0, .slice A1 l1.length c1]] rfl (g94_) ?_;(refine(Fi.calls k _ _ l0 _ _ l1 true _ (cu_ (Kd.C_below fp.out HB.out)) op.out (cu_ (Kd.C_below fs.out HB.out)) pe.out HT.out).mono ?_);rintro e w3 ⟨rfl,hb⟩;refine⟨_,rfl,?_⟩;have n0_:=A_ (Jp (by exact uB_ BKD) hb);have n1_:=A_ (Jp (by(with_reducible repeat(first|refine Jm ?_ _|refine Jn ?_|refine Jl ?_ _));exact BK.out) hb);have n2_:=hs_ (g13_) hb;clear BKD BK HB hb;have BKD:=n0_;have BK:=n1_;have HB:=n2_;clear n0_ n1_ n2_;have hcy_0:w3.cell? ⟨g2,0,none⟩=some (.slice A0 l0.length c0):=(Jd BK.out 0).trans rfl;have hcd_0:w3.cell? ⟨gb,0,none⟩=some (.slice AN nN cN):=(Jd BKD.out 0).trans rfl))
  go_ret
  exact⟨g3_,g13_⟩
 obtain rfl:t=false:=by simpa using ht
 clear ht
 go_enter Try.func110,Try.ntmps110
 go_wp2_with (first|((with_reducible refine gd_ 2 ?_);refine box_event ?hg (N:=2) ?hd (cs:=#[.slice A0 l0.length c0, .slice A1 l1.length c1]) (t:=25) ?hr ?_;(case hd=>rfl);(case hg=>rfl);(case hr=>first|(go_simp;done)|(go_simp;rfl));intro g2 hg w2 hbox hb;have n1_:=A_ (Jw HB.out hb);have BK:=A_ hbox;clear HB hbox hg;have HB:=n1_;clear n1_ hb;have hcz_0:w2.cell? ⟨g2,0,none⟩=some (.slice A0 l0.length c0):=(Jd BK.out 0).trans rfl;have hcz_1:w2.cell? ⟨g2,1,none⟩=some (.slice A1 l1.length c1):=(Jd BK.out 1).trans rfl)|((with_reducible refine gc_ 73 ?_);refine goesL_ (some 5) rfl rfl Try.func73 (g1_) rfl #[.agg #[.slice A0 l0.length c0, .slice A1 l1.length c1]] rfl (g94_) ?_;(refine(Fi.calls k _ _ l0 _ _ l1 false _ (cu_ (Kd.C_below fp.out HB.out)) op.out (cu_ (Kd.C_below fs.out HB.out)) pe.out HT.out).mono ?_);rintro e w3 ⟨rfl,hb⟩;refine⟨_,rfl,?_⟩;have n2_:=hs_ (g13_) hb;clear HB hb;have HB:=n2_;clear n2_))
 go_ret
 exact⟨g3_,g13_⟩
set_option maxHeartbeats 8000000 in
set_option maxRecDepth 100000 in
theorem F7.index (k:Nat) (A2:Option Addr) (c2:Nat) (l2:List S25) (gb:Nat) (AN:Option Addr) (nN cN:Nat) (vD vP:Value) (r:Int) (w:World) (hr2:Kd.C k25 w A2 l2.length l2) (hc2:l2.length<=c2) (hbk:w.heap[gb]? = some (.cells #[.slice AN nN cN,vD,vP] 28 (0,0))) (h:F7.bad k (nN:Int) l2 0=some r) :
  Calls Try.prog 127 #[.slice A2 l2.length c2, .func (.func 110) #[] #[.pointer (some ⟨gb,0,none⟩)]] w fun e w'=>e = .returned (.int .i64 r)/\Below w.heap.size w w':=by
 have hn:l2.length<=9223372036854775807:=hr2.2.1
 have HR2:=A_ hr2
 have BKD:=A_ hbk
 have HB:=A_ (Below.refl w.heap.size w)
 have H:=A_ h
 clear hr2 hbk h
 generalize hN:l2.length=n at *
 have HN:=A_ hN
 clear hN
 go_enter Try.func127,Try.ntmps127
 go_wp2_with fail
 go_loopg [5,8] n (fun kq v5 v8 w'=>∃j:Nat,kq + j=n/\v8 = .int .i64 j/\Jc (F7.bad k (nN:Int) (l2.drop j) j=some r)/\Jc (Below w.heap.size w w'))
 case atStart=>exact⟨0,rfl,rfl,⟨H.out⟩,⟨g13_⟩⟩
 clear HB H
 obtain⟨j,hj,rfl,HA,HB⟩:=hrel
 by_cases hlt:j < n
 case neg=>
  obtain rfl:j=n:=by omega
  have hr:Jc ((-1:Int)=r):=⟨by have:=HA.out;rw[List.drop_of_length_le (by rw[HN.out];exact Nat.le_refl _)] at this;exact Option.some.inj this⟩
  have gj:decide ((j:Int) < (j:Int))=false:=decide_eq_false (by omega)
  clear HA
  go_wp2_with fail
  go_ret
  exact⟨by rw[<- hr.out];rfl,g13_⟩
 obtain⟨k1,rfl⟩:∃k1,gk=k1 + 1:=⟨gk - 1,by omega⟩
 have hlt2:j < l2.length:=by rw[HN.out];exact hlt
 have hd:l2.drop j=Js l2 (j:Int) :: l2.drop (j + 1):=by
  rw[List.drop_eq_getElem_cons hlt2];simp[Js,List.getD_eq_getElem?_getD,List.getElem?_eq_getElem hlt2]
 have HX:=HA.out
 rw[hd] at HX
 simp only[F7.bad] at HX
 clear HA
 obtain⟨ad,B0,d0,B1,d1,e,hx0,hx1,hl0,hi0,hl1,hi1⟩:=at_T25 HR2.out (j:Int) (by omega) (by omega)
 cases e
 have hx0':=(HB.out.cell (World.block_lt_of_cell? w _ hx0)).trans hx0
 have hx1':=(HB.out.cell (World.block_lt_of_cell? w _ hx1)).trans hx1
 rw[Int.toNat_natCast] at hx0' hx1'
 have HI0:=A_ hi0
 have HI1:=A_ hi1
 have HL0:=A_ hl0
 have HL1:=A_ hl1
 have p5:(0<=(j:Int))=True:=eq_true (by omega)
 have q5:((j:Int) < (n:Int))=True:=eq_true (by omega)
 have gj:decide ((j:Int) < (n:Int))=true:=decide_eq_true (by omega)
 clear hx0 hx1 hi0 hi1 hl0 hl1 hd hlt2
 generalize Js l2 (j:Int)=y at hx0' hx1' HI0 HI1 HL0 HL1 HX
 obtain⟨t,hT,HX⟩:=Option.bind_eq_some_iff.mp HX
 have HT:=A_ hT
 clear hT
 by_cases hb2:(if t=true then((y.f0.length:Int) != (nN:Int)) else true)=true
 ·have hr:Jc ((j:Int)=r):=⟨by
   by_cases ht:t=true
   ·rw[if_pos ht] at hb2 HX
    rw[if_neg (by simpa using hb2)] at HX
    exact Option.some.inj HX
   ·rw[if_neg ht] at HX;exact Option.some.inj HX⟩
  have HV:=A_ hb2
  clear hb2 HX
  go_wp2_with (go_at_call 110;refine(F7.lit k _ _ y.f0 _ _ y.f1 gb AN nN cN vD vP t _ ?s1 ?s2 ?s3 ?s4 ?s5 HT.out).mono ?_;(case s1=>exact Kd.C_below HI0.out (g13_));(case s2=>exact HL0.out);(case s3=>exact Kd.C_below HI1.out (g13_));(case s4=>exact HL1.out);(case s5=>exact Jp BKD.out (g13_));rintro e w9 ⟨rfl,hb⟩;rw[HV.out];have n0_:=hs_ (g13_) hb;clear HB hb;have HB:=n0_;clear n0_)
  go_ret
  exact⟨by rw[<- hr.out];rfl,g13_⟩
 have hr:Jc (F7.bad k (nN:Int) (l2.drop (j + 1)) (j + 1)=some r):=⟨by
  by_cases ht:t=true
  ·rw[if_pos ht] at hb2 HX
   rw[if_pos (by simpa using hb2)] at HX
   exact HX
  ·rw[if_neg ht] at hb2;exact absurd rfl hb2⟩
 have HV:Jc ((if t=true then((y.f0.length:Int) != (nN:Int)) else true)=false):=⟨by simpa using hb2⟩
 clear hb2 HX
 go_wp2_with (go_at_call 110;refine(F7.lit k _ _ y.f0 _ _ y.f1 gb AN nN cN vD vP t _ ?s1 ?s2 ?s3 ?s4 ?s5 HT.out).mono ?_;(case s1=>exact Kd.C_below HI0.out (g13_));(case s2=>exact HL0.out);(case s3=>exact Kd.C_below HI1.out (g13_));(case s4=>exact HL1.out);(case s5=>exact Jp BKD.out (g13_));rintro e w9 ⟨rfl,hb⟩;rw[HV.out];have n0_:=hs_ (g13_) hb;clear HB hb;have HB:=n0_;clear n0_)
 go_roundg k1
 case measure=>omega
 case rel=>exact⟨j + 1,by omega,by go_num,hr,⟨g13_⟩⟩
theorem F7.contains (k:Nat) (A2:Option Addr) (c2:Nat) (l2:List S25) (gb:Nat) (AN:Option Addr) (nN cN:Nat) (vD vP:Value) (q:Int) (w:World) (hr2:Kd.C k25 w A2 l2.length l2) (hc2:l2.length<=c2) (hbk:w.heap[gb]? = some (.cells #[.slice AN nN cN,vD,vP] 28 (0,0))) (h:F7.bad k (nN:Int) l2 0=some q) :
  Calls Try.prog 109 #[.slice A2 l2.length c2, .func (.func 110) #[] #[.pointer (some ⟨gb,0,none⟩)]] w fun e w'=>e = .returned (.bool (decide (q ≥ 0)))/\Below w.heap.size w w':=by
 have HR2:=A_ hr2
 have BKD:=A_ hbk
 have HB:=A_ (Below.refl w.heap.size w)
 have H:=A_ h
 have HC2:=A_ hc2
 clear hr2 hbk h hc2
 go_enter Try.func109,Try.ntmps109
 go_wp2_with (go_at_call 127;refine(F7.index k A2 c2 l2 gb AN nN cN vD vP q _ ?s1 HC2.out ?s2 H.out).mono ?_;(case s1=>exact Kd.C_below HR2.out (g13_));(case s2=>exact Jp BKD.out (g13_));rintro e w9 ⟨rfl,hb⟩;have n0_:=hs_ (g13_) hb;clear HB hb;have HB:=n0_;clear n0_)
 go_ret
 exact⟨by rfl,g13_⟩
theorem ci4 {p:Prop} (h:p:=by repeat(first|(with_reducible first|exact HB.out|apply Jk|apply Jj|apply Ji)|exact HB.out)):p:=h
set_option maxHeartbeats 8000000 in
set_option maxRecDepth 100000 in
theorem F7.calls (k:Nat) (A0:Option Addr) (c0:Nat) (l0:List Int) (A1:Option Addr) (c1:Nat) (l1:List (List Int)) (A2:Option Addr) (c2:Nat) (l2:List S25) (r:Bool) (w:World) (fa:Kd.C (Kd.int .i64) w A0 l0.length l0) (ec:l0.length<=c0) (iu:Kd.C (Kd.slice 3 (Kd.int .i64)) w A1 l1.length l1) (iz:l1.length<=c1) (hr2:Kd.C k25 w A2 l2.length l2) (hc2:l2.length<=c2) (h:F7.f k l0 l1 l2=some r) :
  Calls Try.prog 72 #[.agg #[.slice A0 l0.length c0, .slice A1 l1.length c1, .slice A2 l2.length c2]] w fun e w'=>e = .returned (.bool r)/\Below w.heap.size w w':=by
 have hu:=Try.underlying25
 have hu2:=Try.underlying28
 have fp:=A_ fa
 have fs:=A_ iu
 have HR2:=A_ hr2
 have op:=A_ ec
 have pe:=A_ iz
 have HC2:=A_ hc2
 have HB:=A_ (Below.refl w.heap.size w)
 obtain⟨t,h1,h2⟩:=Option.bind_eq_some_iff.mp (show(Fi.f k l0 l1).bind (fun t=>if t=true then(if (l2.length:Int)<=8 then(F7.bad k (l0.length:Int) l2 0).bind (fun q=>some (!decide (q ≥ 0))) else some false) else some false)=some r from h)
 have HT:=A_ h1
 clear fa iu hr2 ec iz hc2 h h1
 by_cases ht:t=true
 case neg=>
  obtain rfl:t=false:=by simpa using ht
  rw[if_neg (by decide)] at h2
  obtain rfl:=Option.some.inj h2
  clear h2 ht
  go_enter Try.func72,Try.ntmps72
  go_wp2_with (first|((with_reducible refine gd_ 1 ?_);refine bx_ (N:=1) #[.slice A0 l0.length c0, .slice A1 l1.length c1, .slice A2 l2.length c2] 28 ?_;intro gb hg w2 hbox hb;have n1_:=A_ (Jw HB.out hb);have BK:=A_ hbox;clear HB hbox hg;have HB:=n1_;clear n1_ hb;have hcz_0:w2.cell? ⟨gb,0,none⟩=some (.slice A0 l0.length c0):=(Jd BK.out 0).trans rfl;have hcz_1:w2.cell? ⟨gb,1,none⟩=some (.slice A1 l1.length c1):=(Jd BK.out 1).trans rfl)|((with_reducible refine gc_ 73 ?_);refine goesL_ (some 5) rfl rfl Try.func73 k_ rfl #[.agg #[.slice A0 l0.length c0, .slice A1 l1.length c1]] rfl (g94_) ?_;(refine(Fi.calls k _ _ l0 _ _ l1 false _ (uC_ fp) op.out (uC_ fs) pe.out HT.out).mono ?_);rintro e w3 ⟨rfl,hb⟩;refine⟨_,rfl,?_⟩;have n1_:=A_ (Jp (uB_ BK) hb);have n2_:=hs_ (ci4) hb;clear BK HB hb;have BK:=n1_;have HB:=n2_;clear n1_ n2_;have hcy_2:w3.cell? ⟨gb,2,none⟩=some (.slice A2 l2.length c2):=(Jd BK.out 2).trans rfl))
  go_ret
  exact⟨rfl,ci4⟩
 subst ht
 rw[if_pos rfl] at h2
 by_cases h8:(l2.length:Int)<=8
 ·rw[if_pos h8] at h2
  obtain⟨q,h3,h4⟩:=Option.bind_eq_some_iff.mp h2
  have HQ:=A_ h3
  have hr:Jc ((!decide (q ≥ 0))=r):=⟨Option.some.inj h4⟩
  have c8:decide ((l2.length:Int)<=8)=true:=decide_eq_true h8
  clear h2 h3 h4 h8
  go_enter Try.func72,Try.ntmps72
  go_wp2_with (first|((with_reducible refine gd_ 1 ?_);refine bx_ (N:=1) #[.slice A0 l0.length c0, .slice A1 l1.length c1, .slice A2 l2.length c2] 28 ?_;intro gb hg w2 hbox hb;have n1_:=A_ (Jw HB.out hb);have BK:=A_ hbox;clear HB hbox hg;have HB:=n1_;clear n1_ hb;have hcz_0:w2.cell? ⟨gb,0,none⟩=some (.slice A0 l0.length c0):=(Jd BK.out 0).trans rfl;have hcz_1:w2.cell? ⟨gb,1,none⟩=some (.slice A1 l1.length c1):=(Jd BK.out 1).trans rfl)|((with_reducible refine gc_ 73 ?_);refine goesL_ (some 5) rfl rfl Try.func73 k_ rfl #[.agg #[.slice A0 l0.length c0, .slice A1 l1.length c1]] rfl (g94_) ?_;(refine(Fi.calls k _ _ l0 _ _ l1 true _ (uC_ fp) op.out (uC_ fs) pe.out HT.out).mono ?_);rintro e w3 ⟨rfl,hb⟩;refine⟨_,rfl,?_⟩;have n1_:=A_ (Jp (uB_ BK) hb);have n2_:=hs_ (ci4) hb;clear BK HB hb;have BK:=n1_;have HB:=n2_;clear n1_ n2_;have hcy_2:w3.cell? ⟨gb,2,none⟩=some (.slice A2 l2.length c2):=(Jd BK.out 2).trans rfl)|(go_at_call 109;refine(F7.contains k A2 c2 l2 gb A0 l0.length c0 (.slice A1 l1.length c1) (.slice A2 l2.length c2) q _ ?s1 HC2.out ?s2 HQ.out).mono ?_;(case s1=>exact Kd.C_below HR2.out (ci4));(case s2=>(with_reducible repeat(first|refine Jm ?_ _|refine Jn ?_|refine Jl ?_ _));exact BK.out);rintro e w9 ⟨rfl,hb⟩;replace HB:=hs_ (ci4) hb;clear hb))
  go_ret
  exact⟨by rw[<- hr.out];rfl,ci4⟩
 rw[if_neg h8] at h2
 obtain rfl:=Option.some.inj h2
 have c8:decide ((l2.length:Int)<=8)=false:=decide_eq_false h8
 clear h2 h8
 go_enter Try.func72,Try.ntmps72
 go_wp2_with (first|((with_reducible refine gd_ 1 ?_);refine bx_ (N:=1) #[.slice A0 l0.length c0, .slice A1 l1.length c1, .slice A2 l2.length c2] 28 ?_;intro gb hg w2 hbox hb;have n1_:=A_ (Jw HB.out hb);have BK:=A_ hbox;clear HB hbox hg;have HB:=n1_;clear n1_ hb;have hcz_0:w2.cell? ⟨gb,0,none⟩=some (.slice A0 l0.length c0):=(Jd BK.out 0).trans rfl;have hcz_1:w2.cell? ⟨gb,1,none⟩=some (.slice A1 l1.length c1):=(Jd BK.out 1).trans rfl)|((with_reducible refine gc_ 73 ?_);refine goesL_ (some 5) rfl rfl Try.func73 k_ rfl #[.agg #[.slice A0 l0.length c0, .slice A1 l1.length c1]] rfl (g94_) ?_;(refine(Fi.calls k _ _ l0 _ _ l1 true _ (uC_ fp) op.out (uC_ fs) pe.out HT.out).mono ?_);rintro e w3 ⟨rfl,hb⟩;refine⟨_,rfl,?_⟩;have n1_:=A_ (Jp (uB_ BK) hb);have n2_:=hs_ (ci4) hb;clear BK HB hb;have BK:=n1_;have HB:=n2_;clear n1_ n2_;have hcy_2:w3.cell? ⟨gb,2,none⟩=some (.slice A2 l2.length c2):=(Jd BK.out 2).trans rfl))
 go_ret
 exact⟨rfl,ci4⟩
theorem eqA69 (d:Nat) (w:World) (x0 y0:Int) (x1 y1:Int) (x2 y2:Int) (x3 y3:Int) :
  (Op.equalIn (d + 2) 69 (.agg #[.int .i64 x0, .int .i64 x1, .int .i64 x2, .int .i64 x3]) (.agg #[.int .i64 y0, .int .i64 y1, .int .i64 y2, .int .i64 y3])).run Try.prog w = .ok (x0 == y0 && (x1 == y1 && (x2 == y2 && (x3 == y3)))) w:=by
 refine eqA_of Try.underlying69 (g1_) ?_
 refine eqf_cons (by rfl) (g40_) (g40_) (by go_simp) ?_
 refine eqf_cons (by rfl) (g40_) (g40_) (by go_simp) ?_
 refine eqf_cons (by rfl) (g40_) (g40_) (by go_simp) ?_
 exact eqf_last (by rfl) (g40_) (g40_) (by go_simp)
def Fo.l0:Nat->List (List Int)->Int->Int->List Int->List (List Int)->Option (List Int × (List (List Int)))
 | 0,_,_,_,_,_=>none
 | k + 1,wm,lb,x14,iz5,gs0=>if x14 < lb then(if 0<=x14 then(if x14 < (wm.length:Int) then((some (([]:List Int):List Int)).bind fun cu0=>(if cu0.length + (Jr wm x14).length < 17592186044416 then(if gs0.length < 5864062014805 then(Fo.l0 k wm lb (wrap64 (x14 + 1)) iz5 (gs0 ++ [(cu0 ++ (Jr wm x14))])) else(none)) else(none))) else(none)) else(none)) else(some (iz5,gs0))
def Fo.f (k:Nat) (ab:List Int) (aa:List (List Int)):Option (List Int × (List (List Int))):=(some (([]:List Int):List Int)).bind fun bj4=>(if bj4.length + ab.length < 17592186044416 then(Fo.l0 k aa (aa.length:Int) 0 (bj4 ++ ab) ([]:List (List Int))) else(none))
def Fo.T5:Bool × List (List Nat × List Nat):=(true,[([],[]),([0],[0]),([],[]),([],[]),([2,3],[2,3]),([4],[4]),([1,5,4],[1,5]),([0,1,2,3,4,5,6],[]),([7,6,6,0,1,2,3,4,5,6],[6,7])])
def Fo.B5:List Nat:=[0,1,0,0,12,28,63,127,255]
theorem Fo.tab5:rtab .any (opsOf Try.f111 5)=Fo.T5:=by kernel_rfl
theorem Fo.bits5:waitsOk Fo.T5.2 Fo.B5=true:=by kernel_rfl
theorem ym {p:Prop} (h:p:=by repeat(first|(with_reducible first|exact HB.out|apply Jk|apply Jj|apply Ji|refine Jh ?_ lk6.out|refine Jh ?_ lk7.out|refine Jh ?_ lk8.out)|exact HB.out)):p:=h
set_option maxHeartbeats 8000000 in
set_option maxRecDepth 100000 in
theorem Fo.calls (k:Nat) (af:Option Addr) (ac:Nat) (ab:List Int) (ah:Option Addr) (ag:Nat) (aa:List (List Int)) (r1:List Int) (r2:List (List Int)) (w:World) (cb:Kd.C (Kd.int .i64) w af ab.length ab) (cg:ab.length<=ac) (cc:Kd.C (Kd.slice 3 (Kd.int .i64)) w ah aa.length aa) (ch:aa.length<=ag) (h:Fo.f k ab aa=some (r1,r2)) :
  Calls Try.prog 111 #[.agg #[.slice af ab.length ac, .slice ah aa.length ag]] w fun e w'=>∃v0_ v1_:Value,e = .returned (.agg #[v0_,v1_])/\Kd.R (Kd.int .i64) 3 w' w.heap.size (fun _=>True) v0_ r1/\Kd.S (Kd.slice 3 (Kd.int .i64)) 22 w' w.heap.size (fun k_=>some k_≠(v0_:Value).ownBlock) v1_ r2/\Below w.heap.size w w':=by
 have hu25:=Try.underlying25
 have bg:=A_ cb
 have bw:=A_ cg
 clear cb cg
 have bd:=A_ cc
 have b4:=A_ ch
 clear cc ch
 have HB:=A_ (Below.refl w.heap.size w)
 have H:=h
 unfold Fo.f at H
 clear h
 obtain⟨bj4,hyq⟩:∃y_:List Int,y_=(([]:List Int)):=⟨_,rfl⟩
 replace H:(if bj4.length + ab.length < 17592186044416 then(Fo.l0 k aa (aa.length:Int) 0 (bj4 ++ ab) ([]:List (List Int))) else(none))=some (r1,r2):=qh_
 have iz6:=A_ hyq
 clear hyq
 obtain⟨c2,H⟩:=pos_ H
 have ga2:=A_ c2
 clear c2
 obtain⟨qs,hyq⟩:∃y_:List Int,y_=(bj4 ++ ab):=⟨_,rfl⟩
 replace H:(Fo.l0 k aa (aa.length:Int) 0 qs ([]:List (List Int)))=some (r1,r2):=qh_
 have lk9:=A_ hyq
 clear hyq
 have H':=A_ H
 clear H
 go_enter Try.func111,Try.ntmps111
 go_wp2_with (first|((with_reducible refine gd_ 1 ?_);refine bx_ (N:=1) #[.slice af ab.length ac, .slice ah aa.length ag] 25 ?_;intro ai6 hg w3 hbox hb;have oe:=A_ (hbox);have od3:=A_ ((g79_:w.heap.size<=ai6));have lk6:=od3;replace HB:=hs_ (ym) hb;clear hb hbox hg)|((with_reducible refine gd_ 2 ?_);refine bx_ (N:=2) #[.slice none 0 0, .slice none 0 0] 25 ?_;intro xw hg w4 hbox hb;have o7:=A_ (hbox);have od4:=A_ ((g79_:w.heap.size<=xw));have lk7:=od4;replace HB:=hs_ (ym) hb;have iz7:=nl_ oe hg;have iz8:=nr_ oe hg;replace oe:=bb_ oe hb;clear hb hbox hg)|((with_reducible refine gd_ 6 ?_);refine rle_ 6 [] ?_;intro ll0 w5 ho6 hb hg_ hnew_;clear hg_ hnew_;(first|rw[<- iz6.out] at ho6|(simp only[Int.reduceToNat] at ho6;rw[<- iz6.out] at ho6));have fg7:=A_ (Kd.R_lower ho6 (Je (ym)));replace oe:=bb_ oe hb;replace o7:=bb_ o7 hb;replace HB:=hs_ (ym) hb;clear hb ho6;have dc0:=iz7.out;have dc1:=iz8.out;obtain⟨bg3,bg4,bg5,bg6⟩:=blk2_ oe)|((with_reducible refine gate_builtin (b:=.append) (xs:=#[.tmp 6, .tmp 8]) rfl ?_);at_builtin;refine Kd.R_append_rows (Kd.int .i64) (w0:=w) w.heap.size rfl (.tmp 6) (.tmp 8) 22 3 (.int .i64 0) 8 rfl Try.underlying22 info3 rfl (by decide) (by omega) ll0 bj4 ab _ _ _ (fun _=>True) (fun _=>False) rfl rfl ?aO ?aR (fun _ _ h=>h) (fun _ h=>h.elim) ?aF ?aB ?aS ?aL ?_;(case aR=>exact uC_ bg);(case aB=>exact(ym));(case aF=>exact(fun _ _=>trivial));(case aO=>exact(uR_ fg7));(case aS=>exact(Je (ym)));(case aL=>have:=ga2.out;omega);intro od5 w9 ho hb hg hat;rw[<- lk9.out] at ho;replace oe:=(bg_ oe hg (Kd.R_ne fg7.out oe.out (by decide)));replace o7:=(bg_ o7 hg (Kd.R_ne fg7.out o7.out (by decide)));replace HB:=A_ (hb);have fg8:=A_ (ho);clear fg7;clear ho hb hg hat;obtain⟨ie,gl,yu⟩:=Kd.R_slice fg8.out;subst yu)|((with_reducible refine gd_ 3 ?_);refine bx_ (N:=3) #[.slice none 0 0, .slice none 0 0] 25 ?_;intro zo hg g8 hbox hb;replace fg8:=rb_ fg8 hb;have m7:=A_ (hbox);have od6:=A_ ((g79_:w.heap.size<=zo));have lk8:=od6;replace HB:=hs_ (ym) hb;have di1:=nl_ oe hg;have gs1:=nr_ oe hg;replace oe:=bb_ oe hb;have di2:=nl_ o7 hg;have gs2:=nr_ o7 hg;replace o7:=bb_ o7 hb;clear hb hbox hg;have cl3:=gs1.out;have cl4:=di1.out;have ga6:=gs2.out;have ga7:=di2.out;obtain⟨um,un,uo,uq⟩:=blk2_ m7;obtain⟨ci5,ci6,ci7,ci8⟩:=blk2_ oe))
 go_loopg [14] k (fun kq v14 w'=>∃(ac4:Int) (at2:List (List Int)) (bc4:Value),v14 = .int .i64 ac4/\Jc (Fo.l0 kq aa (aa.length:Int) ac4 qs at2=some (r1,r2))/\Jc (kq<=k)/\Jc (Kd.R (Kd.int .i64) 3 w' w.heap.size (fun _=>True) (.slice ie qs.length gl) qs)/\Jc (Kd.S (Kd.slice 3 (Kd.int .i64)) 22 w' w.heap.size (fun k_=>some k_≠((.slice ie qs.length gl):Value).ownBlock) bc4 at2)/\Jc (hc_ w' ai6 #[(.slice af ab.length ac),(.slice ah aa.length ag)] 25)/\Jc (hc_ w' xw #[(.slice none 0 0),(.slice none 0 0)] 25)/\Jc (hc_ w' zo #[(.slice ie qs.length gl),bc4] 25)/\Jc (Below w.heap.size w w'))
 case atStart=>exact⟨(0),(([]:List (List Int))),(.slice none 0 0),(g3_),H',⟨Nat.le_refl _⟩,⟨ra_ fg8⟩,⟨g41_⟩,⟨ba_ oe⟩,⟨ba_ o7⟩,⟨ba_ m7⟩,⟨ym⟩⟩
 clear H'
 obtain⟨ac4,at2,bc4,rfl,HA,HK1,ai7,xx,oe,o7,m7,HB⟩:=hrel
 cases gk with
 | zero=>exact absurd HA.out (by simp[Fo.l0])
 | succ k1=>?_
 have H:=HA.out
 clear HA
 simp only[Fo.l0] at H
 by_cases jb:ac4 < (aa.length:Int)
 case neg=>
  rw[if_neg jb] at H
  have ag9:=decide_eq_false jb
  clear jb
  simp only[Option.some.injEq,Prod.mk.injEq] at H
  obtain⟨rfl,rfl⟩:=H
  have dz3:=gs1.out
  have dz4:=di1.out
  have gb1:=gs2.out
  have gb2:=di2.out
  obtain⟨cm7,cm8,cm9,cn0⟩:=blk2_ m7
  have ee4:=iz8.out
  have ee5:=iz7.out
  obtain⟨hx9,hy1,hy2,hy3⟩:=blk2_ o7
  obtain⟨oq,n0,cn8⟩:=Kd.S_slice xx.out
  subst cn8
  go_wp2
  refine bodyPost_ret (results_cell_row rfl _ _ xw 25 #[.slice ie qs.length gl, .slice oq at2.length n0] (0,0) _ rfl (ba_ o7) Try.underlying25 rfl (g1_)) rfl ?_
  exact⟨_,_,g4_,ra_ ai7,sa_ xx,ym⟩
 rw[if_pos jb] at H
 have ag9:=decide_eq_true jb
 clear jb
 obtain⟨al4,H⟩:=pd_ H
 obtain⟨bh2,H⟩:=pd_ H
 obtain⟨cu0,hyq⟩:∃y_:List Int,y_=(([]:List Int)):=⟨_,rfl⟩
 replace H:(if cu0.length + (Jr aa ac4).length < 17592186044416 then(if at2.length < 5864062014805 then(Fo.l0 k1 aa (aa.length:Int) (wrap64 (ac4 + 1)) qs (at2 ++ [(cu0 ++ (Jr aa ac4))])) else(none)) else(none))=some (r1,r2):=qh_
 have iz9:=A_ hyq
 clear hyq
 obtain⟨fe,H⟩:=pos_ H
 have gs3:=A_ fe
 clear fe
 obtain⟨ei7,hyq⟩:∃y_:List Int,y_=(cu0 ++ (Jr aa ac4)):=⟨_,rfl⟩
 replace H:(if at2.length < 5864062014805 then(Fo.l0 k1 aa (aa.length:Int) (wrap64 (ac4 + 1)) qs (at2 ++ [ei7])) else(none))=some (r1,r2):=qh_
 have ll1:=A_ hyq
 clear hyq
 obtain⟨o3,H⟩:=pos_ H
 have ez0:=A_ o3
 clear o3
 obtain⟨ei8,hyq⟩:∃y_:List (List Int),y_=(at2 ++ [ei7]):=⟨_,rfl⟩
 replace H:(Fo.l0 k1 aa (aa.length:Int) (wrap64 (ac4 + 1)) qs ei8)=some (r1,r2):=qh_
 have ll2:=A_ hyq
 clear hyq
 have H':=A_ H
 clear H
 obtain⟨⟨ja0,od7,od8,ll3,ja1,ja2,ja3⟩,gs4,gs5⟩:=rdp_ (at_L1 bd.out ac4)
 cases ll3
 replace ja1:=cl_ HB ja1
 have ll4:=A_ ja3
 have od9:=A_ ja2
 clear ja3 ja2
 try go_wp2
 replace ai7:=rd_ ai7
 replace xx:=sd_ xx
 replace oe:=bd_ oe
 replace o7:=bd_ o7
 replace m7:=bd_ m7
 replace HB:=A_ (Ji HB.out)
 refine start_ (n:=9) (S:=fun w'=>w'.cell? ⟨zo,0,none⟩=some (.slice ie qs.length gl)/\w'.cell? ⟨zo,1,none⟩=some (bc4)) (ds:=[8]) (tl_ 9 0) (g1_) rfl (g1_) ⟨(Jd m7.out 0).trans rfl,(Jd m7.out 1).trans rfl⟩ (fun hHeld=>?_);refine Jx Fo.tab5 Fo.bits5 (fun HT_ HW_=>?_)
 generalize wr.drew=w21 at ai7 xx oe o7 m7 HB hHeld |-
 refine pw_ 0 18 (tl_ 9 1) ?_
 refine pw_ 3 21 (tl_ 9 9) ?_
 refine tk6_ 1 19 (tl_ 9 11) hHeld ?_
 refine one_ (i:=2) (N:=some 20) (tl_ 9 15) rfl rfl (Jz HT_.out (g1_)) (by decide) (fun K hK=>?_)
 refine rls_ 20 [] ?_
 intro ll5 uv tc hb hg_ hnew_
 clear hg_ hnew_
 (first|rw[<- iz9.out] at tc|(simp only[Int.reduceToNat] at tc;rw[<- iz9.out] at tc))
 replace xx:=A_ (Kd.S_elder' (uS_ xx) (Kd.R_base tc) hb)
 have ei9:=A_ (Kd.R_lower (Kd.R_new' tc (Kd.R_lt (uR_ ai7))) (Je (ym)))
 replace ai7:=A_ (Kd.R_elder' (uR_ ai7) (Kd.R_base tc) hb)
 replace oe:=bb_ oe hb
 replace o7:=bb_ o7 hb
 replace m7:=bb_ m7 hb
 replace HB:=hs_ (ym) hb
 clear hb tc
 refine hK.out _ _ ⟨(Jd m7.out 0).trans rfl,(Jd m7.out 1).trans rfl⟩ (fun hHeld=>?_)
 clear hK K
 refine nm_ ?_
 refine one_ (i:=4) (N:=some 22) (tl_ 9 31) rfl rfl (Jz HT_.out (g1_)) (by decide) (fun K hK=>?_)
 refine Kd.R_append_rows_step (Kd.int .i64) (w0:=w) w.heap.size (by rfl) (.tmp 20) (.tmp 21) 22 3 (.int .i64 0) 8 rfl Try.underlying22 info3 rfl (by decide) (by omega) ll5 cu0 (Jr aa ac4) _ _ _ (fun k_=>some k_≠(.slice ie qs.length gl:Value).ownBlock) (fun _=>False) rfl rfl ?aO ?aR (fun _ _ h=>h) (fun _ h=>h.elim) ?aF ?aB ?aS ?aL ?_
 (case aR=>exact uC_ ll4)
 (case aB=>exact(ym))
 (case aF=>exact(fun k_ hk=>Kd.fresh' (Kd.R_lt (uR_ ai7)) k_ hk))
 (case aO=>exact(yR_ ei9 (fun _ hk=>hk.2)))
 (case aS=>exact(Je (ym)))
 (case aL=>have:=gs3.out;omega)
 intro oe0 w24 ho hb hg hat
 rw[<- ll1.out] at ho
 replace ai7:=A_ (Kd.R_after (ok:=(fun _=>True)) (uR_ ai7) hg hat)
 replace xx:=A_ (Kd.S_after (ok:=(fun k_=>some k_≠(.slice ie qs.length gl:Value).ownBlock)) (uS_ xx) hg hat)
 replace oe:=(bg_ oe hg (Kd.R_ne ei9.out oe.out (by decide)))
 replace o7:=(bg_ o7 hg (Kd.R_ne ei9.out o7.out (by decide)))
 replace m7:=(bg_ m7 hg (Kd.R_ne ei9.out m7.out (by decide)))
 replace HB:=A_ (hb)
 have fg9:=A_ (ho)
 clear ei9
 clear ho hb hg hat
 obtain⟨kr,ks,qy⟩:=Kd.R_slice fg9.out
 (first|subst qy|(injection qy with f1_ f2_ f3_;have f4_:=f1_.symm;have f5_:=f3_.symm;clear f1_ f2_ f3_;subst f4_;subst f5_))
 refine hK.out _ _ ⟨(Jd m7.out 0).trans rfl,(Jd m7.out 1).trans rfl⟩ (fun hHeld=>?_)
 clear hK K
 refine nm_ ?_
 refine one_ (i:=5) (N:=some 23) (tl_ 9 63) rfl rfl (Jz HT_.out (g1_)) (by decide) (fun K hK=>?_)
 refine value_ (w1:=?_) (v:=?_) (by rfl) rfl ?_ ?_
 rotate_left 2
 ·go_simp
  constructor
  ·rfl
  rfl
 refine hK.out _ _ ⟨(Jd (Jl m7.out _) 0).trans rfl,(Jd (Jl m7.out _) 1).trans rfl⟩ (fun hHeld=>?_)
 clear hK K
 refine nm_ ?_
 refine one_ (i:=6) (N:=some 24) (tl_ 9 127) rfl rfl (Jz HT_.out (g1_)) (by decide) (fun K hK=>?_)
 refine Kd.S_append_step (Kd.slice 3 (Kd.int .i64)) (w0:=w) w.heap.size (by rfl) (.tmp 19) (.tmp 23) 23 22 (.slice none 0 0) 24 rfl Try.underlying23 info22 rfl (by decide) (by omega) bc4 at2 ei7 [.slice kr ei7.length ks] (fun k_=>some k_≠(.slice ie qs.length gl:Value).ownBlock) (fun k_=>some k_=(.slice kr ei7.length ks:Value).ownBlock) rfl rfl ?aP (fun k_ hk_=>((Kd.R_mono (ok':=fun k_=>((fun k_=>some k_≠(.slice ie qs.length gl:Value).ownBlock)) k_/\some k_≠(bc4:Value).ownBlock) (Kd.R_apart' (fg9.out) (Kd.S_typed xx.out) (by decide)) (fun k_ hk=>⟨hk.1,hk.2⟩))).1 k_ hk_.symm) ?aF ?aO ?aB ?aS ?aL ?_
 (case aP=>exact Kd.M_row (Kd.R_mono (Kd.R_tight rfl (Kd.R_mono (ok':=fun k_=>((fun k_=>some k_≠(.slice ie qs.length gl:Value).ownBlock)) k_/\some k_≠(bc4:Value).ownBlock) (Kd.R_apart' (fg9.out) (Kd.S_typed xx.out) (by decide)) (fun k_ hk=>⟨hk.1,hk.2⟩))) (fun _ h_=>h_)))
 (case aB=>exact(ym))
 (case aF=>exact(fun k_ hk=>Kd.fresh' (Kd.R_lt (uR_ ai7)) k_ hk))
 (case aO=>exact(by(with_reducible repeat(first|apply Kd.S_alloc|apply Kd.S_drewN|apply Kd.S_drew));exact Kd.S_mono xx.out (fun k_ hk=>⟨hk.1,fun e_=>hk.2 e_⟩)))
 (case aS=>exact(Je (ym)))
 (case aL=>have:=ez0.out;omega)
 intro oe1 w25 ho hb hg hat
 rw[<- ll2.out] at ho
 replace ai7:=A_ (Kd.R_over' (uR_ ai7) (Kd.S_typed (uS_ xx)) (by decide) hg)
 replace oe:=(bg_ oe hg (Kd.S_ne xx.out oe.out (by decide)))
 replace o7:=(bg_ o7 hg (Kd.S_ne xx.out o7.out (by decide)))
 replace m7:=(bg_ m7 hg (Kd.S_ne xx.out m7.out (by decide)))
 replace HB:=A_ (hb)
 have ja4:=A_ (ho)
 clear xx fg9
 clear ho hb hg hat
 obtain⟨mc,l7,qn⟩:=Kd.S_slice ja4.out
 (first|subst qn|(injection qn with f1_ f2_ f3_;have f4_:=f1_.symm;have f5_:=f3_.symm;clear f1_ f2_ f3_;subst f4_;subst f5_))
 refine hK.out _ _ ⟨(Jd m7.out 0).trans rfl,(Jd m7.out 1).trans rfl⟩ (fun hHeld=>?_)
 clear hK K
 refine nm_ ?_
 refine pw_ 7 25 (tl_ 9 255) ?_
 refine last_ (i:=8) (N:=none) (tl_ 9 511) rfl rfl (Jz HT_.out (g1_)) (by decide) (fun K hK=>?_)
 have oe2:w25.cell? ⟨zo,1,none⟩=some (bc4):=(Jd m7.out 1).trans rfl
 have oe3:=Jo m7.out 1
 have oe4:=di1.out
 have oe5:=di2.out
 have oe6:=gs1.out
 have oe7:=gs2.out
 refine skip_ (w1:=?_) (by rfl) rfl ?_ ?_
 rotate_left
 ·go_simp
  rfl
 refine hK.out _ _ ?_
 clear hK K
 refine done_ (done_of HT_.out (g1_)) ?_
 try go_wp2
 go_roundg k1
 case measure=>have:=HK1.out;omega
 case rel=>exact⟨(wrap64 (ac4 + 1)),(ei8),(.slice mc ei8.length l7),(g3_),H',⟨g8_⟩,⟨ra_ ai7⟩,⟨sa_ ja4⟩,⟨ba_ oe⟩,⟨ba_ o7⟩,⟨ba_ m7⟩,⟨ym⟩⟩
def Ff.l0:Nat->List (S25)->Int->Int->List Int->List (List Int)->List (S25)->Option (List Int × (List (List Int)) × (List (S25)))
 | 0,_,_,_,_,_,_=>none
 | k + 1,ra,wm,lb,ja5,ja6,gs6=>if lb < wm then(if 0<=lb then(if lb < (ra.length:Int) then((Fo.f k ((Js ra lb).f0) ((Js ra lb).f1)).bind fun bt427=>(if gs6.length < 2932031007402 then(Ff.l0 k ra wm (wrap64 (lb + 1)) ja5 ja6 (gs6 ++ [(⟨bt427.1,bt427.2⟩:S25)])) else(none))) else(none)) else(none)) else(some (ja5,ja6,gs6))
def Ff.f (k:Nat) (ab:List Int) (aa:List (List Int)) (aj:List (S25)):Option (List Int × (List (List Int)) × (List (S25))):=(Fo.f k ab aa).bind fun bt418=>(Ff.l0 k aj (aj.length:Int) 0 bt418.1 bt418.2 ([]:List (S25)))
def Ff.T5:Bool × List (List Nat × List Nat):=(true,[([],[]),([0],[0]),([],[]),([2],[2]),([3],[3]),([1,4,3],[1,4]),([0,1,2,3,4,5],[]),([6,5,5,0,1,2,3,4,5],[5,6])])
def Ff.B5:List Nat:=[0,1,0,4,12,31,63,127]
theorem Ff.tab5:rtab .any (opsOf Try.f104 5)=Ff.T5:=by kernel_rfl
theorem Ff.bits5:waitsOk Ff.T5.2 Ff.B5=true:=by kernel_rfl
theorem Ff.calls_s_q0 {p:Prop} (h:p:=by repeat(first|(with_reducible first|exact HB.out|apply Jk|apply Jj|apply Ji|refine Jh ?_ ll6.out|refine Jh ?_ ll7.out|refine Jh ?_ ll8.out|refine Jh ?_ ll9.out)|exact HB.out)):p:=h
set_option maxHeartbeats 8000000 in
set_option maxRecDepth 100000 in
theorem Ff.calls_s (k:Nat) (af:Option Addr) (ac:Nat) (ab:List Int) (ah:Option Addr) (ag:Nat) (aa:List (List Int)) (av:Option Addr) (au:Nat) (aj:List (S25)) (r1:List Int) (r2:List (List Int)) (r3:List (S25)) (w:World) (cb:Kd.C (Kd.int .i64) w af ab.length ab) (cg:ab.length<=ac) (cc:Kd.C (Kd.slice 3 (Kd.int .i64)) w ah aa.length aa) (ch:aa.length<=ag) (h9:Kd.C k25 w av aj.length aj) (ia:aj.length<=au) (h:Ff.f k ab aa aj=some (r1,r2,r3)) :
  Calls Try.prog 104 #[.agg #[.slice af ab.length ac, .slice ah aa.length ag, .slice av aj.length au]] w fun e w'=>∃v0_ v1_ v2_:Value,e = .returned (.agg #[v0_,v1_,v2_])/\DkS w.heap.size w.heap.size w'.heap.size v0_ v1_ v2_ r1 r2 r3 w'/\Below w.heap.size w w':=by
 have hu28:=Try.underlying28
 have hu25:=Try.underlying25
 have bg:=A_ cb
 have bw:=A_ cg
 clear cb cg
 have bd:=A_ cc
 have b4:=A_ ch
 clear cc ch
 have gg:=A_ h9
 have g3:=A_ ia
 clear h9 ia
 have HB:=A_ (Below.refl w.heap.size w)
 have H:=h
 unfold Ff.f at H
 clear h
 replace H:=Option.bind_eq_some_iff.mp H
 obtain⟨⟨o8,og⟩,vy,H⟩:=H
 try dsimp only at H
 have A2:=A_ vy
 clear vy
 have H':=A_ H
 clear H
 go_enter Try.func104,Try.ntmps104
 go_wp2_with (first|((with_reducible refine gd_ 1 ?_);refine bx_ (N:=1) #[.slice af ab.length ac, .slice ah aa.length ag, .slice av aj.length au] 28 ?_;intro xy hg w3 hbox hb;have nm:=A_ (hbox);have oe8:=A_ ((g48_:w.heap.size<=xy));have ll6:=oe8;replace HB:=A_ (Jw (Ff.calls_s_q0) hb);clear hb hbox hg)|((with_reducible refine gd_ 2 ?_);refine bx_ (N:=2) #[.slice none 0 0, .slice none 0 0, .slice none 0 0] 28 ?_;intro qi hg w4 hbox hb;have oh:=A_ (hbox);have oe9:=A_ ((g48_:w.heap.size<=qi));have ll7:=oe9;replace HB:=A_ (Jw (Ff.calls_s_q0) hb);have ja7:=nl_ nm hg;have ja8:=nr_ nm hg;replace nm:=bb_ nm hb;clear hb hbox hg;have ev5:=ja7.out;have ev6:=ja8.out;obtain⟨ur,us,bm8,ut,uu,bm9⟩:=blk3_ nm)|((with_reducible refine gc_ 111 ?_);refine gl_ 8 Try.func111 #[.agg #[.slice af ab.length ac, .slice ah aa.length ag]] ?_;(refine(Fo.calls k _ _ ab _ _ aa o8 og _ (uC_ bg) bw.out (uC_ bd) b4.out A2.out).mono ?_);rintro e w7 ⟨of0,of1,rfl,ai,ak,hb⟩;refine⟨_,rfl,?_⟩;have fh0:=A_ (Kd.R_lower ai (Je (Ff.calls_s_q0)));have fh1:=A_ (Kd.S_lower ak (Je (Ff.calls_s_q0)));replace nm:=bb_ nm hb;replace oh:=bb_ oh hb;replace HB:=A_ (Jw (Ff.calls_s_q0) hb);obtain⟨j3,j4,eo8⟩:=Kd.S_slice fh1.out;subst eo8;obtain⟨g5,fw,eo9⟩:=Kd.R_slice fh0.out;subst eo9)|((with_reducible refine gd_ 3 ?_);refine bx_ (N:=3) #[.slice none 0 0, .slice none 0 0, .slice none 0 0] 28 ?_;intro kv hg w10 hbox hb;replace fh0:=A_ (Kd.R_mono (ok':=fun k_=>k_ < kv) (Kd.R_old (uR_ fh0) hb) (fun k_ hk=>hg ▸ hk.2));replace fh1:=A_ (Kd.S_mono (ok':=fun k_=>k_ < kv/\some k_≠(.slice g5 o8.length fw:Value).ownBlock) (Kd.S_old (uS_ fh1) hb) (fun k_ hk=>⟨hg ▸ hk.2,hk.1⟩));have kj:=A_ (hbox);have lm0:=A_ ((g48_:w.heap.size<=kv));have ll8:=lm0;replace HB:=A_ (Jw (Ff.calls_s_q0) hb);have cu1:=nl_ nm hg;have gs7:=nr_ nm hg;replace nm:=bb_ nm hb;have cu2:=nl_ oh hg;have gs8:=nr_ oh hg;replace oh:=bb_ oh hb;clear hb hbox hg;have bg8:=gs7.out;have bg9:=cu1.out;have cl3:=gs8.out;have cl4:=cu2.out;obtain⟨sv,sw,bx2,sx,sy,bx3⟩:=blk3_ kj;obtain⟨um,un,da6,uo,uq,da7⟩:=blk3_ nm))
 go_loopg [13] k (fun kq v13 w'=>∃(b5:Int) (bj5:List (S25)) (ac5:Value),v13 = .int .i64 b5/\Jc (Ff.l0 kq aj (aj.length:Int) b5 o8 og bj5=some (r1,r2,r3))/\Jc (kq<=k)/\Jc (Kd.R (Kd.int .i64) 3 w' w.heap.size (fun k_=>k_ < kv) (.slice g5 o8.length fw) o8)/\Jc (Kd.S (Kd.slice 3 (Kd.int .i64)) 22 w' w.heap.size (fun k_=>k_ < kv/\some k_≠((.slice g5 o8.length fw):Value).ownBlock) (.slice j3 og.length j4) og)/\Jc (Kd.S k25s 25 w' w.heap.size (fun k_=>kv < k_/\some k_≠((.slice j3 og.length j4):Value).ownBlock) ac5 bj5)/\Jc (hc_ w' xy #[(.slice af ab.length ac),(.slice ah aa.length ag),(.slice av aj.length au)] 28)/\Jc (hc_ w' qi #[(.slice none 0 0),(.slice none 0 0),(.slice none 0 0)] 28)/\Jc (hc_ w' kv #[(.slice g5 o8.length fw),(.slice j3 og.length j4),ac5] 28)/\Jc (Below w.heap.size w w'))
 case atStart=>exact⟨(0),(([]:List (S25))),(.slice none 0 0),(g3_),H',⟨Nat.le_refl _⟩,⟨ra_ fh0⟩,⟨sa_ fh1⟩,⟨g34_⟩,⟨ba_ nm⟩,⟨ba_ oh⟩,⟨ba_ kj⟩,⟨Ff.calls_s_q0⟩⟩
 clear H'
 obtain⟨b5,bj5,ac5,rfl,HA,HK1,zp,xz,se,nm,oh,kj,HB⟩:=hrel
 cases gk with
 | zero=>exact absurd HA.out (by simp[Ff.l0])
 | succ k1=>?_
 have H:=HA.out
 clear HA
 simp only[Ff.l0] at H
 by_cases eu:b5 < (aj.length:Int)
 case neg=>
  rw[if_neg eu] at H
  have pf:=decide_eq_false eu
  clear eu
  simp only[Option.some.injEq,Prod.mk.injEq] at H
  obtain⟨rfl,rfl,rfl⟩:=H
  have ca5:=gs7.out
  have ca6:=cu1.out
  have eg5:=gs8.out
  have eg6:=cu2.out
  obtain⟨bo1,bo2,cd8,bo3,bo4,cd9⟩:=blk3_ kj
  have im2:=ja8.out
  have im3:=ja7.out
  obtain⟨cp7,cp8,fh4,cp9,cq0,fh5⟩:=blk3_ oh
  obtain⟨k5,jr,aq9⟩:=Kd.S_slice se.out
  subst aq9
  go_wp2
  refine bodyPost_ret (results_cell_row rfl _ _ qi 28 #[.slice g5 o8.length fw, .slice j3 og.length j4, .slice k5 bj5.length jr] (0,0) _ rfl (ba_ oh) Try.underlying28 rfl (g1_)) rfl ?_
  exact⟨_,_,_,g4_,DkS.mk_ (mid:=kv) (ra_ zp) (sa_ xz) (sa_ se) lm0.out (Je (Ff.calls_s_q0)),Ff.calls_s_q0⟩
 rw[if_pos eu] at H
 have pf:=decide_eq_true eu
 clear eu
 obtain⟨ag9,H⟩:=pd_ H
 obtain⟨al4,H⟩:=pd_ H
 replace H:=Option.bind_eq_some_iff.mp H
 obtain⟨⟨ej0,ej1⟩,ej2,H⟩:=H
 try dsimp only at H
 have A18:=A_ ej2
 clear ej2
 obtain⟨fe,H⟩:=pos_ H
 have gs3:=A_ fe
 clear fe
 obtain⟨di3,hyq⟩:∃y_:List (S25),y_=(bj5 ++ [(⟨ej0,ej1⟩:S25)]):=⟨_,rfl⟩
 replace H:(Ff.l0 k1 aj (aj.length:Int) (wrap64 (b5 + 1)) o8 og di3)=some (r1,r2,r3):=qh_
 have lm1:=A_ hyq
 clear hyq
 have H':=A_ H
 clear H
 obtain⟨⟨fh2,uz,va,wn,wo,lm2,ja9,jb0,jb1,jb2,jb3,jb4⟩,gs9,gt0⟩:=rdp_ (at_T25 gg.out b5)
 cases lm2
 replace ja9:=cl_ HB ja9
 replace jb0:=cl_ HB jb0
 have lm3:=A_ jb2
 have lm4:=A_ jb1
 clear jb2 jb1
 have lm5:=A_ jb4
 have lm6:=A_ jb3
 clear jb4 jb3
 try go_wp2_with (first|((with_reducible refine gd_ 5 ?_);refine bx_ (N:=5) #[.slice none 0 0, .slice none 0 0] 25 ?_;intro jo hg w20 hbox hb;replace zp:=rb_ zp hb;replace xz:=sb_ xz hb;replace se:=A_ (Kd.S_below (Kd.S_elderB (uS_ se) jo (Nat.le_of_eq hg.symm)) hb);have rf:=A_ (hbox);have of2:=A_ ((g48_:w.heap.size<=jo));have ll9:=of2;replace HB:=A_ (Jw (Ff.calls_s_q0) hb);have gt1:=nl_ nm hg;have lm7:=nr_ nm hg;replace nm:=bb_ nm hb;have gt2:=nl_ oh hg;have lm8:=nr_ oh hg;replace oh:=bb_ oh hb;have fh3:=nl_ kj hg;have jb5:=nr_ kj hg;replace kj:=bb_ kj hb;clear hb hbox hg;have ij2:=lm7.out;have ij3:=gt1.out;have of3:=lm8.out;have of4:=gt2.out;have il1:=jb5.out;have il2:=fh3.out;obtain⟨il3,il4,il5,il6⟩:=blk2_ rf))
 generalize hw_:((w20.setCell ⟨jo,0,none⟩ (.slice uz ((Js aj b5).f0).length va)).setCell ⟨jo,1,none⟩ (.slice wn ((Js aj b5).f1).length wo))=w25
 have n0_:Jc (Kd.R (Kd.int .i64) 3 w25 w.heap.size (fun k_=>k_ < kv) (.slice g5 o8.length fw) o8):=A_ (by rw[<- hw_];exact ra_ zp)
 have n1_:Jc (Kd.S (Kd.slice 3 (Kd.int .i64)) 22 w25 w.heap.size (fun k_=>k_ < kv/\some k_≠(.slice g5 o8.length fw:Value).ownBlock) (.slice j3 og.length j4) og):=A_ (by rw[<- hw_];exact sa_ xz)
 have n2_:Jc (Kd.S k25s 25 w25 w.heap.size (fun k_=>kv < k_/\some k_≠(.slice j3 og.length j4:Value).ownBlock/\k_≠jo) ac5 bj5):=A_ (by rw[<- hw_];exact sa_ se)
 have n3_:Jc (hc_ w25 xy #[.slice af ab.length ac, .slice ah aa.length ag, .slice (some fh2) aj.length au] 28):=A_ (by rw[<- hw_];exact ba_ nm)
 have n4_:Jc (hc_ w25 qi #[.slice none 0 0, .slice none 0 0, .slice none 0 0] 28):=A_ (by rw[<- hw_];exact ba_ oh)
 have n5_:Jc (hc_ w25 kv #[.slice g5 o8.length fw, .slice j3 og.length j4,ac5] 28):=A_ (by rw[<- hw_];exact ba_ kj)
 have n6_:Jc (hc_ w25 jo #[.slice uz ((Js aj b5).f0).length va, .slice wn ((Js aj b5).f1).length wo] 25):=A_ (by rw[<- hw_];exact ba_ rf)
 have n7_:Jc (Below w.heap.size w w25):=A_ (by rw[<- hw_];exact Ff.calls_s_q0)
 clear hw_
 have zp:=n0_
 have xz:=n1_
 have se:=n2_
 have nm:=n3_
 have oh:=n4_
 have kj:=n5_
 have rf:=n6_
 have HB:=n7_
 clear n0_ n1_ n2_ n3_ n4_ n5_ n6_ n7_
 replace zp:=rd_ zp
 replace xz:=sd_ xz
 replace se:=sd_ se
 replace nm:=bd_ nm
 replace oh:=bd_ oh
 replace kj:=bd_ kj
 replace rf:=bd_ rf
 replace HB:=A_ (Ji HB.out)
 refine start_ (n:=8) (S:=fun w'=>w'.cell? ⟨kv,0,none⟩=some (.slice g5 o8.length fw)/\w'.cell? ⟨kv,1,none⟩=some (.slice j3 og.length j4)/\w'.cell? ⟨kv,2,none⟩=some (ac5)/\w'.cell? ⟨jo,0,none⟩=some (.slice uz ((Js aj b5).f0).length va)/\w'.cell? ⟨jo,1,none⟩=some (.slice wn ((Js aj b5).f1).length wo)) (ds:=[7]) (tl_ 8 0) (g1_) rfl (g1_) ⟨(Jd kj.out 0).trans rfl,(Jd kj.out 1).trans rfl,(Jd kj.out 2).trans rfl,(Jd rf.out 0).trans rfl,(Jd rf.out 1).trans rfl⟩ (fun hHeld=>?_);refine Jx Ff.tab5 Ff.bits5 (fun HT_ HW_=>?_)
 generalize w25.drew=w26 at zp xz se nm oh kj rf HB hHeld |-
 refine pw_ 0 17 (tl_ 8 1) ?_
 refine tk4_ 1 18 (tl_ 8 3) hHeld ?_
 refine tk4_ 2 19 (tl_ 8 7) hHeld ?_
 refine one_ (i:=3) (N:=some 20) (tl_ 8 15) rfl rfl (Jz HT_.out (g1_)) (by decide) (fun K hK=>?_)
 refine goes_ Try.func111 (g1_) rfl #[.agg #[.slice uz ((Js aj b5).f0).length va, .slice wn ((Js aj b5).f1).length wo]] (by rfl) rfl rfl (gM_) ?_
 refine(Fo.calls k1 _ _ ((Js aj b5).f0) _ _ ((Js aj b5).f1) ej0 ej1 _ (uC_ lm3) lm4.out (uC_ lm5) lm6.out A18.out).mono ?_
 rintro e w27 ⟨jb6,lm9,rfl,ai,ak,hb⟩
 refine⟨_,rfl,?_⟩
 have hfr_:∀k_,w26.heap.size<=k_->(fun k_=>kv < k_/\some k_≠(.slice j3 og.length j4:Value).ownBlock/\k_≠jo) k_:=(fun k_ hk=>⟨Nat.lt_of_lt_of_le (blk_lt (uB_ kj)) hk,Kd.fresh' (Kd.S_lt (uS_ xz)) k_ hk,Kd.freshB (g:=jo) (o:=.cells #[.slice uz ((Js aj b5).f0).length va, .slice wn ((Js aj b5).f1).length wo] 25 (0,0)) (uB_ rf) k_ hk⟩)
 have HP1:Jc (Kd.R (Kd.int .i64) 3 w27 w.heap.size (fun k_=>w26.heap.size<=k_/\(fun k_=>kv < k_/\some k_≠(.slice j3 og.length j4:Value).ownBlock/\k_≠jo) k_/\some k_≠(ac5:Value).ownBlock) jb6 _):=A_ (Kd.R_lower (Kd.R_mono (Kd.R_bound ai) (fun _ hk=>⟨hk.2.1,hfr_ _ hk.2.1,Kd.fresh' (Kd.S_lt se.out) _ hk.2.1⟩)) (Je (Ff.calls_s_q0)))
 have HP2:Jc (Kd.S (Kd.slice 3 (Kd.int .i64)) 22 w27 w.heap.size (fun k_=>(fun k_=>w26.heap.size<=k_/\(fun k_=>kv < k_/\some k_≠(.slice j3 og.length j4:Value).ownBlock/\k_≠jo) k_/\some k_≠(ac5:Value).ownBlock) k_/\some k_≠(jb6:Value).ownBlock) lm9 _):=A_ (Kd.S_lower (Kd.S_mono (Kd.S_bound ak) (fun _ hk=>⟨⟨hk.2.1,hfr_ _ hk.2.1,Kd.fresh' (Kd.S_lt se.out) _ hk.2.1⟩,hk.1⟩)) (Je (Ff.calls_s_q0)))
 have HP3:=A_ (Kd.S_old (uS_ se) hb)
 clear hfr_
 replace se:=A_ (Kd.S_mono (Kd.S_told (Kd.S_told (Kd.S_old (uS_ se) hb) (Kd.R_base ai)) (Kd.S_base ak)) (fun _ h_=>h_.1))
 have jb7:=A_ (Kd.R_lower (Kd.R_new' ai (Kd.R_lt (uR_ zp))) (Je (Ff.calls_s_q0)))
 have jb8:=A_ (Kd.S_lower (Kd.S_new' (Kd.S_new' ak (Kd.R_lt (uR_ zp))) (Kd.S_lt (uS_ xz))) (Je (Ff.calls_s_q0)))
 replace zp:=A_ (Kd.R_elder' (uR_ zp) (Kd.R_base ai) hb)
 replace xz:=A_ (Kd.S_mono (Kd.S_told (Kd.S_told (Kd.S_old (uS_ xz) hb) (Kd.R_base ai)) (Kd.S_base ak)) (fun _ h_=>h_.1))
 replace nm:=bb_ nm hb
 replace oh:=bb_ oh hb
 replace kj:=bb_ kj hb
 replace rf:=bb_ rf hb
 replace HB:=A_ (Jw (Ff.calls_s_q0) hb)
 obtain⟨de3,cb5,ba3⟩:=Kd.R_slice jb7.out
 (first|subst ba3|(injection ba3 with f1_ f2_ f3_;have f4_:=f1_.symm;have f5_:=f3_.symm;clear f1_ f2_ f3_;subst f4_;subst f5_))
 obtain⟨ln0,ln1,jb9⟩:=Kd.S_slice jb8.out
 (first|subst jb9|(injection jb9 with f1_ f2_ f3_;have f4_:=f1_.symm;have f5_:=f3_.symm;clear f1_ f2_ f3_;subst f4_;subst f5_))
 refine hK.out _ _ ⟨(Jd kj.out 0).trans rfl,(Jd kj.out 1).trans rfl,(Jd kj.out 2).trans rfl,(Jd rf.out 0).trans rfl,(Jd rf.out 1).trans rfl⟩ (fun hHeld=>?_)
 clear hK K
 refine nm_ ?_
 refine one_ (i:=4) (N:=some 21) (tl_ 8 31) rfl rfl (Jz HT_.out (g1_)) (by decide) (fun K hK=>?_)
 refine value_ (w1:=?_) (v:=?_) (by rfl) rfl ?_ ?_
 rotate_left 2
 ·go_simp
  constructor
  ·rfl
  rfl
 refine hK.out _ _ ⟨(Jd (Jl kj.out _) 0).trans rfl,(Jd (Jl kj.out _) 1).trans rfl,(Jd (Jl kj.out _) 2).trans rfl,(Jd (Jl rf.out _) 0).trans rfl,(Jd (Jl rf.out _) 1).trans rfl⟩ (fun hHeld=>?_)
 clear hK K
 refine nm_ ?_
 refine one_ (i:=5) (N:=some 22) (tl_ 8 63) rfl rfl (Jz HT_.out (g1_)) (by decide) (fun K hK=>?_)
 refine Kd.S_append_step k25s (w0:=w) w.heap.size (by rfl) (.tmp 18) (.tmp 21) 26 25 (.agg #[(.slice none 0 0),(.slice none 0 0)]) 48 rfl Try.underlying26 info25 rfl (by decide) (by omega) ac5 bj5 (⟨ej0,ej1⟩:S25) [.slice de3 ej0.length cb5, .slice ln0 ej1.length ln1] (fun k_=>kv < k_/\some k_≠(.slice j3 og.length j4:Value).ownBlock/\k_≠jo) (fun k_=>w26.heap.size<=k_/\(fun k_=>kv < k_/\some k_≠(.slice j3 og.length j4:Value).ownBlock/\k_≠jo) k_/\some k_≠(ac5:Value).ownBlock) rfl rfl ?aP (fun _ hk=>hk.2) ?aF ?aO ?aB ?aS ?aL ?_
 (case aP=>exact k25s_mkM _ _ _ (⟨ej0,ej1⟩:S25) HP1.out HP2.out)
 (case aB=>exact(Ff.calls_s_q0))
 (case aF=>exact(fun k_ hk=>⟨Nat.lt_of_lt_of_le (blk_lt (uB_ kj)) hk,Kd.fresh' (Kd.S_lt (uS_ xz)) k_ hk,Kd.freshB (g:=jo) (o:=.cells #[.slice uz ((Js aj b5).f0).length va, .slice wn ((Js aj b5).f1).length wo] 25 (0,0)) (uB_ rf) k_ hk⟩))
 (case aO=>exact Kd.S_mono HP3.out (fun _ hk=>⟨hk.1,fun h_=>Nat.not_le.2 hk.2 h_.1⟩))
 (case aS=>exact(Je (Ff.calls_s_q0)))
 (case aL=>have:=gs3.out;omega)
 intro of5 w28 ho hb hg hat
 rw[<- lm1.out] at ho
 replace zp:=A_ (Kd.R_over' (uR_ zp) (Kd.S_typed (uS_ se)) (by decide) hg)
 replace xz:=A_ (Kd.S_over' (uS_ xz) (Kd.S_typed (uS_ se)) (by decide) hg)
 replace nm:=(bg_ nm hg (Kd.S_ne se.out nm.out (by decide)))
 replace oh:=(bg_ oh hg (Kd.S_ne se.out oh.out (by decide)))
 replace kj:=(bg_ kj hg (Kd.S_ne se.out kj.out (by decide)))
 replace rf:=(bg_ rf hg (Kd.S_away se.out (fun _ hk=>hk.1.1.2.2)))
 replace HB:=A_ (hb)
 have jc0:=A_ (ho)
 clear se jb7 jb8
 clear ho hb hg hat
 obtain⟨bh,bf,cu3⟩:=Kd.S_slice jc0.out
 (first|subst cu3|(injection cu3 with f1_ f2_ f3_;have f4_:=f1_.symm;have f5_:=f3_.symm;clear f1_ f2_ f3_;subst f4_;subst f5_))
 refine hK.out _ _ ⟨(Jd kj.out 0).trans rfl,(Jd kj.out 1).trans rfl,(Jd kj.out 2).trans rfl,(Jd rf.out 0).trans rfl,(Jd rf.out 1).trans rfl⟩ (fun hHeld=>?_)
 clear hK K
 refine nm_ ?_
 refine pw_ 6 23 (tl_ 8 127) ?_
 refine last_ (i:=7) (N:=none) (tl_ 8 255) rfl rfl (Jz HT_.out (g1_)) (by decide) (fun K hK=>?_)
 have ln2:w28.cell? ⟨kv,2,none⟩=some (ac5):=(Jd kj.out 2).trans rfl
 have ln3:=Jo kj.out 2
 have ln4:=cu1.out
 have ln5:=cu2.out
 have of6:=jb5.out
 have ln6:=gs7.out
 have ln7:=gs8.out
 have of7:=fh3.out
 refine skip_ (w1:=?_) (by rfl) rfl ?_ ?_
 rotate_left
 ·go_simp
  rfl
 refine hK.out _ _ ?_
 clear hK K
 refine done_ (done_of HT_.out (g1_)) ?_
 try go_wp2
 go_roundg k1
 case measure=>have:=HK1.out;omega
 case rel=>exact⟨(wrap64 (b5 + 1)),(di3),(.slice bh di3.length bf),(g3_),H',⟨g8_⟩,⟨ra_ zp⟩,⟨sa_ xz⟩,⟨sa_ jc0⟩,⟨ba_ nm⟩,⟨ba_ oh⟩,⟨ba_ kj⟩,⟨Ff.calls_s_q0⟩⟩
def Gt.f (k:Nat) (ab:List Int) (aa:List (List Int)) (a1:Int):Option (Bool):=(Fi.f k ab aa).bind fun ej3=>(if ej3=true then(if a1 ≥ 0 then(some (decide (a1 < (ab.length:Int)))) else(some false)) else(some false))
theorem bl6 {p:Prop} (h:p:=by repeat(first|(with_reducible first|exact HB.out|apply Jk|apply Jj|apply Ji|refine Jh ?_ gt3.out)|exact HB.out)):p:=h
set_option maxHeartbeats 8000000 in
set_option maxRecDepth 100000 in
theorem Gt.calls (k:Nat) (af:Option Addr) (ac:Nat) (ab:List Int) (ah:Option Addr) (ag:Nat) (aa:List (List Int)) (a1:Int) (r:Bool) (w:World) (cb:Kd.C (Kd.int .i64) w af ab.length ab) (cg:ab.length<=ac) (cc:Kd.C (Kd.slice 3 (Kd.int .i64)) w ah aa.length aa) (ch:aa.length<=ag) (h:Gt.f k ab aa a1=some r) :
  Calls Try.prog 83 #[.agg #[.slice af ab.length ac, .slice ah aa.length ag], .int .i64 a1] w fun e w'=>e = .returned (.bool r)/\Below w.heap.size w w':=by
 have hu25:=Try.underlying25
 have bg:=A_ cb
 have bw:=A_ cg
 clear cb cg
 have bd:=A_ cc
 have b4:=A_ ch
 clear cc ch
 have HB:=A_ (Below.refl w.heap.size w)
 have H:=h
 unfold Gt.f at H
 clear h
 obtain⟨ej3,A3,H⟩:=bind_ H
 by_cases c4:ej3=true
 case neg=>
  replace c4:=Bool.eq_false_iff.mpr c4
  subst c4
  replace H:=ifn_ H
  obtain rfl:=Option.some.inj H
  go_enter Try.func83,Try.ntmps83
  go_wp2_with (first|((with_reducible refine gd_ 2 ?_);(try(refine gate_guard (by rfl) ?_;dsimp only));refine bx_ (N:=2) #[.slice af ab.length ac, .slice ah aa.length ag] 25 ?_;intro cf0 hg km hbox hb;have at3:=A_ (hbox);have jc1:=A_ ((g80_:w.heap.size<=cf0));have gt3:=jc1;replace HB:=hs_ (bl6) hb;clear hb hbox hg;obtain⟨um,un,uo,uq⟩:=blk2_ at3)|((with_reducible refine gc_ 73 ?_);refine gl_ 6 Try.func73 #[.agg #[.slice af ab.length ac, .slice ah aa.length ag]] ?_;(refine(Fi.calls k _ _ ab _ _ aa false _ (uC_ bg) bw.out (uC_ bd) b4.out A3.out).mono ?_);rintro e rq ⟨rfl,hb⟩;refine⟨_,rfl,?_⟩;replace at3:=bb_ at3 hb;replace HB:=hs_ (bl6) hb))
  go_ret
  exact⟨g4_,bl6⟩
 subst c4
 replace H:=ifp_ H
 by_cases c5:a1 ≥ 0
 ·rw[if_pos c5] at H
  have kn:=decide_eq_true c5
  clear c5
  obtain rfl:=Option.some.inj H
  go_enter Try.func83,Try.ntmps83
  go_wp2_with (first|((with_reducible refine gd_ 2 ?_);(try(refine gate_guard (by rfl) ?_;dsimp only));refine bx_ (N:=2) #[.slice af ab.length ac, .slice ah aa.length ag] 25 ?_;intro cf0 hg w6 hbox hb;have at3:=A_ (hbox);have jc1:=A_ ((g80_:w.heap.size<=cf0));have gt3:=jc1;replace HB:=hs_ (bl6) hb;clear hb hbox hg;obtain⟨aa9,ab0,ab1,ab2⟩:=blk2_ at3)|((with_reducible refine gc_ 73 ?_);refine gl_ 6 Try.func73 #[.agg #[.slice af ab.length ac, .slice ah aa.length ag]] ?_;(refine(Fi.calls k _ _ ab _ _ aa true _ (uC_ bg) bw.out (uC_ bd) b4.out A3.out).mono ?_);rintro e w8 ⟨rfl,hb⟩;refine⟨_,rfl,?_⟩;replace at3:=bb_ at3 hb;replace HB:=hs_ (bl6) hb;obtain⟨ag5,ag6,ag7,ag8⟩:=blk2_ at3))
  go_ret
  exact⟨g4_,bl6⟩
 rw[if_neg c5] at H
 have kn:=decide_eq_false c5
 clear c5
 obtain rfl:=Option.some.inj H
 go_enter Try.func83,Try.ntmps83
 go_wp2_with (first|((with_reducible refine gd_ 2 ?_);(try(refine gate_guard (by rfl) ?_;dsimp only));refine bx_ (N:=2) #[.slice af ab.length ac, .slice ah aa.length ag] 25 ?_;intro cf0 hg w10 hbox hb;have at3:=A_ (hbox);have jc1:=A_ ((g80_:w.heap.size<=cf0));have gt3:=jc1;replace HB:=hs_ (bl6) hb;clear hb hbox hg;obtain⟨sr,ss,st,su⟩:=blk2_ at3)|((with_reducible refine gc_ 73 ?_);refine gl_ 6 Try.func73 #[.agg #[.slice af ab.length ac, .slice ah aa.length ag]] ?_;(refine(Fi.calls k _ _ ab _ _ aa true _ (uC_ bg) bw.out (uC_ bd) b4.out A3.out).mono ?_);rintro e uf ⟨rfl,hb⟩;refine⟨_,rfl,?_⟩;replace at3:=bb_ at3 hb;replace HB:=hs_ (bl6) hb))
 go_ret
 exact⟨g4_,bl6⟩
def G8.f (k:Nat) (ab:List Int) (aa:List (List Int)) (a1:Int) (a2:Int):Option (List Int × (List (List Int))):=(Fo.f k ab aa).bind fun bt440=>(if 0<=a1 then(if a1 < (bt440.1.length:Int) then(some ((bt440.1.set (a1:Int).toNat a2),bt440.2)) else(none)) else(none))
theorem bw8 {p:Prop} (h:p:=by repeat(first|(with_reducible first|exact HB.out|apply Jk|apply Jj|apply Ji|refine Jh ?_ ln8.out|refine Jh ?_ ln9.out|refine Jh ?_ lo0.out)|exact HB.out)):p:=h
set_option maxHeartbeats 8000000 in
set_option maxRecDepth 100000 in
theorem G8.calls (k:Nat) (af:Option Addr) (ac:Nat) (ab:List Int) (ah:Option Addr) (ag:Nat) (aa:List (List Int)) (a1:Int) (a2:Int) (r1:List Int) (r2:List (List Int)) (w:World) (cb:Kd.C (Kd.int .i64) w af ab.length ab) (cg:ab.length<=ac) (cc:Kd.C (Kd.slice 3 (Kd.int .i64)) w ah aa.length aa) (ch:aa.length<=ag) (h:G8.f k ab aa a1 a2=some (r1,r2)) :
  Calls Try.prog 84 #[.agg #[.slice af ab.length ac, .slice ah aa.length ag], .int .i64 a1, .int .i64 a2] w fun e w'=>∃v0_ v1_:Value,e = .returned (.agg #[v0_,v1_])/\Kd.R (Kd.int .i64) 3 w' w.heap.size (fun _=>True) v0_ r1/\Kd.S (Kd.slice 3 (Kd.int .i64)) 22 w' w.heap.size (fun k_=>some k_≠(v0_:Value).ownBlock) v1_ r2/\Below w.heap.size w w':=by
 have hu25:=Try.underlying25
 have bg:=A_ cb
 have bw:=A_ cg
 clear cb cg
 have bd:=A_ cc
 have b4:=A_ ch
 clear cc ch
 have HB:=A_ (Below.refl w.heap.size w)
 have H:=h
 unfold G8.f at H
 clear h
 replace H:=Option.bind_eq_some_iff.mp H
 obtain⟨⟨vb,at5⟩,A40,H⟩:=H
 try dsimp only at H
 have A4:=A_ A40
 clear A40
 obtain⟨kn,H⟩:=pd_ H
 obtain⟨kf,H⟩:=pd_ H
 obtain⟨jc2,hyq⟩:∃y_:List Int,y_=(vb.set (a1:Int).toNat a2):=⟨_,rfl⟩
 replace H:(some (jc2,at5))=some (r1,r2):=qh_
 have lo1:=A_ hyq
 clear hyq
 simp only[Option.some.injEq,Prod.mk.injEq] at H
 obtain⟨rfl,rfl⟩:=H
 go_enter Try.func84,Try.ntmps84
 go_wp2_with (first|((with_reducible refine gd_ 3 ?_);refine bx_ (N:=3) #[.slice af ab.length ac, .slice ah aa.length ag] 25 ?_;intro at6 hg w8 hbox hb;have zq:=A_ (hbox);have of8:=A_ ((g81_:w.heap.size<=at6));have ln8:=of8;replace HB:=hs_ (bw8) hb;clear hb hbox hg)|((with_reducible refine gd_ 6 ?_);refine bx_ (N:=6) #[.slice none 0 0, .slice none 0 0] 25 ?_;intro ac6 hg w9 hbox hb;have ac7:=A_ (hbox);have of9:=A_ ((g81_:w.heap.size<=ac6));have ln9:=of9;replace HB:=hs_ (bw8) hb;have lo2:=nl_ zq hg;have lo3:=nr_ zq hg;replace zq:=bb_ zq hb;clear hb hbox hg;have ct3:=lo2.out;have ct4:=lo3.out;obtain⟨sr,ss,st,su⟩:=blk2_ zq)|((with_reducible refine gc_ 111 ?_);refine gl_ 9 Try.func111 #[.agg #[.slice af ab.length ac, .slice ah aa.length ag]] ?_;(refine(Fo.calls k _ _ ab _ _ aa vb at5 _ (uC_ bg) bw.out (uC_ bd) b4.out A4.out).mono ?_);rintro e uf ⟨og0,og1,rfl,ai,ak,hb⟩;refine⟨_,rfl,?_⟩;have ai8:=A_ (Kd.R_lower ai (Je (bw8)));have cf1:=A_ (Kd.S_lower ak (Je (bw8)));replace zq:=bb_ zq hb;replace ac7:=bb_ ac7 hb;replace HB:=hs_ (bw8) hb)|((with_reducible refine gd_ 7 ?_);refine bx_ (N:=7) #[.slice none 0 0, .slice none 0 0] 25 ?_;intro ai9 hg km hbox hb;replace ai8:=rb_ ai8 hb;replace cf1:=sb_ cf1 hb;have bj6:=A_ (hbox);have og2:=A_ ((g81_:w.heap.size<=ai9));have lo0:=og2;replace HB:=hs_ (bw8) hb;have gt4:=nl_ zq hg;have lo4:=nr_ zq hg;replace zq:=bb_ zq hb;have gt5:=nl_ ac7 hg;have lo5:=nr_ ac7 hg;replace ac7:=bb_ ac7 hb;clear hb hbox hg;obtain⟨nz,k8,bn4⟩:=Kd.R_slice ai8.out;subst bn4;have dd9:=lo4.out;have de0:=gt4.out;have fd0:=lo5.out;have fd1:=gt5.out;obtain⟨du3,du4,du5,du6⟩:=blk2_ bj6;obtain⟨m4,ky,eg2⟩:=Kd.S_slice cf1.out;subst eg2)|((with_reducible refine gate_store (t:=25) (p:=7) rfl ?_);refine store_event (t:=25) (p:=7) (v:=?vo_w19) (w1:=((km.setCell ⟨ai9,0,none⟩ (.slice nz vb.length k8)).setCell ⟨ai9,1,none⟩ (.slice m4 at5.length ky))) ?hg ?ho ?hn ?hr ?_;(case ho=>rfl);(case hg=>rfl);(case hn=>rfl);(case hr=>first|(go_simp;done)|(go_simp;rfl));intro w19 hw;replace ai8:Jc (Kd.R (Kd.int .i64) 3 w19 w.heap.size (fun _=>True) (.slice nz vb.length k8) vb):=⟨(by rw[hw];exact(ra_ ai8))⟩;replace cf1:Jc (Kd.S (Kd.slice 3 (Kd.int .i64)) 22 w19 w.heap.size (fun k_=>some k_≠(.slice nz vb.length k8:Value).ownBlock) (.slice m4 at5.length ky) at5):=⟨(by rw[hw];exact(sa_ cf1))⟩;replace zq:Jc (hc_ w19 at6 #[.slice af ab.length ac, .slice ah aa.length ag] 25):=⟨(by rw[hw];exact(ba_ zq))⟩;replace ac7:Jc (hc_ w19 ac6 #[.slice none 0 0, .slice none 0 0] 25):=⟨(by rw[hw];exact(ba_ ac7))⟩;replace bj6:Jc (hc_ w19 ai9 #[.slice nz vb.length k8, .slice m4 at5.length ky] 25):=⟨(by rw[hw];exact(ba_ bj6))⟩;replace HB:Jc (Below w.heap.size w w19):=⟨(by rw[hw];exact(bw8))⟩;clear hw;obtain⟨bl8,bl9,bm0,bm1⟩:=blk2_ bj6;have p7:0<=(a1:Int):=od_;have q7:(a1:Int) < ((vb.length:Int):Int):=od_;obtain⟨go7,co7,eo7,gb7,gl7,cl7,HG7⟩:=Kd.R_form ai8.out (by omega);(first|cases eo7|(injection eo7 with ea_ en_ ec_;(first|subst ea_|(injection ea_ with ea_;subst ea_));subst ec_;clear en_));have GB7:=A_ gb7;have GG7:=A_ HG7;clear gb7 gl7 HG7;obtain⟨lo6,hf7_0⟩:=Kd.R_celln 0 ai8.out (a1:Int) p7 q7;replace p7:=eq_true p7;replace q7:=eq_true q7;obtain⟨hy21_,hz21_⟩:=Kd.R_celln 0 ai8.out (a1:Int) (od_) (od_);have HP21:=Kd.R_putg ai8.out (a1:Int) a2)|((with_reducible refine gate_store (t:=3) (p:=14) rfl ?_);refine store_event (t:=3) (p:=14) (v:=?vo_w22) (w1:=(w19.setCell ⟨go7,(a1:Int).toNat,none⟩ (.int .i64 a2))) ?hg ?ho ?hn ?hr ?_;(case ho=>rfl);(case hg=>rfl);(case hn=>rfl);(case hr=>first|(go_simp;done)|(go_simp;rfl));intro uv hw;have hg:w19.grownBy uv (some go7):=(by rw[hw];exact HP21.2);have hp_:Kd.R (Kd.int .i64) 3 uv w.heap.size (fun _=>True) (.slice (some ⟨go7,0,none⟩) vb.length k8) jc2:=(by rw[hw,lo1.out];exact HP21.1);clear HP21;replace zq:=(bg_ zq hg (Kd.R_ne ai8.out zq.out (by decide)));replace ac7:=(bg_ ac7 hg (Kd.R_ne ai8.out ac7.out (by decide)));replace cf1:=A_ (Kd.S_after (v:=(.slice (some ⟨go7,0,none⟩) vb.length k8)) (v1:=(.slice (some ⟨go7,0,none⟩) vb.length k8)) (ok:=(fun _=>True)) (yS_ cf1 (fun _ hk=>⟨trivial,hk⟩)) hg (.inl rfl));replace bj6:=(bg_ bj6 hg (Kd.R_ne ai8.out bj6.out (by decide)));replace ai8:=A_ (hp_);replace HB:=A_ ((by rw[hw];exact Jh (HB.out) GB7.out:Below w.heap.size w uv));clear hg hw hp_;obtain⟨bx4,bx5,bx6,bx7⟩:=blk2_ bj6;obtain⟨il3,il4,il5,il6⟩:=blk2_ ac7))
 refine bodyPost_ret (results_cell_row rfl _ _ ac6 25 #[.slice (some ⟨go7,0,none⟩) vb.length k8, .slice m4 at5.length ky] (0,0) _ rfl (ba_ ac7) Try.underlying25 rfl (g1_)) rfl ?_
 exact⟨_,_,g4_,ra_ ai8,sa_ cf1,bw8⟩
mutual
def Fu.l0:Nat->List (List Int)->Int->Int->List Int->List (List Int)->List Int->List (List Int)->Option (List Int × (List (List Int)))
 | 0,_,_,_,_,_,_,_=>none
 | k + 1,ra,wm,lb,fh6,cu4,ej4,cf2=>if lb < wm then(if 0<=lb then(if lb < (ra.length:Int) then(Fu.l1 k lb ra wm lb (Jr ra lb) ((Jr ra lb).length:Int) 0 fh6 cu4 ej4 cf2) else(none)) else(none)) else(some (ej4,cf2))
def Fu.l1:Nat->Int->List (List Int)->Int->Int->List Int->Int->Int->List Int->List (List Int)->List Int->List (List Int)->Option (List Int × (List (List Int)))
 | 0,_,_,_,_,_,_,_,_,_,_,_=>none
 | k + 1,x4,ra,wm,lb,x18,x19,x20,fh6,cu4,ej4,cf2=>if x20 < x19 then(if 0<=x20 then(if x20 < (x18.length:Int) then(if 0<=x4 then(if x4 < (cf2.length:Int) then(if x20 < (cu4.length:Int) then(if x4 < ((Jr cu4 x20).length:Int) then(if x20 < ((Jr cf2 x4).length:Int) then(Fu.l1 k x4 ra wm lb x18 x19 (wrap64 (x20 + 1)) fh6 cu4 ej4 (cf2.set (x4:Int).toNat ((Jr cf2 x4).set (x20:Int).toNat (wrap64 ((rd x18 x20) - (mn (rd x18 x20) (rd (Jr cu4 x20) x4))))))) else(none)) else(none)) else(none)) else(none)) else(none)) else(none)) else(none)) else(Fu.l0 k ra wm (wrap64 (lb + 1)) fh6 cu4 ej4 cf2)
end
def Fu.f (k:Nat) (ab:List Int) (aa:List (List Int)):Option (List Int × (List (List Int))):=(Fo.f k ab aa).bind fun bt450=>(Fu.l0 k aa (aa.length:Int) 0 ab aa bt450.1 bt450.2)
def Fu.T8:Bool × List (List Nat × List Nat):=(true,[([],[]),([0],[0]),([],[]),([1,2],[1,2]),([3],[3]),([],[]),([],[]),([],[]),([],[]),([8],[8]),([],[]),([9,10],[9,10]),([11],[11]),([],[]),([12,13],[12,13]),([14],[14]),([7,15],[7,15]),([6,16],[6,16]),([4,5,0,1,2,3,4,5,6,7,8,9,10,11,12,13,14,15,16,17],[4,5]),([18,17,0,1,2,3,4,5,6,7,8,9,10,11,12,13,14,15,16,17],[17,18])])
def Fu.B8:List Nat:=[0,1,0,7,15,0,0,0,0,256,0,1792,3840,0,16128,32512,65408,131008,262143,524287]
theorem Fu.tab8:rtab .any (opsOf Try.f92 8)=Fu.T8:=by kernel_rfl
theorem Fu.bits8:waitsOk Fu.T8.2 Fu.B8=true:=by kernel_rfl
theorem aw9 {p:Prop} (h:p:=by repeat(first|(with_reducible first|exact HB.out|apply Jk|apply Jj|apply Ji|refine Jh ?_ lo7.out|refine Jh ?_ lo8.out|refine Jh ?_ lo9.out|refine Jh ?_ GB27.out)|exact HB.out)):p:=h
set_option maxHeartbeats 8000000 in
set_option maxRecDepth 100000 in
theorem Fu.calls (k:Nat) (af:Option Addr) (ac:Nat) (ab:List Int) (ah:Option Addr) (ag:Nat) (aa:List (List Int)) (r1:List Int) (r2:List (List Int)) (w:World) (cb:Kd.C (Kd.int .i64) w af ab.length ab) (cg:ab.length<=ac) (cc:Kd.C (Kd.slice 3 (Kd.int .i64)) w ah aa.length aa) (ch:aa.length<=ag) (h:Fu.f k ab aa=some (r1,r2)) :
  Calls Try.prog 92 #[.agg #[.slice af ab.length ac, .slice ah aa.length ag]] w fun e w'=>∃v0_ v1_:Value,e = .returned (.agg #[v0_,v1_])/\Kd.R (Kd.int .i64) 3 w' w.heap.size (fun _=>True) v0_ r1/\Kd.S (Kd.slice 3 (Kd.int .i64)) 22 w' w.heap.size (fun k_=>some k_≠(v0_:Value).ownBlock) v1_ r2/\Below w.heap.size w w':=by
 have hu25:=Try.underlying25
 have bg:=A_ cb
 have bw:=A_ cg
 clear cb cg
 have bd:=A_ cc
 have b4:=A_ ch
 clear cc ch
 have HB:=A_ (Below.refl w.heap.size w)
 have H:=h
 unfold Fu.f at H
 clear h
 replace H:=Option.bind_eq_some_iff.mp H
 obtain⟨⟨di4,ej5⟩,vy,H⟩:=H
 try dsimp only at H
 have A2:=A_ vy
 clear vy
 have H':=A_ H
 clear H
 go_enter Try.func92,Try.ntmps92
 go_wp2_with (first|((with_reducible refine gd_ 1 ?_);refine bx_ (N:=1) #[.slice af ab.length ac, .slice ah aa.length ag] 25 ?_;intro aj0 hg w3 hbox hb;have qt:=A_ (hbox);have og3:=A_ ((g82_:w.heap.size<=aj0));have lo7:=og3;replace HB:=hs_ (aw9) hb;clear hb hbox hg)|((with_reducible refine gd_ 2 ?_);refine bx_ (N:=2) #[.slice none 0 0, .slice none 0 0] 25 ?_;intro ac8 hg w4 hbox hb;have tv:=A_ (hbox);have og4:=A_ ((g82_:w.heap.size<=ac8));have lo8:=og4;replace HB:=hs_ (aw9) hb;have jc3:=nl_ qt hg;have jc4:=nr_ qt hg;replace qt:=bb_ qt hb;clear hb hbox hg;have ev5:=jc3.out;have ev6:=jc4.out;obtain⟨ur,us,ut,uu⟩:=blk2_ qt)|((with_reducible refine gc_ 111 ?_);refine gl_ 9 Try.func111 #[.agg #[.slice af ab.length ac, .slice ah aa.length ag]] ?_;(refine(Fo.calls k _ _ ab _ _ aa di4 ej5 _ (uC_ bg) bw.out (uC_ bd) b4.out A2.out).mono ?_);rintro e w7 ⟨og5,og6,rfl,ai,ak,hb⟩;refine⟨_,rfl,?_⟩;have fh7:=A_ (Kd.R_lower ai (Je (aw9)));have fh8:=A_ (Kd.S_lower ak (Je (aw9)));replace qt:=bb_ qt hb;replace tv:=bb_ tv hb;replace HB:=hs_ (aw9) hb)|((with_reducible refine gd_ 3 ?_);refine bx_ (N:=3) #[.slice none 0 0, .slice none 0 0] 25 ?_;intro aj1 hg w8 hbox hb;replace fh7:=rb_ fh7 hb;replace fh8:=sb_ fh8 hb;have zr:=A_ (hbox);have og7:=A_ ((g82_:w.heap.size<=aj1));have lo9:=og7;replace HB:=hs_ (aw9) hb;have fh9:=nl_ qt hg;have jc5:=nr_ qt hg;replace qt:=bb_ qt hb;have fi0:=nl_ tv hg;have jc6:=nr_ tv hg;replace tv:=bb_ tv hb;clear hb hbox hg;obtain⟨g5,fw,eo9⟩:=Kd.R_slice fh7.out;subst eo9;have ct3:=jc5.out;have ct4:=fh9.out;have bg8:=jc6.out;have bg9:=fi0.out;obtain⟨vu,vv,vw,vx⟩:=blk2_ zr;obtain⟨jg,gx,bo8⟩:=Kd.S_slice fh8.out;subst bo8;obtain⟨um,un,uo,uq⟩:=blk2_ qt))
 go_loopg [13] k (fun kq v13 w'=>∃(b5:Int) (cf3:List Int) (cu5:List (List Int)) (an8:Value) (bs1:Value),v13 = .int .i64 b5/\Jc (Fu.l0 kq aa (aa.length:Int) b5 ab aa cf3 cu5=some (r1,r2))/\Jc (kq<=k)/\Jc (Kd.R (Kd.int .i64) 3 w' w.heap.size (fun _=>True) an8 cf3)/\Jc (Kd.S (Kd.slice 3 (Kd.int .i64)) 22 w' w.heap.size (fun k_=>some k_≠(an8:Value).ownBlock) bs1 cu5)/\Jc (hc_ w' aj0 #[(.slice af ab.length ac),(.slice ah aa.length ag)] 25)/\Jc (hc_ w' ac8 #[(.slice none 0 0),(.slice none 0 0)] 25)/\Jc (hc_ w' aj1 #[an8,bs1] 25)/\Jc (Below w.heap.size w w'))
 case atStart=>exact⟨(0),(di4),(ej5),(.slice g5 di4.length fw),(.slice jg ej5.length gx),(g3_),H',⟨Nat.le_refl _⟩,⟨ra_ fh7⟩,⟨sa_ fh8⟩,⟨ba_ qt⟩,⟨ba_ tv⟩,⟨ba_ zr⟩,⟨aw9⟩⟩
 clear H'
 obtain⟨b5,cf3,cu5,an8,bs1,rfl,HA,HK1,bs2,ac9,qt,tv,zr,HB⟩:=hrel
 cases gk with
 | zero=>exact absurd HA.out (by simp[Fu.l0])
 | succ k1=>?_
 have H:=HA.out
 clear HA
 simp only[Fu.l0] at H
 by_cases eu:b5 < (aa.length:Int)
 case neg=>
  rw[if_neg eu] at H
  have pf:=decide_eq_false eu
  clear eu
  simp only[Option.some.injEq,Prod.mk.injEq] at H
  obtain⟨rfl,rfl⟩:=H
  have ee4:=jc5.out
  have ee5:=fh9.out
  have ca5:=jc6.out
  have ca6:=fi0.out
  obtain⟨dd1,dd2,dd3,dd4⟩:=blk2_ zr
  obtain⟨bz,bk,ba0⟩:=Kd.R_slice bs2.out
  subst ba0
  have im2:=jc4.out
  have im3:=jc3.out
  obtain⟨cp7,cp8,cp9,cq0⟩:=blk2_ tv
  obtain⟨k5,jr,aq9⟩:=Kd.S_slice ac9.out
  subst aq9
  go_wp2
  refine bodyPost_ret (results_cell_row rfl _ _ ac8 25 #[.slice bz cf3.length bk, .slice k5 cu5.length jr] (0,0) _ rfl (ba_ tv) Try.underlying25 rfl (g1_)) rfl ?_
  exact⟨_,_,g4_,ra_ bs2,sa_ ac9,aw9⟩
 rw[if_pos eu] at H
 have pf:=decide_eq_true eu
 clear eu
 obtain⟨ag9,H⟩:=pd_ H
 obtain⟨al4,H⟩:=pd_ H
 have H':=A_ H
 clear H
 obtain⟨⟨fi3,og8,og9,lp0,gt6,jc7,jc8⟩,fi1,fi2⟩:=rdp_ (at_L1 bd.out b5)
 cases lp0
 replace gt6:=cl_ HB gt6
 have lp1:=A_ jc8
 have oh0:=A_ jc7
 clear jc8 jc7
 go_wp2
 go_loopg [20] k1 (fun kq v20 w'=>∃(li:Int) (cf4:List Int) (vc:List (List Int)) (an8:Value) (bs1:Value),v20 = .int .i64 li/\Jc (Fu.l1 kq b5 aa (aa.length:Int) b5 (Jr aa b5) ((Jr aa b5).length:Int) li ab aa cf4 vc=some (r1,r2))/\Jc (kq<=k1)/\Jc (Kd.R (Kd.int .i64) 3 w' w.heap.size (fun _=>True) an8 cf4)/\Jc (Kd.S (Kd.slice 3 (Kd.int .i64)) 22 w' w.heap.size (fun k_=>some k_≠(an8:Value).ownBlock) bs1 vc)/\Jc (hc_ w' aj0 #[(.slice af ab.length ac),(.slice (some fi3) aa.length ag)] 25)/\Jc (hc_ w' ac8 #[(.slice none 0 0),(.slice none 0 0)] 25)/\Jc (hc_ w' aj1 #[an8,bs1] 25)/\Jc (Below w.heap.size w w'))
 case atStart=>exact⟨(0),(cf3),(cu5),(an8),(bs1),(g3_),H',⟨Nat.le_refl _⟩,⟨uR_ bs2⟩,⟨uS_ ac9⟩,⟨uB_ qt⟩,⟨uB_ tv⟩,⟨uB_ zr⟩,⟨aw9⟩⟩
 clear H'
 obtain⟨li,cf4,vc,an8,bs1,rfl,HA,HK2,bs2,ac9,qt,tv,zr,HB⟩:=hrel
 cases gk with
 | zero=>exact absurd HA.out (by simp[Fu.l1])
 | succ k2=>?_
 have H:=HA.out
 clear HA
 simp only[Fu.l1] at H
 by_cases jz:li < ((Jr aa b5).length:Int)
 case neg=>
  rw[if_neg jz] at H
  have bh2:=decide_eq_false jz
  clear jz
  have H':=A_ H
  clear H
  go_wp2
  go_roundg k2
  case measure=>have:=HK1.out;have:=HK2.out;omega
  case rel=>exact⟨(wrap64 (b5 + 1)),(cf4),(vc),(an8),(bs1),(g3_),H',⟨g42_⟩,⟨uR_ bs2⟩,⟨uS_ ac9⟩,⟨uB_ qt⟩,⟨uB_ tv⟩,⟨uB_ zr⟩,⟨aw9⟩⟩
 rw[if_pos jz] at H
 have bh2:=decide_eq_true jz
 clear jz
 obtain⟨tr,H⟩:=pd_ H
 obtain⟨ei3,H⟩:=pd_ H
 obtain⟨ig8,H⟩:=pd_ H
 obtain⟨ay9,H⟩:=pd_ H
 obtain⟨bn7,H⟩:=pd_ H
 obtain⟨yw,H⟩:=pd_ H
 obtain⟨ji25,hji25⟩:∃j_:Int,(mn (rd (Jr aa b5) li) (rd (Jr aa li) b5))=j_:=⟨_,rfl⟩
 first|rw[hji25] at H|simp only[hji25] at H
 have hji25_:(if (rd (Jr aa li) b5) < (rd (Jr aa b5) li) then(rd (Jr aa li) b5) else(rd (Jr aa b5) li))=ji25:=hji25
 obtain⟨co0,H⟩:=pd_ H
 obtain⟨gt7,hyq⟩:∃y_:List Int,y_=((Jr vc b5).set (li:Int).toNat (wrap64 ((rd (Jr aa b5) li) - (ji25)))):=⟨_,rfl⟩
 replace H:(Fu.l1 k2 b5 aa (aa.length:Int) b5 (Jr aa b5) ((Jr aa b5).length:Int) (wrap64 (li + 1)) ab aa cf4 (vc.set (b5:Int).toNat gt7))=some (r1,r2):=qh_
 have lp2:=A_ hyq
 clear hyq
 obtain⟨jc9,hyq⟩:∃y_:List (List Int),y_=(vc.set (b5:Int).toNat gt7):=⟨_,rfl⟩
 replace H:(Fu.l1 k2 b5 aa (aa.length:Int) b5 (Jr aa b5) ((Jr aa b5).length:Int) (wrap64 (li + 1)) ab aa cf4 jc9)=some (r1,r2):=qh_
 have lp3:=A_ hyq
 clear hyq
 have H':=A_ H
 clear H
 obtain⟨⟨oh1,lp4,jd0⟩,gt8,gt9⟩:=rdp_ (Kd.at_int lp1.out li)
 cases lp4
 replace jd0:=cl_ HB jd0
 try go_wp2
 replace bs2:=rd_ bs2
 replace ac9:=sd_ ac9
 replace qt:=bd_ qt
 replace tv:=bd_ tv
 replace zr:=bd_ zr
 replace HB:=A_ (Ji HB.out)
 obtain⟨de3,cb5,ba3⟩:=Kd.S_slice ac9.out
 (first|subst ba3|(injection ba3 with f1_ f2_ f3_;have f4_:=f1_.symm;have f5_:=f3_.symm;clear f1_ f2_ f3_;subst f4_;subst f5_))
 have fi4:0<=(b5:Int):=od_
 have fi5:b5 < (vc.length:Int):=od_
 obtain⟨gu0,oh2,lp5,lp6,fi6,jd1,jd2⟩:=at_L1 (Kd.S_reads' ac9.out).2.2 b5 fi4 fi5
 cases lp6
 obtain⟨ce459,hce459,hMe459,hcc459⟩:=Kd.S_get ac9.out [] b5 fi4 (by first|exact fi5|exact od_|(have e_:=(Kd.S_reads' ac9.out).1;omega))
 obtain⟨ve459_0,rfl,ge459_0⟩:=hMe459
 have hv459_0:=hcc459 0 _ rfl
 rw[Nat.add_zero,show((Kd.slice 3 (Kd.int .i64))).sz=1 from rfl,Nat.mul_one] at hv459_0
 replace hv459_0:=Option.some.inj (hv459_0.symm.trans fi6)
 rw[hv459_0] at ge459_0
 have cu6:=A_ (show Kd.R (Kd.int .i64) 3 _ _ _ _ (Jr vc b5) from ge459_0)
 clear hv459_0 ge459_0
 have HX459_0:=A_ fi6
 clear hcc459 hce459
 have lp7:=A_ jd2
 have oh3:=A_ jd1
 clear jd2 jd1
 replace fi4:=eq_true fi4
 replace fi5:=eq_true fi5
 obtain⟨⟨lp8,oh4,lp9,lq0,fi7,jd3,jd4⟩,gu1,gu2⟩:=rdp_ (at_L1 bd.out li)
 have lq1:=fi7
 obtain rfl:fi3=lp8:=(by injection lq0)
 replace fi7:=cl_ HB fi7
 have jd5:=A_ jd4
 have oh5:=A_ jd3
 clear jd4 jd3
 obtain⟨⟨jd6,lq2,fi8⟩,gu3,gu4⟩:=rdp_ (Kd.at_int jd5.out b5)
 have lq3:=fi8
 cases lq2
 replace fi8:=cl_ HB fi8
 have p27:0<=(li:Int):=od_
 have q27:(li:Int) < (((Jr vc b5).length:Int):Int):=od_
 obtain⟨jd7,l7,qn,jd8,gl27,cl27,HG27⟩:=Kd.R_form cu6.out (by omega)
 (first|cases qn|(injection qn with ea_ en_ ec_;(first|subst ea_|(injection ea_ with ea_;subst ea_));subst ec_;clear en_))
 have GB27:=A_ jd8
 have GG27:=A_ HG27
 clear jd8 gl27 HG27
 obtain⟨lq4,hf27_0⟩:=Kd.R_celln 0 cu6.out (li:Int) p27 q27
 replace p27:=eq_true p27
 replace q27:=eq_true q27
 have hq30:(b5:Int) < (vc.length:Int):=(by have h_:(b5:Int) < ((vc.length:Int):Int):=od_;first|exact h_|(have e_:=(Kd.S_reads' ac9.out).1;omega)|simpa only[List.length_set,List.length_set] using h_)
 obtain⟨oki30,ce30,hcl30,hM30,hcc30,hok30,hbk30⟩:=Kd.S_borrow ac9.out [] (b5:Int) (od_) (by first|exact hq30|exact od_|(have e_:=(Kd.S_reads' ac9.out).1;omega))
 obtain⟨ve30_0,rfl,ge30_0⟩:=hM30
 have hv30:=hcc30 0 _ rfl
 rw[Nat.add_zero,show((Kd.slice 3 (Kd.int .i64))).sz=1 from rfl,Nat.mul_one] at hv30
 replace hv30:=Option.some.inj (hv30.symm.trans HX459_0.out)
 subst hv30
 clear hcc30 hcl30
 replace ge30_0:=(show Kd.R (Kd.int .i64) 3 _ _ _ _ (Jr vc b5) from ge30_0)
 have HP30:=Kd.R_putg ge30_0 (li:Int) (wrap64 ((rd (Jr aa b5) li) - (ji25)))
 rw[<- lp2.out] at HP30
 have HS30:=hbk30 HP30.2 (fun k_ e_=>by injection e_ with e_;subst e_;exact ge30_0.1 _ rfl) (x':=gt7) (Kd.M_row HP30.1)
 rw[<- lp3.out] at HS30
 have HQ30:=A_ HS30
 clear HP30 HS30 hbk30 hok30
 refine start_ (n:=20) (S:=fun w'=>w'.cell? ⟨aj1,0,none⟩=some (an8)/\w'.cell? ⟨aj1,1,none⟩=some (.slice (some gu0) vc.length cb5)/\w'.cell? ⟨aj0,0,none⟩=some (.slice af ab.length ac)/\w'.cell? ⟨aj0,1,none⟩=some (.slice (some fi3) aa.length ag)/\w'.cell? (gu0.add (b5).toNat)=some (.slice (some ⟨jd7,0,none⟩) (Jr vc b5).length lp5)/\w'.cell? (fi3.add (li).toNat)=some (.slice (some jd6) (Jr aa li).length lp9)/\w'.cell? (jd6.add (b5).toNat)=some (.int .i64 (rd (Jr aa li) b5))) (ds:=[19]) (tl_ 20 0) (g1_) rfl (g1_) ⟨(Jd zr.out 0).trans rfl,(Jd zr.out 1).trans rfl,(Jd qt.out 0).trans rfl,(Jd qt.out 1).trans rfl,fi6,((cl_ HB lq1).trans rfl),((cl_ HB lq3).trans rfl)⟩ (fun hHeld=>?_);refine Jx Fu.tab8 Fu.bits8 (fun HT_ HW_=>?_)
 generalize wr.drew=w28 at bs2 ac9 qt tv zr HB GG27 cu6 HQ30 lp7 jd5 HX459_0 hf27_0 lq4 fi6 fi7 fi8 hHeld |-
 refine pw_ 0 25 (tl_ 20 1) ?_
 refine pw_ 2 27 (tl_ 20 5) ?_
 refine pw_ 5 30 (tl_ 20 37) ?_
 refine pw_ 6 31 (tl_ 20 101) ?_
 refine pw_ 7 32 (tl_ 20 229) ?_
 refine pw_ 8 33 (tl_ 20 485) ?_
 refine pw_ 10 35 (tl_ 20 1509) ?_
 refine pw_ 13 38 (tl_ 20 9701) ?_
 refine tk3_ 1 26 (tl_ 20 9703) hHeld ?_
 refine pw_ 3 28 (tl_ 20 9711) ?_
 refine tk3_ 4 29 (tl_ 20 9727) hHeld ?_
 refine tk3_ 9 34 (tl_ 20 10239) hHeld ?_
 refine pw_ 11 36 (tl_ 20 12287) ?_
 refine tk3_ 12 37 (tl_ 20 16383) hHeld ?_
 refine pw_ 14 39 (tl_ 20 32767) ?_
 refine tk3_ 15 40 (tl_ 20 65535) hHeld ?_
 refine pw_ 16 41 (tl_ 20 131071) ?_
 refine pw_ 17 42 (tl_ 20 262143) ?_
 refine pw_ 18 43 (tl_ 20 524287) ?_
 refine last_ (i:=19) (N:=none) (tl_ 20 1048575) rfl rfl (Jz HT_.out (g1_)) (by decide) (fun K hK=>?_)
 refine skip_ (w1:=?_) (by rfl) rfl ?_ ?_
 rotate_left
 ·go_simp
  rfl
 refine hK.out _ _ ?_
 clear hK K
 refine done_ (done_of HT_.out (g1_)) ?_
 try go_wp2
 go_roundg k2
 case measure=>have:=HK1.out;have:=HK2.out;omega
 case rel=>exact⟨(wrap64 (li + 1)),(cf4),(jc9),(an8),(.slice (some gu0) vc.length cb5),(g3_),H',⟨g42_⟩,⟨by(with_reducible repeat(first|apply Kd.R_alloc|apply Kd.R_drewN|apply Kd.R_drew));exact Kd.R_mono (Kd.R_far (p:=⟨jd7,(li:Int).toNat,none⟩) (Kd.R_far1 bs2.out rfl ((cu6.out.1 _ rfl).1)) (fun _ hk=>hk.2) (.int .i64 (wrap64 ((rd (Jr aa b5) li) - (ji25))))) (fun _ hk=>trivial)⟩,⟨uS_ HQ30⟩,⟨by(with_reducible repeat(first|refine Jm ?_ _|refine Jn ?_|refine Jl ?_ _));refine Ju ?_ (by have h_:=Kd.R_ne cu6.out qt.out (by decide);intro e_;exact h_ (g6_)) _;exact uB_ qt⟩,⟨by(with_reducible repeat(first|refine Jm ?_ _|refine Jn ?_|refine Jl ?_ _));refine Ju ?_ (by have h_:=Kd.R_ne cu6.out tv.out (by decide);intro e_;exact h_ (g6_)) _;exact uB_ tv⟩,⟨by(with_reducible repeat(first|refine Jm ?_ _|refine Jn ?_|refine Jl ?_ _));refine Ju ?_ (by have h_:=Kd.R_ne cu6.out zr.out (by decide);intro e_;exact h_ (g6_)) _;exact uB_ zr⟩,⟨aw9⟩⟩
def Gl.f (a0:Int):Option (Bool):=some (a0 != a0)
set_option maxHeartbeats 8000000 in
set_option maxRecDepth 100000 in
theorem Gl.calls (a0:Int) (r:Bool) (w:World) (h:Gl.f a0=some r) :
  Calls Try.prog 130 #[.int .i64 a0] w fun e w'=>e = .returned (.bool r)/\Drawn0 w w':=by
 have H:(some (a0 != a0))=some r:=h
 clear h
 obtain rfl:=Option.some.inj H
 go_enter Try.func130,Try.ntmps130
 go_wp2
 go_ret
 exact⟨g3_,g5_⟩
def Gu.f (a0:Int) (a1:Int):Option (Int):=(Gl.f a0).bind fun dw1=>((Gl.f a1).bind fun by7=>(if dw1=true then(if by7=true then(some 0) else(some (-1))) else(if by7=true then(some 1) else(if a0 < a1 then(some (-1)) else(if a0 > a1 then(some 1) else(some 0))))))
set_option maxHeartbeats 8000000 in
set_option maxRecDepth 100000 in
theorem Gu.calls (a0:Int) (a1:Int) (r:Int) (w:World) (h:Gu.f a0 a1=some r) :
  Calls Try.prog 120 #[.int .i64 a0, .int .i64 a1] w fun e w'=>e = .returned (.int .i64 r)/\Drawn0 w w':=by
 have H:=h
 unfold Gu.f at H
 clear h
 obtain⟨dw1,A3,H⟩:=bind_ H
 obtain⟨by7,A4,H⟩:=bind_ H
 by_cases c5:dw1=true
 ·subst c5
  replace H:=ifp_ H
  by_cases c6:by7=true
  ·subst c6
   replace H:=ifp_ H
   obtain rfl:=Option.some.inj H
   go_enter Try.func120,Try.ntmps120
   go_wp2_with (first|((with_reducible refine gc_ 130 ?_);refine gl_ 8 Try.func130 #[.int .i64 a0] ?_;(with_reducible refine(Gl.calls a0 true _ A3.out).mono ?_);rintro e w' ⟨rfl,⟨nd,rfl⟩⟩;refine⟨_,rfl,?_⟩)|((with_reducible refine gc_ 130 ?_);refine gl_ 10 Try.func130 #[.int .i64 a1] ?_;(with_reducible refine(Gl.calls a1 true _ A4.out).mono ?_);rintro e w' ⟨rfl,⟨nd,rfl⟩⟩;refine⟨_,rfl,?_⟩))
   go_ret
   exact⟨g3_,g5_⟩
  replace c6:=Bool.eq_false_iff.mpr c6
  subst c6
  replace H:=ifn_ H
  obtain rfl:=Option.some.inj H
  go_enter Try.func120,Try.ntmps120
  go_wp2_with (first|((with_reducible refine gc_ 130 ?_);refine gl_ 8 Try.func130 #[.int .i64 a0] ?_;(with_reducible refine(Gl.calls a0 true _ A3.out).mono ?_);rintro e w' ⟨rfl,⟨nd,rfl⟩⟩;refine⟨_,rfl,?_⟩)|((with_reducible refine gc_ 130 ?_);refine gl_ 10 Try.func130 #[.int .i64 a1] ?_;(with_reducible refine(Gl.calls a1 false _ A4.out).mono ?_);rintro e w' ⟨rfl,⟨nd,rfl⟩⟩;refine⟨_,rfl,?_⟩))
  go_ret
  exact⟨g3_,g5_⟩
 replace c5:=Bool.eq_false_iff.mpr c5
 subst c5
 replace H:=ifn_ H
 by_cases c7:by7=true
 ·subst c7
  replace H:=ifp_ H
  obtain rfl:=Option.some.inj H
  go_enter Try.func120,Try.ntmps120
  go_wp2_with (first|((with_reducible refine gc_ 130 ?_);refine gl_ 8 Try.func130 #[.int .i64 a0] ?_;(with_reducible refine(Gl.calls a0 false _ A3.out).mono ?_);rintro e w' ⟨rfl,⟨nd,rfl⟩⟩;refine⟨_,rfl,?_⟩)|((with_reducible refine gc_ 130 ?_);refine gl_ 10 Try.func130 #[.int .i64 a1] ?_;(with_reducible refine(Gl.calls a1 true _ A4.out).mono ?_);rintro e w' ⟨rfl,⟨nd,rfl⟩⟩;refine⟨_,rfl,?_⟩))
  go_ret
  exact⟨g3_,g5_⟩
 replace c7:=Bool.eq_false_iff.mpr c7
 subst c7
 replace H:=ifn_ H
 by_cases c8:a0 < a1
 ·rw[if_pos c8] at H
  have xf:=decide_eq_true c8
  clear c8
  obtain rfl:=Option.some.inj H
  go_enter Try.func120,Try.ntmps120
  go_wp2_with (first|((with_reducible refine gc_ 130 ?_);refine gl_ 8 Try.func130 #[.int .i64 a0] ?_;(with_reducible refine(Gl.calls a0 false _ A3.out).mono ?_);rintro e w' ⟨rfl,⟨nd,rfl⟩⟩;refine⟨_,rfl,?_⟩)|((with_reducible refine gc_ 130 ?_);refine gl_ 10 Try.func130 #[.int .i64 a1] ?_;(with_reducible refine(Gl.calls a1 false _ A4.out).mono ?_);rintro e w' ⟨rfl,⟨nd,rfl⟩⟩;refine⟨_,rfl,?_⟩))
  go_ret
  exact⟨g3_,g5_⟩
 rw[if_neg c8] at H
 have xf:=decide_eq_false c8
 clear c8
 by_cases c9:a0 > a1
 ·rw[if_pos c9] at H
  have xg:=decide_eq_true c9
  clear c9
  obtain rfl:=Option.some.inj H
  go_enter Try.func120,Try.ntmps120
  go_wp2_with (first|((with_reducible refine gc_ 130 ?_);refine gl_ 8 Try.func130 #[.int .i64 a0] ?_;(with_reducible refine(Gl.calls a0 false _ A3.out).mono ?_);rintro e w' ⟨rfl,⟨nd,rfl⟩⟩;refine⟨_,rfl,?_⟩)|((with_reducible refine gc_ 130 ?_);refine gl_ 10 Try.func130 #[.int .i64 a1] ?_;(with_reducible refine(Gl.calls a1 false _ A4.out).mono ?_);rintro e w' ⟨rfl,⟨nd,rfl⟩⟩;refine⟨_,rfl,?_⟩))
  go_ret
  exact⟨g3_,g5_⟩
 rw[if_neg c9] at H
 have xg:=decide_eq_false c9
 clear c9
 obtain rfl:=Option.some.inj H
 go_enter Try.func120,Try.ntmps120
 go_wp2_with (first|((with_reducible refine gc_ 130 ?_);refine gl_ 8 Try.func130 #[.int .i64 a0] ?_;(with_reducible refine(Gl.calls a0 false _ A3.out).mono ?_);rintro e w' ⟨rfl,⟨nd,rfl⟩⟩;refine⟨_,rfl,?_⟩)|((with_reducible refine gc_ 130 ?_);refine gl_ 10 Try.func130 #[.int .i64 a1] ?_;(with_reducible refine(Gl.calls a1 false _ A4.out).mono ?_);rintro e w' ⟨rfl,⟨nd,rfl⟩⟩;refine⟨_,rfl,?_⟩))
 go_ret
 exact⟨g3_,g5_⟩
def Fy.l0:Nat->List Int->List Int->List Int->Int->Int->Option (Int)
 | 0,_,_,_,_,_=>none
 | k + 1,x0,x1,x9,x10,ra=>if ra < x10 then(if 0<=ra then(if ra < (x9.length:Int) then(if ra ≥ (x1.length:Int) then(some 1) else(if ra < (x1.length:Int) then((Gu.f (rd x9 ra) (rd x1 ra)).bind fun bh7=>(if bh7=0 then(Fy.l0 k x0 x1 x9 x10 (wrap64 (ra + 1))) else(some bh7))) else(none))) else(none)) else(none)) else(if (x0.length:Int) < (x1.length:Int) then(some (-1)) else(some 0))
def Fy.f (k:Nat) (l0:List Int) (l1:List Int):Option (Int):=Fy.l0 k l0 l1 l0 (l0.length:Int) 0
set_option maxHeartbeats 8000000 in
set_option maxRecDepth 100000 in
theorem Fy.calls (k:Nat) (A0:Option Addr) (c0:Nat) (l0:List Int) (A1:Option Addr) (c1:Nat) (l1:List Int) (r:Int) (w:World) (fa:Kd.C (Kd.int .i64) w A0 l0.length l0) (ec:l0.length<=c0) (iu:Kd.C (Kd.int .i64) w A1 l1.length l1) (iz:l1.length<=c1) (h:Fy.f k l0 l1=some r) :
  Calls Try.prog 121 #[.slice A0 l0.length c0, .slice A1 l1.length c1] w fun e w'=>e = .returned (.int .i64 r)/\Drawn0 w w':=by
 have fp:=A_ fa
 have op:=A_ ec
 clear fa ec
 have fs:=A_ iu
 have pe:=A_ iz
 clear iu iz
 have H:=h
 unfold Fy.f at H
 clear h
 have H':=A_ H
 clear H
 go_enter Try.func121,Try.ntmps121
 go_wp2
 go_loopg [11] k (fun kq v11 w'=>∃(n5:Int),v11 = .int .i64 n5/\Jc (Fy.l0 kq l0 l1 l0 (l0.length:Int) n5=some r)/\Jc (kq<=k)/\Drawn0 w w')
 case atStart=>exact⟨(0),(g3_),H',⟨Nat.le_refl _⟩,g5_⟩
 clear H'
 obtain⟨n5,rfl,HA,HK1,⟨m1,rfl⟩⟩:=hrel
 cases gk with
 | zero=>exact absurd HA.out (by simp[Fy.l0])
 | succ k1=>?_
 have H:=HA.out
 clear HA
 simp only[Fy.l0] at H
 by_cases c3:n5 < (l0.length:Int)
 case neg=>
  rw[if_neg c3] at H
  have gj:=decide_eq_false c3
  clear c3
  by_cases i1:(l0.length:Int) < (l1.length:Int)
  ·rw[if_pos i1] at H
   have ab7:=decide_eq_true i1
   have co3:decide (l0.length < l1.length)=true:=decide_eq_true (Int.ofNat_lt.mp i1)
   clear i1
   obtain rfl:=Option.some.inj H
   go_wp2
   go_ret
   exact⟨g3_,g5_⟩
  rw[if_neg i1] at H
  have ab7:=decide_eq_false i1
  have co3:decide (l0.length < l1.length)=false:=decide_eq_false (fun h=>i1 (Int.ofNat_lt.mpr h))
  clear i1
  obtain rfl:=Option.some.inj H
  go_wp2
  go_ret
  exact⟨g3_,g5_⟩
 rw[if_pos c3] at H
 have gj:=decide_eq_true c3
 clear c3
 obtain⟨ic,H⟩:=pd_ H
 obtain⟨kn,H⟩:=pd_ H
 by_cases c6:n5 ≥ (l1.length:Int)
 ·rw[if_pos c6] at H
  have kf:=decide_eq_true c6
  clear c6
  obtain rfl:=Option.some.inj H
  obtain⟨⟨ie4,eb8,ie5⟩,ba4,ba5⟩:=rdp_ (Kd.at_int fp.out n5)
  cases eb8
  go_wp2
  go_ret
  exact⟨g3_,g5_⟩
 rw[if_neg c6] at H
 have kf:=decide_eq_false c6
 clear c6
 obtain⟨pz,H⟩:=pd_ H
 obtain⟨bh7,A8,H⟩:=bind_ H
 by_cases c9:bh7=0
 ·rw[if_pos c9] at H
  have xg:(bh7 == 0)=true:=beq_iff_eq.mpr c9
  have kn4:(bh7 != 0)=false:=bne_eq_false_iff_eq.mpr c9
  clear c9
  have H':=A_ H
  clear H
  obtain⟨⟨ie4,eb8,ie5⟩,ba4,ba5⟩:=rdp_ (Kd.at_int fp.out n5)
  cases eb8
  obtain⟨⟨kn5,gg5,kn6⟩,cq5,cq6⟩:=rdp_ (Kd.at_int fs.out n5)
  cases gg5
  go_wp2_with (first|((with_reducible refine gc_ 120 ?_);refine gl_ 26 Try.func120 #[.int .i64 (rd l0 n5), .int .i64 (rd l1 n5)] ?_;(with_reducible refine(Gu.calls (rd l0 n5) (rd l1 n5) bh7 _ A8.out).mono ?_);rintro e w' ⟨rfl,⟨nd,rfl⟩⟩;refine⟨_,rfl,?_⟩))
  go_roundg k1
  case measure=>have:=HK1.out;omega
  case rel=>exact⟨(wrap64 (n5 + 1)),(g3_),H',⟨g8_⟩,g5_⟩
 rw[if_neg c9] at H
 have xg:(bh7 == 0)=false:=beq_eq_false_iff_ne.mpr c9
 have kn4:(bh7 != 0)=true:=bne_iff_ne.mpr c9
 obtain rfl:=Option.some.inj H
 obtain⟨⟨ie4,eb8,ie5⟩,ba4,ba5⟩:=rdp_ (Kd.at_int fp.out n5)
 cases eb8
 obtain⟨⟨kn5,gg5,kn6⟩,cq5,cq6⟩:=rdp_ (Kd.at_int fs.out n5)
 cases gg5
 go_wp2_with (first|((with_reducible refine gc_ 120 ?_);refine gl_ 26 Try.func120 #[.int .i64 (rd l0 n5), .int .i64 (rd l1 n5)] ?_;(with_reducible refine(Gu.calls (rd l0 n5) (rd l1 n5) bh7 _ A8.out).mono ?_);rintro e w' ⟨rfl,⟨nd,rfl⟩⟩;refine⟨_,rfl,?_⟩))
 go_ret
 exact⟨g3_,g5_⟩
def F3.l0:Nat->Int->List Int->Int->Int->Option (Int)
 | 0,_,_,_,_=>none
 | k + 1,x3,x6,x7,x8=>if x8 < x7 then(if 0<=x8 then(if x8 < (x6.length:Int) then(if (rd x6 x8)=x3 then(F3.l0 k x3 x6 x7 (wrap64 (x8 + 1))) else(some (rd x6 x8))) else(none)) else(none)) else(some x3)
def F3.f (k:Nat) (l0:List Int):Option (Int):=F3.l0 k 0 l0 (l0.length:Int) 0
theorem F3.mq {p:Prop} (h:p:=by
 repeat' first
 | (with_reducible exact ih0 _ _ _ _)
 | (with_reducible exact LeO.refl _)
 | (with_reducible exact LeO.none _)
 | (with_reducible refine LeO.ite ?_ ?_)
 | (with_reducible refine LeO.bind ?_ (fun _=>?_))
 | exact ih0 _ _ _ _
 | exact LeO.none _
 | refine LeO.ite ?_ ?_
 | refine LeO.bind ?_ (fun _=>?_)):p:=h
theorem F3.mono_l:∀k,(∀y0 y1 y2 y3,LeO (F3.l0 k y0 y1 y2 y3) (F3.l0 (k + 1) y0 y1 y2 y3))
 | 0=>fun _ _ _ _ r h=>by simp[F3.l0] at h
 | k + 1=>by
  have ih0:=F3.mono_l k
  ·intro y0 y1 y2 y3
   unfold F3.l0
   exact F3.mq
theorem F3.mono:∀a0 k,LeO (F3.f k a0) (F3.f (k + 1) a0):=by
 intro a0 k
 have ih0:=F3.mono_l k
 unfold F3.f
 exact F3.mq
set_option maxHeartbeats 8000000 in
set_option maxRecDepth 100000 in
theorem F3.calls (k:Nat) (A0:Option Addr) (c0:Nat) (l0:List Int) (r:Int) (w:World) (fa:Kd.C (Kd.int .i64) w A0 l0.length l0) (ec:l0.length<=c0) (h:F3.f k l0=some r) :
  Calls Try.prog 119 #[.slice A0 l0.length c0] w fun e w'=>e = .returned (.int .i64 r)/\Drawn0 w w':=by
 have fp:=A_ fa
 have op:=A_ ec
 clear fa ec
 have H:(F3.l0 k 0 l0 (l0.length:Int) 0)=some r:=h
 clear h
 have H':=A_ H
 clear H
 go_enter Try.func119,Try.ntmps119
 go_wp2
 go_loopg [8] k (fun kq v8 w'=>∃(mf:Int),v8 = .int .i64 mf/\Jc (F3.l0 kq 0 l0 (l0.length:Int) mf=some r)/\Jc (kq<=k)/\Drawn0 w w')
 case atStart=>exact⟨(0),(g3_),H',⟨Nat.le_refl _⟩,g5_⟩
 clear H'
 obtain⟨mf,rfl,HA,HK1,⟨m1,rfl⟩⟩:=hrel
 cases gk with
 | zero=>exact absurd HA.out (by simp[F3.l0])
 | succ k1=>?_
 have H:=HA.out
 clear HA
 simp only[F3.l0] at H
 by_cases c2:mf < (l0.length:Int)
 case neg=>
  rw[if_neg c2] at H
  have bn2:=decide_eq_false c2
  clear c2
  obtain rfl:=Option.some.inj H
  go_wp2
  go_ret
  exact⟨g3_,g5_⟩
 rw[if_pos c2] at H
 have bn2:=decide_eq_true c2
 clear c2
 obtain⟨gj,H⟩:=pd_ H
 obtain⟨ic,H⟩:=pd_ H
 by_cases c5:(rd l0 mf)=0
 ·rw[if_pos c5] at H
  have kn:((rd l0 mf) == 0)=true:=beq_iff_eq.mpr c5
  have ay0:((rd l0 mf) != 0)=false:=bne_eq_false_iff_eq.mpr c5
  clear c5
  have H':=A_ H
  clear H
  obtain⟨⟨lk4,gr9,lk5⟩,ct8,ct9⟩:=rdp_ (Kd.at_int fp.out mf)
  cases gr9
  go_wp2
  go_roundg k1
  case measure=>have:=HK1.out;omega
  case rel=>exact⟨(wrap64 (mf + 1)),(g3_),H',⟨g8_⟩,g5_⟩
 rw[if_neg c5] at H
 have kn:((rd l0 mf) == 0)=false:=beq_eq_false_iff_ne.mpr c5
 have ay0:((rd l0 mf) != 0)=true:=bne_iff_ne.mpr c5
 obtain rfl:=Option.some.inj H
 obtain⟨⟨lk4,gr9,lk5⟩,ct8,ct9⟩:=rdp_ (Kd.at_int fp.out mf)
 cases gr9
 go_wp2
 go_ret
 exact⟨g3_,g5_⟩
def F0.l0:Nat->List Int->Int->Int->Int->Option (Int)
 | 0,_,_,_,_=>none
 | k + 1,x0,x1,x7,x8=>if x8 < x7 then(if 0<=x8 then(if x8 < (x0.length:Int) then(if x1=(rd x0 x8) then(some x8) else(F0.l0 k x0 x1 x7 (wrap64 (x8 + 1)))) else(none)) else(none)) else(some (-1))
def F0.f (k:Nat) (l0:List Int) (a1:Int):Option (Int):=F0.l0 k l0 a1 (l0.length:Int) 0
set_option maxHeartbeats 8000000 in
set_option maxRecDepth 100000 in
theorem F0.calls (k:Nat) (A0:Option Addr) (c0:Nat) (l0:List Int) (a1:Int) (r:Int) (w:World) (fa:Kd.C (Kd.int .i64) w A0 l0.length l0) (ec:l0.length<=c0) (h:F0.f k l0 a1=some r) :
  Calls Try.prog 128 #[.slice A0 l0.length c0, .int .i64 a1] w fun e w'=>e = .returned (.int .i64 r)/\Drawn0 w w':=by
 have fp:=A_ fa
 have op:=A_ ec
 clear fa ec
 have H:=h
 unfold F0.f at H
 clear h
 have H':=A_ H
 clear H
 go_enter Try.func128,Try.ntmps128
 go_wp2
 go_loopg [8] k (fun kq v8 w'=>∃(mf:Int),v8 = .int .i64 mf/\Jc (F0.l0 kq l0 a1 (l0.length:Int) mf=some r)/\Jc (kq<=k)/\Drawn0 w w')
 case atStart=>exact⟨(0),(g3_),H',⟨Nat.le_refl _⟩,g5_⟩
 clear H'
 obtain⟨mf,rfl,HA,HK1,⟨m1,rfl⟩⟩:=hrel
 cases gk with
 | zero=>exact absurd HA.out (by simp[F0.l0])
 | succ k1=>?_
 have H:=HA.out
 clear HA
 simp only[F0.l0] at H
 by_cases c3:mf < (l0.length:Int)
 case neg=>
  rw[if_neg c3] at H
  have gj:=decide_eq_false c3
  clear c3
  obtain rfl:=Option.some.inj H
  go_wp2
  go_ret
  exact⟨g3_,g5_⟩
 rw[if_pos c3] at H
 have gj:=decide_eq_true c3
 clear c3
 obtain⟨ic,H⟩:=pd_ H
 obtain⟨kn,H⟩:=pd_ H
 by_cases c6:a1=(rd l0 mf)
 ·rw[if_pos c6] at H
  have kf:(a1 == (rd l0 mf))=true:=beq_iff_eq.mpr c6
  have bs0:(a1 != (rd l0 mf))=false:=bne_eq_false_iff_eq.mpr c6
  clear c6
  obtain rfl:=Option.some.inj H
  obtain⟨⟨lq5,gu5,lq6⟩,cu7,cu8⟩:=rdp_ (Kd.at_int fp.out mf)
  cases gu5
  go_wp2
  go_ret
  exact⟨g3_,g5_⟩
 rw[if_neg c6] at H
 have kf:(a1 == (rd l0 mf))=false:=beq_eq_false_iff_ne.mpr c6
 have bs0:(a1 != (rd l0 mf))=true:=bne_iff_ne.mpr c6
 have H':=A_ H
 clear H
 obtain⟨⟨lq5,gu5,lq6⟩,cu7,cu8⟩:=rdp_ (Kd.at_int fp.out mf)
 cases gu5
 go_wp2
 go_roundg k1
 case measure=>have:=HK1.out;omega
 case rel=>exact⟨(wrap64 (mf + 1)),(g3_),H',⟨g8_⟩,g5_⟩
def Gr.f (k:Nat) (l0:List Int) (a1:Int):Option (Bool):=(F0.f k l0 a1).bind fun el2=>(some (decide (el2 ≥ 0)))
set_option maxHeartbeats 8000000 in
set_option maxRecDepth 100000 in
theorem Gr.calls (k:Nat) (A0:Option Addr) (c0:Nat) (l0:List Int) (a1:Int) (r:Bool) (w:World) (fa:Kd.C (Kd.int .i64) w A0 l0.length l0) (ec:l0.length<=c0) (h:Gr.f k l0 a1=some r) :
  Calls Try.prog 116 #[.slice A0 l0.length c0, .int .i64 a1] w fun e w'=>e = .returned (.bool r)/\Drawn0 w w':=by
 have fp:=A_ fa
 have op:=A_ ec
 clear fa ec
 have H:=h
 unfold Gr.f at H
 clear h
 obtain⟨el2,A3,H⟩:=bind_ H
 obtain rfl:=Option.some.inj H
 go_enter Try.func116,Try.ntmps116
 go_wp2_with (first|((with_reducible refine gc_ 128 ?_);refine gl_ 7 Try.func128 #[.slice A0 l0.length c0, .int .i64 a1] ?_;(refine(F0.calls k _ _ l0 a1 el2 _ (cu_ fp.out) op.out A3.out).mono ?_);rintro e w' ⟨rfl,⟨nd,rfl⟩⟩;refine⟨_,rfl,?_⟩))
 go_ret
 exact⟨g3_,g5_⟩
end Go.Proofs.Ytfooakkhkehpiaa.PE
