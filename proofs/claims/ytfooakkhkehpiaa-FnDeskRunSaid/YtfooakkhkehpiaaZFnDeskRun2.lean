/- FnDeskRun: for every input the law holds. No condition. -/
import Derived.Test.YtfooakkhkehpiaaZFnDeskRun1
namespace Go.Proofs.Ytfooakkhkehpiaa.PU
open Go.RowKit Go.Proofs.YtfooakkhkehpiaaW.PrintWords Go.Proofs.YtfooakkhkehpiaaW.PrintLast Go.Proofs.YtfooakkhkehpiaaW.PrintMore Go.Proofs.Ytfooakkhkehpiaa.Qd
attribute [local go_sem] max2_int min2_int max_two min_two max_three min_three max_four min_four
set_option linter.unusedVariables false
set_option linter.unusedSimpArgs false
def Ft.l0:Nat->Int->List Int->List (List Int)->List (S25)->List Int->List (List Int)->List (S25)->Option (Bool)
 | 0,_,_,_,_,_,_,_=>none
 | k + 1,x5,gs8,gs9,ef8,gt0,gt1,ef9=>if x5 < (ef8.length:Int) then(if 0<=x5 then(if x5 < (ef9.length:Int) then((Gl.f k ((Jc ef8 x5).f0) ((Jc ef8 x5).f1) ((Jc ef9 x5).f0) ((Jc ef9 x5).f1)).bind fun fd6=>(if fd6=true then(Ft.l0 k (wrap64 (x5 + 1)) gs8 gs9 ef8 gt0 gt1 ef9) else(some false))) else(none)) else(none)) else((Gl.f k gs8 gs9 gt0 gt1).bind fun fd7=>(some fd7))
def Ft.f (k:Nat) (ab:List Int) (aa:List (List Int)) (av:List (S25)) (cm:List Int) (cx:List (List Int)) (eb:List (S25)):Option (Bool):=if (av.length:Int)=(eb.length:Int) then(Ft.l0 k 0 ab aa av cm cx eb) else(some false)
def Ft.T6:Bool × List (List Nat × List Nat):=(true,[([],[]),([0],[0]),([],[]),([1,2],[1,2]),([3],[3]),([],[]),([5],[5]),([],[]),([6,7],[6,7]),([8],[8]),([4,9],[4,9]),([10],[10])])
def Ft.B6:List Nat:=[0,1,0,7,15,0,32,0,224,480,1023,2047]
theorem Ft.tab6:rtab .any (opsOf Try.f21 6)=Ft.T6:=by kernel_rfl
theorem Ft.bits6:waitsOk Ft.T6.2 Ft.B6=true:=by kernel_rfl
theorem at3 {p:Prop} (h:p:=by repeat(first|(with_reducible first|exact HB.out|apply G3|apply G2|apply G1|refine G0 ?_ gt2.out|refine G0 ?_ gt3.out)|exact HB.out)):p:=h
set_option maxHeartbeats 8000000 in
set_option maxRecDepth 100000 in
theorem Ft.calls (k:Nat) (ah:Option Addr) (af:Nat) (ab:List Int) (ao:Option Addr) (ai:Nat) (aa:List (List Int)) (cy:Option Addr) (cu:Nat) (av:List (S25)) (ff:Option Addr) (fj:Nat) (cm:List Int) (fx:Option Addr) (fy:Nat) (cx:List (List Int)) (i3:Option Addr) (iu:Nat) (eb:List (S25)) (r:Bool) (w:World) (d4:Kd.C (Kd.int .i64) w ah ab.length ab) (d9:ab.length<=af) (d5:Kd.C (Kd.slice 3 (Kd.int .i64)) w ao aa.length aa) (ea:aa.length<=ai) (l6:Kd.C k25 w cy av.length av) (l7:av.length<=cu) (zt:Kd.C (Kd.int .i64) w ff cm.length cm) (zu:cm.length<=fj) (zv:Kd.C (Kd.slice 3 (Kd.int .i64)) w fx cx.length cx) (zw:cx.length<=fy) (bx2:Kd.C k25 w i3 eb.length eb) (bx3:eb.length<=iu) (h:Ft.f k ab aa av cm cx eb=some r) :
  Calls Try.prog 21 #[.agg #[.slice ah ab.length af, .slice ao aa.length ai, .slice cy av.length cu], .agg #[.slice ff cm.length fj, .slice fx cx.length fy, .slice i3 eb.length iu]] w fun e w'=>e = .returned (.bool r)/\Below w.heap.size w w':=by
 have hu28:=Try.underlying28
 have hu25:=Try.underlying25
 have dp:=A_ d4
 have ec:=A_ d9
 clear d4 d9
 have df:=A_ d5
 have ee:=A_ ea
 clear d5 ea
 have m8:=A_ l6
 have re:=A_ l7
 clear l6 l7
 have ao5:=A_ zt
 have ba2:=A_ zu
 clear zt zu
 have ba3:=A_ zv
 have bm2:=A_ zw
 clear zv zw
 have de3:=A_ bx2
 have fd8:=A_ bx3
 clear bx2 bx3
 have HB:=A_ (Below.refl w.heap.size w)
 have H:=h
 unfold Ft.f at H
 clear h
 by_cases c3:(av.length:Int)=(eb.length:Int)
 case neg=>
  rw[if_neg c3] at H
  have nt:((av.length:Int) == (eb.length:Int))=false:=beq_eq_false_iff_ne.mpr c3
  have xz:((av.length:Int) != (eb.length:Int))=true:=bne_iff_ne.mpr c3
  have ac8:(av.length == eb.length)=false:=by first|simpa using c3|(simp at c3 |-;omega)
  obtain rfl:=Option.some.inj H
  go_enter Try.func21,Try.ntmps21
  go_wp2_with (first|((with_reducible refine gd_ 2 ?_);refine bx_ (N:=2) #[.slice ah ab.length af, .slice ao aa.length ai, .slice cy av.length cu] 28 ?_;intro wl hg w27 hbox hb;have lg:=A_ (hbox);have jf0:=A_ ((g44_:w.heap.size<=wl));have gt2:=jf0;replace HB:=hs_ (at3) hb;clear hb hbox hg)|((with_reducible refine gd_ 3 ?_);refine bx_ (N:=3) #[.slice ff cm.length fj, .slice fx cx.length fy, .slice i3 eb.length iu] 28 ?_;intro ac9 hg w28 hbox hb;have ou:=A_ (hbox);have jf1:=A_ ((g44_:w.heap.size<=ac9));have gt3:=jf1;replace HB:=hs_ (at3) hb;have cu7:=nl_ lg hg;have cu8:=nr_ lg hg;replace lg:=bb_ lg hb;clear hb hbox hg;have cu9:=cu7.out;have cv0:=cu8.out;obtain⟨cg6,cg7,eg6,cg8,cg9,eg7⟩:=blk3_ lg;obtain⟨ch0,ch1,dh6,ch2,ch3,dh7⟩:=blk3_ ou))
  go_ret
  exact⟨g4_,at3⟩
 rw[if_pos c3] at H
 have nt:((av.length:Int) == (eb.length:Int))=true:=beq_iff_eq.mpr c3
 have xz:((av.length:Int) != (eb.length:Int))=false:=bne_eq_false_iff_eq.mpr c3
 have ac8:(av.length == eb.length)=true:=by first|simpa using c3|(simp at c3 |-;omega)
 clear c3
 have H':=A_ H
 clear H
 go_enter Try.func21,Try.ntmps21
 go_wp2_with (first|((with_reducible refine gd_ 2 ?_);refine bx_ (N:=2) #[.slice ah ab.length af, .slice ao aa.length ai, .slice cy av.length cu] 28 ?_;intro wl hg w4 hbox hb;have lg:=A_ (hbox);have jf0:=A_ ((g44_:w.heap.size<=wl));have gt2:=jf0;replace HB:=hs_ (at3) hb;clear hb hbox hg)|((with_reducible refine gd_ 3 ?_);refine bx_ (N:=3) #[.slice ff cm.length fj, .slice fx cx.length fy, .slice i3 eb.length iu] 28 ?_;intro ac9 hg w5 hbox hb;have ou:=A_ (hbox);have jf1:=A_ ((g44_:w.heap.size<=ac9));have gt3:=jf1;replace HB:=hs_ (at3) hb;have cu7:=nl_ lg hg;have cu8:=nr_ lg hg;replace lg:=bb_ lg hb;clear hb hbox hg;have gt4:=cu7.out;have gt5:=cu8.out;obtain⟨ad2,ad3,jf2,ad4,ad5,jf3⟩:=blk3_ lg;obtain⟨at9,au0,gt6,au1,au2,gt7⟩:=blk3_ ou))
 go_loopg [5] k (fun kq v5 w'=>∃(bj:Int),v5 = .int .i64 bj/\Gx (Ft.l0 kq bj ab aa av cm cx eb=some r)/\Gx (kq<=k)/\Gx (hc_ w' wl #[(.slice ah ab.length af),(.slice ao aa.length ai),(.slice cy av.length cu)] 28)/\Gx (hc_ w' ac9 #[(.slice ff cm.length fj),(.slice fx cx.length fy),(.slice i3 eb.length iu)] 28)/\Gx (Below w.heap.size w w'))
 case atStart=>exact⟨(0),(g3_),H',⟨Nat.le_refl _⟩,⟨uB_ lg⟩,⟨uB_ ou⟩,⟨at3⟩⟩
 clear H'
 obtain⟨bj,rfl,HA,HK1,lg,ou,HB⟩:=hrel
 cases gk with
 | zero=>exact absurd HA.out (by simp[Ft.l0])
 | succ k1=>?_
 have H:=HA.out
 clear HA
 simp only[Ft.l0] at H
 by_cases c9:bj < (av.length:Int)
 case neg=>
  rw[if_neg c9] at H
  have cg2:=decide_eq_false c9
  clear c9
  obtain⟨fd7,A22,H⟩:=bind_ H
  obtain rfl:=Option.some.inj H
  have fe5:=cu7.out
  have fe6:=cu8.out
  obtain⟨fe7,fe8,me3,fe9,ff0,me4⟩:=blk3_ lg
  obtain⟨eg2,eg3,gt8,eg4,eg5,gt9⟩:=blk3_ ou
  go_wp2_with (first|((with_reducible refine gc_ 40 ?_);refine gl_ 36 Try.func40 #[.agg #[.slice ah ab.length af, .slice ao aa.length ai], .agg #[.slice ff cm.length fj, .slice fx cx.length fy]] ?_;(refine(Gl.calls k1 _ _ ab _ _ aa _ _ cm _ _ cx fd7 _ (uC_ dp) ec.out (uC_ df) ee.out (uC_ ao5) ba2.out (uC_ ba3) bm2.out A22.out).mono ?_);rintro e w26 ⟨rfl,hb⟩;refine⟨_,rfl,?_⟩;replace lg:=bb_ lg hb;replace ou:=bb_ ou hb;replace HB:=hs_ (at3) hb))
  go_ret
  exact⟨g4_,at3⟩
 rw[if_pos c9] at H
 have cg2:=decide_eq_true c9
 clear c9
 obtain⟨zx,H⟩:=pd_ H
 obtain⟨bm4,H⟩:=pd_ H
 obtain⟨fd6,A12,H⟩:=bind_ H
 by_cases qg:fd6=true
 ·subst qg
  replace H:=ifp_ H
  have H':=A_ H
  clear H
  have eg0:=cu7.out
  have eg1:=cu8.out
  obtain⟨bw8,bw9,me1,bx0,bx1,me2⟩:=blk3_ lg
  try go_wp2
  replace lg:=bd_ lg
  replace ou:=bd_ ou
  replace HB:=A_ (G1 HB.out)
  have cg3:0<=(bj:Int):=od_
  have cg4:bj < (av.length:Int):=od_
  obtain⟨bm5,de4,de5,de6,de7,fd9,bm6,bm7,de8,de9,df0,df1⟩:=at_T25 m8.out bj cg3 cg4
  have df2:=bm7
  have df3:=bm6
  cases fd9
  replace bm6:=cl_ HB bm6
  replace bm7:=cl_ HB bm7
  have df4:=A_ de9
  have fe0:=A_ de8
  clear de9 de8
  have df5:=A_ df1
  have fe1:=A_ df0
  clear df1 df0
  replace cg3:=eq_true cg3
  replace cg4:=eq_true cg4
  have cg5:0<=(bj:Int):=od_
  have ba5:bj < (eb.length:Int):=od_
  obtain⟨bm8,df6,df7,df8,df9,fe2,bm9,bn0,dg0,dg1,dg2,dg3⟩:=at_T25 de3.out bj cg5 ba5
  have dg4:=bn0
  have dg5:=bm9
  cases fe2
  replace bm9:=cl_ HB bm9
  replace bn0:=cl_ HB bn0
  have dg6:=A_ dg1
  have fe3:=A_ dg0
  clear dg1 dg0
  have dg7:=A_ dg3
  have fe4:=A_ dg2
  clear dg3 dg2
  replace cg5:=eq_true cg5
  replace ba5:=eq_true ba5
  refine start_ (n:=12) (S:=fun w'=>w'.cell? ⟨wl,0,none⟩=some (.slice ah ab.length af)/\w'.cell? ⟨wl,1,none⟩=some (.slice ao aa.length ai)/\w'.cell? ⟨wl,2,none⟩=some (.slice (some bm5) av.length cu)/\w'.cell? ⟨ac9,0,none⟩=some (.slice ff cm.length fj)/\w'.cell? ⟨ac9,1,none⟩=some (.slice fx cx.length fy)/\w'.cell? ⟨ac9,2,none⟩=some (.slice (some bm8) eb.length iu)/\w'.cell? (bm5.add ((bj).toNat * 2))=some (.slice de4 ((Jc av bj).f0).length de5)/\w'.cell? ⟨(bm5.add ((bj).toNat * 2)).block,(bm5.add ((bj).toNat * 2)).off + 1,none⟩=some (.slice de6 ((Jc av bj).f1).length de7)/\w'.cell? (bm8.add ((bj).toNat * 2))=some (.slice df6 ((Jc eb bj).f0).length df7)/\w'.cell? ⟨(bm8.add ((bj).toNat * 2)).block,(bm8.add ((bj).toNat * 2)).off + 1,none⟩=some (.slice df8 ((Jc eb bj).f1).length df9)) (ds:=[]) (tl_ 12 0) (g0_) rfl (g0_) ⟨(Gy lg.out 0).trans rfl,(Gy lg.out 1).trans rfl,(Gy lg.out 2).trans rfl,(Gy ou.out 0).trans rfl,(Gy ou.out 1).trans rfl,(Gy ou.out 2).trans rfl,((cl_ HB df3).trans rfl),((cl_ HB df2).trans rfl),((cl_ HB dg5).trans rfl),((cl_ HB dg4).trans rfl)⟩ (fun hHeld=>?_);refine Jl Ft.tab6 Ft.bits6 (fun HT_ HW_=>?_)
  generalize wr.drew=mt at lg ou HB df4 df5 dg6 dg7 bm6 bm7 bm9 bn0 hHeld |-
  refine pw_ 0 20 (tl_ 12 1) ?_
  refine pw_ 2 22 (tl_ 12 5) ?_
  refine pw_ 5 25 (tl_ 12 37) ?_
  refine pw_ 7 27 (tl_ 12 165) ?_
  refine tk0_ 1 21 (tl_ 12 167) hHeld ?_
  refine pw_ 3 23 (tl_ 12 175) ?_
  refine tk0_ 4 24 (tl_ 12 191) hHeld ?_
  refine tk0_ 6 26 (tl_ 12 255) hHeld ?_
  refine pw_ 8 28 (tl_ 12 511) ?_
  refine tk0_ 9 29 (tl_ 12 1023) hHeld ?_
  refine one_ (i:=10) (N:=some 30) (tl_ 12 2047) rfl rfl (Jn HT_.out (g0_)) (by decide) (fun K hK=>?_)
  refine goes_ Try.func40 (g0_) rfl #[.agg #[.slice de4 ((Jc av bj).f0).length de5, .slice de6 ((Jc av bj).f1).length de7], .agg #[.slice df6 ((Jc eb bj).f0).length df7, .slice df8 ((Jc eb bj).f1).length df9]] (by rfl) rfl rfl (gM_) ?_
  refine(Gl.calls k1 _ _ ((Jc av bj).f0) _ _ ((Jc av bj).f1) _ _ ((Jc eb bj).f0) _ _ ((Jc eb bj).f1) true _ (uC_ df4) fe0.out (uC_ df5) fe1.out (uC_ dg6) fe3.out (uC_ dg7) fe4.out A12.out).mono ?_
  rintro e ov ⟨rfl,hb⟩
  refine⟨_,rfl,?_⟩
  replace lg:=bb_ lg hb
  replace ou:=bb_ ou hb
  replace HB:=hs_ (at3) hb
  refine hK.out _ _ ⟨(Gy lg.out 0).trans rfl,(Gy lg.out 1).trans rfl,(Gy lg.out 2).trans rfl,(Gy ou.out 0).trans rfl,(Gy ou.out 1).trans rfl,(Gy ou.out 2).trans rfl,((cl_ HB df3).trans rfl),((cl_ HB df2).trans rfl),((cl_ HB dg5).trans rfl),((cl_ HB dg4).trans rfl)⟩ (fun hHeld=>?_)
  clear hK K
  refine nm_ ?_
  refine pw_ 11 31 (tl_ 12 4095) ?_
  refine done_ (done_of HT_.out (g0_)) ?_
  try go_wp2
  go_roundg k1
  case measure=>have:=HK1.out;omega
  case rel=>exact⟨(wrap64 (bj + 1)),(g3_),H',⟨g17_⟩,⟨uB_ lg⟩,⟨uB_ ou⟩,⟨at3⟩⟩
 replace qg:=Bool.eq_false_iff.mpr qg
 subst qg
 replace H:=ifn_ H
 obtain rfl:=Option.some.inj H
 have dg8:=cu7.out
 have dg9:=cu8.out
 obtain⟨dh0,dh1,dh2,dh3,dh4,dh5⟩:=blk3_ lg
 try go_wp2
 replace lg:=bd_ lg
 replace ou:=bd_ ou
 replace HB:=A_ (G1 HB.out)
 have cg3:0<=(bj:Int):=od_
 have cg4:bj < (av.length:Int):=od_
 obtain⟨bm5,de4,de5,de6,de7,fd9,bm6,bm7,de8,de9,df0,df1⟩:=at_T25 m8.out bj cg3 cg4
 have df2:=bm7
 have df3:=bm6
 cases fd9
 replace bm6:=cl_ HB bm6
 replace bm7:=cl_ HB bm7
 have df4:=A_ de9
 have fe0:=A_ de8
 clear de9 de8
 have df5:=A_ df1
 have fe1:=A_ df0
 clear df1 df0
 replace cg3:=eq_true cg3
 replace cg4:=eq_true cg4
 have cg5:0<=(bj:Int):=od_
 have ba5:bj < (eb.length:Int):=od_
 obtain⟨bm8,df6,df7,df8,df9,fe2,bm9,bn0,dg0,dg1,dg2,dg3⟩:=at_T25 de3.out bj cg5 ba5
 have dg4:=bn0
 have dg5:=bm9
 cases fe2
 replace bm9:=cl_ HB bm9
 replace bn0:=cl_ HB bn0
 have dg6:=A_ dg1
 have fe3:=A_ dg0
 clear dg1 dg0
 have dg7:=A_ dg3
 have fe4:=A_ dg2
 clear dg3 dg2
 replace cg5:=eq_true cg5
 replace ba5:=eq_true ba5
 refine start_ (n:=12) (S:=fun w'=>w'.cell? ⟨wl,0,none⟩=some (.slice ah ab.length af)/\w'.cell? ⟨wl,1,none⟩=some (.slice ao aa.length ai)/\w'.cell? ⟨wl,2,none⟩=some (.slice (some bm5) av.length cu)/\w'.cell? ⟨ac9,0,none⟩=some (.slice ff cm.length fj)/\w'.cell? ⟨ac9,1,none⟩=some (.slice fx cx.length fy)/\w'.cell? ⟨ac9,2,none⟩=some (.slice (some bm8) eb.length iu)/\w'.cell? (bm5.add ((bj).toNat * 2))=some (.slice de4 ((Jc av bj).f0).length de5)/\w'.cell? ⟨(bm5.add ((bj).toNat * 2)).block,(bm5.add ((bj).toNat * 2)).off + 1,none⟩=some (.slice de6 ((Jc av bj).f1).length de7)/\w'.cell? (bm8.add ((bj).toNat * 2))=some (.slice df6 ((Jc eb bj).f0).length df7)/\w'.cell? ⟨(bm8.add ((bj).toNat * 2)).block,(bm8.add ((bj).toNat * 2)).off + 1,none⟩=some (.slice df8 ((Jc eb bj).f1).length df9)) (ds:=[]) (tl_ 12 0) (g0_) rfl (g0_) ⟨(Gy lg.out 0).trans rfl,(Gy lg.out 1).trans rfl,(Gy lg.out 2).trans rfl,(Gy ou.out 0).trans rfl,(Gy ou.out 1).trans rfl,(Gy ou.out 2).trans rfl,((cl_ HB df3).trans rfl),((cl_ HB df2).trans rfl),((cl_ HB dg5).trans rfl),((cl_ HB dg4).trans rfl)⟩ (fun hHeld=>?_);refine Jl Ft.tab6 Ft.bits6 (fun HT_ HW_=>?_)
 generalize wr.drew=j4 at lg ou HB df4 df5 dg6 dg7 bm6 bm7 bm9 bn0 hHeld |-
 refine pw_ 0 20 (tl_ 12 1) ?_
 refine pw_ 2 22 (tl_ 12 5) ?_
 refine pw_ 5 25 (tl_ 12 37) ?_
 refine pw_ 7 27 (tl_ 12 165) ?_
 refine tk0_ 1 21 (tl_ 12 167) hHeld ?_
 refine pw_ 3 23 (tl_ 12 175) ?_
 refine tk0_ 4 24 (tl_ 12 191) hHeld ?_
 refine tk0_ 6 26 (tl_ 12 255) hHeld ?_
 refine pw_ 8 28 (tl_ 12 511) ?_
 refine tk0_ 9 29 (tl_ 12 1023) hHeld ?_
 refine one_ (i:=10) (N:=some 30) (tl_ 12 2047) rfl rfl (Jn HT_.out (g0_)) (by decide) (fun K hK=>?_)
 refine goes_ Try.func40 (g0_) rfl #[.agg #[.slice de4 ((Jc av bj).f0).length de5, .slice de6 ((Jc av bj).f1).length de7], .agg #[.slice df6 ((Jc eb bj).f0).length df7, .slice df8 ((Jc eb bj).f1).length df9]] (by rfl) rfl rfl (gM_) ?_
 refine(Gl.calls k1 _ _ ((Jc av bj).f0) _ _ ((Jc av bj).f1) _ _ ((Jc eb bj).f0) _ _ ((Jc eb bj).f1) false _ (uC_ df4) fe0.out (uC_ df5) fe1.out (uC_ dg6) fe3.out (uC_ dg7) fe4.out A12.out).mono ?_
 rintro e mu ⟨rfl,hb⟩
 refine⟨_,rfl,?_⟩
 replace lg:=bb_ lg hb
 replace ou:=bb_ ou hb
 replace HB:=hs_ (at3) hb
 refine hK.out _ _ ⟨(Gy lg.out 0).trans rfl,(Gy lg.out 1).trans rfl,(Gy lg.out 2).trans rfl,(Gy ou.out 0).trans rfl,(Gy ou.out 1).trans rfl,(Gy ou.out 2).trans rfl,((cl_ HB df3).trans rfl),((cl_ HB df2).trans rfl),((cl_ HB dg5).trans rfl),((cl_ HB dg4).trans rfl)⟩ (fun hHeld=>?_)
 clear hK K
 refine nm_ ?_
 refine pw_ 11 31 (tl_ 12 4095) ?_
 refine done_ (done_of HT_.out (g0_)) ?_
 try go_wp2
 go_ret
 exact⟨g4_,at3⟩
def Gw.f (k:Nat) (ab:List Int) (aa:List (List Int)) (av:List (S25)):Option (Bool):=(Ft.f k ab aa av ([]:List Int) ([]:List (List Int)) ([]:List (S25))).bind fun dh8=>(some dh8)
theorem ee9 {p:Prop} (h:p:=by repeat(first|(with_reducible first|exact HB.out|apply G3|apply G2|apply G1|refine G0 ?_ jf4.out)|exact HB.out)):p:=h
set_option maxHeartbeats 8000000 in
set_option maxRecDepth 100000 in
theorem Gw.calls (k:Nat) (ah:Option Addr) (af:Nat) (ab:List Int) (ao:Option Addr) (ai:Nat) (aa:List (List Int)) (cy:Option Addr) (cu:Nat) (av:List (S25)) (r:Bool) (w:World) (d4:Kd.C (Kd.int .i64) w ah ab.length ab) (d9:ab.length<=af) (d5:Kd.C (Kd.slice 3 (Kd.int .i64)) w ao aa.length aa) (ea:aa.length<=ai) (l6:Kd.C k25 w cy av.length av) (l7:av.length<=cu) (h:Gw.f k ab aa av=some r) :
  Calls Try.prog 22 #[.agg #[.slice ah ab.length af, .slice ao aa.length ai, .slice cy av.length cu]] w fun e w'=>e = .returned (.bool r)/\Below w.heap.size w w':=by
 have hu28:=Try.underlying28
 have dp:=A_ d4
 have ec:=A_ d9
 clear d4 d9
 have df:=A_ d5
 have ee:=A_ ea
 clear d5 ea
 have m8:=A_ l6
 have re:=A_ l7
 clear l6 l7
 have HB:=A_ (Below.refl w.heap.size w)
 have H:=h
 unfold Gw.f at H
 clear h
 obtain⟨dh8,A2,H⟩:=bind_ H
 obtain rfl:=Option.some.inj H
 go_enter Try.func22,Try.ntmps22
 go_wp2_with (first|((with_reducible refine gd_ 1 ?_);refine bx_ (N:=1) #[.slice ah ab.length af, .slice ao aa.length ai, .slice cy av.length cu] 28 ?_;intro gu0 hg w3 hbox hb;have ff1:=A_ (hbox);have me5:=A_ ((by rw[hg];exact(Gz (ee9)):w.heap.size<=gu0));have jf4:=me5;replace HB:=hs_ (ee9) hb;clear hb hbox hg;obtain⟨ba6,ba7,ff2,ch4,bn1,jf5⟩:=blk3_ ff1)|((with_reducible refine gc_ 21 ?_);refine gl_ 5 Try.func21 #[.agg #[.slice ah ab.length af, .slice ao aa.length ai, .slice cy av.length cu], .agg #[.slice none 0 0, .slice none 0 0, .slice none 0 0]] ?_;(refine(Ft.calls k _ _ ab _ _ aa _ _ av _ _ ([]:List Int) _ _ ([]:List (List Int)) _ _ ([]:List (S25)) dh8 _ ?side1 ?side2 ?side3 ?side4 ?side5 ?side6 ?side7 ?side8 ?side9 ?side10 ?side11 ?side12 A2.out).mono ?_);(case side1=>exact uC_ dp);(case side2=>exact ec.out);(case side3=>exact uC_ df);(case side4=>exact ee.out);(case side5=>exact uC_ m8);(case side6=>exact re.out);(case side7=>exact Kd.C_nil _ _);(case side8=>exact Nat.le_refl _);(case side9=>exact Kd.C_nil _ _);(case side10=>exact Nat.le_refl _);(case side11=>exact Kd.C_nil _ _);(case side12=>exact Nat.le_refl _);rintro e w5 ⟨rfl,hb⟩;refine⟨_,rfl,?_⟩;replace ff1:=bb_ ff1 hb;replace HB:=hs_ (ee9) hb))
 go_ret
 exact⟨g4_,ee9⟩
def Gr.f (a0:Int):Option (Bool):=if a0 ≥ (-1000000000) then(some (decide (a0<=1000000000))) else(some false)
set_option maxHeartbeats 8000000 in
set_option maxRecDepth 100000 in
theorem Gr.calls (a0:Int) (r:Bool) (w:World) (h:Gr.f a0=some r) :
  Calls Try.prog 125 #[.int .i64 a0] w fun e w'=>e = .returned (.bool r)/\Drawn0 w w':=by
 have H:=h
 unfold Gr.f at H
 clear h
 by_cases c2:a0 ≥ (-1000000000)
 ·rw[if_pos c2] at H
  have bn2:=decide_eq_true c2
  clear c2
  obtain rfl:=Option.some.inj H
  go_enter Try.func125,Try.ntmps125
  go_wp2
  go_ret
  exact⟨g3_,g5_⟩
 rw[if_neg c2] at H
 have bn2:=decide_eq_false c2
 clear c2
 obtain rfl:=Option.some.inj H
 go_enter Try.func125,Try.ntmps125
 go_wp2
 go_ret
 exact⟨g3_,g5_⟩
def Gd.l0:Nat->Int->Int->Option (Int)
 | 0,_,_=>none
 | k + 1,x0,x1=>if x1=0 then(some (mx x0 (wrap64 (-x0)))) else(Gd.l0 k x1 (Int.tmod x0 x1))
def Gd.f (k:Nat) (a0:Int) (a1:Int):Option (Int):=Gd.l0 k a0 a1
theorem Gd.mq {p:Prop} (h:p:=by
 repeat' first
 | (with_reducible exact ih0 _ _)
 | (with_reducible exact LeO.refl _)
 | (with_reducible exact LeO.none _)
 | (with_reducible refine LeO.ite ?_ ?_)
 | (with_reducible refine LeO.bind ?_ (fun _=>?_))
 | exact ih0 _ _
 | exact LeO.none _
 | refine LeO.ite ?_ ?_
 | refine LeO.bind ?_ (fun _=>?_)):p:=h
theorem Gd.mono_l:∀k,(∀y0 y1,LeO (Gd.l0 k y0 y1) (Gd.l0 (k + 1) y0 y1))
 | 0=>fun _ _ r h=>by simp[Gd.l0] at h
 | k + 1=>by
  have ih0:=Gd.mono_l k
  ·intro y0 y1
   unfold Gd.l0
   exact Gd.mq
theorem Gd.mono:∀a0 a1 k,LeO (Gd.f k a0 a1) (Gd.f (k + 1) a0 a1):=by
 intro a0 a1 k
 have ih0:=Gd.mono_l k
 unfold Gd.f
 exact Gd.mq
theorem gs1 {p:Prop} (h:p:=by repeat(first|(with_reducible first|exact HB.out|apply G3|apply G2|apply G1)|exact HB.out)):p:=h
set_option maxHeartbeats 8000000 in
set_option maxRecDepth 100000 in
theorem Gd.calls (k:Nat) (a0:Int) (a1:Int) (r:Int) (w:World) (h:Gd.f k a0 a1=some r) :
  Calls Try.prog 126 #[.int .i64 a0, .int .i64 a1] w fun e w'=>e = .returned (.int .i64 r)/\Below w.heap.size w w':=by
 have HB:=A_ (Below.refl w.heap.size w)
 have H:(Gd.l0 k a0 a1)=some r:=h
 clear h
 have H':=A_ H
 clear H
 go_enter Try.func126,Try.ntmps126
 go_wp2
 repeat(go_quiet (fail);try go_wp2)
 go_loopg [0,1] k (fun kq v0 v1 w'=>∃(bh5:Int) (bh6:Int),v0 = .int .i64 bh5/\v1 = .int .i64 bh6/\Gx (Gd.l0 kq bh5 bh6=some r)/\Gx (kq<=k)/\Gx (Below w.heap.size w w'))
 case atStart=>exact⟨(a0),(a1),(g3_),(g3_),H',⟨Nat.le_refl _⟩,⟨gs1⟩⟩
 clear H'
 obtain⟨bh5,bh6,rfl,rfl,HA,HK1,HB⟩:=hrel
 cases gk with
 | zero=>exact absurd HA.out (by simp[Gd.l0])
 | succ k1=>?_
 have H:=HA.out
 clear HA
 simp only[Gd.l0] at H
 by_cases c3:bh6=0
 ·rw[if_pos c3] at H
  have nt:(bh6 == 0)=true:=beq_iff_eq.mpr c3
  have xz:(bh6 != 0)=false:=bne_eq_false_iff_eq.mpr c3
  clear c3
  obtain⟨ji4,hji4⟩:∃j_:Int,(mx bh5 (wrap64 (-bh5)))=j_:=⟨_,rfl⟩
  first|rw[hji4] at H|simp only[hji4] at H
  have hji4_:(if bh5 < (wrap64 (-bh5)) then(wrap64 (-bh5)) else bh5)=ji4:=hji4
  obtain rfl:=Option.some.inj H
  go_wp2
  repeat(go_quiet (fail);try go_wp2)
  go_ret
  exact⟨by first|rfl|(simp[errW_none,errW_some] <;> rfl)|(simp only[<- hji4];first|rfl|(simp[errW_none,errW_some] <;> rfl))|(simp[*,errW_none,errW_some] <;> rfl),gs1⟩
 rw[if_neg c3] at H
 have nt:(bh6 == 0)=false:=beq_eq_false_iff_ne.mpr c3
 have xz:(bh6 != 0)=true:=bne_iff_ne.mpr c3
 have H':=A_ H
 clear H
 go_wp2
 repeat(go_quiet (fail);try go_wp2)
 go_roundg k1
 case measure=>have:=HK1.out;omega
 case rel=>exact⟨(bh6),(Int.tmod bh5 bh6),(g3_),(g3_),H',⟨g17_⟩,⟨gs1⟩⟩
def Gm.f (k:Nat) (pm:Int) (r0:Int):Option (Bool):=(Gr.f pm).bind fun dh9=>(if dh9=true then(if r0 ≥ 1 then(if r0<=1000000000 then((Gd.f k pm r0).bind fun di0=>(some (di0 == 1))) else(some false)) else(some false)) else(some false))
theorem Gm.mq {p:Prop} (h:p:=by
 repeat' first
 | (with_reducible exact Gd.mono _ _ _)
 | (with_reducible exact LeO.refl _)
 | (with_reducible exact LeO.none _)
 | (with_reducible refine LeO.ite ?_ ?_)
 | (with_reducible refine LeO.bind ?_ (fun _=>?_))
 | exact Gd.mono _ _ _
 | exact LeO.none _
 | refine LeO.ite ?_ ?_
 | refine LeO.bind ?_ (fun _=>?_)):p:=h
theorem Gm.mono:∀a0 a1 k,LeO (Gm.f k a0 a1) (Gm.f (k + 1) a0 a1):=by
 intro a0 a1 k
 unfold Gm.f
 exact Gm.mq
theorem bm0 {p:Prop} (h:p:=by repeat(first|(with_reducible first|exact HB.out|apply G3|apply G2|apply G1|refine G0 ?_ eg8.out)|exact HB.out)):p:=h
set_option maxHeartbeats 8000000 in
set_option maxRecDepth 100000 in
theorem Gm.calls (k:Nat) (pm:Int) (r0:Int) (r:Bool) (w:World) (h:Gm.f k pm r0=some r) :
  Calls Try.prog 108 #[.agg #[.int .i64 pm, .int .i64 r0]] w fun e w'=>e = .returned (.bool r)/\Below w.heap.size w w':=by
 have hu93:=Try.underlying93
 have HB:=A_ (Below.refl w.heap.size w)
 have H:=h
 unfold Gm.f at H
 clear h
 obtain⟨dh9,A2,H⟩:=bind_ H
 by_cases c3:dh9=true
 case neg=>
  replace c3:=Bool.eq_false_iff.mpr c3
  subst c3
  replace H:=ifn_ H
  obtain rfl:=Option.some.inj H
  go_enter Try.func108,Try.ntmps108
  go_wp2_with (first|((with_reducible refine gd_ 1 ?_);refine bx_ (N:=1) #[.int .i64 pm, .int .i64 r0] 93 ?_;intro ba8 hg w14 hbox hb;have bn3:=A_ (hbox);have ff3:=A_ ((g45_:w.heap.size<=ba8));have eg8:=ff3;replace HB:=hs_ (bm0) hb;clear hb hbox hg;obtain⟨bw8,bw9,bx0,bx1⟩:=blk2_ bn3)|((with_reducible refine gc_ 125 ?_);refine gl_ 5 Try.func125 #[.int .i64 pm] ?_;(with_reducible refine(Gr.calls pm false _ A2.out).mono ?_);rintro e w' ⟨rfl,⟨nd,rfl⟩⟩;refine⟨_,rfl,?_⟩))
  go_ret
  exact⟨g4_,bm0⟩
 subst c3
 replace H:=ifp_ H
 by_cases c4:r0 ≥ 1
 case neg=>
  rw[if_neg c4] at H
  have qh:=decide_eq_false c4
  clear c4
  obtain rfl:=Option.some.inj H
  go_enter Try.func108,Try.ntmps108
  go_wp2_with (first|((with_reducible refine gd_ 1 ?_);refine bx_ (N:=1) #[.int .i64 pm, .int .i64 r0] 93 ?_;intro ba8 hg w12 hbox hb;have bn3:=A_ (hbox);have ff3:=A_ ((g45_:w.heap.size<=ba8));have eg8:=ff3;replace HB:=hs_ (bm0) hb;clear hb hbox hg;obtain⟨zy,zz,z8,z9⟩:=blk2_ bn3)|((with_reducible refine gc_ 125 ?_);refine gl_ 5 Try.func125 #[.int .i64 pm] ?_;(with_reducible refine(Gr.calls pm true _ A2.out).mono ?_);rintro e w' ⟨rfl,⟨nd,rfl⟩⟩;refine⟨_,rfl,?_⟩))
  go_ret
  exact⟨g4_,bm0⟩
 rw[if_pos c4] at H
 have qh:=decide_eq_true c4
 clear c4
 by_cases c5:r0<=1000000000
 ·rw[if_pos c5] at H
  have j9:=decide_eq_true c5
  clear c5
  obtain⟨di0,A6,H⟩:=bind_ H
  obtain rfl:=Option.some.inj H
  go_enter Try.func108,Try.ntmps108
  go_wp2_with (first|((with_reducible refine gd_ 1 ?_);refine bx_ (N:=1) #[.int .i64 pm, .int .i64 r0] 93 ?_;intro ba8 hg w7 hbox hb;have bn3:=A_ (hbox);have ff3:=A_ ((g45_:w.heap.size<=ba8));have eg8:=ff3;replace HB:=hs_ (bm0) hb;clear hb hbox hg;obtain⟨at9,au0,au1,au2⟩:=blk2_ bn3)|((with_reducible refine gc_ 125 ?_);refine gl_ 5 Try.func125 #[.int .i64 pm] ?_;(with_reducible refine(Gr.calls pm true _ A2.out).mono ?_);rintro e w' ⟨rfl,⟨nd,rfl⟩⟩;refine⟨_,rfl,?_⟩)|(go_at_call 126;(with_reducible refine(Gd.calls k pm r0 di0 _ A6.out).mono ?_);rintro e w9 ⟨rfl,hb⟩;replace bn3:=bb_ bn3 hb;replace HB:=hs_ (bm0) hb))
  go_ret
  exact⟨g4_,bm0⟩
 rw[if_neg c5] at H
 have j9:=decide_eq_false c5
 clear c5
 obtain rfl:=Option.some.inj H
 go_enter Try.func108,Try.ntmps108
 go_wp2_with (first|((with_reducible refine gd_ 1 ?_);refine bx_ (N:=1) #[.int .i64 pm, .int .i64 r0] 93 ?_;intro ba8 hg w10 hbox hb;have bn3:=A_ (hbox);have ff3:=A_ ((g45_:w.heap.size<=ba8));have eg8:=ff3;replace HB:=hs_ (bm0) hb;clear hb hbox hg;obtain⟨au3,au4,au5,au6⟩:=blk2_ bn3)|((with_reducible refine gc_ 125 ?_);refine gl_ 5 Try.func125 #[.int .i64 pm] ?_;(with_reducible refine(Gr.calls pm true _ A2.out).mono ?_);rintro e w' ⟨rfl,⟨nd,rfl⟩⟩;refine⟨_,rfl,?_⟩))
 go_ret
 exact⟨g4_,bm0⟩
def Gh.f (k:Nat) (pm:Int) (r0:Int):Option (Bool):=(Gm.f k pm r0).bind fun di1=>(some di1)
theorem Gh.mq {p:Prop} (h:p:=by
 repeat' first
 | (with_reducible exact Gm.mono _ _ _)
 | (with_reducible exact LeO.refl _)
 | (with_reducible exact LeO.none _)
 | (with_reducible refine LeO.ite ?_ ?_)
 | (with_reducible refine LeO.bind ?_ (fun _=>?_))
 | exact Gm.mono _ _ _
 | exact LeO.none _
 | refine LeO.ite ?_ ?_
 | refine LeO.bind ?_ (fun _=>?_)):p:=h
theorem Gh.mono:∀a0 a1 k,LeO (Gh.f k a0 a1) (Gh.f (k + 1) a0 a1):=by
 intro a0 a1 k
 unfold Gh.f
 exact Gh.mq
theorem ef0 {p:Prop} (h:p:=by repeat(first|(with_reducible first|exact HB.out|apply G3|apply G2|apply G1|refine G0 ?_ jf6.out)|exact HB.out)):p:=h
set_option maxHeartbeats 8000000 in
set_option maxRecDepth 100000 in
theorem Gh.calls (k:Nat) (pm:Int) (r0:Int) (r:Bool) (w:World) (h:Gh.f k pm r0=some r) :
  Calls Try.prog 71 #[.agg #[.int .i64 pm, .int .i64 r0]] w fun e w'=>e = .returned (.bool r)/\Below w.heap.size w w':=by
 have hu93:=Try.underlying93
 have HB:=A_ (Below.refl w.heap.size w)
 have H:=h
 unfold Gh.f at H
 clear h
 obtain⟨di1,A2,H⟩:=bind_ H
 obtain rfl:=Option.some.inj H
 go_enter Try.func71,Try.ntmps71
 go_wp2_with (first|((with_reducible refine gd_ 1 ?_);refine bx_ (N:=1) #[.int .i64 pm, .int .i64 r0] 93 ?_;intro gu1 hg w3 hbox hb;have ff4:=A_ (hbox);have me6:=A_ ((by rw[hg];exact(Gz (ef0)):w.heap.size<=gu1));have jf6:=me6;replace HB:=hs_ (ef0) hb;clear hb hbox hg;obtain⟨ba6,ba7,ch4,bn1⟩:=blk2_ ff4)|((with_reducible refine gc_ 108 ?_);refine gl_ 4 Try.func108 #[.agg #[.int .i64 pm, .int .i64 r0]] ?_;(with_reducible refine(Gm.calls k pm r0 di1 _ A2.out).mono ?_);rintro e w5 ⟨rfl,hb⟩;refine⟨_,rfl,?_⟩;replace ff4:=bb_ ff4 hb;replace HB:=hs_ (ef0) hb))
 go_ret
 exact⟨g4_,ef0⟩
def Gp.f (k:Nat):Option (Bool):=(Gh.f k 1 2).bind fun di2=>(if di2=true then((Gh.f k 2 4).bind fun di3=>(some (!di3))) else(some false))
theorem Gp.mq {p:Prop} (h:p:=by
 repeat' first
 | (with_reducible exact Gh.mono _ _ _)
 | (with_reducible exact LeO.refl _)
 | (with_reducible exact LeO.none _)
 | (with_reducible refine LeO.ite ?_ ?_)
 | (with_reducible refine LeO.bind ?_ (fun _=>?_))
 | exact Gh.mono _ _ _
 | exact LeO.none _
 | refine LeO.ite ?_ ?_
 | refine LeO.bind ?_ (fun _=>?_)):p:=h
theorem Gp.mono:∀k,LeO (Gp.f k) (Gp.f (k + 1)):=by
 intro  k
 unfold Gp.f
 exact Gp.mq
theorem ef1 {p:Prop} (h:p:=by repeat(first|(with_reducible first|exact HB.out|apply G3|apply G2|apply G1)|exact HB.out)):p:=h
set_option maxHeartbeats 8000000 in
set_option maxRecDepth 100000 in
theorem Gp.calls (k:Nat)  (r:Bool) (w:World) (h:Gp.f k=some r) :
  Calls Try.prog 23 #[] w fun e w'=>e = .returned (.bool r)/\Below w.heap.size w w':=by
 have hu93:=Try.underlying93
 have HB:=A_ (Below.refl w.heap.size w)
 have H:=h
 unfold Gp.f at H
 clear h
 obtain⟨di2,A1,H⟩:=bind_ H
 by_cases c2:di2=true
 ·subst c2
  replace H:=ifp_ H
  obtain⟨di3,A3,H⟩:=bind_ H
  obtain rfl:=Option.some.inj H
  go_enter Try.func23,Try.ntmps23
  go_wp2_with (first|((with_reducible refine gc_ 71 ?_);refine gl_ 2 Try.func71 #[.agg #[.int .i64 1, .int .i64 2]] ?_;(with_reducible refine(Gh.calls k 1 2 true _ A1.out).mono ?_);rintro e w4 ⟨rfl,hb⟩;refine⟨_,rfl,?_⟩;replace HB:=hs_ (ef1) hb)|(go_at_call 71;(with_reducible refine(Gh.calls k 2 4 di3 _ A3.out).mono ?_);rintro e w5 ⟨rfl,hb⟩;replace HB:=hs_ (ef1) hb))
  go_ret
  exact⟨g4_,ef1⟩
 replace c2:=Bool.eq_false_iff.mpr c2
 subst c2
 replace H:=ifn_ H
 obtain rfl:=Option.some.inj H
 go_enter Try.func23,Try.ntmps23
 go_wp2_with (first|((with_reducible refine gc_ 71 ?_);refine gl_ 2 Try.func71 #[.agg #[.int .i64 1, .int .i64 2]] ?_;(with_reducible refine(Gh.calls k 1 2 false _ A1.out).mono ?_);rintro e w6 ⟨rfl,hb⟩;refine⟨_,rfl,?_⟩;replace HB:=hs_ (ef1) hb))
 go_ret
 exact⟨g4_,ef1⟩
mutual
def Fi.j0:Nat->Int->Bool->List Int->List (List Int)->Option (Bool)
 | 0,_,_,_,_=>none
 | k + 1,x3,x23,ak1,ao7=>if x23=true then(some false) else(Fi.l0 k x3 ao7 (ao7.length:Int) 0 ak1 ao7)
def Fi.l0:Nat->Int->List (List Int)->Int->Int->List Int->List (List Int)->Option (Bool)
 | 0,_,_,_,_,_,_=>none
 | k + 1,x3,x25,x26,sv,ak1,ao7=>if sv < x26 then(if 0<=sv then(if sv < (x25.length:Int) then(if sv < (ak1.length:Int) then(if (rd ak1 sv) < 0 then(Fi.j2 k x3 (Jb x25 sv) x25 x26 sv true ak1 ao7) else(if (rd ak1 sv) > 20 then(Fi.j2 k x3 (Jb x25 sv) x25 x26 sv true ak1 ao7) else(if ((Jb x25 sv).length:Int)=x3 then(if sv < ((Jb x25 sv).length:Int) then(Fi.j2 k x3 (Jb x25 sv) x25 x26 sv ((rd (Jb x25 sv) sv) != 0) ak1 ao7) else(none)) else(Fi.j2 k x3 (Jb x25 sv) x25 x26 sv true ak1 ao7)))) else(none)) else(none)) else(none)) else(some true)
def Fi.j2:Nat->Int->List Int->List (List Int)->Int->Int->Bool->List Int->List (List Int)->Option (Bool)
 | 0,_,_,_,_,_,_,_,_=>none
 | k + 1,x3,x5,x25,x26,sv,x58,ak1,ao7=>if x58=true then(some false) else(Fi.l1 k x3 x25 x26 sv x5 (x5.length:Int) 0 ak1 ao7)
def Fi.l1:Nat->Int->List (List Int)->Int->Int->List Int->Int->Int->List Int->List (List Int)->Option (Bool)
 | 0,_,_,_,_,_,_,_,_,_=>none
 | k + 1,x3,x25,x26,sv,x59,x60,x61,ak1,ao7=>if x61 < x60 then(if 0<=x61 then(if x61 < (x59.length:Int) then(if (rd x59 x61) < 0 then(some false) else(if (rd x59 x61) > 9 then(some false) else(Fi.l1 k x3 x25 x26 sv x59 x60 (wrap64 (x61 + 1)) ak1 ao7))) else(none)) else(none)) else(Fi.l0 k x3 x25 x26 (wrap64 (sv + 1)) ak1 ao7)
end
def Fi.f (k:Nat) (ab:List Int) (aa:List (List Int)):Option (Bool):=if (ab.length:Int) < 1 then(Fi.j0 k (ab.length:Int) true ab aa) else(if (ab.length:Int) > 4 then(Fi.j0 k (ab.length:Int) true ab aa) else(Fi.j0 k (ab.length:Int) ((aa.length:Int) != (ab.length:Int)) ab aa))
theorem yt {p:Prop} (h:p:=by repeat(first|(with_reducible first|exact HB.out|apply G3|apply G2|apply G1|refine G0 ?_ jf7.out)|exact HB.out)):p:=h
set_option maxHeartbeats 8000000 in
set_option maxRecDepth 100000 in
theorem Fi.calls (k:Nat) (ah:Option Addr) (af:Nat) (ab:List Int) (ao:Option Addr) (ai:Nat) (aa:List (List Int)) (r:Bool) (w:World) (d4:Kd.C (Kd.int .i64) w ah ab.length ab) (d9:ab.length<=af) (d5:Kd.C (Kd.slice 3 (Kd.int .i64)) w ao aa.length aa) (ea:aa.length<=ai) (h:Fi.f k ab aa=some r) :
  Calls Try.prog 73 #[.agg #[.slice ah ab.length af, .slice ao aa.length ai]] w fun e w'=>e = .returned (.bool r)/\Below w.heap.size w w':=by
 have hu25:=Try.underlying25
 have dp:=A_ d4
 have ec:=A_ d9
 clear d4 d9
 have df:=A_ d5
 have ee:=A_ ea
 clear d5 ea
 have HB:=A_ (Below.refl w.heap.size w)
 have H:=h
 unfold Fi.f at H
 clear h
 have HC2:=A_ H
 clear H
 go_enter Try.func73,Try.ntmps73
 go_upto_region 2 with(first|((with_reducible refine gd_ 1 ?_);(try(refine gate_guard (by rfl) ?_;dsimp only));refine bx_ (N:=1) #[.slice ah ab.length af, .slice ao aa.length ai] 25 ?_;intro cv1 hg w3 hbox hb;have ub:=A_ (hbox);have me7:=A_ ((by rw[hg];exact(Gz (yt)):w.heap.size<=cv1));have jf7:=me7;replace HB:=hs_ (yt) hb;clear hb hbox hg;obtain⟨ba6,ba7,ch4,bn1⟩:=blk2_ ub))
 (try simp only[Act.put,List.setIfInBounds_toArray,List.set_cons_zero,List.set_cons_succ])
 go_cut [23] (fun v23 wc=>∃(kq:Nat) (eg9:Bool),v23 = .bool eg9/\Gx (Fi.j0 kq (ab.length:Int) eg9 ab aa=some r)/\Gx (kq<=k)/\Gx (hc_ wc cv1 #[(.slice ah ab.length af),(.slice ao aa.length ai)] 25)/\Gx (Below w.heap.size w wc))
 case first=>
  have H:=HC2.out
  clear HC2
  by_cases c5:(ab.length:Int) < 1
  ·rw[if_pos c5] at H
   have j9:=decide_eq_true c5
   have ch5:decide (ab.length < 1)=true:=decide_eq_true (by omega)
   clear c5
   (first|rw[j9]|(simp only[i64_w,i32_w];rw[j9])|skip)
   have H':=A_ H
   clear H
   go_wp2
   go_meet
   case rel=>exact⟨_,(true),(g3_),H',⟨g9_⟩,⟨uB_ ub⟩,⟨yt⟩⟩
  rw[if_neg c5] at H
  have j9:=decide_eq_false c5
  have ch5:decide (ab.length < 1)=false:=decide_eq_false (by omega)
  clear c5
  (first|rw[j9]|(simp only[i64_w,i32_w];rw[j9])|skip)
  by_cases c6:(ab.length:Int) > 4
  ·rw[if_pos c6] at H
   have qu:=decide_eq_true c6
   have bx4:decide (4 < ab.length)=true:=decide_eq_true (by omega)
   clear c6
   have H':=A_ H
   clear H
   go_wp2
   go_meet
   case rel=>exact⟨_,(true),(g3_),H',⟨g9_⟩,⟨uB_ ub⟩,⟨yt⟩⟩
  rw[if_neg c6] at H
  have qu:=decide_eq_false c6
  have bx4:decide (4 < ab.length)=false:=decide_eq_false (by omega)
  clear c6
  have H':=A_ H
  clear H
  obtain⟨ad2,ad3,ad4,ad5⟩:=blk2_ ub
  go_wp2
  go_meet
  case rel=>exact⟨_,(((aa.length:Int) != (ab.length:Int))),(g3_),H',⟨g9_⟩,⟨uB_ ub⟩,⟨yt⟩⟩
 clear HC2
 obtain⟨kq,eg9,rfl,HA,HJ1,ub,HB⟩:=hcut
 cases kq with
 | zero=>exact absurd HA.out (by simp[Fi.j0])
 | succ kj1=>?_
 have H:=HA.out
 clear HA
 simp only[Fi.j0] at H
 by_cases c8:eg9=true
 ·subst c8
  replace H:=ifp_ H
  obtain rfl:=Option.some.inj H
  go_wp2
  go_ret
  exact⟨g4_,yt⟩
 replace c8:=Bool.eq_false_iff.mpr c8
 subst c8
 replace H:=ifn_ H
 have H':=A_ H
 clear H
 obtain⟨at5,at6,at7,at8⟩:=blk2_ ub
 go_wp2
 go_loopg [27] kj1 (fun kq v27 w'=>∃(i4:Int),v27 = .int .i64 i4/\Gx (Fi.l0 kq (ab.length:Int) aa (aa.length:Int) i4 ab aa=some r)/\Gx (kq<=kj1)/\Gx (hc_ w' cv1 #[(.slice ah ab.length af),(.slice ao aa.length ai)] 25)/\Gx (Below w.heap.size w w'))
 case atStart=>exact⟨(0),(g3_),H',⟨Nat.le_refl _⟩,⟨uB_ ub⟩,⟨yt⟩⟩
 clear H'
 obtain⟨i4,rfl,HA,HK2,ub,HB⟩:=hrel
 cases gk with
 | zero=>exact absurd HA.out (by simp[Fi.l0])
 | succ k2=>?_
 have H:=HA.out
 clear HA
 simp only[Fi.l0] at H
 by_cases io:i4 < (aa.length:Int)
 case neg=>
  rw[if_neg io] at H
  have zx:=decide_eq_false io
  clear io
  obtain rfl:=Option.some.inj H
  go_wp2
  go_ret
  exact⟨g4_,yt⟩
 rw[if_pos io] at H
 have zx:=decide_eq_true io
 clear io
 obtain⟨bm4,H⟩:=pd_ H
 obtain⟨au7,H⟩:=pd_ H
 have ff5:=A_ H
 clear H
 obtain⟨⟨gu2,me8,me9,jf8,eh0,gu3,gu4⟩,di4,di5⟩:=rdp_ (at_L1 df.out i4)
 cases jf8
 replace eh0:=cl_ HB eh0
 have eh1:=A_ gu4
 have mf0:=A_ gu3
 clear gu4 gu3
 go_upto_region 7 with(fail)
 go_cut [58] (fun v58 wc=>∃(kq:Nat) (eh2:Bool),v58 = .bool eh2/\Gx (Fi.j2 kq (ab.length:Int) (Jb aa i4) aa (aa.length:Int) i4 eh2 ab aa=some r)/\Gx (kq<=k2)/\Gx (hc_ wc cv1 #[(.slice ah ab.length af),(.slice (some gu2) aa.length ai)] 25)/\Gx (Below w.heap.size w wc))
 case first=>
  have H:=ff5.out
  clear ff5
  obtain⟨ak2,H⟩:=pd_ H
  (first|rw[ak2]|(simp only[i64_w,i32_w];rw[ak2])|skip)
  by_cases e7:(rd ab i4) < 0
  ·rw[if_pos e7] at H
   have qv:=decide_eq_true e7
   clear e7
   have H':=A_ H
   clear H
   obtain⟨ba9,bb0,bb1,bb2⟩:=blk2_ ub
   obtain⟨⟨cv2,ch6,ao8⟩,aa0,aa1⟩:=rdp_ (Kd.at_int dp.out i4)
   cases ch6
   replace ao8:=cl_ HB ao8
   go_wp2
   go_meet
   case rel=>exact⟨_,(true),(g3_),H',⟨g85_⟩,⟨uB_ ub⟩,⟨yt⟩⟩
  rw[if_neg e7] at H
  have qv:=decide_eq_false e7
  clear e7
  by_cases ip:(rd ab i4) > 20
  ·rw[if_pos ip] at H
   have ad6:=decide_eq_true ip
   clear ip
   have H':=A_ H
   clear H
   obtain⟨bb3,bb4,bb5,bb6⟩:=blk2_ ub
   obtain⟨⟨cv2,ch6,ao8⟩,aa0,aa1⟩:=rdp_ (Kd.at_int dp.out i4)
   cases ch6
   replace ao8:=cl_ HB ao8
   obtain⟨⟨di6,di7,bh7⟩,ao9,ap0⟩:=rdp_ (Kd.at_int dp.out i4)
   obtain rfl:cv2=di6:=(by injection di7)
   replace bh7:=cl_ HB bh7
   go_wp2
   go_meet
   case rel=>exact⟨_,(true),(g3_),H',⟨g85_⟩,⟨uB_ ub⟩,⟨yt⟩⟩
  rw[if_neg ip] at H
  have ad6:=decide_eq_false ip
  clear ip
  by_cases f9:((Jb aa i4).length:Int)=(ab.length:Int)
  ·rw[if_pos f9] at H
   have ve:(((Jb aa i4).length:Int) == (ab.length:Int))=true:=beq_iff_eq.mpr f9
   have ap1:(((Jb aa i4).length:Int) != (ab.length:Int))=false:=bne_eq_false_iff_eq.mpr f9
   have cv3:((Jb aa i4).length == ab.length)=true:=by first|simpa using f9|(simp at f9 |-;omega)
   clear f9
   obtain⟨bx5,H⟩:=pd_ H
   have H':=A_ H
   clear H
   obtain⟨aa2,aa3,ad7,aa4⟩:=blk2_ ub
   obtain⟨⟨cv2,ch6,ao8⟩,aa0,aa1⟩:=rdp_ (Kd.at_int dp.out i4)
   cases ch6
   replace ao8:=cl_ HB ao8
   obtain⟨⟨di6,di7,bh7⟩,ao9,ap0⟩:=rdp_ (Kd.at_int dp.out i4)
   obtain rfl:cv2=di6:=(by injection di7)
   replace bh7:=cl_ HB bh7
   obtain⟨⟨mf1,jf9,eh3⟩,di8,di9⟩:=rdp_ (Kd.at_int eh1.out i4)
   cases jf9
   replace eh3:=cl_ HB eh3
   go_wp2
   go_meet
   case rel=>exact⟨_,(((rd (Jb aa i4) i4) != 0)),(g3_),H',⟨g85_⟩,⟨uB_ ub⟩,⟨yt⟩⟩
  rw[if_neg f9] at H
  have ve:(((Jb aa i4).length:Int) == (ab.length:Int))=false:=beq_eq_false_iff_ne.mpr f9
  have ap1:(((Jb aa i4).length:Int) != (ab.length:Int))=true:=bne_iff_ne.mpr f9
  have cv3:((Jb aa i4).length == ab.length)=false:=by first|simpa using f9|(simp at f9 |-;omega)
  have H':=A_ H
  clear H
  obtain⟨ap2,ap3,ap4,ap5⟩:=blk2_ ub
  obtain⟨⟨cv2,ch6,ao8⟩,aa0,aa1⟩:=rdp_ (Kd.at_int dp.out i4)
  cases ch6
  replace ao8:=cl_ HB ao8
  obtain⟨⟨di6,di7,bh7⟩,ao9,ap0⟩:=rdp_ (Kd.at_int dp.out i4)
  obtain rfl:cv2=di6:=(by injection di7)
  replace bh7:=cl_ HB bh7
  go_wp2
  go_meet
  case rel=>exact⟨_,(true),(g3_),H',⟨g85_⟩,⟨uB_ ub⟩,⟨yt⟩⟩
 clear ff5
 obtain⟨kq,eh2,rfl,HA,HJ12,ub,HB⟩:=hcut
 cases kq with
 | zero=>exact absurd HA.out (by simp[Fi.j2])
 | succ kj12=>?_
 have H:=HA.out
 clear HA
 simp only[Fi.j2] at H
 by_cases ow:eh2=true
 ·subst ow
  replace H:=ifp_ H
  obtain rfl:=Option.some.inj H
  go_wp2
  go_ret
  exact⟨g4_,yt⟩
 replace ow:=Bool.eq_false_iff.mpr ow
 subst ow
 replace H:=ifn_ H
 have H':=A_ H
 clear H
 go_wp2
 go_loopg [61] kj12 (fun kq v61 w'=>∃(ad8:Int),v61 = .int .i64 ad8/\Gx (Fi.l1 kq (ab.length:Int) aa (aa.length:Int) i4 (Jb aa i4) ((Jb aa i4).length:Int) ad8 ab aa=some r)/\Gx (kq<=kj12)/\Gx (hc_ w' cv1 #[(.slice ah ab.length af),(.slice (some gu2) aa.length ai)] 25)/\Gx (Below w.heap.size w w'))
 case atStart=>exact⟨(0),(g3_),H',⟨Nat.le_refl _⟩,⟨uB_ ub⟩,⟨yt⟩⟩
 clear H'
 obtain⟨ad8,rfl,HA,HK4,ub,HB⟩:=hrel
 cases gk with
 | zero=>exact absurd HA.out (by simp[Fi.l1])
 | succ k4=>?_
 have H:=HA.out
 clear HA
 simp only[Fi.l1] at H
 by_cases kr:ad8 < ((Jb aa i4).length:Int)
 case neg=>
  rw[if_neg kr] at H
  have ad9:=decide_eq_false kr
  clear kr
  have H':=A_ H
  clear H
  go_wp2
  go_roundg k4
  case measure=>have:=HJ1.out;have:=HK2.out;have:=HJ12.out;have:=HK4.out;omega
  case rel=>exact⟨(wrap64 (i4 + 1)),(g3_),H',⟨by have:=HJ1.out;have:=HK2.out;have:=HJ12.out;have:=HK4.out;omega⟩,⟨uB_ ub⟩,⟨yt⟩⟩
 rw[if_pos kr] at H
 have ad9:=decide_eq_true kr
 clear kr
 obtain⟨bh8,H⟩:=pd_ H
 obtain⟨ch7,H⟩:=pd_ H
 by_cases ox:(rd (Jb aa i4) ad8) < 0
 ·rw[if_pos ox] at H
  have bx6:=decide_eq_true ox
  clear ox
  obtain rfl:=Option.some.inj H
  obtain⟨⟨gu5,dj0,bx7⟩,bb7,bb8⟩:=rdp_ (Kd.at_int eh1.out ad8)
  cases dj0
  replace bx7:=cl_ HB bx7
  go_wp2
  go_ret
  exact⟨g4_,yt⟩
 rw[if_neg ox] at H
 have bx6:=decide_eq_false ox
 clear ox
 by_cases l8:(rd (Jb aa i4) ad8) > 9
 ·rw[if_pos l8] at H
  have bn4:=decide_eq_true l8
  clear l8
  obtain rfl:=Option.some.inj H
  obtain⟨⟨gu5,dj0,bx7⟩,bb7,bb8⟩:=rdp_ (Kd.at_int eh1.out ad8)
  cases dj0
  replace bx7:=cl_ HB bx7
  go_wp2
  go_ret
  exact⟨g4_,yt⟩
 rw[if_neg l8] at H
 have bn4:=decide_eq_false l8
 clear l8
 have H':=A_ H
 clear H
 obtain⟨⟨gu5,dj0,bx7⟩,bb7,bb8⟩:=rdp_ (Kd.at_int eh1.out ad8)
 cases dj0
 replace bx7:=cl_ HB bx7
 go_wp2
 go_roundg k4
 case measure=>have:=HJ1.out;have:=HK2.out;have:=HJ12.out;have:=HK4.out;omega
 case rel=>exact⟨(wrap64 (ad8 + 1)),(g3_),H',⟨by have:=HJ1.out;have:=HK2.out;have:=HJ12.out;have:=HK4.out;omega⟩,⟨uB_ ub⟩,⟨yt⟩⟩
def F3.bad (k:Nat) (n:Int):List S25->Nat->Option Int
 | [],_=>some (-1)
 | x :: r,i=>(Fi.f k x.f0 x.f1).bind fun t=>if t=true then(if (x.f0.length:Int)=n then F3.bad k n r (i + 1) else some (i:Int)) else some (i:Int)
def F3.f (k:Nat) (l0:List Int) (l1:List (List Int)) (l2:List S25):Option Bool:=(Fi.f k l0 l1).bind fun t=>if t=true then(if (l2.length:Int)<=8 then(F3.bad k (l0.length:Int) l2 0).bind fun q=>some (!decide (q ≥ 0)) else some false) else some false
set_option maxHeartbeats 8000000 in
set_option maxRecDepth 100000 in
theorem F3.lit (k:Nat) (A0:Option Addr) (c0:Nat) (l0:List Int) (A1:Option Addr) (c1:Nat) (l1:List (List Int)) (gb:Nat) (AN:Option Addr) (nN cN:Nat) (vD vP:Value) (t:Bool) (w:World) (gq:Kd.C (Kd.int .i64) w A0 l0.length l0) (i2:l0.length<=c0) (k0:Kd.C (Kd.slice 3 (Kd.int .i64)) w A1 l1.length l1) (lh:l1.length<=c1) (hbk:w.heap[gb]? = some (.cells #[.slice AN nN cN,vD,vP] 28 (0,0))) (h:Fi.f k l0 l1=some t) :
  Calls Try.prog 110 #[.agg #[.slice A0 l0.length c0, .slice A1 l1.length c1], .pointer (some ⟨gb,0,none⟩)] w fun e w'=>e = .returned (.bool (if t=true then((l0.length:Int) != (nN:Int)) else true))/\Below w.heap.size w w':=by
 have hu:=Try.underlying25
 have hu2:=Try.underlying28
 have ks:=A_ gq
 have i8:=A_ k0
 have BKD:=A_ hbk
 have HB:=A_ (Below.refl w.heap.size w)
 have HT:=A_ h
 have uc:=A_ i2
 have HC1:=A_ lh
 clear gq k0 hbk h i2 lh
 by_cases ht:t=true
 ·subst ht
  go_enter Try.func110,Try.ntmps110
  go_wp2_with (first|((with_reducible refine gd_ 2 ?_);refine box_event ?hg (N:=2) ?hd (cs:=#[.slice A0 l0.length c0, .slice A1 l1.length c1]) (t:=25) ?hr ?_;(case hd=>rfl);(case hg=>rfl);(case hr=>first|(go_simp;done)|(go_simp;rfl));intro g2 hg w2 hbox hb;have n0_:=A_ (G8 BKD.out hb);have n1_:=A_ (Jg HB.out hb);have BK:=A_ hbox;clear BKD HB hbox hg;have BKD:=n0_;have HB:=n1_;clear n0_ n1_ hb;have hcz_0:w2.cell? ⟨g2,0,none⟩=some (.slice A0 l0.length c0):=(Gy BK.out 0).trans rfl;have hcz_1:w2.cell? ⟨g2,1,none⟩=some (.slice A1 l1.length c1):=(Gy BK.out 1).trans rfl)|((with_reducible refine gc_ 73 ?_);refine goesL_ (some 5) rfl rfl Try.func73 (g0_) rfl #[.agg #[.slice A0 l0.length c0, .slice A1 l1.length c1]] rfl (g125_) ?_;(refine(Fi.calls k _ _ l0 _ _ l1 true _ (cu_ (Kd.C_below ks.out HB.out)) uc.out (cu_ (Kd.C_below i8.out HB.out)) HC1.out HT.out).mono ?_);rintro e w3 ⟨rfl,hb⟩;refine⟨_,rfl,?_⟩;have n0_:=A_ (G8 (by exact uB_ BKD) hb);have n1_:=A_ (G8 (by(with_reducible repeat(first|refine G5 ?_ _|refine G6 ?_|refine G4 ?_ _));exact BK.out) hb);have n2_:=hs_ (g16_) hb;clear BKD BK HB hb;have BKD:=n0_;have BK:=n1_;have HB:=n2_;clear n0_ n1_ n2_;have hcy_0:w3.cell? ⟨g2,0,none⟩=some (.slice A0 l0.length c0):=(Gy BK.out 0).trans rfl;have hcd_0:w3.cell? ⟨gb,0,none⟩=some (.slice AN nN cN):=(Gy BKD.out 0).trans rfl))
  go_ret
  exact⟨g3_,g16_⟩
 obtain rfl:t=false:=by simpa using ht
 clear ht
 go_enter Try.func110,Try.ntmps110
 go_wp2_with (first|((with_reducible refine gd_ 2 ?_);refine box_event ?hg (N:=2) ?hd (cs:=#[.slice A0 l0.length c0, .slice A1 l1.length c1]) (t:=25) ?hr ?_;(case hd=>rfl);(case hg=>rfl);(case hr=>first|(go_simp;done)|(go_simp;rfl));intro g2 hg w2 hbox hb;have n1_:=A_ (Jg HB.out hb);have BK:=A_ hbox;clear HB hbox hg;have HB:=n1_;clear n1_ hb;have hcz_0:w2.cell? ⟨g2,0,none⟩=some (.slice A0 l0.length c0):=(Gy BK.out 0).trans rfl;have hcz_1:w2.cell? ⟨g2,1,none⟩=some (.slice A1 l1.length c1):=(Gy BK.out 1).trans rfl)|((with_reducible refine gc_ 73 ?_);refine goesL_ (some 5) rfl rfl Try.func73 (g0_) rfl #[.agg #[.slice A0 l0.length c0, .slice A1 l1.length c1]] rfl (g125_) ?_;(refine(Fi.calls k _ _ l0 _ _ l1 false _ (cu_ (Kd.C_below ks.out HB.out)) uc.out (cu_ (Kd.C_below i8.out HB.out)) HC1.out HT.out).mono ?_);rintro e w3 ⟨rfl,hb⟩;refine⟨_,rfl,?_⟩;have n2_:=hs_ (g16_) hb;clear HB hb;have HB:=n2_;clear n2_))
 go_ret
 exact⟨g3_,g16_⟩
set_option maxHeartbeats 8000000 in
set_option maxRecDepth 100000 in
theorem F3.index (k:Nat) (A2:Option Addr) (c2:Nat) (l2:List S25) (gb:Nat) (AN:Option Addr) (nN cN:Nat) (vD vP:Value) (r:Int) (w:World) (hr2:Kd.C k25 w A2 l2.length l2) (hc2:l2.length<=c2) (hbk:w.heap[gb]? = some (.cells #[.slice AN nN cN,vD,vP] 28 (0,0))) (h:F3.bad k (nN:Int) l2 0=some r) :
  Calls Try.prog 127 #[.slice A2 l2.length c2, .func (.func 110) #[] #[.pointer (some ⟨gb,0,none⟩)]] w fun e w'=>e = .returned (.int .i64 r)/\Below w.heap.size w w':=by
 have hn:l2.length<=9223372036854775807:=hr2.2.1
 have HR2:=A_ hr2
 have BKD:=A_ hbk
 have HB:=A_ (Below.refl w.heap.size w)
 have H:=A_ h
 clear hr2 hbk h
 generalize hN:l2.length=n at *
 have HN:=A_ hN
 clear hN
 go_enter Try.func127,Try.ntmps127
 go_wp2_with fail
 go_loopg [5,8] n (fun kq v5 v8 w'=>∃j:Nat,kq + j=n/\v8 = .int .i64 j/\Gx (F3.bad k (nN:Int) (l2.drop j) j=some r)/\Gx (Below w.heap.size w w'))
 case atStart=>exact⟨0,rfl,rfl,⟨H.out⟩,⟨g16_⟩⟩
 clear HB H
 obtain⟨j,hj,rfl,HA,HB⟩:=hrel
 by_cases hlt:j < n
 case neg=>
  obtain rfl:j=n:=by omega
  have hr:Gx ((-1:Int)=r):=⟨by have:=HA.out;rw[List.drop_of_length_le (by rw[HN.out];exact Nat.le_refl _)] at this;exact Option.some.inj this⟩
  have nt:decide ((j:Int) < (j:Int))=false:=decide_eq_false (by omega)
  clear HA
  go_wp2_with fail
  go_ret
  exact⟨by rw[<- hr.out];rfl,g16_⟩
 obtain⟨k1,rfl⟩:∃k1,gk=k1 + 1:=⟨gk - 1,by omega⟩
 have hlt2:j < l2.length:=by rw[HN.out];exact hlt
 have hd:l2.drop j=Jc l2 (j:Int) :: l2.drop (j + 1):=by
  rw[List.drop_eq_getElem_cons hlt2];simp[Jc,List.getD_eq_getElem?_getD,List.getElem?_eq_getElem hlt2]
 have HX:=HA.out
 rw[hd] at HX
 simp only[F3.bad] at HX
 clear HA
 obtain⟨ad,B0,d0,B1,d1,e,hx0,hx1,hl0,hi0,hl1,hi1⟩:=at_T25 HR2.out (j:Int) (by omega) (by omega)
 cases e
 have hx0':=(HB.out.cell (World.block_lt_of_cell? w _ hx0)).trans hx0
 have hx1':=(HB.out.cell (World.block_lt_of_cell? w _ hx1)).trans hx1
 rw[Int.toNat_natCast] at hx0' hx1'
 have HI0:=A_ hi0
 have HI1:=A_ hi1
 have HL0:=A_ hl0
 have HL1:=A_ hl1
 have p5:(0<=(j:Int))=True:=eq_true (by omega)
 have q5:((j:Int) < (n:Int))=True:=eq_true (by omega)
 have nt:decide ((j:Int) < (n:Int))=true:=decide_eq_true (by omega)
 clear hx0 hx1 hi0 hi1 hl0 hl1 hd hlt2
 generalize Jc l2 (j:Int)=y at hx0' hx1' HI0 HI1 HL0 HL1 HX
 obtain⟨t,hT,HX⟩:=Option.bind_eq_some_iff.mp HX
 have HT:=A_ hT
 clear hT
 by_cases hb2:(if t=true then((y.f0.length:Int) != (nN:Int)) else true)=true
 ·have hr:Gx ((j:Int)=r):=⟨by
   by_cases ht:t=true
   ·rw[if_pos ht] at hb2 HX
    rw[if_neg (by simpa using hb2)] at HX
    exact Option.some.inj HX
   ·rw[if_neg ht] at HX;exact Option.some.inj HX⟩
  have HV:=A_ hb2
  clear hb2 HX
  go_wp2_with (go_at_call 110;refine(F3.lit k _ _ y.f0 _ _ y.f1 gb AN nN cN vD vP t _ ?s1 ?s2 ?s3 ?s4 ?s5 HT.out).mono ?_;(case s1=>exact Kd.C_below HI0.out (g16_));(case s2=>exact HL0.out);(case s3=>exact Kd.C_below HI1.out (g16_));(case s4=>exact HL1.out);(case s5=>exact G8 BKD.out (g16_));rintro e w9 ⟨rfl,hb⟩;rw[HV.out];have n0_:=hs_ (g16_) hb;clear HB hb;have HB:=n0_;clear n0_)
  go_ret
  exact⟨by rw[<- hr.out];rfl,g16_⟩
 have hr:Gx (F3.bad k (nN:Int) (l2.drop (j + 1)) (j + 1)=some r):=⟨by
  by_cases ht:t=true
  ·rw[if_pos ht] at hb2 HX
   rw[if_pos (by simpa using hb2)] at HX
   exact HX
  ·rw[if_neg ht] at hb2;exact absurd rfl hb2⟩
 have HV:Gx ((if t=true then((y.f0.length:Int) != (nN:Int)) else true)=false):=⟨by simpa using hb2⟩
 clear hb2 HX
 go_wp2_with (go_at_call 110;refine(F3.lit k _ _ y.f0 _ _ y.f1 gb AN nN cN vD vP t _ ?s1 ?s2 ?s3 ?s4 ?s5 HT.out).mono ?_;(case s1=>exact Kd.C_below HI0.out (g16_));(case s2=>exact HL0.out);(case s3=>exact Kd.C_below HI1.out (g16_));(case s4=>exact HL1.out);(case s5=>exact G8 BKD.out (g16_));rintro e w9 ⟨rfl,hb⟩;rw[HV.out];have n0_:=hs_ (g16_) hb;clear HB hb;have HB:=n0_;clear n0_)
 go_roundg k1
 case measure=>omega
 case rel=>exact⟨j + 1,by omega,by go_num,hr,⟨g16_⟩⟩
theorem F3.contains (k:Nat) (A2:Option Addr) (c2:Nat) (l2:List S25) (gb:Nat) (AN:Option Addr) (nN cN:Nat) (vD vP:Value) (q:Int) (w:World) (hr2:Kd.C k25 w A2 l2.length l2) (hc2:l2.length<=c2) (hbk:w.heap[gb]? = some (.cells #[.slice AN nN cN,vD,vP] 28 (0,0))) (h:F3.bad k (nN:Int) l2 0=some q) :
  Calls Try.prog 109 #[.slice A2 l2.length c2, .func (.func 110) #[] #[.pointer (some ⟨gb,0,none⟩)]] w fun e w'=>e = .returned (.bool (decide (q ≥ 0)))/\Below w.heap.size w w':=by
 have HR2:=A_ hr2
 have BKD:=A_ hbk
 have HB:=A_ (Below.refl w.heap.size w)
 have H:=A_ h
 have HC2:=A_ hc2
 clear hr2 hbk h hc2
 go_enter Try.func109,Try.ntmps109
 go_wp2_with (go_at_call 127;refine(F3.index k A2 c2 l2 gb AN nN cN vD vP q _ ?s1 HC2.out ?s2 H.out).mono ?_;(case s1=>exact Kd.C_below HR2.out (g16_));(case s2=>exact G8 BKD.out (g16_));rintro e w9 ⟨rfl,hb⟩;have n0_:=hs_ (g16_) hb;clear HB hb;have HB:=n0_;clear n0_)
 go_ret
 exact⟨by rfl,g16_⟩
theorem cg0 {p:Prop} (h:p:=by repeat(first|(with_reducible first|exact HB.out|apply G3|apply G2|apply G1)|exact HB.out)):p:=h
set_option maxHeartbeats 8000000 in
set_option maxRecDepth 100000 in
theorem F3.calls (k:Nat) (A0:Option Addr) (c0:Nat) (l0:List Int) (A1:Option Addr) (c1:Nat) (l1:List (List Int)) (A2:Option Addr) (c2:Nat) (l2:List S25) (r:Bool) (w:World) (gq:Kd.C (Kd.int .i64) w A0 l0.length l0) (i2:l0.length<=c0) (k0:Kd.C (Kd.slice 3 (Kd.int .i64)) w A1 l1.length l1) (lh:l1.length<=c1) (hr2:Kd.C k25 w A2 l2.length l2) (hc2:l2.length<=c2) (h:F3.f k l0 l1 l2=some r) :
  Calls Try.prog 72 #[.agg #[.slice A0 l0.length c0, .slice A1 l1.length c1, .slice A2 l2.length c2]] w fun e w'=>e = .returned (.bool r)/\Below w.heap.size w w':=by
 have hu:=Try.underlying25
 have hu2:=Try.underlying28
 have ks:=A_ gq
 have i8:=A_ k0
 have HR2:=A_ hr2
 have uc:=A_ i2
 have HC1:=A_ lh
 have HC2:=A_ hc2
 have HB:=A_ (Below.refl w.heap.size w)
 obtain⟨t,h1,h2⟩:=Option.bind_eq_some_iff.mp (show(Fi.f k l0 l1).bind (fun t=>if t=true then(if (l2.length:Int)<=8 then(F3.bad k (l0.length:Int) l2 0).bind (fun q=>some (!decide (q ≥ 0))) else some false) else some false)=some r from h)
 have HT:=A_ h1
 clear gq k0 hr2 i2 lh hc2 h h1
 by_cases ht:t=true
 case neg=>
  obtain rfl:t=false:=by simpa using ht
  rw[if_neg (by decide)] at h2
  obtain rfl:=Option.some.inj h2
  clear h2 ht
  go_enter Try.func72,Try.ntmps72
  go_wp2_with (first|((with_reducible refine gd_ 1 ?_);refine bx_ (N:=1) #[.slice A0 l0.length c0, .slice A1 l1.length c1, .slice A2 l2.length c2] 28 ?_;intro gb hg w2 hbox hb;have n1_:=A_ (Jg HB.out hb);have BK:=A_ hbox;clear HB hbox hg;have HB:=n1_;clear n1_ hb;have hcz_0:w2.cell? ⟨gb,0,none⟩=some (.slice A0 l0.length c0):=(Gy BK.out 0).trans rfl;have hcz_1:w2.cell? ⟨gb,1,none⟩=some (.slice A1 l1.length c1):=(Gy BK.out 1).trans rfl)|((with_reducible refine gc_ 73 ?_);refine goesL_ (some 5) rfl rfl Try.func73 k_ rfl #[.agg #[.slice A0 l0.length c0, .slice A1 l1.length c1]] rfl (g125_) ?_;(refine(Fi.calls k _ _ l0 _ _ l1 false _ (uC_ ks) uc.out (uC_ i8) HC1.out HT.out).mono ?_);rintro e w3 ⟨rfl,hb⟩;refine⟨_,rfl,?_⟩;have n1_:=A_ (G8 (uB_ BK) hb);have n2_:=hs_ (cg0) hb;clear BK HB hb;have BK:=n1_;have HB:=n2_;clear n1_ n2_;have hcy_2:w3.cell? ⟨gb,2,none⟩=some (.slice A2 l2.length c2):=(Gy BK.out 2).trans rfl))
  go_ret
  exact⟨rfl,cg0⟩
 subst ht
 rw[if_pos rfl] at h2
 by_cases h8:(l2.length:Int)<=8
 ·rw[if_pos h8] at h2
  obtain⟨q,h3,h4⟩:=Option.bind_eq_some_iff.mp h2
  have HQ:=A_ h3
  have hr:Gx ((!decide (q ≥ 0))=r):=⟨Option.some.inj h4⟩
  have c8:decide ((l2.length:Int)<=8)=true:=decide_eq_true h8
  clear h2 h3 h4 h8
  go_enter Try.func72,Try.ntmps72
  go_wp2_with (first|((with_reducible refine gd_ 1 ?_);refine bx_ (N:=1) #[.slice A0 l0.length c0, .slice A1 l1.length c1, .slice A2 l2.length c2] 28 ?_;intro gb hg w2 hbox hb;have n1_:=A_ (Jg HB.out hb);have BK:=A_ hbox;clear HB hbox hg;have HB:=n1_;clear n1_ hb;have hcz_0:w2.cell? ⟨gb,0,none⟩=some (.slice A0 l0.length c0):=(Gy BK.out 0).trans rfl;have hcz_1:w2.cell? ⟨gb,1,none⟩=some (.slice A1 l1.length c1):=(Gy BK.out 1).trans rfl)|((with_reducible refine gc_ 73 ?_);refine goesL_ (some 5) rfl rfl Try.func73 k_ rfl #[.agg #[.slice A0 l0.length c0, .slice A1 l1.length c1]] rfl (g125_) ?_;(refine(Fi.calls k _ _ l0 _ _ l1 true _ (uC_ ks) uc.out (uC_ i8) HC1.out HT.out).mono ?_);rintro e w3 ⟨rfl,hb⟩;refine⟨_,rfl,?_⟩;have n1_:=A_ (G8 (uB_ BK) hb);have n2_:=hs_ (cg0) hb;clear BK HB hb;have BK:=n1_;have HB:=n2_;clear n1_ n2_;have hcy_2:w3.cell? ⟨gb,2,none⟩=some (.slice A2 l2.length c2):=(Gy BK.out 2).trans rfl)|(go_at_call 109;refine(F3.contains k A2 c2 l2 gb A0 l0.length c0 (.slice A1 l1.length c1) (.slice A2 l2.length c2) q _ ?s1 HC2.out ?s2 HQ.out).mono ?_;(case s1=>exact Kd.C_below HR2.out (cg0));(case s2=>(with_reducible repeat(first|refine G5 ?_ _|refine G6 ?_|refine G4 ?_ _));exact BK.out);rintro e w9 ⟨rfl,hb⟩;replace HB:=hs_ (cg0) hb;clear hb))
  go_ret
  exact⟨by rw[<- hr.out];rfl,cg0⟩
 rw[if_neg h8] at h2
 obtain rfl:=Option.some.inj h2
 have c8:decide ((l2.length:Int)<=8)=false:=decide_eq_false h8
 clear h2 h8
 go_enter Try.func72,Try.ntmps72
 go_wp2_with (first|((with_reducible refine gd_ 1 ?_);refine bx_ (N:=1) #[.slice A0 l0.length c0, .slice A1 l1.length c1, .slice A2 l2.length c2] 28 ?_;intro gb hg w2 hbox hb;have n1_:=A_ (Jg HB.out hb);have BK:=A_ hbox;clear HB hbox hg;have HB:=n1_;clear n1_ hb;have hcz_0:w2.cell? ⟨gb,0,none⟩=some (.slice A0 l0.length c0):=(Gy BK.out 0).trans rfl;have hcz_1:w2.cell? ⟨gb,1,none⟩=some (.slice A1 l1.length c1):=(Gy BK.out 1).trans rfl)|((with_reducible refine gc_ 73 ?_);refine goesL_ (some 5) rfl rfl Try.func73 k_ rfl #[.agg #[.slice A0 l0.length c0, .slice A1 l1.length c1]] rfl (g125_) ?_;(refine(Fi.calls k _ _ l0 _ _ l1 true _ (uC_ ks) uc.out (uC_ i8) HC1.out HT.out).mono ?_);rintro e w3 ⟨rfl,hb⟩;refine⟨_,rfl,?_⟩;have n1_:=A_ (G8 (uB_ BK) hb);have n2_:=hs_ (cg0) hb;clear BK HB hb;have BK:=n1_;have HB:=n2_;clear n1_ n2_;have hcy_2:w3.cell? ⟨gb,2,none⟩=some (.slice A2 l2.length c2):=(Gy BK.out 2).trans rfl))
 go_ret
 exact⟨rfl,cg0⟩
def Gt.f (k:Nat) (ab:List Int) (aa:List (List Int)) (av:List (S25)):Option (Bool):=(F3.f k ab aa av).bind fun dj1=>(some dj1)
theorem ef2 {p:Prop} (h:p:=by repeat(first|(with_reducible first|exact HB.out|apply G3|apply G2|apply G1|refine G0 ?_ jg1.out)|exact HB.out)):p:=h
set_option maxHeartbeats 8000000 in
set_option maxRecDepth 100000 in
theorem Gt.calls (k:Nat) (ah:Option Addr) (af:Nat) (ab:List Int) (ao:Option Addr) (ai:Nat) (aa:List (List Int)) (cy:Option Addr) (cu:Nat) (av:List (S25)) (r:Bool) (w:World) (d4:Kd.C (Kd.int .i64) w ah ab.length ab) (d9:ab.length<=af) (d5:Kd.C (Kd.slice 3 (Kd.int .i64)) w ao aa.length aa) (ea:aa.length<=ai) (l6:Kd.C k25 w cy av.length av) (l7:av.length<=cu) (h:Gt.f k ab aa av=some r) :
  Calls Try.prog 24 #[.agg #[.slice ah ab.length af, .slice ao aa.length ai, .slice cy av.length cu]] w fun e w'=>e = .returned (.bool r)/\Below w.heap.size w w':=by
 have hu28:=Try.underlying28
 have dp:=A_ d4
 have ec:=A_ d9
 clear d4 d9
 have df:=A_ d5
 have ee:=A_ ea
 clear d5 ea
 have m8:=A_ l6
 have re:=A_ l7
 clear l6 l7
 have HB:=A_ (Below.refl w.heap.size w)
 have H:=h
 unfold Gt.f at H
 clear h
 obtain⟨dj1,A2,H⟩:=bind_ H
 obtain rfl:=Option.some.inj H
 go_enter Try.func24,Try.ntmps24
 go_wp2_with (first|((with_reducible refine gd_ 1 ?_);refine bx_ (N:=1) #[.slice ah ab.length af, .slice ao aa.length ai, .slice cy av.length cu] 28 ?_;intro gu6 hg w3 hbox hb;have ff6:=A_ (hbox);have mf2:=A_ ((by rw[hg];exact(Gz (ef2)):w.heap.size<=gu6));have jg1:=mf2;replace HB:=hs_ (ef2) hb;clear hb hbox hg;obtain⟨ba6,ba7,ff2,ch4,bn1,jf5⟩:=blk3_ ff6)|((with_reducible refine gc_ 72 ?_);refine gl_ 4 Try.func72 #[.agg #[.slice ah ab.length af, .slice ao aa.length ai, .slice cy av.length cu]] ?_;(refine(F3.calls k _ _ ab _ _ aa _ _ av dj1 _ (uC_ dp) ec.out (uC_ df) ee.out (uC_ m8) re.out A2.out).mono ?_);rintro e w5 ⟨rfl,hb⟩;refine⟨_,rfl,?_⟩;replace ff6:=bb_ ff6 hb;replace HB:=hs_ (ef2) hb))
 go_ret
 exact⟨g4_,ef2⟩
def F8.f (a0:Int) (a1:Int) (a2:Int):Option (Bool):=if a0 ≥ a1 then(some (decide (a0<=a2))) else(some false)
set_option maxHeartbeats 8000000 in
set_option maxRecDepth 100000 in
theorem F8.calls (a0:Int) (a1:Int) (a2:Int) (r:Bool) (w:World) (h:F8.f a0 a1 a2=some r) :
  Calls Try.prog 65 #[.int .i64 a0, .int .i64 a1, .int .i64 a2] w fun e w'=>e = .returned (.bool r)/\Drawn0 w w':=by
 have H:=h
 unfold F8.f at H
 clear h
 by_cases c4:a0 ≥ a1
 ·rw[if_pos c4] at H
  have qh:=decide_eq_true c4
  clear c4
  obtain rfl:=Option.some.inj H
  go_enter Try.func65,Try.ntmps65
  go_wp2
  go_ret
  exact⟨g3_,g5_⟩
 rw[if_neg c4] at H
 have qh:=decide_eq_false c4
 clear c4
 obtain rfl:=Option.some.inj H
 go_enter Try.func65,Try.ntmps65
 go_wp2
 go_ret
 exact⟨g3_,g5_⟩
mutual
def Fh.j0:Nat->Bool->List Int->List (List Int)->Option (Bool)
 | 0,_,_,_=>none
 | k + 1,x18,ap6,aa5=>if x18=true then(some false) else(Fh.l0 k 0 ap6 aa5)
def Fh.l0:Nat->Int->List Int->List (List Int)->Option (Bool)
 | 0,_,_,_=>none
 | k + 1,x3,ap6,aa5=>if x3 < (ap6.length:Int) then(if 0<=x3 then((F8.f (rd ap6 x3) 0 20).bind fun ff7=>(if ff7=true then(if x3 < (aa5.length:Int) then(if ((Jb aa5 x3).length:Int)=(ap6.length:Int) then(if x3 < ((Jb aa5 x3).length:Int) then(Fh.j2 k x3 ((rd (Jb aa5 x3) x3) != 0) ap6 aa5) else(none)) else(Fh.j2 k x3 true ap6 aa5)) else(none)) else(Fh.j2 k x3 true ap6 aa5))) else(none)) else(some true)
def Fh.j2:Nat->Int->Bool->List Int->List (List Int)->Option (Bool)
 | 0,_,_,_,_=>none
 | k + 1,x3,x55,ap6,aa5=>if x55=true then(some false) else(Fh.l1 k x3 0 ap6 aa5)
def Fh.l1:Nat->Int->Int->List Int->List (List Int)->Option (Bool)
 | 0,_,_,_,_=>none
 | k + 1,x3,x4,ap6,aa5=>if 0<=x3 then(if x3 < (aa5.length:Int) then(if x4 < ((Jb aa5 x3).length:Int) then(if 0<=x4 then((F8.f (rd (Jb aa5 x3) x4) 0 9).bind fun ff8=>(if ff8=true then(Fh.l1 k x3 (wrap64 (x4 + 1)) ap6 aa5) else(some false))) else(none)) else(Fh.l0 k (wrap64 (x3 + 1)) ap6 aa5)) else(none)) else(none)
end
def Fh.f (k:Nat) (ab:List Int) (aa:List (List Int)):Option (Bool):=(F8.f (ab.length:Int) 1 4).bind fun dj2=>(if dj2=true then(Fh.j0 k ((aa.length:Int) != (ab.length:Int)) ab aa) else(Fh.j0 k true ab aa))
def Fh.T6:Bool × List (List Nat × List Nat):=(true,[([],[]),([0],[0]),([],[]),([1,2],[1,2]),([3],[3]),([4],[4]),([5],[5]),([6,5],[6]),([7],[7]),([8,7],[7,8]),([7],[7]),([9,10,7],[7,9,10]),([11,7],[7,11]),([12,7],[7,12]),([7],[7]),([14,7],[7,14]),([15,7],[7,15]),([13,16,7],[7,13,16]),([7,17],[7,17]),([18,7],[18]),([19],[19]),([20,19],[19,20]),([19],[19]),([21,22,19],[19,21,22]),([23,19],[19,23]),([19],[19]),([24,25,19],[19,24,25]),([26,19],[19,26]),([27,19],[19,27]),([19,28],[19,28])])
def Fh.B6:List Nat:=[0,1,0,7,15,31,63,127,255,511,255,2047,4095,8191,255,16639,49407,131071,262143,524287,1048575,2097151,1048575,8388607,16777215,1048575,67108863,134217727,268435455,536870911]
theorem Fh.tab6:rtab .any (opsOf Try.f42 6)=Fh.T6:=by kernel_rfl
theorem Fh.bits6:waitsOk Fh.T6.2 Fh.B6=true:=by kernel_rfl
theorem af9 {p:Prop} (h:p:=by repeat(first|(with_reducible first|exact HB.out|apply G3|apply G2|apply G1|refine G0 ?_ jg2.out)|exact HB.out)):p:=h
set_option maxHeartbeats 8000000 in
set_option maxRecDepth 100000 in
theorem Fh.calls (k:Nat) (ah:Option Addr) (af:Nat) (ab:List Int) (ao:Option Addr) (ai:Nat) (aa:List (List Int)) (r:Bool) (w:World) (d4:Kd.C (Kd.int .i64) w ah ab.length ab) (d9:ab.length<=af) (d5:Kd.C (Kd.slice 3 (Kd.int .i64)) w ao aa.length aa) (ea:aa.length<=ai) (h:Fh.f k ab aa=some r) :
  Calls Try.prog 42 #[.agg #[.slice ah ab.length af, .slice ao aa.length ai]] w fun e w'=>e = .returned (.bool r)/\Below w.heap.size w w':=by
 have hu25:=Try.underlying25
 have dp:=A_ d4
 have ec:=A_ d9
 clear d4 d9
 have df:=A_ d5
 have ee:=A_ ea
 clear d5 ea
 have HB:=A_ (Below.refl w.heap.size w)
 have H:=h
 unfold Fh.f at H
 clear h
 have HC2:=A_ H
 clear H
 go_enter Try.func42,Try.ntmps42
 go_upto_region 1 with(first|((with_reducible refine gd_ 1 ?_);(try(refine gate_guard (by rfl) ?_;dsimp only));refine bx_ (N:=1) #[.slice ah ab.length af, .slice ao aa.length ai] 25 ?_;intro au8 hg w3 hbox hb;have li:=A_ (hbox);have mf3:=A_ ((by rw[hg];exact(Gz (af9)):w.heap.size<=au8));have jg2:=mf3;replace HB:=hs_ (af9) hb;clear hb hbox hg))
 (try simp only[Act.put,List.setIfInBounds_toArray,List.set_cons_zero,List.set_cons_succ])
 go_cut [18] (fun v18 wc=>∃(kq:Nat) (eh4:Bool),v18 = .bool eh4/\Gx (Fh.j0 kq eh4 ab aa=some r)/\Gx (kq<=k)/\Gx (hc_ wc au8 #[(.slice ah ab.length af),(.slice ao aa.length ai)] 25)/\Gx (Below w.heap.size w wc))
 case first=>
  have H:=HC2.out
  clear HC2
  obtain⟨dj2,A4,H⟩:=bind_ H
  by_cases c5:dj2=true
  ·subst c5
   replace H:=ifp_ H
   have H':=A_ H
   clear H
   obtain⟨ap7,ap8,bb9,ap9⟩:=blk2_ li
   go_wp2_with (first|((with_reducible refine gc_ 65 ?_);refine gl_ 8 Try.func65 #[.int .i64 (ab.length:Int), .int .i64 1, .int .i64 4] ?_;(with_reducible refine(F8.calls (ab.length:Int) 1 4 true _ A4.out).mono ?_);rintro e w' ⟨rfl,⟨nd,rfl⟩⟩;refine⟨_,rfl,?_⟩))
   go_meet
   case rel=>exact⟨_,(((aa.length:Int) != (ab.length:Int))),(g3_),H',⟨g9_⟩,⟨uB_ li⟩,⟨af9⟩⟩
  replace c5:=Bool.eq_false_iff.mpr c5
  subst c5
  replace H:=ifn_ H
  have H':=A_ H
  clear H
  obtain⟨ad2,ad3,ad4,ad5⟩:=blk2_ li
  go_wp2_with (first|((with_reducible refine gc_ 65 ?_);refine gl_ 8 Try.func65 #[.int .i64 (ab.length:Int), .int .i64 1, .int .i64 4] ?_;(with_reducible refine(F8.calls (ab.length:Int) 1 4 false _ A4.out).mono ?_);rintro e w' ⟨rfl,⟨nd,rfl⟩⟩;refine⟨_,rfl,?_⟩))
  go_meet
  case rel=>exact⟨_,(true),(g3_),H',⟨g9_⟩,⟨uB_ li⟩,⟨af9⟩⟩
 clear HC2
 obtain⟨kq,eh4,rfl,HA,HJ1,li,HB⟩:=hcut
 cases kq with
 | zero=>exact absurd HA.out (by simp[Fh.j0])
 | succ kj1=>?_
 have H:=HA.out
 clear HA
 simp only[Fh.j0] at H
 by_cases c8:eh4=true
 ·subst c8
  replace H:=ifp_ H
  obtain rfl:=Option.some.inj H
  go_wp2
  go_ret
  exact⟨g4_,af9⟩
 replace c8:=Bool.eq_false_iff.mpr c8
 subst c8
 replace H:=ifn_ H
 have H':=A_ H
 clear H
 go_wp2
 go_loopg [3] kj1 (fun kq v3 w'=>∃(ez:Int),v3 = .int .i64 ez/\Gx (Fh.l0 kq ez ab aa=some r)/\Gx (kq<=kj1)/\Gx (hc_ w' au8 #[(.slice ah ab.length af),(.slice ao aa.length ai)] 25)/\Gx (Below w.heap.size w w'))
 case atStart=>exact⟨(0),(g3_),H',⟨Nat.le_refl _⟩,⟨uB_ li⟩,⟨af9⟩⟩
 clear H'
 obtain⟨ez,rfl,HA,HK2,li,HB⟩:=hrel
 cases gk with
 | zero=>exact absurd HA.out (by simp[Fh.l0])
 | succ k2=>?_
 have H:=HA.out
 clear HA
 simp only[Fh.l0] at H
 by_cases c9:ez < (ab.length:Int)
 case neg=>
  rw[if_neg c9] at H
  have cg2:=decide_eq_false c9
  clear c9
  obtain rfl:=Option.some.inj H
  obtain⟨ch0,ch1,ch2,ch3⟩:=blk2_ li
  go_wp2
  go_ret
  exact⟨g4_,af9⟩
 rw[if_pos c9] at H
 have cg2:=decide_eq_true c9
 clear c9
 have ff9:=A_ H
 clear H
 obtain⟨au3,au4,au5,au6⟩:=blk2_ li
 go_upto_region 6 with(fail)
 go_cut [55] (fun v55 wc=>∃(kq:Nat) (eh5:Bool),v55 = .bool eh5/\Gx (Fh.j2 kq ez eh5 ab aa=some r)/\Gx (kq<=k2)/\Gx (hc_ wc au8 #[(.slice ah ab.length af),(.slice ao aa.length ai)] 25)/\Gx (Below w.heap.size w wc))
 case first=>
  have H:=ff9.out
  clear ff9
  obtain⟨au7,H⟩:=pd_ H
  (first|rw[au7]|(simp only[i64_w,i32_w];rw[au7])|skip)
  obtain⟨ff7,A13,H⟩:=bind_ H
  by_cases iw:ff7=true
  case neg=>
   replace iw:=Bool.eq_false_iff.mpr iw
   subst iw
   replace H:=ifn_ H
   have H':=A_ H
   clear H
   try go_wp2
   replace li:=bd_ li
   replace HB:=A_ (G1 HB.out)
   obtain⟨⟨bx8,dj3,ae0⟩,aq0,aq1⟩:=rdp_ (Kd.at_int dp.out ez)
   have bx9:=ae0
   cases dj3
   replace ae0:=cl_ HB ae0
   refine start_ (n:=30) (S:=fun w'=>w'.cell? ⟨au8,0,none⟩=some (.slice (some bx8) ab.length af)/\w'.cell? ⟨au8,1,none⟩=some (.slice ao aa.length ai)/\w'.cell? (bx8.add (ez).toNat)=some (.int .i64 (rd ab ez))) (ds:=[]) (tl_ 30 0) (g0_) rfl (g0_) ⟨(Gy li.out 0).trans rfl,(Gy li.out 1).trans rfl,((cl_ HB bx9).trans rfl)⟩ (fun hHeld=>?_);refine Jl Fh.tab6 Fh.bits6 (fun HT_ HW_=>?_)
   generalize wr.drew=j4 at li HB ae0 hHeld |-
   refine pw_ 0 26 (tl_ 30 1) ?_
   refine pw_ 2 28 (tl_ 30 5) ?_
   refine tk3_ 1 27 (tl_ 30 7) hHeld ?_
   refine pw_ 3 29 (tl_ 30 15) ?_
   refine tk3_ 4 30 (tl_ 30 31) hHeld ?_
   refine one_ (i:=5) (N:=some 31) (tl_ 30 63) rfl rfl (Jn HT_.out (g0_)) (by decide) (fun K hK=>?_)
   refine goes_ Try.func65 (g0_) rfl #[.int .i64 (rd ab ez), .int .i64 0, .int .i64 20] (by rfl) rfl rfl (gM_) ?_
   with_reducible refine(F8.calls (rd ab ez) 0 20 false _ A13.out).mono ?_
   rintro e w' ⟨rfl,⟨nd,rfl⟩⟩
   refine⟨_,rfl,?_⟩
   refine hK.out _ _ ⟨(Gy li.out 0).trans rfl,(Gy li.out 1).trans rfl,((cl_ HB bx9).trans rfl)⟩ (fun hHeld=>?_)
   clear hK K
   refine nm_ ?_
   refine pw_ 6 32 (tl_ 30 127) ?_
   refine pw_ 7 33 (tl_ 30 255) ?_
   refine pu_ 8 34 (tl_ 30 511) ?_
   refine pu_ 9 35 (tl_ 30 1023) ?_
   refine pu_ 10 36 (tl_ 30 2047) ?_
   refine pu_ 11 37 (tl_ 30 4095) ?_
   refine pu_ 12 38 (tl_ 30 8191) ?_
   refine pu_ 13 39 (tl_ 30 16383) ?_
   refine pu_ 14 40 (tl_ 30 32767) ?_
   refine pu_ 15 41 (tl_ 30 65535) ?_
   refine pu_ 16 42 (tl_ 30 131071) ?_
   refine pu_ 17 43 (tl_ 30 262143) ?_
   refine pw_ 18 44 (tl_ 30 524287) ?_
   refine pw_ 19 45 (tl_ 30 1048575) ?_
   refine pu_ 20 46 (tl_ 30 2097151) ?_
   refine pu_ 21 47 (tl_ 30 4194303) ?_
   refine pu_ 22 48 (tl_ 30 8388607) ?_
   refine pu_ 23 49 (tl_ 30 16777215) ?_
   refine pu_ 24 50 (tl_ 30 33554431) ?_
   refine pu_ 25 51 (tl_ 30 67108863) ?_
   refine pu_ 26 52 (tl_ 30 134217727) ?_
   refine pu_ 27 53 (tl_ 30 268435455) ?_
   refine pu_ 28 54 (tl_ 30 536870911) ?_
   refine pw_ 29 55 (tl_ 30 1073741823) ?_
   refine done_ (done_of HT_.out (g0_)) ?_
   try go_wp2
   go_meet
   case rel=>exact⟨_,(true),(g3_),H',⟨g85_⟩,⟨uB_ li⟩,⟨af9⟩⟩
  subst iw
  replace H:=ifp_ H
  obtain⟨qv,H⟩:=pd_ H
  by_cases jt:((Jb aa ez).length:Int)=(ab.length:Int)
  case neg=>
   rw[if_neg jt] at H
   have ag0:(((Jb aa ez).length:Int) == (ab.length:Int))=false:=beq_eq_false_iff_ne.mpr jt
   have fg0:(((Jb aa ez).length:Int) != (ab.length:Int))=true:=bne_iff_ne.mpr jt
   have fg1:((Jb aa ez).length == ab.length)=false:=by first|simpa using jt|(simp at jt |-;omega)
   have H':=A_ H
   clear H
   try go_wp2
   replace li:=bd_ li
   replace HB:=A_ (G1 HB.out)
   obtain⟨⟨bx8,dj3,ae0⟩,aq0,aq1⟩:=rdp_ (Kd.at_int dp.out ez)
   have bx9:=ae0
   cases dj3
   replace ae0:=cl_ HB ae0
   obtain⟨⟨ch8,gu7,eh6,fg2,au9,dj4,dj5⟩,bn5,bn6⟩:=rdp_ (at_L1 df.out ez)
   have dj6:=au9
   cases fg2
   replace au9:=cl_ HB au9
   have fg3:=A_ dj5
   have jg3:=A_ dj4
   clear dj5 dj4
   refine start_ (n:=30) (S:=fun w'=>w'.cell? ⟨au8,0,none⟩=some (.slice (some bx8) ab.length af)/\w'.cell? ⟨au8,1,none⟩=some (.slice (some ch8) aa.length ai)/\w'.cell? (bx8.add (ez).toNat)=some (.int .i64 (rd ab ez))/\w'.cell? (ch8.add (ez).toNat)=some (.slice gu7 (Jb aa ez).length eh6)) (ds:=[]) (tl_ 30 0) (g0_) rfl (g0_) ⟨(Gy li.out 0).trans rfl,(Gy li.out 1).trans rfl,((cl_ HB bx9).trans rfl),((cl_ HB dj6).trans rfl)⟩ (fun hHeld=>?_);refine Jl Fh.tab6 Fh.bits6 (fun HT_ HW_=>?_)
   generalize wr.drew=my at li HB fg3 ae0 au9 hHeld |-
   refine pw_ 0 26 (tl_ 30 1) ?_
   refine pw_ 2 28 (tl_ 30 5) ?_
   refine tk2_ 1 27 (tl_ 30 7) hHeld ?_
   refine pw_ 3 29 (tl_ 30 15) ?_
   refine tk2_ 4 30 (tl_ 30 31) hHeld ?_
   refine one_ (i:=5) (N:=some 31) (tl_ 30 63) rfl rfl (Jn HT_.out (g0_)) (by decide) (fun K hK=>?_)
   refine goes_ Try.func65 (g0_) rfl #[.int .i64 (rd ab ez), .int .i64 0, .int .i64 20] (by rfl) rfl rfl (gM_) ?_
   with_reducible refine(F8.calls (rd ab ez) 0 20 true _ A13.out).mono ?_
   rintro e w' ⟨rfl,⟨nd,rfl⟩⟩
   refine⟨_,rfl,?_⟩
   refine hK.out _ _ ⟨(Gy li.out 0).trans rfl,(Gy li.out 1).trans rfl,((cl_ HB bx9).trans rfl),((cl_ HB dj6).trans rfl)⟩ (fun hHeld=>?_)
   clear hK K
   refine nm_ ?_
   refine pw_ 6 32 (tl_ 30 127) ?_
   refine pw_ 7 33 (tl_ 30 255) ?_
   refine pw_ 8 34 (tl_ 30 511) ?_
   refine pw_ 10 36 (tl_ 30 1535) ?_
   refine pw_ 14 40 (tl_ 30 17919) ?_
   refine tk2_ 9 35 (tl_ 30 18431) hHeld ?_
   refine pw_ 11 37 (tl_ 30 20479) ?_
   refine tk2_ 12 38 (tl_ 30 24575) hHeld ?_
   refine pw_ 13 39 (tl_ 30 32767) ?_
   refine tk2_ 15 41 (tl_ 30 65535) hHeld ?_
   refine pw_ 16 42 (tl_ 30 131071) ?_
   refine pw_ 17 43 (tl_ 30 262143) ?_
   refine pw_ 18 44 (tl_ 30 524287) ?_
   refine pw_ 19 45 (tl_ 30 1048575) ?_
   refine pu_ 20 46 (tl_ 30 2097151) ?_
   refine pu_ 21 47 (tl_ 30 4194303) ?_
   refine pu_ 22 48 (tl_ 30 8388607) ?_
   refine pu_ 23 49 (tl_ 30 16777215) ?_
   refine pu_ 24 50 (tl_ 30 33554431) ?_
   refine pu_ 25 51 (tl_ 30 67108863) ?_
   refine pu_ 26 52 (tl_ 30 134217727) ?_
   refine pu_ 27 53 (tl_ 30 268435455) ?_
   refine pu_ 28 54 (tl_ 30 536870911) ?_
   refine pw_ 29 55 (tl_ 30 1073741823) ?_
   refine done_ (done_of HT_.out (g0_)) ?_
   try go_wp2
   go_meet
   case rel=>exact⟨_,(true),(g3_),H',⟨g85_⟩,⟨uB_ li⟩,⟨af9⟩⟩
  rw[if_pos jt] at H
  have ag0:(((Jb aa ez).length:Int) == (ab.length:Int))=true:=beq_iff_eq.mpr jt
  have fg0:(((Jb aa ez).length:Int) != (ab.length:Int))=false:=bne_eq_false_iff_eq.mpr jt
  have fg1:((Jb aa ez).length == ab.length)=true:=by first|simpa using jt|(simp at jt |-;omega)
  clear jt
  obtain⟨ad6,H⟩:=pd_ H
  have H':=A_ H
  clear H
  try go_wp2
  replace li:=bd_ li
  replace HB:=A_ (G1 HB.out)
  obtain⟨⟨bx8,dj3,ae0⟩,aq0,aq1⟩:=rdp_ (Kd.at_int dp.out ez)
  have bx9:=ae0
  cases dj3
  replace ae0:=cl_ HB ae0
  obtain⟨⟨ch8,gu7,eh6,fg2,au9,dj4,dj5⟩,bn5,bn6⟩:=rdp_ (at_L1 df.out ez)
  have dj6:=au9
  cases fg2
  replace au9:=cl_ HB au9
  have fg3:=A_ dj5
  have jg3:=A_ dj4
  clear dj5 dj4
  obtain⟨⟨jg4,mf4,mf5,jg5,dj7,gu8,gu9⟩,fg4,fg5⟩:=rdp_ (at_L1 df.out ez)
  have gv0:=dj7
  obtain rfl:ch8=jg4:=(by injection jg5)
  replace dj7:=cl_ HB dj7
  have gv1:=A_ gu9
  have mf6:=A_ gu8
  clear gu9 gu8
  have ea_:=Option.some.inj (au9.symm.trans dj7)
  injection ea_ with ea_ en_ ec_
  subst ea_
  subst ec_
  clear en_
  obtain⟨⟨fg8,jg6,eh7⟩,fg6,fg7⟩:=rdp_ (Kd.at_int gv1.out ez)
  have gv2:=eh7
  cases jg6
  replace eh7:=cl_ HB eh7
  refine start_ (n:=30) (S:=fun w'=>w'.cell? ⟨au8,0,none⟩=some (.slice (some bx8) ab.length af)/\w'.cell? ⟨au8,1,none⟩=some (.slice (some ch8) aa.length ai)/\w'.cell? (bx8.add (ez).toNat)=some (.int .i64 (rd ab ez))/\w'.cell? (ch8.add (ez).toNat)=some (.slice (some fg8) (Jb aa ez).length eh6)/\w'.cell? (ch8.add (ez).toNat)=some (.slice (some fg8) (Jb aa ez).length eh6)/\w'.cell? (fg8.add (ez).toNat)=some (.int .i64 (rd (Jb aa ez) ez))) (ds:=[]) (tl_ 30 0) (g0_) rfl (g0_) ⟨(Gy li.out 0).trans rfl,(Gy li.out 1).trans rfl,((cl_ HB bx9).trans rfl),((cl_ HB dj6).trans rfl),((cl_ HB gv0).trans rfl),((cl_ HB gv2).trans rfl)⟩ (fun hHeld=>?_);refine Jl Fh.tab6 Fh.bits6 (fun HT_ HW_=>?_)
  generalize wr.drew=rf at li HB fg3 gv1 ae0 au9 dj7 eh7 hHeld |-
  refine pw_ 0 26 (tl_ 30 1) ?_
  refine pw_ 2 28 (tl_ 30 5) ?_
  refine tk1_ 1 27 (tl_ 30 7) hHeld ?_
  refine pw_ 3 29 (tl_ 30 15) ?_
  refine tk1_ 4 30 (tl_ 30 31) hHeld ?_
  refine one_ (i:=5) (N:=some 31) (tl_ 30 63) rfl rfl (Jn HT_.out (g0_)) (by decide) (fun K hK=>?_)
  refine goes_ Try.func65 (g0_) rfl #[.int .i64 (rd ab ez), .int .i64 0, .int .i64 20] (by rfl) rfl rfl (gM_) ?_
  with_reducible refine(F8.calls (rd ab ez) 0 20 true _ A13.out).mono ?_
  rintro e w' ⟨rfl,⟨nd,rfl⟩⟩
  refine⟨_,rfl,?_⟩
  refine hK.out _ _ ⟨(Gy li.out 0).trans rfl,(Gy li.out 1).trans rfl,((cl_ HB bx9).trans rfl),((cl_ HB dj6).trans rfl),((cl_ HB gv0).trans rfl),((cl_ HB gv2).trans rfl)⟩ (fun hHeld=>?_)
  clear hK K
  refine nm_ ?_
  refine pw_ 6 32 (tl_ 30 127) ?_
  refine pw_ 7 33 (tl_ 30 255) ?_
  refine pw_ 8 34 (tl_ 30 511) ?_
  refine pw_ 10 36 (tl_ 30 1535) ?_
  refine pw_ 14 40 (tl_ 30 17919) ?_
  refine tk1_ 9 35 (tl_ 30 18431) hHeld ?_
  refine pw_ 11 37 (tl_ 30 20479) ?_
  refine tk1_ 12 38 (tl_ 30 24575) hHeld ?_
  refine pw_ 13 39 (tl_ 30 32767) ?_
  refine tk1_ 15 41 (tl_ 30 65535) hHeld ?_
  refine pw_ 16 42 (tl_ 30 131071) ?_
  refine pw_ 17 43 (tl_ 30 262143) ?_
  refine pw_ 18 44 (tl_ 30 524287) ?_
  refine pw_ 19 45 (tl_ 30 1048575) ?_
  refine pw_ 20 46 (tl_ 30 2097151) ?_
  refine pw_ 22 48 (tl_ 30 6291455) ?_
  refine pw_ 25 51 (tl_ 30 39845887) ?_
  refine tk1_ 21 47 (tl_ 30 41943039) hHeld ?_
  refine pw_ 23 49 (tl_ 30 50331647) ?_
  refine tk1_ 24 50 (tl_ 30 67108863) hHeld ?_
  refine pw_ 26 52 (tl_ 30 134217727) ?_
  refine tk1_ 27 53 (tl_ 30 268435455) hHeld ?_
  refine pw_ 28 54 (tl_ 30 536870911) ?_
  refine pw_ 29 55 (tl_ 30 1073741823) ?_
  refine done_ (done_of HT_.out (g0_)) ?_
  try go_wp2
  go_meet
  case rel=>exact⟨_,(((rd (Jb aa ez) ez) != 0)),(g3_),H',⟨g85_⟩,⟨uB_ li⟩,⟨af9⟩⟩
 clear ff9
 obtain⟨kq,eh5,rfl,HA,HJ9,li,HB⟩:=hcut
 cases kq with
 | zero=>exact absurd HA.out (by simp[Fh.j2])
 | succ kj9=>?_
 have H:=HA.out
 clear HA
 simp only[Fh.j2] at H
 by_cases og:eh5=true
 ·subst og
  replace H:=ifp_ H
  obtain rfl:=Option.some.inj H
  go_wp2
  go_ret
  exact⟨g4_,af9⟩
 replace og:=Bool.eq_false_iff.mpr og
 subst og
 replace H:=ifn_ H
 have H':=A_ H
 clear H
 go_wp2
 go_loopg [4] kj9 (fun kq v4 w'=>∃(ag1:Int),v4 = .int .i64 ag1/\Gx (Fh.l1 kq ez ag1 ab aa=some r)/\Gx (kq<=kj9)/\Gx (hc_ w' au8 #[(.slice ah ab.length af),(.slice ao aa.length ai)] 25)/\Gx (Below w.heap.size w w'))
 case atStart=>exact⟨(0),(g3_),H',⟨Nat.le_refl _⟩,⟨uB_ li⟩,⟨af9⟩⟩
 clear H'
 obtain⟨ag1,rfl,HA,HK4,li,HB⟩:=hrel
 cases gk with
 | zero=>exact absurd HA.out (by simp[Fh.l1])
 | succ k4=>?_
 have H:=HA.out
 clear HA
 simp only[Fh.l1] at H
 obtain⟨bc0,H⟩:=pd_ H
 obtain⟨bn7,H⟩:=pd_ H
 by_cases kr:ag1 < ((Jb aa ez).length:Int)
 case neg=>
  rw[if_neg kr] at H
  have ad9:=decide_eq_false kr
  clear kr
  have H':=A_ H
  clear H
  obtain⟨cg6,cg7,cg8,cg9⟩:=blk2_ li
  obtain⟨⟨eh8,gv7,gv8,dj8,bh9,by0,by1⟩,bc1,bc2⟩:=rdp_ (at_L1 df.out ez)
  cases dj8
  replace bh9:=cl_ HB bh9
  have gv9:=A_ by1
  have gw0:=A_ by0
  clear by1 by0
  go_wp2
  go_roundg k4
  case measure=>have:=HJ1.out;have:=HK2.out;have:=HJ9.out;have:=HK4.out;omega
  case rel=>exact⟨(wrap64 (ez + 1)),(g3_),H',⟨by have:=HJ1.out;have:=HK2.out;have:=HJ9.out;have:=HK4.out;omega⟩,⟨uB_ li⟩,⟨af9⟩⟩
 rw[if_pos kr] at H
 have ad9:=decide_eq_true kr
 clear kr
 obtain⟨bh8,H⟩:=pd_ H
 obtain⟨ff8,A26,H⟩:=bind_ H
 by_cases ox:ff8=true
 ·subst ox
  replace H:=ifp_ H
  have H':=A_ H
  clear H
  obtain⟨gv3,gv4,gv5,gv6⟩:=blk2_ li
  obtain⟨⟨eh8,gv7,gv8,dj8,bh9,by0,by1⟩,bc1,bc2⟩:=rdp_ (at_L1 df.out ez)
  cases dj8
  replace bh9:=cl_ HB bh9
  have gv9:=A_ by1
  have gw0:=A_ by0
  clear by1 by0
  obtain⟨⟨fg9,jg8,jg9,fh0,ci1,dj9,dk0⟩,ch9,ci0⟩:=rdp_ (at_L1 df.out ez)
  obtain rfl:eh8=fg9:=(by injection fh0)
  replace ci1:=cl_ HB ci1
  have fh1:=A_ dk0
  have jh0:=A_ dj9
  clear dk0 dj9
  have ea_:=Option.some.inj (bh9.symm.trans ci1)
  injection ea_ with ea_ en_ ec_
  subst ea_
  subst ec_
  clear en_
  obtain⟨⟨jh1,fh2,dk1⟩,ci2,ci3⟩:=rdp_ (Kd.at_int fh1.out ag1)
  cases fh2
  replace dk1:=cl_ HB dk1
  go_wp2_with (first|((with_reducible refine gc_ 65 ?_);refine gl_ 74 Try.func65 #[.int .i64 (rd (Jb aa ez) ag1), .int .i64 0, .int .i64 9] ?_;(with_reducible refine(F8.calls (rd (Jb aa ez) ag1) 0 9 true _ A26.out).mono ?_);rintro e w' ⟨rfl,⟨nd,rfl⟩⟩;refine⟨_,rfl,?_⟩))
  go_roundg k4
  case measure=>have:=HJ1.out;have:=HK2.out;have:=HJ9.out;have:=HK4.out;omega
  case rel=>exact⟨(wrap64 (ag1 + 1)),(g3_),H',⟨by have:=HJ1.out;have:=HK2.out;have:=HJ9.out;have:=HK4.out;omega⟩,⟨uB_ li⟩,⟨af9⟩⟩
 replace ox:=Bool.eq_false_iff.mpr ox
 subst ox
 replace H:=ifn_ H
 obtain rfl:=Option.some.inj H
 obtain⟨eh9,ei0,ei1,ei2⟩:=blk2_ li
 obtain⟨⟨eh8,gv7,gv8,dj8,bh9,by0,by1⟩,bc1,bc2⟩:=rdp_ (at_L1 df.out ez)
 cases dj8
 replace bh9:=cl_ HB bh9
 have gv9:=A_ by1
 have gw0:=A_ by0
 clear by1 by0
 obtain⟨⟨fg9,jg8,jg9,fh0,ci1,dj9,dk0⟩,ch9,ci0⟩:=rdp_ (at_L1 df.out ez)
 obtain rfl:eh8=fg9:=(by injection fh0)
 replace ci1:=cl_ HB ci1
 have fh1:=A_ dk0
 have jh0:=A_ dj9
 clear dk0 dj9
 have ea_:=Option.some.inj (bh9.symm.trans ci1)
 injection ea_ with ea_ en_ ec_
 subst ea_
 subst ec_
 clear en_
 obtain⟨⟨jh1,fh2,dk1⟩,ci2,ci3⟩:=rdp_ (Kd.at_int fh1.out ag1)
 cases fh2
 replace dk1:=cl_ HB dk1
 go_wp2_with (first|((with_reducible refine gc_ 65 ?_);refine gl_ 74 Try.func65 #[.int .i64 (rd (Jb aa ez) ag1), .int .i64 0, .int .i64 9] ?_;(with_reducible refine(F8.calls (rd (Jb aa ez) ag1) 0 9 false _ A26.out).mono ?_);rintro e w' ⟨rfl,⟨nd,rfl⟩⟩;refine⟨_,rfl,?_⟩))
 go_ret
 exact⟨g4_,af9⟩
def Fw.l0:Nat->Int->List Int->List (List Int)->List (S25)->Option (Bool)
 | 0,_,_,_,_=>none
 | k + 1,x3,fh3,gw1,cv4=>if x3 < (cv4.length:Int) then(if 0<=x3 then((Fh.f k ((Jc cv4 x3).f0) ((Jc cv4 x3).f1)).bind fun fh4=>(if fh4=true then(if (((Jc cv4 x3).f0).length:Int)=(fh3.length:Int) then(Fw.l0 k (wrap64 (x3 + 1)) fh3 gw1 cv4) else(some false)) else(some false))) else(none)) else((Fh.f k fh3 gw1).bind fun pn=>(if pn=true then(some (decide ((cv4.length:Int)<=8))) else(some false)))
def Fw.f (k:Nat) (ab:List Int) (aa:List (List Int)) (av:List (S25)):Option (Bool):=Fw.l0 k 0 ab aa av
def Fw.T4:Bool × List (List Nat × List Nat):=(true,[([],[]),([0],[0]),([],[]),([1,2],[1,2]),([3],[3]),([4],[4]),([5],[5]),([6,5],[6]),([7],[7]),([8,7],[7,8]),([7],[7]),([9,10,7],[7,9,10]),([11,7],[7,11]),([12,7],[7,12]),([13,7],[7,13]),([7],[7]),([15,7],[7,15]),([16,7],[7,16]),([17,7],[7,17]),([14,18,7],[7,14,18]),([7,19],[7,19])])
def Fw.B4:List Nat:=[0,1,0,7,15,31,63,127,255,511,255,2047,4095,8191,16383,255,33023,98559,229631,524287,1048575]
theorem Fw.tab4:rtab .any (opsOf Try.f28 4)=Fw.T4:=by kernel_rfl
theorem Fw.bits4:waitsOk Fw.T4.2 Fw.B4=true:=by kernel_rfl
theorem ao3 {p:Prop} (h:p:=by repeat(first|(with_reducible first|exact HB.out|apply G3|apply G2|apply G1|refine G0 ?_ jh2.out)|exact HB.out)):p:=h
set_option maxHeartbeats 8000000 in
set_option maxRecDepth 100000 in
theorem Fw.calls (k:Nat) (ah:Option Addr) (af:Nat) (ab:List Int) (ao:Option Addr) (ai:Nat) (aa:List (List Int)) (cy:Option Addr) (cu:Nat) (av:List (S25)) (r:Bool) (w:World) (d4:Kd.C (Kd.int .i64) w ah ab.length ab) (d9:ab.length<=af) (d5:Kd.C (Kd.slice 3 (Kd.int .i64)) w ao aa.length aa) (ea:aa.length<=ai) (l6:Kd.C k25 w cy av.length av) (l7:av.length<=cu) (h:Fw.f k ab aa av=some r) :
  Calls Try.prog 28 #[.agg #[.slice ah ab.length af, .slice ao aa.length ai, .slice cy av.length cu]] w fun e w'=>e = .returned (.bool r)/\Below w.heap.size w w':=by
 have hu28:=Try.underlying28
 have hu25:=Try.underlying25
 have dp:=A_ d4
 have ec:=A_ d9
 clear d4 d9
 have df:=A_ d5
 have ee:=A_ ea
 clear d5 ea
 have m8:=A_ l6
 have re:=A_ l7
 clear l6 l7
 have HB:=A_ (Below.refl w.heap.size w)
 have H:(Fw.l0 k 0 ab aa av)=some r:=h
 clear h
 have H':=A_ H
 clear H
 go_enter Try.func28,Try.ntmps28
 go_wp2_with (first|((with_reducible refine gd_ 1 ?_);(try(refine gate_guard (by rfl) ?_;dsimp only));refine bx_ (N:=1) #[.slice ah ab.length af, .slice ao aa.length ai, .slice cy av.length cu] 28 ?_;intro av0 hg w2 hbox hb;have j5:=A_ (hbox);have mf7:=A_ ((by rw[hg];exact(Gz (ao3)):w.heap.size<=av0));have jh2:=mf7;replace HB:=hs_ (ao3) hb;clear hb hbox hg))
 go_loopg [3] k (fun kq v3 w'=>∃(fg:Int),v3 = .int .i64 fg/\Gx (Fw.l0 kq fg ab aa av=some r)/\Gx (kq<=k)/\Gx (hc_ w' av0 #[(.slice ah ab.length af),(.slice ao aa.length ai),(.slice cy av.length cu)] 28)/\Gx (Below w.heap.size w w'))
 case atStart=>exact⟨(0),(g3_),H',⟨Nat.le_refl _⟩,⟨uB_ j5⟩,⟨ao3⟩⟩
 clear H'
 obtain⟨fg,rfl,HA,HK1,j5,HB⟩:=hrel
 cases gk with
 | zero=>exact absurd HA.out (by simp[Fw.l0])
 | succ k1=>?_
 have H:=HA.out
 clear HA
 simp only[Fw.l0] at H
 by_cases c3:fg < (av.length:Int)
 case neg=>
  rw[if_neg c3] at H
  have nt:=decide_eq_false c3
  clear c3
  obtain⟨pn,A17,H⟩:=bind_ H
  by_cases k5:pn=true
  ·subst k5
   replace H:=ifp_ H
   obtain rfl:=Option.some.inj H
   obtain⟨dh0,dh1,dh2,dh3,dh4,dh5⟩:=blk3_ j5
   go_wp2_with (first|((with_reducible refine gc_ 42 ?_);refine gl_ 34 Try.func42 #[.agg #[.slice ah ab.length af, .slice ao aa.length ai]] ?_;(refine(Fh.calls k1 _ _ ab _ _ aa true _ (uC_ dp) ec.out (uC_ df) ee.out A17.out).mono ?_);rintro e j4 ⟨rfl,hb⟩;refine⟨_,rfl,?_⟩;replace j5:=bb_ j5 hb;replace HB:=hs_ (ao3) hb;obtain⟨aa2,aa3,bo1,ad7,aa4,bo2⟩:=blk3_ j5))
   go_ret
   exact⟨g4_,ao3⟩
  replace k5:=Bool.eq_false_iff.mpr k5
  subst k5
  replace H:=ifn_ H
  obtain rfl:=Option.some.inj H
  obtain⟨ap2,ap3,ei3,ap4,ap5,ei4⟩:=blk3_ j5
  go_wp2_with (first|((with_reducible refine gc_ 42 ?_);refine gl_ 34 Try.func42 #[.agg #[.slice ah ab.length af, .slice ao aa.length ai]] ?_;(refine(Fh.calls k1 _ _ ab _ _ aa false _ (uC_ dp) ec.out (uC_ df) ee.out A17.out).mono ?_);rintro e w23 ⟨rfl,hb⟩;refine⟨_,rfl,?_⟩;replace j5:=bb_ j5 hb;replace HB:=hs_ (ao3) hb))
  go_ret
  exact⟨g4_,ao3⟩
 rw[if_pos c3] at H
 have nt:=decide_eq_true c3
 clear c3
 obtain⟨qh,H⟩:=pd_ H
 obtain⟨fh4,A5,H⟩:=bind_ H
 by_cases c6:fh4=true
 case neg=>
  replace c6:=Bool.eq_false_iff.mpr c6
  subst c6
  replace H:=ifn_ H
  obtain rfl:=Option.some.inj H
  obtain⟨xv,xw,cv5,xx,xy,cv6⟩:=blk3_ j5
  try go_wp2
  replace j5:=bd_ j5
  replace HB:=A_ (G1 HB.out)
  have bc3:0<=(fg:Int):=od_
  have bc4:fg < (av.length:Int):=od_
  obtain⟨ud,by2,by3,by4,by5,dk2,ak3,ak4,by6,by7,by8,by9⟩:=at_T25 m8.out fg bc3 bc4
  have bz0:=ak4
  have bz1:=ak3
  cases dk2
  replace ak3:=cl_ HB ak3
  replace ak4:=cl_ HB ak4
  have bz2:=A_ by7
  have dk3:=A_ by6
  clear by7 by6
  have bz3:=A_ by9
  have dk4:=A_ by8
  clear by9 by8
  replace bc3:=eq_true bc3
  replace bc4:=eq_true bc4
  refine start_ (n:=21) (S:=fun w'=>w'.cell? ⟨av0,0,none⟩=some (.slice ah ab.length af)/\w'.cell? ⟨av0,1,none⟩=some (.slice ao aa.length ai)/\w'.cell? ⟨av0,2,none⟩=some (.slice (some ud) av.length cu)/\w'.cell? (ud.add ((fg).toNat * 2))=some (.slice by2 ((Jc av fg).f0).length by3)/\w'.cell? ⟨(ud.add ((fg).toNat * 2)).block,(ud.add ((fg).toNat * 2)).off + 1,none⟩=some (.slice by4 ((Jc av fg).f1).length by5)) (ds:=[]) (tl_ 21 0) (g0_) rfl (g0_) ⟨(Gy j5.out 0).trans rfl,(Gy j5.out 1).trans rfl,(Gy j5.out 2).trans rfl,((cl_ HB bz1).trans rfl),((cl_ HB bz0).trans rfl)⟩ (fun hHeld=>?_);refine Jl Fw.tab4 Fw.bits4 (fun HT_ HW_=>?_)
  generalize wr.drew=w15 at j5 HB bz2 bz3 ak3 ak4 hHeld |-
  refine pw_ 0 11 (tl_ 21 1) ?_
  refine pw_ 2 13 (tl_ 21 5) ?_
  refine tk5_ 1 12 (tl_ 21 7) hHeld ?_
  refine pw_ 3 14 (tl_ 21 15) ?_
  refine tk5_ 4 15 (tl_ 21 31) hHeld ?_
  refine one_ (i:=5) (N:=some 16) (tl_ 21 63) rfl rfl (Jn HT_.out (g0_)) (by decide) (fun K hK=>?_)
  refine goes_ Try.func42 (g0_) rfl #[.agg #[.slice by2 ((Jc av fg).f0).length by3, .slice by4 ((Jc av fg).f1).length by5]] (by rfl) rfl rfl (gM_) ?_
  refine(Fh.calls k1 _ _ ((Jc av fg).f0) _ _ ((Jc av fg).f1) false _ (uC_ bz2) dk3.out (uC_ bz3) dk4.out A5.out).mono ?_
  rintro e mt ⟨rfl,hb⟩
  refine⟨_,rfl,?_⟩
  replace j5:=bb_ j5 hb
  replace HB:=hs_ (ao3) hb
  refine hK.out _ _ ⟨(Gy j5.out 0).trans rfl,(Gy j5.out 1).trans rfl,(Gy j5.out 2).trans rfl,((cl_ HB bz1).trans rfl),((cl_ HB bz0).trans rfl)⟩ (fun hHeld=>?_)
  clear hK K
  refine nm_ ?_
  refine pw_ 6 17 (tl_ 21 127) ?_
  refine pw_ 7 18 (tl_ 21 255) ?_
  refine pu_ 8 19 (tl_ 21 511) ?_
  refine pu_ 9 20 (tl_ 21 1023) ?_
  refine pu_ 10 21 (tl_ 21 2047) ?_
  refine pu_ 11 22 (tl_ 21 4095) ?_
  refine pu_ 12 23 (tl_ 21 8191) ?_
  refine pu_ 13 24 (tl_ 21 16383) ?_
  refine pu_ 14 25 (tl_ 21 32767) ?_
  refine pu_ 15 26 (tl_ 21 65535) ?_
  refine pu_ 16 27 (tl_ 21 131071) ?_
  refine pu_ 17 28 (tl_ 21 262143) ?_
  refine pu_ 18 29 (tl_ 21 524287) ?_
  refine pu_ 19 30 (tl_ 21 1048575) ?_
  refine pw_ 20 31 (tl_ 21 2097151) ?_
  refine done_ (done_of HT_.out (g0_)) ?_
  try go_wp2
  go_ret
  exact⟨g4_,ao3⟩
 subst c6
 replace H:=ifp_ H
 by_cases c7:(((Jc av fg).f0).length:Int)=(ab.length:Int)
 ·rw[if_pos c7] at H
  have aa6:((((Jc av fg).f0).length:Int) == (ab.length:Int))=true:=beq_iff_eq.mpr c7
  have bn8:((((Jc av fg).f0).length:Int) != (ab.length:Int))=false:=bne_eq_false_iff_eq.mpr c7
  have jh3:(((Jc av fg).f0).length == ab.length)=true:=by first|simpa using c7|(simp at c7 |-;omega)
  clear c7
  have H':=A_ H
  clear H
  obtain⟨at9,au0,gt6,au1,au2,gt7⟩:=blk3_ j5
  try go_wp2
  replace j5:=bd_ j5
  replace HB:=A_ (G1 HB.out)
  have bc3:0<=(fg:Int):=od_
  have bc4:fg < (av.length:Int):=od_
  obtain⟨ud,by2,by3,by4,by5,dk2,ak3,ak4,by6,by7,by8,by9⟩:=at_T25 m8.out fg bc3 bc4
  have bz0:=ak4
  have bz1:=ak3
  cases dk2
  replace ak3:=cl_ HB ak3
  replace ak4:=cl_ HB ak4
  have bz2:=A_ by7
  have dk3:=A_ by6
  clear by7 by6
  have bz3:=A_ by9
  have dk4:=A_ by8
  clear by9 by8
  replace bc3:=eq_true bc3
  replace bc4:=eq_true bc4
  have ci4:0<=(fg:Int):=od_
  have ci5:fg < (av.length:Int):=od_
  obtain⟨fh5,fh6,fh7,fh8,fh9,fi0,bn9,bo0,dk5,dk6,dk7,dk8⟩:=at_T25 m8.out fg ci4 ci5
  have dk9:=bo0
  have dl0:=bn9
  obtain rfl:ud=fh5:=(by injection fi0)
  replace bn9:=cl_ HB bn9
  replace bo0:=cl_ HB bo0
  have fi1:=A_ dk6
  have jh4:=A_ dk5
  clear dk6 dk5
  have fi2:=A_ dk8
  have jh5:=A_ dk7
  clear dk8 dk7
  replace ci4:=eq_true ci4
  replace ci5:=eq_true ci5
  refine start_ (n:=21) (S:=fun w'=>w'.cell? ⟨av0,0,none⟩=some (.slice ah ab.length af)/\w'.cell? ⟨av0,1,none⟩=some (.slice ao aa.length ai)/\w'.cell? ⟨av0,2,none⟩=some (.slice (some ud) av.length cu)/\w'.cell? (ud.add ((fg).toNat * 2))=some (.slice by2 ((Jc av fg).f0).length by3)/\w'.cell? ⟨(ud.add ((fg).toNat * 2)).block,(ud.add ((fg).toNat * 2)).off + 1,none⟩=some (.slice by4 ((Jc av fg).f1).length by5)/\w'.cell? (ud.add ((fg).toNat * 2))=some (.slice fh6 ((Jc av fg).f0).length fh7)/\w'.cell? ⟨(ud.add ((fg).toNat * 2)).block,(ud.add ((fg).toNat * 2)).off + 1,none⟩=some (.slice fh8 ((Jc av fg).f1).length fh9)) (ds:=[]) (tl_ 21 0) (g0_) rfl (g0_) ⟨(Gy j5.out 0).trans rfl,(Gy j5.out 1).trans rfl,(Gy j5.out 2).trans rfl,((cl_ HB bz1).trans rfl),((cl_ HB bz0).trans rfl),((cl_ HB dl0).trans rfl),((cl_ HB dk9).trans rfl)⟩ (fun hHeld=>?_);refine Jl Fw.tab4 Fw.bits4 (fun HT_ HW_=>?_)
  generalize wr.drew=w9 at j5 HB bz2 bz3 fi1 fi2 ak3 ak4 bn9 bo0 hHeld |-
  refine pw_ 0 11 (tl_ 21 1) ?_
  refine pw_ 2 13 (tl_ 21 5) ?_
  refine tk4_ 1 12 (tl_ 21 7) hHeld ?_
  refine pw_ 3 14 (tl_ 21 15) ?_
  refine tk4_ 4 15 (tl_ 21 31) hHeld ?_
  refine one_ (i:=5) (N:=some 16) (tl_ 21 63) rfl rfl (Jn HT_.out (g0_)) (by decide) (fun K hK=>?_)
  refine goes_ Try.func42 (g0_) rfl #[.agg #[.slice by2 ((Jc av fg).f0).length by3, .slice by4 ((Jc av fg).f1).length by5]] (by rfl) rfl rfl (gM_) ?_
  refine(Fh.calls k1 _ _ ((Jc av fg).f0) _ _ ((Jc av fg).f1) true _ (uC_ bz2) dk3.out (uC_ bz3) dk4.out A5.out).mono ?_
  rintro e w10 ⟨rfl,hb⟩
  refine⟨_,rfl,?_⟩
  replace j5:=bb_ j5 hb
  replace HB:=hs_ (ao3) hb
  refine hK.out _ _ ⟨(Gy j5.out 0).trans rfl,(Gy j5.out 1).trans rfl,(Gy j5.out 2).trans rfl,((cl_ HB bz1).trans rfl),((cl_ HB bz0).trans rfl),((cl_ HB dl0).trans rfl),((cl_ HB dk9).trans rfl)⟩ (fun hHeld=>?_)
  clear hK K
  refine nm_ ?_
  refine pw_ 6 17 (tl_ 21 127) ?_
  refine pw_ 7 18 (tl_ 21 255) ?_
  refine pw_ 8 19 (tl_ 21 511) ?_
  refine pw_ 10 21 (tl_ 21 1535) ?_
  refine pw_ 15 26 (tl_ 21 34303) ?_
  refine pw_ 16 27 (tl_ 21 99839) ?_
  refine tk4_ 9 20 (tl_ 21 100351) hHeld ?_
  refine pw_ 11 22 (tl_ 21 102399) ?_
  refine pw_ 12 23 (tl_ 21 106495) ?_
  refine tk4_ 13 24 (tl_ 21 114687) hHeld ?_
  refine pw_ 14 25 (tl_ 21 131071) ?_
  refine tk4_ 17 28 (tl_ 21 262143) hHeld ?_
  refine pw_ 18 29 (tl_ 21 524287) ?_
  refine pw_ 19 30 (tl_ 21 1048575) ?_
  refine pw_ 20 31 (tl_ 21 2097151) ?_
  refine done_ (done_of HT_.out (g0_)) ?_
  try go_wp2
  go_roundg k1
  case measure=>have:=HK1.out;omega
  case rel=>exact⟨(wrap64 (fg + 1)),(g3_),H',⟨g17_⟩,⟨uB_ j5⟩,⟨ao3⟩⟩
 rw[if_neg c7] at H
 have aa6:((((Jc av fg).f0).length:Int) == (ab.length:Int))=false:=beq_eq_false_iff_ne.mpr c7
 have bn8:((((Jc av fg).f0).length:Int) != (ab.length:Int))=true:=bne_iff_ne.mpr c7
 have jh3:(((Jc av fg).f0).length == ab.length)=false:=by first|simpa using c7|(simp at c7 |-;omega)
 obtain rfl:=Option.some.inj H
 obtain⟨au3,au4,gw2,au5,au6,gw3⟩:=blk3_ j5
 try go_wp2
 replace j5:=bd_ j5
 replace HB:=A_ (G1 HB.out)
 have bc3:0<=(fg:Int):=od_
 have bc4:fg < (av.length:Int):=od_
 obtain⟨ud,by2,by3,by4,by5,dk2,ak3,ak4,by6,by7,by8,by9⟩:=at_T25 m8.out fg bc3 bc4
 have bz0:=ak4
 have bz1:=ak3
 cases dk2
 replace ak3:=cl_ HB ak3
 replace ak4:=cl_ HB ak4
 have bz2:=A_ by7
 have dk3:=A_ by6
 clear by7 by6
 have bz3:=A_ by9
 have dk4:=A_ by8
 clear by9 by8
 replace bc3:=eq_true bc3
 replace bc4:=eq_true bc4
 have ci4:0<=(fg:Int):=od_
 have ci5:fg < (av.length:Int):=od_
 obtain⟨fh5,fh6,fh7,fh8,fh9,fi0,bn9,bo0,dk5,dk6,dk7,dk8⟩:=at_T25 m8.out fg ci4 ci5
 have dk9:=bo0
 have dl0:=bn9
 obtain rfl:ud=fh5:=(by injection fi0)
 replace bn9:=cl_ HB bn9
 replace bo0:=cl_ HB bo0
 have fi1:=A_ dk6
 have jh4:=A_ dk5
 clear dk6 dk5
 have fi2:=A_ dk8
 have jh5:=A_ dk7
 clear dk8 dk7
 replace ci4:=eq_true ci4
 replace ci5:=eq_true ci5
 refine start_ (n:=21) (S:=fun w'=>w'.cell? ⟨av0,0,none⟩=some (.slice ah ab.length af)/\w'.cell? ⟨av0,1,none⟩=some (.slice ao aa.length ai)/\w'.cell? ⟨av0,2,none⟩=some (.slice (some ud) av.length cu)/\w'.cell? (ud.add ((fg).toNat * 2))=some (.slice by2 ((Jc av fg).f0).length by3)/\w'.cell? ⟨(ud.add ((fg).toNat * 2)).block,(ud.add ((fg).toNat * 2)).off + 1,none⟩=some (.slice by4 ((Jc av fg).f1).length by5)/\w'.cell? (ud.add ((fg).toNat * 2))=some (.slice fh6 ((Jc av fg).f0).length fh7)/\w'.cell? ⟨(ud.add ((fg).toNat * 2)).block,(ud.add ((fg).toNat * 2)).off + 1,none⟩=some (.slice fh8 ((Jc av fg).f1).length fh9)) (ds:=[]) (tl_ 21 0) (g0_) rfl (g0_) ⟨(Gy j5.out 0).trans rfl,(Gy j5.out 1).trans rfl,(Gy j5.out 2).trans rfl,((cl_ HB bz1).trans rfl),((cl_ HB bz0).trans rfl),((cl_ HB dl0).trans rfl),((cl_ HB dk9).trans rfl)⟩ (fun hHeld=>?_);refine Jl Fw.tab4 Fw.bits4 (fun HT_ HW_=>?_)
 generalize wr.drew=w12 at j5 HB bz2 bz3 fi1 fi2 ak3 ak4 bn9 bo0 hHeld |-
 refine pw_ 0 11 (tl_ 21 1) ?_
 refine pw_ 2 13 (tl_ 21 5) ?_
 refine tk4_ 1 12 (tl_ 21 7) hHeld ?_
 refine pw_ 3 14 (tl_ 21 15) ?_
 refine tk4_ 4 15 (tl_ 21 31) hHeld ?_
 refine one_ (i:=5) (N:=some 16) (tl_ 21 63) rfl rfl (Jn HT_.out (g0_)) (by decide) (fun K hK=>?_)
 refine goes_ Try.func42 (g0_) rfl #[.agg #[.slice by2 ((Jc av fg).f0).length by3, .slice by4 ((Jc av fg).f1).length by5]] (by rfl) rfl rfl (gM_) ?_
 refine(Fh.calls k1 _ _ ((Jc av fg).f0) _ _ ((Jc av fg).f1) true _ (uC_ bz2) dk3.out (uC_ bz3) dk4.out A5.out).mono ?_
 rintro e w13 ⟨rfl,hb⟩
 refine⟨_,rfl,?_⟩
 replace j5:=bb_ j5 hb
 replace HB:=hs_ (ao3) hb
 refine hK.out _ _ ⟨(Gy j5.out 0).trans rfl,(Gy j5.out 1).trans rfl,(Gy j5.out 2).trans rfl,((cl_ HB bz1).trans rfl),((cl_ HB bz0).trans rfl),((cl_ HB dl0).trans rfl),((cl_ HB dk9).trans rfl)⟩ (fun hHeld=>?_)
 clear hK K
 refine nm_ ?_
 refine pw_ 6 17 (tl_ 21 127) ?_
 refine pw_ 7 18 (tl_ 21 255) ?_
 refine pw_ 8 19 (tl_ 21 511) ?_
 refine pw_ 10 21 (tl_ 21 1535) ?_
 refine pw_ 15 26 (tl_ 21 34303) ?_
 refine pw_ 16 27 (tl_ 21 99839) ?_
 refine tk4_ 9 20 (tl_ 21 100351) hHeld ?_
 refine pw_ 11 22 (tl_ 21 102399) ?_
 refine pw_ 12 23 (tl_ 21 106495) ?_
 refine tk4_ 13 24 (tl_ 21 114687) hHeld ?_
 refine pw_ 14 25 (tl_ 21 131071) ?_
 refine tk4_ 17 28 (tl_ 21 262143) hHeld ?_
 refine pw_ 18 29 (tl_ 21 524287) ?_
 refine pw_ 19 30 (tl_ 21 1048575) ?_
 refine pw_ 20 31 (tl_ 21 2097151) ?_
 refine done_ (done_of HT_.out (g0_)) ?_
 try go_wp2
 go_ret
 exact⟨g4_,ao3⟩
def Fv.l0:Nat->Int->List Int->List (List Int)->List Int->List (List Int)->Option (List Int × (List (List Int)))
 | 0,_,_,_,_,_=>none
 | k + 1,x4,jh6,ei5,gw4,fi3=>if x4 < (ei5.length:Int) then((some (([]:List Int):List Int)).bind fun ci6=>(if 0<=x4 then(if ci6.length + (Jb ei5 x4).length < 17592186044416 then(if fi3.length < 5864062014805 then(Fv.l0 k (wrap64 (x4 + 1)) jh6 ei5 gw4 (fi3 ++ [(ci6 ++ (Jb ei5 x4))])) else(none)) else(none)) else(none))) else(some (gw4,fi3))
def Fv.f (k:Nat) (ab:List Int) (aa:List (List Int)):Option (List Int × (List (List Int))):=(some (([]:List Int):List Int)).bind fun bi0=>(if bi0.length + ab.length < 17592186044416 then(Fv.l0 k 0 ab aa (bi0 ++ ab) ([]:List (List Int))) else(none))
def Fv.T5:Bool × List (List Nat × List Nat):=(true,[([],[]),([0],[0]),([],[]),([],[]),([3],[3]),([],[]),([4,5],[4,5]),([6],[6]),([2,7],[2,7]),([8],[8]),([1,9,8],[1,9]),([0,1,2,3,4,5,6,7,8,9,10],[]),([11,10,10,0,1,2,3,4,5,6,7,8,9,10],[10,11])])
def Fv.B5:List Nat:=[0,1,0,0,8,0,56,120,252,508,1023,2047,4095]
theorem Fv.tab5:rtab .any (opsOf Try.f80 5)=Fv.T5:=by kernel_rfl
theorem Fv.bits5:waitsOk Fv.T5.2 Fv.B5=true:=by kernel_rfl
theorem ac5 {p:Prop} (h:p:=by repeat(first|(with_reducible first|exact HB.out|apply G3|apply G2|apply G1|refine G0 ?_ jh7.out|refine G0 ?_ jh8.out|refine G0 ?_ jh9.out)|exact HB.out)):p:=h
set_option maxHeartbeats 8000000 in
set_option maxRecDepth 100000 in
theorem Fv.calls (k:Nat) (ah:Option Addr) (af:Nat) (ab:List Int) (ao:Option Addr) (ai:Nat) (aa:List (List Int)) (r1:List Int) (r2:List (List Int)) (w:World) (d4:Kd.C (Kd.int .i64) w ah ab.length ab) (d9:ab.length<=af) (d5:Kd.C (Kd.slice 3 (Kd.int .i64)) w ao aa.length aa) (ea:aa.length<=ai) (h:Fv.f k ab aa=some (r1,r2)) :
  Calls Try.prog 80 #[.agg #[.slice ah ab.length af, .slice ao aa.length ai]] w fun e w'=>∃v0_ v1_:Value,e = .returned (.agg #[v0_,v1_])/\Kd.R (Kd.int .i64) 3 w' w.heap.size (fun _=>True) v0_ r1/\Kd.S (Kd.slice 3 (Kd.int .i64)) 22 w' w.heap.size (fun k_=>some k_≠(v0_:Value).ownBlock) v1_ r2/\Below w.heap.size w w':=by
 have hu25:=Try.underlying25
 have dp:=A_ d4
 have ec:=A_ d9
 clear d4 d9
 have df:=A_ d5
 have ee:=A_ ea
 clear d5 ea
 have HB:=A_ (Below.refl w.heap.size w)
 have H:=h
 unfold Fv.f at H
 clear h
 obtain⟨bi0,hyq⟩:∃y_:List Int,y_=(([]:List Int)):=⟨_,rfl⟩
 replace H:(if bi0.length + ab.length < 17592186044416 then(Fv.l0 k 0 ab aa (bi0 ++ ab) ([]:List (List Int))) else(none))=some (r1,r2):=qh_
 have gw5:=A_ hyq
 clear hyq
 obtain⟨c2,H⟩:=pos_ H
 have fi4:=A_ c2
 clear c2
 obtain⟨sw,hyq⟩:∃y_:List Int,y_=(bi0 ++ ab):=⟨_,rfl⟩
 replace H:(Fv.l0 k 0 ab aa sw ([]:List (List Int)))=some (r1,r2):=qh_
 have ji0:=A_ hyq
 clear hyq
 have H':=A_ H
 clear H
 go_enter Try.func80,Try.ntmps80
 go_wp2_with (first|((with_reducible refine gd_ 1 ?_);refine bx_ (N:=1) #[.slice ah ab.length af, .slice ao aa.length ai] 25 ?_;intro ae1 hg w3 hbox hb;have lo:=A_ (hbox);have mf8:=A_ ((g92_:w.heap.size<=ae1));have jh7:=mf8;replace HB:=hs_ (ac5) hb;clear hb hbox hg)|((with_reducible refine gd_ 2 ?_);refine bx_ (N:=2) #[.slice none 0 0, .slice none 0 0] 25 ?_;intro aa7 hg w4 hbox hb;have qx:=A_ (hbox);have mf9:=A_ ((g92_:w.heap.size<=aa7));have jh8:=mf9;replace HB:=hs_ (ac5) hb;have fi5:=nl_ lo hg;have fi6:=nr_ lo hg;replace lo:=bb_ lo hb;clear hb hbox hg)|((with_reducible refine gd_ 5 ?_);refine rle_ 5 [] ?_;intro gw6 w5 ho6 hb hg_ hnew_;clear hg_ hnew_;(first|rw[<- gw5.out] at ho6|(simp only[Int.reduceToNat] at ho6;rw[<- gw5.out] at ho6));have bo3:=A_ (Kd.R_lower ho6 (Gz (ac5)));replace lo:=bb_ lo hb;replace qx:=bb_ qx hb;replace HB:=hs_ (ac5) hb;clear hb ho6;have fi7:=fi5.out;have fi8:=fi6.out;obtain⟨at9,au0,au1,au2⟩:=blk2_ lo)|((with_reducible refine gate_builtin (b:=.append) (xs:=#[.tmp 5, .tmp 7]) rfl ?_);at_builtin;refine Kd.R_append_rows (Kd.int .i64) (w0:=w) w.heap.size rfl (.tmp 5) (.tmp 7) 22 3 (.int .i64 0) 8 rfl Try.underlying22 info3 rfl (by decide) (by omega) gw6 bi0 ab _ _ _ (fun _=>True) (fun _=>False) rfl rfl ?aO ?aR (fun _ _ h=>h) (fun _ h=>h.elim) ?aF ?aB ?aS ?aL ?_;(case aR=>exact uC_ dp);(case aB=>exact(ac5));(case aF=>exact(fun _ _=>trivial));(case aO=>exact(uR_ bo3));(case aS=>exact(Gz (ac5)));(case aL=>have:=fi4.out;omega);intro mg0 w9 ho hb hg hat;rw[<- ji0.out] at ho;replace lo:=(bg_ lo hg (Kd.R_ne bo3.out lo.out (by decide)));replace qx:=(bg_ qx hg (Kd.R_ne bo3.out qx.out (by decide)));replace HB:=A_ (hb);have ei6:=A_ (ho);clear bo3;clear ho hb hg hat;obtain⟨ja,jb,ci7⟩:=Kd.R_slice ei6.out;subst ci7)|((with_reducible refine gd_ 3 ?_);refine bx_ (N:=3) #[.slice none 0 0, .slice none 0 0] 25 ?_;intro ae2 hg w11 hbox hb;replace ei6:=rb_ ei6 hb;have oy:=A_ (hbox);have mg1:=A_ ((g92_:w.heap.size<=ae2));have jh9:=mg1;replace HB:=hs_ (ac5) hb;have ci8:=nl_ lo hg;have ei7:=nr_ lo hg;replace lo:=bb_ lo hb;have cv7:=nl_ qx hg;have fi9:=nr_ qx hg;replace qx:=bb_ qx hb;clear hb hbox hg;have ci9:=ei7.out;have cj0:=ci8.out;have cu5:=fi9.out;have cu6:=cv7.out;obtain⟨xv,xw,xx,xy⟩:=blk2_ oy))
 go_loopg [4] k (fun kq v4 w'=>∃(ck:Int) (av1:List (List Int)) (bc5:Value),v4 = .int .i64 ck/\Gx (Fv.l0 kq ck ab aa sw av1=some (r1,r2))/\Gx (kq<=k)/\Gx (Kd.R (Kd.int .i64) 3 w' w.heap.size (fun _=>True) (.slice ja sw.length jb) sw)/\Gx (Kd.S (Kd.slice 3 (Kd.int .i64)) 22 w' w.heap.size (fun k_=>some k_≠((.slice ja sw.length jb):Value).ownBlock) bc5 av1)/\Gx (hc_ w' ae1 #[(.slice ah ab.length af),(.slice ao aa.length ai)] 25)/\Gx (hc_ w' aa7 #[(.slice none 0 0),(.slice none 0 0)] 25)/\Gx (hc_ w' ae2 #[(.slice ja sw.length jb),bc5] 25)/\Gx (Below w.heap.size w w'))
 case atStart=>exact⟨(0),(([]:List (List Int))),(.slice none 0 0),(g3_),H',⟨Nat.le_refl _⟩,⟨ra_ ei6⟩,⟨g33_⟩,⟨ba_ lo⟩,⟨ba_ qx⟩,⟨ba_ oy⟩,⟨ac5⟩⟩
 clear H'
 obtain⟨ck,av1,bc5,rfl,HA,HK1,ak5,aa8,lo,qx,oy,HB⟩:=hrel
 cases gk with
 | zero=>exact absurd HA.out (by simp[Fv.l0])
 | succ k1=>?_
 have H:=HA.out
 clear HA
 simp only[Fv.l0] at H
 by_cases e7:ck < (aa.length:Int)
 case neg=>
  rw[if_neg e7] at H
  have qv:=decide_eq_false e7
  clear e7
  simp only[Option.some.injEq,Prod.mk.injEq] at H
  obtain⟨rfl,rfl⟩:=H
  have fj4:=fi5.out
  have fj5:=fi6.out
  have ej0:=ci8.out
  have ej1:=ei7.out
  obtain⟨gx2,gx3,gx4,gx5⟩:=blk2_ lo
  have bo5:=fi9.out
  have bo6:=cv7.out
  obtain⟨dl5,dl6,dl7,dl8⟩:=blk2_ oy
  obtain⟨bi2,bi3,bi4,bi5⟩:=blk2_ qx
  obtain⟨ue,tq,dl9⟩:=Kd.S_slice aa8.out
  subst dl9
  go_wp2
  refine bodyPost_ret (results_cell_row rfl _ _ aa7 25 #[.slice ja sw.length jb, .slice ue av1.length tq] (0,0) _ rfl (ba_ qx) Try.underlying25 rfl (g0_)) rfl ?_
  exact⟨_,_,g4_,ra_ ak5,sa_ aa8,ac5⟩
 rw[if_pos e7] at H
 have qv:=decide_eq_true e7
 clear e7
 obtain⟨ci6,hyq⟩:∃y_:List Int,y_=(([]:List Int)):=⟨_,rfl⟩
 replace H:(if 0<=ck then(if ci6.length + (Jb aa ck).length < 17592186044416 then(if av1.length < 5864062014805 then(Fv.l0 k1 (wrap64 (ck + 1)) ab aa sw (av1 ++ [(ci6 ++ (Jb aa ck))])) else(none)) else(none)) else(none))=some (r1,r2):=qh_
 have gw7:=A_ hyq
 clear hyq
 obtain⟨ag0,H⟩:=pd_ H
 obtain⟨ip,H⟩:=pos_ H
 have fj0:=A_ ip
 clear ip
 obtain⟨av2,hyq⟩:∃y_:List Int,y_=(ci6 ++ (Jb aa ck)):=⟨_,rfl⟩
 replace H:(if av1.length < 5864062014805 then(Fv.l0 k1 (wrap64 (ck + 1)) ab aa sw (av1 ++ [av2])) else(none))=some (r1,r2):=qh_
 have fj1:=A_ hyq
 clear hyq
 obtain⟨k5,H⟩:=pos_ H
 have ji1:=A_ k5
 clear k5
 obtain⟨dl1,hyq⟩:∃y_:List (List Int),y_=(av1 ++ [av2]):=⟨_,rfl⟩
 replace H:(Fv.l0 k1 (wrap64 (ck + 1)) ab aa sw dl1)=some (r1,r2):=qh_
 have ji2:=A_ hyq
 clear hyq
 have H':=A_ H
 clear H
 have dl2:=fi5.out
 have dl3:=fi6.out
 have cv8:=ci8.out
 have cv9:=ei7.out
 obtain⟨aa2,aa3,ad7,aa4⟩:=blk2_ lo
 try go_wp2
 replace ak5:=rd_ ak5
 replace aa8:=sd_ aa8
 replace lo:=bd_ lo
 replace qx:=bd_ qx
 replace oy:=bd_ oy
 replace HB:=A_ (G1 HB.out)
 obtain⟨⟨ei8,ji5,ji6,ji7,ei9,gw8,gw9⟩,fj2,fj3⟩:=rdp_ (at_L1 df.out ck)
 have cw0:=ei9
 cases ji7
 replace ei9:=cl_ HB ei9
 have gx0:=A_ gw9
 have mg2:=A_ gw8
 clear gw9 gw8
 refine start_ (n:=13) (S:=fun w'=>w'.cell? ⟨ae2,0,none⟩=some (.slice ja sw.length jb)/\w'.cell? ⟨ae2,1,none⟩=some (bc5)/\w'.cell? ⟨ae1,0,none⟩=some (.slice ah ab.length af)/\w'.cell? ⟨ae1,1,none⟩=some (.slice (some ei8) aa.length ai)/\w'.cell? (ei8.add (ck).toNat)=some (.slice ji5 (Jb aa ck).length ji6)) (ds:=[12]) (tl_ 13 0) (g0_) rfl (g0_) ⟨(Gy oy.out 0).trans rfl,(Gy oy.out 1).trans rfl,(Gy lo.out 0).trans rfl,(Gy lo.out 1).trans rfl,((cl_ HB cw0).trans rfl)⟩ (fun hHeld=>?_);refine Jl Fv.tab5 Fv.bits5 (fun HT_ HW_=>?_)
 generalize wr.drew=yu at ak5 aa8 lo qx oy HB gx0 ei9 hHeld |-
 refine pw_ 0 17 (tl_ 13 1) ?_
 refine pw_ 3 20 (tl_ 13 9) ?_
 refine pw_ 5 22 (tl_ 13 41) ?_
 refine tk5_ 1 18 (tl_ 13 43) hHeld ?_
 refine tk5_ 4 21 (tl_ 13 59) hHeld ?_
 refine pw_ 6 23 (tl_ 13 123) ?_
 refine tk5_ 7 24 (tl_ 13 251) hHeld ?_
 refine one_ (i:=2) (N:=some 19) (tl_ 13 255) rfl rfl (Jn HT_.out (g0_)) (by decide) (fun K hK=>?_)
 refine rls_ 19 [] ?_
 intro ji8 w23 cj1 hb hg_ hnew_
 clear hg_ hnew_
 (first|rw[<- gw7.out] at cj1|(simp only[Int.reduceToNat] at cj1;rw[<- gw7.out] at cj1))
 replace aa8:=A_ (Kd.S_elder' (uS_ aa8) (Kd.R_base cj1) hb)
 have dl4:=A_ (Kd.R_lower (Kd.R_new' cj1 (Kd.R_lt (uR_ ak5))) (Gz (ac5)))
 replace ak5:=A_ (Kd.R_elder' (uR_ ak5) (Kd.R_base cj1) hb)
 replace lo:=bb_ lo hb
 replace qx:=bb_ qx hb
 replace oy:=bb_ oy hb
 replace HB:=hs_ (ac5) hb
 clear hb cj1
 refine hK.out _ _ ⟨(Gy oy.out 0).trans rfl,(Gy oy.out 1).trans rfl,(Gy lo.out 0).trans rfl,(Gy lo.out 1).trans rfl,((cl_ HB cw0).trans rfl)⟩ (fun hHeld=>?_)
 clear hK K
 refine nm_ ?_
 refine one_ (i:=8) (N:=some 25) (tl_ 13 511) rfl rfl (Jn HT_.out (g0_)) (by decide) (fun K hK=>?_)
 refine Kd.R_append_rows_step (Kd.int .i64) (w0:=w) w.heap.size (by rfl) (.tmp 19) (.tmp 24) 22 3 (.int .i64 0) 8 rfl Try.underlying22 info3 rfl (by decide) (by omega) ji8 ci6 (Jb aa ck) _ _ _ (fun k_=>some k_≠(.slice ja sw.length jb:Value).ownBlock) (fun _=>False) rfl rfl ?aO ?aR (fun _ _ h=>h) (fun _ h=>h.elim) ?aF ?aB ?aS ?aL ?_
 (case aR=>exact uC_ gx0)
 (case aB=>exact(ac5))
 (case aF=>exact(fun k_ hk=>Kd.fresh' (Kd.R_lt (uR_ ak5)) k_ hk))
 (case aO=>exact(yR_ dl4 (fun _ hk=>hk.2)))
 (case aS=>exact(Gz (ac5)))
 (case aL=>have:=fj0.out;omega)
 intro jj0 r6 ho hb hg hat
 rw[<- fj1.out] at ho
 replace ak5:=A_ (Kd.R_after (ok:=(fun _=>True)) (uR_ ak5) hg hat)
 replace aa8:=A_ (Kd.S_after (ok:=(fun k_=>some k_≠(.slice ja sw.length jb:Value).ownBlock)) (uS_ aa8) hg hat)
 replace lo:=(bg_ lo hg (Kd.R_ne dl4.out lo.out (by decide)))
 replace qx:=(bg_ qx hg (Kd.R_ne dl4.out qx.out (by decide)))
 replace oy:=(bg_ oy hg (Kd.R_ne dl4.out oy.out (by decide)))
 replace HB:=A_ (hb)
 have cj2:=A_ (ho)
 clear dl4
 clear ho hb hg hat
 obtain⟨bc6,av3,bi1⟩:=Kd.R_slice cj2.out
 (first|subst bi1|(injection bi1 with f1_ f2_ f3_;have f4_:=f1_.symm;have f5_:=f3_.symm;clear f1_ f2_ f3_;subst f4_;subst f5_))
 refine hK.out _ _ ⟨(Gy oy.out 0).trans rfl,(Gy oy.out 1).trans rfl,(Gy lo.out 0).trans rfl,(Gy lo.out 1).trans rfl,((cl_ HB cw0).trans rfl)⟩ (fun hHeld=>?_)
 clear hK K
 refine nm_ ?_
 refine one_ (i:=9) (N:=some 26) (tl_ 13 1023) rfl rfl (Jn HT_.out (g0_)) (by decide) (fun K hK=>?_)
 refine value_ (w1:=?_) (v:=?_) (by rfl) rfl ?_ ?_
 rotate_left 2
 ·go_simp
  constructor
  ·rfl
  rfl
 refine hK.out _ _ ⟨(Gy (G4 oy.out _) 0).trans rfl,(Gy (G4 oy.out _) 1).trans rfl,(Gy (G4 lo.out _) 0).trans rfl,(Gy (G4 lo.out _) 1).trans rfl,(World.cell?_alloc_lt _ _ _ (World.block_lt_of_cell? _ _ (((cl_ HB cw0).trans rfl)))).trans (((cl_ HB cw0).trans rfl))⟩ (fun hHeld=>?_)
 clear hK K
 refine nm_ ?_
 refine one_ (i:=10) (N:=some 27) (tl_ 13 2047) rfl rfl (Jn HT_.out (g0_)) (by decide) (fun K hK=>?_)
 refine Kd.S_append_step (Kd.slice 3 (Kd.int .i64)) (w0:=w) w.heap.size (by rfl) (.tmp 18) (.tmp 26) 23 22 (.slice none 0 0) 24 rfl Try.underlying23 info22 rfl (by decide) (by omega) bc5 av1 av2 [.slice bc6 av2.length av3] (fun k_=>some k_≠(.slice ja sw.length jb:Value).ownBlock) (fun k_=>some k_=(.slice bc6 av2.length av3:Value).ownBlock) rfl rfl ?aP (fun k_ hk_=>((Kd.R_mono (ok':=fun k_=>((fun k_=>some k_≠(.slice ja sw.length jb:Value).ownBlock)) k_/\some k_≠(bc5:Value).ownBlock) (Kd.R_apart' (cj2.out) (Kd.S_typed aa8.out) (by decide)) (fun k_ hk=>⟨hk.1,hk.2⟩))).1 k_ hk_.symm) ?aF ?aO ?aB ?aS ?aL ?_
 (case aP=>exact Kd.M_row (Kd.R_mono (Kd.R_tight rfl (Kd.R_mono (ok':=fun k_=>((fun k_=>some k_≠(.slice ja sw.length jb:Value).ownBlock)) k_/\some k_≠(bc5:Value).ownBlock) (Kd.R_apart' (cj2.out) (Kd.S_typed aa8.out) (by decide)) (fun k_ hk=>⟨hk.1,hk.2⟩))) (fun _ h_=>h_)))
 (case aB=>exact(ac5))
 (case aF=>exact(fun k_ hk=>Kd.fresh' (Kd.R_lt (uR_ ak5)) k_ hk))
 (case aO=>exact(by(with_reducible repeat(first|apply Kd.S_alloc|apply Kd.S_drewN|apply Kd.S_drew));exact Kd.S_mono aa8.out (fun k_ hk=>⟨hk.1,fun e_=>hk.2 e_⟩)))
 (case aS=>exact(Gz (ac5)))
 (case aL=>have:=ji1.out;omega)
 intro mg3 w26 ho hb hg hat
 rw[<- ji2.out] at ho
 replace ak5:=A_ (Kd.R_over' (uR_ ak5) (Kd.S_typed (uS_ aa8)) (by decide) hg)
 replace lo:=(bg_ lo hg (Kd.S_ne aa8.out lo.out (by decide)))
 replace qx:=(bg_ qx hg (Kd.S_ne aa8.out qx.out (by decide)))
 replace oy:=(bg_ oy hg (Kd.S_ne aa8.out oy.out (by decide)))
 replace HB:=A_ (hb)
 have gx1:=A_ (ho)
 clear aa8 cj2
 clear ho hb hg hat
 obtain⟨bg,bf,bo4⟩:=Kd.S_slice gx1.out
 (first|subst bo4|(injection bo4 with f1_ f2_ f3_;have f4_:=f1_.symm;have f5_:=f3_.symm;clear f1_ f2_ f3_;subst f4_;subst f5_))
 refine hK.out _ _ ⟨(Gy oy.out 0).trans rfl,(Gy oy.out 1).trans rfl,(Gy lo.out 0).trans rfl,(Gy lo.out 1).trans rfl,((cl_ HB cw0).trans rfl)⟩ (fun hHeld=>?_)
 clear hK K
 refine nm_ ?_
 refine pw_ 11 28 (tl_ 13 4095) ?_
 refine last_ (i:=12) (N:=none) (tl_ 13 8191) rfl rfl (Jn HT_.out (g0_)) (by decide) (fun K hK=>?_)
 have jj1:w26.cell? ⟨ae2,1,none⟩=some (bc5):=(Gy oy.out 1).trans rfl
 have jj2:=G7 oy.out 1
 have jj4:=cv7.out
 have jj6:=fi9.out
 refine skip_ (w1:=?_) (by rfl) rfl ?_ ?_
 rotate_left
 ·go_simp
  rfl
 refine hK.out _ _ ?_
 clear hK K
 refine done_ (done_of HT_.out (g0_)) ?_
 try go_wp2
 go_roundg k1
 case measure=>have:=HK1.out;omega
 case rel=>exact⟨(wrap64 (ck + 1)),(dl1),(.slice bg dl1.length bf),(g3_),H',⟨g17_⟩,⟨ra_ ak5⟩,⟨sa_ gx1⟩,⟨ba_ lo⟩,⟨ba_ qx⟩,⟨ba_ oy⟩,⟨ac5⟩⟩
def k25s:Kd S25 where
 sz:=k25.sz
 E:=k25.E
 K:=k25.K
 M:=fun w base ok x cs=>∃v0 v1,cs=[v0,v1]/\(Kd.int .i64).R 3 w base ok v0 x.f0/\Kd.S (Kd.slice 3 (Kd.int .i64)) 22 w base (fun k=>ok k/\some k≠v0.ownBlock) v1 x.f1
 K_len:=k25.K_len
 K_one:=k25.K_one
 K_below:=k25.K_below
 K_of_M:=fun h=>by
  obtain⟨v0,v1,rfl,h0,h1⟩:=h
  exact k25.K_of_M (k25_mkM _ _ _ _ h0 (Kd.R_mono (Kd.S_R h1) (fun _ hk=>hk.1)))
 M_mono:=fun hok h=>by
  obtain⟨v0,v1,rfl,h0,h1⟩:=h
  exact⟨v0,v1,rfl,Kd.R_mono h0 hok,Kd.S_mono h1 (fun _ hk=>⟨hok _ hk.1,hk.2⟩)⟩
 M_bound:=fun h=>by
  obtain⟨v0,v1,rfl,h0,h1⟩:=h
  refine⟨v0,v1,rfl,Kd.R_mono (Kd.R_bound h0) (fun _ hk=>⟨hk.1,hk.2.1,hk.2.2.1,?_⟩),Kd.S_mono (Kd.S_bound h1) (fun _ hk=>⟨⟨hk.1.1,hk.2.1,hk.2.2.1,?_⟩,hk.1.2⟩)⟩
  ·obtain⟨q,hq,c,hc⟩:=hk.2.2.2
   exact⟨q,(List.mem_cons.1 hq).elim (fun e_=>by rw[e_];decide) (fun h_=>absurd h_ (by simp[Kd.int,Kd.scalar])),c,hc⟩
  ·obtain⟨q,hq,c,hc⟩:=hk.2.2.2
   refine⟨q,?_,c,hc⟩
   have h2:q=22 ∨ q=3:=by simpa [Kd.slice,Kd.int,Kd.scalar] using hq
   rcases h2 with rfl|rfl <;> decide
 M_move:=fun hm h=>by
  obtain⟨v0,v1,rfl,h0,h1⟩:=h
  exact⟨v0,v1,rfl,Kd.R_move h0 hm,Kd.S_move h1 (fun _ hk=>hm _ hk.1)⟩
 M_lower:=fun hb h=>by
  obtain⟨v0,v1,rfl,h0,h1⟩:=h
  exact⟨v0,v1,rfl,Kd.R_lower h0 hb,Kd.S_lower h1 hb⟩
theorem k25s_mkM (w:World) (base:Nat) (ok:Nat->Prop) (x:S25) {v0:Value} (g0:(Kd.int .i64).R 3 w base ok v0 x.f0) {v1:Value} (g1:Kd.S (Kd.slice 3 (Kd.int .i64)) 22 w base (fun k=>ok k/\some k≠v0.ownBlock) v1 x.f1):k25s.M w base ok x [v0,v1]:=⟨v0,v1,rfl,g0,g1⟩
theorem k25s_M {w:World} {base:Nat} {ok:Nat->Prop} {x:S25} {cs:List Value} (h:k25s.M w base ok x cs):k25.M w base ok x cs:=by
 obtain⟨v0,v1,rfl,h0,h1⟩:=h
 exact k25_mkM _ _ _ _ h0 (Kd.R_mono (Kd.S_R h1) (fun _ hk=>hk.1))
theorem k25s_R {e:Nat} {w:World} {base:Nat} {ok:Nat->Prop} {v:Value} {xs:List S25} (h:Kd.S k25s e w base ok v xs):k25.R e w base ok v xs:=by
 obtain⟨h0,inner,ho,hr⟩:=Kd.S_R h
 exact⟨h0,inner,ho,hr.imp_ (fun _ _ hp=>k25s_M hp)⟩
def Fm.l0:Nat->Int->List Int->List (List Int)->List (S25)->List Int->List (List Int)->List (S25)->Option (List Int × (List (List Int)) × (List (S25)))
 | 0,_,_,_,_,_,_,_=>none
 | k + 1,x4,jj7,jj8,ej2,gx6,gx7,fj6=>if x4 < (ej2.length:Int) then(if 0<=x4 then((Fv.f k ((Jc ej2 x4).f0) ((Jc ej2 x4).f1)).bind fun bt164=>(if fj6.length < 2932031007402 then(Fm.l0 k (wrap64 (x4 + 1)) jj7 jj8 ej2 gx6 gx7 (fj6 ++ [(⟨bt164.1,bt164.2⟩:S25)])) else(none))) else(none)) else(some (gx6,gx7,fj6))
def Fm.f (k:Nat) (ab:List Int) (aa:List (List Int)) (av:List (S25)):Option (List Int × (List (List Int)) × (List (S25))):=(Fv.f k ab aa).bind fun bt156=>(Fm.l0 k 0 ab aa av bt156.1 bt156.2 ([]:List (S25)))
def Fm.T5:Bool × List (List Nat × List Nat):=(true,[([],[]),([0],[0]),([],[]),([2],[2]),([],[]),([3,4],[3,4]),([5],[5]),([6],[6]),([7],[7]),([1,8,7],[1,8]),([0,1,2,3,4,5,6,7,8,9],[]),([10,9,9,0,1,2,3,4,5,6,7,8,9],[9,10])])
def Fm.B5:List Nat:=[0,1,0,4,0,28,60,124,252,511,1023,2047]
theorem Fm.tab5:rtab .any (opsOf Try.f100 5)=Fm.T5:=by kernel_rfl
theorem Fm.bits5:waitsOk Fm.T5.2 Fm.B5=true:=by kernel_rfl
theorem Fm.calls_s_q0 {p:Prop} (h:p:=by repeat(first|(with_reducible first|exact HB.out|apply G3|apply G2|apply G1|refine G0 ?_ jj9.out|refine G0 ?_ jk0.out|refine G0 ?_ jk1.out)|exact HB.out)):p:=h
set_option maxHeartbeats 8000000 in
set_option maxRecDepth 100000 in
theorem Fm.calls_s (k:Nat) (ah:Option Addr) (af:Nat) (ab:List Int) (ao:Option Addr) (ai:Nat) (aa:List (List Int)) (cy:Option Addr) (cu:Nat) (av:List (S25)) (r1:List Int) (r2:List (List Int)) (r3:List (S25)) (w:World) (d4:Kd.C (Kd.int .i64) w ah ab.length ab) (d9:ab.length<=af) (d5:Kd.C (Kd.slice 3 (Kd.int .i64)) w ao aa.length aa) (ea:aa.length<=ai) (l6:Kd.C k25 w cy av.length av) (l7:av.length<=cu) (h:Fm.f k ab aa av=some (r1,r2,r3)) :
  Calls Try.prog 100 #[.agg #[.slice ah ab.length af, .slice ao aa.length ai, .slice cy av.length cu]] w fun e w'=>∃v0_ v1_ v2_:Value,e = .returned (.agg #[v0_,v1_,v2_])/\Kd.R (Kd.int .i64) 3 w' w.heap.size (fun _=>True) v0_ r1/\Kd.S (Kd.slice 3 (Kd.int .i64)) 22 w' w.heap.size (fun k_=>some k_≠(v0_:Value).ownBlock) v1_ r2/\Kd.S k25s 25 w' w.heap.size (fun k_=>some k_≠(v0_:Value).ownBlock/\some k_≠(v1_:Value).ownBlock) v2_ r3/\Below w.heap.size w w':=by
 have hu28:=Try.underlying28
 have hu25:=Try.underlying25
 have dp:=A_ d4
 have ec:=A_ d9
 clear d4 d9
 have df:=A_ d5
 have ee:=A_ ea
 clear d5 ea
 have m8:=A_ l6
 have re:=A_ l7
 clear l6 l7
 have HB:=A_ (Below.refl w.heap.size w)
 have H:=h
 unfold Fm.f at H
 clear h
 replace H:=Option.bind_eq_some_iff.mp H
 obtain⟨⟨pn,uf⟩,yv,H⟩:=H
 try dsimp only at H
 have A2:=A_ yv
 clear yv
 have H':=A_ H
 clear H
 go_enter Try.func100,Try.ntmps100
 go_wp2_with (first|((with_reducible refine gd_ 1 ?_);refine bx_ (N:=1) #[.slice ah ab.length af, .slice ao aa.length ai, .slice cy av.length cu] 28 ?_;intro ag2 hg w3 hbox hb;have mz:=A_ (hbox);have mg4:=A_ ((g93_:w.heap.size<=ag2));have jj9:=mg4;replace HB:=A_ (Jg (Fm.calls_s_q0) hb);clear hb hbox hg)|((with_reducible refine gd_ 2 ?_);refine bx_ (N:=2) #[.slice none 0 0, .slice none 0 0, .slice none 0 0] 28 ?_;intro wm hg w4 hbox hb;have ug:=A_ (hbox);have mg5:=A_ ((g93_:w.heap.size<=wm));have jk0:=mg5;replace HB:=A_ (Jg (Fm.calls_s_q0) hb);have fj7:=nl_ mz hg;have fj8:=nr_ mz hg;replace mz:=bb_ mz hb;clear hb hbox hg;have fj9:=fj7.out;have fk0:=fj8.out;obtain⟨ap7,ap8,fk1,bb9,ap9,fk2⟩:=blk3_ mz)|((with_reducible refine gc_ 80 ?_);refine gl_ 7 Try.func80 #[.agg #[.slice ah ab.length af, .slice ao aa.length ai]] ?_;(refine(Fv.calls k _ _ ab _ _ aa pn uf _ (uC_ dp) ec.out (uC_ df) ee.out A2.out).mono ?_);rintro e w7 ⟨mg6,gw6,rfl,ae,ax,hb⟩;refine⟨_,rfl,?_⟩;have ej3:=A_ (Kd.R_lower ae (Gz (Fm.calls_s_q0)));have bo3:=A_ (Kd.S_lower ax (Gz (Fm.calls_s_q0)));replace mz:=bb_ mz hb;replace ug:=bb_ ug hb;replace HB:=A_ (Jg (Fm.calls_s_q0) hb);obtain⟨jy,jz,eo8⟩:=Kd.S_slice bo3.out;subst eo8;obtain⟨ak,aj,eo9⟩:=Kd.R_slice ej3.out;subst eo9)|((with_reducible refine gd_ 3 ?_);refine bx_ (N:=3) #[.slice none 0 0, .slice none 0 0, .slice none 0 0] 28 ?_;intro vf hg w10 hbox hb;replace ej3:=rb_ ej3 hb;replace bo3:=sb_ bo3 hb;have oh:=A_ (hbox);have mg7:=A_ ((g93_:w.heap.size<=vf));have jk1:=mg7;replace HB:=A_ (Jg (Fm.calls_s_q0) hb);have bz4:=nl_ mz hg;have ej4:=nr_ mz hg;replace mz:=bb_ mz hb;have cj3:=nl_ ug hg;have fk3:=nr_ ug hg;replace ug:=bb_ ug hb;clear hb hbox hg;have aq2:=ej4.out;have aq3:=bz4.out;have ci9:=fk3.out;have cj0:=cj3.out;obtain⟨zy,zz,ej5,z8,z9,ej6⟩:=blk3_ oh))
 go_loopg [4] k (fun kq v4 w'=>∃(ck:Int) (bo7:List (S25)) (bc7:Value),v4 = .int .i64 ck/\Gx (Fm.l0 kq ck ab aa av pn uf bo7=some (r1,r2,r3))/\Gx (kq<=k)/\Gx (Kd.R (Kd.int .i64) 3 w' w.heap.size (fun _=>True) (.slice ak pn.length aj) pn)/\Gx (Kd.S (Kd.slice 3 (Kd.int .i64)) 22 w' w.heap.size (fun k_=>some k_≠((.slice ak pn.length aj):Value).ownBlock) (.slice jy uf.length jz) uf)/\Gx (Kd.S k25s 25 w' w.heap.size (fun k_=>some k_≠((.slice ak pn.length aj):Value).ownBlock/\some k_≠((.slice jy uf.length jz):Value).ownBlock) bc7 bo7)/\Gx (hc_ w' ag2 #[(.slice ah ab.length af),(.slice ao aa.length ai),(.slice cy av.length cu)] 28)/\Gx (hc_ w' wm #[(.slice none 0 0),(.slice none 0 0),(.slice none 0 0)] 28)/\Gx (hc_ w' vf #[(.slice ak pn.length aj),(.slice jy uf.length jz),bc7] 28)/\Gx (Below w.heap.size w w'))
 case atStart=>exact⟨(0),(([]:List (S25))),(.slice none 0 0),(g3_),H',⟨Nat.le_refl _⟩,⟨ra_ ej3⟩,⟨sa_ bo3⟩,⟨g24_⟩,⟨ba_ mz⟩,⟨ba_ ug⟩,⟨ba_ oh⟩,⟨Fm.calls_s_q0⟩⟩
 clear H'
 obtain⟨ck,bo7,bc7,rfl,HA,HK1,ak6,aq4,ae3,mz,ug,oh,HB⟩:=hrel
 cases gk with
 | zero=>exact absurd HA.out (by simp[Fm.l0])
 | succ k1=>?_
 have H:=HA.out
 clear HA
 simp only[Fm.l0] at H
 by_cases iw:ck < (av.length:Int)
 case neg=>
  rw[if_neg iw] at H
  have ak2:=decide_eq_false iw
  clear iw
  simp only[Option.some.injEq,Prod.mk.injEq] at H
  obtain⟨rfl,rfl,rfl⟩:=H
  have cw2:=fj7.out
  have cw3:=fj8.out
  have cu9:=bz4.out
  have cv0:=ej4.out
  obtain⟨cg6,cg7,eg6,cg8,cg9,eg7⟩:=blk3_ mz
  have ej0:=fk3.out
  have ej1:=cj3.out
  obtain⟨gx2,gx3,mh0,gx4,gx5,mh1⟩:=blk3_ oh
  obtain⟨fk6,fk7,gz1,fk8,fk9,gz2⟩:=blk3_ ug
  obtain⟨k6,kt,bo8⟩:=Kd.S_slice ae3.out
  subst bo8
  go_wp2
  refine bodyPost_ret (results_cell_row rfl _ _ wm 28 #[.slice ak pn.length aj, .slice jy uf.length jz, .slice k6 bo7.length kt] (0,0) _ rfl (ba_ ug) Try.underlying28 rfl (g0_)) rfl ?_
  exact⟨_,_,_,g4_,ra_ ak6,sa_ aq4,sa_ ae3,Fm.calls_s_q0⟩
 rw[if_pos iw] at H
 have ak2:=decide_eq_true iw
 clear iw
 obtain⟨qv,H⟩:=pd_ H
 replace H:=Option.bind_eq_some_iff.mp H
 obtain⟨⟨dm0,dm1⟩,dm2,H⟩:=H
 try dsimp only at H
 have A16:=A_ dm2
 clear dm2
 obtain⟨ip,H⟩:=pos_ H
 have fj0:=A_ ip
 clear ip
 obtain⟨av2,hyq⟩:∃y_:List (S25),y_=(bo7 ++ [(⟨dm0,dm1⟩:S25)]):=⟨_,rfl⟩
 replace H:(Fm.l0 k1 (wrap64 (ck + 1)) ab aa av pn uf av2)=some (r1,r2,r3):=qh_
 have fj1:=A_ hyq
 clear hyq
 have H':=A_ H
 clear H
 have dg8:=fj7.out
 have dg9:=fj8.out
 have dl2:=bz4.out
 have dl3:=ej4.out
 obtain⟨dm3,dm4,mg8,dm5,dm6,mg9⟩:=blk3_ mz
 try go_wp2
 replace ak6:=rd_ ak6
 replace aq4:=sd_ aq4
 replace ae3:=sd_ ae3
 replace mz:=bd_ mz
 replace ug:=bd_ ug
 replace oh:=bd_ oh
 replace HB:=A_ (G1 HB.out)
 have fk4:0<=(ck:Int):=od_
 have fk5:ck < (av.length:Int):=od_
 obtain⟨dm7,gx8,gx9,gy0,gy1,jk2,ej7,ej8,gy2,gy3,gy4,gy5⟩:=at_T25 m8.out ck fk4 fk5
 have dm8:=ej8
 have dm9:=ej7
 cases jk2
 replace ej7:=cl_ HB ej7
 replace ej8:=cl_ HB ej8
 have gy6:=A_ gy3
 have jk3:=A_ gy2
 clear gy3 gy2
 have gy7:=A_ gy5
 have jk4:=A_ gy4
 clear gy5 gy4
 replace fk4:=eq_true fk4
 replace fk5:=eq_true fk5
 refine start_ (n:=12) (S:=fun w'=>w'.cell? ⟨vf,0,none⟩=some (.slice ak pn.length aj)/\w'.cell? ⟨vf,1,none⟩=some (.slice jy uf.length jz)/\w'.cell? ⟨vf,2,none⟩=some (bc7)/\w'.cell? ⟨ag2,0,none⟩=some (.slice ah ab.length af)/\w'.cell? ⟨ag2,1,none⟩=some (.slice ao aa.length ai)/\w'.cell? ⟨ag2,2,none⟩=some (.slice (some dm7) av.length cu)/\w'.cell? (dm7.add ((ck).toNat * 2))=some (.slice gx8 ((Jc av ck).f0).length gx9)/\w'.cell? ⟨(dm7.add ((ck).toNat * 2)).block,(dm7.add ((ck).toNat * 2)).off + 1,none⟩=some (.slice gy0 ((Jc av ck).f1).length gy1)) (ds:=[11]) (tl_ 12 0) (g0_) rfl (g0_) ⟨(Gy oh.out 0).trans rfl,(Gy oh.out 1).trans rfl,(Gy oh.out 2).trans rfl,(Gy mz.out 0).trans rfl,(Gy mz.out 1).trans rfl,(Gy mz.out 2).trans rfl,((cl_ HB dm9).trans rfl),((cl_ HB dm8).trans rfl)⟩ (fun hHeld=>?_);refine Jl Fm.tab5 Fm.bits5 (fun HT_ HW_=>?_)
 generalize wr.drew=mu at ak6 aq4 ae3 mz ug oh HB gy6 gy7 ej7 ej8 hHeld |-
 refine pw_ 0 16 (tl_ 12 1) ?_
 refine pw_ 2 18 (tl_ 12 5) ?_
 refine pw_ 4 20 (tl_ 12 21) ?_
 refine tk6_ 1 17 (tl_ 12 23) hHeld ?_
 refine tk6_ 3 19 (tl_ 12 31) hHeld ?_
 refine pw_ 5 21 (tl_ 12 63) ?_
 refine tk6_ 6 22 (tl_ 12 127) hHeld ?_
 refine one_ (i:=7) (N:=some 23) (tl_ 12 255) rfl rfl (Jn HT_.out (g0_)) (by decide) (fun K hK=>?_)
 refine goes_ Try.func80 (g0_) rfl #[.agg #[.slice gx8 ((Jc av ck).f0).length gx9, .slice gy0 ((Jc av ck).f1).length gy1]] (by rfl) rfl rfl (gM_) ?_
 refine(Fv.calls k1 _ _ ((Jc av ck).f0) _ _ ((Jc av ck).f1) dm0 dm1 _ (uC_ gy6) jk3.out (uC_ gy7) jk4.out A16.out).mono ?_
 rintro e yu ⟨gy8,jk5,rfl,ae,ax,hb⟩
 refine⟨_,rfl,?_⟩
 have HP1:Gx (Kd.R (Kd.int .i64) 3 yu w.heap.size (fun k_=>mu.heap.size<=k_/\(fun k_=>some k_≠(.slice ak pn.length aj:Value).ownBlock/\some k_≠(.slice jy uf.length jz:Value).ownBlock) k_/\some k_≠(bc7:Value).ownBlock) gy8 _):=A_ (Kd.R_lower (Kd.R_mono (Kd.R_bound ae) (fun _ hk=>⟨hk.2.1,⟨Kd.fresh' (Kd.R_lt ak6.out) _ hk.2.1,Kd.fresh' (Kd.S_lt aq4.out) _ hk.2.1⟩,Kd.fresh' (Kd.S_lt ae3.out) _ hk.2.1⟩)) (Gz (Fm.calls_s_q0)))
 have HP2:Gx (Kd.S (Kd.slice 3 (Kd.int .i64)) 22 yu w.heap.size (fun k_=>(fun k_=>mu.heap.size<=k_/\(fun k_=>some k_≠(.slice ak pn.length aj:Value).ownBlock/\some k_≠(.slice jy uf.length jz:Value).ownBlock) k_/\some k_≠(bc7:Value).ownBlock) k_/\some k_≠(gy8:Value).ownBlock) jk5 _):=A_ (Kd.S_lower (Kd.S_mono (Kd.S_bound ax) (fun _ hk=>⟨⟨hk.2.1,⟨Kd.fresh' (Kd.R_lt ak6.out) _ hk.2.1,Kd.fresh' (Kd.S_lt aq4.out) _ hk.2.1⟩,Kd.fresh' (Kd.S_lt ae3.out) _ hk.2.1⟩,hk.1⟩)) (Gz (Fm.calls_s_q0)))
 have HP3:=A_ (Kd.S_old (uS_ ae3) hb)
 replace ae3:=A_ (Kd.S_mono (Kd.S_told (Kd.S_told (Kd.S_old (uS_ ae3) hb) (Kd.R_base ae)) (Kd.S_base ax)) (fun _ h_=>h_.1))
 have gy9:=A_ (Kd.R_lower (Kd.R_new' ae (Kd.R_lt (uR_ ak6))) (Gz (Fm.calls_s_q0)))
 have gz0:=A_ (Kd.S_lower (Kd.S_new' (Kd.S_new' ax (Kd.R_lt (uR_ ak6))) (Kd.S_lt (uS_ aq4))) (Gz (Fm.calls_s_q0)))
 replace ak6:=A_ (Kd.R_elder' (uR_ ak6) (Kd.R_base ae) hb)
 replace aq4:=A_ (Kd.S_mono (Kd.S_told (Kd.S_told (Kd.S_old (uS_ aq4) hb) (Kd.R_base ae)) (Kd.S_base ax)) (fun _ h_=>h_.1))
 replace mz:=bb_ mz hb
 replace ug:=bb_ ug hb
 replace oh:=bb_ oh hb
 replace HB:=A_ (Jg (Fm.calls_s_q0) hb)
 obtain⟨aw,ag,bi6⟩:=Kd.R_slice gy9.out
 (first|subst bi6|(injection bi6 with f1_ f2_ f3_;have f4_:=f1_.symm;have f5_:=f3_.symm;clear f1_ f2_ f3_;subst f4_;subst f5_))
 obtain⟨cj4,cj5,cw1⟩:=Kd.S_slice gz0.out
 (first|subst cw1|(injection cw1 with f1_ f2_ f3_;have f4_:=f1_.symm;have f5_:=f3_.symm;clear f1_ f2_ f3_;subst f4_;subst f5_))
 refine hK.out _ _ ⟨(Gy oh.out 0).trans rfl,(Gy oh.out 1).trans rfl,(Gy oh.out 2).trans rfl,(Gy mz.out 0).trans rfl,(Gy mz.out 1).trans rfl,(Gy mz.out 2).trans rfl,((cl_ HB dm9).trans rfl),((cl_ HB dm8).trans rfl)⟩ (fun hHeld=>?_)
 clear hK K
 refine nm_ ?_
 refine one_ (i:=8) (N:=some 24) (tl_ 12 511) rfl rfl (Jn HT_.out (g0_)) (by decide) (fun K hK=>?_)
 refine value_ (w1:=?_) (v:=?_) (by rfl) rfl ?_ ?_
 rotate_left 2
 ·go_simp
  constructor
  ·rfl
  rfl
 refine hK.out _ _ ⟨(Gy (G4 oh.out _) 0).trans rfl,(Gy (G4 oh.out _) 1).trans rfl,(Gy (G4 oh.out _) 2).trans rfl,(Gy (G4 mz.out _) 0).trans rfl,(Gy (G4 mz.out _) 1).trans rfl,(Gy (G4 mz.out _) 2).trans rfl,(World.cell?_alloc_lt _ _ _ (World.block_lt_of_cell? _ _ (((cl_ HB dm9).trans rfl)))).trans (((cl_ HB dm9).trans rfl)),(World.cell?_alloc_lt _ _ _ (World.block_lt_of_cell? _ _ (((cl_ HB dm8).trans rfl)))).trans (((cl_ HB dm8).trans rfl))⟩ (fun hHeld=>?_)
 clear hK K
 refine nm_ ?_
 refine one_ (i:=9) (N:=some 25) (tl_ 12 1023) rfl rfl (Jn HT_.out (g0_)) (by decide) (fun K hK=>?_)
 refine Kd.S_append_step k25s (w0:=w) w.heap.size (by rfl) (.tmp 17) (.tmp 24) 26 25 (.agg #[(.slice none 0 0),(.slice none 0 0)]) 48 rfl Try.underlying26 info25 rfl (by decide) (by omega) bc7 bo7 (⟨dm0,dm1⟩:S25) [.slice aw dm0.length ag, .slice cj4 dm1.length cj5] (fun k_=>some k_≠(.slice ak pn.length aj:Value).ownBlock/\some k_≠(.slice jy uf.length jz:Value).ownBlock) (fun k_=>mu.heap.size<=k_/\(fun k_=>some k_≠(.slice ak pn.length aj:Value).ownBlock/\some k_≠(.slice jy uf.length jz:Value).ownBlock) k_/\some k_≠(bc7:Value).ownBlock) rfl rfl ?aP (fun _ hk=>hk.2) ?aF ?aO ?aB ?aS ?aL ?_
 (case aP=>exact k25s_mkM _ _ _ (⟨dm0,dm1⟩:S25) HP1.out HP2.out)
 (case aB=>exact(Fm.calls_s_q0))
 (case aF=>exact(fun k_ hk=>⟨Kd.fresh' (Kd.R_lt (uR_ ak6)) k_ hk,Kd.fresh' (Kd.S_lt (uS_ aq4)) k_ hk⟩))
 (case aO=>exact Kd.S_mono HP3.out (fun _ hk=>⟨hk.1,fun h_=>Nat.not_le.2 hk.2 h_.1⟩))
 (case aS=>exact(Gz (Fm.calls_s_q0)))
 (case aL=>have:=fj0.out;omega)
 intro jj0 w23 ho hb hg hat
 rw[<- fj1.out] at ho
 replace ak6:=A_ (Kd.R_over' (uR_ ak6) (Kd.S_typed (uS_ ae3)) (by decide) hg)
 replace aq4:=A_ (Kd.S_over' (uS_ aq4) (Kd.S_typed (uS_ ae3)) (by decide) hg)
 replace mz:=(bg_ mz hg (Kd.S_ne ae3.out mz.out (by decide)))
 replace ug:=(bg_ ug hg (Kd.S_ne ae3.out ug.out (by decide)))
 replace oh:=(bg_ oh hg (Kd.S_ne ae3.out oh.out (by decide)))
 replace HB:=A_ (hb)
 have cj2:=A_ (ho)
 clear ae3 gy9 gz0
 clear ho hb hg hat
 obtain⟨sx,sy,av4⟩:=Kd.S_slice cj2.out
 (first|subst av4|(injection av4 with f1_ f2_ f3_;have f4_:=f1_.symm;have f5_:=f3_.symm;clear f1_ f2_ f3_;subst f4_;subst f5_))
 refine hK.out _ _ ⟨(Gy oh.out 0).trans rfl,(Gy oh.out 1).trans rfl,(Gy oh.out 2).trans rfl,(Gy mz.out 0).trans rfl,(Gy mz.out 1).trans rfl,(Gy mz.out 2).trans rfl,((cl_ HB dm9).trans rfl),((cl_ HB dm8).trans rfl)⟩ (fun hHeld=>?_)
 clear hK K
 refine nm_ ?_
 refine pw_ 10 26 (tl_ 12 2047) ?_
 refine last_ (i:=11) (N:=none) (tl_ 12 4095) rfl rfl (Jn HT_.out (g0_)) (by decide) (fun K hK=>?_)
 have jk6:w23.cell? ⟨vf,2,none⟩=some (bc7):=(Gy oh.out 2).trans rfl
 have jk7:=G7 oh.out 2
 have jk9:=cj3.out
 have jl1:=fk3.out
 refine skip_ (w1:=?_) (by rfl) rfl ?_ ?_
 rotate_left
 ·go_simp
  rfl
 refine hK.out _ _ ?_
 clear hK K
 refine done_ (done_of HT_.out (g0_)) ?_
 try go_wp2
 go_roundg k1
 case measure=>have:=HK1.out;omega
 case rel=>exact⟨(wrap64 (ck + 1)),(av2),(.slice sx av2.length sy),(g3_),H',⟨g17_⟩,⟨ra_ ak6⟩,⟨sa_ aq4⟩,⟨sa_ cj2⟩,⟨ba_ mz⟩,⟨ba_ ug⟩,⟨ba_ oh⟩,⟨Fm.calls_s_q0⟩⟩
theorem Fm.calls (k:Nat) (ah:Option Addr) (af:Nat) (ab:List Int) (ao:Option Addr) (ai:Nat) (aa:List (List Int)) (cy:Option Addr) (cu:Nat) (av:List (S25)) (r1:List Int) (r2:List (List Int)) (r3:List (S25)) (w:World) (d4:Kd.C (Kd.int .i64) w ah ab.length ab) (d9:ab.length<=af) (d5:Kd.C (Kd.slice 3 (Kd.int .i64)) w ao aa.length aa) (ea:aa.length<=ai) (l6:Kd.C k25 w cy av.length av) (l7:av.length<=cu) (h:Fm.f k ab aa av=some (r1,r2,r3)) :
  Calls Try.prog 100 #[.agg #[.slice ah ab.length af, .slice ao aa.length ai, .slice cy av.length cu]] w fun e w'=>∃v0_ v1_ v2_:Value,e = .returned (.agg #[v0_,v1_,v2_])/\Kd.R (Kd.int .i64) 3 w' w.heap.size (fun _=>True) v0_ r1/\Kd.S (Kd.slice 3 (Kd.int .i64)) 22 w' w.heap.size (fun k_=>some k_≠(v0_:Value).ownBlock) v1_ r2/\Kd.R k25 25 w' w.heap.size (fun k_=>some k_≠(v0_:Value).ownBlock/\some k_≠(v1_:Value).ownBlock) v2_ r3/\Below w.heap.size w w':=by
 refine(Fm.calls_s k ah af ab ao ai aa cy cu av r1 r2 r3 w d4 d9 d5 ea l6 l7 h).mono ?_
 rintro e w' ⟨v0_,v1_,v2_,he,h0,h1,h2,hb⟩
 exact⟨v0_,v1_,v2_,he,h0,h1,k25s_R h2,hb⟩
theorem eqA69 (d:Nat) (w:World) (x0 y0:Int) (x1 y1:Int) (x2 y2:Int) (x3 y3:Int) :
  (Op.equalIn (d + 2) 69 (.agg #[.int .i64 x0, .int .i64 x1, .int .i64 x2, .int .i64 x3]) (.agg #[.int .i64 y0, .int .i64 y1, .int .i64 y2, .int .i64 y3])).run Try.prog w = .ok (x0 == y0 && (x1 == y1 && (x2 == y2 && (x3 == y3)))) w:=by
 refine eqA_of Try.underlying69 (g0_) ?_
 refine eqf_cons (by rfl) (g42_) (g42_) (by go_simp) ?_
 refine eqf_cons (by rfl) (g42_) (g42_) (by go_simp) ?_
 refine eqf_cons (by rfl) (g42_) (g42_) (by go_simp) ?_
 exact eqf_last (by rfl) (g42_) (g42_) (by go_simp)
mutual
def Fk.l0:Nat->Int->List Int->List (List Int)->List Int->List (List Int)->Option (List Int × (List (List Int)))
 | 0,_,_,_,_,_=>none
 | k + 1,x4,dn0,ak7,dn1,bo9=>if x4 < (dn0.length:Int) then(Fk.l1 k x4 0 dn0 ak7 dn1 bo9) else(some (dn1,bo9))
def Fk.l1:Nat->Int->Int->List Int->List (List Int)->List Int->List (List Int)->Option (List Int × (List (List Int)))
 | 0,_,_,_,_,_,_=>none
 | k + 1,x4,x5,dn0,ak7,dn1,bo9=>if x5 < x4 then(if 0<=x4 then(if x4 < (ak7.length:Int) then(if 0<=x5 then(if x5 < ((Jb ak7 x4).length:Int) then(if x5 < (ak7.length:Int) then(if x4 < ((Jb ak7 x5).length:Int) then(if x4 < (bo9.length:Int) then(if x5 < ((Jb bo9 x4).length:Int) then((some (bo9.set (x4:Int).toNat ((Jb bo9 x4).set (x5:Int).toNat (wrap64 ((rd (Jb ak7 x4) x5) - (mn (rd (Jb ak7 x4) x5) (rd (Jb ak7 x5) x4))))):List (List Int))).bind fun r7=>(if x5 < (bo9.length:Int) then(if x4 < ((Jb r7 x5).length:Int) then(Fk.l1 k x4 (wrap64 (x5 + 1)) dn0 ak7 dn1 (r7.set (x5:Int).toNat ((Jb r7 x5).set (x4:Int).toNat (wrap64 ((rd (Jb ak7 x5) x4) - (mn (rd (Jb ak7 x4) x5) (rd (Jb ak7 x5) x4))))))) else(none)) else(none))) else(none)) else(none)) else(none)) else(none)) else(none)) else(none)) else(none)) else(none)) else(Fk.l0 k (wrap64 (x4 + 1)) dn0 ak7 dn1 bo9)
end
def Fk.f (k:Nat) (ab:List Int) (aa:List (List Int)):Option (List Int × (List (List Int))):=(Fh.f k ab aa).bind fun dn2=>(if dn2=true then((Fv.f k ab aa).bind fun bt179=>(Fk.l0 k 0 ab aa bt179.1 bt179.2)) else(some (([]:List Int),([]:List (List Int)))))
def Fk.T10:Bool × List (List Nat × List Nat):=(true,[([],[]),([0],[0]),([],[]),([1,2],[1,2]),([3],[3]),([],[]),([4,5],[4,5]),([6],[6]),([],[]),([8],[8]),([],[]),([9,10],[9,10]),([11],[11]),([],[]),([12,13],[12,13]),([14],[14]),([7,15],[7,15]),([16,0,1,2,3,4,5,6,7,8,9,10,11,12,13,14,15,16],[16])])
def Fk.B10:List Nat:=[0,1,0,7,15,0,63,127,0,256,0,1792,3840,0,16128,32512,65535,131071]
theorem Fk.tab10:rtab .any (opsOf Try.f41 10)=Fk.T10:=by kernel_rfl
theorem Fk.bits10:waitsOk Fk.T10.2 Fk.B10=true:=by kernel_rfl
def Fk.T11:Bool × List (List Nat × List Nat):=(true,[([],[]),([0],[0]),([],[]),([1,2],[1,2]),([3],[3]),([],[]),([],[]),([6],[6]),([],[]),([7,8],[7,8]),([9],[9]),([],[]),([10,11],[10,11]),([12],[12]),([],[]),([13,14],[13,14]),([4,5,0,1,2,3,4,5,6,7,8,9,10,11,12,13,14,15],[4,5]),([16,15,0,1,2,3,4,5,6,7,8,9,10,11,12,13,14,15],[15,16])])
def Fk.B11:List Nat:=[0,1,0,7,15,0,0,64,0,448,960,0,4032,8128,0,32704,65535,131071]
theorem Fk.tab11:rtab .any (opsOf Try.f41 11)=Fk.T11:=by kernel_rfl
theorem Fk.bits11:waitsOk Fk.T11.2 Fk.B11=true:=by kernel_rfl
def Fk.T12:Bool × List (List Nat × List Nat):=(true,[([],[]),([0],[0]),([],[]),([1,2],[1,2]),([3],[3]),([],[]),([],[]),([6],[6]),([],[]),([7,8],[7,8]),([9],[9]),([],[]),([10,11],[10,11]),([12],[12]),([],[]),([13,14],[13,14]),([4,5,0,1,2,3,4,5,6,7,8,9,10,11,12,13,14,15],[4,5]),([16,15,0,1,2,3,4,5,6,7,8,9,10,11,12,13,14,15],[15,16])])
def Fk.B12:List Nat:=[0,1,0,7,15,0,0,64,0,448,960,0,4032,8128,0,32704,65535,131071]
theorem Fk.tab12:rtab .any (opsOf Try.f41 12)=Fk.T12:=by kernel_rfl
theorem Fk.bits12:waitsOk Fk.T12.2 Fk.B12=true:=by kernel_rfl
theorem zr {p:Prop} (h:p:=by repeat(first|(with_reducible first|exact HB.out|apply G3|apply G2|apply G1|refine G0 ?_ gz3.out|refine G0 ?_ gz4.out|refine G0 ?_ jl2.out|refine G0 ?_ GB32.out|refine G0 ?_ GB35.out)|exact HB.out)):p:=h
set_option maxHeartbeats 8000000 in
set_option maxRecDepth 100000 in
theorem Fk.calls (k:Nat) (ah:Option Addr) (af:Nat) (ab:List Int) (ao:Option Addr) (ai:Nat) (aa:List (List Int)) (r1:List Int) (r2:List (List Int)) (w:World) (d4:Kd.C (Kd.int .i64) w ah ab.length ab) (d9:ab.length<=af) (d5:Kd.C (Kd.slice 3 (Kd.int .i64)) w ao aa.length aa) (ea:aa.length<=ai) (h:Fk.f k ab aa=some (r1,r2)) :
  Calls Try.prog 41 #[.agg #[.slice ah ab.length af, .slice ao aa.length ai]] w fun e w'=>∃v0_ v1_:Value,e = .returned (.agg #[v0_,v1_])/\Kd.R (Kd.int .i64) 3 w' w.heap.size (fun _=>True) v0_ r1/\Kd.S (Kd.slice 3 (Kd.int .i64)) 22 w' w.heap.size (fun k_=>some k_≠(v0_:Value).ownBlock) v1_ r2/\Below w.heap.size w w':=by
 have hu25:=Try.underlying25
 have dp:=A_ d4
 have ec:=A_ d9
 clear d4 d9
 have df:=A_ d5
 have ee:=A_ ea
 clear d5 ea
 have HB:=A_ (Below.refl w.heap.size w)
 have H:=h
 unfold Fk.f at H
 clear h
 obtain⟨dn2,A2,H⟩:=bind_ H
 by_cases c3:dn2=true
 case neg=>
  replace c3:=Bool.eq_false_iff.mpr c3
  subst c3
  replace H:=ifn_ H
  simp only[Option.some.injEq,Prod.mk.injEq] at H
  obtain⟨rfl,rfl⟩:=H
  go_enter Try.func41,Try.ntmps41
  go_wp2_with (first|((with_reducible refine gd_ 1 ?_);refine bx_ (N:=1) #[.slice ah ab.length af, .slice ao aa.length ai] 25 ?_;intro uh hg w53 hbox hb;have j6:=A_ (hbox);have jl3:=A_ ((g35_:w.heap.size<=uh));have gz3:=jl3;replace HB:=hs_ (zr) hb;clear hb hbox hg)|((with_reducible refine gd_ 2 ?_);refine bx_ (N:=2) #[.slice none 0 0, .slice none 0 0] 25 ?_;intro ui hg w54 hbox hb;have mj:=A_ (hbox);have jl4:=A_ ((g35_:w.heap.size<=ui));have gz4:=jl4;replace HB:=hs_ (zr) hb;have dn4:=nl_ j6 hg;have dn5:=nr_ j6 hg;replace j6:=bb_ j6 hb;clear hb hbox hg;have jo9:=dn4.out;have jp0:=dn5.out;obtain⟨fn1,fn2,fn3,fn4⟩:=blk2_ j6)|((with_reducible refine gc_ 42 ?_);refine gl_ 8 Try.func42 #[.agg #[.slice ah ab.length af, .slice ao aa.length ai]] ?_;(refine(Fh.calls k _ _ ab _ _ aa false _ (uC_ dp) ec.out (uC_ df) ee.out A2.out).mono ?_);rintro e w57 ⟨rfl,hb⟩;refine⟨_,rfl,?_⟩;replace j6:=bb_ j6 hb;replace mj:=bb_ mj hb;replace HB:=hs_ (zr) hb;obtain⟨hd3,hd4,hd5,hd6⟩:=blk2_ mj))
  refine bodyPost_ret (results_cell_row rfl _ _ ui 25 #[.slice none 0 0, .slice none 0 0] (0,0) _ rfl (ba_ mj) Try.underlying25 rfl (g0_)) rfl ?_
  exact⟨_,_,g4_,g24_,g33_,zr⟩
 subst c3
 replace H:=ifp_ H
 replace H:=Option.bind_eq_some_iff.mp H
 obtain⟨⟨cw4,dn3⟩,r8,H⟩:=H
 try dsimp only at H
 have A4:=A_ r8
 clear r8
 have H':=A_ H
 clear H
 go_enter Try.func41,Try.ntmps41
 go_wp2_with (first|((with_reducible refine gd_ 1 ?_);refine bx_ (N:=1) #[.slice ah ab.length af, .slice ao aa.length ai] 25 ?_;intro uh hg w5 hbox hb;have j6:=A_ (hbox);have jl3:=A_ ((g35_:w.heap.size<=uh));have gz3:=jl3;replace HB:=hs_ (zr) hb;clear hb hbox hg)|((with_reducible refine gd_ 2 ?_);refine bx_ (N:=2) #[.slice none 0 0, .slice none 0 0] 25 ?_;intro ui hg w6 hbox hb;have mj:=A_ (hbox);have jl4:=A_ ((g35_:w.heap.size<=ui));have gz4:=jl4;replace HB:=hs_ (zr) hb;have dn4:=nl_ j6 hg;have dn5:=nr_ j6 hg;replace j6:=bb_ j6 hb;clear hb hbox hg;have fi7:=dn4.out;have fi8:=dn5.out;obtain⟨at9,au0,au1,au2⟩:=blk2_ j6)|((with_reducible refine gc_ 42 ?_);refine gl_ 8 Try.func42 #[.agg #[.slice ah ab.length af, .slice ao aa.length ai]] ?_;(refine(Fh.calls k _ _ ab _ _ aa true _ (uC_ dp) ec.out (uC_ df) ee.out A2.out).mono ?_);rintro e w9 ⟨rfl,hb⟩;refine⟨_,rfl,?_⟩;replace j6:=bb_ j6 hb;replace mj:=bb_ mj hb;replace HB:=hs_ (zr) hb;obtain⟨aj7,aj8,aj9,ak0⟩:=blk2_ j6)|((with_reducible refine gc_ 80 ?_);refine gl_ 12 Try.func80 #[.agg #[.slice ah ab.length af, .slice ao aa.length ai]] ?_;(refine(Fv.calls k _ _ ab _ _ aa cw4 dn3 _ (uC_ dp) ec.out (uC_ df) ee.out A4.out).mono ?_);rintro e w11 ⟨mh2,mh3,rfl,ae,ax,hb⟩;refine⟨_,rfl,?_⟩;have ej9:=A_ (Kd.R_lower ae (Gz (zr)));have ek0:=A_ (Kd.S_lower ax (Gz (zr)));replace j6:=bb_ j6 hb;replace mj:=bb_ mj hb;replace HB:=hs_ (zr) hb)|((with_reducible refine gd_ 3 ?_);refine bx_ (N:=3) #[.slice none 0 0, .slice none 0 0] 25 ?_;intro aa9 hg w12 hbox hb;replace ej9:=rb_ ej9 hb;replace ek0:=sb_ ek0 hb;have qi:=A_ (hbox);have mh4:=A_ ((g35_:w.heap.size<=aa9));have jl2:=mh4;replace HB:=hs_ (zr) hb;have dn6:=nl_ j6 hg;have fl0:=nr_ j6 hg;replace j6:=bb_ j6 hb;have ek1:=nl_ mj hg;have gz5:=nr_ mj hg;replace mj:=bb_ mj hb;clear hb hbox hg;obtain⟨dz,de,bc8⟩:=Kd.R_slice ej9.out;subst bc8;have eg0:=fl0.out;have eg1:=dn6.out;have cw5:=gz5.out;have cw6:=ek1.out;obtain⟨ba9,bb0,bb1,bb2⟩:=blk2_ qi;obtain⟨ia,h7,bp0⟩:=Kd.S_slice ek0.out;subst bp0))
 go_loopg [4] k (fun kq v4 w'=>∃(ck:Int) (bz5:List Int) (cj6:List (List Int)) (ab0:Value) (bp1:Value),v4 = .int .i64 ck/\Gx (Fk.l0 kq ck ab aa bz5 cj6=some (r1,r2))/\Gx (kq<=k)/\Gx (Kd.R (Kd.int .i64) 3 w' w.heap.size (fun _=>True) ab0 bz5)/\Gx (Kd.S (Kd.slice 3 (Kd.int .i64)) 22 w' w.heap.size (fun k_=>some k_≠(ab0:Value).ownBlock) bp1 cj6)/\Gx (hc_ w' uh #[(.slice ah ab.length af),(.slice ao aa.length ai)] 25)/\Gx (hc_ w' ui #[(.slice none 0 0),(.slice none 0 0)] 25)/\Gx (hc_ w' aa9 #[ab0,bp1] 25)/\Gx (Below w.heap.size w w'))
 case atStart=>exact⟨(0),(cw4),(dn3),(.slice dz cw4.length de),(.slice ia dn3.length h7),(g3_),H',⟨Nat.le_refl _⟩,⟨ra_ ej9⟩,⟨sa_ ek0⟩,⟨ba_ j6⟩,⟨ba_ mj⟩,⟨ba_ qi⟩,⟨zr⟩⟩
 clear H'
 obtain⟨ck,bz5,cj6,ab0,bp1,rfl,HA,HK1,yw,pa,j6,mj,qi,HB⟩:=hrel
 cases gk with
 | zero=>exact absurd HA.out (by simp[Fk.l0])
 | succ k1=>?_
 have H:=HA.out
 clear HA
 simp only[Fk.l0] at H
 by_cases k5:ck < (ab.length:Int)
 case neg=>
  rw[if_neg k5] at H
  have bc9:=decide_eq_false k5
  clear k5
  simp only[Option.some.injEq,Prod.mk.injEq] at H
  obtain⟨rfl,rfl⟩:=H
  have dn8:=dn4.out
  have dn9:=dn5.out
  have el7:=dn6.out
  have el8:=fl0.out
  obtain⟨mi7,mi8,mi9,mj0⟩:=blk2_ j6
  have el9:=gz5.out
  have em0:=ek1.out
  obtain⟨do0,do1,do2,do3⟩:=blk2_ qi
  obtain⟨av6,av7,do4⟩:=Kd.R_slice yw.out
  subst do4
  obtain⟨bp3,bp4,bp5,bp6⟩:=blk2_ mj
  obtain⟨qj,qk,fn0⟩:=Kd.S_slice pa.out
  subst fn0
  go_wp2
  refine bodyPost_ret (results_cell_row rfl _ _ ui 25 #[.slice av6 bz5.length av7, .slice qj cj6.length qk] (0,0) _ rfl (ba_ mj) Try.underlying25 rfl (g0_)) rfl ?_
  exact⟨_,_,g4_,ra_ yw,sa_ pa,zr⟩
 rw[if_pos k5] at H
 have bc9:=decide_eq_true k5
 clear k5
 have H':=A_ H
 clear H
 have dl2:=dn4.out
 have dl3:=dn5.out
 have cv8:=dn6.out
 have cv9:=fl0.out
 obtain⟨aa2,aa3,ad7,aa4⟩:=blk2_ j6
 go_wp2
 go_loopg [5] k1 (fun kq v5 w'=>∃(dq:Int) (bd0:List Int) (po:List (List Int)) (ab0:Value) (bp1:Value),v5 = .int .i64 dq/\Gx (Fk.l1 kq ck dq ab aa bd0 po=some (r1,r2))/\Gx (kq<=k1)/\Gx (Kd.R (Kd.int .i64) 3 w' w.heap.size (fun _=>True) ab0 bd0)/\Gx (Kd.S (Kd.slice 3 (Kd.int .i64)) 22 w' w.heap.size (fun k_=>some k_≠(ab0:Value).ownBlock) bp1 po)/\Gx (hc_ w' uh #[(.slice ah ab.length af),(.slice ao aa.length ai)] 25)/\Gx (hc_ w' ui #[(.slice none 0 0),(.slice none 0 0)] 25)/\Gx (hc_ w' aa9 #[ab0,bp1] 25)/\Gx (Below w.heap.size w w'))
 case atStart=>exact⟨(0),(bz5),(cj6),(ab0),(bp1),(g3_),H',⟨Nat.le_refl _⟩,⟨uR_ yw⟩,⟨uS_ pa⟩,⟨uB_ j6⟩,⟨uB_ mj⟩,⟨uB_ qi⟩,⟨zr⟩⟩
 clear H'
 obtain⟨dq,bd0,po,ab0,bp1,rfl,HA,HK2,yw,pa,j6,mj,qi,HB⟩:=hrel
 cases gk with
 | zero=>exact absurd HA.out (by simp[Fk.l1])
 | succ k2=>?_
 have H:=HA.out
 clear HA
 simp only[Fk.l1] at H
 by_cases lj:dq < ck
 case neg=>
  rw[if_neg lj] at H
  have bc0:=decide_eq_false lj
  clear lj
  have H':=A_ H
  clear H
  go_wp2
  go_roundg k2
  case measure=>have:=HK1.out;have:=HK2.out;omega
  case rel=>exact⟨(wrap64 (ck + 1)),(bd0),(po),(ab0),(bp1),(g3_),H',⟨g29_⟩,⟨uR_ yw⟩,⟨uS_ pa⟩,⟨uB_ j6⟩,⟨uB_ mj⟩,⟨uB_ qi⟩,⟨zr⟩⟩
 rw[if_pos lj] at H
 have bc0:=decide_eq_true lj
 clear lj
 obtain⟨bn7,H⟩:=pd_ H
 obtain⟨ad9,H⟩:=pd_ H
 obtain⟨bh8,H⟩:=pd_ H
 obtain⟨ch7,H⟩:=pd_ H
 obtain⟨bx6,H⟩:=pd_ H
 obtain⟨bn4,H⟩:=pd_ H
 obtain⟨ji29,hji29⟩:∃j_:Int,(mn (rd (Jb aa ck) dq) (rd (Jb aa dq) ck))=j_:=⟨_,rfl⟩
 first|rw[hji29] at H|simp only[hji29] at H
 have hji29_:(if (rd (Jb aa dq) ck) < (rd (Jb aa ck) dq) then(rd (Jb aa dq) ck) else(rd (Jb aa ck) dq))=ji29:=hji29
 obtain⟨cw7,H⟩:=pd_ H
 obtain⟨aq5,H⟩:=pd_ H
 obtain⟨fl1,hyq⟩:∃y_:List Int,y_=((Jb po ck).set (dq:Int).toNat (wrap64 ((rd (Jb aa ck) dq) - (ji29)))):=⟨_,rfl⟩
 replace H:((some (po.set (ck:Int).toNat fl1:List (List Int))).bind fun r7=>(if dq < (po.length:Int) then(if ck < ((Jb r7 dq).length:Int) then(Fk.l1 k2 ck (wrap64 (dq + 1)) ab aa bd0 (r7.set (dq:Int).toNat ((Jb r7 dq).set (ck:Int).toNat (wrap64 ((rd (Jb aa dq) ck) - (ji29)))))) else(none)) else(none)))=some (r1,r2):=qh_
 have jl5:=A_ hyq
 clear hyq
 obtain⟨r7,hyq⟩:∃y_:List (List Int),y_=(po.set (ck:Int).toNat fl1):=⟨_,rfl⟩
 replace H:(if dq < (po.length:Int) then(if ck < ((Jb r7 dq).length:Int) then(Fk.l1 k2 ck (wrap64 (dq + 1)) ab aa bd0 (r7.set (dq:Int).toNat ((Jb r7 dq).set (ck:Int).toNat (wrap64 ((rd (Jb aa dq) ck) - (ji29)))))) else(none)) else(none))=some (r1,r2):=qh_
 have fl2:=A_ hyq
 clear hyq
 obtain⟨ek2,H⟩:=pd_ H
 obtain⟨dn7,H⟩:=pd_ H
 obtain⟨fl3,hyq⟩:∃y_:List Int,y_=((Jb r7 dq).set (ck:Int).toNat (wrap64 ((rd (Jb aa dq) ck) - (ji29)))):=⟨_,rfl⟩
 replace H:(Fk.l1 k2 ck (wrap64 (dq + 1)) ab aa bd0 (r7.set (dq:Int).toNat fl3))=some (r1,r2):=qh_
 have jl6:=A_ hyq
 clear hyq
 obtain⟨gz6,hyq⟩:∃y_:List (List Int),y_=(r7.set (dq:Int).toNat fl3):=⟨_,rfl⟩
 replace H:(Fk.l1 k2 ck (wrap64 (dq + 1)) ab aa bd0 gz6)=some (r1,r2):=qh_
 have jl7:=A_ hyq
 clear hyq
 have H':=A_ H
 clear H
 try go_wp2
 replace yw:=rd_ yw
 replace pa:=sd_ pa
 replace j6:=bd_ j6
 replace mj:=bd_ mj
 replace qi:=bd_ qi
 replace HB:=A_ (G1 HB.out)
 obtain⟨⟨bd1,mh5,jl8,jl9,ek3,gz7,gz8⟩,fl4,fl5⟩:=rdp_ (at_L1 df.out ck)
 have jm0:=ek3
 cases jl9
 replace ek3:=cl_ HB ek3
 have gz9:=A_ gz8
 have mh6:=A_ gz7
 clear gz8 gz7
 obtain⟨⟨ha0,jm1,ek4⟩,fl6,fl7⟩:=rdp_ (Kd.at_int gz9.out dq)
 have jm2:=ek4
 cases jm1
 replace ek4:=cl_ HB ek4
 obtain⟨⟨jm3,mh7,jm4,jm5,ek5,ha1,ha2⟩,fl8,fl9⟩:=rdp_ (at_L1 df.out dq)
 have jm6:=ek5
 obtain rfl:bd1=jm3:=(by injection jm5)
 replace ek5:=cl_ HB ek5
 have ha3:=A_ ha2
 have mh8:=A_ ha1
 clear ha2 ha1
 obtain⟨⟨ha4,jm7,ek6⟩,fm0,fm1⟩:=rdp_ (Kd.at_int ha3.out ck)
 have jm8:=ek6
 cases jm7
 replace ek6:=cl_ HB ek6
 refine start_ (n:=18) (S:=fun w'=>w'.cell? ⟨uh,0,none⟩=some (.slice ah ab.length af)/\w'.cell? ⟨uh,1,none⟩=some (.slice (some bd1) aa.length ai)/\w'.cell? (bd1.add (ck).toNat)=some (.slice (some ha0) (Jb aa ck).length jl8)/\w'.cell? (ha0.add (dq).toNat)=some (.int .i64 (rd (Jb aa ck) dq))/\w'.cell? (bd1.add (dq).toNat)=some (.slice (some ha4) (Jb aa dq).length jm4)/\w'.cell? (ha4.add (ck).toNat)=some (.int .i64 (rd (Jb aa dq) ck))) (ds:=[]) (tl_ 18 0) (g0_) rfl (g0_) ⟨(Gy j6.out 0).trans rfl,(Gy j6.out 1).trans rfl,((cl_ HB jm0).trans rfl),((cl_ HB jm2).trans rfl),((cl_ HB jm6).trans rfl),((cl_ HB jm8).trans rfl)⟩ (fun hHeld=>?_);refine Jl Fk.tab10 Fk.bits10 (fun HT_ HW_=>?_)
 generalize wr.drew=k7 at yw pa j6 mj qi HB gz9 ha3 ek3 ek4 ek5 ek6 hHeld |-
 refine pw_ 0 25 (tl_ 18 1) ?_
 refine pw_ 2 27 (tl_ 18 5) ?_
 refine pw_ 5 30 (tl_ 18 37) ?_
 refine pw_ 8 33 (tl_ 18 293) ?_
 refine pw_ 10 35 (tl_ 18 1317) ?_
 refine pw_ 13 38 (tl_ 18 9509) ?_
 refine tk1_ 1 26 (tl_ 18 9511) hHeld ?_
 refine pw_ 3 28 (tl_ 18 9519) ?_
 refine tk1_ 4 29 (tl_ 18 9535) hHeld ?_
 refine pw_ 6 31 (tl_ 18 9599) ?_
 refine tk1_ 7 32 (tl_ 18 9727) hHeld ?_
 refine tk1_ 9 34 (tl_ 18 10239) hHeld ?_
 refine pw_ 11 36 (tl_ 18 12287) ?_
 refine tk1_ 12 37 (tl_ 18 16383) hHeld ?_
 refine pw_ 14 39 (tl_ 18 32767) ?_
 refine tk1_ 15 40 (tl_ 18 65535) hHeld ?_
 refine pw_ 16 41 (tl_ 18 131071) ?_
 refine pw_ 17 6 (tl_ 18 262143) ?_
 refine done_ (done_of HT_.out (g0_)) ?_
 try go_wp2
 replace yw:=rd_ yw
 replace pa:=sd_ pa
 replace j6:=bd_ j6
 replace mj:=bd_ mj
 replace qi:=bd_ qi
 replace HB:=A_ (G1 HB.out)
 obtain⟨ma,ka,av5⟩:=Kd.S_slice pa.out
 (first|subst av5|(injection av5 with f1_ f2_ f3_;have f4_:=f1_.symm;have f5_:=f3_.symm;clear f1_ f2_ f3_;subst f4_;subst f5_))
 have ek7:0<=(ck:Int):=od_
 have ek8:ck < (po.length:Int):=od_
 obtain⟨bz6,mh9,jm9,jn0,ek9,ha5,ha6⟩:=at_L1 (Kd.S_reads' pa.out).2.2 ck ek7 ek8
 cases jn0
 obtain⟨ce190,hce190,hMe190,hcc190⟩:=Kd.S_get pa.out [] ck ek7 (by first|exact ek8|exact od_|(have e_:=(Kd.S_reads' pa.out).1;omega))
 obtain⟨ve190_0,rfl,ge190_0⟩:=hMe190
 have hv190_0:=hcc190 0 _ rfl
 rw[Nat.add_zero,show((Kd.slice 3 (Kd.int .i64))).sz=1 from rfl,Nat.mul_one] at hv190_0
 replace hv190_0:=Option.some.inj (hv190_0.symm.trans ek9)
 rw[hv190_0] at ge190_0
 have cj7:=A_ (show Kd.R (Kd.int .i64) 3 _ _ _ _ (Jb po ck) from ge190_0)
 clear hv190_0 ge190_0
 have HX190_0:=A_ ek9
 clear hcc190 hce190
 have jn1:=A_ ha6
 have mi0:=A_ ha5
 clear ha6 ha5
 replace ek7:=eq_true ek7
 replace ek8:=eq_true ek8
 obtain⟨⟨jn2,mi1,jn3,jn4,el0,ha7,ha8⟩,fm2,fm3⟩:=rdp_ (at_L1 df.out ck)
 have jn5:=el0
 obtain rfl:bd1=jn2:=(by injection jn4)
 replace el0:=cl_ HB el0
 have ha9:=A_ ha8
 have mi2:=A_ ha7
 clear ha8 ha7
 obtain⟨⟨hb7,jn6,el1⟩,fm4,fm5⟩:=rdp_ (Kd.at_int ha9.out dq)
 have jn7:=el1
 cases jn6
 replace el1:=cl_ HB el1
 have p32:0<=(dq:Int):=od_
 have q32:(dq:Int) < (((Jb po ck).length:Int):Int):=od_
 obtain⟨bp2,iv,bz7,hb8,gl32,cl32,HG32⟩:=Kd.R_form cj7.out (by omega)
 (first|cases bz7|(injection bz7 with ea_ en_ ec_;(first|subst ea_|(injection ea_ with ea_;subst ea_));subst ec_;clear en_))
 have GB32:=A_ hb8
 have GG32:=A_ HG32
 clear hb8 gl32 HG32
 obtain⟨jn8,hf32_0⟩:=Kd.R_celln 0 cj7.out (dq:Int) p32 q32
 replace p32:=eq_true p32
 replace q32:=eq_true q32
 have hq39:(ck:Int) < (po.length:Int):=(by have h_:(ck:Int) < ((po.length:Int):Int):=od_;first|exact h_|(have e_:=(Kd.S_reads' pa.out).1;omega)|simpa only[List.length_set,List.length_set] using h_)
 obtain⟨oki39,ce39,hcl39,hM39,hcc39,hok39,hbk39⟩:=Kd.S_borrow pa.out [] (ck:Int) (od_) (by first|exact hq39|exact od_|(have e_:=(Kd.S_reads' pa.out).1;omega))
 obtain⟨ve39_0,rfl,ge39_0⟩:=hM39
 have hv39:=hcc39 0 _ rfl
 rw[Nat.add_zero,show((Kd.slice 3 (Kd.int .i64))).sz=1 from rfl,Nat.mul_one] at hv39
 replace hv39:=Option.some.inj (hv39.symm.trans HX190_0.out)
 subst hv39
 clear hcc39 hcl39
 replace ge39_0:=(show Kd.R (Kd.int .i64) 3 _ _ _ _ (Jb po ck) from ge39_0)
 have HP39:=Kd.R_putg ge39_0 (dq:Int) (wrap64 ((rd (Jb aa ck) dq) - (ji29)))
 rw[<- jl5.out] at HP39
 have HS39:=hbk39 HP39.2 (fun k_ e_=>by injection e_ with e_;subst e_;exact ge39_0.1 _ rfl) (x':=fl1) (Kd.M_row HP39.1)
 rw[<- fl2.out] at HS39
 have HQ39:=A_ HS39
 clear HP39 HS39 hbk39 hok39
 refine start_ (n:=18) (S:=fun w'=>w'.cell? ⟨aa9,0,none⟩=some (ab0)/\w'.cell? ⟨aa9,1,none⟩=some (.slice (some bz6) po.length ka)/\w'.cell? ⟨uh,0,none⟩=some (.slice ah ab.length af)/\w'.cell? ⟨uh,1,none⟩=some (.slice (some bd1) aa.length ai)/\w'.cell? (bz6.add (ck).toNat)=some (.slice (some ⟨bp2,0,none⟩) (Jb po ck).length jm9)/\w'.cell? (bd1.add (ck).toNat)=some (.slice (some hb7) (Jb aa ck).length jn3)/\w'.cell? (hb7.add (dq).toNat)=some (.int .i64 (rd (Jb aa ck) dq))) (ds:=[17]) (tl_ 18 0) (g0_) rfl (g0_) ⟨(Gy qi.out 0).trans rfl,(Gy qi.out 1).trans rfl,(Gy j6.out 0).trans rfl,(Gy j6.out 1).trans rfl,ek9,((cl_ HB jn5).trans rfl),((cl_ HB jn7).trans rfl)⟩ (fun hHeld=>?_);refine Jl Fk.tab11 Fk.bits11 (fun HT_ HW_=>?_)
 generalize k7.drew=ta at yw pa j6 mj qi HB GG32 cj7 HQ39 jn1 ha9 HX190_0 hf32_0 ek9 el0 el1 jn8 hHeld |-
 refine pw_ 0 42 (tl_ 18 1) ?_
 refine pw_ 2 44 (tl_ 18 5) ?_
 refine pw_ 5 47 (tl_ 18 37) ?_
 refine pw_ 6 48 (tl_ 18 101) ?_
 refine pw_ 8 50 (tl_ 18 357) ?_
 refine pw_ 11 53 (tl_ 18 2405) ?_
 refine pw_ 14 56 (tl_ 18 18789) ?_
 refine tk4_ 1 43 (tl_ 18 18791) hHeld ?_
 refine pw_ 3 45 (tl_ 18 18799) ?_
 refine tk4_ 4 46 (tl_ 18 18815) hHeld ?_
 refine tk4_ 7 49 (tl_ 18 18943) hHeld ?_
 refine pw_ 9 51 (tl_ 18 19455) ?_
 refine tk4_ 10 52 (tl_ 18 20479) hHeld ?_
 refine pw_ 12 54 (tl_ 18 24575) ?_
 refine tk4_ 13 55 (tl_ 18 32767) hHeld ?_
 refine pw_ 15 57 (tl_ 18 65535) ?_
 refine pw_ 16 58 (tl_ 18 131071) ?_
 refine last_ (i:=17) (N:=none) (tl_ 18 262143) rfl rfl (Jn HT_.out (g0_)) (by decide) (fun K hK=>?_)
 refine skip_ (w1:=?_) (by rfl) rfl ?_ ?_
 rotate_left
 ·go_simp
  rfl
 refine hK.out _ _ ?_
 clear hK K
 refine done_ (done_of HT_.out (g0_)) ?_
 try go_wp2
 generalize hw_:(ta.setCell ⟨bp2,(dq:Int).toNat,none⟩ (.int .i64 (wrap64 ((rd (Jb aa ck) dq) - (ji29)))))=w41
 have n0_:Gx (Kd.R (Kd.int .i64) 3 w41 w.heap.size (fun _=>True) ab0 bd0):=A_ (by rw[<- hw_];exact(by(with_reducible repeat(first|apply Kd.R_alloc|apply Kd.R_drewN|apply Kd.R_drew));exact Kd.R_mono (Kd.R_far (p:=⟨bp2,(dq:Int).toNat,none⟩) (Kd.R_far1 yw.out rfl ((cj7.out.1 _ rfl).1)) (fun _ hk=>hk.2) (.int .i64 (wrap64 ((rd (Jb aa ck) dq) - (ji29))))) (fun _ hk=>trivial)))
 have n1_:Gx (Kd.S (Kd.slice 3 (Kd.int .i64)) 22 w41 w.heap.size (fun k_=>some k_≠(ab0:Value).ownBlock) (.slice (some bz6) po.length ka) r7):=A_ (by rw[<- hw_];exact uS_ HQ39)
 have n2_:Gx (hc_ w41 uh #[.slice ah ab.length af, .slice (some bd1) aa.length ai] 25):=A_ (by rw[<- hw_];exact(by(with_reducible repeat(first|refine G5 ?_ _|refine G6 ?_|refine G4 ?_ _));refine Je ?_ (by have h_:=Kd.R_ne cj7.out j6.out (by decide);intro e_;exact h_ (g6_)) _;exact uB_ j6))
 have n3_:Gx (hc_ w41 ui #[.slice none 0 0, .slice none 0 0] 25):=A_ (by rw[<- hw_];exact(by(with_reducible repeat(first|refine G5 ?_ _|refine G6 ?_|refine G4 ?_ _));refine Je ?_ (by have h_:=Kd.R_ne cj7.out mj.out (by decide);intro e_;exact h_ (g6_)) _;exact uB_ mj))
 have n4_:Gx (hc_ w41 aa9 #[ab0, .slice (some bz6) po.length ka] 25):=A_ (by rw[<- hw_];exact(by(with_reducible repeat(first|refine G5 ?_ _|refine G6 ?_|refine G4 ?_ _));refine Je ?_ (by have h_:=Kd.R_ne cj7.out qi.out (by decide);intro e_;exact h_ (g6_)) _;exact uB_ qi))
 have n5_:Gx (Below w.heap.size w w41):=A_ (by rw[<- hw_];exact zr)
 clear hw_
 have yw:=n0_
 have pa:=n1_
 have j6:=n2_
 have mj:=n3_
 have qi:=n4_
 have HB:=n5_
 clear n0_ n1_ n2_ n3_ n4_ n5_
 replace yw:=rd_ yw
 replace pa:=sd_ pa
 replace j6:=bd_ j6
 replace mj:=bd_ mj
 replace qi:=bd_ qi
 replace HB:=A_ (G1 HB.out)
 have el2:0<=(dq:Int):=od_
 have el3:dq < (r7.length:Int):=(by have h_:(dq:Int) < ((po.length:Int):Int):=od_;first|(have e_:=(Kd.S_reads' pa.out).1;omega)|simpa only[fl2.out,List.length_set] using h_)
 have ql196:((dq:Int) < ((po.length:Int):Int))=True:=eq_true (od_)
 obtain⟨jn9,mi3,jo0,jo1,el4,hb9,hc4⟩:=at_L1 (Kd.S_reads' pa.out).2.2 dq el2 el3
 obtain rfl:bz6=jn9:=(by injection jo1)
 obtain⟨ce196,hce196,hMe196,hcc196⟩:=Kd.S_get pa.out [] dq el2 (by first|exact el3|exact od_|(have e_:=(Kd.S_reads' pa.out).1;omega))
 obtain⟨ve196_0,rfl,ge196_0⟩:=hMe196
 have hv196_0:=hcc196 0 _ rfl
 rw[Nat.add_zero,show((Kd.slice 3 (Kd.int .i64))).sz=1 from rfl,Nat.mul_one] at hv196_0
 replace hv196_0:=Option.some.inj (hv196_0.symm.trans el4)
 rw[hv196_0] at ge196_0
 have cj8:=A_ (show Kd.R (Kd.int .i64) 3 _ _ _ _ (Jb r7 dq) from ge196_0)
 clear hv196_0 ge196_0
 have HX196_0:=A_ el4
 clear hcc196 hce196
 have jo2:=A_ hc4
 have mi4:=A_ hb9
 clear hc4 hb9
 replace el2:=eq_true el2
 replace el3:=eq_true el3
 obtain⟨⟨jo3,mi5,jo4,jo5,el5,hc5,hc6⟩,fm6,fm7⟩:=rdp_ (at_L1 df.out dq)
 have jo6:=el5
 obtain rfl:bd1=jo3:=(by injection jo5)
 replace el5:=cl_ HB el5
 have hc7:=A_ hc6
 have mi6:=A_ hc5
 clear hc6 hc5
 obtain⟨⟨hc8,jo7,el6⟩,fm8,fm9⟩:=rdp_ (Kd.at_int hc7.out ck)
 have jo8:=el6
 cases jo7
 replace el6:=cl_ HB el6
 have p35:0<=(ck:Int):=od_
 have q35:(ck:Int) < (((Jb r7 dq).length:Int):Int):=od_
 obtain⟨hc9,qy,bz8,hd2,gl35,cl35,HG35⟩:=Kd.R_form cj8.out (by omega)
 (first|cases bz8|(injection bz8 with ea_ en_ ec_;(first|subst ea_|(injection ea_ with ea_;subst ea_));subst ec_;clear en_))
 have GB35:=A_ hd2
 have GG35:=A_ HG35
 clear hd2 gl35 HG35
 obtain⟨aq6,hf35_0⟩:=Kd.R_celln 0 cj8.out (ck:Int) p35 q35
 replace p35:=eq_true p35
 replace q35:=eq_true q35
 have hq43:(dq:Int) < (r7.length:Int):=(by have h_:(dq:Int) < ((po.length:Int):Int):=od_;first|exact h_|(have e_:=(Kd.S_reads' pa.out).1;omega)|simpa only[fl2.out,List.length_set] using h_)
 obtain⟨oki43,ce43,hcl43,hM43,hcc43,hok43,hbk43⟩:=Kd.S_borrow pa.out [] (dq:Int) (od_) (by first|exact hq43|exact od_|(have e_:=(Kd.S_reads' pa.out).1;omega))
 obtain⟨ve43_0,rfl,ge43_0⟩:=hM43
 have hv43:=hcc43 0 _ rfl
 rw[Nat.add_zero,show((Kd.slice 3 (Kd.int .i64))).sz=1 from rfl,Nat.mul_one] at hv43
 replace hv43:=Option.some.inj (hv43.symm.trans HX196_0.out)
 subst hv43
 clear hcc43 hcl43
 replace ge43_0:=(show Kd.R (Kd.int .i64) 3 _ _ _ _ (Jb r7 dq) from ge43_0)
 have HP43:=Kd.R_putg ge43_0 (ck:Int) (wrap64 ((rd (Jb aa dq) ck) - (ji29)))
 rw[<- jl6.out] at HP43
 have HS43:=hbk43 HP43.2 (fun k_ e_=>by injection e_ with e_;subst e_;exact ge43_0.1 _ rfl) (x':=fl3) (Kd.M_row HP43.1)
 rw[<- jl7.out] at HS43
 have HQ43:=A_ HS43
 clear HP43 HS43 hbk43 hok43
 refine start_ (n:=18) (S:=fun w'=>w'.cell? ⟨aa9,0,none⟩=some (ab0)/\w'.cell? ⟨aa9,1,none⟩=some (.slice (some bz6) po.length ka)/\w'.cell? ⟨uh,0,none⟩=some (.slice ah ab.length af)/\w'.cell? ⟨uh,1,none⟩=some (.slice (some bd1) aa.length ai)/\w'.cell? (bz6.add (dq).toNat)=some (.slice (some ⟨hc9,0,none⟩) (Jb r7 dq).length jo0)/\w'.cell? (bd1.add (dq).toNat)=some (.slice (some hc8) (Jb aa dq).length jo4)/\w'.cell? (hc8.add (ck).toNat)=some (.int .i64 (rd (Jb aa dq) ck))) (ds:=[17]) (tl_ 18 0) (g0_) rfl (g0_) ⟨(Gy qi.out 0).trans rfl,(Gy qi.out 1).trans rfl,(Gy j6.out 0).trans rfl,(Gy j6.out 1).trans rfl,el4,((cl_ HB jo6).trans rfl),((cl_ HB jo8).trans rfl)⟩ (fun hHeld=>?_);refine Jl Fk.tab12 Fk.bits12 (fun HT_ HW_=>?_)
 generalize w41.drew=w42 at yw pa j6 mj qi HB GG35 cj8 HQ39 HQ43 jo2 hc7 HX196_0 hf35_0 el4 el5 el6 aq6 hHeld |-
 refine pw_ 0 59 (tl_ 18 1) ?_
 refine pw_ 2 61 (tl_ 18 5) ?_
 refine pw_ 5 64 (tl_ 18 37) ?_
 refine pw_ 6 65 (tl_ 18 101) ?_
 refine pw_ 8 67 (tl_ 18 357) ?_
 refine pw_ 11 70 (tl_ 18 2405) ?_
 refine pw_ 14 73 (tl_ 18 18789) ?_
 refine tk4_ 1 60 (tl_ 18 18791) hHeld ?_
 refine pw_ 3 62 (tl_ 18 18799) ?_
 refine tk4_ 4 63 (tl_ 18 18815) hHeld ?_
 refine tk4_ 7 66 (tl_ 18 18943) hHeld ?_
 refine pw_ 9 68 (tl_ 18 19455) ?_
 refine tk4_ 10 69 (tl_ 18 20479) hHeld ?_
 refine pw_ 12 71 (tl_ 18 24575) ?_
 refine tk4_ 13 72 (tl_ 18 32767) hHeld ?_
 refine pw_ 15 74 (tl_ 18 65535) ?_
 refine pw_ 16 75 (tl_ 18 131071) ?_
 refine last_ (i:=17) (N:=none) (tl_ 18 262143) rfl rfl (Jn HT_.out (g0_)) (by decide) (fun K hK=>?_)
 refine skip_ (w1:=?_) (by rfl) rfl ?_ ?_
 rotate_left
 ·go_simp
  rfl
 refine hK.out _ _ ?_
 clear hK K
 refine done_ (done_of HT_.out (g0_)) ?_
 try go_wp2
 go_roundg k2
 case measure=>have:=HK1.out;have:=HK2.out;omega
 case rel=>exact⟨(wrap64 (dq + 1)),(bd0),(gz6),(ab0),(.slice (some bz6) po.length ka),(g3_),H',⟨g29_⟩,⟨by(with_reducible repeat(first|apply Kd.R_alloc|apply Kd.R_drewN|apply Kd.R_drew));exact Kd.R_mono (Kd.R_far (p:=⟨hc9,(ck:Int).toNat,none⟩) (Kd.R_far1 yw.out rfl ((cj8.out.1 _ rfl).1)) (fun _ hk=>hk.2) (.int .i64 (wrap64 ((rd (Jb aa dq) ck) - (ji29))))) (fun _ hk=>trivial)⟩,⟨uS_ HQ43⟩,⟨by(with_reducible repeat(first|refine G5 ?_ _|refine G6 ?_|refine G4 ?_ _));refine Je ?_ (by have h_:=Kd.R_ne cj8.out j6.out (by decide);intro e_;exact h_ (g6_)) _;exact uB_ j6⟩,⟨by(with_reducible repeat(first|refine G5 ?_ _|refine G6 ?_|refine G4 ?_ _));refine Je ?_ (by have h_:=Kd.R_ne cj8.out mj.out (by decide);intro e_;exact h_ (g6_)) _;exact uB_ mj⟩,⟨by(with_reducible repeat(first|refine G5 ?_ _|refine G6 ?_|refine G4 ?_ _));refine Je ?_ (by have h_:=Kd.R_ne cj8.out qi.out (by decide);intro e_;exact h_ (g6_)) _;exact uB_ qi⟩,⟨zr⟩⟩
mutual
def Fb.j0:Nat->List Int->List (List Int)->Int->Bool->List Int->List (List Int)->Option ((List (List Int)))
 | 0,_,_,_,_,_,_=>none
 | k + 1,x1,x5,x6,x31,aq7,ag3=>if x31=true then((some (([]:List Int):List Int)).bind fun bz9=>(if bz9.length + x1.length < 17592186044416 then((some (([(bz9 ++ x1)]:List (List Int)):List (List Int))).bind fun ak8=>(if x5.length + ak8.length < 5864062014805 then(Fb.j1 k x1 (x5 ++ ak8) x6 aq7 ag3) else(none))) else(none))) else(Fb.j1 k x1 x5 x6 aq7 ag3)
def Fb.j1:Nat->List Int->List (List Int)->Int->List Int->List (List Int)->Option ((List (List Int)))
 | 0,_,_,_,_,_=>none
 | k + 1,x1,x5,x6,aq7,ag3=>if 0 < (x1.length:Int) then(Fb.l0 k x1 x5 x6 (wrap64 ((rd x1 0) + 1)) aq7 ag3) else(none)
def Fb.l0:Nat->List Int->List (List Int)->Int->Int->List Int->List (List Int)->Option ((List (List Int)))
 | 0,_,_,_,_,_,_=>none
 | k + 1,x1,x5,x6,x7,aq7,ag3=>if x7 < (aq7.length:Int) then(if 0<=x6 then(if x6 < (ag3.length:Int) then(if 0<=x7 then(if x7 < ((Jb ag3 x6).length:Int) then(if (rd (Jb ag3 x6) x7)=0 then(Fb.l0 k x1 x5 x6 (wrap64 (x7 + 1)) aq7 ag3) else(Fb.l1 k x1 x5 x6 x7 0 aq7 ag3)) else(none)) else(none)) else(none)) else(none)) else(some x5)
def Fb.l1:Nat->List Int->List (List Int)->Int->Int->Int->List Int->List (List Int)->Option ((List (List Int)))
 | 0,_,_,_,_,_,_,_=>none
 | k + 1,x1,x5,x6,x7,x8,aq7,ag3=>if x8 < (x1.length:Int) then(if 0<=x8 then(if (rd x1 x8)=x7 then(Fb.l0 k x1 x5 x6 (wrap64 (x7 + 1)) aq7 ag3) else(Fb.l1 k x1 x5 x6 x7 (wrap64 (x8 + 1)) aq7 ag3)) else(none)) else((some (([]:List Int):List Int)).bind fun bp7=>(if bp7.length + x1.length < 17592186044416 then((some (bp7 ++ x1:List Int)).bind fun ak9=>((some (([x7]:List Int):List Int)).bind fun uk=>(if ak9.length + uk.length < 17592186044416 then((Fb.f k aq7 ag3 (ak9 ++ uk)).bind fun yx=>(if x5.length + yx.length < 5864062014805 then(Fb.l0 k x1 (x5 ++ yx) x6 (wrap64 (x7 + 1)) aq7 ag3) else(none))) else(none)))) else(none)))
def Fb.f:Nat->List Int->List (List Int)->List Int->Option ((List (List Int)))
 | 0,_,_,_=>none
 | k + 1,ab,aa,l1=>(some (([]:List (List Int)):List (List Int))).bind fun ul=>(if 0<=(wrap64 ((l1.length:Int) - 1)) then(if (wrap64 ((l1.length:Int) - 1)) < (l1.length:Int) then(if (l1.length:Int) > 1 then(if 0<=(rd l1 (wrap64 ((l1.length:Int) - 1))) then(if (rd l1 (wrap64 ((l1.length:Int) - 1))) < (aa.length:Int) then(if 0 < (l1.length:Int) then(if 0<=(rd l1 0) then(if (rd l1 0) < ((Jb aa (rd l1 (wrap64 ((l1.length:Int) - 1)))).length:Int) then(Fb.j0 k l1 ul (rd l1 (wrap64 ((l1.length:Int) - 1))) (decide ((rd (Jb aa (rd l1 (wrap64 ((l1.length:Int) - 1)))) (rd l1 0)) > 0)) ab aa) else(none)) else(none)) else(none)) else(none)) else(none)) else(Fb.j0 k l1 ul (rd l1 (wrap64 ((l1.length:Int) - 1))) false ab aa)) else(none)) else(none))
end
def Fb.T3:Bool × List (List Nat × List Nat):=(true,[([],[]),([0],[0]),([1],[1]),([2],[2]),([3],[3]),([4,3],[3,4]),([3],[3]),([5,6,3],[3,5,6]),([7,3],[3,7]),([3],[3]),([9,3],[3,9]),([10,3],[3,10]),([8,11,3],[3,8,11]),([12,3],[3,12]),([13,3],[3,13]),([3,14],[3,14])])
def Fb.B3:List Nat:=[0,1,3,7,15,31,15,127,255,15,527,1551,4095,8191,16383,32767]
theorem Fb.tab3:rtab .any (opsOf Try.f113 3)=Fb.T3:=by kernel_rfl
theorem Fb.bits3:waitsOk Fb.T3.2 Fb.B3=true:=by kernel_rfl
def Fb.T13:Bool × List (List Nat × List Nat):=(true,[([],[]),([],[]),([],[]),([],[]),([2,3],[2,3]),([],[]),([5],[5]),([4,6,4],[4,6]),([1,7,7],[1,7]),([0,8,8],[0,8]),([9,9,0,1,2,3,4,5,6,7,8,9],[0,9])])
def Fb.B13:List Nat:=[0,0,0,0,12,0,32,124,254,511,1023]
theorem Fb.tab13:rtab .any (opsOf Try.f113 13)=Fb.T13:=by kernel_rfl
theorem Fb.bits13:waitsOk Fb.T13.2 Fb.B13=true:=by kernel_rfl
theorem fm {p:Prop} (h:p:=by repeat(first|(with_reducible first|exact HB.out|apply G3|apply G2|apply G1|refine G0 ?_ hd7.out)|exact HB.out)):p:=h
theorem Fb.calls.z0 {p:Prop} (h:p:=by exact norm_ (g8_) (hCont (ca8,bi9,ar0) _ ⟨hHeld,(uR_ av8),(uR_ tb),(yN_ fv (fun _ hk=>⟨hk.1.1,⟨hk.2,⟨hk.1.2.1,hk.1.2.2⟩⟩⟩)),(uB_ dl),(fm)⟩)):p:=h
set_option maxHeartbeats 8000000 in
set_option maxRecDepth 100000 in
theorem Fb.calls (k:Nat):∀(ah:Option Addr) (af:Nat) (ab:List Int) (ao:Option Addr) (ai:Nat) (aa:List (List Int)) (A1:Option Addr) (c1:Nat) (l1:List Int) (r:List (List Int)) (w:World) (d4:Kd.C (Kd.int .i64) w ah ab.length ab) (d9:ab.length<=af) (d5:Kd.C (Kd.slice 3 (Kd.int .i64)) w ao aa.length aa) (ea:aa.length<=ai) (k0:Kd.C (Kd.int .i64) w A1 l1.length l1) (lh:l1.length<=c1) (h:Fb.f k ab aa l1=some r),
  Calls Try.prog 113 #[.agg #[.slice ah ab.length af, .slice ao aa.length ai], .slice A1 l1.length c1] w fun e w'=>∃v0_:Value,e = .returned (v0_)/\Kd.N (Kd.slice 3 (Kd.int .i64)) 22 w' w.heap.size (fun k_=>(w.heap.size<=k_)) v0_ r/\Below w.heap.size w w':=by
 induction k using Nat.strongRecOn with
 | _ k ih=>
 intro ah af ab ao ai aa A1 c1 l1 r w d4 d9 d5 ea k0 lh h
 cases k with
 | zero=>exact absurd h (by simp[Fb.f])
 | succ k=>
 simp only[Fb.f] at h
 have hu25:=Try.underlying25
 have dp:=A_ d4
 have ec:=A_ d9
 clear d4 d9
 have df:=A_ d5
 have ee:=A_ ea
 clear d5 ea
 have i8:=A_ k0
 have HC1:=A_ lh
 clear k0 lh
 have HB:=A_ (Below.refl w.heap.size w)
 have H:=h
 unfold Fb.f at H
 clear h
 obtain⟨ul,hyq⟩:∃y_:List (List Int),y_=(([]:List (List Int))):=⟨_,rfl⟩
 replace H:(if 0<=(wrap64 ((l1.length:Int) - 1)) then(if (wrap64 ((l1.length:Int) - 1)) < (l1.length:Int) then(if (l1.length:Int) > 1 then(if 0<=(rd l1 (wrap64 ((l1.length:Int) - 1))) then(if (rd l1 (wrap64 ((l1.length:Int) - 1))) < (aa.length:Int) then(if 0 < (l1.length:Int) then(if 0<=(rd l1 0) then(if (rd l1 0) < ((Jb aa (rd l1 (wrap64 ((l1.length:Int) - 1)))).length:Int) then(Fb.j0 k l1 ul (rd l1 (wrap64 ((l1.length:Int) - 1))) (decide ((rd (Jb aa (rd l1 (wrap64 ((l1.length:Int) - 1)))) (rd l1 0)) > 0)) ab aa) else(none)) else(none)) else(none)) else(none)) else(none)) else(Fb.j0 k l1 ul (rd l1 (wrap64 ((l1.length:Int) - 1))) false ab aa)) else(none)) else(none))=some r:=qh_
 have em1:=A_ hyq
 clear hyq
 obtain⟨ji3,hji3⟩:∃j_:Int,(wrap64 ((l1.length:Int) - 1))=j_:=⟨_,rfl⟩
 first|rw[hji3] at H|simp only[hji3] at H
 have hji3w:(IntKind.i64.wrap ((l1.length:Int) - 1))=ji3:=(i64_w _).trans hji3
 obtain⟨qh,H⟩:=pd_ H
 obtain⟨j9,H⟩:=pd_ H
 have HC6:=A_ H
 clear H
 go_enter Try.func113,Try.ntmps113
 go_upto_region 3 with(first|((with_reducible refine gd_ 2 ?_);refine bx_ (N:=2) #[.slice ah ab.length af, .slice ao aa.length ai] 25 ?_;intro fu hg w7 hbox hb;have dl:=A_ (hbox);have jp1:=A_ ((g134_:w.heap.size<=fu));have hd7:=jp1;replace HB:=hs_ (fm) hb;clear hb hbox hg)|((with_reducible refine gd_ 9 ?_);refine Kd.N_lit (Kd.slice 3 (Kd.int .i64)) _ 22 ?hg (N':=9) ?hd (xs:=([]:List (List Int))) (inner:=[]) (ok:=(fun k_=>(w.heap.size<=k_)/\k_≠fu)) (okp:=(fun k_=>(w.heap.size<=k_)/\k_≠fu)) ?hr ?hp (fun _ hk=>hk) ((show ∀k_,w7.heap.size<=k_->(fun k_=>(w.heap.size<=k_)/\k_≠fu) k_ from fun k_ hk=>⟨(Nat.le_trans (Gz (fm)) hk),Kd.freshB (g:=fu) (o:=.cells #[.slice ah ab.length af, .slice ao aa.length ai] 25 (0,0)) (uB_ dl) k_ hk⟩) _ (Nat.le_refl _)) (Below.refl _ _) (Nat.le_refl _) (by simp) ?_;(case hd=>rfl);(case hg=>rfl);(case hr=>first|(go_simp;done)|(go_simp;rfl));(case hp=>exact(Reps.none _ _));intro yy w8 ho9 hb hg_ hnew_;clear hg_ hnew_;(first|rw[<- em1.out] at ho9|(simp only[Int.reduceToNat] at ho9;rw[<- em1.out] at ho9));have bp8:=A_ (Kd.N_lower ho9 (Gz (fm)));replace dl:=bb_ dl hb;replace HB:=hs_ (fm) hb;clear hb ho9;have bd2:0<=((ji3):Int):=od_;have bd3:(ji3) < (l1.length:Int):=od_;obtain⟨cw8,fn5,bp9⟩:=Kd.at_int i8.out (ji3) bd2 bd3;cases fn5;replace bp9:=cl_ HB bp9;replace bd2:=eq_true bd2;replace bd3:=eq_true bd3));(repeat((first|go_step3|rw[Exit.noGoto_normal]|rw[Exit.noGoto_exit]|rw[Exit.noGoto_ret]);go_upto_region 3 with(first|((with_reducible refine gd_ 2 ?_);refine bx_ (N:=2) #[.slice ah ab.length af, .slice ao aa.length ai] 25 ?_;intro fu hg w7 hbox hb;have dl:=A_ (hbox);have jp1:=A_ ((g134_:w.heap.size<=fu));have hd7:=jp1;replace HB:=hs_ (fm) hb;clear hb hbox hg)|((with_reducible refine gd_ 9 ?_);refine Kd.N_lit (Kd.slice 3 (Kd.int .i64)) _ 22 ?hg (N':=9) ?hd (xs:=([]:List (List Int))) (inner:=[]) (ok:=(fun k_=>(w.heap.size<=k_)/\k_≠fu)) (okp:=(fun k_=>(w.heap.size<=k_)/\k_≠fu)) ?hr ?hp (fun _ hk=>hk) ((show ∀k_,w7.heap.size<=k_->(fun k_=>(w.heap.size<=k_)/\k_≠fu) k_ from fun k_ hk=>⟨(Nat.le_trans (Gz (fm)) hk),Kd.freshB (g:=fu) (o:=.cells #[.slice ah ab.length af, .slice ao aa.length ai] 25 (0,0)) (uB_ dl) k_ hk⟩) _ (Nat.le_refl _)) (Below.refl _ _) (Nat.le_refl _) (by simp) ?_;(case hd=>rfl);(case hg=>rfl);(case hr=>first|(go_simp;done)|(go_simp;rfl));(case hp=>exact(Reps.none _ _));intro yy w8 ho9 hb hg_ hnew_;clear hg_ hnew_;(first|rw[<- em1.out] at ho9|(simp only[Int.reduceToNat] at ho9;rw[<- em1.out] at ho9));have bp8:=A_ (Kd.N_lower ho9 (Gz (fm)));replace dl:=bb_ dl hb;replace HB:=hs_ (fm) hb;clear hb ho9;have bd2:0<=((ji3):Int):=od_;have bd3:(ji3) < (l1.length:Int):=od_;obtain⟨cw8,fn5,bp9⟩:=Kd.at_int i8.out (ji3) bd2 bd3;cases fn5;replace bp9:=cl_ HB bp9;replace bd2:=eq_true bd2;replace bd3:=eq_true bd3))))
 (try simp only[Act.put,List.setIfInBounds_toArray,List.set_cons_zero,List.set_cons_succ])
 go_cut [31] (fun v31 wc=>∃(kq:Nat) (em2:Bool),v31 = .bool em2/\Gx (Fb.j0 kq l1 ul (rd l1 (ji3)) em2 ab aa=some r)/\Gx (kq<=k)/\Gx (Kd.N (Kd.slice 3 (Kd.int .i64)) 22 wc w.heap.size (fun k_=>(w.heap.size<=k_)/\k_≠fu) yy ul)/\Gx (hc_ wc fu #[(.slice ah ab.length af),(.slice ao aa.length ai)] 25)/\Gx (Below w.heap.size w wc))
 case first=>
  have H:=HC6.out
  clear HC6
  by_cases io:(l1.length:Int) > 1
  case neg=>
   rw[if_neg io] at H
   have zx:=decide_eq_false io
   have cj9:decide (1 < l1.length)=false:=decide_eq_false (by omega)
   clear io
   (first|rw[zx]|(simp only[i64_w,i32_w];rw[zx])|skip)
   have H':=A_ H
   clear H
   try go_wp2
   replace bp8:=nd_ bp8
   replace dl:=bd_ dl
   replace HB:=A_ (G1 HB.out)
   refine start_ (n:=16) (S:=fun w'=>True) (ds:=[]) (tl_ 16 0) (g0_) rfl (g0_) trivial (fun hHeld=>?_);refine Jl Fb.tab3 Fb.bits3 (fun HT_ HW_=>?_)
   generalize w8.drew=ov at bp8 dl HB hHeld |-
   refine pw_ 0 16 (tl_ 16 1) ?_
   refine pw_ 1 17 (tl_ 16 3) ?_
   refine pw_ 2 18 (tl_ 16 7) ?_
   refine pw_ 3 19 (tl_ 16 15) ?_
   refine pu_ 4 20 (tl_ 16 31) ?_
   refine pu_ 5 21 (tl_ 16 63) ?_
   refine pu_ 6 22 (tl_ 16 127) ?_
   refine pu_ 7 23 (tl_ 16 255) ?_
   refine pu_ 8 24 (tl_ 16 511) ?_
   refine pu_ 9 25 (tl_ 16 1023) ?_
   refine pu_ 10 26 (tl_ 16 2047) ?_
   refine pu_ 11 27 (tl_ 16 4095) ?_
   refine pu_ 12 28 (tl_ 16 8191) ?_
   refine pu_ 13 29 (tl_ 16 16383) ?_
   refine pu_ 14 30 (tl_ 16 32767) ?_
   refine pw_ 15 31 (tl_ 16 65535) ?_
   refine done_ (done_of HT_.out (g0_)) ?_
   try go_wp2
   go_meet
   case rel=>exact⟨_,(false),(g3_),H',⟨g9_⟩,⟨uN_ bp8⟩,⟨uB_ dl⟩,⟨fm⟩⟩
  rw[if_pos io] at H
  have zx:=decide_eq_true io
  have cj9:decide (1 < l1.length)=true:=decide_eq_true (by omega)
  clear io
  (first|rw[zx]|(simp only[i64_w,i32_w];rw[zx])|skip)
  obtain⟨bm4,H⟩:=pd_ H
  obtain⟨au7,H⟩:=pd_ H
  obtain⟨qg,H⟩:=pos_ H
  have cw9:=decide_eq_true qg
  have do5:decide (0 < l1.length)=true:=decide_eq_true (by omega)
  clear qg
  obtain⟨ak2,H⟩:=pd_ H
  obtain⟨qv,H⟩:=pd_ H
  have H':=A_ H
  clear H
  try go_wp2
  replace bp8:=nd_ bp8
  replace dl:=bd_ dl
  replace HB:=A_ (G1 HB.out)
  obtain⟨⟨hd8,mj1,jp2,jp3,ca0,hd9,he0⟩,ck0,ck1⟩:=rdp_ (at_L1 df.out (rd l1 (ji3)))
  have jp4:=ca0
  cases jp3
  replace ca0:=cl_ HB ca0
  have he1:=A_ he0
  have mj2:=A_ hd9
  clear he0 hd9
  have ck2:0<=(0:Int):=(by omega)
  have ck3:0 < (l1.length:Int):=od_
  obtain⟨jp5,jp6,bi7⟩:=Kd.at_int i8.out 0 ck2 ck3
  have em3:=bi7
  (try rw[show((0:Int)).toNat=0 from rfl] at em3)
  (try rw[show 0 * 1=0 from rfl] at em3)
  (try rw[Addr.add_zero'] at em3)
  obtain rfl:cw8=jp5:=(by injection jp6)
  have qi208:(0 < l1.length)=True:=eq_true (by omega)
  (try rw[show((0:Int)).toNat=0 from rfl] at bi7)
  (try rw[Addr.add_zero'] at bi7)
  replace bi7:=cl_ HB bi7
  replace ck2:=eq_true ck2
  replace ck3:=eq_true ck3
  obtain⟨⟨he2,jp7,ca1⟩,ck4,ck5⟩:=rdp_ (Kd.at_int he1.out (rd l1 0))
  have jp8:=ca1
  cases jp7
  replace ca1:=cl_ HB ca1
  refine start_ (n:=16) (S:=fun w'=>w'.cell? ⟨fu,0,none⟩=some (.slice ah ab.length af)/\w'.cell? ⟨fu,1,none⟩=some (.slice (some hd8) aa.length ai)/\w'.cell? (hd8.add ((rd l1 (ji3))).toNat)=some (.slice (some he2) (Jb aa (rd l1 (ji3))).length jp2)/\w'.cell? cw8=some (.int .i64 (rd l1 0))/\w'.cell? (he2.add ((rd l1 0)).toNat)=some (.int .i64 (rd (Jb aa (rd l1 (ji3))) (rd l1 0)))) (ds:=[]) (tl_ 16 0) (g0_) rfl (g0_) ⟨(Gy dl.out 0).trans rfl,(Gy dl.out 1).trans rfl,((cl_ HB jp4).trans rfl),((cl_ HB em3).trans rfl),((cl_ HB jp8).trans rfl)⟩ (fun hHeld=>?_);refine Jl Fb.tab3 Fb.bits3 (fun HT_ HW_=>?_)
  generalize w8.drew=mt at bp8 dl HB he1 ca0 bi7 ca1 hHeld |-
  refine pw_ 0 16 (tl_ 16 1) ?_
  refine pw_ 1 17 (tl_ 16 3) ?_
  refine pw_ 2 18 (tl_ 16 7) ?_
  refine pw_ 3 19 (tl_ 16 15) ?_
  refine pw_ 4 20 (tl_ 16 31) ?_
  refine pw_ 6 22 (tl_ 16 95) ?_
  refine pw_ 9 25 (tl_ 16 607) ?_
  refine pw_ 10 26 (tl_ 16 1631) ?_
  refine tk5_ 5 21 (tl_ 16 1663) hHeld ?_
  refine pw_ 7 23 (tl_ 16 1791) ?_
  refine tk5_ 8 24 (tl_ 16 2047) hHeld ?_
  refine tk5_ 11 27 (tl_ 16 4095) hHeld ?_
  refine pw_ 12 28 (tl_ 16 8191) ?_
  refine tk5_ 13 29 (tl_ 16 16383) hHeld ?_
  refine pw_ 14 30 (tl_ 16 32767) ?_
  refine pw_ 15 31 (tl_ 16 65535) ?_
  refine done_ (done_of HT_.out (g0_)) ?_
  try go_wp2
  go_meet
  case rel=>exact⟨_,(decide ((rd (Jb aa (rd l1 (ji3))) (rd l1 0)) > 0)),(by first|rfl|(simp;done)|(simp only[<- hji3] <;> (first|rfl|simp))|(simp[*];done)),H',⟨g9_⟩,⟨uN_ bp8⟩,⟨uB_ dl⟩,⟨fm⟩⟩
 clear HC6
 obtain⟨kq,em2,rfl,HA,HJ5,fv,dl,HB⟩:=hcut
 cases kq with
 | zero=>exact absurd HA.out (by simp[Fb.j0])
 | succ kj5=>?_
 have H:=HA.out
 clear HA
 simp only[Fb.j0] at H
 have fn6:=A_ H
 clear H
 go_upto_if 31 with(fail)
 go_cut [5] (fun v5 wc=>∃(kq:Nat) (em4:List (List Int)),Gx (Fb.j1 kq l1 em4 (rd l1 (ji3)) ab aa=some r)/\Gx (kq<=kj5)/\Gx (Kd.N (Kd.slice 3 (Kd.int .i64)) 22 wc w.heap.size (fun k_=>(w.heap.size<=k_)/\k_≠fu) v5 em4)/\Gx (hc_ wc fu #[(.slice ah ab.length af),(.slice ao aa.length ai)] 25)/\Gx (Below w.heap.size w wc))
 case first=>
  have H:=fn6.out
  clear fn6
  by_cases f9:em2=true
  case neg=>
   replace f9:=Bool.eq_false_iff.mpr f9
   subst f9
   replace H:=ifn_ H
   have H':=A_ H
   clear H
   go_wp2;(repeat((first|go_step3|rw[Exit.noGoto_normal]|rw[Exit.noGoto_exit]|rw[Exit.noGoto_ret]);go_wp2))
   go_meet
   case rel=>exact⟨_,(ul),H',⟨g135_⟩,⟨uN_ fv⟩,⟨uB_ dl⟩,⟨fm⟩⟩
  subst f9
  replace H:=ifp_ H
  obtain⟨bz9,hyq⟩:∃y_:List Int,y_=(([]:List Int)):=⟨_,rfl⟩
  replace H:(if bz9.length + l1.length < 17592186044416 then((some (([(bz9 ++ l1)]:List (List Int)):List (List Int))).bind fun ak8=>(if ul.length + ak8.length < 5864062014805 then(Fb.j1 kj5 l1 (ul ++ ak8) (rd l1 (ji3)) ab aa) else(none))) else(none))=some r:=qh_
  have em5:=A_ hyq
  clear hyq
  obtain⟨mv,H⟩:=pos_ H
  have em6:=A_ mv
  clear mv
  obtain⟨bi8,hyq⟩:∃y_:List Int,y_=(bz9 ++ l1):=⟨_,rfl⟩
  replace H:((some (([bi8]:List (List Int)):List (List Int))).bind fun ak8=>(if ul.length + ak8.length < 5864062014805 then(Fb.j1 kj5 l1 (ul ++ ak8) (rd l1 (ji3)) ab aa) else(none)))=some r:=qh_
  have he3:=A_ hyq
  clear hyq
  obtain⟨ak8,hyq⟩:∃y_:List (List Int),y_=(([bi8]:List (List Int))):=⟨_,rfl⟩
  replace H:(if ul.length + ak8.length < 5864062014805 then(Fb.j1 kj5 l1 (ul ++ ak8) (rd l1 (ji3)) ab aa) else(none))=some r:=qh_
  have em7:=A_ hyq
  clear hyq
  obtain⟨og,H⟩:=pos_ H
  have he4:=A_ og
  clear og
  obtain⟨he5,hyq⟩:∃y_:List (List Int),y_=(ul ++ ak8):=⟨_,rfl⟩
  replace H:(Fb.j1 kj5 l1 he5 (rd l1 (ji3)) ab aa)=some r:=qh_
  have he6:=A_ hyq
  clear hyq
  have H':=A_ H
  clear H
  go_wp2_with (first|((with_reducible refine gd_ 33 ?_);refine rle_ 33 [] ?_;intro fn7 yu qz hb hg_ hnew_;clear hg_ hnew_;(first|rw[<- em5.out] at qz|(simp only[Int.reduceToNat] at qz;rw[<- em5.out] at qz));replace fv:=A_ (Kd.N_elder' (uN_ fv) (Kd.R_base qz) hb);have ck6:=A_ (Kd.R_lower (Kd.R_newM (M:=fun k_=>(w.heap.size<=k_)) qz (Gz (fm)) (fun k_ h_=>h_)) (Gz (fm)));replace dl:=bb_ dl hb;replace HB:=hs_ (fm) hb;clear hb qz)|((with_reducible refine gate_builtin (b:=.append) (xs:=#[.tmp 33, .tmp 34]) rfl ?_);at_builtin;refine Kd.R_append_rows (Kd.int .i64) (w0:=w) w.heap.size rfl (.tmp 33) (.tmp 34) 22 3 (.int .i64 0) 8 rfl Try.underlying22 info3 rfl (by decide) (by omega) fn7 bz9 l1 _ _ _ (fun k_=>(w.heap.size<=k_)) (fun _=>False) rfl rfl ?aO ?aR (fun _ _ h=>h) (fun _ h=>h.elim) ?aF ?aB ?aS ?aL ?_;(case aR=>exact uC_ i8);(case aB=>exact(fm));(case aF=>exact(fun k_ hk=>(Nat.le_trans (Gz (fm)) hk)));(case aO=>exact(yR_ ck6 (fun _ hk=>hk.1)));(case aS=>exact(Gz (fm)));(case aL=>have:=em6.out;omega);intro jp9 wn ho hb hg hat;rw[<- he3.out] at ho;replace fv:=A_ (Kd.N_afterv (ok:=(fun k_=>(w.heap.size<=k_)/\k_≠fu)) (uN_ fv) hg hat);replace dl:=(bg_ dl hg (Kd.R_ne ck6.out dl.out (by decide)));replace HB:=A_ (hb);have bq0:=A_ (ho);clear ck6;clear ho hb hg hat;obtain⟨cj4,cj5,cw1⟩:=Kd.R_slice bq0.out;subst cw1)|((with_reducible refine gd_ 36 ?_);refine Kd.N_lit (Kd.slice 3 (Kd.int .i64)) _ 22 ?hg (N':=36) ?hd (xs:=([bi8]:List (List Int))) (inner:=[.slice cj4 bi8.length cj5]) (ok:=(fun k_=>(w.heap.size<=k_)/\some k_≠(yy:Value).ownBlock/\k_≠fu)) (okp:=(fun k_=>(w.heap.size<=k_)/\some k_≠(yy:Value).ownBlock/\k_≠fu)) ?hr ?hp (fun _ hk=>hk) ((show ∀k_,wn.heap.size<=k_->(fun k_=>(w.heap.size<=k_)/\some k_≠(yy:Value).ownBlock/\k_≠fu) k_ from fun k_ hk=>⟨(Nat.le_trans (Gz (fm)) hk),Kd.fresh' (Kd.N_lt (uN_ fv)) k_ hk,Kd.freshB (g:=fu) (o:=.cells #[.slice ah ab.length af, .slice ao aa.length ai] 25 (0,0)) (uB_ dl) k_ hk⟩) _ (Nat.le_refl _)) (Below.refl _ _) (Nat.le_refl _) (by simp) ?_;(case hd=>rfl);(case hg=>rfl);(case hr=>first|(go_simp;done)|(go_simp;rfl));(case hp=>exact(Reps.one (show Kd.FK (Kd.slice 3 (Kd.int .i64)) _ _ bi8 [.slice cj4 bi8.length cj5] from(Kd.FK_slice_mk (Kd.R_reads' (Kd.R_mono (ok':=(fun k_=>(w.heap.size<=k_)/\some k_≠(yy:Value).ownBlock/\k_≠fu)) (Kd.R_types (Kd.R_apart' (bq0.out) (Kd.N_typed fv.out) (by decide)) dl.out (by decide)) (fun k_ hk=>⟨hk.1.1,⟨hk.1.2,hk.2⟩⟩))).2.1 (Kd.R_F (Kd.R_mono (ok':=(fun k_=>(w.heap.size<=k_)/\some k_≠(yy:Value).ownBlock/\k_≠fu)) (Kd.R_types (Kd.R_apart' (bq0.out) (Kd.N_typed fv.out) (by decide)) dl.out (by decide)) (fun k_ hk=>⟨hk.1.1,⟨hk.1.2,hk.2⟩⟩))))) (Reps.none _ _)));intro jq0 w26 vh hb hg_ hnew_;clear hg_ hnew_;(first|rw[<- em7.out] at vh|(simp only[Int.reduceToNat] at vh;rw[<- em7.out] at vh));replace fv:=A_ (Kd.N_elder' (uN_ fv) (Kd.N_base vh) hb);have bq1:=A_ (Kd.N_lower vh (Gz (fm)));replace dl:=bb_ dl hb;replace HB:=hs_ (fm) hb;clear bq0;clear hb vh;obtain⟨ci,cg,bd4⟩:=Kd.N_slice bq1.out;subst bd4)|((with_reducible refine gate_builtin (b:=.append) (xs:=#[.tmp 32, .tmp 36]) rfl ?_);at_builtin;refine Kd.N_append_rows (Kd.slice 3 (Kd.int .i64)) (w0:=w) w.heap.size rfl (.tmp 32) (.tmp 36) 23 22 (.slice none 0 0) 24 rfl Try.underlying23 info22 rfl (by decide) (by omega) yy ul ak8 _ _ _ (fun k_=>(w.heap.size<=k_)/\k_≠fu) (fun k_=>((fun k_=>(w.heap.size<=k_)/\k_≠fu)) k_/\some k_≠(yy:Value).ownBlock) rfl rfl ?aO ?aR (fun _ hk=>hk) ?aF ?aB ?aS ?aL ?_;(case aR=>exact(by skip;exact Kd.N_F (Kd.N_mono (ok':=(fun k_=>((fun k_=>(w.heap.size<=k_)/\k_≠fu)) k_/\some k_≠(yy:Value).ownBlock)) (bq1.out) (fun k_ hk=>⟨⟨hk.1,hk.2.2⟩,hk.2.1⟩))));(case aB=>exact(fm));(case aF=>exact(fun k_ hk=>⟨(Nat.le_trans (Gz (fm)) hk),Kd.freshB (g:=fu) (o:=.cells #[.slice ah ab.length af, .slice ao aa.length ai] 25 (0,0)) (uB_ dl) k_ hk⟩));(case aO=>exact(yN_ fv (fun _ hk=>⟨hk.1.1.1,hk.1.1.2⟩)));(case aS=>exact(Gz (fm)));(case aL=>have:=he4.out;omega);intro jq1 w28 ho hb hg hat;rw[<- he6.out] at ho;replace dl:=(bg_ dl hg (Kd.N_ne fv.out dl.out (by decide)));replace bq1:=A_ (Kd.N_afterv (ok:=(fun k_=>(w.heap.size<=k_)/\k_≠fu)) (yN_ bq1 (fun _ hk=>⟨⟨hk.1,hk.2.2⟩,hk.2.1⟩)) hg hat);replace HB:=A_ (hb);have he7:=A_ (ho);clear fv;clear ho hb hg hat));(repeat((first|go_step3|rw[Exit.noGoto_normal]|rw[Exit.noGoto_exit]|rw[Exit.noGoto_ret]);go_wp2_with (first|((with_reducible refine gd_ 33 ?_);refine rle_ 33 [] ?_;intro fn7 yu qz hb hg_ hnew_;clear hg_ hnew_;(first|rw[<- em5.out] at qz|(simp only[Int.reduceToNat] at qz;rw[<- em5.out] at qz));replace fv:=A_ (Kd.N_elder' (uN_ fv) (Kd.R_base qz) hb);have ck6:=A_ (Kd.R_lower (Kd.R_newM (M:=fun k_=>(w.heap.size<=k_)) qz (Gz (fm)) (fun k_ h_=>h_)) (Gz (fm)));replace dl:=bb_ dl hb;replace HB:=hs_ (fm) hb;clear hb qz)|((with_reducible refine gate_builtin (b:=.append) (xs:=#[.tmp 33, .tmp 34]) rfl ?_);at_builtin;refine Kd.R_append_rows (Kd.int .i64) (w0:=w) w.heap.size rfl (.tmp 33) (.tmp 34) 22 3 (.int .i64 0) 8 rfl Try.underlying22 info3 rfl (by decide) (by omega) fn7 bz9 l1 _ _ _ (fun k_=>(w.heap.size<=k_)) (fun _=>False) rfl rfl ?aO ?aR (fun _ _ h=>h) (fun _ h=>h.elim) ?aF ?aB ?aS ?aL ?_;(case aR=>exact uC_ i8);(case aB=>exact(fm));(case aF=>exact(fun k_ hk=>(Nat.le_trans (Gz (fm)) hk)));(case aO=>exact(yR_ ck6 (fun _ hk=>hk.1)));(case aS=>exact(Gz (fm)));(case aL=>have:=em6.out;omega);intro jp9 wn ho hb hg hat;rw[<- he3.out] at ho;replace fv:=A_ (Kd.N_afterv (ok:=(fun k_=>(w.heap.size<=k_)/\k_≠fu)) (uN_ fv) hg hat);replace dl:=(bg_ dl hg (Kd.R_ne ck6.out dl.out (by decide)));replace HB:=A_ (hb);have bq0:=A_ (ho);clear ck6;clear ho hb hg hat;obtain⟨cj4,cj5,cw1⟩:=Kd.R_slice bq0.out;subst cw1)|((with_reducible refine gd_ 36 ?_);refine Kd.N_lit (Kd.slice 3 (Kd.int .i64)) _ 22 ?hg (N':=36) ?hd (xs:=([bi8]:List (List Int))) (inner:=[.slice cj4 bi8.length cj5]) (ok:=(fun k_=>(w.heap.size<=k_)/\some k_≠(yy:Value).ownBlock/\k_≠fu)) (okp:=(fun k_=>(w.heap.size<=k_)/\some k_≠(yy:Value).ownBlock/\k_≠fu)) ?hr ?hp (fun _ hk=>hk) ((show ∀k_,wn.heap.size<=k_->(fun k_=>(w.heap.size<=k_)/\some k_≠(yy:Value).ownBlock/\k_≠fu) k_ from fun k_ hk=>⟨(Nat.le_trans (Gz (fm)) hk),Kd.fresh' (Kd.N_lt (uN_ fv)) k_ hk,Kd.freshB (g:=fu) (o:=.cells #[.slice ah ab.length af, .slice ao aa.length ai] 25 (0,0)) (uB_ dl) k_ hk⟩) _ (Nat.le_refl _)) (Below.refl _ _) (Nat.le_refl _) (by simp) ?_;(case hd=>rfl);(case hg=>rfl);(case hr=>first|(go_simp;done)|(go_simp;rfl));(case hp=>exact(Reps.one (show Kd.FK (Kd.slice 3 (Kd.int .i64)) _ _ bi8 [.slice cj4 bi8.length cj5] from(Kd.FK_slice_mk (Kd.R_reads' (Kd.R_mono (ok':=(fun k_=>(w.heap.size<=k_)/\some k_≠(yy:Value).ownBlock/\k_≠fu)) (Kd.R_types (Kd.R_apart' (bq0.out) (Kd.N_typed fv.out) (by decide)) dl.out (by decide)) (fun k_ hk=>⟨hk.1.1,⟨hk.1.2,hk.2⟩⟩))).2.1 (Kd.R_F (Kd.R_mono (ok':=(fun k_=>(w.heap.size<=k_)/\some k_≠(yy:Value).ownBlock/\k_≠fu)) (Kd.R_types (Kd.R_apart' (bq0.out) (Kd.N_typed fv.out) (by decide)) dl.out (by decide)) (fun k_ hk=>⟨hk.1.1,⟨hk.1.2,hk.2⟩⟩))))) (Reps.none _ _)));intro jq0 w26 vh hb hg_ hnew_;clear hg_ hnew_;(first|rw[<- em7.out] at vh|(simp only[Int.reduceToNat] at vh;rw[<- em7.out] at vh));replace fv:=A_ (Kd.N_elder' (uN_ fv) (Kd.N_base vh) hb);have bq1:=A_ (Kd.N_lower vh (Gz (fm)));replace dl:=bb_ dl hb;replace HB:=hs_ (fm) hb;clear bq0;clear hb vh;obtain⟨ci,cg,bd4⟩:=Kd.N_slice bq1.out;subst bd4)|((with_reducible refine gate_builtin (b:=.append) (xs:=#[.tmp 32, .tmp 36]) rfl ?_);at_builtin;refine Kd.N_append_rows (Kd.slice 3 (Kd.int .i64)) (w0:=w) w.heap.size rfl (.tmp 32) (.tmp 36) 23 22 (.slice none 0 0) 24 rfl Try.underlying23 info22 rfl (by decide) (by omega) yy ul ak8 _ _ _ (fun k_=>(w.heap.size<=k_)/\k_≠fu) (fun k_=>((fun k_=>(w.heap.size<=k_)/\k_≠fu)) k_/\some k_≠(yy:Value).ownBlock) rfl rfl ?aO ?aR (fun _ hk=>hk) ?aF ?aB ?aS ?aL ?_;(case aR=>exact(by skip;exact Kd.N_F (Kd.N_mono (ok':=(fun k_=>((fun k_=>(w.heap.size<=k_)/\k_≠fu)) k_/\some k_≠(yy:Value).ownBlock)) (bq1.out) (fun k_ hk=>⟨⟨hk.1,hk.2.2⟩,hk.2.1⟩))));(case aB=>exact(fm));(case aF=>exact(fun k_ hk=>⟨(Nat.le_trans (Gz (fm)) hk),Kd.freshB (g:=fu) (o:=.cells #[.slice ah ab.length af, .slice ao aa.length ai] 25 (0,0)) (uB_ dl) k_ hk⟩));(case aO=>exact(yN_ fv (fun _ hk=>⟨hk.1.1.1,hk.1.1.2⟩)));(case aS=>exact(Gz (fm)));(case aL=>have:=he4.out;omega);intro jq1 w28 ho hb hg hat;rw[<- he6.out] at ho;replace dl:=(bg_ dl hg (Kd.N_ne fv.out dl.out (by decide)));replace bq1:=A_ (Kd.N_afterv (ok:=(fun k_=>(w.heap.size<=k_)/\k_≠fu)) (yN_ bq1 (fun _ hk=>⟨⟨hk.1,hk.2.2⟩,hk.2.1⟩)) hg hat);replace HB:=A_ (hb);have he7:=A_ (ho);clear fv;clear ho hb hg hat))))
  go_meet
  case rel=>exact⟨_,(he5),H',⟨g135_⟩,⟨uN_ he7⟩,⟨uB_ dl⟩,⟨fm⟩⟩
 clear fn6
 obtain⟨kq,em4,HA,HJ17,fv,dl,HB⟩:=hcut
 cases kq with
 | zero=>exact absurd HA.out (by simp[Fb.j1])
 | succ kj17=>?_
 have H:=HA.out
 clear HA
 simp only[Fb.j1] at H
 obtain⟨ya,H⟩:=pos_ H
 have cw7:=decide_eq_true ya
 have fn8:decide (0 < l1.length)=true:=decide_eq_true (by omega)
 clear ya
 have H':=A_ H
 clear H
 have do6:0<=(0:Int):=(by omega)
 have do7:0 < (l1.length:Int):=od_
 obtain⟨jq2,jq3,cx0⟩:=Kd.at_int i8.out 0 do6 do7
 obtain rfl:cw8=jq2:=(by injection jq3)
 have qi222:(0 < l1.length)=True:=eq_true (by omega)
 (try rw[show((0:Int)).toNat=0 from rfl] at cx0)
 (try rw[Addr.add_zero'] at cx0)
 replace cx0:=cl_ HB cx0
 replace do6:=eq_true do6
 replace do7:=eq_true do7
 go_wp2;(repeat((first|go_step3|rw[Exit.noGoto_normal]|rw[Exit.noGoto_exit]|rw[Exit.noGoto_ret]);go_wp2))
 go_loopg [5,7] kj17 (fun kq v5 v7 w'=>∃(r9:List (List Int)) (kh:Int),v7 = .int .i64 kh/\Gx (Fb.l0 kq l1 r9 (rd l1 (ji3)) kh ab aa=some r)/\Gx (kq<=kj17)/\Gx (Kd.N (Kd.slice 3 (Kd.int .i64)) 22 w' w.heap.size (fun k_=>(w.heap.size<=k_)/\k_≠fu) v5 r9)/\Gx (hc_ w' fu #[(.slice ah ab.length af),(.slice ao aa.length ai)] 25)/\Gx (Below w.heap.size w w'))
 case atStart=>exact⟨(em4),(wrap64 ((rd l1 0) + 1)),(g3_),H',⟨Nat.le_refl _⟩,⟨uN_ fv⟩,⟨uB_ dl⟩,⟨fm⟩⟩
 clear H'
 obtain⟨r9,kh,rfl,HA,HK3,fv,dl,HB⟩:=hrel
 cases gk with
 | zero=>exact absurd HA.out (by simp[Fb.l0])
 | succ k3=>?_
 have H:=HA.out
 clear HA
 simp only[Fb.l0] at H
 by_cases l9:kh < (ab.length:Int)
 case neg=>
  rw[if_neg l9] at H
  have aq5:=decide_eq_false l9
  clear l9
  obtain rfl:=Option.some.inj H
  obtain⟨jr3,jr4,jr5,jr6⟩:=blk2_ dl
  go_wp2;(repeat((first|go_step3|rw[Exit.noGoto_normal]|rw[Exit.noGoto_exit]|rw[Exit.noGoto_ret]);go_wp2))
  go_ret
  exact⟨_,g186_,by(with_reducible repeat(first|apply Kd.N_alloc|apply Kd.N_drewN|apply Kd.N_drew));exact Kd.N_mono fv.out (fun _ hk=>hk.1),fm⟩
 rw[if_pos l9] at H
 have aq5:=decide_eq_true l9
 clear l9
 obtain⟨fn9,H⟩:=pd_ H
 obtain⟨ek2,H⟩:=pd_ H
 obtain⟨dn7,H⟩:=pd_ H
 obtain⟨do8,H⟩:=pd_ H
 by_cases rg:(rd (Jb aa (rd l1 (ji3))) kh)=0
 ·rw[if_pos rg] at H
  have em8:((rd (Jb aa (rd l1 (ji3))) kh) == 0)=true:=beq_iff_eq.mpr rg
  have he9:((rd (Jb aa (rd l1 (ji3))) kh) != 0)=false:=bne_eq_false_iff_eq.mpr rg
  clear rg
  have H':=A_ H
  clear H
  obtain⟨fo0,fo1,fo2,fo3⟩:=blk2_ dl
  obtain⟨⟨ag4,jq5,jq6,fo4,cx1,do9,dp0⟩,ca2,ca3⟩:=rdp_ (at_L1 df.out (rd l1 (ji3)))
  cases fo4
  replace cx1:=cl_ HB cx1
  have fo5:=A_ dp0
  have jq7:=A_ do9
  clear dp0 do9
  obtain⟨⟨jq8,fo6,cx2⟩,ca4,ca5⟩:=rdp_ (Kd.at_int fo5.out kh)
  cases fo6
  replace cx2:=cl_ HB cx2
  go_wp2;(repeat((first|go_step3|rw[Exit.noGoto_normal]|rw[Exit.noGoto_exit]|rw[Exit.noGoto_ret]);go_wp2))
  go_roundg k3
  case measure=>have:=HJ5.out;have:=HJ17.out;have:=HK3.out;omega
  case rel=>exact⟨(r9),(wrap64 (kh + 1)),(g3_),H',⟨by have:=HJ5.out;have:=HJ17.out;have:=HK3.out;omega⟩,⟨uN_ fv⟩,⟨uB_ dl⟩,⟨fm⟩⟩
 rw[if_neg rg] at H
 have em8:((rd (Jb aa (rd l1 (ji3))) kh) == 0)=false:=beq_eq_false_iff_ne.mpr rg
 have he9:((rd (Jb aa (rd l1 (ji3))) kh) != 0)=true:=bne_iff_ne.mpr rg
 have H':=A_ H
 clear H
 obtain⟨dp1,dp2,dp3,dp4⟩:=blk2_ dl
 obtain⟨⟨ag4,jq5,jq6,fo4,cx1,do9,dp0⟩,ca2,ca3⟩:=rdp_ (at_L1 df.out (rd l1 (ji3)))
 cases fo4
 replace cx1:=cl_ HB cx1
 have fo5:=A_ dp0
 have jq7:=A_ do9
 clear dp0 do9
 obtain⟨⟨jq8,fo6,cx2⟩,ca4,ca5⟩:=rdp_ (Kd.at_int fo5.out kh)
 cases fo6
 replace cx2:=cl_ HB cx2
 go_wp2;(repeat((first|go_step3|rw[Exit.noGoto_normal]|rw[Exit.noGoto_exit]|rw[Exit.noGoto_ret]);go_wp2))
 go_loopg [8] k3 (fun kq v8 w'=>∃(ae4:Int),v8 = .int .i64 ae4/\Gx (Fb.l1 kq l1 r9 (rd l1 (ji3)) kh ae4 ab aa=some r)/\Gx (kq<=k3)/\Gx (Kd.N (Kd.slice 3 (Kd.int .i64)) 22 w' w.heap.size (fun k_=>(w.heap.size<=k_)/\k_≠fu) u5 r9)/\Gx (hc_ w' fu #[(.slice ah ab.length af),(.slice (some ag4) aa.length ai)] 25)/\Gx (Below w.heap.size w w'))
 case atStart=>exact⟨(0),(g3_),H',⟨Nat.le_refl _⟩,⟨uN_ fv⟩,⟨uB_ dl⟩,⟨fm⟩⟩
 clear H'
 obtain⟨ae4,rfl,HA,HK4,fv,dl,HB⟩:=hrel
 cases gk with
 | zero=>exact absurd HA.out (by simp[Fb.l1])
 | succ k4=>?_
 have H:=HA.out
 clear HA
 simp only[Fb.l1] at H
 by_cases yc:ae4 < (l1.length:Int)
 ·rw[if_pos yc] at H
  have fo7:=decide_eq_true yc
  clear yc
  obtain⟨hf1,H⟩:=pd_ H
  by_cases oz:(rd l1 ae4)=kh
  ·rw[if_pos oz] at H
   have ca6:((rd l1 ae4) == kh)=true:=beq_iff_eq.mpr oz
   have cx3:((rd l1 ae4) != kh)=false:=bne_eq_false_iff_eq.mpr oz
   clear oz
   have H':=A_ H
   clear H
   obtain⟨⟨fo8,fo9,dp5⟩,ck7,ck8⟩:=rdp_ (Kd.at_int i8.out ae4)
   obtain rfl:cw8=fo8:=(by injection fo9)
   replace dp5:=cl_ HB dp5
   go_wp2;(repeat((first|go_step3|rw[Exit.noGoto_normal]|rw[Exit.noGoto_exit]|rw[Exit.noGoto_ret]);go_wp2))
   go_roundg k4
   case measure=>have:=HJ5.out;have:=HJ17.out;have:=HK3.out;have:=HK4.out;omega
   case rel=>exact⟨(r9),(wrap64 (kh + 1)),(g3_),H',⟨g136_⟩,⟨uN_ fv⟩,⟨uB_ dl⟩,⟨fm⟩⟩
  rw[if_neg oz] at H
  have ca6:((rd l1 ae4) == kh)=false:=beq_eq_false_iff_ne.mpr oz
  have cx3:((rd l1 ae4) != kh)=true:=bne_iff_ne.mpr oz
  have H':=A_ H
  clear H
  obtain⟨⟨fo8,fo9,dp5⟩,ck7,ck8⟩:=rdp_ (Kd.at_int i8.out ae4)
  obtain rfl:cw8=fo8:=(by injection fo9)
  replace dp5:=cl_ HB dp5
  go_wp2;(repeat((first|go_step3|rw[Exit.noGoto_normal]|rw[Exit.noGoto_exit]|rw[Exit.noGoto_ret]);go_wp2))
  go_roundg k4
  case measure=>have:=HJ5.out;have:=HJ17.out;have:=HK3.out;have:=HK4.out;omega
  case rel=>exact⟨(wrap64 (ae4 + 1)),(g3_),H',⟨g136_⟩,⟨uN_ fv⟩,⟨uB_ dl⟩,⟨fm⟩⟩
 rw[if_neg yc] at H
 have fo7:=decide_eq_false yc
 clear yc
 obtain⟨bp7,hyq⟩:∃y_:List Int,y_=(([]:List Int)):=⟨_,rfl⟩
 replace H:(if bp7.length + l1.length < 17592186044416 then((some (bp7 ++ l1:List Int)).bind fun ak9=>((some (([kh]:List Int):List Int)).bind fun uk=>(if ak9.length + uk.length < 17592186044416 then((Fb.f k4 ab aa (ak9 ++ uk)).bind fun yx=>(if r9.length + yx.length < 5864062014805 then(Fb.l0 k4 l1 (r9 ++ yx) (rd l1 (ji3)) (wrap64 (kh + 1)) ab aa) else(none))) else(none)))) else(none))=some r:=qh_
 have em9:=A_ hyq
 clear hyq
 obtain⟨c42,H⟩:=pos_ H
 have fp0:=A_ c42
 clear c42
 obtain⟨ak9,hyq⟩:∃y_:List Int,y_=(bp7 ++ l1):=⟨_,rfl⟩
 replace H:((some (([kh]:List Int):List Int)).bind fun uk=>(if ak9.length + uk.length < 17592186044416 then((Fb.f k4 ab aa (ak9 ++ uk)).bind fun yx=>(if r9.length + yx.length < 5864062014805 then(Fb.l0 k4 l1 (r9 ++ yx) (rd l1 (ji3)) (wrap64 (kh + 1)) ab aa) else(none))) else(none)))=some r:=qh_
 have fp1:=A_ hyq
 clear hyq
 obtain⟨uk,hyq⟩:∃y_:List Int,y_=(([kh]:List Int)):=⟨_,rfl⟩
 replace H:(if ak9.length + uk.length < 17592186044416 then((Fb.f k4 ab aa (ak9 ++ uk)).bind fun yx=>(if r9.length + yx.length < 5864062014805 then(Fb.l0 k4 l1 (r9 ++ yx) (rd l1 (ji3)) (wrap64 (kh + 1)) ab aa) else(none))) else(none))=some r:=qh_
 have cx4:=A_ hyq
 clear hyq
 obtain⟨c43,H⟩:=pos_ H
 have jq9:=A_ c43
 clear c43
 obtain⟨ca7,hyq⟩:∃y_:List Int,y_=(ak9 ++ uk):=⟨_,rfl⟩
 replace H:((Fb.f k4 ab aa ca7).bind fun yx=>(if r9.length + yx.length < 5864062014805 then(Fb.l0 k4 l1 (r9 ++ yx) (rd l1 (ji3)) (wrap64 (kh + 1)) ab aa) else(none)))=some r:=qh_
 have jr0:=A_ hyq
 clear hyq
 obtain⟨yx,A44,H⟩:=bind_ H
 obtain⟨c45,H⟩:=pos_ H
 have fp2:=A_ c45
 clear c45
 obtain⟨hf2,hyq⟩:∃y_:List (List Int),y_=(r9 ++ yx):=⟨_,rfl⟩
 replace H:(Fb.l0 k4 l1 hf2 (rd l1 (ji3)) (wrap64 (kh + 1)) ab aa)=some r:=qh_
 have jr1:=A_ hyq
 clear hyq
 have H':=A_ H
 clear H
 obtain⟨ag5,ag6,fp3⟩:=Kd.N_slice fv.out
 subst fp3
 try go_wp2
 replace fv:=nd_ fv
 replace dl:=bd_ dl
 replace HB:=A_ (G1 HB.out)
 refine start_ (n:=11) (S:=fun w'=>w'.cell? ⟨fu,0,none⟩=some (.slice ah ab.length af)/\w'.cell? ⟨fu,1,none⟩=some (.slice (some ag4) aa.length ai)) (ds:=[]) (tl_ 11 0) (g0_) rfl (g0_) ⟨(Gy dl.out 0).trans rfl,(Gy dl.out 1).trans rfl⟩ (fun hHeld=>?_);refine Jl Fb.tab13 Fb.bits13 (fun HT_ HW_=>?_)
 generalize wr.drew=w47 at fv dl HB hHeld |-
 refine pw_ 0 70 (tl_ 11 1) ?_
 refine pw_ 3 73 (tl_ 11 9) ?_
 refine pw_ 5 75 (tl_ 11 41) ?_
 refine tk7_ 1 71 (tl_ 11 43) hHeld ?_
 refine join_ (σ:=Value × Value × Value) 4 (tl_ 11 127) (fun s_=>[(72,s_.1),(74,s_.2.1),(76,s_.2.2)]) (fun s_ w'=>(w'.cell? ⟨fu,0,none⟩=some (.slice ah ab.length af)/\w'.cell? ⟨fu,1,none⟩=some (.slice (some ag4) aa.length ai))/\(Kd.R (Kd.int .i64) 3 w' w.heap.size (fun k_=>(w.heap.size<=k_)/\some k_≠(s_.2.2:Value).ownBlock) s_.2.1 ak9)/\(Kd.R (Kd.int .i64) 3 w' w.heap.size (fun k_=>(w.heap.size<=k_)/\some k_≠(s_.2.1:Value).ownBlock) s_.2.2 uk)/\(Kd.N (Kd.slice 3 (Kd.int .i64)) 22 w' w.heap.size (fun k_=>(w.heap.size<=k_)/\some k_≠(s_.2.1:Value).ownBlock/\some k_≠(s_.2.2:Value).ownBlock/\k_≠fu) (.slice ag5 r9.length ag6) r9)/\(hc_ w' fu #[.slice ah ab.length af, .slice (some ag4) aa.length ai] 25)/\(Below w.heap.size w w')) ?_ ?_
 rotate_left
 ·intro hCont
  refine two_ (i:=2) (j:=6) (Ni:=some 72) (Nj:=some 76) (tl_ 11 47) (tl_ 11 107) rfl rfl rfl rfl (two_of HT_.out (g0_)) (by decide) (by decide) (fun K hK=>?_) (fun K hK=>?_)
  ·skip
   refine rls_ 72 [] ?_
   intro ca8 w48 aq8 hb hg_ hnew_
   clear hg_ hnew_
   (first|rw[<- em9.out] at aq8|(simp only[Int.reduceToNat] at aq8;rw[<- em9.out] at aq8))
   replace fv:=A_ (Kd.N_elder' (uN_ fv) (Kd.R_base aq8) hb)
   have aq9:=A_ (Kd.R_lower (Kd.R_newM (M:=fun k_=>(w.heap.size<=k_)) aq8 (Gz (fm)) (fun k_ h_=>h_)) (Gz (fm)))
   replace dl:=bb_ dl hb
   replace HB:=hs_ (fm) hb
   clear hb aq8
   refine hK.out _ _ ⟨(Gy dl.out 0).trans rfl,(Gy dl.out 1).trans rfl⟩ (fun hHeld=>?_)
   clear hK K
   refine nm_ ?_
   refine two_ (i:=4) (j:=6) (Ni:=some 74) (Nj:=some 76) (tl_ 11 63) (tl_ 11 111) rfl rfl rfl rfl (two_of HT_.out (g0_)) (by decide) (by decide) (fun K hK=>?_) (fun K hK=>?_)
   ·skip
    refine Kd.R_append_rows_step (Kd.int .i64) (w0:=w) w.heap.size (by rfl) (.tmp 72) (.tmp 73) 22 3 (.int .i64 0) 8 rfl Try.underlying22 info3 rfl (by decide) (by omega) ca8 bp7 l1 _ _ _ (fun k_=>(w.heap.size<=k_)) (fun _=>False) rfl rfl ?aO ?aR (fun _ _ h=>h) (fun _ h=>h.elim) ?aF ?aB ?aS ?aL ?_
    (case aR=>exact uC_ i8)
    (case aB=>exact(fm))
    (case aF=>exact(fun k_ hk=>(Nat.le_trans (Gz (fm)) hk)))
    (case aO=>exact(yR_ aq9 (fun _ hk=>hk.1)))
    (case aS=>exact(Gz (fm)))
    (case aL=>have:=fp0.out;omega)
    intro bi9 w50 ho hb hg hat
    rw[<- fp1.out] at ho
    replace fv:=A_ (Kd.N_afterv (ok:=(fun k_=>(w.heap.size<=k_)/\k_≠fu)) (uN_ fv) hg hat)
    replace dl:=(bg_ dl hg (Kd.R_ne aq9.out dl.out (by decide)))
    replace HB:=A_ (hb)
    have av8:=A_ (ho)
    clear aq9
    clear ho hb hg hat
    refine hK.out _ _ ⟨(Gy dl.out 0).trans rfl,(Gy dl.out 1).trans rfl⟩ (fun hHeld=>?_)
    clear hK K
    refine nm_ ?_
    refine one_ (i:=6) (N:=some 76) (tl_ 11 127) rfl rfl (Jn HT_.out (g0_)) (by decide) (fun K hK=>?_)
    refine rls_ 76 [kh] ?_
    intro ar0 w51 ck9 hb hg_ hnew_
    clear hg_ hnew_
    (first|rw[<- cx4.out] at ck9|(simp only[Int.reduceToNat] at ck9;rw[<- cx4.out] at ck9))
    replace fv:=A_ (Kd.N_elder' (uN_ fv) (Kd.R_base ck9) hb)
    have tb:=A_ (Kd.R_lower (Kd.R_new' (Kd.R_newM (M:=fun k_=>(w.heap.size<=k_)) ck9 (Gz (fm)) (fun k_ h_=>h_)) (Kd.R_lt (uR_ av8))) (Gz (fm)))
    replace av8:=A_ (Kd.R_elder' (uR_ av8) (Kd.R_base ck9) hb)
    replace dl:=bb_ dl hb
    replace HB:=hs_ (fm) hb
    clear hb ck9
    refine hK.out _ _ ⟨(Gy dl.out 0).trans rfl,(Gy dl.out 1).trans rfl⟩ (fun hHeld=>?_)
    clear hK K
    refine nm_ ?_
    exact norm_ (g8_) (hCont (ca8,bi9,ar0) _ ⟨hHeld,(uR_ av8),(yR_ tb (fun _ hk=>⟨hk.1.1,hk.2⟩)),(yN_ fv (fun _ hk=>⟨hk.1.1.1,⟨hk.1.2,⟨hk.2,hk.1.1.2⟩⟩⟩)),(uB_ dl),(fm)⟩)
   skip
   refine rls_ 76 [kh] ?_
   intro ar0 w50 ag7 hb hg_ hnew_
   clear hg_ hnew_
   (first|rw[<- cx4.out] at ag7|(simp only[Int.reduceToNat] at ag7;rw[<- cx4.out] at ag7))
   replace fv:=A_ (Kd.N_elder' (uN_ fv) (Kd.R_base ag7) hb)
   have tb:=A_ (Kd.R_lower (Kd.R_new' (Kd.R_newM (M:=fun k_=>(w.heap.size<=k_)) ag7 (Gz (fm)) (fun k_ h_=>h_)) (Kd.R_lt (uR_ aq9))) (Gz (fm)))
   replace aq9:=A_ (Kd.R_elder' (uR_ aq9) (Kd.R_base ag7) hb)
   replace dl:=bb_ dl hb
   replace HB:=hs_ (fm) hb
   clear hb ag7
   refine hK.out _ _ ⟨(Gy dl.out 0).trans rfl,(Gy dl.out 1).trans rfl⟩ (fun hHeld=>?_)
   clear hK K
   refine nm_ ?_
   refine one_ (i:=4) (N:=some 74) (tl_ 11 127) rfl rfl (Jn HT_.out (g0_)) (by decide) (fun K hK=>?_)
   refine Kd.R_append_rows_step (Kd.int .i64) (w0:=w) w.heap.size (by rfl) (.tmp 72) (.tmp 73) 22 3 (.int .i64 0) 8 rfl Try.underlying22 info3 rfl (by decide) (by omega) ca8 bp7 l1 _ _ _ (fun k_=>(w.heap.size<=k_)/\some k_≠(ar0:Value).ownBlock) (fun _=>False) rfl rfl ?aO ?aR (fun _ _ h=>h) (fun _ h=>h.elim) ?aF ?aB ?aS ?aL ?_
   (case aR=>exact uC_ i8)
   (case aB=>exact(fm))
   (case aF=>exact(fun k_ hk=>⟨(Nat.le_trans (Gz (fm)) hk),Kd.fresh' (Kd.R_lt (uR_ tb)) k_ hk⟩))
   (case aO=>exact(yR_ aq9 (fun _ hk=>⟨hk.1.1,hk.2⟩)))
   (case aS=>exact(Gz (fm)))
   (case aL=>have:=fp0.out;omega)
   intro bi9 w52 ho hb hg hat
   rw[<- fp1.out] at ho
   replace fv:=A_ (Kd.N_afterv (ok:=(fun k_=>(w.heap.size<=k_)/\some k_≠(ar0:Value).ownBlock/\k_≠fu)) (yN_ fv (fun _ hk=>⟨⟨hk.1.1.1,⟨hk.2,hk.1.1.2⟩⟩,hk.1.2⟩)) hg hat)
   replace dl:=(bg_ dl hg (Kd.R_ne aq9.out dl.out (by decide)))
   replace tb:=A_ (Kd.R_after (ok:=(fun k_=>(w.heap.size<=k_))) (yR_ tb (fun _ hk=>⟨hk.1.1,hk.2⟩)) hg hat)
   replace HB:=A_ (hb)
   have av8:=A_ (ho)
   clear aq9
   clear ho hb hg hat
   refine hK.out _ _ ⟨(Gy dl.out 0).trans rfl,(Gy dl.out 1).trans rfl⟩ (fun hHeld=>?_)
   clear hK K
   refine nm_ ?_
   exact Fb.calls.z0
  skip
  refine rls_ 76 [kh] ?_
  intro ar0 w48 aq8 hb hg_ hnew_
  clear hg_ hnew_
  (first|rw[<- cx4.out] at aq8|(simp only[Int.reduceToNat] at aq8;rw[<- cx4.out] at aq8))
  replace fv:=A_ (Kd.N_elder' (uN_ fv) (Kd.R_base aq8) hb)
  have tb:=A_ (Kd.R_lower (Kd.R_newM (M:=fun k_=>(w.heap.size<=k_)) aq8 (Gz (fm)) (fun k_ h_=>h_)) (Gz (fm)))
  replace dl:=bb_ dl hb
  replace HB:=hs_ (fm) hb
  clear hb aq8
  refine hK.out _ _ ⟨(Gy dl.out 0).trans rfl,(Gy dl.out 1).trans rfl⟩ (fun hHeld=>?_)
  clear hK K
  refine nm_ ?_
  refine one_ (i:=2) (N:=some 72) (tl_ 11 111) rfl rfl (Jn HT_.out (g0_)) (by decide) (fun K hK=>?_)
  refine rls_ 72 [] ?_
  intro ca8 w50 ag7 hb hg_ hnew_
  clear hg_ hnew_
  (first|rw[<- em9.out] at ag7|(simp only[Int.reduceToNat] at ag7;rw[<- em9.out] at ag7))
  replace fv:=A_ (Kd.N_elder' (uN_ fv) (Kd.R_base ag7) hb)
  have aq9:=A_ (Kd.R_lower (Kd.R_new' (Kd.R_newM (M:=fun k_=>(w.heap.size<=k_)) ag7 (Gz (fm)) (fun k_ h_=>h_)) (Kd.R_lt (uR_ tb))) (Gz (fm)))
  replace tb:=A_ (Kd.R_elder' (uR_ tb) (Kd.R_base ag7) hb)
  replace dl:=bb_ dl hb
  replace HB:=hs_ (fm) hb
  clear hb ag7
  refine hK.out _ _ ⟨(Gy dl.out 0).trans rfl,(Gy dl.out 1).trans rfl⟩ (fun hHeld=>?_)
  clear hK K
  refine nm_ ?_
  refine one_ (i:=4) (N:=some 74) (tl_ 11 127) rfl rfl (Jn HT_.out (g0_)) (by decide) (fun K hK=>?_)
  refine Kd.R_append_rows_step (Kd.int .i64) (w0:=w) w.heap.size (by rfl) (.tmp 72) (.tmp 73) 22 3 (.int .i64 0) 8 rfl Try.underlying22 info3 rfl (by decide) (by omega) ca8 bp7 l1 _ _ _ (fun k_=>(w.heap.size<=k_)/\some k_≠(ar0:Value).ownBlock) (fun _=>False) rfl rfl ?aO ?aR (fun _ _ h=>h) (fun _ h=>h.elim) ?aF ?aB ?aS ?aL ?_
  (case aR=>exact uC_ i8)
  (case aB=>exact(fm))
  (case aF=>exact(fun k_ hk=>⟨(Nat.le_trans (Gz (fm)) hk),Kd.fresh' (Kd.R_lt (uR_ tb)) k_ hk⟩))
  (case aO=>exact(yR_ aq9 (fun _ hk=>⟨hk.1.1,hk.2⟩)))
  (case aS=>exact(Gz (fm)))
  (case aL=>have:=fp0.out;omega)
  intro bi9 w52 ho hb hg hat
  rw[<- fp1.out] at ho
  replace fv:=A_ (Kd.N_afterv (ok:=(fun k_=>(w.heap.size<=k_)/\some k_≠(ar0:Value).ownBlock/\k_≠fu)) (yN_ fv (fun _ hk=>⟨⟨hk.1.1.1,⟨hk.1.2,hk.1.1.2⟩⟩,hk.2⟩)) hg hat)
  replace dl:=(bg_ dl hg (Kd.R_ne aq9.out dl.out (by decide)))
  replace tb:=A_ (Kd.R_after (ok:=(fun k_=>(w.heap.size<=k_))) (yR_ tb (fun _ hk=>⟨hk.1.1,hk.2⟩)) hg hat)
  replace HB:=A_ (hb)
  have av8:=A_ (ho)
  clear aq9
  clear ho hb hg hat
  refine hK.out _ _ ⟨(Gy dl.out 0).trans rfl,(Gy dl.out 1).trans rfl⟩ (fun hHeld=>?_)
  clear hK K
  refine nm_ ?_
  exact Fb.calls.z0
 rintro⟨ca8,bi9,ar0⟩ w53 ⟨hS_,h0_,h1_,h2_,h3_,h4_⟩
 have av8:Gx (Kd.R (Kd.int .i64) 3 w53 w.heap.size (fun k_=>(w.heap.size<=k_)/\some k_≠(ar0:Value).ownBlock) bi9 ak9):=⟨h0_⟩
 have tb:Gx (Kd.R (Kd.int .i64) 3 w53 w.heap.size (fun k_=>(w.heap.size<=k_)/\some k_≠(bi9:Value).ownBlock) ar0 uk):=⟨h1_⟩
 replace fv:Gx (Kd.N (Kd.slice 3 (Kd.int .i64)) 22 w53 w.heap.size (fun k_=>(w.heap.size<=k_)/\some k_≠(bi9:Value).ownBlock/\some k_≠(ar0:Value).ownBlock/\k_≠fu) (.slice ag5 r9.length ag6) r9):=⟨h2_⟩
 replace dl:Gx (hc_ w53 fu #[.slice ah ab.length af, .slice (some ag4) aa.length ai] 25):=⟨h3_⟩
 replace HB:Gx (Below w.heap.size w w53):=⟨h4_⟩
 clear h0_ h1_ h2_ h3_ h4_
 have hHeld:w53.cell? ⟨fu,0,none⟩=some (.slice ah ab.length af)/\w53.cell? ⟨fu,1,none⟩=some (.slice (some ag4) aa.length ai):=hS_
 obtain⟨wo,vi,cl0⟩:=Kd.R_slice tb.out
 (first|subst cl0|(injection cl0 with f1_ f2_ f3_;have f4_:=f1_.symm;have f5_:=f3_.symm;clear f1_ f2_ f3_;subst f4_;subst f5_))
 refine norm_ (a':=?_) ?_ ?_
 rotate_left
 · exact sq_
 refine one_ (i:=7) (N:=some 77) (tl_ 11 255) rfl rfl (Jn HT_.out (g0_)) (by decide) (fun K hK=>?_)
 refine Kd.R_append_rows_step (Kd.int .i64) (w0:=w) w.heap.size (by rfl) (.tmp 74) (.tmp 76) 22 3 (.int .i64 0) 8 rfl Try.underlying22 info3 rfl (by decide) (by omega) bi9 ak9 uk _ _ _ (fun k_=>(w.heap.size<=k_)/\some k_≠(.slice wo uk.length vi:Value).ownBlock) (fun _=>False) rfl rfl ?aO ?aR (fun _ _ h=>h) (fun _ h=>h.elim) ?aF ?aB ?aS ?aL ?_
 (case aR=>repeat(first|exact(Kd.R_reads' tb.out).2.2|(with_reducible refine Kd.C_alloc ?_ _)|(with_reducible refine Kd.C_drewN ?_ _)|(with_reducible refine Kd.C_drew ?_)))
 (case aB=>exact(fm))
 (case aF=>exact(fun k_ hk=>⟨(Nat.le_trans (Gz (fm)) hk),Kd.fresh' (Kd.R_lt (uR_ tb)) k_ hk⟩))
 (case aO=>exact(uR_ av8))
 (case aS=>exact(Gz (fm)))
 (case aL=>have:=jq9.out;omega)
 intro mj3 w54 ho hb hg hat
 rw[<- jr0.out] at ho
 replace fv:=A_ (Kd.N_afterv (ok:=(fun k_=>(w.heap.size<=k_)/\some k_≠(.slice wo uk.length vi:Value).ownBlock/\k_≠fu)) (yN_ fv (fun _ hk=>⟨⟨hk.1,⟨hk.2.2.1,hk.2.2.2⟩⟩,hk.2.1⟩)) hg hat)
 replace dl:=(bg_ dl hg (Kd.R_ne av8.out dl.out (by decide)))
 replace tb:=A_ (Kd.R_after (ok:=(fun k_=>(w.heap.size<=k_))) (uR_ tb) hg hat)
 replace HB:=A_ (hb)
 have bq2:=A_ (ho)
 clear av8
 clear ho hb hg hat
 obtain⟨ar1,al0,en0⟩:=Kd.R_slice bq2.out
 (first|subst en0|(injection en0 with f1_ f2_ f3_;have f4_:=f1_.symm;have f5_:=f3_.symm;clear f1_ f2_ f3_;subst f4_;subst f5_))
 refine hK.out _ _ ⟨(Gy dl.out 0).trans rfl,(Gy dl.out 1).trans rfl⟩ (fun hHeld=>?_)
 clear hK K
 refine nm_ ?_
 refine one_ (i:=8) (N:=some 78) (tl_ 11 511) rfl rfl (Jn HT_.out (g0_)) (by decide) (fun K hK=>?_)
 refine goes_ Try.func113 (g0_) rfl #[.agg #[.slice ah ab.length af, .slice (some ag4) aa.length ai], .slice ar1 ca7.length al0] (by rfl) rfl rfl (gM_) ?_
 with_reducible refine(ih k4 (g136_) _ _ ab _ _ aa _ _ ca7 yx _ ?side1 ?side2 ?side3 ?side4 ?side5 ?side6 A44.out).mono ?_
 (case side1=>exact uC_ dp)
 (case side2=>exact ec.out)
 (case side3=>exact uC_ df)
 (case side4=>exact ee.out)
 (case side5=>exact cR_ bq2)
 (case side6=>exact lR_ bq2)
 rintro e w57 ⟨mj4,rfl,ae,hb⟩
 refine⟨_,rfl,?_⟩
 have en1:=A_ (Kd.N_lower (Kd.N_mono (ok':=fun k_=>(w.heap.size<=k_)/\some k_≠(.slice ag5 r9.length ag6:Value).ownBlock/\some k_≠(.slice wo uk.length vi:Value).ownBlock/\some k_≠(.slice ar1 ca7.length al0:Value).ownBlock/\k_≠fu) ae (fun k_ hk_=>⟨(Nat.le_trans (Gz (fm)) hk_),(Kd.fresh' (Kd.N_lt (uN_ fv)) k_ hk_),(Kd.fresh' (Kd.R_lt (uR_ tb)) k_ hk_),(Kd.fresh' (Kd.R_lt (uR_ bq2)) k_ hk_),(Kd.freshB (g:=fu) (o:=.cells #[.slice ah ab.length af, .slice (some ag4) aa.length ai] 25 (0,0)) (uB_ dl) k_ hk_)⟩)) (Gz (fm)))
 replace fv:=A_ (Kd.N_elder' (uN_ fv) (Kd.N_base ae) hb)
 replace tb:=rb_ tb hb
 replace bq2:=rb_ bq2 hb
 replace dl:=bb_ dl hb
 replace HB:=hs_ (fm) hb
 obtain⟨en2,en3,dp6⟩:=Kd.N_slice en1.out
 (first|subst dp6|(injection dp6 with f1_ f2_ f3_;have f4_:=f1_.symm;have f5_:=f3_.symm;clear f1_ f2_ f3_;subst f4_;subst f5_))
 refine hK.out _ _ ⟨(Gy dl.out 0).trans rfl,(Gy dl.out 1).trans rfl⟩ (fun hHeld=>?_)
 clear hK K
 refine nm_ ?_
 refine one_ (i:=9) (N:=some 79) (tl_ 11 1023) rfl rfl (Jn HT_.out (g0_)) (by decide) (fun K hK=>?_)
 refine Kd.N_append_rows_step (Kd.slice 3 (Kd.int .i64)) (w0:=w) w.heap.size (by rfl) (.tmp 70) (.tmp 78) 23 22 (.slice none 0 0) 24 rfl Try.underlying23 info22 rfl (by decide) (by omega) (.slice ag5 r9.length ag6) r9 yx _ _ _ (fun k_=>(w.heap.size<=k_)/\some k_≠(.slice wo uk.length vi:Value).ownBlock/\some k_≠(.slice ar1 ca7.length al0:Value).ownBlock/\k_≠fu) (fun k_=>((fun k_=>(w.heap.size<=k_)/\some k_≠(.slice wo uk.length vi:Value).ownBlock/\some k_≠(.slice ar1 ca7.length al0:Value).ownBlock/\k_≠fu)) k_/\some k_≠(.slice ag5 r9.length ag6:Value).ownBlock) rfl rfl ?aO ?aR (fun _ hk=>hk) ?aF ?aB ?aS ?aL ?_
 (case aR=>exact(by skip;exact Kd.N_F (Kd.N_mono (ok':=(fun k_=>((fun k_=>(w.heap.size<=k_)/\some k_≠(.slice wo uk.length vi:Value).ownBlock/\some k_≠(.slice ar1 ca7.length al0:Value).ownBlock/\k_≠fu)) k_/\some k_≠(.slice ag5 r9.length ag6:Value).ownBlock)) (en1.out) (fun k_ hk=>⟨⟨hk.1,⟨hk.2.2.1,⟨hk.2.2.2.1,hk.2.2.2.2⟩⟩⟩,hk.2.1⟩))))
 (case aB=>exact(fm))
 (case aF=>exact(fun k_ hk=>⟨(Nat.le_trans (Gz (fm)) hk),Kd.fresh' (Kd.R_lt (uR_ tb)) k_ hk,Kd.fresh' (Kd.R_lt (uR_ bq2)) k_ hk,Kd.freshB (g:=fu) (o:=.cells #[.slice ah ab.length af, .slice (some ag4) aa.length ai] 25 (0,0)) (uB_ dl) k_ hk⟩))
 (case aO=>exact(yN_ fv (fun _ hk=>⟨hk.1.1.1,⟨hk.1.1.2.1,⟨hk.1.2,hk.1.1.2.2⟩⟩⟩)))
 (case aS=>exact(Gz (fm)))
 (case aL=>have:=fp2.out;omega)
 intro mj5 m0 ho hb hg hat
 rw[<- jr1.out] at ho
 replace dl:=(bg_ dl hg (Kd.N_ne fv.out dl.out (by decide)))
 replace tb:=A_ (Kd.R_over' (uR_ tb) (Kd.N_typed (uN_ fv)) (by decide) hg)
 replace bq2:=A_ (Kd.R_over' (uR_ bq2) (Kd.N_typed (uN_ fv)) (by decide) hg)
 replace en1:=A_ (Kd.N_afterv (ok:=(fun k_=>(w.heap.size<=k_)/\some k_≠(.slice wo uk.length vi:Value).ownBlock/\some k_≠(.slice ar1 ca7.length al0:Value).ownBlock/\k_≠fu)) (yN_ en1 (fun _ hk=>⟨⟨hk.1,⟨hk.2.2.1,⟨hk.2.2.2.1,hk.2.2.2.2⟩⟩⟩,hk.2.1⟩)) hg hat)
 replace HB:=A_ (hb)
 have jr2:=A_ (ho)
 clear fv
 clear ho hb hg hat
 refine hK.out _ _ ⟨(Gy dl.out 0).trans rfl,(Gy dl.out 1).trans rfl⟩ (fun hHeld=>?_)
 clear hK K
 refine nm_ ?_
 refine pw_ 10 5 (tl_ 11 2047) ?_
 refine done_ (done_of HT_.out (g0_)) ?_
 try go_wp2
 go_roundg k4
 case measure=>have:=HJ5.out;have:=HJ17.out;have:=HK3.out;have:=HK4.out;omega
 case rel=>exact⟨(hf2),(wrap64 (kh + 1)),(g3_),H',⟨g136_⟩,⟨by(with_reducible repeat(first|apply Kd.N_alloc|apply Kd.N_drewN|apply Kd.N_drew));exact Kd.N_mono jr2.out (fun _ hk=>⟨hk.1,hk.2.2.2⟩)⟩,⟨uB_ dl⟩,⟨fm⟩⟩
def Ga.l0:Nat->List Int->List Int->Int->Option (Bool)
 | 0,_,_,_=>none
 | k + 1,x0,x1,x5=>if x5 < (x0.length:Int) then(if 0<=x5 then(if x5 < (x1.length:Int) then(if (rd x0 x5)=(rd x1 x5) then(Ga.l0 k x0 x1 (wrap64 (x5 + 1))) else(some (decide ((rd x0 x5) < (rd x1 x5))))) else(none)) else(none)) else(some false)
def Ga.f (k:Nat) (l0:List Int) (l1:List Int):Option (Bool):=if (l0.length:Int)=(l1.length:Int) then(Ga.l0 k l0 l1 0) else(some (decide ((l0.length:Int) < (l1.length:Int))))
set_option maxHeartbeats 8000000 in
set_option maxRecDepth 100000 in
theorem Ga.calls (k:Nat) (A0:Option Addr) (c0:Nat) (l0:List Int) (A1:Option Addr) (c1:Nat) (l1:List Int) (r:Bool) (w:World) (gq:Kd.C (Kd.int .i64) w A0 l0.length l0) (i2:l0.length<=c0) (k0:Kd.C (Kd.int .i64) w A1 l1.length l1) (lh:l1.length<=c1) (h:Ga.f k l0 l1=some r) :
  Calls Try.prog 114 #[.slice A0 l0.length c0, .slice A1 l1.length c1] w fun e w'=>e = .returned (.bool r)/\Drawn0 w w':=by
 have ks:=A_ gq
 have uc:=A_ i2
 clear gq i2
 have i8:=A_ k0
 have HC1:=A_ lh
 clear k0 lh
 have H:=h
 unfold Ga.f at H
 clear h
 by_cases c3:(l0.length:Int)=(l1.length:Int)
 case neg=>
  rw[if_neg c3] at H
  have nt:((l0.length:Int) == (l1.length:Int))=false:=beq_eq_false_iff_ne.mpr c3
  have xz:((l0.length:Int) != (l1.length:Int))=true:=bne_iff_ne.mpr c3
  have ac8:(l0.length == l1.length)=false:=by first|simpa using c3|(simp at c3 |-;omega)
  obtain rfl:=Option.some.inj H
  go_enter Try.func114,Try.ntmps114
  go_wp2
  repeat(go_quiet (fail);try go_wp2)
  go_ret
  exact⟨g3_,g5_⟩
 rw[if_pos c3] at H
 have nt:((l0.length:Int) == (l1.length:Int))=true:=beq_iff_eq.mpr c3
 have xz:((l0.length:Int) != (l1.length:Int))=false:=bne_eq_false_iff_eq.mpr c3
 have ac8:(l0.length == l1.length)=true:=by first|simpa using c3|(simp at c3 |-;omega)
 clear c3
 have H':=A_ H
 clear H
 go_enter Try.func114,Try.ntmps114
 go_wp2
 repeat(go_quiet (fail);try go_wp2)
 go_loopg [5] k (fun kq v5 w'=>∃(bj:Int),v5 = .int .i64 bj/\Gx (Ga.l0 kq l0 l1 bj=some r)/\Gx (kq<=k)/\Drawn0 w w')
 case atStart=>exact⟨(0),(g3_),H',⟨Nat.le_refl _⟩,g5_⟩
 clear H'
 obtain⟨bj,rfl,HA,HK1,⟨m1,rfl⟩⟩:=hrel
 cases gk with
 | zero=>exact absurd HA.out (by simp[Ga.l0])
 | succ k1=>?_
 have H:=HA.out
 clear HA
 simp only[Ga.l0] at H
 by_cases c4:bj < (l0.length:Int)
 case neg=>
  rw[if_neg c4] at H
  have qh:=decide_eq_false c4
  clear c4
  obtain rfl:=Option.some.inj H
  go_wp2
  repeat(go_quiet (fail);try go_wp2)
  go_ret
  exact⟨g3_,g5_⟩
 rw[if_pos c4] at H
 have qh:=decide_eq_true c4
 clear c4
 obtain⟨j9,H⟩:=pd_ H
 obtain⟨qu,H⟩:=pd_ H
 by_cases c7:(rd l0 bj)=(rd l1 bj)
 ·rw[if_pos c7] at H
  have aa6:((rd l0 bj) == (rd l1 bj))=true:=beq_iff_eq.mpr c7
  have bn8:((rd l0 bj) != (rd l1 bj))=false:=bne_eq_false_iff_eq.mpr c7
  clear c7
  have H':=A_ H
  clear H
  obtain⟨⟨hf3,fp4,jr7⟩,cl1,cl2⟩:=rdp_ (Kd.at_int ks.out bj)
  cases fp4
  obtain⟨⟨hf5,fp5,jr8⟩,cl3,cl4⟩:=rdp_ (Kd.at_int i8.out bj)
  cases fp5
  go_wp2
  repeat(go_quiet (fail);try go_wp2)
  go_roundg k1
  case measure=>have:=HK1.out;omega
  case rel=>exact⟨(wrap64 (bj + 1)),(g3_),H',⟨g17_⟩,g5_⟩
 rw[if_neg c7] at H
 have aa6:((rd l0 bj) == (rd l1 bj))=false:=beq_eq_false_iff_ne.mpr c7
 have bn8:((rd l0 bj) != (rd l1 bj))=true:=bne_iff_ne.mpr c7
 obtain rfl:=Option.some.inj H
 obtain⟨⟨hf3,fp4,jr7⟩,cl1,cl2⟩:=rdp_ (Kd.at_int ks.out bj)
 cases fp4
 obtain⟨⟨hf5,fp5,jr8⟩,cl3,cl4⟩:=rdp_ (Kd.at_int i8.out bj)
 cases fp5
 obtain⟨⟨jr9,js0,mj6⟩,fp6,fp7⟩:=rdp_ (Kd.at_int ks.out bj)
 obtain rfl:hf3=jr9:=(by injection js0)
 obtain⟨⟨js1,js2,mj7⟩,fp8,fp9⟩:=rdp_ (Kd.at_int i8.out bj)
 obtain rfl:hf5=js1:=(by injection js2)
 go_wp2
 repeat(go_quiet (fail);try go_wp2)
 go_ret
 exact⟨g3_,g5_⟩
mutual
def Fg.j1:Nat->List (List Int)->Option ((List (List Int)))
 | 0,_=>none
 | k + 1,x3=>Fg.l1 k x3 1
def Fg.l1:Nat->List (List Int)->Int->Option ((List (List Int)))
 | 0,_,_=>none
 | k + 1,x3,x5=>if x5 < (x3.length:Int) then(Fg.l2 k x3 x5 x5) else(some x3)
def Fg.l2:Nat->List (List Int)->Int->Int->Option ((List (List Int)))
 | 0,_,_,_=>none
 | k + 1,x3,x5,x6=>if x6 > 0 then(if 0<=x6 then(if x6 < (x3.length:Int) then(if 0<=(wrap64 (x6 - 1)) then(if (wrap64 (x6 - 1)) < (x3.length:Int) then((Ga.f k (Jb x3 x6) (Jb x3 (wrap64 (x6 - 1)))).bind fun dp8=>(if dp8=true then(Fg.l2 k ((x3.set (x6:Int).toNat (Jb x3 (wrap64 (x6 - 1)))).set ((wrap64 (x6 - 1)):Int).toNat (Jb x3 x6)) x5 (wrap64 (x6 - 1))) else(Fg.l1 k x3 (wrap64 (x5 + 1))))) else(none)) else(none)) else(none)) else(none)) else(Fg.l1 k x3 (wrap64 (x5 + 1)))
def Fg.l0:Nat->List (List Int)->Int->List Int->List (List Int)->Option ((List (List Int)))
 | 0,_,_,_,_=>none
 | k + 1,x3,x4,en4,fq0=>if x4 < (en4.length:Int) then((Fh.f k en4 fq0).bind fun fq1=>(if fq1=true then((Fb.f k en4 fq0 (([x4]:List Int))).bind fun ar2=>(if x3.length + ar2.length < 5864062014805 then(Fg.l0 k (x3 ++ ar2) (wrap64 (x4 + 1)) en4 fq0) else(none))) else(Fg.j1 k x3))) else(Fg.j1 k x3)
end
def Fg.f (k:Nat) (ab:List Int) (aa:List (List Int)):Option ((List (List Int))):=Fg.l0 k (([]:List (List Int))) 0 ab aa
theorem Fg.V_atq {α:Type} {d:Kd α} {e:Nat} {w w1:World} {base n:Nat} {ok:Nat->Prop} {v:Value} {xs:List α} (hq:World.drewN w n=w1) (h:Kd.V d e w base ok v xs):Kd.V d e w1 base ok v xs:=by subst hq;exact Kd.V_drewN h n
theorem i1 {p:Prop} (h:p:=by repeat(first|(with_reducible first|exact HB.out|apply G3|apply G2|apply G1|refine G0 ?_ fq2.out)|exact HB.out)):p:=h
set_option maxHeartbeats 8000000 in
set_option maxRecDepth 100000 in
theorem Fg.calls (k:Nat) (ah:Option Addr) (af:Nat) (ab:List Int) (ao:Option Addr) (ai:Nat) (aa:List (List Int)) (r:List (List Int)) (w:World) (d4:Kd.C (Kd.int .i64) w ah ab.length ab) (d9:ab.length<=af) (d5:Kd.C (Kd.slice 3 (Kd.int .i64)) w ao aa.length aa) (ea:aa.length<=ai) (h:Fg.f k ab aa=some r) :
  Calls Try.prog 95 #[.agg #[.slice ah ab.length af, .slice ao aa.length ai]] w fun e w'=>∃v0_:Value,e = .returned (v0_)/\Kd.N (Kd.slice 3 (Kd.int .i64)) 22 w' w.heap.size (fun k_=>(w.heap.size<=k_)) v0_ r/\Below w.heap.size w w':=by
 have hu25:=Try.underlying25
 have dp:=A_ d4
 have ec:=A_ d9
 clear d4 d9
 have df:=A_ d5
 have ee:=A_ ea
 clear d5 ea
 have HB:=A_ (Below.refl w.heap.size w)
 have H:=h
 unfold Fg.f at H
 clear h
 obtain⟨hf6,hyq⟩:∃y_:List (List Int),y_=(([]:List (List Int))):=⟨_,rfl⟩
 replace H:(Fg.l0 k hf6 0 ab aa)=some r:=qh_
 have cx5:=A_ hyq
 clear hyq
 have HC2:=A_ H
 clear H
 go_enter Try.func95,Try.ntmps95
 go_upto_block 0 with(first|((with_reducible refine gd_ 1 ?_);refine bx_ (N:=1) #[.slice ah ab.length af, .slice ao aa.length ai] 25 ?_;intro dh hg w3 hbox hb;have ef:=A_ (hbox);have hf7:=A_ ((g94_:w.heap.size<=dh));have fq2:=hf7;replace HB:=hs_ (i1) hb;clear hb hbox hg)|((with_reducible refine gd_ 8 ?_);refine Kd.N_lit (Kd.slice 3 (Kd.int .i64)) _ 22 ?hg (N':=8) ?hd (xs:=([]:List (List Int))) (inner:=[]) (ok:=(fun k_=>(w.heap.size<=k_)/\k_≠dh)) (okp:=(fun k_=>(w.heap.size<=k_)/\k_≠dh)) ?hr ?hp (fun _ hk=>hk) ((show ∀k_,w3.heap.size<=k_->(fun k_=>(w.heap.size<=k_)/\k_≠dh) k_ from fun k_ hk=>⟨(Nat.le_trans (Gz (i1)) hk),Kd.freshB (g:=dh) (o:=.cells #[.slice ah ab.length af, .slice ao aa.length ai] 25 (0,0)) (uB_ ef) k_ hk⟩) _ (Nat.le_refl _)) (Below.refl _ _) (Nat.le_refl _) (by simp) ?_;(case hd=>rfl);(case hg=>rfl);(case hr=>first|(go_simp;done)|(go_simp;rfl));(case hp=>exact(Reps.none _ _));intro hf8 w4 ho5 hb hg_ hnew_;clear hg_ hnew_;(first|rw[<- cx5.out] at ho5|(simp only[Int.reduceToNat] at ho5;rw[<- cx5.out] at ho5));have fq3:=A_ (Kd.N_lower ho5 (Gz (i1)));replace ef:=bb_ ef hb;replace HB:=hs_ (i1) hb;clear hb ho5))
 repeat(go_quiet (first|((with_reducible refine gd_ 1 ?_);refine bx_ (N:=1) #[.slice ah ab.length af, .slice ao aa.length ai] 25 ?_;intro dh hg w3 hbox hb;have ef:=A_ (hbox);have hf7:=A_ ((g94_:w.heap.size<=dh));have fq2:=hf7;replace HB:=hs_ (i1) hb;clear hb hbox hg)|((with_reducible refine gd_ 8 ?_);refine Kd.N_lit (Kd.slice 3 (Kd.int .i64)) _ 22 ?hg (N':=8) ?hd (xs:=([]:List (List Int))) (inner:=[]) (ok:=(fun k_=>(w.heap.size<=k_)/\k_≠dh)) (okp:=(fun k_=>(w.heap.size<=k_)/\k_≠dh)) ?hr ?hp (fun _ hk=>hk) ((show ∀k_,w3.heap.size<=k_->(fun k_=>(w.heap.size<=k_)/\k_≠dh) k_ from fun k_ hk=>⟨(Nat.le_trans (Gz (i1)) hk),Kd.freshB (g:=dh) (o:=.cells #[.slice ah ab.length af, .slice ao aa.length ai] 25 (0,0)) (uB_ ef) k_ hk⟩) _ (Nat.le_refl _)) (Below.refl _ _) (Nat.le_refl _) (by simp) ?_;(case hd=>rfl);(case hg=>rfl);(case hr=>first|(go_simp;done)|(go_simp;rfl));(case hp=>exact(Reps.none _ _));intro hf8 w4 ho5 hb hg_ hnew_;clear hg_ hnew_;(first|rw[<- cx5.out] at ho5|(simp only[Int.reduceToNat] at ho5;rw[<- cx5.out] at ho5));have fq3:=A_ (Kd.N_lower ho5 (Gz (i1)));replace ef:=bb_ ef hb;replace HB:=hs_ (i1) hb;clear hb ho5));go_upto_block 0 with(first|((with_reducible refine gd_ 1 ?_);refine bx_ (N:=1) #[.slice ah ab.length af, .slice ao aa.length ai] 25 ?_;intro dh hg w3 hbox hb;have ef:=A_ (hbox);have hf7:=A_ ((g94_:w.heap.size<=dh));have fq2:=hf7;replace HB:=hs_ (i1) hb;clear hb hbox hg)|((with_reducible refine gd_ 8 ?_);refine Kd.N_lit (Kd.slice 3 (Kd.int .i64)) _ 22 ?hg (N':=8) ?hd (xs:=([]:List (List Int))) (inner:=[]) (ok:=(fun k_=>(w.heap.size<=k_)/\k_≠dh)) (okp:=(fun k_=>(w.heap.size<=k_)/\k_≠dh)) ?hr ?hp (fun _ hk=>hk) ((show ∀k_,w3.heap.size<=k_->(fun k_=>(w.heap.size<=k_)/\k_≠dh) k_ from fun k_ hk=>⟨(Nat.le_trans (Gz (i1)) hk),Kd.freshB (g:=dh) (o:=.cells #[.slice ah ab.length af, .slice ao aa.length ai] 25 (0,0)) (uB_ ef) k_ hk⟩) _ (Nat.le_refl _)) (Below.refl _ _) (Nat.le_refl _) (by simp) ?_;(case hd=>rfl);(case hg=>rfl);(case hr=>first|(go_simp;done)|(go_simp;rfl));(case hp=>exact(Reps.none _ _));intro hf8 w4 ho5 hb hg_ hnew_;clear hg_ hnew_;(first|rw[<- cx5.out] at ho5|(simp only[Int.reduceToNat] at ho5;rw[<- cx5.out] at ho5));have fq3:=A_ (Kd.N_lower ho5 (Gz (i1)));replace ef:=bb_ ef hb;replace HB:=hs_ (i1) hb;clear hb ho5)))
 (try simp only[Act.put,List.setIfInBounds_toArray,List.set_cons_zero,List.set_cons_succ])
 go_cut [3] (fun v3 wc=>∃(kq:Nat) (fg:List (List Int)),Gx (Fg.j1 kq fg=some r)/\Gx (kq<=k)/\Gx (Kd.N (Kd.slice 3 (Kd.int .i64)) 22 wc w.heap.size (fun k_=>(w.heap.size<=k_)/\k_≠dh) v3 fg)/\Gx (hc_ wc dh #[(.slice ah ab.length af),(.slice ao aa.length ai)] 25)/\Gx (Below w.heap.size w wc))
 case first=>
  have H:=HC2.out
  clear HC2
  have H':=A_ H
  clear H
  go_wp2
  repeat(go_quiet (fail);try go_wp2)
  go_loopg [3,4] k (fun kq v3 v4 w'=>∃(fg:List (List Int)) (ck:Int),v4 = .int .i64 ck/\Gx (Fg.l0 kq fg ck ab aa=some r)/\Gx (kq<=k)/\Gx (Kd.N (Kd.slice 3 (Kd.int .i64)) 22 w' w.heap.size (fun k_=>(w.heap.size<=k_)/\k_≠dh) v3 fg)/\Gx (hc_ w' dh #[(.slice ah ab.length af),(.slice ao aa.length ai)] 25)/\Gx (Below w.heap.size w w'))
  case atStart=>exact⟨(hf6),(0),(g3_),H',⟨Nat.le_refl _⟩,⟨uN_ fq3⟩,⟨uB_ ef⟩,⟨i1⟩⟩
  clear H'
  obtain⟨fg,ck,rfl,HA,HK1,cl,ef,HB⟩:=hrel
  cases gk with
  | zero=>exact absurd HA.out (by simp[Fg.l0])
  | succ k1=>?_
  have H:=HA.out
  clear HA
  simp only[Fg.l0] at H
  by_cases c6:ck < (ab.length:Int)
  case neg=>
   rw[if_neg c6] at H
   have qu:=decide_eq_false c6
   clear c6
   (first|rw[qu]|(simp only[i64_w,i32_w];rw[qu])|skip)
   have H':=A_ H
   clear H
   obtain⟨ap2,ap3,ap4,ap5⟩:=blk2_ ef
   go_wp2
   repeat(go_quiet (fail);try go_wp2)
   go_meet
   case rel=>exact⟨_,(fg),H',⟨by have:=HK1.out;first|omega|exact Nat.le_refl _⟩,⟨uN_ cl⟩,⟨uB_ ef⟩,⟨i1⟩⟩
  rw[if_pos c6] at H
  have qu:=decide_eq_true c6
  clear c6
  (first|rw[qu]|(simp only[i64_w,i32_w];rw[qu])|skip)
  obtain⟨fq1,A7,H⟩:=bind_ H
  by_cases c8:fq1=true
  case neg=>
   replace c8:=Bool.eq_false_iff.mpr c8
   subst c8
   replace H:=ifn_ H
   have H':=A_ H
   clear H
   obtain⟨dm3,dm4,dm5,dm6⟩:=blk2_ ef
   iterate 2 (go_wp2_with (first|(go_at_call 42;(refine(Fh.calls k1 _ _ ab _ _ aa false _ (uC_ dp) ec.out (uC_ df) ee.out A7.out).mono ?_);rintro e mu ⟨rfl,hb⟩;replace cl:=nb_ cl hb;replace ef:=bb_ ef hb;replace HB:=hs_ (i1) hb));try(go_quiet (first|(go_at_call 42;(refine(Fh.calls k1 _ _ ab _ _ aa false _ (uC_ dp) ec.out (uC_ df) ee.out A7.out).mono ?_);rintro e mu ⟨rfl,hb⟩;replace cl:=nb_ cl hb;replace ef:=bb_ ef hb;replace HB:=hs_ (i1) hb))))
   go_meet
   case rel=>exact⟨_,(fg),H',⟨by have:=HK1.out;first|omega|exact Nat.le_refl _⟩,⟨uN_ cl⟩,⟨uB_ ef⟩,⟨i1⟩⟩
  subst c8
  replace H:=ifp_ H
  obtain⟨ab1,hyq⟩:∃y_:List Int,y_=(([ck]:List Int)):=⟨_,rfl⟩
  replace H:((Fb.f k1 ab aa ab1).bind fun ar2=>(if fg.length + ar2.length < 5864062014805 then(Fg.l0 k1 (fg ++ ar2) (wrap64 (ck + 1)) ab aa) else(none)))=some r:=qh_
  have cx6:=A_ hyq
  clear hyq
  obtain⟨ar2,A9,H⟩:=bind_ H
  obtain⟨io,H⟩:=pos_ H
  have dp9:=A_ io
  clear io
  obtain⟨hf9,hyq⟩:∃y_:List (List Int),y_=(fg ++ ar2):=⟨_,rfl⟩
  replace H:(Fg.l0 k1 hf9 (wrap64 (ck + 1)) ab aa)=some r:=qh_
  have fq4:=A_ hyq
  clear hyq
  have H':=A_ H
  clear H
  obtain⟨au3,au4,au5,au6⟩:=blk2_ ef
  iterate 2 (go_wp2_with (first|(go_at_call 42;(refine(Fh.calls k1 _ _ ab _ _ aa true _ (uC_ dp) ec.out (uC_ df) ee.out A7.out).mono ?_);rintro e w12 ⟨rfl,hb⟩;replace cl:=nb_ cl hb;replace ef:=bb_ ef hb;replace HB:=hs_ (i1) hb;obtain⟨zy,zz,z8,z9⟩:=blk2_ ef)|((with_reducible refine gd_ 23 ?_);refine rle_ 23 [ck] ?_;intro hg0 w14 wq hb hg_ hnew_;clear hg_ hnew_;(first|rw[<- cx6.out] at wq|(simp only[Int.reduceToNat] at wq;rw[<- cx6.out] at wq));replace cl:=A_ (Kd.N_elder' (uN_ cl) (Kd.R_base wq) hb);have pp:=A_ (Kd.R_lower (Kd.R_newM (M:=fun k_=>(w.heap.size<=k_)) wq (Gz (i1)) (fun k_ h_=>h_)) (Gz (i1)));replace ef:=bb_ ef hb;replace HB:=hs_ (i1) hb;clear hb wq;obtain⟨aq,ap,bq3⟩:=Kd.R_slice pp.out;subst bq3)|(go_at_call 113;(refine(Fb.calls k1 _ _ ab _ _ aa _ _ ab1 ar2 _ (uC_ dp) ec.out (uC_ df) ee.out (cR_ pp) (lR_ pp) A9.out).mono ?_);rintro e ov ⟨hg3,rfl,ae,hb⟩;have bj0:=A_ (Kd.N_lower (Kd.N_mono (ok':=fun k_=>(w.heap.size<=k_)/\some k_≠(u3:Value).ownBlock/\some k_≠(.slice aq ab1.length ap:Value).ownBlock/\k_≠dh) ae (fun k_ hk_=>⟨(Nat.le_trans (Gz (i1)) hk_),(Kd.fresh' (Kd.N_lt (uN_ cl)) k_ hk_),(Kd.fresh' (Kd.R_lt (uR_ pp)) k_ hk_),(Kd.freshB (g:=dh) (o:=.cells #[.slice ah ab.length af, .slice ao aa.length ai] 25 (0,0)) (uB_ ef) k_ hk_)⟩)) (Gz (i1)));replace cl:=A_ (Kd.N_elder' (uN_ cl) (Kd.N_base ae) hb);replace pp:=rb_ pp hb;replace ef:=bb_ ef hb;replace HB:=hs_ (i1) hb;obtain⟨bc,ba,yd⟩:=Kd.N_slice bj0.out;subst yd)|((with_reducible refine gate_builtin (b:=.append) (xs:=#[.tmp 20, .tmp 24]) rfl ?_);at_builtin;refine Kd.N_append_rows (Kd.slice 3 (Kd.int .i64)) (w0:=w) w.heap.size rfl (.tmp 20) (.tmp 24) 23 22 (.slice none 0 0) 24 rfl Try.underlying23 info22 rfl (by decide) (by omega) u3 fg ar2 _ _ _ (fun k_=>(w.heap.size<=k_)/\some k_≠(.slice aq ab1.length ap:Value).ownBlock/\k_≠dh) (fun k_=>((fun k_=>(w.heap.size<=k_)/\some k_≠(.slice aq ab1.length ap:Value).ownBlock/\k_≠dh)) k_/\some k_≠(u3:Value).ownBlock) rfl rfl ?aO ?aR (fun _ hk=>hk) ?aF ?aB ?aS ?aL ?_;(case aR=>exact(g187_));(case aB=>exact(i1));(case aF=>exact(fun k_ hk=>⟨(Nat.le_trans (Gz (i1)) hk),Kd.fresh' (Kd.R_lt (uR_ pp)) k_ hk,Kd.freshB (g:=dh) (o:=.cells #[.slice ah ab.length af, .slice ao aa.length ai] 25 (0,0)) (uB_ ef) k_ hk⟩));(case aO=>exact(g188_));(case aS=>exact(Gz (i1)));(case aL=>have:=dp9.out;omega);intro hg4 rf ho hb hg hat;rw[<- fq4.out] at ho;replace ef:=(bg_ ef hg (Kd.N_ne cl.out ef.out (by decide)));replace pp:=A_ (Kd.R_over' (uR_ pp) (Kd.N_typed (uN_ cl)) (by decide) hg);replace bj0:=A_ (Kd.N_afterv (ok:=(fun k_=>(w.heap.size<=k_)/\some k_≠(.slice aq ab1.length ap:Value).ownBlock/\k_≠dh)) (g189_) hg hat);replace HB:=A_ (hb);have fq5:=A_ (ho);clear cl;clear ho hb hg hat));try(go_quiet (first|(go_at_call 42;(refine(Fh.calls k1 _ _ ab _ _ aa true _ (uC_ dp) ec.out (uC_ df) ee.out A7.out).mono ?_);rintro e w12 ⟨rfl,hb⟩;replace cl:=nb_ cl hb;replace ef:=bb_ ef hb;replace HB:=hs_ (i1) hb;obtain⟨zy,zz,z8,z9⟩:=blk2_ ef)|(go_at_call 113;(refine(Fb.calls k1 _ _ ab _ _ aa _ _ ab1 ar2 _ (uC_ dp) ec.out (uC_ df) ee.out (cR_ pp) (lR_ pp) A9.out).mono ?_);rintro e ov ⟨hg3,rfl,ae,hb⟩;have bj0:=A_ (Kd.N_lower (Kd.N_mono (ok':=fun k_=>(w.heap.size<=k_)/\some k_≠(u3:Value).ownBlock/\some k_≠(.slice aq ab1.length ap:Value).ownBlock/\k_≠dh) ae (fun k_ hk_=>⟨(Nat.le_trans (Gz (i1)) hk_),(Kd.fresh' (Kd.N_lt (uN_ cl)) k_ hk_),(Kd.fresh' (Kd.R_lt (uR_ pp)) k_ hk_),(Kd.freshB (g:=dh) (o:=.cells #[.slice ah ab.length af, .slice ao aa.length ai] 25 (0,0)) (uB_ ef) k_ hk_)⟩)) (Gz (i1)));replace cl:=A_ (Kd.N_elder' (uN_ cl) (Kd.N_base ae) hb);replace pp:=rb_ pp hb;replace ef:=bb_ ef hb;replace HB:=hs_ (i1) hb;obtain⟨bc,ba,yd⟩:=Kd.N_slice bj0.out;subst yd))))
  go_roundg k1
  case measure=>have:=HK1.out;omega
  case rel=>exact⟨(hf9),(wrap64 (ck + 1)),(g3_),H',⟨g17_⟩,⟨by(with_reducible repeat(first|apply Kd.N_alloc|apply Kd.N_drewN|apply Kd.N_drew));exact Kd.N_mono fq5.out (fun _ hk=>⟨hk.1,hk.2.2⟩)⟩,⟨uB_ ef⟩,⟨i1⟩⟩
 clear HC2
 obtain⟨kq,fg,HA,HJ1,cl,ef,HB⟩:=hcut
 cases kq with
 | zero=>exact absurd HA.out (by simp[Fg.j1])
 | succ kj1=>?_
 have H:=HA.out
 clear HA
 simp only[Fg.j1] at H
 have H':=A_ H
 clear H
 go_wp2
 repeat(go_quiet (fail);try go_wp2)
 go_loopg [5] kj1 (fun kq v5 w'=>∃(ez:List (List Int)) (dq:Int),v5 = .int .i64 dq/\Gx (Fg.l1 kq ez dq=some r)/\Gx (kq<=kj1)/\Gx (Kd.N (Kd.slice 3 (Kd.int .i64)) 22 w' w.heap.size (fun k_=>(w.heap.size<=k_)/\k_≠dh) u3 ez)/\Gx (hc_ w' dh #[(.slice ah ab.length af),(.slice ao aa.length ai)] 25)/\Gx (Below w.heap.size w w'))
 case atStart=>exact⟨(fg),(1),(g3_),H',⟨Nat.le_refl _⟩,⟨uN_ cl⟩,⟨uB_ ef⟩,⟨i1⟩⟩
 clear H'
 obtain⟨ez,dq,rfl,HA,HK2,cl,ef,HB⟩:=hrel
 cases gk with
 | zero=>exact absurd HA.out (by simp[Fg.l1])
 | succ k2=>?_
 have H:=HA.out
 clear HA
 simp only[Fg.l1] at H
 by_cases ow:dq < (ez.length:Int)
 case neg=>
  rw[if_neg ow] at H
  have bn7:=decide_eq_false ow
  clear ow
  obtain rfl:=Option.some.inj H
  obtain⟨lp,k8,ag9⟩:=Kd.N_slice cl.out
  subst ag9
  go_wp2
  repeat(go_quiet (fail);try go_wp2)
  go_ret
  exact⟨_,g4_,by(with_reducible repeat(first|apply Kd.N_alloc|apply Kd.N_drewN|apply Kd.N_drew));exact Kd.N_mono cl.out (fun _ hk=>hk.1),i1⟩
 rw[if_pos ow] at H
 have bn7:=decide_eq_true ow
 clear ow
 have H':=A_ H
 clear H
 obtain⟨aw,ag,bi6⟩:=Kd.N_slice cl.out
 subst bi6
 go_wp2
 repeat(go_quiet (fail);try go_wp2)
 go_loopg [6] k2 (fun kq v6 w'=>∃(bx:List (List Int)) (en:Int),v6 = .int .i64 en/\Gx (Fg.l2 kq bx dq en=some r)/\Gx (kq<=k2)/\Gx (Kd.N (Kd.slice 3 (Kd.int .i64)) 22 w' w.heap.size (fun k_=>(w.heap.size<=k_)/\k_≠dh) (.slice aw ez.length ag) bx)/\Gx (hc_ w' dh #[(.slice ah ab.length af),(.slice ao aa.length ai)] 25)/\Gx (Below w.heap.size w w'))
 case atStart=>exact⟨(ez),(dq),(g3_),H',⟨Nat.le_refl _⟩,⟨uN_ cl⟩,⟨uB_ ef⟩,⟨i1⟩⟩
 clear H'
 obtain⟨bx,en,rfl,HA,HK3,cl,ef,HB⟩:=hrel
 have cb0:=(Kd.N_reads' cl.out).1
 rw[cb0] at cl
 (try simp only[cb0])
 (try simp only[cb0] at ef)
 cases gk with
 | zero=>exact absurd HA.out (by simp[Fg.l2])
 | succ k3=>?_
 have H:=HA.out
 clear HA
 simp only[Fg.l2] at H
 by_cases mw:en > 0
 case neg=>
  rw[if_neg mw] at H
  have bh8:=decide_eq_false mw
  clear mw
  have H':=A_ H
  clear H
  go_wp2
  repeat(go_quiet (fail);try go_wp2)
  (try simp only[<- cb0])
  go_roundg k3
  case measure=>have:=HJ1.out;have:=HK2.out;have:=HK3.out;omega
  case rel=>exact⟨(bx),(wrap64 (dq + 1)),(g3_),H',⟨g192_⟩,⟨g193_⟩,⟨g194_⟩,⟨i1⟩⟩
 rw[if_pos mw] at H
 have bh8:=decide_eq_true mw
 clear mw
 obtain⟨ch7,H⟩:=pd_ H
 obtain⟨bx6,H⟩:=pd_ H
 obtain⟨ji28,hji28⟩:∃j_:Int,(wrap64 (en - 1))=j_:=⟨_,rfl⟩
 first|rw[hji28] at H|simp only[hji28] at H
 have hji28w:(IntKind.i64.wrap (en - 1))=ji28:=(i64_w _).trans hji28
 obtain⟨fq6,H⟩:=pd_ H
 obtain⟨cw7,H⟩:=pd_ H
 obtain⟨dp8,A31,H⟩:=bind_ H
 by_cases yb:dp8=true
 ·subst yb
  replace H:=ifp_ H
  obtain⟨bd5,hyq⟩:∃y_:List (List Int),y_=(bx.set (en:Int).toNat (Jb bx (ji28))):=⟨_,rfl⟩
  replace H:(Fg.l2 k3 (bd5.set ((ji28):Int).toNat (Jb bx en)) dq ji28)=some r:=qh_
  have fq7:=A_ hyq
  clear hyq
  obtain⟨dq0,hyq⟩:∃y_:List (List Int),y_=(bd5.set ((ji28):Int).toNat (Jb bx en)):=⟨_,rfl⟩
  replace H:(Fg.l2 k3 dq0 dq ji28)=some r:=qh_
  have fq8:=A_ hyq
  clear hyq
  have H':=A_ H
  clear H
  have bq4:0<=(en:Int):=od_
  have bq5:en < (bx.length:Int):=od_
  obtain⟨bq6,bj1,bj2,fq9,bq7,dq1,dq2⟩:=at_L1 (Kd.N_reads' cl.out).2.2 en bq4 bq5
  cases fq9
  obtain⟨ce262,hce262,hMe262,hcc262⟩:=Kd.N_get cl.out [] en bq4 (by first|exact bq5|exact od_|(have e_:=(Kd.N_reads' cl.out).1;omega))
  obtain⟨ua262_0,uc262_0,rfl,ul262_0,ge262_0⟩:=Kd.FK_slice_open hMe262
  have hv262_0:=hcc262 0 _ rfl
  rw[Nat.add_zero,show((Kd.slice 3 (Kd.int .i64))).sz=1 from rfl,Nat.mul_one] at hv262_0
  replace hv262_0:=Option.some.inj (hv262_0.symm.trans bq7)
  injection hv262_0 with hva_ hvn_ hvc_
  rw[hva_] at ge262_0
  rw[hvc_] at ul262_0
  have sa:=A_ (show Kd.V (Kd.int .i64) 3 _ w.heap.size _ _ (Jb bx en) from Kd.V_mk ul262_0 ge262_0)
  clear hva_ hvn_ hvc_ ge262_0 ul262_0
  clear hcc262 hce262
  have fr0:=A_ dq2
  have cl5:=A_ dq1
  clear dq2 dq1
  replace bq4:=eq_true bq4
  replace bq5:=eq_true bq5
  have bq8:0<=((ji28):Int):=od_
  have bq9:(ji28) < (bx.length:Int):=od_
  obtain⟨fr1,bj3,bj4,fr2,br0,dq3,dq4⟩:=at_L1 (Kd.N_reads' cl.out).2.2 (ji28) bq8 bq9
  obtain rfl:bq6=fr1:=(by injection fr2)
  obtain⟨ce263,hce263,hMe263,hcc263⟩:=Kd.N_get cl.out [] (ji28) bq8 (by first|exact bq9|exact od_|(have e_:=(Kd.N_reads' cl.out).1;omega))
  obtain⟨ua263_0,uc263_0,rfl,ul263_0,ge263_0⟩:=Kd.FK_slice_open hMe263
  have hv263_0:=hcc263 0 _ rfl
  rw[Nat.add_zero,show((Kd.slice 3 (Kd.int .i64))).sz=1 from rfl,Nat.mul_one] at hv263_0
  replace hv263_0:=Option.some.inj (hv263_0.symm.trans br0)
  injection hv263_0 with hva_ hvn_ hvc_
  rw[hva_] at ge263_0
  rw[hvc_] at ul263_0
  have sb:=A_ (show Kd.V (Kd.int .i64) 3 _ w.heap.size _ _ (Jb bx (ji28)) from Kd.V_mk ul263_0 ge263_0)
  clear hva_ hvn_ hvc_ ge263_0 ul263_0
  clear hcc263 hce263
  have fr3:=A_ dq4
  have cl6:=A_ dq3
  clear dq4 dq3
  replace bq8:=eq_true bq8
  replace bq9:=eq_true bq9
  iterate 2 (go_wp2_with (first|(go_at_call 114;(refine(Ga.calls k3 _ _ (Jb bx en) _ _ (Jb bx (ji28)) true _ (cu_ (g95_)) cl5.out (cu_ (g96_)) cl6.out A31.out).mono ?_);rintro e w' ⟨rfl,⟨nd,rfl⟩⟩;(try first|exact⟨rfl,_,World.drewN_drewN _ _ _⟩|exact⟨rfl,_,Eq.trans (World.drewN_drewN _ _ _) (congrArg (World.drewN _) (Nat.add_assoc _ _ _))⟩);have al1:0<=(en:Int):=od_;have av9:en < (bx.length:Int):=od_;obtain⟨dq5,hg5,hg6,dq6,bd6,cb1,cb2⟩:=at_L1 (Kd.N_reads' cl.out).2.2 en al1 av9;obtain rfl:bq6=dq5:=(by injection dq6);obtain⟨ce265,hce265,hMe265,hcc265⟩:=Kd.N_get cl.out [] en al1 (g190_);obtain⟨ua265_0,uc265_0,rfl,ul265_0,ge265_0⟩:=Kd.FK_slice_open hMe265;have hv265_0:=hcc265 0 _ rfl;rw[Nat.add_zero,show((Kd.slice 3 (Kd.int .i64))).sz=1 from rfl,Nat.mul_one] at hv265_0;replace hv265_0:=Option.some.inj (hv265_0.symm.trans bd6);injection hv265_0 with hva_ hvn_ hvc_;rw[hva_] at ge265_0;rw[hvc_] at ul265_0;have mb:=A_ (show Kd.V (Kd.int .i64) 3 _ w.heap.size _ _ (Jb bx en) from Kd.V_mk ul265_0 ge265_0);clear hva_ hvn_ hvc_ ge265_0 ul265_0;clear hcc265 hce265;have hg7:=A_ cb2;have hg8:=A_ cb1;clear cb2 cb1;replace al1:=eq_true al1;replace av9:=eq_true av9;have ea_:=Option.some.inj (bq7.symm.trans bd6);injection ea_ with ea_ en_ ec_;subst ea_;subst ec_;clear en_;have al2:0<=((ji28):Int):=od_;have aw0:(ji28) < (bx.length:Int):=od_;obtain⟨dq7,hg9,hh0,dq8,bd7,cb3,cb4⟩:=at_L1 (Kd.N_reads' cl.out).2.2 (ji28) al2 aw0;obtain rfl:bq6=dq7:=(by injection dq8);obtain⟨ce266,hce266,hMe266,hcc266⟩:=Kd.N_get cl.out [] (ji28) al2 (g191_);obtain⟨ua266_0,uc266_0,rfl,ul266_0,ge266_0⟩:=Kd.FK_slice_open hMe266;have hv266_0:=hcc266 0 _ rfl;rw[Nat.add_zero,show((Kd.slice 3 (Kd.int .i64))).sz=1 from rfl,Nat.mul_one] at hv266_0;replace hv266_0:=Option.some.inj (hv266_0.symm.trans bd7);injection hv266_0 with hva_ hvn_ hvc_;rw[hva_] at ge266_0;rw[hvc_] at ul266_0;have mc:=A_ (show Kd.V (Kd.int .i64) 3 _ w.heap.size _ _ (Jb bx (ji28)) from Kd.V_mk ul266_0 ge266_0);clear hva_ hvn_ hvc_ ge266_0 ul266_0;clear hcc266 hce266;have hh1:=A_ cb4;have hh2:=A_ cb3;clear cb4 cb3;replace al2:=eq_true al2;replace aw0:=eq_true aw0;have ea_:=Option.some.inj (br0.symm.trans bd7);injection ea_ with ea_ en_ ec_;subst ea_;subst ec_;clear en_;have p33:0<=(en:Int):=od_;have q33:(en:Int) < ((bx.length:Int):Int):=od_;obtain⟨d2,td,bj5,cb5,gl33,cl33,HG33⟩:=Kd.N_form cl.out (by omega);(first|cases bj5|(injection bj5 with ea_ en_ ec_;(first|subst ea_|(injection ea_ with ea_;subst ea_));subst ec_;clear en_));have GB33:=A_ cb5;have GG33:=A_ HG33;clear cb5 gl33 HG33;(first|simp only[add_plain] at bq7|skip);(first|simp only[add_plain] at br0|skip);(first|simp only[add_plain] at bd6|skip);(first|simp only[add_plain] at bd7|skip);obtain⟨ce33,hcl33,hM33,hcc33,hfr33⟩:=Kd.N_elem cl.out [] (en:Int) p33 q33;obtain⟨ua33_0,uc33_0,rfl,ul33_0,ge33_0⟩:=Kd.FK_slice_open hM33;have dq9:=hcc33 0 _ rfl;have hf33_0:=hfr33 0;(try simp only[show((Kd.slice 3 (Kd.int .i64))).sz=1 from rfl,Nat.mul_one,Nat.add_zero] at dq9);(try simp only[show((Kd.slice 3 (Kd.int .i64))).sz=1 from rfl,Nat.mul_one,Nat.add_zero] at hf33_0);clear hcl33 hcc33 hfr33 hM33;replace p33:=eq_true p33;replace q33:=eq_true q33;have HX35:=A_ (show Kd.N (Kd.slice 3 (Kd.int .i64)) 22 wr w.heap.size (fun k_=>(w.heap.size<=k_)/\k_≠dh) (.slice (some ⟨d2,0,none⟩) bx.length ag) bx from(uN_ cl));obtain⟨ce35,hcl35,hM35,hcc35,hfr35⟩:=Kd.N_elem HX35.out [] (en:Int) (od_) (by have h_:(en:Int) < ((bx.length:Int):Int):=od_;first|exact h_|(have e_:=(Kd.N_reads' cl.out).1;omega)|simpa using h_);obtain⟨ua35_0,uc35_0,rfl,ul35_0,ge35_0⟩:=Kd.FK_slice_open hM35;have HP35:=Kd.N_seg HX35.out (en:Int) (od_) (by have h_:(en:Int) < ((bx.length:Int):Int):=od_;first|exact h_|(have e_:=(Kd.N_reads' cl.out).1;omega)|simpa using h_) (seg:=[.slice bj3 (Jb bx (ji28)).length bj4]) (j:=0) hcl35 hcc35 (show 1<=1 from by decide) (x':=Jb bx (ji28)) (Kd.FK_slice_mk (Kd.V_reads' (Kd.V_mono (ok':=(fun k_=>((fun k_=>(w.heap.size<=k_)/\k_≠dh)) k_/\k_≠d2)) (mc.out) (fun k_ hk=>⟨⟨hk.1.1,hk.1.2⟩,fun e_=>(hk.2) (g6_)⟩))).2.1 (Kd.V_F (Kd.V_mono (ok':=(fun k_=>((fun k_=>(w.heap.size<=k_)/\k_≠dh)) k_/\k_≠d2)) (mc.out) (fun k_ hk=>⟨⟨hk.1.1,hk.1.2⟩,fun e_=>(hk.2) (g6_)⟩)))) (fun _ hk=>hk);have aq6:=hcc35 0 _ rfl;(try simp only[show((Kd.slice 3 (Kd.int .i64))).sz=1 from rfl,Nat.mul_one,Nat.add_zero] at aq6);have hf35_0:=hfr35 0;(try simp only[show((Kd.slice 3 (Kd.int .i64))).sz=1 from rfl,Nat.mul_one,Nat.add_zero] at hf35_0);clear hcl35 hcc35 hfr35 hM35;(try simp only[show((Kd.slice 3 (Kd.int .i64))).sz=1 from rfl,Nat.mul_one,Nat.add_zero] at HP35);(try simp only[show((Kd.slice 3 (Kd.int .i64))).sz=1 from rfl,Nat.mul_one,Nat.add_zero] at HP35))|((with_reducible refine gate_store (t:=22) (p:=60) rfl ?_);(try(rw[drewN_self wr];generalize hq_:World.drewN wr _=wr;replace cl:=A_ (Kd.N_at hq_ cl.out);replace sa:=A_ (Fg.V_atq hq_ sa.out);replace sb:=A_ (Fg.V_atq hq_ sb.out);replace mb:=A_ (Fg.V_atq hq_ mb.out);replace mc:=A_ (Fg.V_atq hq_ mc.out);replace ef:=A_ (blk_at hq_ ef.out);replace HB:=A_ (below_at hq_ HB.out);clear hq_;(try(have HX35:=A_ (show Kd.N (Kd.slice 3 (Kd.int .i64)) 22 wr w.heap.size (fun k_=>(w.heap.size<=k_)/\k_≠dh) (.slice (some ⟨d2,0,none⟩) bx.length ag) bx from(uN_ cl))));(try(obtain⟨ce35,hcl35,hM35,hcc35,hfr35⟩:=Kd.N_elem HX35.out [] (en:Int) (od_) (by have h_:(en:Int) < ((bx.length:Int):Int):=od_;first|exact h_|(have e_:=(Kd.N_reads' cl.out).1;omega)|simpa using h_)));(try(obtain⟨ua35_0,uc35_0,rfl,ul35_0,ge35_0⟩:=Kd.FK_slice_open hM35));(try(have HP35:=Kd.N_seg HX35.out (en:Int) (od_) (by have h_:(en:Int) < ((bx.length:Int):Int):=od_;first|exact h_|(have e_:=(Kd.N_reads' cl.out).1;omega)|simpa using h_) (seg:=[.slice bj3 (Jb bx (ji28)).length bj4]) (j:=0) hcl35 hcc35 (show 1<=1 from by decide) (x':=Jb bx (ji28)) (Kd.FK_slice_mk (Kd.V_reads' (Kd.V_mono (ok':=(fun k_=>((fun k_=>(w.heap.size<=k_)/\k_≠dh)) k_/\k_≠d2)) (mc.out) (fun k_ hk=>⟨⟨hk.1.1,hk.1.2⟩,fun e_=>(hk.2) (g6_)⟩))).2.1 (Kd.V_F (Kd.V_mono (ok':=(fun k_=>((fun k_=>(w.heap.size<=k_)/\k_≠dh)) k_/\k_≠d2)) (mc.out) (fun k_ hk=>⟨⟨hk.1.1,hk.1.2⟩,fun e_=>(hk.2) (g6_)⟩)))) (fun _ hk=>hk)));(try(have aq6:=hcc35 0 _ rfl));(try(try simp only[show((Kd.slice 3 (Kd.int .i64))).sz=1 from rfl,Nat.mul_one,Nat.add_zero] at aq6));(try(have hf35_0:=hfr35 0));(try(try simp only[show((Kd.slice 3 (Kd.int .i64))).sz=1 from rfl,Nat.mul_one,Nat.add_zero] at hf35_0));(try(clear hcl35 hcc35 hfr35 hM35));(try(try simp only[show((Kd.slice 3 (Kd.int .i64))).sz=1 from rfl,Nat.mul_one,Nat.add_zero] at HP35));(try(try simp only[show((Kd.slice 3 (Kd.int .i64))).sz=1 from rfl,Nat.mul_one,Nat.add_zero] at HP35))));refine store_event (t:=22) (p:=60) (v:=?vo_w36) (w1:=(wr.setCell ⟨d2,(en:Int).toNat,none⟩ (.slice bj3 (Jb bx (ji28)).length bj4))) ?hg ?ho ?hn ?hr ?_;(case ho=>rfl);(case hg=>rfl);(case hn=>rfl);(case hr=>first|(go_simp;done)|(go_simp;rfl));intro k7 hw;have hg:wr.grownBy k7 (some d2):=(by rw[hw];exact HP35.2);have hp_:Kd.N (Kd.slice 3 (Kd.int .i64)) 22 k7 w.heap.size (fun k_=>(w.heap.size<=k_)/\k_≠dh) (.slice (some ⟨d2,0,none⟩) bx.length ag) bd5:=(by rw[hw,fq7.out];exact HP35.1);clear HP35;replace ef:=(bg_ ef hg (Kd.N_ne cl.out ef.out (by decide)));replace cl:=A_ (hp_);replace sa:=A_ (Kd.V_afterv (v:=(.slice (some ⟨d2,0,none⟩) bx.length ag)) (v1:=(.slice (some ⟨d2,0,none⟩) bx.length ag)) (ok:=(fun k_=>(w.heap.size<=k_)/\k_≠dh)) (uV_ sa) hg (.inl rfl));replace sb:=A_ (Kd.V_afterv (v:=(.slice (some ⟨d2,0,none⟩) bx.length ag)) (v1:=(.slice (some ⟨d2,0,none⟩) bx.length ag)) (ok:=(fun k_=>(w.heap.size<=k_)/\k_≠dh)) (uV_ sb) hg (.inl rfl));replace mb:=A_ (Kd.V_afterv (v:=(.slice (some ⟨d2,0,none⟩) bx.length ag)) (v1:=(.slice (some ⟨d2,0,none⟩) bx.length ag)) (ok:=(fun k_=>(w.heap.size<=k_)/\k_≠dh)) (uV_ mb) hg (.inl rfl));replace mc:=A_ (Kd.V_afterv (v:=(.slice (some ⟨d2,0,none⟩) bx.length ag)) (v1:=(.slice (some ⟨d2,0,none⟩) bx.length ag)) (ok:=(fun k_=>(w.heap.size<=k_)/\k_≠dh)) (uV_ mc) hg (.inl rfl));replace HB:=A_ ((g97_:Below w.heap.size w k7));clear hg hw hp_;have p34:0<=((ji28):Int):=od_;have q34:((ji28):Int) < ((bx.length:Int):Int):=od_;obtain⟨ce34,hcl34,hM34,hcc34,hfr34⟩:=Kd.N_elem cl.out [] ((ji28):Int) p34 q34;obtain⟨ua34_0,uc34_0,rfl,ul34_0,ge34_0⟩:=Kd.FK_slice_open hM34;have dr0:=hcc34 0 _ rfl;have hf34_0:=hfr34 0;(try simp only[show((Kd.slice 3 (Kd.int .i64))).sz=1 from rfl,Nat.mul_one,Nat.add_zero] at dr0);(try simp only[show((Kd.slice 3 (Kd.int .i64))).sz=1 from rfl,Nat.mul_one,Nat.add_zero] at hf34_0);clear hcl34 hcc34 hfr34 hM34;replace p34:=eq_true p34;replace q34:=eq_true q34;have HX37:=A_ (show Kd.N (Kd.slice 3 (Kd.int .i64)) 22 k7 w.heap.size (fun k_=>(w.heap.size<=k_)/\k_≠dh) (.slice (some ⟨d2,0,none⟩) bx.length ag) bd5 from(uN_ cl));obtain⟨ce37,hcl37,hM37,hcc37,hfr37⟩:=Kd.N_elem HX37.out [] ((ji28):Int) (od_) (by have h_:((ji28):Int) < ((bx.length:Int):Int):=od_;first|exact h_|(have e_:=(Kd.N_reads' cl.out).1;omega)|simpa using h_);obtain⟨ua37_0,uc37_0,rfl,ul37_0,ge37_0⟩:=Kd.FK_slice_open hM37;have HP37:=Kd.N_seg HX37.out ((ji28):Int) (od_) (by have h_:((ji28):Int) < ((bx.length:Int):Int):=od_;first|exact h_|(have e_:=(Kd.N_reads' cl.out).1;omega)|simpa using h_) (seg:=[.slice bj1 (Jb bx en).length bj2]) (j:=0) hcl37 hcc37 (show 1<=1 from by decide) (x':=Jb bx en) (Kd.FK_slice_mk (Kd.V_reads' (Kd.V_mono (ok':=(fun k_=>((fun k_=>(w.heap.size<=k_)/\k_≠dh)) k_/\k_≠d2)) (mb.out) (fun k_ hk=>⟨⟨hk.1.1,hk.1.2⟩,fun e_=>(hk.2) (g6_)⟩))).2.1 (Kd.V_F (Kd.V_mono (ok':=(fun k_=>((fun k_=>(w.heap.size<=k_)/\k_≠dh)) k_/\k_≠d2)) (mb.out) (fun k_ hk=>⟨⟨hk.1.1,hk.1.2⟩,fun e_=>(hk.2) (g6_)⟩)))) (fun _ hk=>hk);have bd8:=hcc37 0 _ rfl;(try simp only[show((Kd.slice 3 (Kd.int .i64))).sz=1 from rfl,Nat.mul_one,Nat.add_zero] at bd8);have hf37_0:=hfr37 0;(try simp only[show((Kd.slice 3 (Kd.int .i64))).sz=1 from rfl,Nat.mul_one,Nat.add_zero] at hf37_0);clear hcl37 hcc37 hfr37 hM37;(try simp only[show((Kd.slice 3 (Kd.int .i64))).sz=1 from rfl,Nat.mul_one,Nat.add_zero] at HP37);(try simp only[show((Kd.slice 3 (Kd.int .i64))).sz=1 from rfl,Nat.mul_one,Nat.add_zero] at HP37))|((with_reducible refine gate_store (t:=22) (p:=65) rfl ?_);(try(rw[drewN_self k7];generalize hq_:World.drewN k7 _=k7;replace cl:=A_ (Kd.N_at hq_ cl.out);replace sa:=A_ (Fg.V_atq hq_ sa.out);replace sb:=A_ (Fg.V_atq hq_ sb.out);replace mb:=A_ (Fg.V_atq hq_ mb.out);replace mc:=A_ (Fg.V_atq hq_ mc.out);replace ef:=A_ (blk_at hq_ ef.out);replace HB:=A_ (below_at hq_ HB.out);clear hq_;(try(have HX37:=A_ (show Kd.N (Kd.slice 3 (Kd.int .i64)) 22 k7 w.heap.size (fun k_=>(w.heap.size<=k_)/\k_≠dh) (.slice (some ⟨d2,0,none⟩) bx.length ag) bd5 from(uN_ cl))));(try(obtain⟨ce37,hcl37,hM37,hcc37,hfr37⟩:=Kd.N_elem HX37.out [] ((ji28):Int) (od_) (by have h_:((ji28):Int) < ((bx.length:Int):Int):=od_;first|exact h_|(have e_:=(Kd.N_reads' cl.out).1;omega)|simpa using h_)));(try(obtain⟨ua37_0,uc37_0,rfl,ul37_0,ge37_0⟩:=Kd.FK_slice_open hM37));(try(have HP37:=Kd.N_seg HX37.out ((ji28):Int) (od_) (by have h_:((ji28):Int) < ((bx.length:Int):Int):=od_;first|exact h_|(have e_:=(Kd.N_reads' cl.out).1;omega)|simpa using h_) (seg:=[.slice bj1 (Jb bx en).length bj2]) (j:=0) hcl37 hcc37 (show 1<=1 from by decide) (x':=Jb bx en) (Kd.FK_slice_mk (Kd.V_reads' (Kd.V_mono (ok':=(fun k_=>((fun k_=>(w.heap.size<=k_)/\k_≠dh)) k_/\k_≠d2)) (mb.out) (fun k_ hk=>⟨⟨hk.1.1,hk.1.2⟩,fun e_=>(hk.2) (g6_)⟩))).2.1 (Kd.V_F (Kd.V_mono (ok':=(fun k_=>((fun k_=>(w.heap.size<=k_)/\k_≠dh)) k_/\k_≠d2)) (mb.out) (fun k_ hk=>⟨⟨hk.1.1,hk.1.2⟩,fun e_=>(hk.2) (g6_)⟩)))) (fun _ hk=>hk)));(try(have bd8:=hcc37 0 _ rfl));(try(try simp only[show((Kd.slice 3 (Kd.int .i64))).sz=1 from rfl,Nat.mul_one,Nat.add_zero] at bd8));(try(have hf37_0:=hfr37 0));(try(try simp only[show((Kd.slice 3 (Kd.int .i64))).sz=1 from rfl,Nat.mul_one,Nat.add_zero] at hf37_0));(try(clear hcl37 hcc37 hfr37 hM37));(try(try simp only[show((Kd.slice 3 (Kd.int .i64))).sz=1 from rfl,Nat.mul_one,Nat.add_zero] at HP37));(try(try simp only[show((Kd.slice 3 (Kd.int .i64))).sz=1 from rfl,Nat.mul_one,Nat.add_zero] at HP37))));refine store_event (t:=22) (p:=65) (v:=?vo_w38) (w1:=(k7.setCell ⟨d2,((ji28):Int).toNat,none⟩ (.slice bj1 (Jb bx en).length bj2))) ?hg ?ho ?hn ?hr ?_;(case ho=>rfl);(case hg=>rfl);(case hn=>rfl);(case hr=>first|(go_simp;done)|(go_simp;rfl));intro lx hw;have hg:k7.grownBy lx (some d2):=(by rw[hw];exact HP37.2);have hp_:Kd.N (Kd.slice 3 (Kd.int .i64)) 22 lx w.heap.size (fun k_=>(w.heap.size<=k_)/\k_≠dh) (.slice (some ⟨d2,0,none⟩) bx.length ag) dq0:=(by rw[hw,fq8.out];exact HP37.1);clear HP37;replace ef:=(bg_ ef hg (Kd.N_ne cl.out ef.out (by decide)));replace cl:=A_ (hp_);replace sa:=A_ (Kd.V_afterv (v:=(.slice (some ⟨d2,0,none⟩) bx.length ag)) (v1:=(.slice (some ⟨d2,0,none⟩) bx.length ag)) (ok:=(fun k_=>(w.heap.size<=k_)/\k_≠dh)) (uV_ sa) hg (.inl rfl));replace sb:=A_ (Kd.V_afterv (v:=(.slice (some ⟨d2,0,none⟩) bx.length ag)) (v1:=(.slice (some ⟨d2,0,none⟩) bx.length ag)) (ok:=(fun k_=>(w.heap.size<=k_)/\k_≠dh)) (uV_ sb) hg (.inl rfl));replace mb:=A_ (Kd.V_afterv (v:=(.slice (some ⟨d2,0,none⟩) bx.length ag)) (v1:=(.slice (some ⟨d2,0,none⟩) bx.length ag)) (ok:=(fun k_=>(w.heap.size<=k_)/\k_≠dh)) (uV_ mb) hg (.inl rfl));replace mc:=A_ (Kd.V_afterv (v:=(.slice (some ⟨d2,0,none⟩) bx.length ag)) (v1:=(.slice (some ⟨d2,0,none⟩) bx.length ag)) (ok:=(fun k_=>(w.heap.size<=k_)/\k_≠dh)) (uV_ mc) hg (.inl rfl));replace HB:=A_ ((g97_:Below w.heap.size w lx));clear hg hw hp_));try(go_quiet (first|(go_at_call 114;(refine(Ga.calls k3 _ _ (Jb bx en) _ _ (Jb bx (ji28)) true _ (cu_ (g95_)) cl5.out (cu_ (g96_)) cl6.out A31.out).mono ?_);rintro e w' ⟨rfl,⟨nd,rfl⟩⟩;(try first|exact⟨rfl,_,World.drewN_drewN _ _ _⟩|exact⟨rfl,_,Eq.trans (World.drewN_drewN _ _ _) (congrArg (World.drewN _) (Nat.add_assoc _ _ _))⟩);have al1:0<=(en:Int):=od_;have av9:en < (bx.length:Int):=od_;obtain⟨dq5,hg5,hg6,dq6,bd6,cb1,cb2⟩:=at_L1 (Kd.N_reads' cl.out).2.2 en al1 av9;obtain rfl:bq6=dq5:=(by injection dq6);obtain⟨ce265,hce265,hMe265,hcc265⟩:=Kd.N_get cl.out [] en al1 (g190_);obtain⟨ua265_0,uc265_0,rfl,ul265_0,ge265_0⟩:=Kd.FK_slice_open hMe265;have hv265_0:=hcc265 0 _ rfl;rw[Nat.add_zero,show((Kd.slice 3 (Kd.int .i64))).sz=1 from rfl,Nat.mul_one] at hv265_0;replace hv265_0:=Option.some.inj (hv265_0.symm.trans bd6);injection hv265_0 with hva_ hvn_ hvc_;rw[hva_] at ge265_0;rw[hvc_] at ul265_0;have mb:=A_ (show Kd.V (Kd.int .i64) 3 _ w.heap.size _ _ (Jb bx en) from Kd.V_mk ul265_0 ge265_0);clear hva_ hvn_ hvc_ ge265_0 ul265_0;clear hcc265 hce265;have hg7:=A_ cb2;have hg8:=A_ cb1;clear cb2 cb1;replace al1:=eq_true al1;replace av9:=eq_true av9;have ea_:=Option.some.inj (bq7.symm.trans bd6);injection ea_ with ea_ en_ ec_;subst ea_;subst ec_;clear en_;have al2:0<=((ji28):Int):=od_;have aw0:(ji28) < (bx.length:Int):=od_;obtain⟨dq7,hg9,hh0,dq8,bd7,cb3,cb4⟩:=at_L1 (Kd.N_reads' cl.out).2.2 (ji28) al2 aw0;obtain rfl:bq6=dq7:=(by injection dq8);obtain⟨ce266,hce266,hMe266,hcc266⟩:=Kd.N_get cl.out [] (ji28) al2 (g191_);obtain⟨ua266_0,uc266_0,rfl,ul266_0,ge266_0⟩:=Kd.FK_slice_open hMe266;have hv266_0:=hcc266 0 _ rfl;rw[Nat.add_zero,show((Kd.slice 3 (Kd.int .i64))).sz=1 from rfl,Nat.mul_one] at hv266_0;replace hv266_0:=Option.some.inj (hv266_0.symm.trans bd7);injection hv266_0 with hva_ hvn_ hvc_;rw[hva_] at ge266_0;rw[hvc_] at ul266_0;have mc:=A_ (show Kd.V (Kd.int .i64) 3 _ w.heap.size _ _ (Jb bx (ji28)) from Kd.V_mk ul266_0 ge266_0);clear hva_ hvn_ hvc_ ge266_0 ul266_0;clear hcc266 hce266;have hh1:=A_ cb4;have hh2:=A_ cb3;clear cb4 cb3;replace al2:=eq_true al2;replace aw0:=eq_true aw0;have ea_:=Option.some.inj (br0.symm.trans bd7);injection ea_ with ea_ en_ ec_;subst ea_;subst ec_;clear en_;have p33:0<=(en:Int):=od_;have q33:(en:Int) < ((bx.length:Int):Int):=od_;obtain⟨d2,td,bj5,cb5,gl33,cl33,HG33⟩:=Kd.N_form cl.out (by omega);(first|cases bj5|(injection bj5 with ea_ en_ ec_;(first|subst ea_|(injection ea_ with ea_;subst ea_));subst ec_;clear en_));have GB33:=A_ cb5;have GG33:=A_ HG33;clear cb5 gl33 HG33;(first|simp only[add_plain] at bq7|skip);(first|simp only[add_plain] at br0|skip);(first|simp only[add_plain] at bd6|skip);(first|simp only[add_plain] at bd7|skip);obtain⟨ce33,hcl33,hM33,hcc33,hfr33⟩:=Kd.N_elem cl.out [] (en:Int) p33 q33;obtain⟨ua33_0,uc33_0,rfl,ul33_0,ge33_0⟩:=Kd.FK_slice_open hM33;have dq9:=hcc33 0 _ rfl;have hf33_0:=hfr33 0;(try simp only[show((Kd.slice 3 (Kd.int .i64))).sz=1 from rfl,Nat.mul_one,Nat.add_zero] at dq9);(try simp only[show((Kd.slice 3 (Kd.int .i64))).sz=1 from rfl,Nat.mul_one,Nat.add_zero] at hf33_0);clear hcl33 hcc33 hfr33 hM33;replace p33:=eq_true p33;replace q33:=eq_true q33;have HX35:=A_ (show Kd.N (Kd.slice 3 (Kd.int .i64)) 22 wr w.heap.size (fun k_=>(w.heap.size<=k_)/\k_≠dh) (.slice (some ⟨d2,0,none⟩) bx.length ag) bx from(uN_ cl));obtain⟨ce35,hcl35,hM35,hcc35,hfr35⟩:=Kd.N_elem HX35.out [] (en:Int) (od_) (by have h_:(en:Int) < ((bx.length:Int):Int):=od_;first|exact h_|(have e_:=(Kd.N_reads' cl.out).1;omega)|simpa using h_);obtain⟨ua35_0,uc35_0,rfl,ul35_0,ge35_0⟩:=Kd.FK_slice_open hM35;have HP35:=Kd.N_seg HX35.out (en:Int) (od_) (by have h_:(en:Int) < ((bx.length:Int):Int):=od_;first|exact h_|(have e_:=(Kd.N_reads' cl.out).1;omega)|simpa using h_) (seg:=[.slice bj3 (Jb bx (ji28)).length bj4]) (j:=0) hcl35 hcc35 (show 1<=1 from by decide) (x':=Jb bx (ji28)) (Kd.FK_slice_mk (Kd.V_reads' (Kd.V_mono (ok':=(fun k_=>((fun k_=>(w.heap.size<=k_)/\k_≠dh)) k_/\k_≠d2)) (mc.out) (fun k_ hk=>⟨⟨hk.1.1,hk.1.2⟩,fun e_=>(hk.2) (g6_)⟩))).2.1 (Kd.V_F (Kd.V_mono (ok':=(fun k_=>((fun k_=>(w.heap.size<=k_)/\k_≠dh)) k_/\k_≠d2)) (mc.out) (fun k_ hk=>⟨⟨hk.1.1,hk.1.2⟩,fun e_=>(hk.2) (g6_)⟩)))) (fun _ hk=>hk);have aq6:=hcc35 0 _ rfl;(try simp only[show((Kd.slice 3 (Kd.int .i64))).sz=1 from rfl,Nat.mul_one,Nat.add_zero] at aq6);have hf35_0:=hfr35 0;(try simp only[show((Kd.slice 3 (Kd.int .i64))).sz=1 from rfl,Nat.mul_one,Nat.add_zero] at hf35_0);clear hcl35 hcc35 hfr35 hM35;(try simp only[show((Kd.slice 3 (Kd.int .i64))).sz=1 from rfl,Nat.mul_one,Nat.add_zero] at HP35);(try simp only[show((Kd.slice 3 (Kd.int .i64))).sz=1 from rfl,Nat.mul_one,Nat.add_zero] at HP35)))))
  (try simp only[<- cb0])
  go_roundg k3
  case measure=>have:=HJ1.out;have:=HK2.out;have:=HK3.out;omega
  case rel=>exact⟨(dq0),(ji28),(by first|rfl|(simp;done)|(simp only[<- hji28] <;> (first|rfl|simp))|(simp[*];done)),H',⟨g192_⟩,⟨g193_⟩,⟨g194_⟩,⟨i1⟩⟩
 replace yb:=Bool.eq_false_iff.mpr yb
 subst yb
 replace H:=ifn_ H
 have H':=A_ H
 clear H
 have bq4:0<=(en:Int):=od_
 have bq5:en < (bx.length:Int):=od_
 obtain⟨bq6,bj1,bj2,fq9,bq7,dq1,dq2⟩:=at_L1 (Kd.N_reads' cl.out).2.2 en bq4 bq5
 cases fq9
 obtain⟨ce262,hce262,hMe262,hcc262⟩:=Kd.N_get cl.out [] en bq4 (by first|exact bq5|exact od_|(have e_:=(Kd.N_reads' cl.out).1;omega))
 obtain⟨ua262_0,uc262_0,rfl,ul262_0,ge262_0⟩:=Kd.FK_slice_open hMe262
 have hv262_0:=hcc262 0 _ rfl
 rw[Nat.add_zero,show((Kd.slice 3 (Kd.int .i64))).sz=1 from rfl,Nat.mul_one] at hv262_0
 replace hv262_0:=Option.some.inj (hv262_0.symm.trans bq7)
 injection hv262_0 with hva_ hvn_ hvc_
 rw[hva_] at ge262_0
 rw[hvc_] at ul262_0
 have sa:=A_ (show Kd.V (Kd.int .i64) 3 _ w.heap.size _ _ (Jb bx en) from Kd.V_mk ul262_0 ge262_0)
 clear hva_ hvn_ hvc_ ge262_0 ul262_0
 clear hcc262 hce262
 have fr0:=A_ dq2
 have cl5:=A_ dq1
 clear dq2 dq1
 replace bq4:=eq_true bq4
 replace bq5:=eq_true bq5
 have bq8:0<=((ji28):Int):=od_
 have bq9:(ji28) < (bx.length:Int):=od_
 obtain⟨fr1,bj3,bj4,fr2,br0,dq3,dq4⟩:=at_L1 (Kd.N_reads' cl.out).2.2 (ji28) bq8 bq9
 obtain rfl:bq6=fr1:=(by injection fr2)
 obtain⟨ce263,hce263,hMe263,hcc263⟩:=Kd.N_get cl.out [] (ji28) bq8 (by first|exact bq9|exact od_|(have e_:=(Kd.N_reads' cl.out).1;omega))
 obtain⟨ua263_0,uc263_0,rfl,ul263_0,ge263_0⟩:=Kd.FK_slice_open hMe263
 have hv263_0:=hcc263 0 _ rfl
 rw[Nat.add_zero,show((Kd.slice 3 (Kd.int .i64))).sz=1 from rfl,Nat.mul_one] at hv263_0
 replace hv263_0:=Option.some.inj (hv263_0.symm.trans br0)
 injection hv263_0 with hva_ hvn_ hvc_
 rw[hva_] at ge263_0
 rw[hvc_] at ul263_0
 have sb:=A_ (show Kd.V (Kd.int .i64) 3 _ w.heap.size _ _ (Jb bx (ji28)) from Kd.V_mk ul263_0 ge263_0)
 clear hva_ hvn_ hvc_ ge263_0 ul263_0
 clear hcc263 hce263
 have fr3:=A_ dq4
 have cl6:=A_ dq3
 clear dq4 dq3
 replace bq8:=eq_true bq8
 replace bq9:=eq_true bq9
 iterate 2 (go_wp2_with (first|(go_at_call 114;(refine(Ga.calls k3 _ _ (Jb bx en) _ _ (Jb bx (ji28)) false _ (cu_ (g95_)) cl5.out (cu_ (g96_)) cl6.out A31.out).mono ?_);rintro e w' ⟨rfl,⟨nd,rfl⟩⟩;(try first|exact⟨rfl,_,World.drewN_drewN _ _ _⟩|exact⟨rfl,_,Eq.trans (World.drewN_drewN _ _ _) (congrArg (World.drewN _) (Nat.add_assoc _ _ _))⟩)));try(go_quiet (first|(go_at_call 114;(refine(Ga.calls k3 _ _ (Jb bx en) _ _ (Jb bx (ji28)) false _ (cu_ (g95_)) cl5.out (cu_ (g96_)) cl6.out A31.out).mono ?_);rintro e w' ⟨rfl,⟨nd,rfl⟩⟩;(try first|exact⟨rfl,_,World.drewN_drewN _ _ _⟩|exact⟨rfl,_,Eq.trans (World.drewN_drewN _ _ _) (congrArg (World.drewN _) (Nat.add_assoc _ _ _))⟩)))))
 (try simp only[<- cb0])
 go_roundg k3
 case measure=>have:=HJ1.out;have:=HK2.out;have:=HK3.out;omega
 case rel=>exact⟨(bx),(wrap64 (dq + 1)),(g3_),H',⟨g192_⟩,⟨g193_⟩,⟨g194_⟩,⟨i1⟩⟩
mutual
def Fl.l0:Nat->List Int->Int->Int->List Int->List (List Int)->List Int->List (List Int)->Option (List Int × (List (List Int)))
 | 0,_,_,_,_,_,_,_=>none
 | k + 1,x1,x6,x7,en5,bj6,dr1,cb6=>if x7 < (x1.length:Int) then(if 0<=x7 then(if 0<=(rd x1 x7) then(if (rd x1 x7) < (bj6.length:Int) then(if (x1.length:Int)=0 then(none) else(if 0<=(Int.tmod (wrap64 (x7 + 1)) (x1.length:Int)) then(if (Int.tmod (wrap64 (x7 + 1)) (x1.length:Int)) < (x1.length:Int) then(if 0<=(rd x1 (Int.tmod (wrap64 (x7 + 1)) (x1.length:Int))) then(if (rd x1 (Int.tmod (wrap64 (x7 + 1)) (x1.length:Int))) < ((Jb bj6 (rd x1 x7)).length:Int) then(Fl.l0 k x1 (mn x6 (rd (Jb bj6 (rd x1 x7)) (rd x1 (Int.tmod (wrap64 (x7 + 1)) (x1.length:Int))))) (wrap64 (x7 + 1)) en5 bj6 dr1 cb6) else(none)) else(none)) else(none)) else(none))) else(none)) else(none)) else(none)) else(Fl.l1 k x1 x6 0 en5 bj6 dr1 cb6)
def Fl.l1:Nat->List Int->Int->Int->List Int->List (List Int)->List Int->List (List Int)->Option (List Int × (List (List Int)))
 | 0,_,_,_,_,_,_,_=>none
 | k + 1,x1,x6,x8,en5,bj6,dr1,cb6=>if x8 < (x1.length:Int) then(if 0<=x8 then(if (x1.length:Int)=0 then(none) else(if 0<=(Int.tmod (wrap64 (x8 + 1)) (x1.length:Int)) then(if (Int.tmod (wrap64 (x8 + 1)) (x1.length:Int)) < (x1.length:Int) then(if 0<=(rd x1 x8) then(if (rd x1 x8) < (cb6.length:Int) then(if (rd x1 x8) < (bj6.length:Int) then(if 0<=(rd x1 (Int.tmod (wrap64 (x8 + 1)) (x1.length:Int))) then(if (rd x1 (Int.tmod (wrap64 (x8 + 1)) (x1.length:Int))) < ((Jb bj6 (rd x1 x8)).length:Int) then(if (rd x1 (Int.tmod (wrap64 (x8 + 1)) (x1.length:Int))) < ((Jb cb6 (rd x1 x8)).length:Int) then(Fl.l1 k x1 x6 (wrap64 (x8 + 1)) en5 bj6 dr1 (cb6.set ((rd x1 x8):Int).toNat ((Jb cb6 (rd x1 x8)).set ((rd x1 (Int.tmod (wrap64 (x8 + 1)) (x1.length:Int))):Int).toNat (wrap64 ((rd (Jb bj6 (rd x1 x8)) (rd x1 (Int.tmod (wrap64 (x8 + 1)) (x1.length:Int)))) - x6))))) else(none)) else(none)) else(none)) else(none)) else(none)) else(none)) else(none)) else(none))) else(none)) else(some (dr1,cb6))
end
def Fl.f (k:Nat) (ab:List Int) (aa:List (List Int)) (l1:List Int):Option (List Int × (List (List Int))):=(Fv.f k ab aa).bind fun bt271=>(Fl.l0 k l1 9 0 ab aa bt271.1 bt271.2)
def Fl.T6:Bool × List (List Nat × List Nat):=(true,[([],[]),([],[]),([1],[1]),([],[]),([],[]),([3,4],[3,4]),([5],[5]),([2,6],[2,6]),([7],[7]),([],[]),([],[]),([10],[10]),([],[]),([12],[12]),([11,13],[11,13]),([9,14],[9,14]),([15],[15]),([8,16],[8,16]),([17],[17]),([0,18],[0,18]),([19,0,1,2,3,4,5,6,7,8,9,10,11,12,13,14,15,16,17,18,19],[0,19])])
def Fl.B6:List Nat:=[0,0,2,0,0,24,56,126,254,0,0,1024,0,4096,15360,32256,65024,131070,262142,524287,1048575]
theorem Fl.tab6:rtab .any (opsOf Try.f98 6)=Fl.T6:=by kernel_rfl
theorem Fl.bits6:waitsOk Fl.T6.2 Fl.B6=true:=by kernel_rfl
def Fl.T12:Bool × List (List Nat × List Nat):=(true,[([],[]),([0],[0]),([],[]),([1,2],[1,2]),([3],[3]),([],[]),([],[]),([6],[6]),([],[]),([7,8],[7,8]),([9],[9]),([],[]),([10,11],[10,11]),([12],[12]),([],[]),([13,14],[13,14]),([4,5,0,1,2,3,4,5,6,7,8,9,10,11,12,13,14,15],[4,5]),([16,15,0,1,2,3,4,5,6,7,8,9,10,11,12,13,14,15],[15,16])])
def Fl.B12:List Nat:=[0,1,0,7,15,0,0,64,0,448,960,0,4032,8128,0,32704,65535,131071]
theorem Fl.tab12:rtab .any (opsOf Try.f98 12)=Fl.T12:=by kernel_rfl
theorem Fl.bits12:waitsOk Fl.T12.2 Fl.B12=true:=by kernel_rfl
theorem az8 {p:Prop} (h:p:=by repeat(first|(with_reducible first|exact HB.out|apply G3|apply G2|apply G1|refine G0 ?_ js3.out|refine G0 ?_ js4.out|refine G0 ?_ js5.out|refine G0 ?_ GB39.out)|exact HB.out)):p:=h
set_option maxHeartbeats 8000000 in
set_option maxRecDepth 100000 in
theorem Fl.calls (k:Nat) (ah:Option Addr) (af:Nat) (ab:List Int) (ao:Option Addr) (ai:Nat) (aa:List (List Int)) (A1:Option Addr) (c1:Nat) (l1:List Int) (r1:List Int) (r2:List (List Int)) (w:World) (d4:Kd.C (Kd.int .i64) w ah ab.length ab) (d9:ab.length<=af) (d5:Kd.C (Kd.slice 3 (Kd.int .i64)) w ao aa.length aa) (ea:aa.length<=ai) (k0:Kd.C (Kd.int .i64) w A1 l1.length l1) (lh:l1.length<=c1) (h:Fl.f k ab aa l1=some (r1,r2)) :
  Calls Try.prog 98 #[.agg #[.slice ah ab.length af, .slice ao aa.length ai], .slice A1 l1.length c1] w fun e w'=>∃v0_ v1_:Value,e = .returned (.agg #[v0_,v1_])/\Kd.R (Kd.int .i64) 3 w' w.heap.size (fun _=>True) v0_ r1/\Kd.S (Kd.slice 3 (Kd.int .i64)) 22 w' w.heap.size (fun k_=>some k_≠(v0_:Value).ownBlock) v1_ r2/\Below w.heap.size w w':=by
 have hu25:=Try.underlying25
 have dp:=A_ d4
 have ec:=A_ d9
 clear d4 d9
 have df:=A_ d5
 have ee:=A_ ea
 clear d5 ea
 have i8:=A_ k0
 have HC1:=A_ lh
 clear k0 lh
 have HB:=A_ (Below.refl w.heap.size w)
 have H:=h
 unfold Fl.f at H
 clear h
 replace H:=Option.bind_eq_some_iff.mp H
 obtain⟨⟨ar3,bd9⟩,nu,H⟩:=H
 try dsimp only at H
 have A3:=A_ nu
 clear nu
 have H':=A_ H
 clear H
 go_enter Try.func98,Try.ntmps98
 go_wp2_with (first|((with_reducible refine gd_ 2 ?_);refine bx_ (N:=2) #[.slice ah ab.length af, .slice ao aa.length ai] 25 ?_;intro ae5 hg w4 hbox hb;have ql:=A_ (hbox);have mj8:=A_ ((g98_:w.heap.size<=ae5));have js3:=mj8;replace HB:=hs_ (az8) hb;clear hb hbox hg)|((with_reducible refine gd_ 4 ?_);refine bx_ (N:=4) #[.slice none 0 0, .slice none 0 0] 25 ?_;intro ah0 hg w5 hbox hb;have tr:=A_ (hbox);have mj9:=A_ ((g98_:w.heap.size<=ah0));have js4:=mj9;replace HB:=hs_ (az8) hb;have hh3:=nl_ ql hg;have hh4:=nr_ ql hg;replace ql:=bb_ ql hb;clear hb hbox hg;have gt4:=hh3.out;have gt5:=hh4.out;obtain⟨ad2,ad3,ad4,ad5⟩:=blk2_ ql)|((with_reducible refine gc_ 80 ?_);refine gl_ 12 Try.func80 #[.agg #[.slice ah ab.length af, .slice ao aa.length ai]] ?_;(refine(Fv.calls k _ _ ab _ _ aa ar3 bd9 _ (uC_ dp) ec.out (uC_ df) ee.out A3.out).mono ?_);rintro e w8 ⟨mk0,mk1,rfl,ae,ax,hb⟩;refine⟨_,rfl,?_⟩;have en6:=A_ (Kd.R_lower ae (Gz (az8)));have en7:=A_ (Kd.S_lower ax (Gz (az8)));replace ql:=bb_ ql hb;replace tr:=bb_ tr hb;replace HB:=hs_ (az8) hb)|((with_reducible refine gd_ 5 ?_);refine bx_ (N:=5) #[.slice none 0 0, .slice none 0 0] 25 ?_;intro al3 hg w9 hbox hb;replace en6:=rb_ en6 hb;replace en7:=sb_ en7 hb;have ye:=A_ (hbox);have mk2:=A_ ((g98_:w.heap.size<=al3));have js5:=mk2;replace HB:=hs_ (az8) hb;have en8:=nl_ ql hg;have hh5:=nr_ ql hg;replace ql:=bb_ ql hb;have en9:=nl_ tr hg;have hh6:=nr_ tr hg;replace tr:=bb_ tr hb;clear hb hbox hg;obtain⟨ja,jb,ci7⟩:=Kd.R_slice en6.out;subst ci7;have aq2:=hh5.out;have aq3:=en8.out;have ci9:=hh6.out;have cj0:=en9.out;obtain⟨zy,zz,z8,z9⟩:=blk2_ ye;obtain⟨pq,ml,cl8⟩:=Kd.S_slice en7.out;subst cl8))
 go_loopg [6,7] k (fun kq v6 v7 w'=>∃(kb:Int) (sc:Int),v6 = .int .i64 kb/\v7 = .int .i64 sc/\Gx (Fl.l0 kq l1 kb sc ab aa ar3 bd9=some (r1,r2))/\Gx (kq<=k)/\Gx (Kd.R (Kd.int .i64) 3 w' w.heap.size (fun _=>True) (.slice ja ar3.length jb) ar3)/\Gx (Kd.S (Kd.slice 3 (Kd.int .i64)) 22 w' w.heap.size (fun k_=>some k_≠((.slice ja ar3.length jb):Value).ownBlock) (.slice pq bd9.length ml) bd9)/\Gx (hc_ w' ae5 #[(.slice ah ab.length af),(.slice ao aa.length ai)] 25)/\Gx (hc_ w' ah0 #[(.slice none 0 0),(.slice none 0 0)] 25)/\Gx (hc_ w' al3 #[(.slice ja ar3.length jb),(.slice pq bd9.length ml)] 25)/\Gx (Below w.heap.size w w'))
 case atStart=>exact⟨(9),(0),(g3_),(g3_),H',⟨Nat.le_refl _⟩,⟨ra_ en6⟩,⟨sa_ en7⟩,⟨ba_ ql⟩,⟨ba_ tr⟩,⟨ba_ ye⟩,⟨az8⟩⟩
 clear H'
 obtain⟨kb,sc,rfl,rfl,HA,HK1,aw1,yz,ql,tr,ye,HB⟩:=hrel
 cases gk with
 | zero=>exact absurd HA.out (by simp[Fl.l0])
 | succ k1=>?_
 have H:=HA.out
 clear HA
 simp only[Fl.l0] at H
 by_cases e7:sc < (l1.length:Int)
 ·rw[if_pos e7] at H
  have qv:=decide_eq_true e7
  clear e7
  obtain⟨ag0,H⟩:=pd_ H
  obtain⟨ad6,H⟩:=pd_ H
  obtain⟨bc9,H⟩:=pd_ H
  by_cases f9:(l1.length:Int)=0
  ·rw[if_pos f9] at H
   exact absurd H (by simp)
  rw[if_neg f9] at H
  have ve:((l1.length:Int) == 0)=false:=beq_eq_false_iff_ne.mpr f9
  have ap1:((l1.length:Int) != 0)=true:=bne_iff_ne.mpr f9
  have cv3:¬ (l1=[]):=fun h_=>f9 (g86_)
  obtain⟨ji20,hji20⟩:∃j_:Int,(Int.tmod (wrap64 (sc + 1)) (l1.length:Int))=j_:=⟨_,rfl⟩
  first|rw[hji20] at H|simp only[hji20] at H
  obtain⟨eo0,H⟩:=pd_ H
  obtain⟨bc0,H⟩:=pd_ H
  obtain⟨bn7,H⟩:=pd_ H
  obtain⟨ad9,H⟩:=pd_ H
  obtain⟨ji25,hji25⟩:∃j_:Int,(mn kb (rd (Jb aa (rd l1 sc)) (rd l1 (ji20))))=j_:=⟨_,rfl⟩
  first|rw[hji25] at H|simp only[hji25] at H
  have hji25_:(if (rd (Jb aa (rd l1 sc)) (rd l1 (ji20))) < kb then(rd (Jb aa (rd l1 sc)) (rd l1 (ji20))) else kb)=ji25:=hji25
  have H':=A_ H
  clear H
  try go_wp2
  replace aw1:=rd_ aw1
  replace yz:=sd_ yz
  replace ql:=bd_ ql
  replace tr:=bd_ tr
  replace ye:=bd_ ye
  replace HB:=A_ (G1 HB.out)
  obtain⟨⟨fr4,js6,dr2⟩,eo1,eo2⟩:=rdp_ (Kd.at_int i8.out sc)
  have js7:=dr2
  cases js6
  replace dr2:=cl_ HB dr2
  obtain⟨⟨hh7,mk3,js8,js9,dr3,hh8,hh9⟩,eo3,eo4⟩:=rdp_ (at_L1 df.out (rd l1 sc))
  have jt0:=dr3
  cases js9
  replace dr3:=cl_ HB dr3
  have hi2:=A_ hh9
  have mk4:=A_ hh8
  clear hh9 hh8
  obtain⟨⟨jt1,jt2,dr4⟩,eo5,eo6⟩:=rdp_ (Kd.at_int i8.out (ji20))
  have jt3:=dr4
  obtain rfl:fr4=jt1:=(by injection jt2)
  replace dr4:=cl_ HB dr4
  obtain⟨⟨hi3,jt4,dr5⟩,ep0,ep1⟩:=rdp_ (Kd.at_int hi2.out (rd l1 (ji20)))
  have jt5:=dr5
  cases jt4
  replace dr5:=cl_ HB dr5
  refine start_ (n:=21) (S:=fun w'=>w'.cell? ⟨ae5,0,none⟩=some (.slice ah ab.length af)/\w'.cell? ⟨ae5,1,none⟩=some (.slice (some hh7) aa.length ai)/\w'.cell? (fr4.add (sc).toNat)=some (.int .i64 (rd l1 sc))/\w'.cell? (hh7.add ((rd l1 sc)).toNat)=some (.slice (some hi3) (Jb aa (rd l1 sc)).length js8)/\w'.cell? (fr4.add ((ji20)).toNat)=some (.int .i64 (rd l1 (ji20)))/\w'.cell? (hi3.add ((rd l1 (ji20))).toNat)=some (.int .i64 (rd (Jb aa (rd l1 sc)) (rd l1 (ji20))))) (ds:=[]) (tl_ 21 0) (g0_) rfl (g0_) ⟨(Gy ql.out 0).trans rfl,(Gy ql.out 1).trans rfl,((cl_ HB js7).trans rfl),((cl_ HB jt0).trans rfl),((cl_ HB jt3).trans rfl),((cl_ HB jt5).trans rfl)⟩ (fun hHeld=>?_);refine Jl Fl.tab6 Fl.bits6 (fun HT_ HW_=>?_)
  generalize wr.drew=w26 at aw1 yz ql tr ye HB hi2 dr2 dr3 dr4 dr5 hHeld |-
  refine pw_ 0 19 (tl_ 21 1) ?_
  refine pw_ 1 20 (tl_ 21 3) ?_
  refine pw_ 3 22 (tl_ 21 11) ?_
  refine pw_ 4 23 (tl_ 21 27) ?_
  refine pw_ 5 24 (tl_ 21 59) ?_
  refine pw_ 9 28 (tl_ 21 571) ?_
  refine pw_ 10 29 (tl_ 21 1595) ?_
  refine pw_ 11 30 (tl_ 21 3643) ?_
  refine pw_ 12 31 (tl_ 21 7739) ?_
  refine pw_ 13 32 (tl_ 21 15931) ?_
  refine pw_ 14 33 (tl_ 21 32315) ?_
  refine pw_ 15 34 (tl_ 21 65083) ?_
  refine tk1_ 2 21 (tl_ 21 65087) hHeld ?_
  refine tk1_ 6 25 (tl_ 21 65151) hHeld ?_
  refine pw_ 7 26 (tl_ 21 65279) ?_
  refine tk1_ 8 27 (tl_ 21 65535) hHeld ?_
  refine tk1_ 16 35 (tl_ 21 131071) hHeld ?_
  refine pw_ 17 36 (tl_ 21 262143) ?_
  refine tk1_ 18 37 (tl_ 21 524287) hHeld ?_
  refine pw_ 19 38 (tl_ 21 1048575) ?_
  refine pw_ 20 6 (tl_ 21 2097151) ?_
  refine done_ (done_of HT_.out (g0_)) ?_
  try go_wp2
  go_roundg k1
  case measure=>have:=HK1.out;omega
  case rel=>exact⟨(ji25),(wrap64 (sc + 1)),(by first|rfl|(simp;done)|(simp only[<- hji25] <;> (first|rfl|simp))|(simp[*];done)),(g3_),H',⟨g17_⟩,⟨uR_ aw1⟩,⟨uS_ yz⟩,⟨uB_ ql⟩,⟨uB_ tr⟩,⟨uB_ ye⟩,⟨az8⟩⟩
 rw[if_neg e7] at H
 have qv:=decide_eq_false e7
 clear e7
 have H':=A_ H
 clear H
 go_wp2
 go_loopg [8] k1 (fun kq v8 w'=>∃(ce:Int) (be0:List Int) (un:List (List Int)) (cx7:Value) (fr5:Value),v8 = .int .i64 ce/\Gx (Fl.l1 kq l1 kb ce ab aa be0 un=some (r1,r2))/\Gx (kq<=k1)/\Gx (Kd.R (Kd.int .i64) 3 w' w.heap.size (fun _=>True) cx7 be0)/\Gx (Kd.S (Kd.slice 3 (Kd.int .i64)) 22 w' w.heap.size (fun k_=>some k_≠(cx7:Value).ownBlock) fr5 un)/\Gx (hc_ w' ae5 #[(.slice ah ab.length af),(.slice ao aa.length ai)] 25)/\Gx (hc_ w' ah0 #[(.slice none 0 0),(.slice none 0 0)] 25)/\Gx (hc_ w' al3 #[cx7,fr5] 25)/\Gx (Below w.heap.size w w'))
 case atStart=>exact⟨(0),(ar3),(bd9),(.slice ja ar3.length jb),(.slice pq bd9.length ml),(g3_),H',⟨Nat.le_refl _⟩,⟨uR_ aw1⟩,⟨uS_ yz⟩,⟨uB_ ql⟩,⟨uB_ tr⟩,⟨uB_ ye⟩,⟨az8⟩⟩
 clear H'
 obtain⟨ce,be0,un,cx7,fr5,rfl,HA,HK2,aw1,yz,ql,tr,ye,HB⟩:=hrel
 cases gk with
 | zero=>exact absurd HA.out (by simp[Fl.l1])
 | succ k2=>?_
 have H:=HA.out
 clear HA
 simp only[Fl.l1] at H
 by_cases ox:ce < (l1.length:Int)
 case neg=>
  rw[if_neg ox] at H
  have bx6:=decide_eq_false ox
  clear ox
  simp only[Option.some.injEq,Prod.mk.injEq] at H
  obtain⟨rfl,rfl⟩:=H
  have fs7:=hh5.out
  have fs8:=en8.out
  have dn8:=hh6.out
  have dn9:=en9.out
  obtain⟨fs9,ft0,ft1,ft2⟩:=blk2_ ye
  obtain⟨vj,vk,cb7⟩:=Kd.R_slice aw1.out
  subst cb7
  have el9:=hh4.out
  have em0:=hh3.out
  obtain⟨do0,do1,do2,do3⟩:=blk2_ tr
  obtain⟨av6,av7,do4⟩:=Kd.S_slice yz.out
  subst do4
  go_wp2
  refine bodyPost_ret (results_cell_row rfl _ _ ah0 25 #[.slice vj be0.length vk, .slice av6 un.length av7] (0,0) _ rfl (ba_ tr) Try.underlying25 rfl (g0_)) rfl ?_
  exact⟨_,_,g4_,ra_ aw1,sa_ yz,az8⟩
 rw[if_pos ox] at H
 have bx6:=decide_eq_true ox
 clear ox
 obtain⟨bn4,H⟩:=pd_ H
 by_cases tc:(l1.length:Int)=0
 ·rw[if_pos tc] at H
  exact absurd H (by simp)
 rw[if_neg tc] at H
 have fq6:((l1.length:Int) == 0)=false:=beq_eq_false_iff_ne.mpr tc
 have mk5:((l1.length:Int) != 0)=true:=bne_iff_ne.mpr tc
 have mk6:¬ (l1=[]):=fun h_=>tc (g86_)
 obtain⟨ji30,hji30⟩:∃j_:Int,(Int.tmod (wrap64 (ce + 1)) (l1.length:Int))=j_:=⟨_,rfl⟩
 first|rw[hji30] at H|simp only[hji30] at H
 obtain⟨aq5,H⟩:=pd_ H
 obtain⟨fn9,H⟩:=pd_ H
 obtain⟨ek2,H⟩:=pd_ H
 obtain⟨dn7,H⟩:=pd_ H
 obtain⟨do8,H⟩:=pd_ H
 obtain⟨em8,H⟩:=pd_ H
 obtain⟨jt6,H⟩:=pd_ H
 obtain⟨jt7,H⟩:=pd_ H
 obtain⟨fr6,hyq⟩:∃y_:List Int,y_=((Jb un (rd l1 ce)).set ((rd l1 (ji30)):Int).toNat (wrap64 ((rd (Jb aa (rd l1 ce)) (rd l1 (ji30))) - kb))):=⟨_,rfl⟩
 replace H:(Fl.l1 k2 l1 kb (wrap64 (ce + 1)) ab aa be0 (un.set ((rd l1 ce):Int).toNat fr6))=some (r1,r2):=qh_
 have jt8:=A_ hyq
 clear hyq
 obtain⟨hi4,hyq⟩:∃y_:List (List Int),y_=(un.set ((rd l1 ce):Int).toNat fr6):=⟨_,rfl⟩
 replace H:(Fl.l1 k2 l1 kb (wrap64 (ce + 1)) ab aa be0 hi4)=some (r1,r2):=qh_
 have jt9:=A_ hyq
 clear hyq
 have H':=A_ H
 clear H
 obtain⟨⟨ju0,ju1,hi5⟩,fr7,fr8⟩:=rdp_ (Kd.at_int i8.out ce)
 cases ju1
 replace hi5:=cl_ HB hi5
 obtain⟨⟨ju2,ju3,hi6⟩,fr9,fs0⟩:=rdp_ (Kd.at_int i8.out (ji30))
 obtain rfl:ju0=ju2:=(by injection ju3)
 replace hi6:=cl_ HB hi6
 try go_wp2
 replace aw1:=rd_ aw1
 replace yz:=sd_ yz
 replace ql:=bd_ ql
 replace tr:=bd_ tr
 replace ye:=bd_ ye
 replace HB:=A_ (G1 HB.out)
 obtain⟨ku,j3,ah1⟩:=Kd.S_slice yz.out
 (first|subst ah1|(injection ah1 with f1_ f2_ f3_;have f4_:=f1_.symm;have f5_:=f3_.symm;clear f1_ f2_ f3_;subst f4_;subst f5_))
 have ep2:0<=((rd l1 ce):Int):=od_
 have ep3:(rd l1 ce) < (un.length:Int):=od_
 obtain⟨fs1,mk7,ju4,ju5,ep4,hi7,hi8⟩:=at_L1 (Kd.S_reads' yz.out).2.2 (rd l1 ce) ep2 ep3
 cases ju5
 obtain⟨ce284,hce284,hMe284,hcc284⟩:=Kd.S_get yz.out [] (rd l1 ce) ep2 (by first|exact ep3|exact od_|(have e_:=(Kd.S_reads' yz.out).1;omega))
 obtain⟨ve284_0,rfl,ge284_0⟩:=hMe284
 have hv284_0:=hcc284 0 _ rfl
 rw[Nat.add_zero,show((Kd.slice 3 (Kd.int .i64))).sz=1 from rfl,Nat.mul_one] at hv284_0
 replace hv284_0:=Option.some.inj (hv284_0.symm.trans ep4)
 rw[hv284_0] at ge284_0
 have cl9:=A_ (show Kd.R (Kd.int .i64) 3 _ _ _ _ (Jb un (rd l1 ce)) from ge284_0)
 clear hv284_0 ge284_0
 have HX284_0:=A_ ep4
 clear hcc284 hce284
 have ju6:=A_ hi8
 have mk8:=A_ hi7
 clear hi8 hi7
 replace ep2:=eq_true ep2
 replace ep3:=eq_true ep3
 obtain⟨⟨hi9,mk9,ju7,ju8,ep5,hj0,hj1⟩,fs2,fs3⟩:=rdp_ (at_L1 df.out (rd l1 ce))
 have ju9:=ep5
 cases ju8
 replace ep5:=cl_ HB ep5
 have hj4:=A_ hj1
 have ml0:=A_ hj0
 clear hj1 hj0
 obtain⟨⟨hj5,jv0,ep6⟩,fs4,fs5⟩:=rdp_ (Kd.at_int hj4.out (rd l1 (ji30)))
 have jv1:=ep6
 cases jv0
 replace ep6:=cl_ HB ep6
 have p39:0<=((rd l1 (ji30)):Int):=od_
 have q39:((rd l1 (ji30)):Int) < (((Jb un (rd l1 ce)).length:Int):Int):=od_
 obtain⟨cx8,k8,ag9,dr6,gl39,cl39,HG39⟩:=Kd.R_form cl9.out (by omega)
 (first|cases ag9|(injection ag9 with ea_ en_ ec_;(first|subst ea_|(injection ea_ with ea_;subst ea_));subst ec_;clear en_))
 have GB39:=A_ dr6
 have GG39:=A_ HG39
 clear dr6 gl39 HG39
 obtain⟨fs6,hf39_0⟩:=Kd.R_celln 0 cl9.out ((rd l1 (ji30)):Int) p39 q39
 replace p39:=eq_true p39
 replace q39:=eq_true q39
 have hq42:((rd l1 ce):Int) < (un.length:Int):=(by have h_:((rd l1 ce):Int) < ((un.length:Int):Int):=od_;first|exact h_|(have e_:=(Kd.S_reads' yz.out).1;omega)|simpa only[List.length_set,List.length_set] using h_)
 obtain⟨oki42,ce42,hcl42,hM42,hcc42,hok42,hbk42⟩:=Kd.S_borrow yz.out [] ((rd l1 ce):Int) (od_) (by first|exact hq42|exact od_|(have e_:=(Kd.S_reads' yz.out).1;omega))
 obtain⟨ve42_0,rfl,ge42_0⟩:=hM42
 have hv42:=hcc42 0 _ rfl
 rw[Nat.add_zero,show((Kd.slice 3 (Kd.int .i64))).sz=1 from rfl,Nat.mul_one] at hv42
 replace hv42:=Option.some.inj (hv42.symm.trans HX284_0.out)
 subst hv42
 clear hcc42 hcl42
 replace ge42_0:=(show Kd.R (Kd.int .i64) 3 _ _ _ _ (Jb un (rd l1 ce)) from ge42_0)
 have HP42:=Kd.R_putg ge42_0 ((rd l1 (ji30)):Int) (wrap64 ((rd (Jb aa (rd l1 ce)) (rd l1 (ji30))) - kb))
 rw[<- jt8.out] at HP42
 have HS42:=hbk42 HP42.2 (fun k_ e_=>by injection e_ with e_;subst e_;exact ge42_0.1 _ rfl) (x':=fr6) (Kd.M_row HP42.1)
 rw[<- jt9.out] at HS42
 have HQ42:=A_ HS42
 clear HP42 HS42 hbk42 hok42
 refine start_ (n:=18) (S:=fun w'=>w'.cell? ⟨al3,0,none⟩=some (cx7)/\w'.cell? ⟨al3,1,none⟩=some (.slice (some fs1) un.length j3)/\w'.cell? ⟨ae5,0,none⟩=some (.slice ah ab.length af)/\w'.cell? ⟨ae5,1,none⟩=some (.slice (some hi9) aa.length ai)/\w'.cell? (fs1.add ((rd l1 ce)).toNat)=some (.slice (some ⟨cx8,0,none⟩) (Jb un (rd l1 ce)).length ju4)/\w'.cell? (hi9.add ((rd l1 ce)).toNat)=some (.slice (some hj5) (Jb aa (rd l1 ce)).length ju7)/\w'.cell? (hj5.add ((rd l1 (ji30))).toNat)=some (.int .i64 (rd (Jb aa (rd l1 ce)) (rd l1 (ji30))))) (ds:=[17]) (tl_ 18 0) (g0_) rfl (g0_) ⟨(Gy ye.out 0).trans rfl,(Gy ye.out 1).trans rfl,(Gy ql.out 0).trans rfl,(Gy ql.out 1).trans rfl,ep4,((cl_ HB ju9).trans rfl),((cl_ HB jv1).trans rfl)⟩ (fun hHeld=>?_);refine Jl Fl.tab12 Fl.bits12 (fun HT_ HW_=>?_)
 generalize wr.drew=w40 at aw1 yz ql tr ye HB GG39 cl9 HQ42 ju6 hj4 HX284_0 hf39_0 ep4 ep5 ep6 fs6 hHeld |-
 refine pw_ 0 57 (tl_ 18 1) ?_
 refine pw_ 2 59 (tl_ 18 5) ?_
 refine pw_ 5 62 (tl_ 18 37) ?_
 refine pw_ 6 63 (tl_ 18 101) ?_
 refine pw_ 8 65 (tl_ 18 357) ?_
 refine pw_ 11 68 (tl_ 18 2405) ?_
 refine pw_ 14 71 (tl_ 18 18789) ?_
 refine tk4_ 1 58 (tl_ 18 18791) hHeld ?_
 refine pw_ 3 60 (tl_ 18 18799) ?_
 refine tk4_ 4 61 (tl_ 18 18815) hHeld ?_
 refine tk4_ 7 64 (tl_ 18 18943) hHeld ?_
 refine pw_ 9 66 (tl_ 18 19455) ?_
 refine tk4_ 10 67 (tl_ 18 20479) hHeld ?_
 refine pw_ 12 69 (tl_ 18 24575) ?_
 refine tk4_ 13 70 (tl_ 18 32767) hHeld ?_
 refine pw_ 15 72 (tl_ 18 65535) ?_
 refine pw_ 16 73 (tl_ 18 131071) ?_
 refine last_ (i:=17) (N:=none) (tl_ 18 262143) rfl rfl (Jn HT_.out (g0_)) (by decide) (fun K hK=>?_)
 refine skip_ (w1:=?_) (by rfl) rfl ?_ ?_
 rotate_left
 ·go_simp
  rfl
 refine hK.out _ _ ?_
 clear hK K
 refine done_ (done_of HT_.out (g0_)) ?_
 try go_wp2
 go_roundg k2
 case measure=>have:=HK1.out;have:=HK2.out;omega
 case rel=>exact⟨(wrap64 (ce + 1)),(be0),(hi4),(cx7),(.slice (some fs1) un.length j3),(g3_),H',⟨g29_⟩,⟨by(with_reducible repeat(first|apply Kd.R_alloc|apply Kd.R_drewN|apply Kd.R_drew));exact Kd.R_mono (Kd.R_far (p:=⟨cx8,((rd l1 (ji30)):Int).toNat,none⟩) (Kd.R_far1 aw1.out rfl ((cl9.out.1 _ rfl).1)) (fun _ hk=>hk.2) (.int .i64 (wrap64 ((rd (Jb aa (rd l1 ce)) (rd l1 (ji30))) - kb)))) (fun _ hk=>trivial)⟩,⟨uS_ HQ42⟩,⟨by(with_reducible repeat(first|refine G5 ?_ _|refine G6 ?_|refine G4 ?_ _));refine Je ?_ (by have h_:=Kd.R_ne cl9.out ql.out (by decide);intro e_;exact h_ (g6_)) _;exact uB_ ql⟩,⟨by(with_reducible repeat(first|refine G5 ?_ _|refine G6 ?_|refine G4 ?_ _));refine Je ?_ (by have h_:=Kd.R_ne cl9.out tr.out (by decide);intro e_;exact h_ (g6_)) _;exact uB_ tr⟩,⟨by(with_reducible repeat(first|refine G5 ?_ _|refine G6 ?_|refine G4 ?_ _));refine Je ?_ (by have h_:=Kd.R_ne cl9.out ye.out (by decide);intro e_;exact h_ (g6_)) _;exact uB_ ye⟩,⟨az8⟩⟩
end Go.Proofs.Ytfooakkhkehpiaa.PU
