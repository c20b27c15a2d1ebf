/- FnDeskDo: for every input the law holds. No condition. -/
import Derived.Test.YtfooakkhkehpiaaZFnDeskDo1
namespace Go.Proofs.Ytfooakkhkehpiaa.PU
open Go.RowKit Go.Proofs.YtfooakkhkehpiaaW.PrintWords Go.Proofs.YtfooakkhkehpiaaW.PrintLast Go.Proofs.YtfooakkhkehpiaaW.PrintMore Go.Proofs.Ytfooakkhkehpiaa.Qd
attribute [local go_sem] max2_int min2_int max_two min_two max_three min_three max_four min_four
set_option linter.unusedVariables false
set_option linter.unusedSimpArgs false
def Gi.f (k:Nat) (ab:List Int) (aa:List (List Int)) (bg:List Int) (b5:List (List Int)):Option (Bool):=(Fy.f k ab bg).bind fun cq9=>(if cq9=true then((Gb.f k aa b5).bind fun cr0=>(some cr0)) else(some false))
theorem bh3 {p:Prop} (h:p:=by repeat(first|(with_reducible first|exact HB.out|apply G4|apply G3|apply G2|refine G1 ?_ ga3.out|refine G1 ?_ ga4.out)|exact HB.out)):p:=h
set_option maxHeartbeats 8000000 in
set_option maxRecDepth 100000 in
theorem Gi.calls (k:Nat) (ae:Option Addr) (ac:Nat) (ab:List Int) (ag:Option Addr) (af:Nat) (aa:List (List Int)) (eu:Option Addr) (ev:Nat) (bg:List Int) (e7:Option Addr) (e8:Nat) (b5:List (List Int)) (r:Bool) (w:World) (ca:Kd.C (Kd.int .i64) w ae ab.length ab) (ce:ab.length<=ac) (cb:Kd.C (Kd.slice 3 (Kd.int .i64)) w ag aa.length aa) (cg:aa.length<=af) (yn:Kd.C (Kd.int .i64) w eu bg.length bg) (yo:bg.length<=ev) (yp:Kd.C (Kd.slice 3 (Kd.int .i64)) w e7 b5.length b5) (yq:b5.length<=e8) (h:Gi.f k ab aa bg b5=some r) :
  Calls Try.prog 40 #[.agg #[.slice ae ab.length ac, .slice ag aa.length af], .agg #[.slice eu bg.length ev, .slice e7 b5.length e8]] w fun e w'=>e = .returned (.bool r)/\Below w.heap.size w w':=by
 have hu25:=Try.underlying25
 have bu:=A_ ca
 have cq:=A_ ce
 clear ca ce
 have bf:=A_ cb
 have cu:=A_ cg
 clear cb cg
 have am2:=A_ yn
 have ay4:=A_ yo
 clear yn yo
 have ay5:=A_ yp
 have br0:=A_ yq
 clear yp yq
 have HB:=A_ (Below.refl w.heap.size w)
 have H:=h
 unfold Gi.f at H
 clear h
 obtain⟨cq9,A3,H⟩:=bind_ H
 by_cases c4:cq9=true
 ·subst c4
  replace H:=ifp_ H
  obtain⟨cr0,A5,H⟩:=bind_ H
  obtain rfl:=Option.some.inj H
  go_enter Try.func40,Try.ntmps40
  go_wp2_with (first|((with_reducible refine gd_ 2 ?_);refine bx_ (N:=2) #[.slice ae ab.length ac, .slice ag aa.length af] 25 ?_;intro ac2 hg w6 hbox hb;have am3:=A_ (hbox);have ij4:=A_ ((g33_:w.heap.size<=ac2));have ga3:=ij4;replace HB:=hs_ (bh3) hb;clear hb hbox hg)|((with_reducible refine gd_ 3 ?_);refine bx_ (N:=3) #[.slice eu bg.length ev, .slice e7 b5.length e8] 25 ?_;intro ay6 hg w7 hbox hb;have el3:=A_ (hbox);have ij5:=A_ ((g33_:w.heap.size<=ay6));have ga4:=ij5;replace HB:=hs_ (bh3) hb;have el4:=nl_ am3 hg;have el5:=nr_ am3 hg;replace am3:=bb_ am3 hb;clear hb hbox hg;have ga5:=el4.out;have ga6:=el5.out;obtain⟨cf9,cg0,cg1,cg2⟩:=blk2_ am3;obtain⟨am4,am5,am6,am7⟩:=blk2_ el3)|((with_reducible refine gc_ 45 ?_);refine gl_ 9 Try.func45 #[.slice ae ab.length ac, .slice eu bg.length ev] ?_;(refine(Fy.calls k _ _ ab _ _ bg true _ (uf1_ bu) cq.out (uf1_ am2) ay4.out A3.out).mono ?_);rintro e w' ⟨rfl,⟨nd,rfl⟩⟩;refine⟨_,rfl,?_⟩)|(go_at_call 93;(refine(Gb.calls k _ _ aa _ _ b5 cr0 _ (cu_ (Kd.C_below bf.out (bh3))) cu.out (cu_ (Kd.C_below ay5.out (bh3))) br0.out A5.out).mono ?_);rintro e w' ⟨rfl,⟨nd,rfl⟩⟩))
  go_ret
  exact⟨g4_,bh3⟩
 replace c4:=Bool.eq_false_iff.mpr c4
 subst c4
 replace H:=ifn_ H
 obtain rfl:=Option.some.inj H
 go_enter Try.func40,Try.ntmps40
 go_wp2_with (first|((with_reducible refine gd_ 2 ?_);refine bx_ (N:=2) #[.slice ae ab.length ac, .slice ag aa.length af] 25 ?_;intro ac2 hg w11 hbox hb;have am3:=A_ (hbox);have ij4:=A_ ((g33_:w.heap.size<=ac2));have ga3:=ij4;replace HB:=hs_ (bh3) hb;clear hb hbox hg)|((with_reducible refine gd_ 3 ?_);refine bx_ (N:=3) #[.slice eu bg.length ev, .slice e7 b5.length e8] 25 ?_;intro ay6 hg ws hbox hb;have el3:=A_ (hbox);have ij5:=A_ ((g33_:w.heap.size<=ay6));have ga4:=ij5;replace HB:=hs_ (bh3) hb;have el4:=nl_ am3 hg;have el5:=nr_ am3 hg;replace am3:=bb_ am3 hb;clear hb hbox hg;have cg3:=el4.out;have cg4:=el5.out;obtain⟨sf,sg,sh,si⟩:=blk2_ am3;obtain⟨am8,am9,an0,an1⟩:=blk2_ el3)|((with_reducible refine gc_ 45 ?_);refine gl_ 9 Try.func45 #[.slice ae ab.length ac, .slice eu bg.length ev] ?_;(refine(Fy.calls k _ _ ab _ _ bg false _ (uf1_ bu) cq.out (uf1_ am2) ay4.out A3.out).mono ?_);rintro e w' ⟨rfl,⟨nd,rfl⟩⟩;refine⟨_,rfl,?_⟩))
 go_ret
 exact⟨g4_,bh3⟩
def Fp.l0:Nat->Int->List Int->List (List Int)->List (S25)->List Int->List (List Int)->List (S25)->Option (Bool)
 | 0,_,_,_,_,_,_,_=>none
 | k + 1,x5,ga7,ga8,dp3,ga9,gb0,dp4=>if x5 < (dp3.length:Int) then(if 0<=x5 then(if x5 < (dp4.length:Int) then((Gi.f k ((Jd dp3 x5).f0) ((Jd dp3 x5).f1) ((Jd dp4 x5).f0) ((Jd dp4 x5).f1)).bind fun el6=>(if el6=true then(Fp.l0 k (wrap64 (x5 + 1)) ga7 ga8 dp3 ga9 gb0 dp4) else(some false))) else(none)) else(none)) else((Gi.f k ga7 ga8 ga9 gb0).bind fun el7=>(some el7))
def Fp.f (k:Nat) (ab:List Int) (aa:List (List Int)) (ai:List (S25)) (bg:List Int) (b5:List (List Int)) (dt:List (S25)):Option (Bool):=if (ai.length:Int)=(dt.length:Int) then(Fp.l0 k 0 ab aa ai bg b5 dt) else(some false)
def Fp.T6:Bool × List (List Nat × List Nat):=(true,[([],[]),([0],[0]),([],[]),([1,2],[1,2]),([3],[3]),([],[]),([5],[5]),([],[]),([6,7],[6,7]),([8],[8]),([4,9],[4,9]),([10],[10])])
def Fp.B6:List Nat:=[0,1,0,7,15,0,32,0,224,480,1023,2047]
theorem Fp.tab6:rtab .any (opsOf Try.f21 6)=Fp.T6:=by kernel_rfl
theorem Fp.bits6:waitsOk Fp.T6.2 Fp.B6=true:=by kernel_rfl
theorem ag5 {p:Prop} (h:p:=by repeat(first|(with_reducible first|exact HB.out|apply G4|apply G3|apply G2|refine G1 ?_ gb1.out|refine G1 ?_ gb2.out)|exact HB.out)):p:=h
set_option maxHeartbeats 8000000 in
set_option maxRecDepth 100000 in
theorem Fp.calls (k:Nat) (ae:Option Addr) (ac:Nat) (ab:List Int) (ag:Option Addr) (af:Nat) (aa:List (List Int)) (ci:Option Addr) (bv:Nat) (ai:List (S25)) (eu:Option Addr) (ev:Nat) (bg:List Int) (e7:Option Addr) (e8:Nat) (b5:List (List Int)) (g9:Option Addr) (gz:Nat) (dt:List (S25)) (r:Bool) (w:World) (ca:Kd.C (Kd.int .i64) w ae ab.length ab) (ce:ab.length<=ac) (cb:Kd.C (Kd.slice 3 (Kd.int .i64)) w ag aa.length aa) (cg:aa.length<=af) (k0:Kd.C k25 w ci ai.length ai) (k5:ai.length<=bv) (yn:Kd.C (Kd.int .i64) w eu bg.length bg) (yo:bg.length<=ev) (yp:Kd.C (Kd.slice 3 (Kd.int .i64)) w e7 b5.length b5) (yq:b5.length<=e8) (cr1:Kd.C k25 w g9 dt.length dt) (cr2:dt.length<=gz) (h:Fp.f k ab aa ai bg b5 dt=some r) :
  Calls Try.prog 21 #[.agg #[.slice ae ab.length ac, .slice ag aa.length af, .slice ci ai.length bv], .agg #[.slice eu bg.length ev, .slice e7 b5.length e8, .slice g9 dt.length gz]] w fun e w'=>e = .returned (.bool r)/\Below w.heap.size w w':=by
 have hu28:=Try.underlying28
 have hu25:=Try.underlying25
 have bu:=A_ ca
 have cq:=A_ ce
 clear ca ce
 have bf:=A_ cb
 have cu:=A_ cg
 clear cb cg
 have l9:=A_ k0
 have rf:=A_ k5
 clear k0 k5
 have am2:=A_ yn
 have ay4:=A_ yo
 clear yn yo
 have ay5:=A_ yp
 have br0:=A_ yq
 clear yp yq
 have el8:=A_ cr1
 have ij6:=A_ cr2
 clear cr1 cr2
 have HB:=A_ (Below.refl w.heap.size w)
 have H:=h
 unfold Fp.f at H
 clear h
 by_cases c3:(ai.length:Int)=(dt.length:Int)
 case neg=>
  rw[if_neg c3] at H
  have jd:((ai.length:Int) == (dt.length:Int))=false:=beq_eq_false_iff_ne.mpr c3
  have n7:((ai.length:Int) != (dt.length:Int))=true:=bne_iff_ne.mpr c3
  have vd:(ai.length == dt.length)=false:=by first|simpa using c3|(simp at c3 |-;omega)
  obtain rfl:=Option.some.inj H
  go_enter Try.func21,Try.ntmps21
  go_wp2_with (first|((with_reducible refine gd_ 2 ?_);refine bx_ (N:=2) #[.slice ae ab.length ac, .slice ag aa.length af, .slice ci ai.length bv] 28 ?_;intro rg hg w27 hbox hb;have ja:=A_ (hbox);have ij7:=A_ ((g34_:w.heap.size<=rg));have gb1:=ij7;replace HB:=hs_ (ag5) hb;clear hb hbox hg)|((with_reducible refine gd_ 3 ?_);refine bx_ (N:=3) #[.slice eu bg.length ev, .slice e7 b5.length e8, .slice g9 dt.length gz] 28 ?_;intro ve hg w28 hbox hb;have lh:=A_ (hbox);have ij8:=A_ ((g34_:w.heap.size<=ve));have gb2:=ij8;replace HB:=hs_ (ag5) hb;have cg5:=nl_ ja hg;have cg6:=nr_ ja hg;replace ja:=bb_ ja hb;clear hb hbox hg;have br5:=cg5.out;have br6:=cg6.out;obtain⟨br7,br8,dp9,br9,bs0,dq0⟩:=blk3_ ja;obtain⟨bs1,bs2,cu3,bs3,bs4,cu4⟩:=blk3_ lh))
  go_ret
  exact⟨g4_,ag5⟩
 rw[if_pos c3] at H
 have jd:((ai.length:Int) == (dt.length:Int))=true:=beq_iff_eq.mpr c3
 have n7:((ai.length:Int) != (dt.length:Int))=false:=bne_eq_false_iff_eq.mpr c3
 have vd:(ai.length == dt.length)=true:=by first|simpa using c3|(simp at c3 |-;omega)
 clear c3
 have H':=A_ H
 clear H
 go_enter Try.func21,Try.ntmps21
 go_wp2_with (first|((with_reducible refine gd_ 2 ?_);refine bx_ (N:=2) #[.slice ae ab.length ac, .slice ag aa.length af, .slice ci ai.length bv] 28 ?_;intro rg hg w4 hbox hb;have ja:=A_ (hbox);have ij7:=A_ ((g34_:w.heap.size<=rg));have gb1:=ij7;replace HB:=hs_ (ag5) hb;clear hb hbox hg)|((with_reducible refine gd_ 3 ?_);refine bx_ (N:=3) #[.slice eu bg.length ev, .slice e7 b5.length e8, .slice g9 dt.length gz] 28 ?_;intro ve hg w5 hbox hb;have lh:=A_ (hbox);have ij8:=A_ ((g34_:w.heap.size<=ve));have gb2:=ij8;replace HB:=hs_ (ag5) hb;have cg5:=nl_ ja hg;have cg6:=nr_ ja hg;replace ja:=bb_ ja hb;clear hb hbox hg;have gb3:=cg5.out;have gb4:=cg6.out;obtain⟨sx,sy,ij9,ta,tb,ik0⟩:=blk3_ ja;obtain⟨sj,sk,gb5,sl,sm,gb6⟩:=blk3_ lh))
 go_loopg [5] k (fun kq v5 w'=>∃(an:Int),v5 = .int .i64 an/\Gy (Fp.l0 kq an ab aa ai bg b5 dt=some r)/\Gy (kq<=k)/\Gy (hc_ w' rg #[(.slice ae ab.length ac),(.slice ag aa.length af),(.slice ci ai.length bv)] 28)/\Gy (hc_ w' ve #[(.slice eu bg.length ev),(.slice e7 b5.length e8),(.slice g9 dt.length gz)] 28)/\Gy (Below w.heap.size w w'))
 case atStart=>exact⟨(0),(g2_),H',⟨Nat.le_refl _⟩,⟨uf0_ ja⟩,⟨uf0_ lh⟩,⟨ag5⟩⟩
 clear H'
 obtain⟨an,rfl,HA,HK1,ja,lh,HB⟩:=hrel
 cases gk with
 | zero=>exact absurd HA.out (by simp[Fp.l0])
 | succ k1=>?_
 have H:=HA.out
 clear HA
 simp only[Fp.l0] at H
 by_cases c9:an < (ai.length:Int)
 case neg=>
  rw[if_neg c9] at H
  have ac3:=decide_eq_false c9
  clear c9
  obtain⟨el7,A22,H⟩:=bind_ H
  obtain rfl:=Option.some.inj H
  have gb8:=cg5.out
  have gb9:=cg6.out
  obtain⟨ct9,cu0,gc0,cu1,cu2,gc1⟩:=blk3_ ja
  obtain⟨dp5,dp6,gc2,dp7,dp8,gc3⟩:=blk3_ lh
  go_wp2_with (first|((with_reducible refine gc_ 40 ?_);refine gl_ 36 Try.func40 #[.agg #[.slice ae ab.length ac, .slice ag aa.length af], .agg #[.slice eu bg.length ev, .slice e7 b5.length e8]] ?_;(refine(Gi.calls k1 _ _ ab _ _ aa _ _ bg _ _ b5 el7 _ (uf1_ bu) cq.out (uf1_ bf) cu.out (uf1_ am2) ay4.out (uf1_ ay5) br0.out A22.out).mono ?_);rintro e w26 ⟨rfl,hb⟩;refine⟨_,rfl,?_⟩;replace ja:=bb_ ja hb;replace lh:=bb_ lh hb;replace HB:=hs_ (ag5) hb))
  go_ret
  exact⟨g4_,ag5⟩
 rw[if_pos c9] at H
 have ac3:=decide_eq_true c9
 clear c9
 obtain⟨o9,H⟩:=pd_ H
 obtain⟨yr,H⟩:=pd_ H
 obtain⟨el6,A12,H⟩:=bind_ H
 by_cases jw:el6=true
 ·subst jw
  replace H:=ifp_ H
  have H':=A_ H
  clear H
  have cr3:=cg5.out
  have cr4:=cg6.out
  obtain⟨am8,am9,el9,an0,an1,em0⟩:=blk3_ ja
  try go_wp2
  replace ja:=bd_ ja
  replace lh:=bd_ lh
  replace HB:=A_ (G2 HB.out)
  have br1:0<=(an:Int):=od_
  have br2:an < (ai.length:Int):=od_
  obtain⟨ay7,cr5,cr6,cr7,cr8,em1,ay8,ay9,cr9,cs0,cs1,cs2⟩:=at_T25 l9.out an br1 br2
  have cs3:=ay9
  have cs4:=ay8
  cases em1
  replace ay8:=cl_ HB ay8
  replace ay9:=cl_ HB ay9
  have cs5:=A_ cs0
  have em2:=A_ cr9
  clear cs0 cr9
  have cs6:=A_ cs2
  have em3:=A_ cs1
  clear cs2 cs1
  replace br1:=eq_true br1
  replace br2:=eq_true br2
  have br3:0<=(an:Int):=od_
  have br4:an < (dt.length:Int):=od_
  obtain⟨az0,cs7,cs8,cs9,ct0,em4,az1,az2,ct1,ct2,ct3,ct4⟩:=at_T25 el8.out an br3 br4
  have ct5:=az2
  have ct6:=az1
  cases em4
  replace az1:=cl_ HB az1
  replace az2:=cl_ HB az2
  have ct7:=A_ ct2
  have em5:=A_ ct1
  clear ct2 ct1
  have ct8:=A_ ct4
  have em6:=A_ ct3
  clear ct4 ct3
  replace br3:=eq_true br3
  replace br4:=eq_true br4
  refine start_ (n:=12) (S:=fun w'=>w'.cell? ⟨rg,0,none⟩=some (.slice ae ab.length ac)/\w'.cell? ⟨rg,1,none⟩=some (.slice ag aa.length af)/\w'.cell? ⟨rg,2,none⟩=some (.slice (some ay7) ai.length bv)/\w'.cell? ⟨ve,0,none⟩=some (.slice eu bg.length ev)/\w'.cell? ⟨ve,1,none⟩=some (.slice e7 b5.length e8)/\w'.cell? ⟨ve,2,none⟩=some (.slice (some az0) dt.length gz)/\w'.cell? (ay7.add ((an).toNat * 2))=some (.slice cr5 ((Jd ai an).f0).length cr6)/\w'.cell? ⟨(ay7.add ((an).toNat * 2)).block,(ay7.add ((an).toNat * 2)).off + 1,none⟩=some (.slice cr7 ((Jd ai an).f1).length cr8)/\w'.cell? (az0.add ((an).toNat * 2))=some (.slice cs7 ((Jd dt an).f0).length cs8)/\w'.cell? ⟨(az0.add ((an).toNat * 2)).block,(az0.add ((an).toNat * 2)).off + 1,none⟩=some (.slice cs9 ((Jd dt an).f1).length ct0)) (ds:=[]) (tl_ 12 0) (g1_) rfl (g1_) ⟨(Gz ja.out 0).trans rfl,(Gz ja.out 1).trans rfl,(Gz ja.out 2).trans rfl,(Gz lh.out 0).trans rfl,(Gz lh.out 1).trans rfl,(Gz lh.out 2).trans rfl,((cl_ HB cs4).trans rfl),((cl_ HB cs3).trans rfl),((cl_ HB ct6).trans rfl),((cl_ HB ct5).trans rfl)⟩ (fun hHeld=>?_);refine Jm Fp.tab6 Fp.bits6 (fun HT_ HW_=>?_)
  generalize wr.drew=jp at ja lh HB cs5 cs6 ct7 ct8 ay8 ay9 az1 az2 hHeld |-
  refine pw_ 0 20 (tl_ 12 1) ?_
  refine pw_ 2 22 (tl_ 12 5) ?_
  refine pw_ 5 25 (tl_ 12 37) ?_
  refine pw_ 7 27 (tl_ 12 165) ?_
  refine tk0_ 1 21 (tl_ 12 167) hHeld ?_
  refine pw_ 3 23 (tl_ 12 175) ?_
  refine tk0_ 4 24 (tl_ 12 191) hHeld ?_
  refine tk0_ 6 26 (tl_ 12 255) hHeld ?_
  refine pw_ 8 28 (tl_ 12 511) ?_
  refine tk0_ 9 29 (tl_ 12 1023) hHeld ?_
  refine one_ (i:=10) (N:=some 30) (tl_ 12 2047) rfl rfl (Jo HT_.out (g1_)) (by decide) (fun K hK=>?_)
  refine goes_ Try.func40 (g1_) rfl #[.agg #[.slice cr5 ((Jd ai an).f0).length cr6, .slice cr7 ((Jd ai an).f1).length cr8], .agg #[.slice cs7 ((Jd dt an).f0).length cs8, .slice cs9 ((Jd dt an).f1).length ct0]] (by rfl) rfl rfl (g3_) ?_
  refine(Gi.calls k1 _ _ ((Jd ai an).f0) _ _ ((Jd ai an).f1) _ _ ((Jd dt an).f0) _ _ ((Jd dt an).f1) true _ (uf1_ cs5) em2.out (uf1_ cs6) em3.out (uf1_ ct7) em5.out (uf1_ ct8) em6.out A12.out).mono ?_
  rintro e j4 ⟨rfl,hb⟩
  refine⟨_,rfl,?_⟩
  replace ja:=bb_ ja hb
  replace lh:=bb_ lh hb
  replace HB:=hs_ (ag5) hb
  refine hK.out _ _ ⟨(Gz ja.out 0).trans rfl,(Gz ja.out 1).trans rfl,(Gz ja.out 2).trans rfl,(Gz lh.out 0).trans rfl,(Gz lh.out 1).trans rfl,(Gz lh.out 2).trans rfl,((cl_ HB cs4).trans rfl),((cl_ HB cs3).trans rfl),((cl_ HB ct6).trans rfl),((cl_ HB ct5).trans rfl)⟩ (fun hHeld=>?_)
  clear hK K
  refine nm_ ?_
  refine pw_ 11 31 (tl_ 12 4095) ?_
  refine done_ (done_of HT_.out (g1_)) ?_
  try go_wp2
  go_roundg k1
  case measure=>have:=HK1.out;omega
  case rel=>exact⟨(wrap64 (an + 1)),(g2_),H',⟨g13_⟩,⟨uf0_ ja⟩,⟨uf0_ lh⟩,⟨ag5⟩⟩
 replace jw:=Bool.eq_false_iff.mpr jw
 subst jw
 replace H:=ifn_ H
 obtain rfl:=Option.some.inj H
 have em7:=cg5.out
 have em8:=cg6.out
 obtain⟨ik1,ik2,ik3,ik4,ik5,ik6⟩:=blk3_ ja
 try go_wp2
 replace ja:=bd_ ja
 replace lh:=bd_ lh
 replace HB:=A_ (G2 HB.out)
 have br1:0<=(an:Int):=od_
 have br2:an < (ai.length:Int):=od_
 obtain⟨ay7,cr5,cr6,cr7,cr8,em1,ay8,ay9,cr9,cs0,cs1,cs2⟩:=at_T25 l9.out an br1 br2
 have cs3:=ay9
 have cs4:=ay8
 cases em1
 replace ay8:=cl_ HB ay8
 replace ay9:=cl_ HB ay9
 have cs5:=A_ cs0
 have em2:=A_ cr9
 clear cs0 cr9
 have cs6:=A_ cs2
 have em3:=A_ cs1
 clear cs2 cs1
 replace br1:=eq_true br1
 replace br2:=eq_true br2
 have br3:0<=(an:Int):=od_
 have br4:an < (dt.length:Int):=od_
 obtain⟨az0,cs7,cs8,cs9,ct0,em4,az1,az2,ct1,ct2,ct3,ct4⟩:=at_T25 el8.out an br3 br4
 have ct5:=az2
 have ct6:=az1
 cases em4
 replace az1:=cl_ HB az1
 replace az2:=cl_ HB az2
 have ct7:=A_ ct2
 have em5:=A_ ct1
 clear ct2 ct1
 have ct8:=A_ ct4
 have em6:=A_ ct3
 clear ct4 ct3
 replace br3:=eq_true br3
 replace br4:=eq_true br4
 refine start_ (n:=12) (S:=fun w'=>w'.cell? ⟨rg,0,none⟩=some (.slice ae ab.length ac)/\w'.cell? ⟨rg,1,none⟩=some (.slice ag aa.length af)/\w'.cell? ⟨rg,2,none⟩=some (.slice (some ay7) ai.length bv)/\w'.cell? ⟨ve,0,none⟩=some (.slice eu bg.length ev)/\w'.cell? ⟨ve,1,none⟩=some (.slice e7 b5.length e8)/\w'.cell? ⟨ve,2,none⟩=some (.slice (some az0) dt.length gz)/\w'.cell? (ay7.add ((an).toNat * 2))=some (.slice cr5 ((Jd ai an).f0).length cr6)/\w'.cell? ⟨(ay7.add ((an).toNat * 2)).block,(ay7.add ((an).toNat * 2)).off + 1,none⟩=some (.slice cr7 ((Jd ai an).f1).length cr8)/\w'.cell? (az0.add ((an).toNat * 2))=some (.slice cs7 ((Jd dt an).f0).length cs8)/\w'.cell? ⟨(az0.add ((an).toNat * 2)).block,(az0.add ((an).toNat * 2)).off + 1,none⟩=some (.slice cs9 ((Jd dt an).f1).length ct0)) (ds:=[]) (tl_ 12 0) (g1_) rfl (g1_) ⟨(Gz ja.out 0).trans rfl,(Gz ja.out 1).trans rfl,(Gz ja.out 2).trans rfl,(Gz lh.out 0).trans rfl,(Gz lh.out 1).trans rfl,(Gz lh.out 2).trans rfl,((cl_ HB cs4).trans rfl),((cl_ HB cs3).trans rfl),((cl_ HB ct6).trans rfl),((cl_ HB ct5).trans rfl)⟩ (fun hHeld=>?_);refine Jm Fp.tab6 Fp.bits6 (fun HT_ HW_=>?_)
 generalize wr.drew=hf at ja lh HB cs5 cs6 ct7 ct8 ay8 ay9 az1 az2 hHeld |-
 refine pw_ 0 20 (tl_ 12 1) ?_
 refine pw_ 2 22 (tl_ 12 5) ?_
 refine pw_ 5 25 (tl_ 12 37) ?_
 refine pw_ 7 27 (tl_ 12 165) ?_
 refine tk0_ 1 21 (tl_ 12 167) hHeld ?_
 refine pw_ 3 23 (tl_ 12 175) ?_
 refine tk0_ 4 24 (tl_ 12 191) hHeld ?_
 refine tk0_ 6 26 (tl_ 12 255) hHeld ?_
 refine pw_ 8 28 (tl_ 12 511) ?_
 refine tk0_ 9 29 (tl_ 12 1023) hHeld ?_
 refine one_ (i:=10) (N:=some 30) (tl_ 12 2047) rfl rfl (Jo HT_.out (g1_)) (by decide) (fun K hK=>?_)
 refine goes_ Try.func40 (g1_) rfl #[.agg #[.slice cr5 ((Jd ai an).f0).length cr6, .slice cr7 ((Jd ai an).f1).length cr8], .agg #[.slice cs7 ((Jd dt an).f0).length cs8, .slice cs9 ((Jd dt an).f1).length ct0]] (by rfl) rfl rfl (g3_) ?_
 refine(Gi.calls k1 _ _ ((Jd ai an).f0) _ _ ((Jd ai an).f1) _ _ ((Jd dt an).f0) _ _ ((Jd dt an).f1) false _ (uf1_ cs5) em2.out (uf1_ cs6) em3.out (uf1_ ct7) em5.out (uf1_ ct8) em6.out A12.out).mono ?_
 rintro e j5 ⟨rfl,hb⟩
 refine⟨_,rfl,?_⟩
 replace ja:=bb_ ja hb
 replace lh:=bb_ lh hb
 replace HB:=hs_ (ag5) hb
 refine hK.out _ _ ⟨(Gz ja.out 0).trans rfl,(Gz ja.out 1).trans rfl,(Gz ja.out 2).trans rfl,(Gz lh.out 0).trans rfl,(Gz lh.out 1).trans rfl,(Gz lh.out 2).trans rfl,((cl_ HB cs4).trans rfl),((cl_ HB cs3).trans rfl),((cl_ HB ct6).trans rfl),((cl_ HB ct5).trans rfl)⟩ (fun hHeld=>?_)
 clear hK K
 refine nm_ ?_
 refine pw_ 11 31 (tl_ 12 4095) ?_
 refine done_ (done_of HT_.out (g1_)) ?_
 try go_wp2
 go_ret
 exact⟨g4_,ag5⟩
def Gt.f (a0:Int):Option (Bool):=if a0 ≥ (-1000000000) then(some (decide (a0<=1000000000))) else(some false)
set_option maxHeartbeats 8000000 in
set_option maxRecDepth 100000 in
theorem Gt.calls (a0:Int) (r:Bool) (w:World) (h:Gt.f a0=some r) :
  Calls Try.prog 125 #[.int .i64 a0] w fun e w'=>e = .returned (.bool r)/\Drawn0 w w':=by
 have H:=h
 unfold Gt.f at H
 clear h
 by_cases c2:a0 ≥ (-1000000000)
 ·rw[if_pos c2] at H
  have yt:=decide_eq_true c2
  clear c2
  obtain rfl:=Option.some.inj H
  go_enter Try.func125,Try.ntmps125
  go_wp2
  go_ret
  exact⟨g2_,g5_⟩
 rw[if_neg c2] at H
 have yt:=decide_eq_false c2
 clear c2
 obtain rfl:=Option.some.inj H
 go_enter Try.func125,Try.ntmps125
 go_wp2
 go_ret
 exact⟨g2_,g5_⟩
def Gd.l0:Nat->Int->Int->Option (Int)
 | 0,_,_=>none
 | k + 1,x0,x1=>if x1=0 then(some (mx x0 (wrap64 (-x0)))) else(Gd.l0 k x1 (Int.tmod x0 x1))
def Gd.f (k:Nat) (a0:Int) (a1:Int):Option (Int):=Gd.l0 k a0 a1
theorem Gd.mq {p:Prop} (h:p:=by
 repeat' first
 | (with_reducible exact ih0 _ _)
 | (with_reducible exact LeO.refl _)
 | (with_reducible exact LeO.none _)
 | (with_reducible refine LeO.ite ?_ ?_)
 | (with_reducible refine LeO.bind ?_ (fun _=>?_))
 | exact ih0 _ _
 | exact LeO.none _
 | refine LeO.ite ?_ ?_
 | refine LeO.bind ?_ (fun _=>?_)):p:=h
theorem Gd.mono_l:∀k,(∀y0 y1,LeO (Gd.l0 k y0 y1) (Gd.l0 (k + 1) y0 y1))
 | 0=>fun _ _ r h=>by simp[Gd.l0] at h
 | k + 1=>by
  have ih0:=Gd.mono_l k
  ·intro y0 y1
   unfold Gd.l0
   exact Gd.mq
theorem Gd.mono:∀a0 a1 k,LeO (Gd.f k a0 a1) (Gd.f (k + 1) a0 a1):=by
 intro a0 a1 k
 have ih0:=Gd.mono_l k
 unfold Gd.f
 exact Gd.mq
theorem fz8 {p:Prop} (h:p:=by repeat(first|(with_reducible first|exact HB.out|apply G4|apply G3|apply G2)|exact HB.out)):p:=h
set_option maxHeartbeats 8000000 in
set_option maxRecDepth 100000 in
theorem Gd.calls (k:Nat) (a0:Int) (a1:Int) (r:Int) (w:World) (h:Gd.f k a0 a1=some r) :
  Calls Try.prog 126 #[.int .i64 a0, .int .i64 a1] w fun e w'=>e = .returned (.int .i64 r)/\Below w.heap.size w w':=by
 have HB:=A_ (Below.refl w.heap.size w)
 have H:(Gd.l0 k a0 a1)=some r:=h
 clear h
 have H':=A_ H
 clear H
 go_enter Try.func126,Try.ntmps126
 go_wp2
 repeat(go_quiet (fail);try go_wp2)
 go_loopg [0,1] k (fun kq v0 v1 w'=>∃(as8:Int) (as9:Int),v0 = .int .i64 as8/\v1 = .int .i64 as9/\Gy (Gd.l0 kq as8 as9=some r)/\Gy (kq<=k)/\Gy (Below w.heap.size w w'))
 case atStart=>exact⟨(a0),(a1),(g2_),(g2_),H',⟨Nat.le_refl _⟩,⟨fz8⟩⟩
 clear H'
 obtain⟨as8,as9,rfl,rfl,HA,HK1,HB⟩:=hrel
 cases gk with
 | zero=>exact absurd HA.out (by simp[Gd.l0])
 | succ k1=>?_
 have H:=HA.out
 clear HA
 simp only[Gd.l0] at H
 by_cases c3:as9=0
 ·rw[if_pos c3] at H
  have jd:(as9 == 0)=true:=beq_iff_eq.mpr c3
  have n7:(as9 != 0)=false:=bne_eq_false_iff_eq.mpr c3
  clear c3
  obtain⟨ji4,hji4⟩:∃j_:Int,(mx as8 (wrap64 (-as8)))=j_:=⟨_,rfl⟩
  first|rw[hji4] at H|simp only[hji4] at H
  have hji4_:(if as8 < (wrap64 (-as8)) then(wrap64 (-as8)) else as8)=ji4:=hji4
  obtain rfl:=Option.some.inj H
  go_wp2
  repeat(go_quiet (fail);try go_wp2)
  go_ret
  exact⟨by first|rfl|(simp[errW_none,errW_some] <;> rfl)|(simp only[<- hji4];first|rfl|(simp[errW_none,errW_some] <;> rfl))|(simp[*,errW_none,errW_some] <;> rfl),fz8⟩
 rw[if_neg c3] at H
 have jd:(as9 == 0)=false:=beq_eq_false_iff_ne.mpr c3
 have n7:(as9 != 0)=true:=bne_iff_ne.mpr c3
 have H':=A_ H
 clear H
 go_wp2
 repeat(go_quiet (fail);try go_wp2)
 go_roundg k1
 case measure=>have:=HK1.out;omega
 case rel=>exact⟨(as9),(Int.tmod as8 as9),(g2_),(g2_),H',⟨g13_⟩,⟨fz8⟩⟩
def Gp.f (k:Nat) (ma:Int) (n8:Int):Option (Bool):=(Gt.f ma).bind fun cu5=>(if cu5=true then(if n8 ≥ 1 then(if n8<=1000000000 then((Gd.f k ma n8).bind fun cu6=>(some (cu6 == 1))) else(some false)) else(some false)) else(some false))
theorem Gp.mq {p:Prop} (h:p:=by
 repeat' first
 | (with_reducible exact Gd.mono _ _ _)
 | (with_reducible exact LeO.refl _)
 | (with_reducible exact LeO.none _)
 | (with_reducible refine LeO.ite ?_ ?_)
 | (with_reducible refine LeO.bind ?_ (fun _=>?_))
 | exact Gd.mono _ _ _
 | exact LeO.none _
 | refine LeO.ite ?_ ?_
 | refine LeO.bind ?_ (fun _=>?_)):p:=h
theorem Gp.mono:∀a0 a1 k,LeO (Gp.f k a0 a1) (Gp.f (k + 1) a0 a1):=by
 intro a0 a1 k
 unfold Gp.f
 exact Gp.mq
theorem ax9 {p:Prop} (h:p:=by repeat(first|(with_reducible first|exact HB.out|apply G4|apply G3|apply G2|refine G1 ?_ dq1.out)|exact HB.out)):p:=h
set_option maxHeartbeats 8000000 in
set_option maxRecDepth 100000 in
theorem Gp.calls (k:Nat) (ma:Int) (n8:Int) (r:Bool) (w:World) (h:Gp.f k ma n8=some r) :
  Calls Try.prog 108 #[.agg #[.int .i64 ma, .int .i64 n8]] w fun e w'=>e = .returned (.bool r)/\Below w.heap.size w w':=by
 have hu93:=Try.underlying93
 have HB:=A_ (Below.refl w.heap.size w)
 have H:=h
 unfold Gp.f at H
 clear h
 obtain⟨cu5,A2,H⟩:=bind_ H
 by_cases c3:cu5=true
 case neg=>
  replace c3:=Bool.eq_false_iff.mpr c3
  subst c3
  replace H:=ifn_ H
  obtain rfl:=Option.some.inj H
  go_enter Try.func108,Try.ntmps108
  go_wp2_with (first|((with_reducible refine gd_ 1 ?_);refine bx_ (N:=1) #[.int .i64 ma, .int .i64 n8] 93 ?_;intro an2 hg w14 hbox hb;have az3:=A_ (hbox);have em9:=A_ ((g35_:w.heap.size<=an2));have dq1:=em9;replace HB:=hs_ (ax9) hb;clear hb hbox hg;obtain⟨am8,am9,an0,an1⟩:=blk2_ az3)|((with_reducible refine gc_ 125 ?_);refine gl_ 5 Try.func125 #[.int .i64 ma] ?_;(with_reducible refine(Gt.calls ma false _ A2.out).mono ?_);rintro e w' ⟨rfl,⟨nd,rfl⟩⟩;refine⟨_,rfl,?_⟩))
  go_ret
  exact⟨g4_,ax9⟩
 subst c3
 replace H:=ifp_ H
 by_cases c4:n8 ≥ 1
 case neg=>
  rw[if_neg c4] at H
  have mv:=decide_eq_false c4
  clear c4
  obtain rfl:=Option.some.inj H
  go_enter Try.func108,Try.ntmps108
  go_wp2_with (first|((with_reducible refine gd_ 1 ?_);refine bx_ (N:=1) #[.int .i64 ma, .int .i64 n8] 93 ?_;intro an2 hg ws hbox hb;have az3:=A_ (hbox);have em9:=A_ ((g35_:w.heap.size<=an2));have dq1:=em9;replace HB:=hs_ (ax9) hb;clear hb hbox hg;obtain⟨tc,td,te,tf⟩:=blk2_ az3)|((with_reducible refine gc_ 125 ?_);refine gl_ 5 Try.func125 #[.int .i64 ma] ?_;(with_reducible refine(Gt.calls ma true _ A2.out).mono ?_);rintro e w' ⟨rfl,⟨nd,rfl⟩⟩;refine⟨_,rfl,?_⟩))
  go_ret
  exact⟨g4_,ax9⟩
 rw[if_pos c4] at H
 have mv:=decide_eq_true c4
 clear c4
 by_cases c5:n8<=1000000000
 ·rw[if_pos c5] at H
  have ij:=decide_eq_true c5
  clear c5
  obtain⟨cu6,A6,H⟩:=bind_ H
  obtain rfl:=Option.some.inj H
  go_enter Try.func108,Try.ntmps108
  go_wp2_with (first|((with_reducible refine gd_ 1 ?_);refine bx_ (N:=1) #[.int .i64 ma, .int .i64 n8] 93 ?_;intro an2 hg w7 hbox hb;have az3:=A_ (hbox);have em9:=A_ ((g35_:w.heap.size<=an2));have dq1:=em9;replace HB:=hs_ (ax9) hb;clear hb hbox hg;obtain⟨sj,sk,sl,sm⟩:=blk2_ az3)|((with_reducible refine gc_ 125 ?_);refine gl_ 5 Try.func125 #[.int .i64 ma] ?_;(with_reducible refine(Gt.calls ma true _ A2.out).mono ?_);rintro e w' ⟨rfl,⟨nd,rfl⟩⟩;refine⟨_,rfl,?_⟩)|(go_at_call 126;(with_reducible refine(Gd.calls k ma n8 cu6 _ A6.out).mono ?_);rintro e w9 ⟨rfl,hb⟩;replace az3:=bb_ az3 hb;replace HB:=hs_ (ax9) hb))
  go_ret
  exact⟨g4_,ax9⟩
 rw[if_neg c5] at H
 have ij:=decide_eq_false c5
 clear c5
 obtain rfl:=Option.some.inj H
 go_enter Try.func108,Try.ntmps108
 go_wp2_with (first|((with_reducible refine gd_ 1 ?_);refine bx_ (N:=1) #[.int .i64 ma, .int .i64 n8] 93 ?_;intro an2 hg w10 hbox hb;have az3:=A_ (hbox);have em9:=A_ ((g35_:w.heap.size<=an2));have dq1:=em9;replace HB:=hs_ (ax9) hb;clear hb hbox hg;obtain⟨yu,yv,yw,yx⟩:=blk2_ az3)|((with_reducible refine gc_ 125 ?_);refine gl_ 5 Try.func125 #[.int .i64 ma] ?_;(with_reducible refine(Gt.calls ma true _ A2.out).mono ?_);rintro e w' ⟨rfl,⟨nd,rfl⟩⟩;refine⟨_,rfl,?_⟩))
 go_ret
 exact⟨g4_,ax9⟩
def Gf.f (k:Nat) (ma:Int) (n8:Int):Option (Bool):=(Gp.f k ma n8).bind fun cu7=>(some cu7)
theorem Gf.mq {p:Prop} (h:p:=by
 repeat' first
 | (with_reducible exact Gp.mono _ _ _)
 | (with_reducible exact LeO.refl _)
 | (with_reducible exact LeO.none _)
 | (with_reducible refine LeO.ite ?_ ?_)
 | (with_reducible refine LeO.bind ?_ (fun _=>?_))
 | exact Gp.mono _ _ _
 | exact LeO.none _
 | refine LeO.ite ?_ ?_
 | refine LeO.bind ?_ (fun _=>?_)):p:=h
theorem Gf.mono:∀a0 a1 k,LeO (Gf.f k a0 a1) (Gf.f (k + 1) a0 a1):=by
 intro a0 a1 k
 unfold Gf.f
 exact Gf.mq
theorem do7 {p:Prop} (h:p:=by repeat(first|(with_reducible first|exact HB.out|apply G4|apply G3|apply G2|refine G1 ?_ ik7.out)|exact HB.out)):p:=h
set_option maxHeartbeats 8000000 in
set_option maxRecDepth 100000 in
theorem Gf.calls (k:Nat) (ma:Int) (n8:Int) (r:Bool) (w:World) (h:Gf.f k ma n8=some r) :
  Calls Try.prog 71 #[.agg #[.int .i64 ma, .int .i64 n8]] w fun e w'=>e = .returned (.bool r)/\Below w.heap.size w w':=by
 have hu93:=Try.underlying93
 have HB:=A_ (Below.refl w.heap.size w)
 have H:=h
 unfold Gf.f at H
 clear h
 obtain⟨cu7,A2,H⟩:=bind_ H
 obtain rfl:=Option.some.inj H
 go_enter Try.func71,Try.ntmps71
 go_wp2_with (first|((with_reducible refine gd_ 1 ?_);refine bx_ (N:=1) #[.int .i64 ma, .int .i64 n8] 93 ?_;intro gc4 hg w3 hbox hb;have en0:=A_ (hbox);have ll0:=A_ ((by rw[hg];exact(G0 (do7)):w.heap.size<=gc4));have ik7:=ll0;replace HB:=hs_ (do7) hb;clear hb hbox hg;obtain⟨at0,at1,cg7,bh7⟩:=blk2_ en0)|((with_reducible refine gc_ 108 ?_);refine gl_ 4 Try.func108 #[.agg #[.int .i64 ma, .int .i64 n8]] ?_;(with_reducible refine(Gp.calls k ma n8 cu7 _ A2.out).mono ?_);rintro e w5 ⟨rfl,hb⟩;refine⟨_,rfl,?_⟩;replace en0:=bb_ en0 hb;replace HB:=hs_ (do7) hb))
 go_ret
 exact⟨g4_,do7⟩
def Gn.f (k:Nat):Option (Bool):=(Gf.f k 1 2).bind fun cu8=>(if cu8=true then((Gf.f k 2 4).bind fun cu9=>(some (!cu9))) else(some false))
theorem Gn.mq {p:Prop} (h:p:=by
 repeat' first
 | (with_reducible exact Gf.mono _ _ _)
 | (with_reducible exact LeO.refl _)
 | (with_reducible exact LeO.none _)
 | (with_reducible refine LeO.ite ?_ ?_)
 | (with_reducible refine LeO.bind ?_ (fun _=>?_))
 | exact Gf.mono _ _ _
 | exact LeO.none _
 | refine LeO.ite ?_ ?_
 | refine LeO.bind ?_ (fun _=>?_)):p:=h
theorem Gn.mono:∀k,LeO (Gn.f k) (Gn.f (k + 1)):=by
 intro  k
 unfold Gn.f
 exact Gn.mq
theorem do8 {p:Prop} (h:p:=by repeat(first|(with_reducible first|exact HB.out|apply G4|apply G3|apply G2)|exact HB.out)):p:=h
set_option maxHeartbeats 8000000 in
set_option maxRecDepth 100000 in
theorem Gn.calls (k:Nat)  (r:Bool) (w:World) (h:Gn.f k=some r) :
  Calls Try.prog 23 #[] w fun e w'=>e = .returned (.bool r)/\Below w.heap.size w w':=by
 have hu93:=Try.underlying93
 have HB:=A_ (Below.refl w.heap.size w)
 have H:=h
 unfold Gn.f at H
 clear h
 obtain⟨cu8,A1,H⟩:=bind_ H
 by_cases c2:cu8=true
 ·subst c2
  replace H:=ifp_ H
  obtain⟨cu9,A3,H⟩:=bind_ H
  obtain rfl:=Option.some.inj H
  go_enter Try.func23,Try.ntmps23
  go_wp2_with (first|((with_reducible refine gc_ 71 ?_);refine gl_ 2 Try.func71 #[.agg #[.int .i64 1, .int .i64 2]] ?_;(with_reducible refine(Gf.calls k 1 2 true _ A1.out).mono ?_);rintro e w4 ⟨rfl,hb⟩;refine⟨_,rfl,?_⟩;replace HB:=hs_ (do8) hb)|(go_at_call 71;(with_reducible refine(Gf.calls k 2 4 cu9 _ A3.out).mono ?_);rintro e w5 ⟨rfl,hb⟩;replace HB:=hs_ (do8) hb))
  go_ret
  exact⟨g4_,do8⟩
 replace c2:=Bool.eq_false_iff.mpr c2
 subst c2
 replace H:=ifn_ H
 obtain rfl:=Option.some.inj H
 go_enter Try.func23,Try.ntmps23
 go_wp2_with (first|((with_reducible refine gc_ 71 ?_);refine gl_ 2 Try.func71 #[.agg #[.int .i64 1, .int .i64 2]] ?_;(with_reducible refine(Gf.calls k 1 2 false _ A1.out).mono ?_);rintro e w6 ⟨rfl,hb⟩;refine⟨_,rfl,?_⟩;replace HB:=hs_ (do8) hb))
 go_ret
 exact⟨g4_,do8⟩
mutual
def Fg.j0:Nat->Int->Bool->List Int->List (List Int)->Option (Bool)
 | 0,_,_,_,_=>none
 | k + 1,x3,x23,yy,ac4=>if x23=true then(some false) else(Fg.l0 k x3 ac4 (ac4.length:Int) 0 yy ac4)
def Fg.l0:Nat->Int->List (List Int)->Int->Int->List Int->List (List Int)->Option (Bool)
 | 0,_,_,_,_,_,_=>none
 | k + 1,x3,t7,x26,ou,yy,ac4=>if ou < x26 then(if 0<=ou then(if ou < (t7.length:Int) then(if ou < (yy.length:Int) then(if (rd yy ou) < 0 then(Fg.j2 k x3 (Jc t7 ou) t7 x26 ou true yy ac4) else(if (rd yy ou) > 20 then(Fg.j2 k x3 (Jc t7 ou) t7 x26 ou true yy ac4) else(if ((Jc t7 ou).length:Int)=x3 then(if ou < ((Jc t7 ou).length:Int) then(Fg.j2 k x3 (Jc t7 ou) t7 x26 ou ((rd (Jc t7 ou) ou) != 0) yy ac4) else(none)) else(Fg.j2 k x3 (Jc t7 ou) t7 x26 ou true yy ac4)))) else(none)) else(none)) else(none)) else(some true)
def Fg.j2:Nat->Int->List Int->List (List Int)->Int->Int->Bool->List Int->List (List Int)->Option (Bool)
 | 0,_,_,_,_,_,_,_,_=>none
 | k + 1,x3,x5,t7,x26,ou,x58,yy,ac4=>if x58=true then(some false) else(Fg.l1 k x3 t7 x26 ou x5 (x5.length:Int) 0 yy ac4)
def Fg.l1:Nat->Int->List (List Int)->Int->Int->List Int->Int->Int->List Int->List (List Int)->Option (Bool)
 | 0,_,_,_,_,_,_,_,_,_=>none
 | k + 1,x3,t7,x26,ou,x59,x60,x61,yy,ac4=>if x61 < x60 then(if 0<=x61 then(if x61 < (x59.length:Int) then(if (rd x59 x61) < 0 then(some false) else(if (rd x59 x61) > 9 then(some false) else(Fg.l1 k x3 t7 x26 ou x59 x60 (wrap64 (x61 + 1)) yy ac4))) else(none)) else(none)) else(Fg.l0 k x3 t7 x26 (wrap64 (ou + 1)) yy ac4)
end
def Fg.f (k:Nat) (ab:List Int) (aa:List (List Int)):Option (Bool):=if (ab.length:Int) < 1 then(Fg.j0 k (ab.length:Int) true ab aa) else(if (ab.length:Int) > 4 then(Fg.j0 k (ab.length:Int) true ab aa) else(Fg.j0 k (ab.length:Int) ((aa.length:Int) != (ab.length:Int)) ab aa))
theorem sw {p:Prop} (h:p:=by repeat(first|(with_reducible first|exact HB.out|apply G4|apply G3|apply G2|refine G1 ?_ ik8.out)|exact HB.out)):p:=h
set_option maxHeartbeats 8000000 in
set_option maxRecDepth 100000 in
theorem Fg.calls (k:Nat) (ae:Option Addr) (ac:Nat) (ab:List Int) (ag:Option Addr) (af:Nat) (aa:List (List Int)) (r:Bool) (w:World) (ca:Kd.C (Kd.int .i64) w ae ab.length ab) (ce:ab.length<=ac) (cb:Kd.C (Kd.slice 3 (Kd.int .i64)) w ag aa.length aa) (cg:aa.length<=af) (h:Fg.f k ab aa=some r) :
  Calls Try.prog 73 #[.agg #[.slice ae ab.length ac, .slice ag aa.length af]] w fun e w'=>e = .returned (.bool r)/\Below w.heap.size w w':=by
 have hu25:=Try.underlying25
 have bu:=A_ ca
 have cq:=A_ ce
 clear ca ce
 have bf:=A_ cb
 have cu:=A_ cg
 clear cb cg
 have HB:=A_ (Below.refl w.heap.size w)
 have H:=h
 unfold Fg.f at H
 clear h
 have wt:=A_ H
 clear H
 go_enter Try.func73,Try.ntmps73
 go_upto_region 2 with(first|((with_reducible refine gd_ 1 ?_);(try(refine gate_guard (by rfl) ?_;dsimp only));refine bx_ (N:=1) #[.slice ae ab.length ac, .slice ag aa.length af] 25 ?_;intro cg8 hg w3 hbox hb;have pn:=A_ (hbox);have ll1:=A_ ((by rw[hg];exact(G0 (sw)):w.heap.size<=cg8));have ik8:=ll1;replace HB:=hs_ (sw) hb;clear hb hbox hg;obtain⟨at0,at1,cg7,bh7⟩:=blk2_ pn))
 (try simp only[Act.put,List.setIfInBounds_toArray,List.set_cons_zero,List.set_cons_succ])
 go_cut [23] (fun v23 wc=>∃(kq:Nat) (dq2:Bool),v23 = .bool dq2/\Gy (Fg.j0 kq (ab.length:Int) dq2 ab aa=some r)/\Gy (kq<=k)/\Gy (hc_ wc cg8 #[(.slice ae ab.length ac),(.slice ag aa.length af)] 25)/\Gy (Below w.heap.size w wc))
 case first=>
  have H:=wt.out
  clear wt
  by_cases c5:(ab.length:Int) < 1
  ·rw[if_pos c5] at H
   have ij:=decide_eq_true c5
   have bs5:decide (ab.length < 1)=true:=decide_eq_true (by omega)
   clear c5
   (first|rw[ij]|(simp only[i64_w,i32_w];rw[ij])|skip)
   have H':=A_ H
   clear H
   go_wp2
   go_meet
   case rel=>exact⟨_,(true),(g2_),H',⟨g9_⟩,⟨uf0_ pn⟩,⟨sw⟩⟩
  rw[if_neg c5] at H
  have ij:=decide_eq_false c5
  have bs5:decide (ab.length < 1)=false:=decide_eq_false (by omega)
  clear c5
  (first|rw[ij]|(simp only[i64_w,i32_w];rw[ij])|skip)
  by_cases c6:(ab.length:Int) > 4
  ·rw[if_pos c6] at H
   have nk:=decide_eq_true c6
   have bs6:decide (4 < ab.length)=true:=decide_eq_true (by omega)
   clear c6
   have H':=A_ H
   clear H
   go_wp2
   go_meet
   case rel=>exact⟨_,(true),(g2_),H',⟨g9_⟩,⟨uf0_ pn⟩,⟨sw⟩⟩
  rw[if_neg c6] at H
  have nk:=decide_eq_false c6
  have bs6:decide (4 < ab.length)=false:=decide_eq_false (by omega)
  clear c6
  have H':=A_ H
  clear H
  obtain⟨sx,sy,ta,tb⟩:=blk2_ pn
  go_wp2
  go_meet
  case rel=>exact⟨_,(((aa.length:Int) != (ab.length:Int))),(g2_),H',⟨g9_⟩,⟨uf0_ pn⟩,⟨sw⟩⟩
 clear wt
 obtain⟨kq,dq2,rfl,HA,HJ1,pn,HB⟩:=hcut
 cases kq with
 | zero=>exact absurd HA.out (by simp[Fg.j0])
 | succ kj1=>?_
 have H:=HA.out
 clear HA
 simp only[Fg.j0] at H
 by_cases c8:dq2=true
 ·subst c8
  replace H:=ifp_ H
  obtain rfl:=Option.some.inj H
  go_wp2
  go_ret
  exact⟨g4_,sw⟩
 replace c8:=Bool.eq_false_iff.mpr c8
 subst c8
 replace H:=ifn_ H
 have H':=A_ H
 clear H
 obtain⟨cf9,cg0,cg1,cg2⟩:=blk2_ pn
 go_wp2
 go_loopg [27] kj1 (fun kq v27 w'=>∃(gd:Int),v27 = .int .i64 gd/\Gy (Fg.l0 kq (ab.length:Int) aa (aa.length:Int) gd ab aa=some r)/\Gy (kq<=kj1)/\Gy (hc_ w' cg8 #[(.slice ae ab.length ac),(.slice ag aa.length af)] 25)/\Gy (Below w.heap.size w w'))
 case atStart=>exact⟨(0),(g2_),H',⟨Nat.le_refl _⟩,⟨uf0_ pn⟩,⟨sw⟩⟩
 clear H'
 obtain⟨gd,rfl,HA,HK2,pn,HB⟩:=hrel
 cases gk with
 | zero=>exact absurd HA.out (by simp[Fg.l0])
 | succ k2=>?_
 have H:=HA.out
 clear HA
 simp only[Fg.l0] at H
 by_cases fb:gd < (aa.length:Int)
 case neg=>
  rw[if_neg fb] at H
  have o9:=decide_eq_false fb
  clear fb
  obtain rfl:=Option.some.inj H
  go_wp2
  go_ret
  exact⟨g4_,sw⟩
 rw[if_pos fb] at H
 have o9:=decide_eq_true fb
 clear fb
 obtain⟨yr,H⟩:=pd_ H
 obtain⟨t8,H⟩:=pd_ H
 have en1:=A_ H
 clear H
 obtain⟨⟨gc5,ll2,ll3,ik9,dq3,gc6,gc7⟩,cv0,cv1⟩:=rdp_ (at_L1 bf.out gd)
 cases ik9
 replace dq3:=cl_ HB dq3
 have dq4:=A_ gc7
 have ll4:=A_ gc6
 clear gc7 gc6
 go_upto_region 7 with(fail)
 go_cut [58] (fun v58 wc=>∃(kq:Nat) (dq5:Bool),v58 = .bool dq5/\Gy (Fg.j2 kq (ab.length:Int) (Jc aa gd) aa (aa.length:Int) gd dq5 ab aa=some r)/\Gy (kq<=k2)/\Gy (hc_ wc cg8 #[(.slice ae ab.length ac),(.slice (some gc5) aa.length af)] 25)/\Gy (Below w.heap.size w wc))
 case first=>
  have H:=en1.out
  clear en1
  obtain⟨vf,H⟩:=pd_ H
  (first|rw[vf]|(simp only[i64_w,i32_w];rw[vf])|skip)
  by_cases dl:(rd ab gd) < 0
  ·rw[if_pos dl] at H
   have mb:=decide_eq_true dl
   clear dl
   have H':=A_ H
   clear H
   obtain⟨bs7,bs8,bs9,bt0⟩:=blk2_ pn
   obtain⟨⟨cg9,bt1,ac5⟩,t9,ua⟩:=rdp_ (Kd.at_int bu.out gd)
   cases bt1
   replace ac5:=cl_ HB ac5
   go_wp2
   go_meet
   case rel=>exact⟨_,(true),(g2_),H',⟨g46_⟩,⟨uf0_ pn⟩,⟨sw⟩⟩
  rw[if_neg dl] at H
  have mb:=decide_eq_false dl
  clear dl
  by_cases f7:(rd ab gd) > 20
  ·rw[if_pos f7] at H
   have vg:=decide_eq_true f7
   clear f7
   have H':=A_ H
   clear H
   obtain⟨az4,az5,az6,az7⟩:=blk2_ pn
   obtain⟨⟨cg9,bt1,ac5⟩,t9,ua⟩:=rdp_ (Kd.at_int bu.out gd)
   cases bt1
   replace ac5:=cl_ HB ac5
   obtain⟨⟨cv2,cv3,at2⟩,ac6,ac7⟩:=rdp_ (Kd.at_int bu.out gd)
   obtain rfl:cg9=cv2:=(by injection cv3)
   replace at2:=cl_ HB at2
   go_wp2
   go_meet
   case rel=>exact⟨_,(true),(g2_),H',⟨g46_⟩,⟨uf0_ pn⟩,⟨sw⟩⟩
  rw[if_neg f7] at H
  have vg:=decide_eq_false f7
  clear f7
  by_cases ei:((Jc aa gd).length:Int)=(ab.length:Int)
  ·rw[if_pos ei] at H
   have qm:(((Jc aa gd).length:Int) == (ab.length:Int))=true:=beq_iff_eq.mpr ei
   have ac8:(((Jc aa gd).length:Int) != (ab.length:Int))=false:=bne_eq_false_iff_eq.mpr ei
   have ch0:((Jc aa gd).length == ab.length)=true:=by first|simpa using ei|(simp at ei |-;omega)
   clear ei
   obtain⟨bh8,H⟩:=pd_ H
   have H':=A_ H
   clear H
   obtain⟨vh,vi,wu,vj⟩:=blk2_ pn
   obtain⟨⟨cg9,bt1,ac5⟩,t9,ua⟩:=rdp_ (Kd.at_int bu.out gd)
   cases bt1
   replace ac5:=cl_ HB ac5
   obtain⟨⟨cv2,cv3,at2⟩,ac6,ac7⟩:=rdp_ (Kd.at_int bu.out gd)
   obtain rfl:cg9=cv2:=(by injection cv3)
   replace at2:=cl_ HB at2
   obtain⟨⟨ll5,il0,dq6⟩,cv4,cv5⟩:=rdp_ (Kd.at_int dq4.out gd)
   cases il0
   replace dq6:=cl_ HB dq6
   go_wp2
   go_meet
   case rel=>exact⟨_,(((rd (Jc aa gd) gd) != 0)),(g2_),H',⟨g46_⟩,⟨uf0_ pn⟩,⟨sw⟩⟩
  rw[if_neg ei] at H
  have qm:(((Jc aa gd).length:Int) == (ab.length:Int))=false:=beq_eq_false_iff_ne.mpr ei
  have ac8:(((Jc aa gd).length:Int) != (ab.length:Int))=true:=bne_iff_ne.mpr ei
  have ch0:((Jc aa gd).length == ab.length)=false:=by first|simpa using ei|(simp at ei |-;omega)
  have H':=A_ H
  clear H
  obtain⟨an3,an4,an5,an6⟩:=blk2_ pn
  obtain⟨⟨cg9,bt1,ac5⟩,t9,ua⟩:=rdp_ (Kd.at_int bu.out gd)
  cases bt1
  replace ac5:=cl_ HB ac5
  obtain⟨⟨cv2,cv3,at2⟩,ac6,ac7⟩:=rdp_ (Kd.at_int bu.out gd)
  obtain rfl:cg9=cv2:=(by injection cv3)
  replace at2:=cl_ HB at2
  go_wp2
  go_meet
  case rel=>exact⟨_,(true),(g2_),H',⟨g46_⟩,⟨uf0_ pn⟩,⟨sw⟩⟩
 clear en1
 obtain⟨kq,dq5,rfl,HA,HJ12,pn,HB⟩:=hcut
 cases kq with
 | zero=>exact absurd HA.out (by simp[Fg.j2])
 | succ kj12=>?_
 have H:=HA.out
 clear HA
 simp only[Fg.j2] at H
 by_cases kw:dq5=true
 ·subst kw
  replace H:=ifp_ H
  obtain rfl:=Option.some.inj H
  go_wp2
  go_ret
  exact⟨g4_,sw⟩
 replace kw:=Bool.eq_false_iff.mpr kw
 subst kw
 replace H:=ifn_ H
 have H':=A_ H
 clear H
 go_wp2
 go_loopg [61] kj12 (fun kq v61 w'=>∃(vk:Int),v61 = .int .i64 vk/\Gy (Fg.l1 kq (ab.length:Int) aa (aa.length:Int) gd (Jc aa gd) ((Jc aa gd).length:Int) vk ab aa=some r)/\Gy (kq<=kj12)/\Gy (hc_ w' cg8 #[(.slice ae ab.length ac),(.slice (some gc5) aa.length af)] 25)/\Gy (Below w.heap.size w w'))
 case atStart=>exact⟨(0),(g2_),H',⟨Nat.le_refl _⟩,⟨uf0_ pn⟩,⟨sw⟩⟩
 clear H'
 obtain⟨vk,rfl,HA,HK4,pn,HB⟩:=hrel
 cases gk with
 | zero=>exact absurd HA.out (by simp[Fg.l1])
 | succ k4=>?_
 have H:=HA.out
 clear HA
 simp only[Fg.l1] at H
 by_cases i2:vk < ((Jc aa gd).length:Int)
 case neg=>
  rw[if_neg i2] at H
  have vl:=decide_eq_false i2
  clear i2
  have H':=A_ H
  clear H
  go_wp2
  go_roundg k4
  case measure=>have:=HJ1.out;have:=HK2.out;have:=HJ12.out;have:=HK4.out;omega
  case rel=>exact⟨(wrap64 (gd + 1)),(g2_),H',⟨by have:=HJ1.out;have:=HK2.out;have:=HJ12.out;have:=HK4.out;omega⟩,⟨uf0_ pn⟩,⟨sw⟩⟩
 rw[if_pos i2] at H
 have vl:=decide_eq_true i2
 clear i2
 obtain⟨bh9,H⟩:=pd_ H
 obtain⟨ch1,H⟩:=pd_ H
 by_cases my:(rd (Jc aa gd) vk) < 0
 ·rw[if_pos my] at H
  have bt2:=decide_eq_true my
  clear my
  obtain rfl:=Option.some.inj H
  obtain⟨⟨gc8,cv6,bi0⟩,an7,an8⟩:=rdp_ (Kd.at_int dq4.out vk)
  cases cv6
  replace bi0:=cl_ HB bi0
  go_wp2
  go_ret
  exact⟨g4_,sw⟩
 rw[if_neg my] at H
 have bt2:=decide_eq_false my
 clear my
 by_cases lr:(rd (Jc aa gd) vk) > 9
 ·rw[if_pos lr] at H
  have bt3:=decide_eq_true lr
  clear lr
  obtain rfl:=Option.some.inj H
  obtain⟨⟨gc8,cv6,bi0⟩,an7,an8⟩:=rdp_ (Kd.at_int dq4.out vk)
  cases cv6
  replace bi0:=cl_ HB bi0
  go_wp2
  go_ret
  exact⟨g4_,sw⟩
 rw[if_neg lr] at H
 have bt3:=decide_eq_false lr
 clear lr
 have H':=A_ H
 clear H
 obtain⟨⟨gc8,cv6,bi0⟩,an7,an8⟩:=rdp_ (Kd.at_int dq4.out vk)
 cases cv6
 replace bi0:=cl_ HB bi0
 go_wp2
 go_roundg k4
 case measure=>have:=HJ1.out;have:=HK2.out;have:=HJ12.out;have:=HK4.out;omega
 case rel=>exact⟨(wrap64 (vk + 1)),(g2_),H',⟨by have:=HJ1.out;have:=HK2.out;have:=HJ12.out;have:=HK4.out;omega⟩,⟨uf0_ pn⟩,⟨sw⟩⟩
def F2.bad (k:Nat) (n:Int):List S25->Nat->Option Int
 | [],_=>some (-1)
 | x :: r,i=>(Fg.f k x.f0 x.f1).bind fun t=>if t=true then(if (x.f0.length:Int)=n then F2.bad k n r (i + 1) else some (i:Int)) else some (i:Int)
def F2.f (k:Nat) (l0:List Int) (l1:List (List Int)) (l2:List S25):Option Bool:=(Fg.f k l0 l1).bind fun t=>if t=true then(if (l2.length:Int)<=8 then(F2.bad k (l0.length:Int) l2 0).bind fun q=>some (!decide (q ≥ 0)) else some false) else some false
set_option maxHeartbeats 8000000 in
set_option maxRecDepth 100000 in
theorem F2.lit (k:Nat) (A0:Option Addr) (c0:Nat) (l0:List Int) (A1:Option Addr) (c1:Nat) (l1:List (List Int)) (gb:Nat) (AN:Option Addr) (nN cN:Nat) (vD vP:Value) (t:Bool) (w:World) (fc:Kd.C (Kd.int .i64) w A0 l0.length l0) (gc:l0.length<=c0) (j6:Kd.C (Kd.slice 3 (Kd.int .i64)) w A1 l1.length l1) (kh:l1.length<=c1) (hbk:w.heap[gb]? = some (.cells #[.slice AN nN cN,vD,vP] 28 (0,0))) (h:Fg.f k l0 l1=some t) :
  Calls Try.prog 110 #[.agg #[.slice A0 l0.length c0, .slice A1 l1.length c1], .pointer (some ⟨gb,0,none⟩)] w fun e w'=>e = .returned (.bool (if t=true then((l0.length:Int) != (nN:Int)) else true))/\Below w.heap.size w w':=by
 have hu:=Try.underlying25
 have hu2:=Try.underlying28
 have i3:=A_ fc
 have h7:=A_ j6
 have BKD:=A_ hbk
 have HB:=A_ (Below.refl w.heap.size w)
 have HT:=A_ h
 have qn:=A_ gc
 have yz:=A_ kh
 clear fc j6 hbk h gc kh
 by_cases ht:t=true
 ·subst ht
  go_enter Try.func110,Try.ntmps110
  go_wp2_with (first|((with_reducible refine gd_ 2 ?_);refine box_event ?hg (N:=2) ?hd (cs:=#[.slice A0 l0.length c0, .slice A1 l1.length c1]) (t:=25) ?hr ?_;(case hd=>rfl);(case hg=>rfl);(case hr=>first|(go_simp;done)|(go_simp;rfl));intro g2 hg w2 hbox hb;have n0_:=A_ (G9 BKD.out hb);have n1_:=A_ (Jh HB.out hb);have BK:=A_ hbox;clear BKD HB hbox hg;have BKD:=n0_;have HB:=n1_;clear n0_ n1_ hb;have hcz_0:w2.cell? ⟨g2,0,none⟩=some (.slice A0 l0.length c0):=(Gz BK.out 0).trans rfl;have hcz_1:w2.cell? ⟨g2,1,none⟩=some (.slice A1 l1.length c1):=(Gz BK.out 1).trans rfl)|((with_reducible refine gc_ 73 ?_);refine goesL_ (some 5) rfl rfl Try.func73 (g1_) rfl #[.agg #[.slice A0 l0.length c0, .slice A1 l1.length c1]] rfl (g84_) ?_;(refine(Fg.calls k _ _ l0 _ _ l1 true _ (cu_ (Kd.C_below i3.out HB.out)) qn.out (cu_ (Kd.C_below h7.out HB.out)) yz.out HT.out).mono ?_);rintro e w3 ⟨rfl,hb⟩;refine⟨_,rfl,?_⟩;have n0_:=A_ (G9 (by exact uf0_ BKD) hb);have n1_:=A_ (G9 (by(with_reducible repeat(first|refine G6 ?_ _|refine G7 ?_|refine G5 ?_ _));exact BK.out) hb);have n2_:=hs_ (g12_) hb;clear BKD BK HB hb;have BKD:=n0_;have BK:=n1_;have HB:=n2_;clear n0_ n1_ n2_;have hcy_0:w3.cell? ⟨g2,0,none⟩=some (.slice A0 l0.length c0):=(Gz BK.out 0).trans rfl;have hcd_0:w3.cell? ⟨gb,0,none⟩=some (.slice AN nN cN):=(Gz BKD.out 0).trans rfl))
  go_ret
  exact⟨g2_,g12_⟩
 obtain rfl:t=false:=by simpa using ht
 clear ht
 go_enter Try.func110,Try.ntmps110
 go_wp2_with (first|((with_reducible refine gd_ 2 ?_);refine box_event ?hg (N:=2) ?hd (cs:=#[.slice A0 l0.length c0, .slice A1 l1.length c1]) (t:=25) ?hr ?_;(case hd=>rfl);(case hg=>rfl);(case hr=>first|(go_simp;done)|(go_simp;rfl));intro g2 hg w2 hbox hb;have n1_:=A_ (Jh HB.out hb);have BK:=A_ hbox;clear HB hbox hg;have HB:=n1_;clear n1_ hb;have hcz_0:w2.cell? ⟨g2,0,none⟩=some (.slice A0 l0.length c0):=(Gz BK.out 0).trans rfl;have hcz_1:w2.cell? ⟨g2,1,none⟩=some (.slice A1 l1.length c1):=(Gz BK.out 1).trans rfl)|((with_reducible refine gc_ 73 ?_);refine goesL_ (some 5) rfl rfl Try.func73 (g1_) rfl #[.agg #[.slice A0 l0.length c0, .slice A1 l1.length c1]] rfl (g84_) ?_;(refine(Fg.calls k _ _ l0 _ _ l1 false _ (cu_ (Kd.C_below i3.out HB.out)) qn.out (cu_ (Kd.C_below h7.out HB.out)) yz.out HT.out).mono ?_);rintro e w3 ⟨rfl,hb⟩;refine⟨_,rfl,?_⟩;have n2_:=hs_ (g12_) hb;clear HB hb;have HB:=n2_;clear n2_))
 go_ret
 exact⟨g2_,g12_⟩
set_option maxHeartbeats 8000000 in
set_option maxRecDepth 100000 in
theorem F2.index (k:Nat) (A2:Option Addr) (c2:Nat) (l2:List S25) (gb:Nat) (AN:Option Addr) (nN cN:Nat) (vD vP:Value) (r:Int) (w:World) (hr2:Kd.C k25 w A2 l2.length l2) (hc2:l2.length<=c2) (hbk:w.heap[gb]? = some (.cells #[.slice AN nN cN,vD,vP] 28 (0,0))) (h:F2.bad k (nN:Int) l2 0=some r) :
  Calls Try.prog 127 #[.slice A2 l2.length c2, .func (.func 110) #[] #[.pointer (some ⟨gb,0,none⟩)]] w fun e w'=>e = .returned (.int .i64 r)/\Below w.heap.size w w':=by
 have hn:l2.length<=9223372036854775807:=hr2.2.1
 have HR2:=A_ hr2
 have BKD:=A_ hbk
 have HB:=A_ (Below.refl w.heap.size w)
 have H:=A_ h
 clear hr2 hbk h
 generalize hN:l2.length=n at *
 have HN:=A_ hN
 clear hN
 go_enter Try.func127,Try.ntmps127
 go_wp2_with fail
 go_loopg [5,8] n (fun kq v5 v8 w'=>∃j:Nat,kq + j=n/\v8 = .int .i64 j/\Gy (F2.bad k (nN:Int) (l2.drop j) j=some r)/\Gy (Below w.heap.size w w'))
 case atStart=>exact⟨0,rfl,rfl,⟨H.out⟩,⟨g12_⟩⟩
 clear HB H
 obtain⟨j,hj,rfl,HA,HB⟩:=hrel
 by_cases hlt:j < n
 case neg=>
  obtain rfl:j=n:=by omega
  have hr:Gy ((-1:Int)=r):=⟨by have:=HA.out;rw[List.drop_of_length_le (by rw[HN.out];exact Nat.le_refl _)] at this;exact Option.some.inj this⟩
  have jd:decide ((j:Int) < (j:Int))=false:=decide_eq_false (by omega)
  clear HA
  go_wp2_with fail
  go_ret
  exact⟨by rw[<- hr.out];rfl,g12_⟩
 obtain⟨k1,rfl⟩:∃k1,gk=k1 + 1:=⟨gk - 1,by omega⟩
 have hlt2:j < l2.length:=by rw[HN.out];exact hlt
 have hd:l2.drop j=Jd l2 (j:Int) :: l2.drop (j + 1):=by
  rw[List.drop_eq_getElem_cons hlt2];simp[Jd,List.getD_eq_getElem?_getD,List.getElem?_eq_getElem hlt2]
 have HX:=HA.out
 rw[hd] at HX
 simp only[F2.bad] at HX
 clear HA
 obtain⟨ad,B0,d0,B1,d1,e,hx0,ub,hl0,hi0,hl1,hi1⟩:=at_T25 HR2.out (j:Int) (by omega) (by omega)
 cases e
 have hx0':=(HB.out.cell (World.block_lt_of_cell? w _ hx0)).trans hx0
 have hx1':=(HB.out.cell (World.block_lt_of_cell? w _ ub)).trans ub
 rw[Int.toNat_natCast] at hx0' hx1'
 have HI0:=A_ hi0
 have HI1:=A_ hi1
 have HL0:=A_ hl0
 have HL1:=A_ hl1
 have p5:(0<=(j:Int))=True:=eq_true (by omega)
 have q5:((j:Int) < (n:Int))=True:=eq_true (by omega)
 have jd:decide ((j:Int) < (n:Int))=true:=decide_eq_true (by omega)
 clear hx0 ub hi0 hi1 hl0 hl1 hd hlt2
 generalize Jd l2 (j:Int)=y at hx0' hx1' HI0 HI1 HL0 HL1 HX
 obtain⟨t,hT,HX⟩:=Option.bind_eq_some_iff.mp HX
 have HT:=A_ hT
 clear hT
 by_cases hb2:(if t=true then((y.f0.length:Int) != (nN:Int)) else true)=true
 ·have hr:Gy ((j:Int)=r):=⟨by
   by_cases ht:t=true
   ·rw[if_pos ht] at hb2 HX
    rw[if_neg (by simpa using hb2)] at HX
    exact Option.some.inj HX
   ·rw[if_neg ht] at HX;exact Option.some.inj HX⟩
  have HV:=A_ hb2
  clear hb2 HX
  go_wp2_with (go_at_call 110;refine(F2.lit k _ _ y.f0 _ _ y.f1 gb AN nN cN vD vP t _ ?s1 ?s2 ?s3 ?s4 ?s5 HT.out).mono ?_;(case s1=>exact Kd.C_below HI0.out (g12_));(case s2=>exact HL0.out);(case s3=>exact Kd.C_below HI1.out (g12_));(case s4=>exact HL1.out);(case s5=>exact G9 BKD.out (g12_));rintro e w9 ⟨rfl,hb⟩;rw[HV.out];have n0_:=hs_ (g12_) hb;clear HB hb;have HB:=n0_;clear n0_)
  go_ret
  exact⟨by rw[<- hr.out];rfl,g12_⟩
 have hr:Gy (F2.bad k (nN:Int) (l2.drop (j + 1)) (j + 1)=some r):=⟨by
  by_cases ht:t=true
  ·rw[if_pos ht] at hb2 HX
   rw[if_pos (by simpa using hb2)] at HX
   exact HX
  ·rw[if_neg ht] at hb2;exact absurd rfl hb2⟩
 have HV:Gy ((if t=true then((y.f0.length:Int) != (nN:Int)) else true)=false):=⟨by simpa using hb2⟩
 clear hb2 HX
 go_wp2_with (go_at_call 110;refine(F2.lit k _ _ y.f0 _ _ y.f1 gb AN nN cN vD vP t _ ?s1 ?s2 ?s3 ?s4 ?s5 HT.out).mono ?_;(case s1=>exact Kd.C_below HI0.out (g12_));(case s2=>exact HL0.out);(case s3=>exact Kd.C_below HI1.out (g12_));(case s4=>exact HL1.out);(case s5=>exact G9 BKD.out (g12_));rintro e w9 ⟨rfl,hb⟩;rw[HV.out];have n0_:=hs_ (g12_) hb;clear HB hb;have HB:=n0_;clear n0_)
 go_roundg k1
 case measure=>omega
 case rel=>exact⟨j + 1,by omega,by go_num,hr,⟨g12_⟩⟩
theorem F2.contains (k:Nat) (A2:Option Addr) (c2:Nat) (l2:List S25) (gb:Nat) (AN:Option Addr) (nN cN:Nat) (vD vP:Value) (q:Int) (w:World) (hr2:Kd.C k25 w A2 l2.length l2) (hc2:l2.length<=c2) (hbk:w.heap[gb]? = some (.cells #[.slice AN nN cN,vD,vP] 28 (0,0))) (h:F2.bad k (nN:Int) l2 0=some q) :
  Calls Try.prog 109 #[.slice A2 l2.length c2, .func (.func 110) #[] #[.pointer (some ⟨gb,0,none⟩)]] w fun e w'=>e = .returned (.bool (decide (q ≥ 0)))/\Below w.heap.size w w':=by
 have HR2:=A_ hr2
 have BKD:=A_ hbk
 have HB:=A_ (Below.refl w.heap.size w)
 have H:=A_ h
 have wt:=A_ hc2
 clear hr2 hbk h hc2
 go_enter Try.func109,Try.ntmps109
 go_wp2_with (go_at_call 127;refine(F2.index k A2 c2 l2 gb AN nN cN vD vP q _ ?s1 wt.out ?s2 H.out).mono ?_;(case s1=>exact Kd.C_below HR2.out (g12_));(case s2=>exact G9 BKD.out (g12_));rintro e w9 ⟨rfl,hb⟩;have n0_:=hs_ (g12_) hb;clear HB hb;have HB:=n0_;clear n0_)
 go_ret
 exact⟨by rfl,g12_⟩
theorem bq9 {p:Prop} (h:p:=by repeat(first|(with_reducible first|exact HB.out|apply G4|apply G3|apply G2)|exact HB.out)):p:=h
set_option maxHeartbeats 8000000 in
set_option maxRecDepth 100000 in
theorem F2.calls (k:Nat) (A0:Option Addr) (c0:Nat) (l0:List Int) (A1:Option Addr) (c1:Nat) (l1:List (List Int)) (A2:Option Addr) (c2:Nat) (l2:List S25) (r:Bool) (w:World) (fc:Kd.C (Kd.int .i64) w A0 l0.length l0) (gc:l0.length<=c0) (j6:Kd.C (Kd.slice 3 (Kd.int .i64)) w A1 l1.length l1) (kh:l1.length<=c1) (hr2:Kd.C k25 w A2 l2.length l2) (hc2:l2.length<=c2) (h:F2.f k l0 l1 l2=some r) :
  Calls Try.prog 72 #[.agg #[.slice A0 l0.length c0, .slice A1 l1.length c1, .slice A2 l2.length c2]] w fun e w'=>e = .returned (.bool r)/\Below w.heap.size w w':=by
 have hu:=Try.underlying25
 have hu2:=Try.underlying28
 have i3:=A_ fc
 have h7:=A_ j6
 have HR2:=A_ hr2
 have qn:=A_ gc
 have yz:=A_ kh
 have wt:=A_ hc2
 have HB:=A_ (Below.refl w.heap.size w)
 obtain⟨t,h1,h2⟩:=Option.bind_eq_some_iff.mp (show(Fg.f k l0 l1).bind (fun t=>if t=true then(if (l2.length:Int)<=8 then(F2.bad k (l0.length:Int) l2 0).bind (fun q=>some (!decide (q ≥ 0))) else some false) else some false)=some r from h)
 have HT:=A_ h1
 clear fc j6 hr2 gc kh hc2 h h1
 by_cases ht:t=true
 case neg=>
  obtain rfl:t=false:=by simpa using ht
  rw[if_neg (by decide)] at h2
  obtain rfl:=Option.some.inj h2
  clear h2 ht
  go_enter Try.func72,Try.ntmps72
  go_wp2_with (first|((with_reducible refine gd_ 1 ?_);refine bx_ (N:=1) #[.slice A0 l0.length c0, .slice A1 l1.length c1, .slice A2 l2.length c2] 28 ?_;intro gb hg w2 hbox hb;have n1_:=A_ (Jh HB.out hb);have BK:=A_ hbox;clear HB hbox hg;have HB:=n1_;clear n1_ hb;have hcz_0:w2.cell? ⟨gb,0,none⟩=some (.slice A0 l0.length c0):=(Gz BK.out 0).trans rfl;have hcz_1:w2.cell? ⟨gb,1,none⟩=some (.slice A1 l1.length c1):=(Gz BK.out 1).trans rfl)|((with_reducible refine gc_ 73 ?_);refine goesL_ (some 5) rfl rfl Try.func73 k_ rfl #[.agg #[.slice A0 l0.length c0, .slice A1 l1.length c1]] rfl (g84_) ?_;(refine(Fg.calls k _ _ l0 _ _ l1 false _ (uf1_ i3) qn.out (uf1_ h7) yz.out HT.out).mono ?_);rintro e w3 ⟨rfl,hb⟩;refine⟨_,rfl,?_⟩;have n1_:=A_ (G9 (uf0_ BK) hb);have n2_:=hs_ (bq9) hb;clear BK HB hb;have BK:=n1_;have HB:=n2_;clear n1_ n2_;have hcy_2:w3.cell? ⟨gb,2,none⟩=some (.slice A2 l2.length c2):=(Gz BK.out 2).trans rfl))
  go_ret
  exact⟨rfl,bq9⟩
 subst ht
 rw[if_pos rfl] at h2
 by_cases h8:(l2.length:Int)<=8
 ·rw[if_pos h8] at h2
  obtain⟨q,h3,h4⟩:=Option.bind_eq_some_iff.mp h2
  have HQ:=A_ h3
  have hr:Gy ((!decide (q ≥ 0))=r):=⟨Option.some.inj h4⟩
  have c8:decide ((l2.length:Int)<=8)=true:=decide_eq_true h8
  clear h2 h3 h4 h8
  go_enter Try.func72,Try.ntmps72
  go_wp2_with (first|((with_reducible refine gd_ 1 ?_);refine bx_ (N:=1) #[.slice A0 l0.length c0, .slice A1 l1.length c1, .slice A2 l2.length c2] 28 ?_;intro gb hg w2 hbox hb;have n1_:=A_ (Jh HB.out hb);have BK:=A_ hbox;clear HB hbox hg;have HB:=n1_;clear n1_ hb;have hcz_0:w2.cell? ⟨gb,0,none⟩=some (.slice A0 l0.length c0):=(Gz BK.out 0).trans rfl;have hcz_1:w2.cell? ⟨gb,1,none⟩=some (.slice A1 l1.length c1):=(Gz BK.out 1).trans rfl)|((with_reducible refine gc_ 73 ?_);refine goesL_ (some 5) rfl rfl Try.func73 k_ rfl #[.agg #[.slice A0 l0.length c0, .slice A1 l1.length c1]] rfl (g84_) ?_;(refine(Fg.calls k _ _ l0 _ _ l1 true _ (uf1_ i3) qn.out (uf1_ h7) yz.out HT.out).mono ?_);rintro e w3 ⟨rfl,hb⟩;refine⟨_,rfl,?_⟩;have n1_:=A_ (G9 (uf0_ BK) hb);have n2_:=hs_ (bq9) hb;clear BK HB hb;have BK:=n1_;have HB:=n2_;clear n1_ n2_;have hcy_2:w3.cell? ⟨gb,2,none⟩=some (.slice A2 l2.length c2):=(Gz BK.out 2).trans rfl)|(go_at_call 109;refine(F2.contains k A2 c2 l2 gb A0 l0.length c0 (.slice A1 l1.length c1) (.slice A2 l2.length c2) q _ ?s1 wt.out ?s2 HQ.out).mono ?_;(case s1=>exact Kd.C_below HR2.out (bq9));(case s2=>(with_reducible repeat(first|refine G6 ?_ _|refine G7 ?_|refine G5 ?_ _));exact BK.out);rintro e w9 ⟨rfl,hb⟩;replace HB:=hs_ (bq9) hb;clear hb))
  go_ret
  exact⟨by rw[<- hr.out];rfl,bq9⟩
 rw[if_neg h8] at h2
 obtain rfl:=Option.some.inj h2
 have c8:decide ((l2.length:Int)<=8)=false:=decide_eq_false h8
 clear h2 h8
 go_enter Try.func72,Try.ntmps72
 go_wp2_with (first|((with_reducible refine gd_ 1 ?_);refine bx_ (N:=1) #[.slice A0 l0.length c0, .slice A1 l1.length c1, .slice A2 l2.length c2] 28 ?_;intro gb hg w2 hbox hb;have n1_:=A_ (Jh HB.out hb);have BK:=A_ hbox;clear HB hbox hg;have HB:=n1_;clear n1_ hb;have hcz_0:w2.cell? ⟨gb,0,none⟩=some (.slice A0 l0.length c0):=(Gz BK.out 0).trans rfl;have hcz_1:w2.cell? ⟨gb,1,none⟩=some (.slice A1 l1.length c1):=(Gz BK.out 1).trans rfl)|((with_reducible refine gc_ 73 ?_);refine goesL_ (some 5) rfl rfl Try.func73 k_ rfl #[.agg #[.slice A0 l0.length c0, .slice A1 l1.length c1]] rfl (g84_) ?_;(refine(Fg.calls k _ _ l0 _ _ l1 true _ (uf1_ i3) qn.out (uf1_ h7) yz.out HT.out).mono ?_);rintro e w3 ⟨rfl,hb⟩;refine⟨_,rfl,?_⟩;have n1_:=A_ (G9 (uf0_ BK) hb);have n2_:=hs_ (bq9) hb;clear BK HB hb;have BK:=n1_;have HB:=n2_;clear n1_ n2_;have hcy_2:w3.cell? ⟨gb,2,none⟩=some (.slice A2 l2.length c2):=(Gz BK.out 2).trans rfl))
 go_ret
 exact⟨rfl,bq9⟩
def Gk.f (k:Nat) (ab:List Int) (aa:List (List Int)) (ai:List (S25)):Option (Bool):=(F2.f k ab aa ai).bind fun cv7=>(some cv7)
theorem do9 {p:Prop} (h:p:=by repeat(first|(with_reducible first|exact HB.out|apply G4|apply G3|apply G2|refine G1 ?_ il2.out)|exact HB.out)):p:=h
set_option maxHeartbeats 8000000 in
set_option maxRecDepth 100000 in
theorem Gk.calls (k:Nat) (ae:Option Addr) (ac:Nat) (ab:List Int) (ag:Option Addr) (af:Nat) (aa:List (List Int)) (ci:Option Addr) (bv:Nat) (ai:List (S25)) (r:Bool) (w:World) (ca:Kd.C (Kd.int .i64) w ae ab.length ab) (ce:ab.length<=ac) (cb:Kd.C (Kd.slice 3 (Kd.int .i64)) w ag aa.length aa) (cg:aa.length<=af) (k0:Kd.C k25 w ci ai.length ai) (k5:ai.length<=bv) (h:Gk.f k ab aa ai=some r) :
  Calls Try.prog 24 #[.agg #[.slice ae ab.length ac, .slice ag aa.length af, .slice ci ai.length bv]] w fun e w'=>e = .returned (.bool r)/\Below w.heap.size w w':=by
 have hu28:=Try.underlying28
 have bu:=A_ ca
 have cq:=A_ ce
 clear ca ce
 have bf:=A_ cb
 have cu:=A_ cg
 clear cb cg
 have l9:=A_ k0
 have rf:=A_ k5
 clear k0 k5
 have HB:=A_ (Below.refl w.heap.size w)
 have H:=h
 unfold Gk.f at H
 clear h
 obtain⟨cv7,A2,H⟩:=bind_ H
 obtain rfl:=Option.some.inj H
 go_enter Try.func24,Try.ntmps24
 go_wp2_with (first|((with_reducible refine gd_ 1 ?_);refine bx_ (N:=1) #[.slice ae ab.length ac, .slice ag aa.length af, .slice ci ai.length bv] 28 ?_;intro gc9 hg w3 hbox hb;have en2:=A_ (hbox);have ll6:=A_ ((by rw[hg];exact(G0 (do9)):w.heap.size<=gc9));have il2:=ll6;replace HB:=hs_ (do9) hb;clear hb hbox hg;obtain⟨at0,at1,gd0,cg7,bh7,ll7⟩:=blk3_ en2)|((with_reducible refine gc_ 72 ?_);refine gl_ 4 Try.func72 #[.agg #[.slice ae ab.length ac, .slice ag aa.length af, .slice ci ai.length bv]] ?_;(refine(F2.calls k _ _ ab _ _ aa _ _ ai cv7 _ (uf1_ bu) cq.out (uf1_ bf) cu.out (uf1_ l9) rf.out A2.out).mono ?_);rintro e w5 ⟨rfl,hb⟩;refine⟨_,rfl,?_⟩;replace en2:=bb_ en2 hb;replace HB:=hs_ (do9) hb))
 go_ret
 exact⟨g4_,do9⟩
mutual
def F8.l0:Nat->List Int->List (List Int)->Int->Int->Option (List Int)
 | 0,_,_,_,_=>none
 | k + 1,x3,gx,pa,kn=>if kn < pa then(if 0<=kn then(if kn < (gx.length:Int) then(F8.l1 k x3 kn gx pa kn (Jc gx kn) ((Jc gx kn).length:Int) 0) else(none)) else(none)) else(some x3)
def F8.l1:Nat->List Int->Int->List (List Int)->Int->Int->List Int->Int->Int->Option (List Int)
 | 0,_,_,_,_,_,_,_,_=>none
 | k + 1,x3,x4,gx,pa,kn,tg,x21,x22=>if x22 < x21 then(if 0<=x22 then(if x22 < (tg.length:Int) then(if 0<=x4 then(if x4 < (x3.length:Int) then(F8.l1 k (x3.set (x4:Int).toNat (wrap64 ((rd x3 x4) + (rd tg x22)))) x4 gx pa kn tg x21 (wrap64 (x22 + 1))) else(none)) else(none)) else(none)) else(none)) else(F8.l0 k x3 gx pa (wrap64 (kn + 1)))
end
def F8.f (k:Nat) (ab:List Int) (aa:List (List Int)):Option (List Int):=if 0<=(ab.length:Int) then(if ((ab.length:Int):Int).toNat<=35184372088832 then(F8.l0 k (List.replicate ((ab.length:Int):Int).toNat 0) aa (aa.length:Int) 0) else(none)) else(none)
theorem ay0 {p:Prop} (h:p:=by repeat(first|(with_reducible first|exact HB.out|apply G4|apply G3|apply G2|refine G1 ?_ il3.out)|exact HB.out)):p:=h
set_option maxHeartbeats 8000000 in
set_option maxRecDepth 100000 in
theorem F8.calls (k:Nat) (ae:Option Addr) (ac:Nat) (ab:List Int) (ag:Option Addr) (af:Nat) (aa:List (List Int)) (r:List Int) (w:World) (ca:Kd.C (Kd.int .i64) w ae ab.length ab) (ce:ab.length<=ac) (cb:Kd.C (Kd.slice 3 (Kd.int .i64)) w ag aa.length aa) (cg:aa.length<=af) (h:F8.f k ab aa=some r) :
  Calls Try.prog 74 #[.agg #[.slice ae ab.length ac, .slice ag aa.length af]] w fun e w'=>∃v0_:Value,e = .returned (v0_)/\Kd.R (Kd.int .i64) 3 w' w.heap.size (fun _=>True) v0_ r/\Below w.heap.size w w':=by
 have hu25:=Try.underlying25
 have bu:=A_ ca
 have cq:=A_ ce
 clear ca ce
 have bf:=A_ cb
 have cu:=A_ cg
 clear cb cg
 have HB:=A_ (Below.refl w.heap.size w)
 have H:=h
 unfold F8.f at H
 clear h
 obtain⟨c2,H⟩:=pos_ H
 have yt:=eq_true c2
 have at3:=decide_eq_true c2
 clear c2
 obtain⟨c3,H⟩:=pos_ H
 have jd:=eq_true c3
 have n7:=decide_eq_true c3
 clear c3
 obtain⟨gd1,hyq⟩:∃y_:List Int,y_=(List.replicate ((ab.length:Int):Int).toNat 0):=⟨_,rfl⟩
 replace H:(F8.l0 k gd1 aa (aa.length:Int) 0)=some r:=qh_
 have gd2:=A_ hyq
 clear hyq
 have H':=A_ H
 clear H
 go_enter Try.func74,Try.ntmps74
 go_wp2_with (first|((with_reducible refine gd_ 1 ?_);refine bx_ (N:=1) #[.slice ae ab.length ac, .slice ag aa.length af] 25 ?_;intro cv8 hg w4 hbox hb;have ac9:=A_ (hbox);have ll8:=A_ ((by rw[hg];exact(G0 (ay0)):w.heap.size<=cv8));have il3:=ll8;replace HB:=hs_ (ay0) hb;clear hb hbox hg;obtain⟨bt4,bt5,bt6,bt7⟩:=blk2_ ac9)|((with_reducible refine gd_ 11 ?_);refine Kd.R_make (Kd.int .i64) _ 3 rfl (N:=11) rfl 22 _ _ rfl (ab.length:Int) rfl rfl Try.underlying22 (.int .i64 0) 8 info3 rfl (by decide) (by omega) 0 (ok:=fun _=>True) (okp:=fun _=>True) rfl (fun _ hk=>hk) trivial (od_) (Nat.le_trans (Nat.mul_le_mul_right _ (od_:(ab.length:Int).toNat<=35184372088832)) (by omega)) (Below.refl _ _) (Nat.le_refl _) ?_;intro gd3 w6 ho7 hb hg_ hnew_;clear hg_ hnew_;(first|rw[<- gd2.out] at ho7|(simp only[Int.reduceToNat] at ho7;rw[<- gd2.out] at ho7));have il4:=A_ (Kd.R_lower ho7 (G0 (ay0)));replace ac9:=bb_ ac9 hb;replace HB:=hs_ (ay0) hb;clear hb ho7;obtain⟨sj,sk,sl,sm⟩:=blk2_ ac9))
 go_loopg [15] k (fun kq v15 w'=>∃(cj:List Int) (ed:Int),v15 = .int .i64 ed/\Gy (F8.l0 kq cj aa (aa.length:Int) ed=some r)/\Gy (kq<=k)/\Gy (Kd.R (Kd.int .i64) 3 w' w.heap.size (fun _=>True) gd3 cj)/\Gy (hc_ w' cv8 #[(.slice ae ab.length ac),(.slice ag aa.length af)] 25)/\Gy (Below w.heap.size w w'))
 case atStart=>exact⟨(gd1),(0),(g2_),H',⟨Nat.le_refl _⟩,⟨uf2_ il4⟩,⟨uf0_ ac9⟩,⟨ay0⟩⟩
 clear H'
 obtain⟨cj,ed,rfl,HA,HK1,au,ac9,HB⟩:=hrel
 cases gk with
 | zero=>exact absurd HA.out (by simp[F8.l0])
 | succ k1=>?_
 have H:=HA.out
 clear HA
 simp only[F8.l0] at H
 by_cases c9:ed < (aa.length:Int)
 case neg=>
  rw[if_neg c9] at H
  have ac3:=decide_eq_false c9
  clear c9
  obtain rfl:=Option.some.inj H
  go_wp2
  go_ret
  exact⟨_,g4_,uf2_ au,ay0⟩
 rw[if_pos c9] at H
 have ac3:=decide_eq_true c9
 clear c9
 obtain⟨o9,H⟩:=pd_ H
 obtain⟨yr,H⟩:=pd_ H
 have H':=A_ H
 clear H
 obtain⟨⟨gd4,ll9,lm0,il5,en3,gd5,gd6⟩,dq7,dq8⟩:=rdp_ (at_L1 bf.out ed)
 cases il5
 replace en3:=cl_ HB en3
 have il6:=A_ gd6
 have lm1:=A_ gd5
 clear gd6 gd5
 go_wp2
 go_loopg [22] k1 (fun kq v22 w'=>∃(b6:List Int) (ag6:Int),v22 = .int .i64 ag6/\Gy (F8.l1 kq b6 ed aa (aa.length:Int) ed (Jc aa ed) ((Jc aa ed).length:Int) ag6=some r)/\Gy (kq<=k1)/\Gy (Kd.R (Kd.int .i64) 3 w' w.heap.size (fun _=>True) gd3 b6)/\Gy (hc_ w' cv8 #[(.slice ae ab.length ac),(.slice (some gd4) aa.length af)] 25)/\Gy (Below w.heap.size w w'))
 case atStart=>exact⟨(cj),(0),(g2_),H',⟨Nat.le_refl _⟩,⟨uf2_ au⟩,⟨uf0_ ac9⟩,⟨ay0⟩⟩
 clear H'
 obtain⟨b6,ag6,rfl,HA,HK2,au,ac9,HB⟩:=hrel
 cases gk with
 | zero=>exact absurd HA.out (by simp[F8.l1])
 | succ k2=>?_
 have H:=HA.out
 clear HA
 simp only[F8.l1] at H
 by_cases go:ag6 < ((Jc aa ed).length:Int)
 case neg=>
  rw[if_neg go] at H
  have t8:=decide_eq_false go
  clear go
  have H':=A_ H
  clear H
  go_wp2
  go_roundg k2
  case measure=>have:=HK1.out;have:=HK2.out;omega
  case rel=>exact⟨(b6),(wrap64 (ed + 1)),(g2_),H',⟨g16_⟩,⟨uf2_ au⟩,⟨uf0_ ac9⟩,⟨ay0⟩⟩
 rw[if_pos go] at H
 have t8:=decide_eq_true go
 clear go
 obtain⟨az8,H⟩:=pd_ H
 obtain⟨vf,H⟩:=pd_ H
 obtain⟨mb,H⟩:=pd_ H
 obtain⟨vm,H⟩:=pd_ H
 obtain⟨en4,hyq⟩:∃y_:List Int,y_=(b6.set (ed:Int).toNat (wrap64 ((rd b6 ed) + (rd (Jc aa ed) ag6)))):=⟨_,rfl⟩
 replace H:(F8.l1 k2 en4 ed aa (aa.length:Int) ed (Jc aa ed) ((Jc aa ed).length:Int) (wrap64 (ag6 + 1)))=some r:=qh_
 have il7:=A_ hyq
 clear hyq
 have H':=A_ H
 clear H
 obtain⟨⟨lm2,il8,gd7⟩,en5,en6⟩:=rdp_ (Kd.at_int il6.out ag6)
 cases il8
 replace gd7:=cl_ HB gd7
 obtain⟨az,ay,az9⟩:=Kd.R_slice au.out
 subst az9
 obtain⟨⟨lm3,il9,im0⟩,en7,en8⟩:=rdp_ (Kd.at_int (Kd.R_reads' au.out).2.2 ed)
 cases il9
 have p17:0<=(ed:Int):=od_
 have q17:(ed:Int) < ((b6.length:Int):Int):=od_
 obtain⟨en9,ey,vn,gd8,gl17,cl17,HG17⟩:=Kd.R_form au.out (by omega)
 (first|cases vn|(injection vn with ea_ en_ ec_;(first|subst ea_|(injection ea_ with ea_;subst ea_));subst ec_;clear en_))
 have GB17:=A_ gd8
 have GG17:=A_ HG17
 clear gd8 gl17 HG17
 (first|simp only[add_plain] at im0|skip)
 obtain⟨lm4,hf17_0⟩:=Kd.R_celln 0 au.out (ed:Int) p17 q17
 replace p17:=eq_true p17
 replace q17:=eq_true q17
 have HP19:=Kd.R_putg au.out (ed:Int) (wrap64 ((rd b6 ed) + (rd (Jc aa ed) ag6)))
 go_wp2_with (first|((with_reducible refine gate_store (t:=3) (p:=32) rfl ?_);refine store_event (t:=3) (p:=32) (v:=?vo_w20) (w1:=(wr.setCell ⟨en9,(ed:Int).toNat,none⟩ (.int .i64 (wrap64 ((rd b6 ed) + (rd (Jc aa ed) ag6)))))) ?hg ?ho ?hn ?hr ?_;(case ho=>rfl);(case hg=>rfl);(case hn=>rfl);(case hr=>first|(go_simp;done)|(go_simp;rfl));intro hf hw;have hg:wr.grownBy hf (some en9):=(by rw[hw];exact HP19.2);have hp_:Kd.R (Kd.int .i64) 3 hf w.heap.size (fun _=>True) (.slice (some ⟨en9,0,none⟩) b6.length ay) en4:=(by rw[hw,il7.out];exact HP19.1);clear HP19;replace ac9:=(bg_ ac9 hg (Kd.R_ne au.out ac9.out (by decide)));replace au:=A_ (hp_);replace HB:=A_ ((by rw[hw];exact G1 (HB.out) GB17.out:Below w.heap.size w hf));clear hg hw hp_))
 go_roundg k2
 case measure=>have:=HK1.out;have:=HK2.out;omega
 case rel=>exact⟨(en4),(wrap64 (ag6 + 1)),(g2_),H',⟨g16_⟩,⟨uf2_ au⟩,⟨uf0_ ac9⟩,⟨ay0⟩⟩
mutual
def F9.l0:Nat->List Int->List (List Int)->Int->Int->Option (List Int)
 | 0,_,_,_,_=>none
 | k + 1,x3,gx,pa,kn=>if kn < pa then(if 0<=kn then(if kn < (gx.length:Int) then(F9.l1 k x3 gx pa kn (Jc gx kn) ((Jc gx kn).length:Int) 0) else(none)) else(none)) else(some x3)
def F9.l1:Nat->List Int->List (List Int)->Int->Int->List Int->Int->Int->Option (List Int)
 | 0,_,_,_,_,_,_,_=>none
 | k + 1,x3,gx,pa,kn,x19,tg,x21=>if x21 < tg then(if 0<=x21 then(if x21 < (x19.length:Int) then(if x21 < (x3.length:Int) then(F9.l1 k (x3.set (x21:Int).toNat (wrap64 ((rd x3 x21) + (rd x19 x21)))) gx pa kn x19 tg (wrap64 (x21 + 1))) else(none)) else(none)) else(none)) else(F9.l0 k x3 gx pa (wrap64 (kn + 1)))
end
def F9.f (k:Nat) (ab:List Int) (aa:List (List Int)):Option (List Int):=if 0<=(ab.length:Int) then(if ((ab.length:Int):Int).toNat<=35184372088832 then(F9.l0 k (List.replicate ((ab.length:Int):Int).toNat 0) aa (aa.length:Int) 0) else(none)) else(none)
theorem ay1 {p:Prop} (h:p:=by repeat(first|(with_reducible first|exact HB.out|apply G4|apply G3|apply G2|refine G1 ?_ im1.out)|exact HB.out)):p:=h
set_option maxHeartbeats 8000000 in
set_option maxRecDepth 100000 in
theorem F9.calls (k:Nat) (ae:Option Addr) (ac:Nat) (ab:List Int) (ag:Option Addr) (af:Nat) (aa:List (List Int)) (r:List Int) (w:World) (ca:Kd.C (Kd.int .i64) w ae ab.length ab) (ce:ab.length<=ac) (cb:Kd.C (Kd.slice 3 (Kd.int .i64)) w ag aa.length aa) (cg:aa.length<=af) (h:F9.f k ab aa=some r) :
  Calls Try.prog 112 #[.agg #[.slice ae ab.length ac, .slice ag aa.length af]] w fun e w'=>∃v0_:Value,e = .returned (v0_)/\Kd.R (Kd.int .i64) 3 w' w.heap.size (fun _=>True) v0_ r/\Below w.heap.size w w':=by
 have hu25:=Try.underlying25
 have bu:=A_ ca
 have cq:=A_ ce
 clear ca ce
 have bf:=A_ cb
 have cu:=A_ cg
 clear cb cg
 have HB:=A_ (Below.refl w.heap.size w)
 have H:=h
 unfold F9.f at H
 clear h
 obtain⟨c2,H⟩:=pos_ H
 have yt:=eq_true c2
 have at3:=decide_eq_true c2
 clear c2
 obtain⟨c3,H⟩:=pos_ H
 have jd:=eq_true c3
 have n7:=decide_eq_true c3
 clear c3
 obtain⟨gd9,hyq⟩:∃y_:List Int,y_=(List.replicate ((ab.length:Int):Int).toNat 0):=⟨_,rfl⟩
 replace H:(F9.l0 k gd9 aa (aa.length:Int) 0)=some r:=qh_
 have ge0:=A_ hyq
 clear hyq
 have H':=A_ H
 clear H
 go_enter Try.func112,Try.ntmps112
 go_wp2_with (first|((with_reducible refine gd_ 1 ?_);refine bx_ (N:=1) #[.slice ae ab.length ac, .slice ag aa.length af] 25 ?_;intro cv9 hg w4 hbox hb;have ad2:=A_ (hbox);have lm5:=A_ ((by rw[hg];exact(G0 (ay1)):w.heap.size<=cv9));have im1:=lm5;replace HB:=hs_ (ay1) hb;clear hb hbox hg;obtain⟨bt4,bt5,bt6,bt7⟩:=blk2_ ad2)|((with_reducible refine gd_ 11 ?_);refine Kd.R_make (Kd.int .i64) _ 3 rfl (N:=11) rfl 22 _ _ rfl (ab.length:Int) rfl rfl Try.underlying22 (.int .i64 0) 8 info3 rfl (by decide) (by omega) 0 (ok:=fun _=>True) (okp:=fun _=>True) rfl (fun _ hk=>hk) trivial (od_) (Nat.le_trans (Nat.mul_le_mul_right _ (od_:(ab.length:Int).toNat<=35184372088832)) (by omega)) (Below.refl _ _) (Nat.le_refl _) ?_;intro ge1 w6 ho7 hb hg_ hnew_;clear hg_ hnew_;(first|rw[<- ge0.out] at ho7|(simp only[Int.reduceToNat] at ho7;rw[<- ge0.out] at ho7));have im2:=A_ (Kd.R_lower ho7 (G0 (ay1)));replace ad2:=bb_ ad2 hb;replace HB:=hs_ (ay1) hb;clear hb ho7;obtain⟨sj,sk,sl,sm⟩:=blk2_ ad2))
 go_loopg [15] k (fun kq v15 w'=>∃(cj:List Int) (ed:Int),v15 = .int .i64 ed/\Gy (F9.l0 kq cj aa (aa.length:Int) ed=some r)/\Gy (kq<=k)/\Gy (Kd.R (Kd.int .i64) 3 w' w.heap.size (fun _=>True) ge1 cj)/\Gy (hc_ w' cv9 #[(.slice ae ab.length ac),(.slice ag aa.length af)] 25)/\Gy (Below w.heap.size w w'))
 case atStart=>exact⟨(gd9),(0),(g2_),H',⟨Nat.le_refl _⟩,⟨uf2_ im2⟩,⟨uf0_ ad2⟩,⟨ay1⟩⟩
 clear H'
 obtain⟨cj,ed,rfl,HA,HK1,au,ad2,HB⟩:=hrel
 cases gk with
 | zero=>exact absurd HA.out (by simp[F9.l0])
 | succ k1=>?_
 have H:=HA.out
 clear HA
 simp only[F9.l0] at H
 by_cases c9:ed < (aa.length:Int)
 case neg=>
  rw[if_neg c9] at H
  have ac3:=decide_eq_false c9
  clear c9
  obtain rfl:=Option.some.inj H
  go_wp2
  go_ret
  exact⟨_,g4_,uf2_ au,ay1⟩
 rw[if_pos c9] at H
 have ac3:=decide_eq_true c9
 clear c9
 obtain⟨o9,H⟩:=pd_ H
 obtain⟨yr,H⟩:=pd_ H
 have H':=A_ H
 clear H
 obtain⟨⟨ge2,lm6,lm7,im3,eo0,ge3,ge4⟩,dq9,dr0⟩:=rdp_ (at_L1 bf.out ed)
 cases im3
 replace eo0:=cl_ HB eo0
 have im4:=A_ ge4
 have lm8:=A_ ge3
 clear ge4 ge3
 go_wp2
 go_loopg [21] k1 (fun kq v21 w'=>∃(b6:List Int) (ov:Int),v21 = .int .i64 ov/\Gy (F9.l1 kq b6 aa (aa.length:Int) ed (Jc aa ed) ((Jc aa ed).length:Int) ov=some r)/\Gy (kq<=k1)/\Gy (Kd.R (Kd.int .i64) 3 w' w.heap.size (fun _=>True) ge1 b6)/\Gy (hc_ w' cv9 #[(.slice ae ab.length ac),(.slice (some ge2) aa.length af)] 25)/\Gy (Below w.heap.size w w'))
 case atStart=>exact⟨(cj),(0),(g2_),H',⟨Nat.le_refl _⟩,⟨uf2_ au⟩,⟨uf0_ ad2⟩,⟨ay1⟩⟩
 clear H'
 obtain⟨b6,ov,rfl,HA,HK2,au,ad2,HB⟩:=hrel
 cases gk with
 | zero=>exact absurd HA.out (by simp[F9.l1])
 | succ k2=>?_
 have H:=HA.out
 clear HA
 simp only[F9.l1] at H
 by_cases go:ov < ((Jc aa ed).length:Int)
 case neg=>
  rw[if_neg go] at H
  have t8:=decide_eq_false go
  clear go
  have H':=A_ H
  clear H
  go_wp2
  go_roundg k2
  case measure=>have:=HK1.out;have:=HK2.out;omega
  case rel=>exact⟨(b6),(wrap64 (ed + 1)),(g2_),H',⟨g16_⟩,⟨uf2_ au⟩,⟨uf0_ ad2⟩,⟨ay1⟩⟩
 rw[if_pos go] at H
 have t8:=decide_eq_true go
 clear go
 obtain⟨az8,H⟩:=pd_ H
 obtain⟨vf,H⟩:=pd_ H
 obtain⟨mb,H⟩:=pd_ H
 obtain⟨eo1,hyq⟩:∃y_:List Int,y_=(b6.set (ov:Int).toNat (wrap64 ((rd b6 ov) + (rd (Jc aa ed) ov)))):=⟨_,rfl⟩
 replace H:(F9.l1 k2 eo1 aa (aa.length:Int) ed (Jc aa ed) ((Jc aa ed).length:Int) (wrap64 (ov + 1)))=some r:=qh_
 have im5:=A_ hyq
 clear hyq
 have H':=A_ H
 clear H
 obtain⟨⟨lm9,im6,ge5⟩,eo2,eo3⟩:=rdp_ (Kd.at_int im4.out ov)
 cases im6
 replace ge5:=cl_ HB ge5
 obtain⟨fd,ey,vn⟩:=Kd.R_slice au.out
 subst vn
 obtain⟨⟨ln0,im7,im8⟩,eo4,eo5⟩:=rdp_ (Kd.at_int (Kd.R_reads' au.out).2.2 ov)
 cases im7
 have p16:0<=(ov:Int):=od_
 have q16:(ov:Int) < ((b6.length:Int):Int):=od_
 obtain⟨eo6,jy,at5,ge6,gl16,cl16,HG16⟩:=Kd.R_form au.out (by omega)
 (first|cases at5|(injection at5 with ea_ en_ ec_;(first|subst ea_|(injection ea_ with ea_;subst ea_));subst ec_;clear en_))
 have GB16:=A_ ge6
 have GG16:=A_ HG16
 clear ge6 gl16 HG16
 (first|simp only[add_plain] at im8|skip)
 obtain⟨ln1,hf16_0⟩:=Kd.R_celln 0 au.out (ov:Int) p16 q16
 replace p16:=eq_true p16
 replace q16:=eq_true q16
 have HP18:=Kd.R_putg au.out (ov:Int) (wrap64 ((rd b6 ov) + (rd (Jc aa ed) ov)))
 go_wp2_with (first|((with_reducible refine gate_store (t:=3) (p:=32) rfl ?_);refine store_event (t:=3) (p:=32) (v:=?vo_w19) (w1:=(wr.setCell ⟨eo6,(ov:Int).toNat,none⟩ (.int .i64 (wrap64 ((rd b6 ov) + (rd (Jc aa ed) ov)))))) ?hg ?ho ?hn ?hr ?_;(case ho=>rfl);(case hg=>rfl);(case hn=>rfl);(case hr=>first|(go_simp;done)|(go_simp;rfl));intro iq hw;have hg:wr.grownBy iq (some eo6):=(by rw[hw];exact HP18.2);have hp_:Kd.R (Kd.int .i64) 3 iq w.heap.size (fun _=>True) (.slice (some ⟨eo6,0,none⟩) b6.length ey) eo1:=(by rw[hw,im5.out];exact HP18.1);clear HP18;replace ad2:=(bg_ ad2 hg (Kd.R_ne au.out ad2.out (by decide)));replace au:=A_ (hp_);replace HB:=A_ ((by rw[hw];exact G1 (HB.out) GB16.out:Below w.heap.size w iq));clear hg hw hp_))
 go_roundg k2
 case measure=>have:=HK1.out;have:=HK2.out;omega
 case rel=>exact⟨(eo1),(wrap64 (ov + 1)),(g2_),H',⟨g16_⟩,⟨uf2_ au⟩,⟨uf0_ ad2⟩,⟨ay1⟩⟩
def Gq.l0:Nat->List Int->List Int->Int->Int->Option (List Int)
 | 0,_,_,_,_=>none
 | k + 1,x3,x9,wv,ls=>if ls < wv then(if 0<=ls then(if ls < (x9.length:Int) then(if ls < (x3.length:Int) then(Gq.l0 k (x3.set (ls:Int).toNat (wrap64 ((rd x3 ls) - (rd x9 ls)))) x9 wv (wrap64 (ls + 1))) else(none)) else(none)) else(none)) else(some x3)
def Gq.f (k:Nat) (ab:List Int) (aa:List (List Int)):Option (List Int):=(F9.f k ab aa).bind fun k6=>((F8.f k ab aa).bind fun i1=>(Gq.l0 k k6 i1 (i1.length:Int) 0))
theorem ay2 {p:Prop} (h:p:=by repeat(first|(with_reducible first|exact HB.out|apply G4|apply G3|apply G2|refine G1 ?_ ep0.out)|exact HB.out)):p:=h
set_option maxHeartbeats 8000000 in
set_option maxRecDepth 100000 in
theorem Gq.calls (k:Nat) (ae:Option Addr) (ac:Nat) (ab:List Int) (ag:Option Addr) (af:Nat) (aa:List (List Int)) (r:List Int) (w:World) (ca:Kd.C (Kd.int .i64) w ae ab.length ab) (ce:ab.length<=ac) (cb:Kd.C (Kd.slice 3 (Kd.int .i64)) w ag aa.length aa) (cg:aa.length<=af) (h:Gq.f k ab aa=some r) :
  Calls Try.prog 94 #[.agg #[.slice ae ab.length ac, .slice ag aa.length af]] w fun e w'=>∃v0_:Value,e = .returned (v0_)/\Kd.R (Kd.int .i64) 3 w' w.heap.size (fun _=>True) v0_ r/\Below w.heap.size w w':=by
 have hu25:=Try.underlying25
 have bu:=A_ ca
 have cq:=A_ ce
 clear ca ce
 have bf:=A_ cb
 have cu:=A_ cg
 clear cb cg
 have HB:=A_ (Below.refl w.heap.size w)
 have H:=h
 unfold Gq.f at H
 clear h
 obtain⟨k6,A2,H⟩:=bind_ H
 obtain⟨i1,A3,H⟩:=bind_ H
 have H':=A_ H
 clear H
 go_enter Try.func94,Try.ntmps94
 go_wp2_with (first|((with_reducible refine gd_ 1 ?_);refine bx_ (N:=1) #[.slice ae ab.length ac, .slice ag aa.length af] 25 ?_;intro n9 hg w4 hbox hb;have ki:=A_ (hbox);have im9:=A_ ((by rw[hg];exact(G0 (ay2)):w.heap.size<=n9));have ep0:=im9;replace HB:=hs_ (ay2) hb;clear hb hbox hg;obtain⟨bt4,bt5,bt6,bt7⟩:=blk2_ ki)|((with_reducible refine gc_ 112 ?_);refine gl_ 7 Try.func112 #[.agg #[.slice ae ab.length ac, .slice ag aa.length af]] ?_;(refine(F9.calls k _ _ ab _ _ aa k6 _ (uf1_ bu) cq.out (uf1_ bf) cu.out A2.out).mono ?_);rintro e w6 ⟨ep1,rfl,aj,hb⟩;refine⟨_,rfl,?_⟩;have ba0:=A_ (Kd.R_lower aj (G0 (ay2)));replace ki:=bb_ ki hb;replace HB:=hs_ (ay2) hb;obtain⟨sx,sy,ta,tb⟩:=blk2_ ki)|((with_reducible refine gc_ 74 ?_);refine gl_ 9 Try.func74 #[.agg #[.slice ae ab.length ac, .slice ag aa.length af]] ?_;(refine(F8.calls k _ _ ab _ _ aa i1 _ (uf1_ bu) cq.out (uf1_ bf) cu.out A3.out).mono ?_);rintro e w8 ⟨in0,rfl,aj,hb⟩;refine⟨_,rfl,?_⟩;have bt8:=A_ (Kd.R_lower (Kd.R_new' aj (Kd.R_lt (uf2_ ba0))) (G0 (ay2)));replace ba0:=A_ (Kd.R_elder' (uf2_ ba0) (Kd.R_base aj) hb);replace ki:=bb_ ki hb;replace HB:=hs_ (ay2) hb;obtain⟨ft,fs,eo9⟩:=Kd.R_slice bt8.out;subst eo9))
 go_loopg [11] k (fun kq v11 w'=>∃(cj:List Int) (gj:Int),v11 = .int .i64 gj/\Gy (Gq.l0 kq cj i1 (i1.length:Int) gj=some r)/\Gy (kq<=k)/\Gy (Kd.R (Kd.int .i64) 3 w' w.heap.size (fun k_=>some k_≠((.slice ft i1.length fs):Value).ownBlock) ep1 cj)/\Gy (Kd.R (Kd.int .i64) 3 w' w.heap.size (fun k_=>some k_≠(ep1:Value).ownBlock) (.slice ft i1.length fs) i1)/\Gy (hc_ w' n9 #[(.slice ae ab.length ac),(.slice ag aa.length af)] 25)/\Gy (Below w.heap.size w w'))
 case atStart=>exact⟨(k6),(0),(g2_),H',⟨Nat.le_refl _⟩,⟨by(with_reducible repeat(first|apply Kd.R_alloc|apply Kd.R_drewN|apply Kd.R_drew));exact Kd.R_mono ba0.out (fun _ hk=>hk.2)⟩,⟨by(with_reducible repeat(first|apply Kd.R_alloc|apply Kd.R_drewN|apply Kd.R_drew));exact Kd.R_mono bt8.out (fun _ hk=>hk.2)⟩,⟨uf0_ ki⟩,⟨ay2⟩⟩
 clear H'
 obtain⟨cj,gj,rfl,HA,HK1,au,kx,ki,HB⟩:=hrel
 cases gk with
 | zero=>exact absurd HA.out (by simp[Gq.l0])
 | succ k1=>?_
 have H:=HA.out
 clear HA
 simp only[Gq.l0] at H
 by_cases fb:gj < (i1.length:Int)
 case neg=>
  rw[if_neg fb] at H
  have o9:=decide_eq_false fb
  clear fb
  obtain rfl:=Option.some.inj H
  go_wp2
  go_ret
  exact⟨_,g4_,by(with_reducible repeat(first|apply Kd.R_alloc|apply Kd.R_drewN|apply Kd.R_drew));exact Kd.R_mono au.out (fun _ hk=>trivial),ay2⟩
 rw[if_pos fb] at H
 have o9:=decide_eq_true fb
 clear fb
 obtain⟨yr,H⟩:=pd_ H
 obtain⟨t8,H⟩:=pd_ H
 obtain⟨az8,H⟩:=pd_ H
 obtain⟨ep2,hyq⟩:∃y_:List Int,y_=(cj.set (gj:Int).toNat (wrap64 ((rd cj gj) - (rd i1 gj)))):=⟨_,rfl⟩
 replace H:(Gq.l0 k1 ep2 i1 (i1.length:Int) (wrap64 (gj + 1)))=some r:=qh_
 have in1:=A_ hyq
 clear hyq
 have H':=A_ H
 clear H
 obtain⟨⟨in2,in3,ln2⟩,ep3,ep4⟩:=rdp_ (Kd.at_int (Kd.R_reads' kx.out).2.2 gj)
 cases in3
 obtain⟨ow,m7,ep5⟩:=Kd.R_slice au.out
 subst ep5
 obtain⟨⟨ch2,ep6,ch3⟩,bt9,bu0⟩:=rdp_ (Kd.at_int (Kd.R_reads' au.out).2.2 gj)
 cases ep6
 have p14:0<=(gj:Int):=od_
 have q14:(gj:Int) < ((cj.length:Int):Int):=od_
 obtain⟨cw0,dr,ag7,ge7,gl14,cl14,HG14⟩:=Kd.R_form au.out (by omega)
 (first|cases ag7|(injection ag7 with ea_ en_ ec_;(first|subst ea_|(injection ea_ with ea_;subst ea_));subst ec_;clear en_))
 have GB14:=A_ ge7
 have GG14:=A_ HG14
 clear ge7 gl14 HG14
 (first|simp only[add_plain] at ch3|skip)
 obtain⟨ln3,hf14_0⟩:=Kd.R_celln 0 au.out (gj:Int) p14 q14
 replace p14:=eq_true p14
 replace q14:=eq_true q14
 have HP16:=Kd.R_putg au.out (gj:Int) (wrap64 ((rd cj gj) - (rd i1 gj)))
 go_wp2_with (first|((with_reducible refine gate_store (t:=3) (p:=22) rfl ?_);refine store_event (t:=3) (p:=22) (v:=?vo_w17) (w1:=(wr.setCell ⟨cw0,(gj:Int).toNat,none⟩ (.int .i64 (wrap64 ((rd cj gj) - (rd i1 gj)))))) ?hg ?ho ?hn ?hr ?_;(case ho=>rfl);(case hg=>rfl);(case hn=>rfl);(case hr=>first|(go_simp;done)|(go_simp;rfl));intro j4 hw;have hg:wr.grownBy j4 (some cw0):=(by rw[hw];exact HP16.2);have hp_:Kd.R (Kd.int .i64) 3 j4 w.heap.size (fun k_=>some k_≠(.slice (some in2) i1.length fs:Value).ownBlock) (.slice (some ⟨cw0,0,none⟩) cj.length m7) ep2:=(by rw[hw,in1.out];exact HP16.1);clear HP16;replace kx:=A_ (Kd.R_after (v:=(.slice (some ⟨cw0,0,none⟩) cj.length m7)) (v1:=(.slice (some ⟨cw0,0,none⟩) cj.length m7)) (ok:=(fun _=>True)) (by(with_reducible repeat(first|apply Kd.R_alloc|apply Kd.R_drewN|apply Kd.R_drew));exact Kd.R_mono kx.out (fun _ hk=>⟨trivial,hk⟩)) hg (.inl rfl));replace ki:=(bg_ ki hg (Kd.R_ne au.out ki.out (by decide)));replace au:=A_ (hp_);replace HB:=A_ ((by rw[hw];exact G1 (HB.out) GB14.out:Below w.heap.size w j4));clear hg hw hp_))
 go_roundg k1
 case measure=>have:=HK1.out;omega
 case rel=>exact⟨(ep2),(wrap64 (gj + 1)),(g2_),H',⟨g13_⟩,⟨uf2_ au⟩,⟨by(with_reducible repeat(first|apply Kd.R_alloc|apply Kd.R_drewN|apply Kd.R_drew));exact Kd.R_mono kx.out (fun _ hk=>hk.2)⟩,⟨uf0_ ki⟩,⟨ay2⟩⟩
def Gj.f (k:Nat) (ab:List Int) (aa:List (List Int)):Option (List Int):=(Fg.f k ab aa).bind fun cw1=>(if cw1=true then((Gq.f k ab aa).bind fun an9=>(some an9)) else(some ([]:List Int)))
theorem bh4 {p:Prop} (h:p:=by repeat(first|(with_reducible first|exact HB.out|apply G4|apply G3|apply G2|refine G1 ?_ ge8.out)|exact HB.out)):p:=h
set_option maxHeartbeats 8000000 in
set_option maxRecDepth 100000 in
theorem Gj.calls (k:Nat) (ae:Option Addr) (ac:Nat) (ab:List Int) (ag:Option Addr) (af:Nat) (aa:List (List Int)) (r:List Int) (w:World) (ca:Kd.C (Kd.int .i64) w ae ab.length ab) (ce:ab.length<=ac) (cb:Kd.C (Kd.slice 3 (Kd.int .i64)) w ag aa.length aa) (cg:aa.length<=af) (h:Gj.f k ab aa=some r) :
  Calls Try.prog 46 #[.agg #[.slice ae ab.length ac, .slice ag aa.length af]] w fun e w'=>∃v0_:Value,e = .returned (v0_)/\Kd.R (Kd.int .i64) 3 w' w.heap.size (fun _=>True) v0_ r/\Below w.heap.size w w':=by
 have hu25:=Try.underlying25
 have bu:=A_ ca
 have cq:=A_ ce
 clear ca ce
 have bf:=A_ cb
 have cu:=A_ cg
 clear cb cg
 have HB:=A_ (Below.refl w.heap.size w)
 have H:=h
 unfold Gj.f at H
 clear h
 obtain⟨cw1,A2,H⟩:=bind_ H
 by_cases c3:cw1=true
 ·subst c3
  replace H:=ifp_ H
  obtain⟨an9,A4,H⟩:=bind_ H
  obtain rfl:=Option.some.inj H
  go_enter Try.func46,Try.ntmps46
  go_wp2_with (first|((with_reducible refine gd_ 1 ?_);refine bx_ (N:=1) #[.slice ae ab.length ac, .slice ag aa.length af] 25 ?_;intro cw2 hg w5 hbox hb;have at6:=A_ (hbox);have in4:=A_ ((g92_:w.heap.size<=cw2));have ge8:=in4;replace HB:=hs_ (bh4) hb;clear hb hbox hg;obtain⟨za,zb,ag8,zc⟩:=blk2_ at6)|((with_reducible refine gc_ 73 ?_);refine gl_ 4 Try.func73 #[.agg #[.slice ae ab.length ac, .slice ag aa.length af]] ?_;(refine(Fg.calls k _ _ ab _ _ aa true _ (uf1_ bu) cq.out (uf1_ bf) cu.out A2.out).mono ?_);rintro e w7 ⟨rfl,hb⟩;refine⟨_,rfl,?_⟩;replace at6:=bb_ at6 hb;replace HB:=hs_ (bh4) hb;obtain⟨sj,sk,sl,sm⟩:=blk2_ at6)|((with_reducible refine gc_ 94 ?_);refine gl_ 7 Try.func94 #[.agg #[.slice ae ab.length ac, .slice ag aa.length af]] ?_;(refine(Gq.calls k _ _ ab _ _ aa an9 _ (uf1_ bu) cq.out (uf1_ bf) cu.out A4.out).mono ?_);rintro e w9 ⟨ge9,rfl,aj,hb⟩;refine⟨_,rfl,?_⟩;have dr1:=A_ (Kd.R_lower aj (G0 (bh4)));replace at6:=bb_ at6 hb;replace HB:=hs_ (bh4) hb))
  go_ret
  exact⟨_,g4_,uf2_ dr1,bh4⟩
 replace c3:=Bool.eq_false_iff.mpr c3
 subst c3
 replace H:=ifn_ H
 obtain rfl:=Option.some.inj H
 go_enter Try.func46,Try.ntmps46
 go_wp2_with (first|((with_reducible refine gd_ 1 ?_);refine bx_ (N:=1) #[.slice ae ab.length ac, .slice ag aa.length af] 25 ?_;intro cw2 hg w10 hbox hb;have at6:=A_ (hbox);have in4:=A_ ((g92_:w.heap.size<=cw2));have ge8:=in4;replace HB:=hs_ (bh4) hb;clear hb hbox hg;obtain⟨yu,yv,yw,yx⟩:=blk2_ at6)|((with_reducible refine gc_ 73 ?_);refine gl_ 4 Try.func73 #[.agg #[.slice ae ab.length ac, .slice ag aa.length af]] ?_;(refine(Fg.calls k _ _ ab _ _ aa false _ (uf1_ bu) cq.out (uf1_ bf) cu.out A2.out).mono ?_);rintro e ws ⟨rfl,hb⟩;refine⟨_,rfl,?_⟩;replace at6:=bb_ at6 hb;replace HB:=hs_ (bh4) hb))
 go_ret
 exact⟨_,g4_,g18_,bh4⟩
theorem eqA69 (d:Nat) (w:World) (x0 y0:Int) (x1 y1:Int) (x2 y2:Int) (x3 y3:Int) :
  (Op.equalIn (d + 2) 69 (.agg #[.int .i64 x0, .int .i64 x1, .int .i64 x2, .int .i64 x3]) (.agg #[.int .i64 y0, .int .i64 y1, .int .i64 y2, .int .i64 y3])).run Try.prog w = .ok (x0 == y0 && (x1 == y1 && (x2 == y2 && (x3 == y3)))) w:=by
 refine eqA_of Try.underlying69 (g1_) ?_
 refine eqf_cons (by rfl) (g32_) (g32_) (by go_simp) ?_
 refine eqf_cons (by rfl) (g32_) (g32_) (by go_simp) ?_
 refine eqf_cons (by rfl) (g32_) (g32_) (by go_simp) ?_
 exact eqf_last (by rfl) (g32_) (g32_) (by go_simp)
def F5.f (a0:Int) (a1:Int) (a2:Int):Option (Bool):=if a0 ≥ a1 then(some (decide (a0<=a2))) else(some false)
set_option maxHeartbeats 8000000 in
set_option maxRecDepth 100000 in
theorem F5.calls (a0:Int) (a1:Int) (a2:Int) (r:Bool) (w:World) (h:F5.f a0 a1 a2=some r) :
  Calls Try.prog 65 #[.int .i64 a0, .int .i64 a1, .int .i64 a2] w fun e w'=>e = .returned (.bool r)/\Drawn0 w w':=by
 have H:=h
 unfold F5.f at H
 clear h
 by_cases c4:a0 ≥ a1
 ·rw[if_pos c4] at H
  have mv:=decide_eq_true c4
  clear c4
  obtain rfl:=Option.some.inj H
  go_enter Try.func65,Try.ntmps65
  go_wp2
  go_ret
  exact⟨g2_,g5_⟩
 rw[if_neg c4] at H
 have mv:=decide_eq_false c4
 clear c4
 obtain rfl:=Option.some.inj H
 go_enter Try.func65,Try.ntmps65
 go_wp2
 go_ret
 exact⟨g2_,g5_⟩
mutual
def Ff.j0:Nat->Bool->List Int->List (List Int)->Option (Bool)
 | 0,_,_,_=>none
 | k + 1,x18,ad3,uc=>if x18=true then(some false) else(Ff.l0 k 0 ad3 uc)
def Ff.l0:Nat->Int->List Int->List (List Int)->Option (Bool)
 | 0,_,_,_=>none
 | k + 1,x3,ad3,uc=>if x3 < (ad3.length:Int) then(if 0<=x3 then((F5.f (rd ad3 x3) 0 20).bind fun ep7=>(if ep7=true then(if x3 < (uc.length:Int) then(if ((Jc uc x3).length:Int)=(ad3.length:Int) then(if x3 < ((Jc uc x3).length:Int) then(Ff.j2 k x3 ((rd (Jc uc x3) x3) != 0) ad3 uc) else(none)) else(Ff.j2 k x3 true ad3 uc)) else(none)) else(Ff.j2 k x3 true ad3 uc))) else(none)) else(some true)
def Ff.j2:Nat->Int->Bool->List Int->List (List Int)->Option (Bool)
 | 0,_,_,_,_=>none
 | k + 1,x3,x55,ad3,uc=>if x55=true then(some false) else(Ff.l1 k x3 0 ad3 uc)
def Ff.l1:Nat->Int->Int->List Int->List (List Int)->Option (Bool)
 | 0,_,_,_,_=>none
 | k + 1,x3,x4,ad3,uc=>if 0<=x3 then(if x3 < (uc.length:Int) then(if x4 < ((Jc uc x3).length:Int) then(if 0<=x4 then((F5.f (rd (Jc uc x3) x4) 0 9).bind fun ep8=>(if ep8=true then(Ff.l1 k x3 (wrap64 (x4 + 1)) ad3 uc) else(some false))) else(none)) else(Ff.l0 k (wrap64 (x3 + 1)) ad3 uc)) else(none)) else(none)
end
def Ff.f (k:Nat) (ab:List Int) (aa:List (List Int)):Option (Bool):=(F5.f (ab.length:Int) 1 4).bind fun cw3=>(if cw3=true then(Ff.j0 k ((aa.length:Int) != (ab.length:Int)) ab aa) else(Ff.j0 k true ab aa))
def Ff.T6:Bool × List (List Nat × List Nat):=(true,[([],[]),([0],[0]),([],[]),([1,2],[1,2]),([3],[3]),([4],[4]),([5],[5]),([6,5],[6]),([7],[7]),([8,7],[7,8]),([7],[7]),([9,10,7],[7,9,10]),([11,7],[7,11]),([12,7],[7,12]),([7],[7]),([14,7],[7,14]),([15,7],[7,15]),([13,16,7],[7,13,16]),([7,17],[7,17]),([18,7],[18]),([19],[19]),([20,19],[19,20]),([19],[19]),([21,22,19],[19,21,22]),([23,19],[19,23]),([19],[19]),([24,25,19],[19,24,25]),([26,19],[19,26]),([27,19],[19,27]),([19,28],[19,28])])
def Ff.B6:List Nat:=[0,1,0,7,15,31,63,127,255,511,255,2047,4095,8191,255,16639,49407,131071,262143,524287,1048575,2097151,1048575,8388607,16777215,1048575,67108863,134217727,268435455,536870911]
theorem Ff.tab6:rtab .any (opsOf Try.f42 6)=Ff.T6:=by kernel_rfl
theorem Ff.bits6:waitsOk Ff.T6.2 Ff.B6=true:=by kernel_rfl
theorem wq {p:Prop} (h:p:=by repeat(first|(with_reducible first|exact HB.out|apply G4|apply G3|apply G2|refine G1 ?_ in5.out)|exact HB.out)):p:=h
set_option maxHeartbeats 8000000 in
set_option maxRecDepth 100000 in
theorem Ff.calls (k:Nat) (ae:Option Addr) (ac:Nat) (ab:List Int) (ag:Option Addr) (af:Nat) (aa:List (List Int)) (r:Bool) (w:World) (ca:Kd.C (Kd.int .i64) w ae ab.length ab) (ce:ab.length<=ac) (cb:Kd.C (Kd.slice 3 (Kd.int .i64)) w ag aa.length aa) (cg:aa.length<=af) (h:Ff.f k ab aa=some r) :
  Calls Try.prog 42 #[.agg #[.slice ae ab.length ac, .slice ag aa.length af]] w fun e w'=>e = .returned (.bool r)/\Below w.heap.size w w':=by
 have hu25:=Try.underlying25
 have bu:=A_ ca
 have cq:=A_ ce
 clear ca ce
 have bf:=A_ cb
 have cu:=A_ cg
 clear cb cg
 have HB:=A_ (Below.refl w.heap.size w)
 have H:=h
 unfold Ff.f at H
 clear h
 have wt:=A_ H
 clear H
 go_enter Try.func42,Try.ntmps42
 go_upto_region 1 with(first|((with_reducible refine gd_ 1 ?_);(try(refine gate_guard (by rfl) ?_;dsimp only));refine bx_ (N:=1) #[.slice ae ab.length ac, .slice ag aa.length af] 25 ?_;intro ag9 hg w3 hbox hb;have jb:=A_ (hbox);have ln4:=A_ ((by rw[hg];exact(G0 (wq)):w.heap.size<=ag9));have in5:=ln4;replace HB:=hs_ (wq) hb;clear hb hbox hg))
 (try simp only[Act.put,List.setIfInBounds_toArray,List.set_cons_zero,List.set_cons_succ])
 go_cut [18] (fun v18 wc=>∃(kq:Nat) (dr2:Bool),v18 = .bool dr2/\Gy (Ff.j0 kq dr2 ab aa=some r)/\Gy (kq<=k)/\Gy (hc_ wc ag9 #[(.slice ae ab.length ac),(.slice ag aa.length af)] 25)/\Gy (Below w.heap.size w wc))
 case first=>
  have H:=wt.out
  clear wt
  obtain⟨cw3,A4,H⟩:=bind_ H
  by_cases c5:cw3=true
  ·subst c5
   replace H:=ifp_ H
   have H':=A_ H
   clear H
   obtain⟨za,zb,ag8,zc⟩:=blk2_ jb
   go_wp2_with (first|((with_reducible refine gc_ 65 ?_);refine gl_ 8 Try.func65 #[.int .i64 (ab.length:Int), .int .i64 1, .int .i64 4] ?_;(with_reducible refine(F5.calls (ab.length:Int) 1 4 true _ A4.out).mono ?_);rintro e w' ⟨rfl,⟨nd,rfl⟩⟩;refine⟨_,rfl,?_⟩))
   go_meet
   case rel=>exact⟨_,(((aa.length:Int) != (ab.length:Int))),(g2_),H',⟨g9_⟩,⟨uf0_ jb⟩,⟨wq⟩⟩
  replace c5:=Bool.eq_false_iff.mpr c5
  subst c5
  replace H:=ifn_ H
  have H':=A_ H
  clear H
  obtain⟨sx,sy,ta,tb⟩:=blk2_ jb
  go_wp2_with (first|((with_reducible refine gc_ 65 ?_);refine gl_ 8 Try.func65 #[.int .i64 (ab.length:Int), .int .i64 1, .int .i64 4] ?_;(with_reducible refine(F5.calls (ab.length:Int) 1 4 false _ A4.out).mono ?_);rintro e w' ⟨rfl,⟨nd,rfl⟩⟩;refine⟨_,rfl,?_⟩))
  go_meet
  case rel=>exact⟨_,(true),(g2_),H',⟨g9_⟩,⟨uf0_ jb⟩,⟨wq⟩⟩
 clear wt
 obtain⟨kq,dr2,rfl,HA,HJ1,jb,HB⟩:=hcut
 cases kq with
 | zero=>exact absurd HA.out (by simp[Ff.j0])
 | succ kj1=>?_
 have H:=HA.out
 clear HA
 simp only[Ff.j0] at H
 by_cases c8:dr2=true
 ·subst c8
  replace H:=ifp_ H
  obtain rfl:=Option.some.inj H
  go_wp2
  go_ret
  exact⟨g4_,wq⟩
 replace c8:=Bool.eq_false_iff.mpr c8
 subst c8
 replace H:=ifn_ H
 have H':=A_ H
 clear H
 go_wp2
 go_loopg [3] kj1 (fun kq v3 w'=>∃(b6:Int),v3 = .int .i64 b6/\Gy (Ff.l0 kq b6 ab aa=some r)/\Gy (kq<=kj1)/\Gy (hc_ w' ag9 #[(.slice ae ab.length ac),(.slice ag aa.length af)] 25)/\Gy (Below w.heap.size w w'))
 case atStart=>exact⟨(0),(g2_),H',⟨Nat.le_refl _⟩,⟨uf0_ jb⟩,⟨wq⟩⟩
 clear H'
 obtain⟨b6,rfl,HA,HK2,jb,HB⟩:=hrel
 cases gk with
 | zero=>exact absurd HA.out (by simp[Ff.l0])
 | succ k2=>?_
 have H:=HA.out
 clear HA
 simp only[Ff.l0] at H
 by_cases c9:b6 < (ab.length:Int)
 case neg=>
  rw[if_neg c9] at H
  have ac3:=decide_eq_false c9
  clear c9
  obtain rfl:=Option.some.inj H
  obtain⟨bs1,bs2,bs3,bs4⟩:=blk2_ jb
  go_wp2
  go_ret
  exact⟨g4_,wq⟩
 rw[if_pos c9] at H
 have ac3:=decide_eq_true c9
 clear c9
 have ep9:=A_ H
 clear H
 obtain⟨yu,yv,yw,yx⟩:=blk2_ jb
 go_upto_region 6 with(fail)
 go_cut [55] (fun v55 wc=>∃(kq:Nat) (dr3:Bool),v55 = .bool dr3/\Gy (Ff.j2 kq b6 dr3 ab aa=some r)/\Gy (kq<=k2)/\Gy (hc_ wc ag9 #[(.slice ae ab.length ac),(.slice ag aa.length af)] 25)/\Gy (Below w.heap.size w wc))
 case first=>
  have H:=ep9.out
  clear ep9
  obtain⟨t8,H⟩:=pd_ H
  (first|rw[t8]|(simp only[i64_w,i32_w];rw[t8])|skip)
  obtain⟨ep7,A13,H⟩:=bind_ H
  by_cases hz:ep7=true
  case neg=>
   replace hz:=Bool.eq_false_iff.mpr hz
   subst hz
   replace H:=ifn_ H
   have H':=A_ H
   clear H
   try go_wp2
   replace jb:=bd_ jb
   replace HB:=A_ (G2 HB.out)
   obtain⟨⟨bi1,cw4,vp⟩,ad4,ad5⟩:=rdp_ (Kd.at_int bu.out b6)
   have bi2:=vp
   cases cw4
   replace vp:=cl_ HB vp
   refine start_ (n:=30) (S:=fun w'=>w'.cell? ⟨ag9,0,none⟩=some (.slice (some bi1) ab.length ac)/\w'.cell? ⟨ag9,1,none⟩=some (.slice ag aa.length af)/\w'.cell? (bi1.add (b6).toNat)=some (.int .i64 (rd ab b6))) (ds:=[]) (tl_ 30 0) (g1_) rfl (g1_) ⟨(Gz jb.out 0).trans rfl,(Gz jb.out 1).trans rfl,((cl_ HB bi2).trans rfl)⟩ (fun hHeld=>?_);refine Jm Ff.tab6 Ff.bits6 (fun HT_ HW_=>?_)
   generalize wr.drew=hf at jb HB vp hHeld |-
   refine pw_ 0 26 (tl_ 30 1) ?_
   refine pw_ 2 28 (tl_ 30 5) ?_
   refine tk3_ 1 27 (tl_ 30 7) hHeld ?_
   refine pw_ 3 29 (tl_ 30 15) ?_
   refine tk3_ 4 30 (tl_ 30 31) hHeld ?_
   refine one_ (i:=5) (N:=some 31) (tl_ 30 63) rfl rfl (Jo HT_.out (g1_)) (by decide) (fun K hK=>?_)
   refine goes_ Try.func65 (g1_) rfl #[.int .i64 (rd ab b6), .int .i64 0, .int .i64 20] (by rfl) rfl rfl (g3_) ?_
   with_reducible refine(F5.calls (rd ab b6) 0 20 false _ A13.out).mono ?_
   rintro e w' ⟨rfl,⟨nd,rfl⟩⟩
   refine⟨_,rfl,?_⟩
   refine hK.out _ _ ⟨(Gz jb.out 0).trans rfl,(Gz jb.out 1).trans rfl,((cl_ HB bi2).trans rfl)⟩ (fun hHeld=>?_)
   clear hK K
   refine nm_ ?_
   refine pw_ 6 32 (tl_ 30 127) ?_
   refine pw_ 7 33 (tl_ 30 255) ?_
   refine pu_ 8 34 (tl_ 30 511) ?_
   refine pu_ 9 35 (tl_ 30 1023) ?_
   refine pu_ 10 36 (tl_ 30 2047) ?_
   refine pu_ 11 37 (tl_ 30 4095) ?_
   refine pu_ 12 38 (tl_ 30 8191) ?_
   refine pu_ 13 39 (tl_ 30 16383) ?_
   refine pu_ 14 40 (tl_ 30 32767) ?_
   refine pu_ 15 41 (tl_ 30 65535) ?_
   refine pu_ 16 42 (tl_ 30 131071) ?_
   refine pu_ 17 43 (tl_ 30 262143) ?_
   refine pw_ 18 44 (tl_ 30 524287) ?_
   refine pw_ 19 45 (tl_ 30 1048575) ?_
   refine pu_ 20 46 (tl_ 30 2097151) ?_
   refine pu_ 21 47 (tl_ 30 4194303) ?_
   refine pu_ 22 48 (tl_ 30 8388607) ?_
   refine pu_ 23 49 (tl_ 30 16777215) ?_
   refine pu_ 24 50 (tl_ 30 33554431) ?_
   refine pu_ 25 51 (tl_ 30 67108863) ?_
   refine pu_ 26 52 (tl_ 30 134217727) ?_
   refine pu_ 27 53 (tl_ 30 268435455) ?_
   refine pu_ 28 54 (tl_ 30 536870911) ?_
   refine pw_ 29 55 (tl_ 30 1073741823) ?_
   refine done_ (done_of HT_.out (g1_)) ?_
   try go_wp2
   go_meet
   case rel=>exact⟨_,(true),(g2_),H',⟨g46_⟩,⟨uf0_ jb⟩,⟨wq⟩⟩
  subst hz
  replace H:=ifp_ H
  obtain⟨mb,H⟩:=pd_ H
  by_cases gr:((Jc aa b6).length:Int)=(ab.length:Int)
  case neg=>
   rw[if_neg gr] at H
   have vm:(((Jc aa b6).length:Int) == (ab.length:Int))=false:=beq_eq_false_iff_ne.mpr gr
   have eq0:(((Jc aa b6).length:Int) != (ab.length:Int))=true:=bne_iff_ne.mpr gr
   have eq1:((Jc aa b6).length == ab.length)=false:=by first|simpa using gr|(simp at gr |-;omega)
   have H':=A_ H
   clear H
   try go_wp2
   replace jb:=bd_ jb
   replace HB:=A_ (G2 HB.out)
   obtain⟨⟨bi1,cw4,vp⟩,ad4,ad5⟩:=rdp_ (Kd.at_int bu.out b6)
   have bi2:=vp
   cases cw4
   replace vp:=cl_ HB vp
   obtain⟨⟨bu1,gf0,dr4,eq2,ah0,cw5,cw6⟩,ba1,ba2⟩:=rdp_ (at_L1 bf.out b6)
   have cw7:=ah0
   cases eq2
   replace ah0:=cl_ HB ah0
   have eq3:=A_ cw6
   have in6:=A_ cw5
   clear cw6 cw5
   refine start_ (n:=30) (S:=fun w'=>w'.cell? ⟨ag9,0,none⟩=some (.slice (some bi1) ab.length ac)/\w'.cell? ⟨ag9,1,none⟩=some (.slice (some bu1) aa.length af)/\w'.cell? (bi1.add (b6).toNat)=some (.int .i64 (rd ab b6))/\w'.cell? (bu1.add (b6).toNat)=some (.slice gf0 (Jc aa b6).length dr4)) (ds:=[]) (tl_ 30 0) (g1_) rfl (g1_) ⟨(Gz jb.out 0).trans rfl,(Gz jb.out 1).trans rfl,((cl_ HB bi2).trans rfl),((cl_ HB cw7).trans rfl)⟩ (fun hHeld=>?_);refine Jm Ff.tab6 Ff.bits6 (fun HT_ HW_=>?_)
   generalize wr.drew=iq at jb HB eq3 vp ah0 hHeld |-
   refine pw_ 0 26 (tl_ 30 1) ?_
   refine pw_ 2 28 (tl_ 30 5) ?_
   refine tk2_ 1 27 (tl_ 30 7) hHeld ?_
   refine pw_ 3 29 (tl_ 30 15) ?_
   refine tk2_ 4 30 (tl_ 30 31) hHeld ?_
   refine one_ (i:=5) (N:=some 31) (tl_ 30 63) rfl rfl (Jo HT_.out (g1_)) (by decide) (fun K hK=>?_)
   refine goes_ Try.func65 (g1_) rfl #[.int .i64 (rd ab b6), .int .i64 0, .int .i64 20] (by rfl) rfl rfl (g3_) ?_
   with_reducible refine(F5.calls (rd ab b6) 0 20 true _ A13.out).mono ?_
   rintro e w' ⟨rfl,⟨nd,rfl⟩⟩
   refine⟨_,rfl,?_⟩
   refine hK.out _ _ ⟨(Gz jb.out 0).trans rfl,(Gz jb.out 1).trans rfl,((cl_ HB bi2).trans rfl),((cl_ HB cw7).trans rfl)⟩ (fun hHeld=>?_)
   clear hK K
   refine nm_ ?_
   refine pw_ 6 32 (tl_ 30 127) ?_
   refine pw_ 7 33 (tl_ 30 255) ?_
   refine pw_ 8 34 (tl_ 30 511) ?_
   refine pw_ 10 36 (tl_ 30 1535) ?_
   refine pw_ 14 40 (tl_ 30 17919) ?_
   refine tk2_ 9 35 (tl_ 30 18431) hHeld ?_
   refine pw_ 11 37 (tl_ 30 20479) ?_
   refine tk2_ 12 38 (tl_ 30 24575) hHeld ?_
   refine pw_ 13 39 (tl_ 30 32767) ?_
   refine tk2_ 15 41 (tl_ 30 65535) hHeld ?_
   refine pw_ 16 42 (tl_ 30 131071) ?_
   refine pw_ 17 43 (tl_ 30 262143) ?_
   refine pw_ 18 44 (tl_ 30 524287) ?_
   refine pw_ 19 45 (tl_ 30 1048575) ?_
   refine pu_ 20 46 (tl_ 30 2097151) ?_
   refine pu_ 21 47 (tl_ 30 4194303) ?_
   refine pu_ 22 48 (tl_ 30 8388607) ?_
   refine pu_ 23 49 (tl_ 30 16777215) ?_
   refine pu_ 24 50 (tl_ 30 33554431) ?_
   refine pu_ 25 51 (tl_ 30 67108863) ?_
   refine pu_ 26 52 (tl_ 30 134217727) ?_
   refine pu_ 27 53 (tl_ 30 268435455) ?_
   refine pu_ 28 54 (tl_ 30 536870911) ?_
   refine pw_ 29 55 (tl_ 30 1073741823) ?_
   refine done_ (done_of HT_.out (g1_)) ?_
   try go_wp2
   go_meet
   case rel=>exact⟨_,(true),(g2_),H',⟨g46_⟩,⟨uf0_ jb⟩,⟨wq⟩⟩
  rw[if_pos gr] at H
  have vm:(((Jc aa b6).length:Int) == (ab.length:Int))=true:=beq_iff_eq.mpr gr
  have eq0:(((Jc aa b6).length:Int) != (ab.length:Int))=false:=bne_eq_false_iff_eq.mpr gr
  have eq1:((Jc aa b6).length == ab.length)=true:=by first|simpa using gr|(simp at gr |-;omega)
  clear gr
  obtain⟨vg,H⟩:=pd_ H
  have H':=A_ H
  clear H
  try go_wp2
  replace jb:=bd_ jb
  replace HB:=A_ (G2 HB.out)
  obtain⟨⟨bi1,cw4,vp⟩,ad4,ad5⟩:=rdp_ (Kd.at_int bu.out b6)
  have bi2:=vp
  cases cw4
  replace vp:=cl_ HB vp
  obtain⟨⟨bu1,gf0,dr4,eq2,ah0,cw5,cw6⟩,ba1,ba2⟩:=rdp_ (at_L1 bf.out b6)
  have cw7:=ah0
  cases eq2
  replace ah0:=cl_ HB ah0
  have eq3:=A_ cw6
  have in6:=A_ cw5
  clear cw6 cw5
  obtain⟨⟨in7,ln5,ln6,in8,cw8,gf1,gf2⟩,eq4,eq5⟩:=rdp_ (at_L1 bf.out b6)
  have gf3:=cw8
  obtain rfl:bu1=in7:=(by injection in8)
  replace cw8:=cl_ HB cw8
  have gf4:=A_ gf2
  have ln7:=A_ gf1
  clear gf2 gf1
  have ea_:=Option.some.inj (ah0.symm.trans cw8)
  injection ea_ with ea_ en_ ec_
  subst ea_
  subst ec_
  clear en_
  obtain⟨⟨eq8,in9,dr5⟩,eq6,eq7⟩:=rdp_ (Kd.at_int gf4.out b6)
  have gf5:=dr5
  cases in9
  replace dr5:=cl_ HB dr5
  refine start_ (n:=30) (S:=fun w'=>w'.cell? ⟨ag9,0,none⟩=some (.slice (some bi1) ab.length ac)/\w'.cell? ⟨ag9,1,none⟩=some (.slice (some bu1) aa.length af)/\w'.cell? (bi1.add (b6).toNat)=some (.int .i64 (rd ab b6))/\w'.cell? (bu1.add (b6).toNat)=some (.slice (some eq8) (Jc aa b6).length dr4)/\w'.cell? (bu1.add (b6).toNat)=some (.slice (some eq8) (Jc aa b6).length dr4)/\w'.cell? (eq8.add (b6).toNat)=some (.int .i64 (rd (Jc aa b6) b6))) (ds:=[]) (tl_ 30 0) (g1_) rfl (g1_) ⟨(Gz jb.out 0).trans rfl,(Gz jb.out 1).trans rfl,((cl_ HB bi2).trans rfl),((cl_ HB cw7).trans rfl),((cl_ HB gf3).trans rfl),((cl_ HB gf5).trans rfl)⟩ (fun hHeld=>?_);refine Jm Ff.tab6 Ff.bits6 (fun HT_ HW_=>?_)
  generalize wr.drew=pp at jb HB eq3 gf4 vp ah0 cw8 dr5 hHeld |-
  refine pw_ 0 26 (tl_ 30 1) ?_
  refine pw_ 2 28 (tl_ 30 5) ?_
  refine tk1_ 1 27 (tl_ 30 7) hHeld ?_
  refine pw_ 3 29 (tl_ 30 15) ?_
  refine tk1_ 4 30 (tl_ 30 31) hHeld ?_
  refine one_ (i:=5) (N:=some 31) (tl_ 30 63) rfl rfl (Jo HT_.out (g1_)) (by decide) (fun K hK=>?_)
  refine goes_ Try.func65 (g1_) rfl #[.int .i64 (rd ab b6), .int .i64 0, .int .i64 20] (by rfl) rfl rfl (g3_) ?_
  with_reducible refine(F5.calls (rd ab b6) 0 20 true _ A13.out).mono ?_
  rintro e w' ⟨rfl,⟨nd,rfl⟩⟩
  refine⟨_,rfl,?_⟩
  refine hK.out _ _ ⟨(Gz jb.out 0).trans rfl,(Gz jb.out 1).trans rfl,((cl_ HB bi2).trans rfl),((cl_ HB cw7).trans rfl),((cl_ HB gf3).trans rfl),((cl_ HB gf5).trans rfl)⟩ (fun hHeld=>?_)
  clear hK K
  refine nm_ ?_
  refine pw_ 6 32 (tl_ 30 127) ?_
  refine pw_ 7 33 (tl_ 30 255) ?_
  refine pw_ 8 34 (tl_ 30 511) ?_
  refine pw_ 10 36 (tl_ 30 1535) ?_
  refine pw_ 14 40 (tl_ 30 17919) ?_
  refine tk1_ 9 35 (tl_ 30 18431) hHeld ?_
  refine pw_ 11 37 (tl_ 30 20479) ?_
  refine tk1_ 12 38 (tl_ 30 24575) hHeld ?_
  refine pw_ 13 39 (tl_ 30 32767) ?_
  refine tk1_ 15 41 (tl_ 30 65535) hHeld ?_
  refine pw_ 16 42 (tl_ 30 131071) ?_
  refine pw_ 17 43 (tl_ 30 262143) ?_
  refine pw_ 18 44 (tl_ 30 524287) ?_
  refine pw_ 19 45 (tl_ 30 1048575) ?_
  refine pw_ 20 46 (tl_ 30 2097151) ?_
  refine pw_ 22 48 (tl_ 30 6291455) ?_
  refine pw_ 25 51 (tl_ 30 39845887) ?_
  refine tk1_ 21 47 (tl_ 30 41943039) hHeld ?_
  refine pw_ 23 49 (tl_ 30 50331647) ?_
  refine tk1_ 24 50 (tl_ 30 67108863) hHeld ?_
  refine pw_ 26 52 (tl_ 30 134217727) ?_
  refine tk1_ 27 53 (tl_ 30 268435455) hHeld ?_
  refine pw_ 28 54 (tl_ 30 536870911) ?_
  refine pw_ 29 55 (tl_ 30 1073741823) ?_
  refine done_ (done_of HT_.out (g1_)) ?_
  try go_wp2
  go_meet
  case rel=>exact⟨_,(((rd (Jc aa b6) b6) != 0)),(g2_),H',⟨g46_⟩,⟨uf0_ jb⟩,⟨wq⟩⟩
 clear ep9
 obtain⟨kq,dr3,rfl,HA,HJ9,jb,HB⟩:=hcut
 cases kq with
 | zero=>exact absurd HA.out (by simp[Ff.j2])
 | succ kj9=>?_
 have H:=HA.out
 clear HA
 simp only[Ff.j2] at H
 by_cases li:dr3=true
 ·subst li
  replace H:=ifp_ H
  obtain rfl:=Option.some.inj H
  go_wp2
  go_ret
  exact⟨g4_,wq⟩
 replace li:=Bool.eq_false_iff.mpr li
 subst li
 replace H:=ifn_ H
 have H':=A_ H
 clear H
 go_wp2
 go_loopg [4] kj9 (fun kq v4 w'=>∃(ww:Int),v4 = .int .i64 ww/\Gy (Ff.l1 kq b6 ww ab aa=some r)/\Gy (kq<=kj9)/\Gy (hc_ w' ag9 #[(.slice ae ab.length ac),(.slice ag aa.length af)] 25)/\Gy (Below w.heap.size w w'))
 case atStart=>exact⟨(0),(g2_),H',⟨Nat.le_refl _⟩,⟨uf0_ jb⟩,⟨wq⟩⟩
 clear H'
 obtain⟨ww,rfl,HA,HK4,jb,HB⟩:=hrel
 cases gk with
 | zero=>exact absurd HA.out (by simp[Ff.l1])
 | succ k4=>?_
 have H:=HA.out
 clear HA
 simp only[Ff.l1] at H
 obtain⟨ao0,H⟩:=pd_ H
 obtain⟨ba3,H⟩:=pd_ H
 by_cases i2:ww < ((Jc aa b6).length:Int)
 case neg=>
  rw[if_neg i2] at H
  have vl:=decide_eq_false i2
  clear i2
  have H':=A_ H
  clear H
  obtain⟨br7,br8,br9,bs0⟩:=blk2_ jb
  obtain⟨⟨dr6,gg0,gg1,cw9,at7,bi3,bi4⟩,ao1,ao2⟩:=rdp_ (at_L1 bf.out b6)
  cases cw9
  replace at7:=cl_ HB at7
  have gg2:=A_ bi4
  have gg3:=A_ bi3
  clear bi4 bi3
  go_wp2
  go_roundg k4
  case measure=>have:=HJ1.out;have:=HK2.out;have:=HJ9.out;have:=HK4.out;omega
  case rel=>exact⟨(wrap64 (b6 + 1)),(g2_),H',⟨by have:=HJ1.out;have:=HK2.out;have:=HJ9.out;have:=HK4.out;omega⟩,⟨uf0_ jb⟩,⟨wq⟩⟩
 rw[if_pos i2] at H
 have vl:=decide_eq_true i2
 clear i2
 obtain⟨bh9,H⟩:=pd_ H
 obtain⟨ep8,A26,H⟩:=bind_ H
 by_cases my:ep8=true
 ·subst my
  replace H:=ifp_ H
  have H':=A_ H
  clear H
  obtain⟨gf6,gf7,gf8,gf9⟩:=blk2_ jb
  obtain⟨⟨dr6,gg0,gg1,cw9,at7,bi3,bi4⟩,ao1,ao2⟩:=rdp_ (at_L1 bf.out b6)
  cases cw9
  replace at7:=cl_ HB at7
  have gg2:=A_ bi4
  have gg3:=A_ bi3
  clear bi4 bi3
  obtain⟨⟨eq9,io1,io2,er0,bu4,cx0,cx1⟩,bu2,bu3⟩:=rdp_ (at_L1 bf.out b6)
  obtain rfl:dr6=eq9:=(by injection er0)
  replace bu4:=cl_ HB bu4
  have er1:=A_ cx1
  have io3:=A_ cx0
  clear cx1 cx0
  have ea_:=Option.some.inj (at7.symm.trans bu4)
  injection ea_ with ea_ en_ ec_
  subst ea_
  subst ec_
  clear en_
  obtain⟨⟨io4,er2,cx2⟩,bu5,bu6⟩:=rdp_ (Kd.at_int er1.out ww)
  cases er2
  replace cx2:=cl_ HB cx2
  go_wp2_with (first|((with_reducible refine gc_ 65 ?_);refine gl_ 74 Try.func65 #[.int .i64 (rd (Jc aa b6) ww), .int .i64 0, .int .i64 9] ?_;(with_reducible refine(F5.calls (rd (Jc aa b6) ww) 0 9 true _ A26.out).mono ?_);rintro e w' ⟨rfl,⟨nd,rfl⟩⟩;refine⟨_,rfl,?_⟩))
  go_roundg k4
  case measure=>have:=HJ1.out;have:=HK2.out;have:=HJ9.out;have:=HK4.out;omega
  case rel=>exact⟨(wrap64 (ww + 1)),(g2_),H',⟨by have:=HJ1.out;have:=HK2.out;have:=HJ9.out;have:=HK4.out;omega⟩,⟨uf0_ jb⟩,⟨wq⟩⟩
 replace my:=Bool.eq_false_iff.mpr my
 subst my
 replace H:=ifn_ H
 obtain rfl:=Option.some.inj H
 obtain⟨cx3,cx4,cx5,cx6⟩:=blk2_ jb
 obtain⟨⟨dr6,gg0,gg1,cw9,at7,bi3,bi4⟩,ao1,ao2⟩:=rdp_ (at_L1 bf.out b6)
 cases cw9
 replace at7:=cl_ HB at7
 have gg2:=A_ bi4
 have gg3:=A_ bi3
 clear bi4 bi3
 obtain⟨⟨eq9,io1,io2,er0,bu4,cx0,cx1⟩,bu2,bu3⟩:=rdp_ (at_L1 bf.out b6)
 obtain rfl:dr6=eq9:=(by injection er0)
 replace bu4:=cl_ HB bu4
 have er1:=A_ cx1
 have io3:=A_ cx0
 clear cx1 cx0
 have ea_:=Option.some.inj (at7.symm.trans bu4)
 injection ea_ with ea_ en_ ec_
 subst ea_
 subst ec_
 clear en_
 obtain⟨⟨io4,er2,cx2⟩,bu5,bu6⟩:=rdp_ (Kd.at_int er1.out ww)
 cases er2
 replace cx2:=cl_ HB cx2
 go_wp2_with (first|((with_reducible refine gc_ 65 ?_);refine gl_ 74 Try.func65 #[.int .i64 (rd (Jc aa b6) ww), .int .i64 0, .int .i64 9] ?_;(with_reducible refine(F5.calls (rd (Jc aa b6) ww) 0 9 false _ A26.out).mono ?_);rintro e w' ⟨rfl,⟨nd,rfl⟩⟩;refine⟨_,rfl,?_⟩))
 go_ret
 exact⟨g4_,wq⟩
def Fz.l0:Nat->Int->List Int->List (List Int)->List (S25)->Option (Bool)
 | 0,_,_,_,_=>none
 | k + 1,x3,er3,gg4,ch4=>if x3 < (ch4.length:Int) then(if 0<=x3 then((Ff.f k ((Jd ch4 x3).f0) ((Jd ch4 x3).f1)).bind fun er4=>(if er4=true then(if (((Jd ch4 x3).f0).length:Int)=(er3.length:Int) then(Fz.l0 k (wrap64 (x3 + 1)) er3 gg4 ch4) else(some false)) else(some false))) else(none)) else((Ff.f k er3 gg4).bind fun er5=>(if er5=true then(some (decide ((ch4.length:Int)<=8))) else(some false)))
def Fz.f (k:Nat) (ab:List Int) (aa:List (List Int)) (ai:List (S25)):Option (Bool):=Fz.l0 k 0 ab aa ai
def Fz.T4:Bool × List (List Nat × List Nat):=(true,[([],[]),([0],[0]),([],[]),([1,2],[1,2]),([3],[3]),([4],[4]),([5],[5]),([6,5],[6]),([7],[7]),([8,7],[7,8]),([7],[7]),([9,10,7],[7,9,10]),([11,7],[7,11]),([12,7],[7,12]),([13,7],[7,13]),([7],[7]),([15,7],[7,15]),([16,7],[7,16]),([17,7],[7,17]),([14,18,7],[7,14,18]),([7,19],[7,19])])
def Fz.B4:List Nat:=[0,1,0,7,15,31,63,127,255,511,255,2047,4095,8191,16383,255,33023,98559,229631,524287,1048575]
theorem Fz.tab4:rtab .any (opsOf Try.f28 4)=Fz.T4:=by kernel_rfl
theorem Fz.bits4:waitsOk Fz.T4.2 Fz.B4=true:=by kernel_rfl
theorem ac0 {p:Prop} (h:p:=by repeat(first|(with_reducible first|exact HB.out|apply G4|apply G3|apply G2|refine G1 ?_ io5.out)|exact HB.out)):p:=h
set_option maxHeartbeats 8000000 in
set_option maxRecDepth 100000 in
theorem Fz.calls (k:Nat) (ae:Option Addr) (ac:Nat) (ab:List Int) (ag:Option Addr) (af:Nat) (aa:List (List Int)) (ci:Option Addr) (bv:Nat) (ai:List (S25)) (r:Bool) (w:World) (ca:Kd.C (Kd.int .i64) w ae ab.length ab) (ce:ab.length<=ac) (cb:Kd.C (Kd.slice 3 (Kd.int .i64)) w ag aa.length aa) (cg:aa.length<=af) (k0:Kd.C k25 w ci ai.length ai) (k5:ai.length<=bv) (h:Fz.f k ab aa ai=some r) :
  Calls Try.prog 28 #[.agg #[.slice ae ab.length ac, .slice ag aa.length af, .slice ci ai.length bv]] w fun e w'=>e = .returned (.bool r)/\Below w.heap.size w w':=by
 have hu28:=Try.underlying28
 have hu25:=Try.underlying25
 have bu:=A_ ca
 have cq:=A_ ce
 clear ca ce
 have bf:=A_ cb
 have cu:=A_ cg
 clear cb cg
 have l9:=A_ k0
 have rf:=A_ k5
 clear k0 k5
 have HB:=A_ (Below.refl w.heap.size w)
 have H:(Fz.l0 k 0 ab aa ai)=some r:=h
 clear h
 have H':=A_ H
 clear H
 go_enter Try.func28,Try.ntmps28
 go_wp2_with (first|((with_reducible refine gd_ 1 ?_);(try(refine gate_guard (by rfl) ?_;dsimp only));refine bx_ (N:=1) #[.slice ae ab.length ac, .slice ag aa.length af, .slice ci ai.length bv] 28 ?_;intro ah1 hg w2 hbox hb;have ic:=A_ (hbox);have ln8:=A_ ((by rw[hg];exact(G0 (ac0)):w.heap.size<=ah1));have io5:=ln8;replace HB:=hs_ (ac0) hb;clear hb hbox hg))
 go_loopg [3] k (fun kq v3 w'=>∃(cj:Int),v3 = .int .i64 cj/\Gy (Fz.l0 kq cj ab aa ai=some r)/\Gy (kq<=k)/\Gy (hc_ w' ah1 #[(.slice ae ab.length ac),(.slice ag aa.length af),(.slice ci ai.length bv)] 28)/\Gy (Below w.heap.size w w'))
 case atStart=>exact⟨(0),(g2_),H',⟨Nat.le_refl _⟩,⟨uf0_ ic⟩,⟨ac0⟩⟩
 clear H'
 obtain⟨cj,rfl,HA,HK1,ic,HB⟩:=hrel
 cases gk with
 | zero=>exact absurd HA.out (by simp[Fz.l0])
 | succ k1=>?_
 have H:=HA.out
 clear HA
 simp only[Fz.l0] at H
 by_cases c3:cj < (ai.length:Int)
 case neg=>
  rw[if_neg c3] at H
  have jd:=decide_eq_false c3
  clear c3
  obtain⟨er5,A17,H⟩:=bind_ H
  by_cases jf:er5=true
  ·subst jf
   replace H:=ifp_ H
   obtain rfl:=Option.some.inj H
   obtain⟨ik1,ik2,ik3,ik4,ik5,ik6⟩:=blk3_ ic
   go_wp2_with (first|((with_reducible refine gc_ 42 ?_);refine gl_ 34 Try.func42 #[.agg #[.slice ae ab.length ac, .slice ag aa.length af]] ?_;(refine(Ff.calls k1 _ _ ab _ _ aa true _ (uf1_ bu) cq.out (uf1_ bf) cu.out A17.out).mono ?_);rintro e hf ⟨rfl,hb⟩;refine⟨_,rfl,?_⟩;replace ic:=bb_ ic hb;replace HB:=hs_ (ac0) hb;obtain⟨vh,vi,bj7,wu,vj,bj8⟩:=blk3_ ic))
   go_ret
   exact⟨g4_,ac0⟩
  replace jf:=Bool.eq_false_iff.mpr jf
  subst jf
  replace H:=ifn_ H
  obtain rfl:=Option.some.inj H
  obtain⟨an3,an4,gg5,an5,an6,gg6⟩:=blk3_ ic
  go_wp2_with (first|((with_reducible refine gc_ 42 ?_);refine gl_ 34 Try.func42 #[.agg #[.slice ae ab.length ac, .slice ag aa.length af]] ?_;(refine(Ff.calls k1 _ _ ab _ _ aa false _ (uf1_ bu) cq.out (uf1_ bf) cu.out A17.out).mono ?_);rintro e w23 ⟨rfl,hb⟩;refine⟨_,rfl,?_⟩;replace ic:=bb_ ic hb;replace HB:=hs_ (ac0) hb))
  go_ret
  exact⟨g4_,ac0⟩
 rw[if_pos c3] at H
 have jd:=decide_eq_true c3
 clear c3
 obtain⟨mv,H⟩:=pd_ H
 obtain⟨er4,A5,H⟩:=bind_ H
 by_cases c6:er4=true
 case neg=>
  replace c6:=Bool.eq_false_iff.mpr c6
  subst c6
  replace H:=ifn_ H
  obtain rfl:=Option.some.inj H
  obtain⟨sf,sg,ch5,sh,si,ch6⟩:=blk3_ ic
  try go_wp2
  replace ic:=bd_ ic
  replace HB:=A_ (G2 HB.out)
  have ao3:0<=(cj:Int):=od_
  have ao4:cj < (ai.length:Int):=od_
  obtain⟨pq,bi5,bi6,bi7,bi8,cx7,zd,ze,bi9,bj0,bj1,bj2⟩:=at_T25 l9.out cj ao3 ao4
  have bj3:=ze
  have bj4:=zd
  cases cx7
  replace zd:=cl_ HB zd
  replace ze:=cl_ HB ze
  have bj5:=A_ bj0
  have cx8:=A_ bi9
  clear bj0 bi9
  have bj6:=A_ bj2
  have cx9:=A_ bj1
  clear bj2 bj1
  replace ao3:=eq_true ao3
  replace ao4:=eq_true ao4
  refine start_ (n:=21) (S:=fun w'=>w'.cell? ⟨ah1,0,none⟩=some (.slice ae ab.length ac)/\w'.cell? ⟨ah1,1,none⟩=some (.slice ag aa.length af)/\w'.cell? ⟨ah1,2,none⟩=some (.slice (some pq) ai.length bv)/\w'.cell? (pq.add ((cj).toNat * 2))=some (.slice bi5 ((Jd ai cj).f0).length bi6)/\w'.cell? ⟨(pq.add ((cj).toNat * 2)).block,(pq.add ((cj).toNat * 2)).off + 1,none⟩=some (.slice bi7 ((Jd ai cj).f1).length bi8)) (ds:=[]) (tl_ 21 0) (g1_) rfl (g1_) ⟨(Gz ic.out 0).trans rfl,(Gz ic.out 1).trans rfl,(Gz ic.out 2).trans rfl,((cl_ HB bj4).trans rfl),((cl_ HB bj3).trans rfl)⟩ (fun hHeld=>?_);refine Jm Fz.tab4 Fz.bits4 (fun HT_ HW_=>?_)
  generalize wr.drew=w15 at ic HB bj5 bj6 zd ze hHeld |-
  refine pw_ 0 11 (tl_ 21 1) ?_
  refine pw_ 2 13 (tl_ 21 5) ?_
  refine tk5_ 1 12 (tl_ 21 7) hHeld ?_
  refine pw_ 3 14 (tl_ 21 15) ?_
  refine tk5_ 4 15 (tl_ 21 31) hHeld ?_
  refine one_ (i:=5) (N:=some 16) (tl_ 21 63) rfl rfl (Jo HT_.out (g1_)) (by decide) (fun K hK=>?_)
  refine goes_ Try.func42 (g1_) rfl #[.agg #[.slice bi5 ((Jd ai cj).f0).length bi6, .slice bi7 ((Jd ai cj).f1).length bi8]] (by rfl) rfl rfl (g3_) ?_
  refine(Ff.calls k1 _ _ ((Jd ai cj).f0) _ _ ((Jd ai cj).f1) false _ (uf1_ bj5) cx8.out (uf1_ bj6) cx9.out A5.out).mono ?_
  rintro e jp ⟨rfl,hb⟩
  refine⟨_,rfl,?_⟩
  replace ic:=bb_ ic hb
  replace HB:=hs_ (ac0) hb
  refine hK.out _ _ ⟨(Gz ic.out 0).trans rfl,(Gz ic.out 1).trans rfl,(Gz ic.out 2).trans rfl,((cl_ HB bj4).trans rfl),((cl_ HB bj3).trans rfl)⟩ (fun hHeld=>?_)
  clear hK K
  refine nm_ ?_
  refine pw_ 6 17 (tl_ 21 127) ?_
  refine pw_ 7 18 (tl_ 21 255) ?_
  refine pu_ 8 19 (tl_ 21 511) ?_
  refine pu_ 9 20 (tl_ 21 1023) ?_
  refine pu_ 10 21 (tl_ 21 2047) ?_
  refine pu_ 11 22 (tl_ 21 4095) ?_
  refine pu_ 12 23 (tl_ 21 8191) ?_
  refine pu_ 13 24 (tl_ 21 16383) ?_
  refine pu_ 14 25 (tl_ 21 32767) ?_
  refine pu_ 15 26 (tl_ 21 65535) ?_
  refine pu_ 16 27 (tl_ 21 131071) ?_
  refine pu_ 17 28 (tl_ 21 262143) ?_
  refine pu_ 18 29 (tl_ 21 524287) ?_
  refine pu_ 19 30 (tl_ 21 1048575) ?_
  refine pw_ 20 31 (tl_ 21 2097151) ?_
  refine done_ (done_of HT_.out (g1_)) ?_
  try go_wp2
  go_ret
  exact⟨g4_,ac0⟩
 subst c6
 replace H:=ifp_ H
 by_cases c7:(((Jd ai cj).f0).length:Int)=(ab.length:Int)
 ·rw[if_pos c7] at H
  have ud:((((Jd ai cj).f0).length:Int) == (ab.length:Int))=true:=beq_iff_eq.mpr c7
  have ba4:((((Jd ai cj).f0).length:Int) != (ab.length:Int))=false:=bne_eq_false_iff_eq.mpr c7
  have io6:(((Jd ai cj).f0).length == ab.length)=true:=by first|simpa using c7|(simp at c7 |-;omega)
  clear c7
  have H':=A_ H
  clear H
  obtain⟨sj,sk,gb5,sl,sm,gb6⟩:=blk3_ ic
  try go_wp2
  replace ic:=bd_ ic
  replace HB:=A_ (G2 HB.out)
  have ao3:0<=(cj:Int):=od_
  have ao4:cj < (ai.length:Int):=od_
  obtain⟨pq,bi5,bi6,bi7,bi8,cx7,zd,ze,bi9,bj0,bj1,bj2⟩:=at_T25 l9.out cj ao3 ao4
  have bj3:=ze
  have bj4:=zd
  cases cx7
  replace zd:=cl_ HB zd
  replace ze:=cl_ HB ze
  have bj5:=A_ bj0
  have cx8:=A_ bi9
  clear bj0 bi9
  have bj6:=A_ bj2
  have cx9:=A_ bj1
  clear bj2 bj1
  replace ao3:=eq_true ao3
  replace ao4:=eq_true ao4
  have bu7:0<=(cj:Int):=od_
  have bu8:cj < (ai.length:Int):=od_
  obtain⟨er6,er7,er8,er9,es0,es1,ba5,ba6,cy0,cy1,cy2,cy3⟩:=at_T25 l9.out cj bu7 bu8
  have cy4:=ba6
  have cy5:=ba5
  obtain rfl:pq=er6:=(by injection es1)
  replace ba5:=cl_ HB ba5
  replace ba6:=cl_ HB ba6
  have es2:=A_ cy1
  have io7:=A_ cy0
  clear cy1 cy0
  have es3:=A_ cy3
  have io8:=A_ cy2
  clear cy3 cy2
  replace bu7:=eq_true bu7
  replace bu8:=eq_true bu8
  refine start_ (n:=21) (S:=fun w'=>w'.cell? ⟨ah1,0,none⟩=some (.slice ae ab.length ac)/\w'.cell? ⟨ah1,1,none⟩=some (.slice ag aa.length af)/\w'.cell? ⟨ah1,2,none⟩=some (.slice (some pq) ai.length bv)/\w'.cell? (pq.add ((cj).toNat * 2))=some (.slice bi5 ((Jd ai cj).f0).length bi6)/\w'.cell? ⟨(pq.add ((cj).toNat * 2)).block,(pq.add ((cj).toNat * 2)).off + 1,none⟩=some (.slice bi7 ((Jd ai cj).f1).length bi8)/\w'.cell? (pq.add ((cj).toNat * 2))=some (.slice er7 ((Jd ai cj).f0).length er8)/\w'.cell? ⟨(pq.add ((cj).toNat * 2)).block,(pq.add ((cj).toNat * 2)).off + 1,none⟩=some (.slice er9 ((Jd ai cj).f1).length es0)) (ds:=[]) (tl_ 21 0) (g1_) rfl (g1_) ⟨(Gz ic.out 0).trans rfl,(Gz ic.out 1).trans rfl,(Gz ic.out 2).trans rfl,((cl_ HB bj4).trans rfl),((cl_ HB bj3).trans rfl),((cl_ HB cy5).trans rfl),((cl_ HB cy4).trans rfl)⟩ (fun hHeld=>?_);refine Jm Fz.tab4 Fz.bits4 (fun HT_ HW_=>?_)
  generalize wr.drew=w9 at ic HB bj5 bj6 es2 es3 zd ze ba5 ba6 hHeld |-
  refine pw_ 0 11 (tl_ 21 1) ?_
  refine pw_ 2 13 (tl_ 21 5) ?_
  refine tk4_ 1 12 (tl_ 21 7) hHeld ?_
  refine pw_ 3 14 (tl_ 21 15) ?_
  refine tk4_ 4 15 (tl_ 21 31) hHeld ?_
  refine one_ (i:=5) (N:=some 16) (tl_ 21 63) rfl rfl (Jo HT_.out (g1_)) (by decide) (fun K hK=>?_)
  refine goes_ Try.func42 (g1_) rfl #[.agg #[.slice bi5 ((Jd ai cj).f0).length bi6, .slice bi7 ((Jd ai cj).f1).length bi8]] (by rfl) rfl rfl (g3_) ?_
  refine(Ff.calls k1 _ _ ((Jd ai cj).f0) _ _ ((Jd ai cj).f1) true _ (uf1_ bj5) cx8.out (uf1_ bj6) cx9.out A5.out).mono ?_
  rintro e w10 ⟨rfl,hb⟩
  refine⟨_,rfl,?_⟩
  replace ic:=bb_ ic hb
  replace HB:=hs_ (ac0) hb
  refine hK.out _ _ ⟨(Gz ic.out 0).trans rfl,(Gz ic.out 1).trans rfl,(Gz ic.out 2).trans rfl,((cl_ HB bj4).trans rfl),((cl_ HB bj3).trans rfl),((cl_ HB cy5).trans rfl),((cl_ HB cy4).trans rfl)⟩ (fun hHeld=>?_)
  clear hK K
  refine nm_ ?_
  refine pw_ 6 17 (tl_ 21 127) ?_
  refine pw_ 7 18 (tl_ 21 255) ?_
  refine pw_ 8 19 (tl_ 21 511) ?_
  refine pw_ 10 21 (tl_ 21 1535) ?_
  refine pw_ 15 26 (tl_ 21 34303) ?_
  refine pw_ 16 27 (tl_ 21 99839) ?_
  refine tk4_ 9 20 (tl_ 21 100351) hHeld ?_
  refine pw_ 11 22 (tl_ 21 102399) ?_
  refine pw_ 12 23 (tl_ 21 106495) ?_
  refine tk4_ 13 24 (tl_ 21 114687) hHeld ?_
  refine pw_ 14 25 (tl_ 21 131071) ?_
  refine tk4_ 17 28 (tl_ 21 262143) hHeld ?_
  refine pw_ 18 29 (tl_ 21 524287) ?_
  refine pw_ 19 30 (tl_ 21 1048575) ?_
  refine pw_ 20 31 (tl_ 21 2097151) ?_
  refine done_ (done_of HT_.out (g1_)) ?_
  try go_wp2
  go_roundg k1
  case measure=>have:=HK1.out;omega
  case rel=>exact⟨(wrap64 (cj + 1)),(g2_),H',⟨g13_⟩,⟨uf0_ ic⟩,⟨ac0⟩⟩
 rw[if_neg c7] at H
 have ud:((((Jd ai cj).f0).length:Int) == (ab.length:Int))=false:=beq_eq_false_iff_ne.mpr c7
 have ba4:((((Jd ai cj).f0).length:Int) != (ab.length:Int))=true:=bne_iff_ne.mpr c7
 have io6:(((Jd ai cj).f0).length == ab.length)=false:=by first|simpa using c7|(simp at c7 |-;omega)
 obtain rfl:=Option.some.inj H
 obtain⟨yu,yv,es4,yw,yx,es5⟩:=blk3_ ic
 try go_wp2
 replace ic:=bd_ ic
 replace HB:=A_ (G2 HB.out)
 have ao3:0<=(cj:Int):=od_
 have ao4:cj < (ai.length:Int):=od_
 obtain⟨pq,bi5,bi6,bi7,bi8,cx7,zd,ze,bi9,bj0,bj1,bj2⟩:=at_T25 l9.out cj ao3 ao4
 have bj3:=ze
 have bj4:=zd
 cases cx7
 replace zd:=cl_ HB zd
 replace ze:=cl_ HB ze
 have bj5:=A_ bj0
 have cx8:=A_ bi9
 clear bj0 bi9
 have bj6:=A_ bj2
 have cx9:=A_ bj1
 clear bj2 bj1
 replace ao3:=eq_true ao3
 replace ao4:=eq_true ao4
 have bu7:0<=(cj:Int):=od_
 have bu8:cj < (ai.length:Int):=od_
 obtain⟨er6,er7,er8,er9,es0,es1,ba5,ba6,cy0,cy1,cy2,cy3⟩:=at_T25 l9.out cj bu7 bu8
 have cy4:=ba6
 have cy5:=ba5
 obtain rfl:pq=er6:=(by injection es1)
 replace ba5:=cl_ HB ba5
 replace ba6:=cl_ HB ba6
 have es2:=A_ cy1
 have io7:=A_ cy0
 clear cy1 cy0
 have es3:=A_ cy3
 have io8:=A_ cy2
 clear cy3 cy2
 replace bu7:=eq_true bu7
 replace bu8:=eq_true bu8
 refine start_ (n:=21) (S:=fun w'=>w'.cell? ⟨ah1,0,none⟩=some (.slice ae ab.length ac)/\w'.cell? ⟨ah1,1,none⟩=some (.slice ag aa.length af)/\w'.cell? ⟨ah1,2,none⟩=some (.slice (some pq) ai.length bv)/\w'.cell? (pq.add ((cj).toNat * 2))=some (.slice bi5 ((Jd ai cj).f0).length bi6)/\w'.cell? ⟨(pq.add ((cj).toNat * 2)).block,(pq.add ((cj).toNat * 2)).off + 1,none⟩=some (.slice bi7 ((Jd ai cj).f1).length bi8)/\w'.cell? (pq.add ((cj).toNat * 2))=some (.slice er7 ((Jd ai cj).f0).length er8)/\w'.cell? ⟨(pq.add ((cj).toNat * 2)).block,(pq.add ((cj).toNat * 2)).off + 1,none⟩=some (.slice er9 ((Jd ai cj).f1).length es0)) (ds:=[]) (tl_ 21 0) (g1_) rfl (g1_) ⟨(Gz ic.out 0).trans rfl,(Gz ic.out 1).trans rfl,(Gz ic.out 2).trans rfl,((cl_ HB bj4).trans rfl),((cl_ HB bj3).trans rfl),((cl_ HB cy5).trans rfl),((cl_ HB cy4).trans rfl)⟩ (fun hHeld=>?_);refine Jm Fz.tab4 Fz.bits4 (fun HT_ HW_=>?_)
 generalize wr.drew=ws at ic HB bj5 bj6 es2 es3 zd ze ba5 ba6 hHeld |-
 refine pw_ 0 11 (tl_ 21 1) ?_
 refine pw_ 2 13 (tl_ 21 5) ?_
 refine tk4_ 1 12 (tl_ 21 7) hHeld ?_
 refine pw_ 3 14 (tl_ 21 15) ?_
 refine tk4_ 4 15 (tl_ 21 31) hHeld ?_
 refine one_ (i:=5) (N:=some 16) (tl_ 21 63) rfl rfl (Jo HT_.out (g1_)) (by decide) (fun K hK=>?_)
 refine goes_ Try.func42 (g1_) rfl #[.agg #[.slice bi5 ((Jd ai cj).f0).length bi6, .slice bi7 ((Jd ai cj).f1).length bi8]] (by rfl) rfl rfl (g3_) ?_
 refine(Ff.calls k1 _ _ ((Jd ai cj).f0) _ _ ((Jd ai cj).f1) true _ (uf1_ bj5) cx8.out (uf1_ bj6) cx9.out A5.out).mono ?_
 rintro e w13 ⟨rfl,hb⟩
 refine⟨_,rfl,?_⟩
 replace ic:=bb_ ic hb
 replace HB:=hs_ (ac0) hb
 refine hK.out _ _ ⟨(Gz ic.out 0).trans rfl,(Gz ic.out 1).trans rfl,(Gz ic.out 2).trans rfl,((cl_ HB bj4).trans rfl),((cl_ HB bj3).trans rfl),((cl_ HB cy5).trans rfl),((cl_ HB cy4).trans rfl)⟩ (fun hHeld=>?_)
 clear hK K
 refine nm_ ?_
 refine pw_ 6 17 (tl_ 21 127) ?_
 refine pw_ 7 18 (tl_ 21 255) ?_
 refine pw_ 8 19 (tl_ 21 511) ?_
 refine pw_ 10 21 (tl_ 21 1535) ?_
 refine pw_ 15 26 (tl_ 21 34303) ?_
 refine pw_ 16 27 (tl_ 21 99839) ?_
 refine tk4_ 9 20 (tl_ 21 100351) hHeld ?_
 refine pw_ 11 22 (tl_ 21 102399) ?_
 refine pw_ 12 23 (tl_ 21 106495) ?_
 refine tk4_ 13 24 (tl_ 21 114687) hHeld ?_
 refine pw_ 14 25 (tl_ 21 131071) ?_
 refine tk4_ 17 28 (tl_ 21 262143) hHeld ?_
 refine pw_ 18 29 (tl_ 21 524287) ?_
 refine pw_ 19 30 (tl_ 21 1048575) ?_
 refine pw_ 20 31 (tl_ 21 2097151) ?_
 refine done_ (done_of HT_.out (g1_)) ?_
 try go_wp2
 go_ret
 exact⟨g4_,ac0⟩
def Fu.l0:Nat->Int->List Int->List (List Int)->List Int->List (List Int)->Option (List Int × (List (List Int)))
 | 0,_,_,_,_,_=>none
 | k + 1,x4,io9,dr7,gg7,es6=>if x4 < (dr7.length:Int) then((some (([]:List Int):List Int)).bind fun bu9=>(if 0<=x4 then(if bu9.length + (Jc dr7 x4).length < 17592186044416 then(if es6.length < 5864062014805 then(Fu.l0 k (wrap64 (x4 + 1)) io9 dr7 gg7 (es6 ++ [(bu9 ++ (Jc dr7 x4))])) else(none)) else(none)) else(none))) else(some (gg7,es6))
def Fu.f (k:Nat) (ab:List Int) (aa:List (List Int)):Option (List Int × (List (List Int))):=(some (([]:List Int):List Int)).bind fun at8=>(if at8.length + ab.length < 17592186044416 then(Fu.l0 k 0 ab aa (at8 ++ ab) ([]:List (List Int))) else(none))
def Fu.T5:Bool × List (List Nat × List Nat):=(true,[([],[]),([0],[0]),([],[]),([],[]),([3],[3]),([],[]),([4,5],[4,5]),([6],[6]),([2,7],[2,7]),([8],[8]),([1,9,8],[1,9]),([0,1,2,3,4,5,6,7,8,9,10],[]),([11,10,10,0,1,2,3,4,5,6,7,8,9,10],[10,11])])
def Fu.B5:List Nat:=[0,1,0,0,8,0,56,120,252,508,1023,2047,4095]
theorem Fu.tab5:rtab .any (opsOf Try.f80 5)=Fu.T5:=by kernel_rfl
theorem Fu.bits5:waitsOk Fu.T5.2 Fu.B5=true:=by kernel_rfl
theorem va {p:Prop} (h:p:=by repeat(first|(with_reducible first|exact HB.out|apply G4|apply G3|apply G2|refine G1 ?_ ip0.out|refine G1 ?_ ip1.out|refine G1 ?_ ip2.out)|exact HB.out)):p:=h
set_option maxHeartbeats 8000000 in
set_option maxRecDepth 100000 in
theorem Fu.calls (k:Nat) (ae:Option Addr) (ac:Nat) (ab:List Int) (ag:Option Addr) (af:Nat) (aa:List (List Int)) (r1:List Int) (r2:List (List Int)) (w:World) (ca:Kd.C (Kd.int .i64) w ae ab.length ab) (ce:ab.length<=ac) (cb:Kd.C (Kd.slice 3 (Kd.int .i64)) w ag aa.length aa) (cg:aa.length<=af) (h:Fu.f k ab aa=some (r1,r2)) :
  Calls Try.prog 80 #[.agg #[.slice ae ab.length ac, .slice ag aa.length af]] w fun e w'=>∃v0_ v1_:Value,e = .returned (.agg #[v0_,v1_])/\Kd.R (Kd.int .i64) 3 w' w.heap.size (fun _=>True) v0_ r1/\Kd.S (Kd.slice 3 (Kd.int .i64)) 22 w' w.heap.size (fun k_=>some k_≠(v0_:Value).ownBlock) v1_ r2/\Below w.heap.size w w':=by
 have hu25:=Try.underlying25
 have bu:=A_ ca
 have cq:=A_ ce
 clear ca ce
 have bf:=A_ cb
 have cu:=A_ cg
 clear cb cg
 have HB:=A_ (Below.refl w.heap.size w)
 have H:=h
 unfold Fu.f at H
 clear h
 obtain⟨at8,hyq⟩:∃y_:List Int,y_=(([]:List Int)):=⟨_,rfl⟩
 replace H:(if at8.length + ab.length < 17592186044416 then(Fu.l0 k 0 ab aa (at8 ++ ab) ([]:List (List Int))) else(none))=some (r1,r2):=qh_
 have gg8:=A_ hyq
 clear hyq
 obtain⟨c2,H⟩:=pos_ H
 have es7:=A_ c2
 clear c2
 obtain⟨ox,hyq⟩:∃y_:List Int,y_=(at8 ++ ab):=⟨_,rfl⟩
 replace H:(Fu.l0 k 0 ab aa ox ([]:List (List Int)))=some (r1,r2):=qh_
 have ip3:=A_ hyq
 clear hyq
 have H':=A_ H
 clear H
 go_enter Try.func80,Try.ntmps80
 go_wp2_with (first|((with_reducible refine gd_ 1 ?_);refine bx_ (N:=1) #[.slice ae ab.length ac, .slice ag aa.length af] 25 ?_;intro vq hg w3 hbox hb;have jg:=A_ (hbox);have ln9:=A_ ((g53_:w.heap.size<=vq));have ip0:=ln9;replace HB:=hs_ (va) hb;clear hb hbox hg)|((with_reducible refine gd_ 2 ?_);refine bx_ (N:=2) #[.slice none 0 0, .slice none 0 0] 25 ?_;intro ue hg w4 hbox hb;have m8:=A_ (hbox);have lo0:=A_ ((g53_:w.heap.size<=ue));have ip1:=lo0;replace HB:=hs_ (va) hb;have es8:=nl_ jg hg;have es9:=nr_ jg hg;replace jg:=bb_ jg hb;clear hb hbox hg)|((with_reducible refine gd_ 5 ?_);refine rle_ 5 [] ?_;intro ip4 w5 ho6 hb hg_ hnew_;clear hg_ hnew_;(first|rw[<- gg8.out] at ho6|(simp only[Int.reduceToNat] at ho6;rw[<- gg8.out] at ho6));have dr8:=A_ (Kd.R_lower ho6 (G0 (va)));replace jg:=bb_ jg hb;replace m8:=bb_ m8 hb;replace HB:=hs_ (va) hb;clear hb ho6;have et0:=es8.out;have et1:=es9.out;obtain⟨sj,sk,sl,sm⟩:=blk2_ jg)|((with_reducible refine gate_builtin (b:=.append) (xs:=#[.tmp 5, .tmp 7]) rfl ?_);at_builtin;refine Kd.R_append_rows (Kd.int .i64) (w0:=w) w.heap.size rfl (.tmp 5) (.tmp 7) 22 3 (.int .i64 0) 8 rfl Try.underlying22 info3 rfl (by decide) (by omega) ip4 at8 ab _ _ _ (fun _=>True) (fun _=>False) rfl rfl ?aO ?aR (fun _ _ h=>h) (fun _ h=>h.elim) ?aF ?aB ?aS ?aL ?_;(case aR=>exact uf1_ bu);(case aB=>exact(va));(case aF=>exact(fun _ _=>trivial));(case aO=>exact(uf2_ dr8));(case aS=>exact(G0 (va)));(case aL=>have:=es7.out;omega);intro lo1 w9 ho hb hg hat;rw[<- ip3.out] at ho;replace jg:=(bg_ jg hg (Kd.R_ne dr8.out jg.out (by decide)));replace m8:=(bg_ m8 hg (Kd.R_ne dr8.out m8.out (by decide)));replace HB:=A_ (hb);have dr9:=A_ (ho);clear dr8;clear ho hb hg hat;obtain⟨ax,av,ao5⟩:=Kd.R_slice dr9.out;subst ao5)|((with_reducible refine gd_ 3 ?_);refine bx_ (N:=3) #[.slice none 0 0, .slice none 0 0] 25 ?_;intro vr hg w11 hbox hb;replace dr9:=rb_ dr9 hb;have lj:=A_ (hbox);have lo2:=A_ ((g53_:w.heap.size<=vr));have ip2:=lo2;replace HB:=hs_ (va) hb;have bv0:=nl_ jg hg;have ds0:=nr_ jg hg;replace jg:=bb_ jg hb;have ch7:=nl_ m8 hg;have et2:=nr_ m8 hg;replace m8:=bb_ m8 hb;clear hb hbox hg;have bv1:=ds0.out;have bv2:=bv0.out;have cg3:=et2.out;have cg4:=ch7.out;obtain⟨sf,sg,sh,si⟩:=blk2_ lj))
 go_loopg [4] k (fun kq v4 w'=>∃(a8:Int) (ah2:List (List Int)) (ao6:Value),v4 = .int .i64 a8/\Gy (Fu.l0 kq a8 ab aa ox ah2=some (r1,r2))/\Gy (kq<=k)/\Gy (Kd.R (Kd.int .i64) 3 w' w.heap.size (fun _=>True) (.slice ax ox.length av) ox)/\Gy (Kd.S (Kd.slice 3 (Kd.int .i64)) 22 w' w.heap.size (fun k_=>some k_≠((.slice ax ox.length av):Value).ownBlock) ao6 ah2)/\Gy (hc_ w' vq #[(.slice ae ab.length ac),(.slice ag aa.length af)] 25)/\Gy (hc_ w' ue #[(.slice none 0 0),(.slice none 0 0)] 25)/\Gy (hc_ w' vr #[(.slice ax ox.length av),ao6] 25)/\Gy (Below w.heap.size w w'))
 case atStart=>exact⟨(0),(([]:List (List Int))),(.slice none 0 0),(g2_),H',⟨Nat.le_refl _⟩,⟨ra_ dr9⟩,⟨g24_⟩,⟨ba_ jg⟩,⟨ba_ m8⟩,⟨ba_ lj⟩,⟨va⟩⟩
 clear H'
 obtain⟨a8,ah2,ao6,rfl,HA,HK1,zf,uf,jg,m8,lj,HB⟩:=hrel
 cases gk with
 | zero=>exact absurd HA.out (by simp[Fu.l0])
 | succ k1=>?_
 have H:=HA.out
 clear HA
 simp only[Fu.l0] at H
 by_cases dl:a8 < (aa.length:Int)
 case neg=>
  rw[if_neg dl] at H
  have mb:=decide_eq_false dl
  clear dl
  simp only[Option.some.injEq,Prod.mk.injEq] at H
  obtain⟨rfl,rfl⟩:=H
  have ds4:=es8.out
  have ds5:=es9.out
  have et6:=bv0.out
  have et7:=ds0.out
  obtain⟨ds6,ds7,ds8,ds9⟩:=blk2_ jg
  have bk0:=et2.out
  have bk1:=ch7.out
  obtain⟨gh4,gh5,gh6,gh7⟩:=blk2_ lj
  obtain⟨ba8,ba9,bb0,bb1⟩:=blk2_ m8
  obtain⟨zg,zh,et8⟩:=Kd.S_slice uf.out
  subst et8
  go_wp2
  refine bodyPost_ret (results_cell_row rfl _ _ ue 25 #[.slice ax ox.length av, .slice zg ah2.length zh] (0,0) _ rfl (ba_ m8) Try.underlying25 rfl (g1_)) rfl ?_
  exact⟨_,_,g4_,ra_ zf,sa_ uf,va⟩
 rw[if_pos dl] at H
 have mb:=decide_eq_true dl
 clear dl
 obtain⟨bu9,hyq⟩:∃y_:List Int,y_=(([]:List Int)):=⟨_,rfl⟩
 replace H:(if 0<=a8 then(if bu9.length + (Jc aa a8).length < 17592186044416 then(if ah2.length < 5864062014805 then(Fu.l0 k1 (wrap64 (a8 + 1)) ab aa ox (ah2 ++ [(bu9 ++ (Jc aa a8))])) else(none)) else(none)) else(none))=some (r1,r2):=qh_
 have gg9:=A_ hyq
 clear hyq
 obtain⟨vm,H⟩:=pd_ H
 obtain⟨f7,H⟩:=pos_ H
 have et3:=A_ f7
 clear f7
 obtain⟨cy6,hyq⟩:∃y_:List Int,y_=(bu9 ++ (Jc aa a8)):=⟨_,rfl⟩
 replace H:(if ah2.length < 5864062014805 then(Fu.l0 k1 (wrap64 (a8 + 1)) ab aa ox (ah2 ++ [cy6])) else(none))=some (r1,r2):=qh_
 have ip5:=A_ hyq
 clear hyq
 obtain⟨jf,H⟩:=pos_ H
 have ip6:=A_ jf
 clear jf
 obtain⟨cy7,hyq⟩:∃y_:List (List Int),y_=(ah2 ++ [cy6]):=⟨_,rfl⟩
 replace H:(Fu.l0 k1 (wrap64 (a8 + 1)) ab aa ox cy7)=some (r1,r2):=qh_
 have ip7:=A_ hyq
 clear hyq
 have H':=A_ H
 clear H
 have ch8:=es8.out
 have ch9:=es9.out
 have bv3:=bv0.out
 have bv4:=ds0.out
 obtain⟨vh,vi,wu,vj⟩:=blk2_ jg
 try go_wp2
 replace zf:=rd_ zf
 replace uf:=sd_ uf
 replace jg:=bd_ jg
 replace m8:=bd_ m8
 replace lj:=bd_ lj
 replace HB:=A_ (G2 HB.out)
 obtain⟨⟨ds1,ip8,ip9,iq0,ds2,gh0,gh1⟩,et4,et5⟩:=rdp_ (at_L1 bf.out a8)
 have ci0:=ds2
 cases iq0
 replace ds2:=cl_ HB ds2
 have gh2:=A_ gh1
 have lo3:=A_ gh0
 clear gh1 gh0
 refine start_ (n:=13) (S:=fun w'=>w'.cell? ⟨vr,0,none⟩=some (.slice ax ox.length av)/\w'.cell? ⟨vr,1,none⟩=some (ao6)/\w'.cell? ⟨vq,0,none⟩=some (.slice ae ab.length ac)/\w'.cell? ⟨vq,1,none⟩=some (.slice (some ds1) aa.length af)/\w'.cell? (ds1.add (a8).toNat)=some (.slice ip8 (Jc aa a8).length ip9)) (ds:=[12]) (tl_ 13 0) (g1_) rfl (g1_) ⟨(Gz lj.out 0).trans rfl,(Gz lj.out 1).trans rfl,(Gz jg.out 0).trans rfl,(Gz jg.out 1).trans rfl,((cl_ HB ci0).trans rfl)⟩ (fun hHeld=>?_);refine Jm Fu.tab5 Fu.bits5 (fun HT_ HW_=>?_)
 generalize wr.drew=ug at zf uf jg m8 lj HB gh2 ds2 hHeld |-
 refine pw_ 0 17 (tl_ 13 1) ?_
 refine pw_ 3 20 (tl_ 13 9) ?_
 refine pw_ 5 22 (tl_ 13 41) ?_
 refine tk5_ 1 18 (tl_ 13 43) hHeld ?_
 refine tk5_ 4 21 (tl_ 13 59) hHeld ?_
 refine pw_ 6 23 (tl_ 13 123) ?_
 refine tk5_ 7 24 (tl_ 13 251) hHeld ?_
 refine one_ (i:=2) (N:=some 19) (tl_ 13 255) rfl rfl (Jo HT_.out (g1_)) (by decide) (fun K hK=>?_)
 refine rls_ 19 [] ?_
 intro iq1 w23 bv5 hb hg_ hnew_
 clear hg_ hnew_
 (first|rw[<- gg9.out] at bv5|(simp only[Int.reduceToNat] at bv5;rw[<- gg9.out] at bv5))
 replace uf:=A_ (Kd.S_elder' (uf3_ uf) (Kd.R_base bv5) hb)
 have cy8:=A_ (Kd.R_lower (Kd.R_new' bv5 (Kd.R_lt (uf2_ zf))) (G0 (va)))
 replace zf:=A_ (Kd.R_elder' (uf2_ zf) (Kd.R_base bv5) hb)
 replace jg:=bb_ jg hb
 replace m8:=bb_ m8 hb
 replace lj:=bb_ lj hb
 replace HB:=hs_ (va) hb
 clear hb bv5
 refine hK.out _ _ ⟨(Gz lj.out 0).trans rfl,(Gz lj.out 1).trans rfl,(Gz jg.out 0).trans rfl,(Gz jg.out 1).trans rfl,((cl_ HB ci0).trans rfl)⟩ (fun hHeld=>?_)
 clear hK K
 refine nm_ ?_
 refine one_ (i:=8) (N:=some 25) (tl_ 13 511) rfl rfl (Jo HT_.out (g1_)) (by decide) (fun K hK=>?_)
 refine Kd.R_append_rows_step (Kd.int .i64) (w0:=w) w.heap.size (by rfl) (.tmp 19) (.tmp 24) 22 3 (.int .i64 0) 8 rfl Try.underlying22 info3 rfl (by decide) (by omega) iq1 bu9 (Jc aa a8) _ _ _ (fun k_=>some k_≠(.slice ax ox.length av:Value).ownBlock) (fun _=>False) rfl rfl ?aO ?aR (fun _ _ h=>h) (fun _ h=>h.elim) ?aF ?aB ?aS ?aL ?_
 (case aR=>exact uf1_ gh2)
 (case aB=>exact(va))
 (case aF=>exact(fun k_ hk=>Kd.fresh' (Kd.R_lt (uf2_ zf)) k_ hk))
 (case aO=>exact(by(with_reducible repeat(first|apply Kd.R_alloc|apply Kd.R_drewN|apply Kd.R_drew));exact Kd.R_mono cy8.out (fun _ hk=>hk.2)))
 (case aS=>exact(G0 (va)))
 (case aL=>have:=et3.out;omega)
 intro lo4 oa ho hb hg hat
 rw[<- ip5.out] at ho
 replace zf:=A_ (Kd.R_after (ok:=(fun _=>True)) (uf2_ zf) hg hat)
 replace uf:=A_ (Kd.S_after (ok:=(fun k_=>some k_≠(.slice ax ox.length av:Value).ownBlock)) (uf3_ uf) hg hat)
 replace jg:=(bg_ jg hg (Kd.R_ne cy8.out jg.out (by decide)))
 replace m8:=(bg_ m8 hg (Kd.R_ne cy8.out m8.out (by decide)))
 replace lj:=(bg_ lj hg (Kd.R_ne cy8.out lj.out (by decide)))
 replace HB:=A_ (hb)
 have ds3:=A_ (ho)
 clear cy8
 clear ho hb hg hat
 obtain⟨ci1,bv6,bj9⟩:=Kd.R_slice ds3.out
 (first|subst bj9|(injection bj9 with f1_ f2_ f3_;have f4_:=f1_.symm;have f5_:=f3_.symm;clear f1_ f2_ f3_;subst f4_;subst f5_))
 refine hK.out _ _ ⟨(Gz lj.out 0).trans rfl,(Gz lj.out 1).trans rfl,(Gz jg.out 0).trans rfl,(Gz jg.out 1).trans rfl,((cl_ HB ci0).trans rfl)⟩ (fun hHeld=>?_)
 clear hK K
 refine nm_ ?_
 refine one_ (i:=9) (N:=some 26) (tl_ 13 1023) rfl rfl (Jo HT_.out (g1_)) (by decide) (fun K hK=>?_)
 refine value_ (w1:=?_) (v:=?_) (by rfl) rfl ?_ ?_
 rotate_left 2
 ·go_simp
  constructor
  ·rfl
  rfl
 refine hK.out _ _ ⟨(Gz (G5 lj.out _) 0).trans rfl,(Gz (G5 lj.out _) 1).trans rfl,(Gz (G5 jg.out _) 0).trans rfl,(Gz (G5 jg.out _) 1).trans rfl,(World.cell?_alloc_lt _ _ _ (World.block_lt_of_cell? _ _ (((cl_ HB ci0).trans rfl)))).trans (((cl_ HB ci0).trans rfl))⟩ (fun hHeld=>?_)
 clear hK K
 refine nm_ ?_
 refine one_ (i:=10) (N:=some 27) (tl_ 13 2047) rfl rfl (Jo HT_.out (g1_)) (by decide) (fun K hK=>?_)
 refine Kd.S_append_step (Kd.slice 3 (Kd.int .i64)) (w0:=w) w.heap.size (by rfl) (.tmp 18) (.tmp 26) 23 22 (.slice none 0 0) 24 rfl Try.underlying23 info22 rfl (by decide) (by omega) ao6 ah2 cy6 [.slice ci1 cy6.length bv6] (fun k_=>some k_≠(.slice ax ox.length av:Value).ownBlock) (fun k_=>some k_=(.slice ci1 cy6.length bv6:Value).ownBlock) rfl rfl ?aP (fun k_ hk_=>((Kd.R_mono (ok':=fun k_=>((fun k_=>some k_≠(.slice ax ox.length av:Value).ownBlock)) k_/\some k_≠(ao6:Value).ownBlock) (Kd.R_apart' (ds3.out) (Kd.S_typed uf.out) (by decide)) (fun k_ hk=>⟨hk.1,hk.2⟩))).1 k_ hk_.symm) ?aF ?aO ?aB ?aS ?aL ?_
 (case aP=>exact Kd.M_row (Kd.R_mono (Kd.R_tight rfl (Kd.R_mono (ok':=fun k_=>((fun k_=>some k_≠(.slice ax ox.length av:Value).ownBlock)) k_/\some k_≠(ao6:Value).ownBlock) (Kd.R_apart' (ds3.out) (Kd.S_typed uf.out) (by decide)) (fun k_ hk=>⟨hk.1,hk.2⟩))) (fun _ h_=>h_)))
 (case aB=>exact(va))
 (case aF=>exact(fun k_ hk=>Kd.fresh' (Kd.R_lt (uf2_ zf)) k_ hk))
 (case aO=>exact(by(with_reducible repeat(first|apply Kd.S_alloc|apply Kd.S_drewN|apply Kd.S_drew));exact Kd.S_mono uf.out (fun k_ hk=>⟨hk.1,fun e_=>hk.2 e_⟩)))
 (case aS=>exact(G0 (va)))
 (case aL=>have:=ip6.out;omega)
 intro lo5 w26 ho hb hg hat
 rw[<- ip7.out] at ho
 replace zf:=A_ (Kd.R_over' (uf2_ zf) (Kd.S_typed (uf3_ uf)) (by decide) hg)
 replace jg:=(bg_ jg hg (Kd.S_ne uf.out jg.out (by decide)))
 replace m8:=(bg_ m8 hg (Kd.S_ne uf.out m8.out (by decide)))
 replace lj:=(bg_ lj hg (Kd.S_ne uf.out lj.out (by decide)))
 replace HB:=A_ (hb)
 have gh3:=A_ (ho)
 clear uf ds3
 clear ho hb hg hat
 obtain⟨cd,b7,ba7⟩:=Kd.S_slice gh3.out
 (first|subst ba7|(injection ba7 with f1_ f2_ f3_;have f4_:=f1_.symm;have f5_:=f3_.symm;clear f1_ f2_ f3_;subst f4_;subst f5_))
 refine hK.out _ _ ⟨(Gz lj.out 0).trans rfl,(Gz lj.out 1).trans rfl,(Gz jg.out 0).trans rfl,(Gz jg.out 1).trans rfl,((cl_ HB ci0).trans rfl)⟩ (fun hHeld=>?_)
 clear hK K
 refine nm_ ?_
 refine pw_ 11 28 (tl_ 13 4095) ?_
 refine last_ (i:=12) (N:=none) (tl_ 13 8191) rfl rfl (Jo HT_.out (g1_)) (by decide) (fun K hK=>?_)
 have iq2:w26.cell? ⟨vr,1,none⟩=some (ao6):=(Gz lj.out 1).trans rfl
 have iq3:=G8 lj.out 1
 have iq5:=ch7.out
 have iq7:=et2.out
 refine skip_ (w1:=?_) (by rfl) rfl ?_ ?_
 rotate_left
 ·go_simp
  rfl
 refine hK.out _ _ ?_
 clear hK K
 refine done_ (done_of HT_.out (g1_)) ?_
 try go_wp2
 go_roundg k1
 case measure=>have:=HK1.out;omega
 case rel=>exact⟨(wrap64 (a8 + 1)),(cy7),(.slice cd cy7.length b7),(g2_),H',⟨g13_⟩,⟨ra_ zf⟩,⟨sa_ gh3⟩,⟨ba_ jg⟩,⟨ba_ m8⟩,⟨ba_ lj⟩,⟨va⟩⟩
def k25s:Kd S25 where
 sz:=k25.sz
 E:=k25.E
 K:=k25.K
 M:=fun w base ok x cs=>∃v0 v1,cs=[v0,v1]/\(Kd.int .i64).R 3 w base ok v0 x.f0/\Kd.S (Kd.slice 3 (Kd.int .i64)) 22 w base (fun k=>ok k/\some k≠v0.ownBlock) v1 x.f1
 K_len:=k25.K_len
 K_one:=k25.K_one
 K_below:=k25.K_below
 K_of_M:=fun h=>by
  obtain⟨v0,v1,rfl,h0,h1⟩:=h
  exact k25.K_of_M (k25_mkM _ _ _ _ h0 (Kd.R_mono (Kd.S_R h1) (fun _ hk=>hk.1)))
 M_mono:=fun hok h=>by
  obtain⟨v0,v1,rfl,h0,h1⟩:=h
  exact⟨v0,v1,rfl,Kd.R_mono h0 hok,Kd.S_mono h1 (fun _ hk=>⟨hok _ hk.1,hk.2⟩)⟩
 M_bound:=fun h=>by
  obtain⟨v0,v1,rfl,h0,h1⟩:=h
  refine⟨v0,v1,rfl,Kd.R_mono (Kd.R_bound h0) (fun _ hk=>⟨hk.1,hk.2.1,hk.2.2.1,?_⟩),Kd.S_mono (Kd.S_bound h1) (fun _ hk=>⟨⟨hk.1.1,hk.2.1,hk.2.2.1,?_⟩,hk.1.2⟩)⟩
  ·obtain⟨q,hq,c,hc⟩:=hk.2.2.2
   exact⟨q,(List.mem_cons.1 hq).elim (fun e_=>by rw[e_];decide) (fun h_=>absurd h_ (by simp[Kd.int,Kd.scalar])),c,hc⟩
  ·obtain⟨q,hq,c,hc⟩:=hk.2.2.2
   refine⟨q,?_,c,hc⟩
   have h2:q=22 ∨ q=3:=by simpa [Kd.slice,Kd.int,Kd.scalar] using hq
   rcases h2 with rfl|rfl <;> decide
 M_move:=fun hm h=>by
  obtain⟨v0,v1,rfl,h0,h1⟩:=h
  exact⟨v0,v1,rfl,Kd.R_move h0 hm,Kd.S_move h1 (fun _ hk=>hm _ hk.1)⟩
 M_lower:=fun hb h=>by
  obtain⟨v0,v1,rfl,h0,h1⟩:=h
  exact⟨v0,v1,rfl,Kd.R_lower h0 hb,Kd.S_lower h1 hb⟩
theorem k25s_mkM (w:World) (base:Nat) (ok:Nat->Prop) (x:S25) {v0:Value} (g0:(Kd.int .i64).R 3 w base ok v0 x.f0) {v1:Value} (g1:Kd.S (Kd.slice 3 (Kd.int .i64)) 22 w base (fun k=>ok k/\some k≠v0.ownBlock) v1 x.f1):k25s.M w base ok x [v0,v1]:=⟨v0,v1,rfl,g0,g1⟩
theorem k25s_M {w:World} {base:Nat} {ok:Nat->Prop} {x:S25} {cs:List Value} (h:k25s.M w base ok x cs):k25.M w base ok x cs:=by
 obtain⟨v0,v1,rfl,h0,h1⟩:=h
 exact k25_mkM _ _ _ _ h0 (Kd.R_mono (Kd.S_R h1) (fun _ hk=>hk.1))
theorem k25s_R {e:Nat} {w:World} {base:Nat} {ok:Nat->Prop} {v:Value} {xs:List S25} (h:Kd.S k25s e w base ok v xs):k25.R e w base ok v xs:=by
 obtain⟨h0,inner,ho,hr⟩:=Kd.S_R h
 exact⟨h0,inner,ho,hr.imp_ (fun _ _ hp=>k25s_M hp)⟩
def Fn.l0:Nat->Int->List Int->List (List Int)->List (S25)->List Int->List (List Int)->List (S25)->Option (List Int × (List (List Int)) × (List (S25)))
 | 0,_,_,_,_,_,_,_=>none
 | k + 1,x4,iq8,iq9,dt0,gh8,gh9,et9=>if x4 < (dt0.length:Int) then(if 0<=x4 then((Fu.f k ((Jd dt0 x4).f0) ((Jd dt0 x4).f1)).bind fun bt164=>(if et9.length < 2932031007402 then(Fn.l0 k (wrap64 (x4 + 1)) iq8 iq9 dt0 gh8 gh9 (et9 ++ [(⟨bt164.1,bt164.2⟩:S25)])) else(none))) else(none)) else(some (gh8,gh9,et9))
def Fn.f (k:Nat) (ab:List Int) (aa:List (List Int)) (ai:List (S25)):Option (List Int × (List (List Int)) × (List (S25))):=(Fu.f k ab aa).bind fun bt156=>(Fn.l0 k 0 ab aa ai bt156.1 bt156.2 ([]:List (S25)))
def Fn.T5:Bool × List (List Nat × List Nat):=(true,[([],[]),([0],[0]),([],[]),([2],[2]),([],[]),([3,4],[3,4]),([5],[5]),([6],[6]),([7],[7]),([1,8,7],[1,8]),([0,1,2,3,4,5,6,7,8,9],[]),([10,9,9,0,1,2,3,4,5,6,7,8,9],[9,10])])
def Fn.B5:List Nat:=[0,1,0,4,0,28,60,124,252,511,1023,2047]
theorem Fn.tab5:rtab .any (opsOf Try.f100 5)=Fn.T5:=by kernel_rfl
theorem Fn.bits5:waitsOk Fn.T5.2 Fn.B5=true:=by kernel_rfl
theorem Fn.calls_s_q0 {p:Prop} (h:p:=by repeat(first|(with_reducible first|exact HB.out|apply G4|apply G3|apply G2|refine G1 ?_ ir0.out|refine G1 ?_ ep0.out|refine G1 ?_ ir1.out)|exact HB.out)):p:=h
set_option maxHeartbeats 8000000 in
set_option maxRecDepth 100000 in
theorem Fn.calls_s (k:Nat) (ae:Option Addr) (ac:Nat) (ab:List Int) (ag:Option Addr) (af:Nat) (aa:List (List Int)) (ci:Option Addr) (bv:Nat) (ai:List (S25)) (r1:List Int) (r2:List (List Int)) (r3:List (S25)) (w:World) (ca:Kd.C (Kd.int .i64) w ae ab.length ab) (ce:ab.length<=ac) (cb:Kd.C (Kd.slice 3 (Kd.int .i64)) w ag aa.length aa) (cg:aa.length<=af) (k0:Kd.C k25 w ci ai.length ai) (k5:ai.length<=bv) (h:Fn.f k ab aa ai=some (r1,r2,r3)) :
  Calls Try.prog 100 #[.agg #[.slice ae ab.length ac, .slice ag aa.length af, .slice ci ai.length bv]] w fun e w'=>∃v0_ v1_ v2_:Value,e = .returned (.agg #[v0_,v1_,v2_])/\Kd.R (Kd.int .i64) 3 w' w.heap.size (fun _=>True) v0_ r1/\Kd.S (Kd.slice 3 (Kd.int .i64)) 22 w' w.heap.size (fun k_=>some k_≠(v0_:Value).ownBlock) v1_ r2/\Kd.S k25s 25 w' w.heap.size (fun k_=>some k_≠(v0_:Value).ownBlock/\some k_≠(v1_:Value).ownBlock) v2_ r3/\Below w.heap.size w w':=by
 have hu28:=Try.underlying28
 have hu25:=Try.underlying25
 have bu:=A_ ca
 have cq:=A_ ce
 clear ca ce
 have bf:=A_ cb
 have cu:=A_ cg
 clear cb cg
 have l9:=A_ k0
 have rf:=A_ k5
 clear k0 k5
 have HB:=A_ (Below.refl w.heap.size w)
 have H:=h
 unfold Fn.f at H
 clear h
 replace H:=Option.bind_eq_some_iff.mp H
 obtain⟨⟨k6,i1⟩,th,H⟩:=H
 try dsimp only at H
 have A2:=A_ th
 clear th
 have H':=A_ H
 clear H
 go_enter Try.func100,Try.ntmps100
 go_wp2_with (first|((with_reducible refine gd_ 1 ?_);refine bx_ (N:=1) #[.slice ae ab.length ac, .slice ag aa.length af, .slice ci ai.length bv] 28 ?_;intro wx hg w3 hbox hb;have j7:=A_ (hbox);have lo6:=A_ ((g54_:w.heap.size<=wx));have ir0:=lo6;replace HB:=A_ (Jh (Fn.calls_s_q0) hb);clear hb hbox hg)|((with_reducible refine gd_ 2 ?_);refine bx_ (N:=2) #[.slice none 0 0, .slice none 0 0, .slice none 0 0] 28 ?_;intro n9 hg w4 hbox hb;have ki:=A_ (hbox);have im9:=A_ ((g54_:w.heap.size<=n9));have ep0:=im9;replace HB:=A_ (Jh (Fn.calls_s_q0) hb);have eu2:=nl_ j7 hg;have eu3:=nr_ j7 hg;replace j7:=bb_ j7 hb;clear hb hbox hg;have eu4:=eu2.out;have eu5:=eu3.out;obtain⟨za,zb,eu6,ag8,zc,eu7⟩:=blk3_ j7)|((with_reducible refine gc_ 80 ?_);refine gl_ 7 Try.func80 #[.agg #[.slice ae ab.length ac, .slice ag aa.length af]] ?_;(refine(Fu.calls k _ _ ab _ _ aa k6 i1 _ (uf1_ bu) cq.out (uf1_ bf) cu.out A2.out).mono ?_);rintro e w7 ⟨ep1,in0,rfl,aj,ar,hb⟩;refine⟨_,rfl,?_⟩;have ba0:=A_ (Kd.R_lower aj (G0 (Fn.calls_s_q0)));have bt8:=A_ (Kd.S_lower ar (G0 (Fn.calls_s_q0)));replace j7:=bb_ j7 hb;replace ki:=bb_ ki hb;replace HB:=A_ (Jh (Fn.calls_s_q0) hb);obtain⟨ia,ib,eo8⟩:=Kd.S_slice bt8.out;subst eo8;obtain⟨ft,fs,eo9⟩:=Kd.R_slice ba0.out;subst eo9)|((with_reducible refine gd_ 3 ?_);refine bx_ (N:=3) #[.slice none 0 0, .slice none 0 0, .slice none 0 0] 28 ?_;intro qo hg w10 hbox hb;replace ba0:=rb_ ba0 hb;replace bt8:=sb_ bt8 hb;have k7:=A_ (hbox);have lo7:=A_ ((g54_:w.heap.size<=qo));have ir1:=lo7;replace HB:=A_ (Jh (Fn.calls_s_q0) hb);have bk3:=nl_ j7 hg;have dt1:=nr_ j7 hg;replace j7:=bb_ j7 hb;have bv7:=nl_ ki hg;have eu8:=nr_ ki hg;replace ki:=bb_ ki hb;clear hb hbox hg;have ah3:=dt1.out;have ah4:=bk3.out;have bv1:=eu8.out;have bv2:=bv7.out;obtain⟨tc,td,cz0,te,tf,cz1⟩:=blk3_ k7))
 go_loopg [4] k (fun kq v4 w'=>∃(a8:Int) (bb2:List (S25)) (ao7:Value),v4 = .int .i64 a8/\Gy (Fn.l0 kq a8 ab aa ai k6 i1 bb2=some (r1,r2,r3))/\Gy (kq<=k)/\Gy (Kd.R (Kd.int .i64) 3 w' w.heap.size (fun _=>True) (.slice ft k6.length fs) k6)/\Gy (Kd.S (Kd.slice 3 (Kd.int .i64)) 22 w' w.heap.size (fun k_=>some k_≠((.slice ft k6.length fs):Value).ownBlock) (.slice ia i1.length ib) i1)/\Gy (Kd.S k25s 25 w' w.heap.size (fun k_=>some k_≠((.slice ft k6.length fs):Value).ownBlock/\some k_≠((.slice ia i1.length ib):Value).ownBlock) ao7 bb2)/\Gy (hc_ w' wx #[(.slice ae ab.length ac),(.slice ag aa.length af),(.slice ci ai.length bv)] 28)/\Gy (hc_ w' n9 #[(.slice none 0 0),(.slice none 0 0),(.slice none 0 0)] 28)/\Gy (hc_ w' qo #[(.slice ft k6.length fs),(.slice ia i1.length ib),ao7] 28)/\Gy (Below w.heap.size w w'))
 case atStart=>exact⟨(0),(([]:List (S25))),(.slice none 0 0),(g2_),H',⟨Nat.le_refl _⟩,⟨ra_ ba0⟩,⟨sa_ bt8⟩,⟨g18_⟩,⟨ba_ j7⟩,⟨ba_ ki⟩,⟨ba_ k7⟩,⟨Fn.calls_s_q0⟩⟩
 clear H'
 obtain⟨a8,bb2,ao7,rfl,HA,HK1,zi,ad7,vs,j7,ki,k7,HB⟩:=hrel
 cases gk with
 | zero=>exact absurd HA.out (by simp[Fn.l0])
 | succ k1=>?_
 have H:=HA.out
 clear HA
 simp only[Fn.l0] at H
 by_cases hz:a8 < (ai.length:Int)
 case neg=>
  rw[if_neg hz] at H
  have vf:=decide_eq_false hz
  clear hz
  simp only[Option.some.injEq,Prod.mk.injEq] at H
  obtain⟨rfl,rfl,rfl⟩:=H
  have bw1:=eu2.out
  have bw2:=eu3.out
  have br5:=bk3.out
  have br6:=dt1.out
  obtain⟨br7,br8,dp9,br9,bs0,dq0⟩:=blk3_ j7
  have et6:=eu8.out
  have et7:=bv7.out
  obtain⟨ds6,ds7,gj3,ds8,ds9,gj4⟩:=blk3_ k7
  obtain⟨is1,is2,lp1,is3,is4,lp2⟩:=blk3_ ki
  obtain⟨gl,f4,bw3⟩:=Kd.S_slice vs.out
  subst bw3
  go_wp2
  refine bodyPost_ret (results_cell_row rfl _ _ n9 28 #[.slice ft k6.length fs, .slice ia i1.length ib, .slice gl bb2.length f4] (0,0) _ rfl (ba_ ki) Try.underlying28 rfl (g1_)) rfl ?_
  exact⟨_,_,_,g4_,ra_ zi,sa_ ad7,sa_ vs,Fn.calls_s_q0⟩
 rw[if_pos hz] at H
 have vf:=decide_eq_true hz
 clear hz
 obtain⟨mb,H⟩:=pd_ H
 replace H:=Option.bind_eq_some_iff.mp H
 obtain⟨⟨cz2,an9⟩,bv8,H⟩:=H
 try dsimp only at H
 have A16:=A_ bv8
 clear bv8
 obtain⟨f7,H⟩:=pos_ H
 have et3:=A_ f7
 clear f7
 obtain⟨ci2,hyq⟩:∃y_:List (S25),y_=(bb2 ++ [(⟨cz2,an9⟩:S25)]):=⟨_,rfl⟩
 replace H:(Fn.l0 k1 (wrap64 (a8 + 1)) ab aa ai k6 i1 ci2)=some (r1,r2,r3):=qh_
 have ir2:=A_ hyq
 clear hyq
 have H':=A_ H
 clear H
 have em7:=eu2.out
 have em8:=eu3.out
 have ch8:=bk3.out
 have ch9:=dt1.out
 obtain⟨cz3,cz4,lo8,cz5,cz6,lo9⟩:=blk3_ j7
 try go_wp2
 replace zi:=rd_ zi
 replace ad7:=sd_ ad7
 replace vs:=sd_ vs
 replace j7:=bd_ j7
 replace ki:=bd_ ki
 replace k7:=bd_ k7
 replace HB:=A_ (G2 HB.out)
 have bt9:0<=(a8:Int):=od_
 have bu0:a8 < (ai.length:Int):=od_
 obtain⟨ch2,gi0,gi1,gi2,gi3,ep6,ch3,dt2,gi4,gi5,gi6,gi7⟩:=at_T25 l9.out a8 bt9 bu0
 have cz7:=dt2
 have cz8:=ch3
 cases ep6
 replace ch3:=cl_ HB ch3
 replace dt2:=cl_ HB dt2
 have gi8:=A_ gi5
 have ir3:=A_ gi4
 clear gi5 gi4
 have gi9:=A_ gi7
 have ir4:=A_ gi6
 clear gi7 gi6
 replace bt9:=eq_true bt9
 replace bu0:=eq_true bu0
 refine start_ (n:=12) (S:=fun w'=>w'.cell? ⟨qo,0,none⟩=some (.slice ft k6.length fs)/\w'.cell? ⟨qo,1,none⟩=some (.slice ia i1.length ib)/\w'.cell? ⟨qo,2,none⟩=some (ao7)/\w'.cell? ⟨wx,0,none⟩=some (.slice ae ab.length ac)/\w'.cell? ⟨wx,1,none⟩=some (.slice ag aa.length af)/\w'.cell? ⟨wx,2,none⟩=some (.slice (some ch2) ai.length bv)/\w'.cell? (ch2.add ((a8).toNat * 2))=some (.slice gi0 ((Jd ai a8).f0).length gi1)/\w'.cell? ⟨(ch2.add ((a8).toNat * 2)).block,(ch2.add ((a8).toNat * 2)).off + 1,none⟩=some (.slice gi2 ((Jd ai a8).f1).length gi3)) (ds:=[11]) (tl_ 12 0) (g1_) rfl (g1_) ⟨(Gz k7.out 0).trans rfl,(Gz k7.out 1).trans rfl,(Gz k7.out 2).trans rfl,(Gz j7.out 0).trans rfl,(Gz j7.out 1).trans rfl,(Gz j7.out 2).trans rfl,((cl_ HB cz8).trans rfl),((cl_ HB cz7).trans rfl)⟩ (fun hHeld=>?_);refine Jm Fn.tab5 Fn.bits5 (fun HT_ HW_=>?_)
 generalize wr.drew=j5 at zi ad7 vs j7 ki k7 HB gi8 gi9 ch3 dt2 hHeld |-
 refine pw_ 0 16 (tl_ 12 1) ?_
 refine pw_ 2 18 (tl_ 12 5) ?_
 refine pw_ 4 20 (tl_ 12 21) ?_
 refine tk6_ 1 17 (tl_ 12 23) hHeld ?_
 refine tk6_ 3 19 (tl_ 12 31) hHeld ?_
 refine pw_ 5 21 (tl_ 12 63) ?_
 refine tk6_ 6 22 (tl_ 12 127) hHeld ?_
 refine one_ (i:=7) (N:=some 23) (tl_ 12 255) rfl rfl (Jo HT_.out (g1_)) (by decide) (fun K hK=>?_)
 refine goes_ Try.func80 (g1_) rfl #[.agg #[.slice gi0 ((Jd ai a8).f0).length gi1, .slice gi2 ((Jd ai a8).f1).length gi3]] (by rfl) rfl rfl (g3_) ?_
 refine(Fu.calls k1 _ _ ((Jd ai a8).f0) _ _ ((Jd ai a8).f1) cz2 an9 _ (uf1_ gi8) ir3.out (uf1_ gi9) ir4.out A16.out).mono ?_
 rintro e ug ⟨gj0,ge9,rfl,aj,ar,hb⟩
 refine⟨_,rfl,?_⟩
 have HP1:Gy (Kd.R (Kd.int .i64) 3 ug w.heap.size (fun k_=>j5.heap.size<=k_/\(fun k_=>some k_≠(.slice ft k6.length fs:Value).ownBlock/\some k_≠(.slice ia i1.length ib:Value).ownBlock) k_/\some k_≠(ao7:Value).ownBlock) gj0 _):=A_ (Kd.R_lower (Kd.R_mono (Kd.R_bound aj) (fun _ hk=>⟨hk.2.1,⟨Kd.fresh' (Kd.R_lt zi.out) _ hk.2.1,Kd.fresh' (Kd.S_lt ad7.out) _ hk.2.1⟩,Kd.fresh' (Kd.S_lt vs.out) _ hk.2.1⟩)) (G0 (Fn.calls_s_q0)))
 have HP2:Gy (Kd.S (Kd.slice 3 (Kd.int .i64)) 22 ug w.heap.size (fun k_=>(fun k_=>j5.heap.size<=k_/\(fun k_=>some k_≠(.slice ft k6.length fs:Value).ownBlock/\some k_≠(.slice ia i1.length ib:Value).ownBlock) k_/\some k_≠(ao7:Value).ownBlock) k_/\some k_≠(gj0:Value).ownBlock) ge9 _):=A_ (Kd.S_lower (Kd.S_mono (Kd.S_bound ar) (fun _ hk=>⟨⟨hk.2.1,⟨Kd.fresh' (Kd.R_lt zi.out) _ hk.2.1,Kd.fresh' (Kd.S_lt ad7.out) _ hk.2.1⟩,Kd.fresh' (Kd.S_lt vs.out) _ hk.2.1⟩,hk.1⟩)) (G0 (Fn.calls_s_q0)))
 have HP3:=A_ (Kd.S_old (uf3_ vs) hb)
 replace vs:=A_ (Kd.S_mono (Kd.S_told (Kd.S_told (Kd.S_old (uf3_ vs) hb) (Kd.R_base aj)) (Kd.S_base ar)) (fun _ h_=>h_.1))
 have gj1:=A_ (Kd.R_lower (Kd.R_new' aj (Kd.R_lt (uf2_ zi))) (G0 (Fn.calls_s_q0)))
 have dr1:=A_ (Kd.S_lower (Kd.S_new' (Kd.S_new' ar (Kd.R_lt (uf2_ zi))) (Kd.S_lt (uf3_ ad7))) (G0 (Fn.calls_s_q0)))
 replace zi:=A_ (Kd.R_elder' (uf2_ zi) (Kd.R_base aj) hb)
 replace ad7:=A_ (Kd.S_mono (Kd.S_told (Kd.S_told (Kd.S_old (uf3_ ad7) hb) (Kd.R_base aj)) (Kd.S_base ar)) (fun _ h_=>h_.1))
 replace j7:=bb_ j7 hb
 replace ki:=bb_ ki hb
 replace k7:=bb_ k7 hb
 replace HB:=A_ (Jh (Fn.calls_s_q0) hb)
 obtain⟨at9,ej,ci3⟩:=Kd.R_slice gj1.out
 (first|subst ci3|(injection ci3 with f1_ f2_ f3_;have f4_:=f1_.symm;have f5_:=f3_.symm;clear f1_ f2_ f3_;subst f4_;subst f5_))
 obtain⟨bv9,bw0,ci4⟩:=Kd.S_slice dr1.out
 (first|subst ci4|(injection ci4 with f1_ f2_ f3_;have f4_:=f1_.symm;have f5_:=f3_.symm;clear f1_ f2_ f3_;subst f4_;subst f5_))
 refine hK.out _ _ ⟨(Gz k7.out 0).trans rfl,(Gz k7.out 1).trans rfl,(Gz k7.out 2).trans rfl,(Gz j7.out 0).trans rfl,(Gz j7.out 1).trans rfl,(Gz j7.out 2).trans rfl,((cl_ HB cz8).trans rfl),((cl_ HB cz7).trans rfl)⟩ (fun hHeld=>?_)
 clear hK K
 refine nm_ ?_
 refine one_ (i:=8) (N:=some 24) (tl_ 12 511) rfl rfl (Jo HT_.out (g1_)) (by decide) (fun K hK=>?_)
 refine value_ (w1:=?_) (v:=?_) (by rfl) rfl ?_ ?_
 rotate_left 2
 ·go_simp
  constructor
  ·rfl
  rfl
 refine hK.out _ _ ⟨(Gz (G5 k7.out _) 0).trans rfl,(Gz (G5 k7.out _) 1).trans rfl,(Gz (G5 k7.out _) 2).trans rfl,(Gz (G5 j7.out _) 0).trans rfl,(Gz (G5 j7.out _) 1).trans rfl,(Gz (G5 j7.out _) 2).trans rfl,(World.cell?_alloc_lt _ _ _ (World.block_lt_of_cell? _ _ (((cl_ HB cz8).trans rfl)))).trans (((cl_ HB cz8).trans rfl)),(World.cell?_alloc_lt _ _ _ (World.block_lt_of_cell? _ _ (((cl_ HB cz7).trans rfl)))).trans (((cl_ HB cz7).trans rfl))⟩ (fun hHeld=>?_)
 clear hK K
 refine nm_ ?_
 refine one_ (i:=9) (N:=some 25) (tl_ 12 1023) rfl rfl (Jo HT_.out (g1_)) (by decide) (fun K hK=>?_)
 refine Kd.S_append_step k25s (w0:=w) w.heap.size (by rfl) (.tmp 17) (.tmp 24) 26 25 (.agg #[(.slice none 0 0),(.slice none 0 0)]) 48 rfl Try.underlying26 info25 rfl (by decide) (by omega) ao7 bb2 (⟨cz2,an9⟩:S25) [.slice at9 cz2.length ej, .slice bv9 an9.length bw0] (fun k_=>some k_≠(.slice ft k6.length fs:Value).ownBlock/\some k_≠(.slice ia i1.length ib:Value).ownBlock) (fun k_=>j5.heap.size<=k_/\(fun k_=>some k_≠(.slice ft k6.length fs:Value).ownBlock/\some k_≠(.slice ia i1.length ib:Value).ownBlock) k_/\some k_≠(ao7:Value).ownBlock) rfl rfl ?aP (fun _ hk=>hk.2) ?aF ?aO ?aB ?aS ?aL ?_
 (case aP=>exact k25s_mkM _ _ _ (⟨cz2,an9⟩:S25) HP1.out HP2.out)
 (case aB=>exact(Fn.calls_s_q0))
 (case aF=>exact(fun k_ hk=>⟨Kd.fresh' (Kd.R_lt (uf2_ zi)) k_ hk,Kd.fresh' (Kd.S_lt (uf3_ ad7)) k_ hk⟩))
 (case aO=>exact Kd.S_mono HP3.out (fun _ hk=>⟨hk.1,fun h_=>Nat.not_le.2 hk.2 h_.1⟩))
 (case aS=>exact(G0 (Fn.calls_s_q0)))
 (case aL=>have:=et3.out;omega)
 intro lp0 w23 ho hb hg hat
 rw[<- ir2.out] at ho
 replace zi:=A_ (Kd.R_over' (uf2_ zi) (Kd.S_typed (uf3_ vs)) (by decide) hg)
 replace ad7:=A_ (Kd.S_over' (uf3_ ad7) (Kd.S_typed (uf3_ vs)) (by decide) hg)
 replace j7:=(bg_ j7 hg (Kd.S_ne vs.out j7.out (by decide)))
 replace ki:=(bg_ ki hg (Kd.S_ne vs.out ki.out (by decide)))
 replace k7:=(bg_ k7 hg (Kd.S_ne vs.out k7.out (by decide)))
 replace HB:=A_ (hb)
 have gj2:=A_ (ho)
 clear vs gj1 dr1
 clear ho hb hg hat
 obtain⟨ti,tj,au0⟩:=Kd.S_slice gj2.out
 (first|subst au0|(injection au0 with f1_ f2_ f3_;have f4_:=f1_.symm;have f5_:=f3_.symm;clear f1_ f2_ f3_;subst f4_;subst f5_))
 refine hK.out _ _ ⟨(Gz k7.out 0).trans rfl,(Gz k7.out 1).trans rfl,(Gz k7.out 2).trans rfl,(Gz j7.out 0).trans rfl,(Gz j7.out 1).trans rfl,(Gz j7.out 2).trans rfl,((cl_ HB cz8).trans rfl),((cl_ HB cz7).trans rfl)⟩ (fun hHeld=>?_)
 clear hK K
 refine nm_ ?_
 refine pw_ 10 26 (tl_ 12 2047) ?_
 refine last_ (i:=11) (N:=none) (tl_ 12 4095) rfl rfl (Jo HT_.out (g1_)) (by decide) (fun K hK=>?_)
 have ir5:w23.cell? ⟨qo,2,none⟩=some (ao7):=(Gz k7.out 2).trans rfl
 have ir6:=G8 k7.out 2
 have ir8:=bv7.out
 have is0:=eu8.out
 refine skip_ (w1:=?_) (by rfl) rfl ?_ ?_
 rotate_left
 ·go_simp
  rfl
 refine hK.out _ _ ?_
 clear hK K
 refine done_ (done_of HT_.out (g1_)) ?_
 try go_wp2
 go_roundg k1
 case measure=>have:=HK1.out;omega
 case rel=>exact⟨(wrap64 (a8 + 1)),(ci2),(.slice ti ci2.length tj),(g2_),H',⟨g13_⟩,⟨ra_ zi⟩,⟨sa_ ad7⟩,⟨sa_ gj2⟩,⟨ba_ j7⟩,⟨ba_ ki⟩,⟨ba_ k7⟩,⟨Fn.calls_s_q0⟩⟩
theorem Fn.calls (k:Nat) (ae:Option Addr) (ac:Nat) (ab:List Int) (ag:Option Addr) (af:Nat) (aa:List (List Int)) (ci:Option Addr) (bv:Nat) (ai:List (S25)) (r1:List Int) (r2:List (List Int)) (r3:List (S25)) (w:World) (ca:Kd.C (Kd.int .i64) w ae ab.length ab) (ce:ab.length<=ac) (cb:Kd.C (Kd.slice 3 (Kd.int .i64)) w ag aa.length aa) (cg:aa.length<=af) (k0:Kd.C k25 w ci ai.length ai) (k5:ai.length<=bv) (h:Fn.f k ab aa ai=some (r1,r2,r3)) :
  Calls Try.prog 100 #[.agg #[.slice ae ab.length ac, .slice ag aa.length af, .slice ci ai.length bv]] w fun e w'=>∃v0_ v1_ v2_:Value,e = .returned (.agg #[v0_,v1_,v2_])/\Kd.R (Kd.int .i64) 3 w' w.heap.size (fun _=>True) v0_ r1/\Kd.S (Kd.slice 3 (Kd.int .i64)) 22 w' w.heap.size (fun k_=>some k_≠(v0_:Value).ownBlock) v1_ r2/\Kd.R k25 25 w' w.heap.size (fun k_=>some k_≠(v0_:Value).ownBlock/\some k_≠(v1_:Value).ownBlock) v2_ r3/\Below w.heap.size w w':=by
 refine(Fn.calls_s k ae ac ab ag af aa ci bv ai r1 r2 r3 w ca ce cb cg k0 k5 h).mono ?_
 rintro e w' ⟨v0_,v1_,v2_,he,h0,h1,h2,hb⟩
 exact⟨v0_,v1_,v2_,he,h0,h1,k25s_R h2,hb⟩
mutual
def Fj.l0:Nat->Int->List Int->List (List Int)->List Int->List (List Int)->Option (List Int × (List (List Int)))
 | 0,_,_,_,_,_=>none
 | k + 1,x4,cz9,zj,da0,bb3=>if x4 < (cz9.length:Int) then(Fj.l1 k x4 0 cz9 zj da0 bb3) else(some (da0,bb3))
def Fj.l1:Nat->Int->Int->List Int->List (List Int)->List Int->List (List Int)->Option (List Int × (List (List Int)))
 | 0,_,_,_,_,_,_=>none
 | k + 1,x4,x5,cz9,zj,da0,bb3=>if x5 < x4 then(if 0<=x4 then(if x4 < (zj.length:Int) then(if 0<=x5 then(if x5 < ((Jc zj x4).length:Int) then(if x5 < (zj.length:Int) then(if x4 < ((Jc zj x5).length:Int) then(if x4 < (bb3.length:Int) then(if x5 < ((Jc bb3 x4).length:Int) then((some (bb3.set (x4:Int).toNat ((Jc bb3 x4).set (x5:Int).toNat (wrap64 ((rd (Jc zj x4) x5) - (mn (rd (Jc zj x4) x5) (rd (Jc zj x5) x4))))):List (List Int))).bind fun ob=>(if x5 < (bb3.length:Int) then(if x4 < ((Jc ob x5).length:Int) then(Fj.l1 k x4 (wrap64 (x5 + 1)) cz9 zj da0 (ob.set (x5:Int).toNat ((Jc ob x5).set (x4:Int).toNat (wrap64 ((rd (Jc zj x5) x4) - (mn (rd (Jc zj x4) x5) (rd (Jc zj x5) x4))))))) else(none)) else(none))) else(none)) else(none)) else(none)) else(none)) else(none)) else(none)) else(none)) else(none)) else(Fj.l0 k (wrap64 (x4 + 1)) cz9 zj da0 bb3)
end
def Fj.f (k:Nat) (ab:List Int) (aa:List (List Int)):Option (List Int × (List (List Int))):=(Ff.f k ab aa).bind fun da1=>(if da1=true then((Fu.f k ab aa).bind fun bt208=>(Fj.l0 k 0 ab aa bt208.1 bt208.2)) else(some (([]:List Int),([]:List (List Int)))))
def Fj.T10:Bool × List (List Nat × List Nat):=(true,[([],[]),([0],[0]),([],[]),([1,2],[1,2]),([3],[3]),([],[]),([4,5],[4,5]),([6],[6]),([],[]),([8],[8]),([],[]),([9,10],[9,10]),([11],[11]),([],[]),([12,13],[12,13]),([14],[14]),([7,15],[7,15]),([16,0,1,2,3,4,5,6,7,8,9,10,11,12,13,14,15,16],[16])])
def Fj.B10:List Nat:=[0,1,0,7,15,0,63,127,0,256,0,1792,3840,0,16128,32512,65535,131071]
theorem Fj.tab10:rtab .any (opsOf Try.f41 10)=Fj.T10:=by kernel_rfl
theorem Fj.bits10:waitsOk Fj.T10.2 Fj.B10=true:=by kernel_rfl
def Fj.T11:Bool × List (List Nat × List Nat):=(true,[([],[]),([0],[0]),([],[]),([1,2],[1,2]),([3],[3]),([],[]),([],[]),([6],[6]),([],[]),([7,8],[7,8]),([9],[9]),([],[]),([10,11],[10,11]),([12],[12]),([],[]),([13,14],[13,14]),([4,5,0,1,2,3,4,5,6,7,8,9,10,11,12,13,14,15],[4,5]),([16,15,0,1,2,3,4,5,6,7,8,9,10,11,12,13,14,15],[15,16])])
def Fj.B11:List Nat:=[0,1,0,7,15,0,0,64,0,448,960,0,4032,8128,0,32704,65535,131071]
theorem Fj.tab11:rtab .any (opsOf Try.f41 11)=Fj.T11:=by kernel_rfl
theorem Fj.bits11:waitsOk Fj.T11.2 Fj.B11=true:=by kernel_rfl
def Fj.T12:Bool × List (List Nat × List Nat):=(true,[([],[]),([0],[0]),([],[]),([1,2],[1,2]),([3],[3]),([],[]),([],[]),([6],[6]),([],[]),([7,8],[7,8]),([9],[9]),([],[]),([10,11],[10,11]),([12],[12]),([],[]),([13,14],[13,14]),([4,5,0,1,2,3,4,5,6,7,8,9,10,11,12,13,14,15],[4,5]),([16,15,0,1,2,3,4,5,6,7,8,9,10,11,12,13,14,15],[15,16])])
def Fj.B12:List Nat:=[0,1,0,7,15,0,0,64,0,448,960,0,4032,8128,0,32704,65535,131071]
theorem Fj.tab12:rtab .any (opsOf Try.f41 12)=Fj.T12:=by kernel_rfl
theorem Fj.bits12:waitsOk Fj.T12.2 Fj.B12=true:=by kernel_rfl
theorem t6 {p:Prop} (h:p:=by repeat(first|(with_reducible first|exact HB.out|apply G4|apply G3|apply G2|refine G1 ?_ gj5.out|refine G1 ?_ gj6.out|refine G1 ?_ is5.out|refine G1 ?_ GB32.out|refine G1 ?_ GB35.out)|exact HB.out)):p:=h
set_option maxHeartbeats 8000000 in
set_option maxRecDepth 100000 in
theorem Fj.calls (k:Nat) (ae:Option Addr) (ac:Nat) (ab:List Int) (ag:Option Addr) (af:Nat) (aa:List (List Int)) (r1:List Int) (r2:List (List Int)) (w:World) (ca:Kd.C (Kd.int .i64) w ae ab.length ab) (ce:ab.length<=ac) (cb:Kd.C (Kd.slice 3 (Kd.int .i64)) w ag aa.length aa) (cg:aa.length<=af) (h:Fj.f k ab aa=some (r1,r2)) :
  Calls Try.prog 41 #[.agg #[.slice ae ab.length ac, .slice ag aa.length af]] w fun e w'=>∃v0_ v1_:Value,e = .returned (.agg #[v0_,v1_])/\Kd.R (Kd.int .i64) 3 w' w.heap.size (fun _=>True) v0_ r1/\Kd.S (Kd.slice 3 (Kd.int .i64)) 22 w' w.heap.size (fun k_=>some k_≠(v0_:Value).ownBlock) v1_ r2/\Below w.heap.size w w':=by
 have hu25:=Try.underlying25
 have bu:=A_ ca
 have cq:=A_ ce
 clear ca ce
 have bf:=A_ cb
 have cu:=A_ cg
 clear cb cg
 have HB:=A_ (Below.refl w.heap.size w)
 have H:=h
 unfold Fj.f at H
 clear h
 obtain⟨da1,A2,H⟩:=bind_ H
 by_cases c3:da1=true
 case neg=>
  replace c3:=Bool.eq_false_iff.mpr c3
  subst c3
  replace H:=ifn_ H
  simp only[Option.some.injEq,Prod.mk.injEq] at H
  obtain⟨rfl,rfl⟩:=H
  go_enter Try.func41,Try.ntmps41
  go_wp2_with (first|((with_reducible refine gd_ 1 ?_);refine bx_ (N:=1) #[.slice ae ab.length ac, .slice ag aa.length af] 25 ?_;intro pr hg zk hbox hb;have ie:=A_ (hbox);have is6:=A_ ((g25_:w.heap.size<=pr));have gj5:=is6;replace HB:=hs_ (t6) hb;clear hb hbox hg)|((with_reducible refine gd_ 2 ?_);refine bx_ (N:=2) #[.slice none 0 0, .slice none 0 0] 25 ?_;intro ps hg w54 hbox hb;have jz:=A_ (hbox);have is7:=A_ ((g25_:w.heap.size<=ps));have gj6:=is7;replace HB:=hs_ (t6) hb;have da3:=A_ ((g124_:pr≠ps));have da4:=A_ ((g125_:ps≠pr));replace ie:=bb_ ie hb;clear hb hbox hg;have iw3:=da3.out;have iw4:=da4.out;obtain⟨ex3,ex4,ex5,ex6⟩:=blk2_ ie)|((with_reducible refine gc_ 42 ?_);refine gl_ 8 Try.func42 #[.agg #[.slice ae ab.length ac, .slice ag aa.length af]] ?_;(refine(Ff.calls k _ _ ab _ _ aa false _ (uf1_ bu) cq.out (uf1_ bf) cu.out A2.out).mono ?_);rintro e w57 ⟨rfl,hb⟩;refine⟨_,rfl,?_⟩;replace ie:=bb_ ie hb;replace jz:=bb_ jz hb;replace HB:=hs_ (t6) hb;obtain⟨gm3,gm4,gm5,gm6⟩:=blk2_ jz))
  refine bodyPost_ret (results_cell_row rfl _ _ ps 25 #[.slice none 0 0, .slice none 0 0] (0,0) _ rfl (ba_ jz) Try.underlying25 rfl (g1_)) rfl ?_
  exact⟨_,_,g4_,g18_,g24_,t6⟩
 subst c3
 replace H:=ifp_ H
 replace H:=Option.bind_eq_some_iff.mp H
 obtain⟨⟨ci5,da2⟩,oc,H⟩:=H
 try dsimp only at H
 have A4:=A_ oc
 clear oc
 have H':=A_ H
 clear H
 go_enter Try.func41,Try.ntmps41
 go_wp2_with (first|((with_reducible refine gd_ 1 ?_);refine bx_ (N:=1) #[.slice ae ab.length ac, .slice ag aa.length af] 25 ?_;intro pr hg w5 hbox hb;have ie:=A_ (hbox);have is6:=A_ ((g25_:w.heap.size<=pr));have gj5:=is6;replace HB:=hs_ (t6) hb;clear hb hbox hg)|((with_reducible refine gd_ 2 ?_);refine bx_ (N:=2) #[.slice none 0 0, .slice none 0 0] 25 ?_;intro ps hg w6 hbox hb;have jz:=A_ (hbox);have is7:=A_ ((g25_:w.heap.size<=ps));have gj6:=is7;replace HB:=hs_ (t6) hb;have da3:=A_ ((g124_:pr≠ps));have da4:=A_ ((g125_:ps≠pr));replace ie:=bb_ ie hb;clear hb hbox hg;have et0:=da3.out;have et1:=da4.out;obtain⟨sj,sk,sl,sm⟩:=blk2_ ie)|((with_reducible refine gc_ 42 ?_);refine gl_ 8 Try.func42 #[.agg #[.slice ae ab.length ac, .slice ag aa.length af]] ?_;(refine(Ff.calls k _ _ ab _ _ aa true _ (uf1_ bu) cq.out (uf1_ bf) cu.out A2.out).mono ?_);rintro e w9 ⟨rfl,hb⟩;refine⟨_,rfl,?_⟩;replace ie:=bb_ ie hb;replace jz:=bb_ jz hb;replace HB:=hs_ (t6) hb;obtain⟨am4,am5,am6,am7⟩:=blk2_ ie)|((with_reducible refine gc_ 80 ?_);refine gl_ 12 Try.func80 #[.agg #[.slice ae ab.length ac, .slice ag aa.length af]] ?_;(refine(Fu.calls k _ _ ab _ _ aa ci5 da2 _ (uf1_ bu) cq.out (uf1_ bf) cu.out A4.out).mono ?_);rintro e w11 ⟨lp3,lp4,rfl,aj,ar,hb⟩;refine⟨_,rfl,?_⟩;have dt3:=A_ (Kd.R_lower aj (G0 (t6)));have dt4:=A_ (Kd.S_lower ar (G0 (t6)));replace ie:=bb_ ie hb;replace jz:=bb_ jz hb;replace HB:=hs_ (t6) hb)|((with_reducible refine gd_ 3 ?_);refine bx_ (N:=3) #[.slice none 0 0, .slice none 0 0] 25 ?_;intro uh hg ws hbox hb;replace dt3:=rb_ dt3 hb;replace dt4:=sb_ dt4 hb;have mz:=A_ (hbox);have lp5:=A_ ((g25_:w.heap.size<=uh));have is5:=lp5;replace HB:=hs_ (t6) hb;have da5:=A_ ((g124_:pr≠uh));have eu9:=A_ ((g125_:uh≠pr));replace ie:=bb_ ie hb;have dt5:=nl_ jz hg;have gj7:=nr_ jz hg;replace jz:=bb_ jz hb;clear hb hbox hg;obtain⟨bq,bb,ao8⟩:=Kd.R_slice dt3.out;subst ao8;have cr3:=eu9.out;have cr4:=da5.out;have dt6:=gj7.out;have dt7:=dt5.out;obtain⟨bs7,bs8,bs9,bt0⟩:=blk2_ mz;obtain⟨fd,ey,vn⟩:=Kd.S_slice dt4.out;subst vn))
 go_loopg [4] k (fun kq v4 w'=>∃(a8:Int) (bk4:List Int) (bw4:List (List Int)) (ui:Value) (bb4:Value),v4 = .int .i64 a8/\Gy (Fj.l0 kq a8 ab aa bk4 bw4=some (r1,r2))/\Gy (kq<=k)/\Gy (Kd.R (Kd.int .i64) 3 w' w.heap.size (fun _=>True) ui bk4)/\Gy (Kd.S (Kd.slice 3 (Kd.int .i64)) 22 w' w.heap.size (fun k_=>some k_≠(ui:Value).ownBlock) bb4 bw4)/\Gy (hc_ w' pr #[(.slice ae ab.length ac),(.slice ag aa.length af)] 25)/\Gy (hc_ w' ps #[(.slice none 0 0),(.slice none 0 0)] 25)/\Gy (hc_ w' uh #[ui,bb4] 25)/\Gy (Below w.heap.size w w'))
 case atStart=>exact⟨(0),(ci5),(da2),(.slice bq ci5.length bb),(.slice fd da2.length ey),(g2_),H',⟨Nat.le_refl _⟩,⟨ra_ dt3⟩,⟨sa_ dt4⟩,⟨ba_ ie⟩,⟨ba_ jz⟩,⟨ba_ mz⟩,⟨t6⟩⟩
 clear H'
 obtain⟨a8,bk4,bw4,ui,bb4,rfl,HA,HK1,tk,lu,ie,jz,mz,HB⟩:=hrel
 cases gk with
 | zero=>exact absurd HA.out (by simp[Fj.l0])
 | succ k1=>?_
 have H:=HA.out
 clear HA
 simp only[Fj.l0] at H
 by_cases jf:a8 < (ab.length:Int)
 case neg=>
  rw[if_neg jf] at H
  have ao9:=decide_eq_false jf
  clear jf
  simp only[Option.some.injEq,Prod.mk.injEq] at H
  obtain⟨rfl,rfl⟩:=H
  have da7:=da3.out
  have da8:=da4.out
  have dv3:=da5.out
  have dv4:=eu9.out
  obtain⟨lq8,lq9,lr0,lr1⟩:=blk2_ ie
  have ew9:=gj7.out
  have ex0:=dt5.out
  obtain⟨da9,db0,db1,db2⟩:=blk2_ mz
  obtain⟨ah5,ah6,db3⟩:=Kd.R_slice tk.out
  subst db3
  obtain⟨au2,au3,au4,au5⟩:=blk2_ jz
  obtain⟨ex1,ex2,iw2⟩:=Kd.S_slice lu.out
  subst iw2
  go_wp2
  refine bodyPost_ret (results_cell_row rfl _ _ ps 25 #[.slice ah5 bk4.length ah6, .slice ex1 bw4.length ex2] (0,0) _ rfl (ba_ jz) Try.underlying25 rfl (g1_)) rfl ?_
  exact⟨_,_,g4_,ra_ tk,sa_ lu,t6⟩
 rw[if_pos jf] at H
 have ao9:=decide_eq_true jf
 clear jf
 have H':=A_ H
 clear H
 have ch8:=da3.out
 have ch9:=da4.out
 have bv3:=da5.out
 have bv4:=eu9.out
 obtain⟨vh,vi,wu,vj⟩:=blk2_ ie
 go_wp2
 go_loopg [5] k1 (fun kq v5 w'=>∃(b3:Int) (ap0:List Int) (mc:List (List Int)) (ui:Value) (bb4:Value),v5 = .int .i64 b3/\Gy (Fj.l1 kq a8 b3 ab aa ap0 mc=some (r1,r2))/\Gy (kq<=k1)/\Gy (Kd.R (Kd.int .i64) 3 w' w.heap.size (fun _=>True) ui ap0)/\Gy (Kd.S (Kd.slice 3 (Kd.int .i64)) 22 w' w.heap.size (fun k_=>some k_≠(ui:Value).ownBlock) bb4 mc)/\Gy (hc_ w' pr #[(.slice ae ab.length ac),(.slice ag aa.length af)] 25)/\Gy (hc_ w' ps #[(.slice none 0 0),(.slice none 0 0)] 25)/\Gy (hc_ w' uh #[ui,bb4] 25)/\Gy (Below w.heap.size w w'))
 case atStart=>exact⟨(0),(bk4),(bw4),(ui),(bb4),(g2_),H',⟨Nat.le_refl _⟩,⟨uf2_ tk⟩,⟨uf3_ lu⟩,⟨uf0_ ie⟩,⟨uf0_ jz⟩,⟨uf0_ mz⟩,⟨t6⟩⟩
 clear H'
 obtain⟨b3,ap0,mc,ui,bb4,rfl,HA,HK2,tk,lu,ie,jz,mz,HB⟩:=hrel
 cases gk with
 | zero=>exact absurd HA.out (by simp[Fj.l1])
 | succ k2=>?_
 have H:=HA.out
 clear HA
 simp only[Fj.l1] at H
 by_cases je:b3 < a8
 case neg=>
  rw[if_neg je] at H
  have ao0:=decide_eq_false je
  clear je
  have H':=A_ H
  clear H
  go_wp2
  go_roundg k2
  case measure=>have:=HK1.out;have:=HK2.out;omega
  case rel=>exact⟨(wrap64 (a8 + 1)),(ap0),(mc),(ui),(bb4),(g2_),H',⟨g16_⟩,⟨uf2_ tk⟩,⟨uf3_ lu⟩,⟨uf0_ ie⟩,⟨uf0_ jz⟩,⟨uf0_ mz⟩,⟨t6⟩⟩
 rw[if_pos je] at H
 have ao0:=decide_eq_true je
 clear je
 obtain⟨ba3,H⟩:=pd_ H
 obtain⟨vl,H⟩:=pd_ H
 obtain⟨bh9,H⟩:=pd_ H
 obtain⟨ch1,H⟩:=pd_ H
 obtain⟨bt2,H⟩:=pd_ H
 obtain⟨bt3,H⟩:=pd_ H
 obtain⟨ji29,hji29⟩:∃j_:Int,(mn (rd (Jc aa a8) b3) (rd (Jc aa b3) a8))=j_:=⟨_,rfl⟩
 first|rw[hji29] at H|simp only[hji29] at H
 have hji29_:(if (rd (Jc aa b3) a8) < (rd (Jc aa a8) b3) then(rd (Jc aa b3) a8) else(rd (Jc aa a8) b3))=ji29:=hji29
 obtain⟨ci6,H⟩:=pd_ H
 obtain⟨ad8,H⟩:=pd_ H
 obtain⟨ev0,hyq⟩:∃y_:List Int,y_=((Jc mc a8).set (b3:Int).toNat (wrap64 ((rd (Jc aa a8) b3) - (ji29)))):=⟨_,rfl⟩
 replace H:((some (mc.set (a8:Int).toNat ev0:List (List Int))).bind fun ob=>(if b3 < (mc.length:Int) then(if a8 < ((Jc ob b3).length:Int) then(Fj.l1 k2 a8 (wrap64 (b3 + 1)) ab aa ap0 (ob.set (b3:Int).toNat ((Jc ob b3).set (a8:Int).toNat (wrap64 ((rd (Jc aa b3) a8) - (ji29)))))) else(none)) else(none)))=some (r1,r2):=qh_
 have is8:=A_ hyq
 clear hyq
 obtain⟨ob,hyq⟩:∃y_:List (List Int),y_=(mc.set (a8:Int).toNat ev0):=⟨_,rfl⟩
 replace H:(if b3 < (mc.length:Int) then(if a8 < ((Jc ob b3).length:Int) then(Fj.l1 k2 a8 (wrap64 (b3 + 1)) ab aa ap0 (ob.set (b3:Int).toNat ((Jc ob b3).set (a8:Int).toNat (wrap64 ((rd (Jc aa b3) a8) - (ji29)))))) else(none)) else(none))=some (r1,r2):=qh_
 have ev1:=A_ hyq
 clear hyq
 obtain⟨dt8,H⟩:=pd_ H
 obtain⟨da6,H⟩:=pd_ H
 obtain⟨ev2,hyq⟩:∃y_:List Int,y_=((Jc ob b3).set (a8:Int).toNat (wrap64 ((rd (Jc aa b3) a8) - (ji29)))):=⟨_,rfl⟩
 replace H:(Fj.l1 k2 a8 (wrap64 (b3 + 1)) ab aa ap0 (ob.set (b3:Int).toNat ev2))=some (r1,r2):=qh_
 have is9:=A_ hyq
 clear hyq
 obtain⟨gj8,hyq⟩:∃y_:List (List Int),y_=(ob.set (b3:Int).toNat ev2):=⟨_,rfl⟩
 replace H:(Fj.l1 k2 a8 (wrap64 (b3 + 1)) ab aa ap0 gj8)=some (r1,r2):=qh_
 have it0:=A_ hyq
 clear hyq
 have H':=A_ H
 clear H
 try go_wp2
 replace tk:=rd_ tk
 replace lu:=sd_ lu
 replace ie:=bd_ ie
 replace jz:=bd_ jz
 replace mz:=bd_ mz
 replace HB:=A_ (G2 HB.out)
 obtain⟨⟨ap1,lp6,it1,it2,dt9,gj9,gk0⟩,ev3,ev4⟩:=rdp_ (at_L1 bf.out a8)
 have it3:=dt9
 cases it2
 replace dt9:=cl_ HB dt9
 have gk1:=A_ gk0
 have lp7:=A_ gj9
 clear gk0 gj9
 obtain⟨⟨gk2,it4,du0⟩,ev5,ev6⟩:=rdp_ (Kd.at_int gk1.out b3)
 have it5:=du0
 cases it4
 replace du0:=cl_ HB du0
 obtain⟨⟨it6,lp8,it7,it8,du1,gk3,gk4⟩,ev7,ev8⟩:=rdp_ (at_L1 bf.out b3)
 have it9:=du1
 obtain rfl:ap1=it6:=(by injection it8)
 replace du1:=cl_ HB du1
 have gk5:=A_ gk4
 have lp9:=A_ gk3
 clear gk4 gk3
 obtain⟨⟨gk6,iu0,du2⟩,ev9,ew0⟩:=rdp_ (Kd.at_int gk5.out a8)
 have iu1:=du2
 cases iu0
 replace du2:=cl_ HB du2
 refine start_ (n:=18) (S:=fun w'=>w'.cell? ⟨pr,0,none⟩=some (.slice ae ab.length ac)/\w'.cell? ⟨pr,1,none⟩=some (.slice (some ap1) aa.length af)/\w'.cell? (ap1.add (a8).toNat)=some (.slice (some gk2) (Jc aa a8).length it1)/\w'.cell? (gk2.add (b3).toNat)=some (.int .i64 (rd (Jc aa a8) b3))/\w'.cell? (ap1.add (b3).toNat)=some (.slice (some gk6) (Jc aa b3).length it7)/\w'.cell? (gk6.add (a8).toNat)=some (.int .i64 (rd (Jc aa b3) a8))) (ds:=[]) (tl_ 18 0) (g1_) rfl (g1_) ⟨(Gz ie.out 0).trans rfl,(Gz ie.out 1).trans rfl,((cl_ HB it3).trans rfl),((cl_ HB it5).trans rfl),((cl_ HB it9).trans rfl),((cl_ HB iu1).trans rfl)⟩ (fun hHeld=>?_);refine Jm Fj.tab10 Fj.bits10 (fun HT_ HW_=>?_)
 generalize wr.drew=jq at tk lu ie jz mz HB gk1 gk5 dt9 du0 du1 du2 hHeld |-
 refine pw_ 0 25 (tl_ 18 1) ?_
 refine pw_ 2 27 (tl_ 18 5) ?_
 refine pw_ 5 30 (tl_ 18 37) ?_
 refine pw_ 8 33 (tl_ 18 293) ?_
 refine pw_ 10 35 (tl_ 18 1317) ?_
 refine pw_ 13 38 (tl_ 18 9509) ?_
 refine tk1_ 1 26 (tl_ 18 9511) hHeld ?_
 refine pw_ 3 28 (tl_ 18 9519) ?_
 refine tk1_ 4 29 (tl_ 18 9535) hHeld ?_
 refine pw_ 6 31 (tl_ 18 9599) ?_
 refine tk1_ 7 32 (tl_ 18 9727) hHeld ?_
 refine tk1_ 9 34 (tl_ 18 10239) hHeld ?_
 refine pw_ 11 36 (tl_ 18 12287) ?_
 refine tk1_ 12 37 (tl_ 18 16383) hHeld ?_
 refine pw_ 14 39 (tl_ 18 32767) ?_
 refine tk1_ 15 40 (tl_ 18 65535) hHeld ?_
 refine pw_ 16 41 (tl_ 18 131071) ?_
 refine pw_ 17 6 (tl_ 18 262143) ?_
 refine done_ (done_of HT_.out (g1_)) ?_
 try go_wp2
 replace tk:=rd_ tk
 replace lu:=sd_ lu
 replace ie:=bd_ ie
 replace jz:=bd_ jz
 replace mz:=bd_ mz
 replace HB:=A_ (G2 HB.out)
 obtain⟨lv,j8,au1⟩:=Kd.S_slice lu.out
 (first|subst au1|(injection au1 with f1_ f2_ f3_;have f4_:=f1_.symm;have f5_:=f3_.symm;clear f1_ f2_ f3_;subst f4_;subst f5_))
 have du3:0<=(a8:Int):=od_
 have du4:a8 < (mc.length:Int):=od_
 obtain⟨bk5,lq0,iu2,iu3,du5,gk7,gk8⟩:=at_L1 (Kd.S_reads' lu.out).2.2 a8 du3 du4
 cases iu3
 obtain⟨ce219,hce219,hMe219,hcc219⟩:=Kd.S_get lu.out [] a8 du3 (by first|exact du4|exact od_|(have e_:=(Kd.S_reads' lu.out).1;omega))
 obtain⟨ve219_0,rfl,ge219_0⟩:=hMe219
 have hv219_0:=hcc219 0 _ rfl
 rw[Nat.add_zero,show((Kd.slice 3 (Kd.int .i64))).sz=1 from rfl,Nat.mul_one] at hv219_0
 replace hv219_0:=Option.some.inj (hv219_0.symm.trans du5)
 rw[hv219_0] at ge219_0
 have bw5:=A_ (show Kd.R (Kd.int .i64) 3 _ _ _ _ (Jc mc a8) from ge219_0)
 clear hv219_0 ge219_0
 have HX219_0:=A_ du5
 clear hcc219 hce219
 have iu4:=A_ gk8
 have lq1:=A_ gk7
 clear gk8 gk7
 replace du3:=eq_true du3
 replace du4:=eq_true du4
 obtain⟨⟨iu5,lq2,iu6,iu7,du6,gk9,gl0⟩,ew1,ew2⟩:=rdp_ (at_L1 bf.out a8)
 have iu8:=du6
 obtain rfl:ap1=iu5:=(by injection iu7)
 replace du6:=cl_ HB du6
 have gl1:=A_ gl0
 have lq3:=A_ gk9
 clear gl0 gk9
 obtain⟨⟨gl2,iu9,du7⟩,ew3,ew4⟩:=rdp_ (Kd.at_int gl1.out b3)
 have iv0:=du7
 cases iu9
 replace du7:=cl_ HB du7
 have p32:0<=(b3:Int):=od_
 have q32:(b3:Int) < (((Jc mc a8).length:Int):Int):=od_
 obtain⟨bb5,k8,ci7,gl3,gl32,cl32,HG32⟩:=Kd.R_form bw5.out (by omega)
 (first|cases ci7|(injection ci7 with ea_ en_ ec_;(first|subst ea_|(injection ea_ with ea_;subst ea_));subst ec_;clear en_))
 have GB32:=A_ gl3
 have GG32:=A_ HG32
 clear gl3 gl32 HG32
 obtain⟨iv1,hf32_0⟩:=Kd.R_celln 0 bw5.out (b3:Int) p32 q32
 replace p32:=eq_true p32
 replace q32:=eq_true q32
 have hq39:(a8:Int) < (mc.length:Int):=(by have h_:(a8:Int) < ((mc.length:Int):Int):=od_;first|exact h_|(have e_:=(Kd.S_reads' lu.out).1;omega)|simpa only[List.length_set,List.length_set] using h_)
 obtain⟨oki39,ce39,hcl39,hM39,hcc39,hok39,hbk39⟩:=Kd.S_borrow lu.out [] (a8:Int) (od_) (by first|exact hq39|exact od_|(have e_:=(Kd.S_reads' lu.out).1;omega))
 obtain⟨ve39_0,rfl,ge39_0⟩:=hM39
 have hv39:=hcc39 0 _ rfl
 rw[Nat.add_zero,show((Kd.slice 3 (Kd.int .i64))).sz=1 from rfl,Nat.mul_one] at hv39
 replace hv39:=Option.some.inj (hv39.symm.trans HX219_0.out)
 subst hv39
 clear hcc39 hcl39
 replace ge39_0:=(show Kd.R (Kd.int .i64) 3 _ _ _ _ (Jc mc a8) from ge39_0)
 have HP39:=Kd.R_putg ge39_0 (b3:Int) (wrap64 ((rd (Jc aa a8) b3) - (ji29)))
 rw[<- is8.out] at HP39
 have HS39:=hbk39 HP39.2 (fun k_ e_=>by injection e_ with e_;subst e_;exact ge39_0.1 _ rfl) (x':=ev0) (Kd.M_row HP39.1)
 rw[<- ev1.out] at HS39
 have HQ39:=A_ HS39
 clear HP39 HS39 hbk39 hok39
 refine start_ (n:=18) (S:=fun w'=>w'.cell? ⟨uh,0,none⟩=some (ui)/\w'.cell? ⟨uh,1,none⟩=some (.slice (some bk5) mc.length j8)/\w'.cell? ⟨pr,0,none⟩=some (.slice ae ab.length ac)/\w'.cell? ⟨pr,1,none⟩=some (.slice (some ap1) aa.length af)/\w'.cell? (bk5.add (a8).toNat)=some (.slice (some ⟨bb5,0,none⟩) (Jc mc a8).length iu2)/\w'.cell? (ap1.add (a8).toNat)=some (.slice (some gl2) (Jc aa a8).length iu6)/\w'.cell? (gl2.add (b3).toNat)=some (.int .i64 (rd (Jc aa a8) b3))) (ds:=[17]) (tl_ 18 0) (g1_) rfl (g1_) ⟨(Gz mz.out 0).trans rfl,(Gz mz.out 1).trans rfl,(Gz ie.out 0).trans rfl,(Gz ie.out 1).trans rfl,du5,((cl_ HB iu8).trans rfl),((cl_ HB iv0).trans rfl)⟩ (fun hHeld=>?_);refine Jm Fj.tab11 Fj.bits11 (fun HT_ HW_=>?_)
 generalize jq.drew=rj at tk lu ie jz mz HB GG32 bw5 HQ39 iu4 gl1 HX219_0 hf32_0 du5 du6 du7 iv1 hHeld |-
 refine pw_ 0 42 (tl_ 18 1) ?_
 refine pw_ 2 44 (tl_ 18 5) ?_
 refine pw_ 5 47 (tl_ 18 37) ?_
 refine pw_ 6 48 (tl_ 18 101) ?_
 refine pw_ 8 50 (tl_ 18 357) ?_
 refine pw_ 11 53 (tl_ 18 2405) ?_
 refine pw_ 14 56 (tl_ 18 18789) ?_
 refine tk4_ 1 43 (tl_ 18 18791) hHeld ?_
 refine pw_ 3 45 (tl_ 18 18799) ?_
 refine tk4_ 4 46 (tl_ 18 18815) hHeld ?_
 refine tk4_ 7 49 (tl_ 18 18943) hHeld ?_
 refine pw_ 9 51 (tl_ 18 19455) ?_
 refine tk4_ 10 52 (tl_ 18 20479) hHeld ?_
 refine pw_ 12 54 (tl_ 18 24575) ?_
 refine tk4_ 13 55 (tl_ 18 32767) hHeld ?_
 refine pw_ 15 57 (tl_ 18 65535) ?_
 refine pw_ 16 58 (tl_ 18 131071) ?_
 refine last_ (i:=17) (N:=none) (tl_ 18 262143) rfl rfl (Jo HT_.out (g1_)) (by decide) (fun K hK=>?_)
 refine skip_ (w1:=?_) (by rfl) rfl ?_ ?_
 rotate_left
 ·go_simp
  rfl
 refine hK.out _ _ ?_
 clear hK K
 refine done_ (done_of HT_.out (g1_)) ?_
 try go_wp2
 generalize hw_:(rj.setCell ⟨bb5,(b3:Int).toNat,none⟩ (.int .i64 (wrap64 ((rd (Jc aa a8) b3) - (ji29)))))=w41
 have n0_:Gy (Kd.R (Kd.int .i64) 3 w41 w.heap.size (fun _=>True) ui ap0):=A_ (by rw[<- hw_];exact(by(with_reducible repeat(first|apply Kd.R_alloc|apply Kd.R_drewN|apply Kd.R_drew));exact Kd.R_mono (Kd.R_far (p:=⟨bb5,(b3:Int).toNat,none⟩) (Kd.R_far1 tk.out rfl ((bw5.out.1 _ rfl).1)) (fun _ hk=>hk.2) (.int .i64 (wrap64 ((rd (Jc aa a8) b3) - (ji29))))) (fun _ hk=>trivial)))
 have n1_:Gy (Kd.S (Kd.slice 3 (Kd.int .i64)) 22 w41 w.heap.size (fun k_=>some k_≠(ui:Value).ownBlock) (.slice (some bk5) mc.length j8) ob):=A_ (by rw[<- hw_];exact uf3_ HQ39)
 have n2_:Gy (hc_ w41 pr #[.slice ae ab.length ac, .slice (some ap1) aa.length af] 25):=A_ (by rw[<- hw_];exact(by(with_reducible repeat(first|refine G6 ?_ _|refine G7 ?_|refine G5 ?_ _));refine Jf ?_ (by have h_:=Kd.R_ne bw5.out ie.out (by decide);intro e_;exact h_ (g6_)) _;exact uf0_ ie))
 have n3_:Gy (hc_ w41 ps #[.slice none 0 0, .slice none 0 0] 25):=A_ (by rw[<- hw_];exact(by(with_reducible repeat(first|refine G6 ?_ _|refine G7 ?_|refine G5 ?_ _));refine Jf ?_ (by have h_:=Kd.R_ne bw5.out jz.out (by decide);intro e_;exact h_ (g6_)) _;exact uf0_ jz))
 have n4_:Gy (hc_ w41 uh #[ui, .slice (some bk5) mc.length j8] 25):=A_ (by rw[<- hw_];exact(by(with_reducible repeat(first|refine G6 ?_ _|refine G7 ?_|refine G5 ?_ _));refine Jf ?_ (by have h_:=Kd.R_ne bw5.out mz.out (by decide);intro e_;exact h_ (g6_)) _;exact uf0_ mz))
 have n5_:Gy (Below w.heap.size w w41):=A_ (by rw[<- hw_];exact t6)
 clear hw_
 have tk:=n0_
 have lu:=n1_
 have ie:=n2_
 have jz:=n3_
 have mz:=n4_
 have HB:=n5_
 clear n0_ n1_ n2_ n3_ n4_ n5_
 replace tk:=rd_ tk
 replace lu:=sd_ lu
 replace ie:=bd_ ie
 replace jz:=bd_ jz
 replace mz:=bd_ mz
 replace HB:=A_ (G2 HB.out)
 have du8:0<=(b3:Int):=od_
 have du9:b3 < (ob.length:Int):=(by have h_:(b3:Int) < ((mc.length:Int):Int):=od_;first|(have e_:=(Kd.S_reads' lu.out).1;omega)|simpa only[ev1.out,List.length_set] using h_)
 have ql225:((b3:Int) < ((mc.length:Int):Int))=True:=eq_true (od_)
 obtain⟨iv2,lq4,iv3,iv4,dv0,gl4,gl5⟩:=at_L1 (Kd.S_reads' lu.out).2.2 b3 du8 du9
 obtain rfl:bk5=iv2:=(by injection iv4)
 obtain⟨ce225,hce225,hMe225,hcc225⟩:=Kd.S_get lu.out [] b3 du8 (by first|exact du9|exact od_|(have e_:=(Kd.S_reads' lu.out).1;omega))
 obtain⟨ve225_0,rfl,ge225_0⟩:=hMe225
 have hv225_0:=hcc225 0 _ rfl
 rw[Nat.add_zero,show((Kd.slice 3 (Kd.int .i64))).sz=1 from rfl,Nat.mul_one] at hv225_0
 replace hv225_0:=Option.some.inj (hv225_0.symm.trans dv0)
 rw[hv225_0] at ge225_0
 have bw6:=A_ (show Kd.R (Kd.int .i64) 3 _ _ _ _ (Jc ob b3) from ge225_0)
 clear hv225_0 ge225_0
 have HX225_0:=A_ dv0
 clear hcc225 hce225
 have iv5:=A_ gl5
 have lq5:=A_ gl4
 clear gl5 gl4
 replace du8:=eq_true du8
 replace du9:=eq_true du9
 obtain⟨⟨iv6,lq6,iv7,iv8,dv1,gl6,gl8⟩,ew5,ew6⟩:=rdp_ (at_L1 bf.out b3)
 have iv9:=dv1
 obtain rfl:ap1=iv6:=(by injection iv8)
 replace dv1:=cl_ HB dv1
 have gl9:=A_ gl8
 have lq7:=A_ gl6
 clear gl8 gl6
 obtain⟨⟨gm0,iw0,dv2⟩,ew7,ew8⟩:=rdp_ (Kd.at_int gl9.out a8)
 have iw1:=dv2
 cases iw0
 replace dv2:=cl_ HB dv2
 have p35:0<=(a8:Int):=od_
 have q35:(a8:Int) < (((Jc ob b3).length:Int):Int):=od_
 obtain⟨gm1,wy,ci8,gm2,gl35,cl35,HG35⟩:=Kd.R_form bw6.out (by omega)
 (first|cases ci8|(injection ci8 with ea_ en_ ec_;(first|subst ea_|(injection ea_ with ea_;subst ea_));subst ec_;clear en_))
 have GB35:=A_ gm2
 have GG35:=A_ HG35
 clear gm2 gl35 HG35
 obtain⟨ad9,hf35_0⟩:=Kd.R_celln 0 bw6.out (a8:Int) p35 q35
 replace p35:=eq_true p35
 replace q35:=eq_true q35
 have hq43:(b3:Int) < (ob.length:Int):=(by have h_:(b3:Int) < ((mc.length:Int):Int):=od_;first|exact h_|(have e_:=(Kd.S_reads' lu.out).1;omega)|simpa only[ev1.out,List.length_set] using h_)
 obtain⟨oki43,ce43,hcl43,hM43,hcc43,hok43,hbk43⟩:=Kd.S_borrow lu.out [] (b3:Int) (od_) (by first|exact hq43|exact od_|(have e_:=(Kd.S_reads' lu.out).1;omega))
 obtain⟨ve43_0,rfl,ge43_0⟩:=hM43
 have hv43:=hcc43 0 _ rfl
 rw[Nat.add_zero,show((Kd.slice 3 (Kd.int .i64))).sz=1 from rfl,Nat.mul_one] at hv43
 replace hv43:=Option.some.inj (hv43.symm.trans HX225_0.out)
 subst hv43
 clear hcc43 hcl43
 replace ge43_0:=(show Kd.R (Kd.int .i64) 3 _ _ _ _ (Jc ob b3) from ge43_0)
 have HP43:=Kd.R_putg ge43_0 (a8:Int) (wrap64 ((rd (Jc aa b3) a8) - (ji29)))
 rw[<- is9.out] at HP43
 have HS43:=hbk43 HP43.2 (fun k_ e_=>by injection e_ with e_;subst e_;exact ge43_0.1 _ rfl) (x':=ev2) (Kd.M_row HP43.1)
 rw[<- it0.out] at HS43
 have HQ43:=A_ HS43
 clear HP43 HS43 hbk43 hok43
 refine start_ (n:=18) (S:=fun w'=>w'.cell? ⟨uh,0,none⟩=some (ui)/\w'.cell? ⟨uh,1,none⟩=some (.slice (some bk5) mc.length j8)/\w'.cell? ⟨pr,0,none⟩=some (.slice ae ab.length ac)/\w'.cell? ⟨pr,1,none⟩=some (.slice (some ap1) aa.length af)/\w'.cell? (bk5.add (b3).toNat)=some (.slice (some ⟨gm1,0,none⟩) (Jc ob b3).length iv3)/\w'.cell? (ap1.add (b3).toNat)=some (.slice (some gm0) (Jc aa b3).length iv7)/\w'.cell? (gm0.add (a8).toNat)=some (.int .i64 (rd (Jc aa b3) a8))) (ds:=[17]) (tl_ 18 0) (g1_) rfl (g1_) ⟨(Gz mz.out 0).trans rfl,(Gz mz.out 1).trans rfl,(Gz ie.out 0).trans rfl,(Gz ie.out 1).trans rfl,dv0,((cl_ HB iv9).trans rfl),((cl_ HB iw1).trans rfl)⟩ (fun hHeld=>?_);refine Jm Fj.tab12 Fj.bits12 (fun HT_ HW_=>?_)
 generalize w41.drew=w42 at tk lu ie jz mz HB GG35 bw6 HQ39 HQ43 iv5 gl9 HX225_0 hf35_0 dv0 dv1 dv2 ad9 hHeld |-
 refine pw_ 0 59 (tl_ 18 1) ?_
 refine pw_ 2 61 (tl_ 18 5) ?_
 refine pw_ 5 64 (tl_ 18 37) ?_
 refine pw_ 6 65 (tl_ 18 101) ?_
 refine pw_ 8 67 (tl_ 18 357) ?_
 refine pw_ 11 70 (tl_ 18 2405) ?_
 refine pw_ 14 73 (tl_ 18 18789) ?_
 refine tk4_ 1 60 (tl_ 18 18791) hHeld ?_
 refine pw_ 3 62 (tl_ 18 18799) ?_
 refine tk4_ 4 63 (tl_ 18 18815) hHeld ?_
 refine tk4_ 7 66 (tl_ 18 18943) hHeld ?_
 refine pw_ 9 68 (tl_ 18 19455) ?_
 refine tk4_ 10 69 (tl_ 18 20479) hHeld ?_
 refine pw_ 12 71 (tl_ 18 24575) ?_
 refine tk4_ 13 72 (tl_ 18 32767) hHeld ?_
 refine pw_ 15 74 (tl_ 18 65535) ?_
 refine pw_ 16 75 (tl_ 18 131071) ?_
 refine last_ (i:=17) (N:=none) (tl_ 18 262143) rfl rfl (Jo HT_.out (g1_)) (by decide) (fun K hK=>?_)
 refine skip_ (w1:=?_) (by rfl) rfl ?_ ?_
 rotate_left
 ·go_simp
  rfl
 refine hK.out _ _ ?_
 clear hK K
 refine done_ (done_of HT_.out (g1_)) ?_
 try go_wp2
 go_roundg k2
 case measure=>have:=HK1.out;have:=HK2.out;omega
 case rel=>exact⟨(wrap64 (b3 + 1)),(ap0),(gj8),(ui),(.slice (some bk5) mc.length j8),(g2_),H',⟨g16_⟩,⟨by(with_reducible repeat(first|apply Kd.R_alloc|apply Kd.R_drewN|apply Kd.R_drew));exact Kd.R_mono (Kd.R_far (p:=⟨gm1,(a8:Int).toNat,none⟩) (Kd.R_far1 tk.out rfl ((bw6.out.1 _ rfl).1)) (fun _ hk=>hk.2) (.int .i64 (wrap64 ((rd (Jc aa b3) a8) - (ji29))))) (fun _ hk=>trivial)⟩,⟨uf3_ HQ43⟩,⟨by(with_reducible repeat(first|refine G6 ?_ _|refine G7 ?_|refine G5 ?_ _));refine Jf ?_ (by have h_:=Kd.R_ne bw6.out ie.out (by decide);intro e_;exact h_ (g6_)) _;exact uf0_ ie⟩,⟨by(with_reducible repeat(first|refine G6 ?_ _|refine G7 ?_|refine G5 ?_ _));refine Jf ?_ (by have h_:=Kd.R_ne bw6.out jz.out (by decide);intro e_;exact h_ (g6_)) _;exact uf0_ jz⟩,⟨by(with_reducible repeat(first|refine G6 ?_ _|refine G7 ?_|refine G5 ?_ _));refine Jf ?_ (by have h_:=Kd.R_ne bw6.out mz.out (by decide);intro e_;exact h_ (g6_)) _;exact uf0_ mz⟩,⟨t6⟩⟩
mutual
def Fb.j0:Nat->List Int->List (List Int)->Int->Bool->List Int->List (List Int)->Option ((List (List Int)))
 | 0,_,_,_,_,_,_=>none
 | k + 1,x1,x5,x6,x31,ae0,xa=>if x31=true then((some (([]:List Int):List Int)).bind fun bk6=>(if bk6.length + x1.length < 17592186044416 then((some (([(bk6 ++ x1)]:List (List Int)):List (List Int))).bind fun zl=>(if x5.length + zl.length < 5864062014805 then(Fb.j1 k x1 (x5 ++ zl) x6 ae0 xa) else(none))) else(none))) else(Fb.j1 k x1 x5 x6 ae0 xa)
def Fb.j1:Nat->List Int->List (List Int)->Int->List Int->List (List Int)->Option ((List (List Int)))
 | 0,_,_,_,_,_=>none
 | k + 1,x1,x5,x6,ae0,xa=>if 0 < (x1.length:Int) then(Fb.l0 k x1 x5 x6 (wrap64 ((rd x1 0) + 1)) ae0 xa) else(none)
def Fb.l0:Nat->List Int->List (List Int)->Int->Int->List Int->List (List Int)->Option ((List (List Int)))
 | 0,_,_,_,_,_,_=>none
 | k + 1,x1,x5,x6,x7,ae0,xa=>if x7 < (ae0.length:Int) then(if 0<=x6 then(if x6 < (xa.length:Int) then(if 0<=x7 then(if x7 < ((Jc xa x6).length:Int) then(if (rd (Jc xa x6) x7)=0 then(Fb.l0 k x1 x5 x6 (wrap64 (x7 + 1)) ae0 xa) else(Fb.l1 k x1 x5 x6 x7 0 ae0 xa)) else(none)) else(none)) else(none)) else(none)) else(some x5)
def Fb.l1:Nat->List Int->List (List Int)->Int->Int->Int->List Int->List (List Int)->Option ((List (List Int)))
 | 0,_,_,_,_,_,_,_=>none
 | k + 1,x1,x5,x6,x7,x8,ae0,xa=>if x8 < (x1.length:Int) then(if 0<=x8 then(if (rd x1 x8)=x7 then(Fb.l0 k x1 x5 x6 (wrap64 (x7 + 1)) ae0 xa) else(Fb.l1 k x1 x5 x6 x7 (wrap64 (x8 + 1)) ae0 xa)) else(none)) else((some (([]:List Int):List Int)).bind fun bb6=>(if bb6.length + x1.length < 17592186044416 then((some (bb6 ++ x1:List Int)).bind fun zm=>((some (([x7]:List Int):List Int)).bind fun pt=>(if zm.length + pt.length < 17592186044416 then((Fb.f k ae0 xa (zm ++ pt)).bind fun tl=>(if x5.length + tl.length < 5864062014805 then(Fb.l0 k x1 (x5 ++ tl) x6 (wrap64 (x7 + 1)) ae0 xa) else(none))) else(none)))) else(none)))
def Fb.f:Nat->List Int->List (List Int)->List Int->Option ((List (List Int)))
 | 0,_,_,_=>none
 | k + 1,ab,aa,l1=>(some (([]:List (List Int)):List (List Int))).bind fun pu=>(if 0<=(wrap64 ((l1.length:Int) - 1)) then(if (wrap64 ((l1.length:Int) - 1)) < (l1.length:Int) then(if (l1.length:Int) > 1 then(if 0<=(rd l1 (wrap64 ((l1.length:Int) - 1))) then(if (rd l1 (wrap64 ((l1.length:Int) - 1))) < (aa.length:Int) then(if 0 < (l1.length:Int) then(if 0<=(rd l1 0) then(if (rd l1 0) < ((Jc aa (rd l1 (wrap64 ((l1.length:Int) - 1)))).length:Int) then(Fb.j0 k l1 pu (rd l1 (wrap64 ((l1.length:Int) - 1))) (decide ((rd (Jc aa (rd l1 (wrap64 ((l1.length:Int) - 1)))) (rd l1 0)) > 0)) ab aa) else(none)) else(none)) else(none)) else(none)) else(none)) else(Fb.j0 k l1 pu (rd l1 (wrap64 ((l1.length:Int) - 1))) false ab aa)) else(none)) else(none))
end
def Fb.T3:Bool × List (List Nat × List Nat):=(true,[([],[]),([0],[0]),([1],[1]),([2],[2]),([3],[3]),([4,3],[3,4]),([3],[3]),([5,6,3],[3,5,6]),([7,3],[3,7]),([3],[3]),([9,3],[3,9]),([10,3],[3,10]),([8,11,3],[3,8,11]),([12,3],[3,12]),([13,3],[3,13]),([3,14],[3,14])])
def Fb.B3:List Nat:=[0,1,3,7,15,31,15,127,255,15,527,1551,4095,8191,16383,32767]
theorem Fb.tab3:rtab .any (opsOf Try.f113 3)=Fb.T3:=by kernel_rfl
theorem Fb.bits3:waitsOk Fb.T3.2 Fb.B3=true:=by kernel_rfl
def Fb.T13:Bool × List (List Nat × List Nat):=(true,[([],[]),([],[]),([],[]),([],[]),([2,3],[2,3]),([],[]),([5],[5]),([4,6,4],[4,6]),([1,7,7],[1,7]),([0,8,8],[0,8]),([9,9,0,1,2,3,4,5,6,7,8,9],[0,9])])
def Fb.B13:List Nat:=[0,0,0,0,12,0,32,124,254,511,1023]
theorem Fb.tab13:rtab .any (opsOf Try.f113 13)=Fb.T13:=by kernel_rfl
theorem Fb.bits13:waitsOk Fb.T13.2 Fb.B13=true:=by kernel_rfl
theorem d7 {p:Prop} (h:p:=by repeat(first|(with_reducible first|exact HB.out|apply G4|apply G3|apply G2|refine G1 ?_ gm7.out)|exact HB.out)):p:=h
set_option maxHeartbeats 8000000 in
set_option maxRecDepth 100000 in
theorem Fb.calls (k:Nat):∀(ae:Option Addr) (ac:Nat) (ab:List Int) (ag:Option Addr) (af:Nat) (aa:List (List Int)) (A1:Option Addr) (c1:Nat) (l1:List Int) (r:List (List Int)) (w:World) (ca:Kd.C (Kd.int .i64) w ae ab.length ab) (ce:ab.length<=ac) (cb:Kd.C (Kd.slice 3 (Kd.int .i64)) w ag aa.length aa) (cg:aa.length<=af) (j6:Kd.C (Kd.int .i64) w A1 l1.length l1) (kh:l1.length<=c1) (h:Fb.f k ab aa l1=some r),
  Calls Try.prog 113 #[.agg #[.slice ae ab.length ac, .slice ag aa.length af], .slice A1 l1.length c1] w fun e w'=>∃v0_:Value,e = .returned (v0_)/\Kd.N (Kd.slice 3 (Kd.int .i64)) 22 w' w.heap.size (fun k_=>(w.heap.size<=k_)) v0_ r/\Below w.heap.size w w':=by
 induction k using Nat.strongRecOn with
 | _ k ih=>
 intro ae ac ab ag af aa A1 c1 l1 r w ca ce cb cg j6 kh h
 cases k with
 | zero=>exact absurd h (by simp[Fb.f])
 | succ k=>
 simp only[Fb.f] at h
 have hu25:=Try.underlying25
 have bu:=A_ ca
 have cq:=A_ ce
 clear ca ce
 have bf:=A_ cb
 have cu:=A_ cg
 clear cb cg
 have h7:=A_ j6
 have yz:=A_ kh
 clear j6 kh
 have HB:=A_ (Below.refl w.heap.size w)
 have H:=h
 unfold Fb.f at H
 clear h
 obtain⟨pu,hyq⟩:∃y_:List (List Int),y_=(([]:List (List Int))):=⟨_,rfl⟩
 replace H:(if 0<=(wrap64 ((l1.length:Int) - 1)) then(if (wrap64 ((l1.length:Int) - 1)) < (l1.length:Int) then(if (l1.length:Int) > 1 then(if 0<=(rd l1 (wrap64 ((l1.length:Int) - 1))) then(if (rd l1 (wrap64 ((l1.length:Int) - 1))) < (aa.length:Int) then(if 0 < (l1.length:Int) then(if 0<=(rd l1 0) then(if (rd l1 0) < ((Jc aa (rd l1 (wrap64 ((l1.length:Int) - 1)))).length:Int) then(Fb.j0 k l1 pu (rd l1 (wrap64 ((l1.length:Int) - 1))) (decide ((rd (Jc aa (rd l1 (wrap64 ((l1.length:Int) - 1)))) (rd l1 0)) > 0)) ab aa) else(none)) else(none)) else(none)) else(none)) else(none)) else(Fb.j0 k l1 pu (rd l1 (wrap64 ((l1.length:Int) - 1))) false ab aa)) else(none)) else(none))=some r:=qh_
 have dv5:=A_ hyq
 clear hyq
 obtain⟨ji3,hji3⟩:∃j_:Int,(wrap64 ((l1.length:Int) - 1))=j_:=⟨_,rfl⟩
 first|rw[hji3] at H|simp only[hji3] at H
 have hji3w:(IntKind.i64.wrap ((l1.length:Int) - 1))=ji3:=(i64_w _).trans hji3
 obtain⟨mv,H⟩:=pd_ H
 obtain⟨ij,H⟩:=pd_ H
 have HC6:=A_ H
 clear H
 go_enter Try.func113,Try.ntmps113
 go_upto_region 3 with(first|((with_reducible refine gd_ 2 ?_);refine bx_ (N:=2) #[.slice ae ab.length ac, .slice ag aa.length af] 25 ?_;intro ee hg w7 hbox hb;have br:=A_ (hbox);have iw5:=A_ ((g93_:w.heap.size<=ee));have gm7:=iw5;replace HB:=hs_ (d7) hb;clear hb hbox hg)|((with_reducible refine gd_ 9 ?_);refine Kd.N_lit (Kd.slice 3 (Kd.int .i64)) _ 22 ?hg (N':=9) ?hd (xs:=([]:List (List Int))) (inner:=[]) (ok:=(fun k_=>(w.heap.size<=k_)/\k_≠ee)) (okp:=(fun k_=>(w.heap.size<=k_)/\k_≠ee)) ?hr ?hp (fun _ hk=>hk) ((show ∀k_,w7.heap.size<=k_->(fun k_=>(w.heap.size<=k_)/\k_≠ee) k_ from fun k_ hk=>⟨(Nat.le_trans (G0 (d7)) hk),Kd.freshB (g:=ee) (o:=.cells #[.slice ae ab.length ac, .slice ag aa.length af] 25 (0,0)) (uf0_ br) k_ hk⟩) _ (Nat.le_refl _)) (Below.refl _ _) (Nat.le_refl _) (by simp) ?_;(case hd=>rfl);(case hg=>rfl);(case hr=>first|(go_simp;done)|(go_simp;rfl));(case hp=>exact(Reps.none _ _));intro tm w8 uj hb hg_ hnew_;clear hg_ hnew_;(first|rw[<- dv5.out] at uj|(simp only[Int.reduceToNat] at uj;rw[<- dv5.out] at uj));have bb7:=A_ (Kd.N_lower uj (G0 (d7)));replace br:=bb_ br hb;replace HB:=hs_ (d7) hb;clear hb uj;have ap2:0<=((ji3):Int):=od_;have ap3:(ji3) < (l1.length:Int):=od_;obtain⟨ci9,ex7,bb8⟩:=Kd.at_int h7.out (ji3) ap2 ap3;cases ex7;replace bb8:=cl_ HB bb8;replace ap2:=eq_true ap2;replace ap3:=eq_true ap3));(repeat((first|go_step3|rw[Exit.noGoto_normal]|rw[Exit.noGoto_exit]|rw[Exit.noGoto_ret]);go_upto_region 3 with(first|((with_reducible refine gd_ 2 ?_);refine bx_ (N:=2) #[.slice ae ab.length ac, .slice ag aa.length af] 25 ?_;intro ee hg w7 hbox hb;have br:=A_ (hbox);have iw5:=A_ ((g93_:w.heap.size<=ee));have gm7:=iw5;replace HB:=hs_ (d7) hb;clear hb hbox hg)|((with_reducible refine gd_ 9 ?_);refine Kd.N_lit (Kd.slice 3 (Kd.int .i64)) _ 22 ?hg (N':=9) ?hd (xs:=([]:List (List Int))) (inner:=[]) (ok:=(fun k_=>(w.heap.size<=k_)/\k_≠ee)) (okp:=(fun k_=>(w.heap.size<=k_)/\k_≠ee)) ?hr ?hp (fun _ hk=>hk) ((show ∀k_,w7.heap.size<=k_->(fun k_=>(w.heap.size<=k_)/\k_≠ee) k_ from fun k_ hk=>⟨(Nat.le_trans (G0 (d7)) hk),Kd.freshB (g:=ee) (o:=.cells #[.slice ae ab.length ac, .slice ag aa.length af] 25 (0,0)) (uf0_ br) k_ hk⟩) _ (Nat.le_refl _)) (Below.refl _ _) (Nat.le_refl _) (by simp) ?_;(case hd=>rfl);(case hg=>rfl);(case hr=>first|(go_simp;done)|(go_simp;rfl));(case hp=>exact(Reps.none _ _));intro tm w8 uj hb hg_ hnew_;clear hg_ hnew_;(first|rw[<- dv5.out] at uj|(simp only[Int.reduceToNat] at uj;rw[<- dv5.out] at uj));have bb7:=A_ (Kd.N_lower uj (G0 (d7)));replace br:=bb_ br hb;replace HB:=hs_ (d7) hb;clear hb uj;have ap2:0<=((ji3):Int):=od_;have ap3:(ji3) < (l1.length:Int):=od_;obtain⟨ci9,ex7,bb8⟩:=Kd.at_int h7.out (ji3) ap2 ap3;cases ex7;replace bb8:=cl_ HB bb8;replace ap2:=eq_true ap2;replace ap3:=eq_true ap3))))
 (try simp only[Act.put,List.setIfInBounds_toArray,List.set_cons_zero,List.set_cons_succ])
 go_cut [31] (fun v31 wc=>∃(kq:Nat) (dv6:Bool),v31 = .bool dv6/\Gy (Fb.j0 kq l1 pu (rd l1 (ji3)) dv6 ab aa=some r)/\Gy (kq<=k)/\Gy (Kd.N (Kd.slice 3 (Kd.int .i64)) 22 wc w.heap.size (fun k_=>(w.heap.size<=k_)/\k_≠ee) tm pu)/\Gy (hc_ wc ee #[(.slice ae ab.length ac),(.slice ag aa.length af)] 25)/\Gy (Below w.heap.size w wc))
 case first=>
  have H:=HC6.out
  clear HC6
  by_cases fb:(l1.length:Int) > 1
  case neg=>
   rw[if_neg fb] at H
   have o9:=decide_eq_false fb
   have bw7:decide (1 < l1.length)=false:=decide_eq_false (by omega)
   clear fb
   (first|rw[o9]|(simp only[i64_w,i32_w];rw[o9])|skip)
   have H':=A_ H
   clear H
   try go_wp2
   replace bb7:=nd_ bb7
   replace br:=bd_ br
   replace HB:=A_ (G2 HB.out)
   refine start_ (n:=16) (S:=fun w'=>True) (ds:=[]) (tl_ 16 0) (g1_) rfl (g1_) trivial (fun hHeld=>?_);refine Jm Fb.tab3 Fb.bits3 (fun HT_ HW_=>?_)
   generalize w8.drew=j4 at bb7 br HB hHeld |-
   refine pw_ 0 16 (tl_ 16 1) ?_
   refine pw_ 1 17 (tl_ 16 3) ?_
   refine pw_ 2 18 (tl_ 16 7) ?_
   refine pw_ 3 19 (tl_ 16 15) ?_
   refine pu_ 4 20 (tl_ 16 31) ?_
   refine pu_ 5 21 (tl_ 16 63) ?_
   refine pu_ 6 22 (tl_ 16 127) ?_
   refine pu_ 7 23 (tl_ 16 255) ?_
   refine pu_ 8 24 (tl_ 16 511) ?_
   refine pu_ 9 25 (tl_ 16 1023) ?_
   refine pu_ 10 26 (tl_ 16 2047) ?_
   refine pu_ 11 27 (tl_ 16 4095) ?_
   refine pu_ 12 28 (tl_ 16 8191) ?_
   refine pu_ 13 29 (tl_ 16 16383) ?_
   refine pu_ 14 30 (tl_ 16 32767) ?_
   refine pw_ 15 31 (tl_ 16 65535) ?_
   refine done_ (done_of HT_.out (g1_)) ?_
   try go_wp2
   go_meet
   case rel=>exact⟨_,(false),(g2_),H',⟨g9_⟩,⟨uf4_ bb7⟩,⟨uf0_ br⟩,⟨d7⟩⟩
  rw[if_pos fb] at H
  have o9:=decide_eq_true fb
  have bw7:decide (1 < l1.length)=true:=decide_eq_true (by omega)
  clear fb
  (first|rw[o9]|(simp only[i64_w,i32_w];rw[o9])|skip)
  obtain⟨yr,H⟩:=pd_ H
  obtain⟨t8,H⟩:=pd_ H
  obtain⟨jw,H⟩:=pos_ H
  have az8:=decide_eq_true jw
  have db4:decide (0 < l1.length)=true:=decide_eq_true (by omega)
  clear jw
  obtain⟨vf,H⟩:=pd_ H
  obtain⟨mb,H⟩:=pd_ H
  have H':=A_ H
  clear H
  try go_wp2
  replace bb7:=nd_ bb7
  replace br:=bd_ br
  replace HB:=A_ (G2 HB.out)
  obtain⟨⟨gm8,lr2,iw6,iw7,bk7,gm9,gn0⟩,bw8,bw9⟩:=rdp_ (at_L1 bf.out (rd l1 (ji3)))
  have iw8:=bk7
  cases iw7
  replace bk7:=cl_ HB bk7
  have gn1:=A_ gn0
  have lr3:=A_ gm9
  clear gn0 gm9
  have bx0:0<=(0:Int):=(by omega)
  have bx1:0 < (l1.length:Int):=od_
  obtain⟨iw9,ix0,au6⟩:=Kd.at_int h7.out 0 bx0 bx1
  have dv7:=au6
  (try rw[show((0:Int)).toNat=0 from rfl] at dv7)
  (try rw[show 0 * 1=0 from rfl] at dv7)
  (try rw[Addr.add_zero'] at dv7)
  obtain rfl:ci9=iw9:=(by injection ix0)
  have qi237:(0 < l1.length)=True:=eq_true (by omega)
  (try rw[show((0:Int)).toNat=0 from rfl] at au6)
  (try rw[Addr.add_zero'] at au6)
  replace au6:=cl_ HB au6
  replace bx0:=eq_true bx0
  replace bx1:=eq_true bx1
  obtain⟨⟨gn2,ix1,bk8⟩,bx2,bx3⟩:=rdp_ (Kd.at_int gn1.out (rd l1 0))
  have ix2:=bk8
  cases ix1
  replace bk8:=cl_ HB bk8
  refine start_ (n:=16) (S:=fun w'=>w'.cell? ⟨ee,0,none⟩=some (.slice ae ab.length ac)/\w'.cell? ⟨ee,1,none⟩=some (.slice (some gm8) aa.length af)/\w'.cell? (gm8.add ((rd l1 (ji3))).toNat)=some (.slice (some gn2) (Jc aa (rd l1 (ji3))).length iw6)/\w'.cell? ci9=some (.int .i64 (rd l1 0))/\w'.cell? (gn2.add ((rd l1 0)).toNat)=some (.int .i64 (rd (Jc aa (rd l1 (ji3))) (rd l1 0)))) (ds:=[]) (tl_ 16 0) (g1_) rfl (g1_) ⟨(Gz br.out 0).trans rfl,(Gz br.out 1).trans rfl,((cl_ HB iw8).trans rfl),((cl_ HB dv7).trans rfl),((cl_ HB ix2).trans rfl)⟩ (fun hHeld=>?_);refine Jm Fb.tab3 Fb.bits3 (fun HT_ HW_=>?_)
  generalize w8.drew=jp at bb7 br HB gn1 bk7 au6 bk8 hHeld |-
  refine pw_ 0 16 (tl_ 16 1) ?_
  refine pw_ 1 17 (tl_ 16 3) ?_
  refine pw_ 2 18 (tl_ 16 7) ?_
  refine pw_ 3 19 (tl_ 16 15) ?_
  refine pw_ 4 20 (tl_ 16 31) ?_
  refine pw_ 6 22 (tl_ 16 95) ?_
  refine pw_ 9 25 (tl_ 16 607) ?_
  refine pw_ 10 26 (tl_ 16 1631) ?_
  refine tk5_ 5 21 (tl_ 16 1663) hHeld ?_
  refine pw_ 7 23 (tl_ 16 1791) ?_
  refine tk5_ 8 24 (tl_ 16 2047) hHeld ?_
  refine tk5_ 11 27 (tl_ 16 4095) hHeld ?_
  refine pw_ 12 28 (tl_ 16 8191) ?_
  refine tk5_ 13 29 (tl_ 16 16383) hHeld ?_
  refine pw_ 14 30 (tl_ 16 32767) ?_
  refine pw_ 15 31 (tl_ 16 65535) ?_
  refine done_ (done_of HT_.out (g1_)) ?_
  try go_wp2
  go_meet
  case rel=>exact⟨_,(decide ((rd (Jc aa (rd l1 (ji3))) (rd l1 0)) > 0)),(by first|rfl|(simp;done)|(simp only[<- hji3] <;> (first|rfl|simp))|(simp[*];done)),H',⟨g9_⟩,⟨uf4_ bb7⟩,⟨uf0_ br⟩,⟨d7⟩⟩
 clear HC6
 obtain⟨kq,dv6,rfl,HA,HJ5,fe,br,HB⟩:=hcut
 cases kq with
 | zero=>exact absurd HA.out (by simp[Fb.j0])
 | succ kj5=>?_
 have H:=HA.out
 clear HA
 simp only[Fb.j0] at H
 have ex8:=A_ H
 clear H
 go_upto_if 31 with(fail)
 go_cut [5] (fun v5 wc=>∃(kq:Nat) (dv8:List (List Int)),Gy (Fb.j1 kq l1 dv8 (rd l1 (ji3)) ab aa=some r)/\Gy (kq<=kj5)/\Gy (Kd.N (Kd.slice 3 (Kd.int .i64)) 22 wc w.heap.size (fun k_=>(w.heap.size<=k_)/\k_≠ee) v5 dv8)/\Gy (hc_ wc ee #[(.slice ae ab.length ac),(.slice ag aa.length af)] 25)/\Gy (Below w.heap.size w wc))
 case first=>
  have H:=ex8.out
  clear ex8
  by_cases ei:dv6=true
  case neg=>
   replace ei:=Bool.eq_false_iff.mpr ei
   subst ei
   replace H:=ifn_ H
   have H':=A_ H
   clear H
   go_wp2;(repeat((first|go_step3|rw[Exit.noGoto_normal]|rw[Exit.noGoto_exit]|rw[Exit.noGoto_ret]);go_wp2))
   go_meet
   case rel=>exact⟨_,(pu),H',⟨g85_⟩,⟨uf4_ fe⟩,⟨uf0_ br⟩,⟨d7⟩⟩
  subst ei
  replace H:=ifp_ H
  obtain⟨bk6,hyq⟩:∃y_:List Int,y_=(([]:List Int)):=⟨_,rfl⟩
  replace H:(if bk6.length + l1.length < 17592186044416 then((some (([(bk6 ++ l1)]:List (List Int)):List (List Int))).bind fun zl=>(if pu.length + zl.length < 5864062014805 then(Fb.j1 kj5 l1 (pu ++ zl) (rd l1 (ji3)) ab aa) else(none))) else(none))=some r:=qh_
  have dv9:=A_ hyq
  clear hyq
  obtain⟨jx,H⟩:=pos_ H
  have dw0:=A_ jx
  clear jx
  obtain⟨au7,hyq⟩:∃y_:List Int,y_=(bk6 ++ l1):=⟨_,rfl⟩
  replace H:((some (([au7]:List (List Int)):List (List Int))).bind fun zl=>(if pu.length + zl.length < 5864062014805 then(Fb.j1 kj5 l1 (pu ++ zl) (rd l1 (ji3)) ab aa) else(none)))=some r:=qh_
  have gn3:=A_ hyq
  clear hyq
  obtain⟨zl,hyq⟩:∃y_:List (List Int),y_=(([au7]:List (List Int))):=⟨_,rfl⟩
  replace H:(if pu.length + zl.length < 5864062014805 then(Fb.j1 kj5 l1 (pu ++ zl) (rd l1 (ji3)) ab aa) else(none))=some r:=qh_
  have dw1:=A_ hyq
  clear hyq
  obtain⟨li,H⟩:=pos_ H
  have gn4:=A_ li
  clear li
  obtain⟨gn5,hyq⟩:∃y_:List (List Int),y_=(pu ++ zl):=⟨_,rfl⟩
  replace H:(Fb.j1 kj5 l1 gn5 (rd l1 (ji3)) ab aa)=some r:=qh_
  have gn6:=A_ hyq
  clear hyq
  have H':=A_ H
  clear H
  go_wp2_with (first|((with_reducible refine gd_ 33 ?_);refine rle_ 33 [] ?_;intro ex9 ug qq hb hg_ hnew_;clear hg_ hnew_;(first|rw[<- dv9.out] at qq|(simp only[Int.reduceToNat] at qq;rw[<- dv9.out] at qq));replace fe:=A_ (Kd.N_elder' (uf4_ fe) (Kd.R_base qq) hb);have bx4:=A_ (Kd.R_lower (Kd.R_newM (M:=fun k_=>(w.heap.size<=k_)) qq (G0 (d7)) (fun k_ h_=>h_)) (G0 (d7)));replace br:=bb_ br hb;replace HB:=hs_ (d7) hb;clear hb qq)|((with_reducible refine gate_builtin (b:=.append) (xs:=#[.tmp 33, .tmp 34]) rfl ?_);at_builtin;refine Kd.R_append_rows (Kd.int .i64) (w0:=w) w.heap.size rfl (.tmp 33) (.tmp 34) 22 3 (.int .i64 0) 8 rfl Try.underlying22 info3 rfl (by decide) (by omega) ex9 bk6 l1 _ _ _ (fun k_=>(w.heap.size<=k_)) (fun _=>False) rfl rfl ?aO ?aR (fun _ _ h=>h) (fun _ h=>h.elim) ?aF ?aB ?aS ?aL ?_;(case aR=>exact uf1_ h7);(case aB=>exact(d7));(case aF=>exact(fun k_ hk=>(Nat.le_trans (G0 (d7)) hk)));(case aO=>exact(by(with_reducible repeat(first|apply Kd.R_alloc|apply Kd.R_drewN|apply Kd.R_drew));exact Kd.R_mono bx4.out (fun _ hk=>hk.1)));(case aS=>exact(G0 (d7)));(case aL=>have:=dw0.out;omega);intro ix3 w24 ho hb hg hat;rw[<- gn3.out] at ho;replace fe:=A_ (Kd.N_afterv (ok:=(fun k_=>(w.heap.size<=k_)/\k_≠ee)) (uf4_ fe) hg hat);replace br:=(bg_ br hg (Kd.R_ne bx4.out br.out (by decide)));replace HB:=A_ (hb);have bb9:=A_ (ho);clear bx4;clear ho hb hg hat;obtain⟨bv9,bw0,ci4⟩:=Kd.R_slice bb9.out;subst ci4)|((with_reducible refine gd_ 36 ?_);refine Kd.N_lit (Kd.slice 3 (Kd.int .i64)) _ 22 ?hg (N':=36) ?hd (xs:=([au7]:List (List Int))) (inner:=[.slice bv9 au7.length bw0]) (ok:=(fun k_=>(w.heap.size<=k_)/\some k_≠(tm:Value).ownBlock/\k_≠ee)) (okp:=(fun k_=>(w.heap.size<=k_)/\some k_≠(tm:Value).ownBlock/\k_≠ee)) ?hr ?hp (fun _ hk=>hk) ((show ∀k_,w24.heap.size<=k_->(fun k_=>(w.heap.size<=k_)/\some k_≠(tm:Value).ownBlock/\k_≠ee) k_ from fun k_ hk=>⟨(Nat.le_trans (G0 (d7)) hk),Kd.fresh' (Kd.N_lt (uf4_ fe)) k_ hk,Kd.freshB (g:=ee) (o:=.cells #[.slice ae ab.length ac, .slice ag aa.length af] 25 (0,0)) (uf0_ br) k_ hk⟩) _ (Nat.le_refl _)) (Below.refl _ _) (Nat.le_refl _) (by simp) ?_;(case hd=>rfl);(case hg=>rfl);(case hr=>first|(go_simp;done)|(go_simp;rfl));(case hp=>exact(Reps.one (show Kd.FK (Kd.slice 3 (Kd.int .i64)) _ _ au7 [.slice bv9 au7.length bw0] from(Kd.FK_slice_mk (Kd.R_reads' (Kd.R_mono (ok':=(fun k_=>(w.heap.size<=k_)/\some k_≠(tm:Value).ownBlock/\k_≠ee)) (Kd.R_types (Kd.R_apart' (bb9.out) (Kd.N_typed fe.out) (by decide)) br.out (by decide)) (fun k_ hk=>⟨hk.1.1,⟨hk.1.2,hk.2⟩⟩))).2.1 (Kd.R_F (Kd.R_mono (ok':=(fun k_=>(w.heap.size<=k_)/\some k_≠(tm:Value).ownBlock/\k_≠ee)) (Kd.R_types (Kd.R_apart' (bb9.out) (Kd.N_typed fe.out) (by decide)) br.out (by decide)) (fun k_ hk=>⟨hk.1.1,⟨hk.1.2,hk.2⟩⟩))))) (Reps.none _ _)));intro ix4 w26 qr hb hg_ hnew_;clear hg_ hnew_;(first|rw[<- dw1.out] at qr|(simp only[Int.reduceToNat] at qr;rw[<- dw1.out] at qr));replace fe:=A_ (Kd.N_elder' (uf4_ fe) (Kd.N_base qr) hb);have bc0:=A_ (Kd.N_lower qr (G0 (d7)));replace br:=bb_ br hb;replace HB:=hs_ (d7) hb;clear bb9;clear hb qr;obtain⟨dw2,cj0,bc1⟩:=Kd.N_slice bc0.out;subst bc1)|((with_reducible refine gate_builtin (b:=.append) (xs:=#[.tmp 32, .tmp 36]) rfl ?_);at_builtin;refine Kd.N_append_rows (Kd.slice 3 (Kd.int .i64)) (w0:=w) w.heap.size rfl (.tmp 32) (.tmp 36) 23 22 (.slice none 0 0) 24 rfl Try.underlying23 info22 rfl (by decide) (by omega) tm pu zl _ _ _ (fun k_=>(w.heap.size<=k_)/\k_≠ee) (fun k_=>((fun k_=>(w.heap.size<=k_)/\k_≠ee)) k_/\some k_≠(tm:Value).ownBlock) rfl rfl ?aO ?aR (fun _ hk=>hk) ?aF ?aB ?aS ?aL ?_;(case aR=>exact(by skip;exact Kd.N_F (Kd.N_mono (ok':=(fun k_=>((fun k_=>(w.heap.size<=k_)/\k_≠ee)) k_/\some k_≠(tm:Value).ownBlock)) (bc0.out) (fun k_ hk=>⟨⟨hk.1,hk.2.2⟩,hk.2.1⟩))));(case aB=>exact(d7));(case aF=>exact(fun k_ hk=>⟨(Nat.le_trans (G0 (d7)) hk),Kd.freshB (g:=ee) (o:=.cells #[.slice ae ab.length ac, .slice ag aa.length af] 25 (0,0)) (uf0_ br) k_ hk⟩));(case aO=>exact(by(with_reducible repeat(first|apply Kd.N_alloc|apply Kd.N_drewN|apply Kd.N_drew));exact Kd.N_mono fe.out (fun _ hk=>⟨hk.1.1.1,hk.1.1.2⟩)));(case aS=>exact(G0 (d7)));(case aL=>have:=gn4.out;omega);intro ix5 w28 ho hb hg hat;rw[<- gn6.out] at ho;replace br:=(bg_ br hg (Kd.N_ne fe.out br.out (by decide)));replace bc0:=A_ (Kd.N_afterv (ok:=(fun k_=>(w.heap.size<=k_)/\k_≠ee)) (by(with_reducible repeat(first|apply Kd.N_alloc|apply Kd.N_drewN|apply Kd.N_drew));exact Kd.N_mono bc0.out (fun _ hk=>⟨⟨hk.1,hk.2.2⟩,hk.2.1⟩)) hg hat);replace HB:=A_ (hb);have gn7:=A_ (ho);clear fe;clear ho hb hg hat));(repeat((first|go_step3|rw[Exit.noGoto_normal]|rw[Exit.noGoto_exit]|rw[Exit.noGoto_ret]);go_wp2_with (first|((with_reducible refine gd_ 33 ?_);refine rle_ 33 [] ?_;intro ex9 ug qq hb hg_ hnew_;clear hg_ hnew_;(first|rw[<- dv9.out] at qq|(simp only[Int.reduceToNat] at qq;rw[<- dv9.out] at qq));replace fe:=A_ (Kd.N_elder' (uf4_ fe) (Kd.R_base qq) hb);have bx4:=A_ (Kd.R_lower (Kd.R_newM (M:=fun k_=>(w.heap.size<=k_)) qq (G0 (d7)) (fun k_ h_=>h_)) (G0 (d7)));replace br:=bb_ br hb;replace HB:=hs_ (d7) hb;clear hb qq)|((with_reducible refine gate_builtin (b:=.append) (xs:=#[.tmp 33, .tmp 34]) rfl ?_);at_builtin;refine Kd.R_append_rows (Kd.int .i64) (w0:=w) w.heap.size rfl (.tmp 33) (.tmp 34) 22 3 (.int .i64 0) 8 rfl Try.underlying22 info3 rfl (by decide) (by omega) ex9 bk6 l1 _ _ _ (fun k_=>(w.heap.size<=k_)) (fun _=>False) rfl rfl ?aO ?aR (fun _ _ h=>h) (fun _ h=>h.elim) ?aF ?aB ?aS ?aL ?_;(case aR=>exact uf1_ h7);(case aB=>exact(d7));(case aF=>exact(fun k_ hk=>(Nat.le_trans (G0 (d7)) hk)));(case aO=>exact(by(with_reducible repeat(first|apply Kd.R_alloc|apply Kd.R_drewN|apply Kd.R_drew));exact Kd.R_mono bx4.out (fun _ hk=>hk.1)));(case aS=>exact(G0 (d7)));(case aL=>have:=dw0.out;omega);intro ix3 w24 ho hb hg hat;rw[<- gn3.out] at ho;replace fe:=A_ (Kd.N_afterv (ok:=(fun k_=>(w.heap.size<=k_)/\k_≠ee)) (uf4_ fe) hg hat);replace br:=(bg_ br hg (Kd.R_ne bx4.out br.out (by decide)));replace HB:=A_ (hb);have bb9:=A_ (ho);clear bx4;clear ho hb hg hat;obtain⟨bv9,bw0,ci4⟩:=Kd.R_slice bb9.out;subst ci4)|((with_reducible refine gd_ 36 ?_);refine Kd.N_lit (Kd.slice 3 (Kd.int .i64)) _ 22 ?hg (N':=36) ?hd (xs:=([au7]:List (List Int))) (inner:=[.slice bv9 au7.length bw0]) (ok:=(fun k_=>(w.heap.size<=k_)/\some k_≠(tm:Value).ownBlock/\k_≠ee)) (okp:=(fun k_=>(w.heap.size<=k_)/\some k_≠(tm:Value).ownBlock/\k_≠ee)) ?hr ?hp (fun _ hk=>hk) ((show ∀k_,w24.heap.size<=k_->(fun k_=>(w.heap.size<=k_)/\some k_≠(tm:Value).ownBlock/\k_≠ee) k_ from fun k_ hk=>⟨(Nat.le_trans (G0 (d7)) hk),Kd.fresh' (Kd.N_lt (uf4_ fe)) k_ hk,Kd.freshB (g:=ee) (o:=.cells #[.slice ae ab.length ac, .slice ag aa.length af] 25 (0,0)) (uf0_ br) k_ hk⟩) _ (Nat.le_refl _)) (Below.refl _ _) (Nat.le_refl _) (by simp) ?_;(case hd=>rfl);(case hg=>rfl);(case hr=>first|(go_simp;done)|(go_simp;rfl));(case hp=>exact(Reps.one (show Kd.FK (Kd.slice 3 (Kd.int .i64)) _ _ au7 [.slice bv9 au7.length bw0] from(Kd.FK_slice_mk (Kd.R_reads' (Kd.R_mono (ok':=(fun k_=>(w.heap.size<=k_)/\some k_≠(tm:Value).ownBlock/\k_≠ee)) (Kd.R_types (Kd.R_apart' (bb9.out) (Kd.N_typed fe.out) (by decide)) br.out (by decide)) (fun k_ hk=>⟨hk.1.1,⟨hk.1.2,hk.2⟩⟩))).2.1 (Kd.R_F (Kd.R_mono (ok':=(fun k_=>(w.heap.size<=k_)/\some k_≠(tm:Value).ownBlock/\k_≠ee)) (Kd.R_types (Kd.R_apart' (bb9.out) (Kd.N_typed fe.out) (by decide)) br.out (by decide)) (fun k_ hk=>⟨hk.1.1,⟨hk.1.2,hk.2⟩⟩))))) (Reps.none _ _)));intro ix4 w26 qr hb hg_ hnew_;clear hg_ hnew_;(first|rw[<- dw1.out] at qr|(simp only[Int.reduceToNat] at qr;rw[<- dw1.out] at qr));replace fe:=A_ (Kd.N_elder' (uf4_ fe) (Kd.N_base qr) hb);have bc0:=A_ (Kd.N_lower qr (G0 (d7)));replace br:=bb_ br hb;replace HB:=hs_ (d7) hb;clear bb9;clear hb qr;obtain⟨dw2,cj0,bc1⟩:=Kd.N_slice bc0.out;subst bc1)|((with_reducible refine gate_builtin (b:=.append) (xs:=#[.tmp 32, .tmp 36]) rfl ?_);at_builtin;refine Kd.N_append_rows (Kd.slice 3 (Kd.int .i64)) (w0:=w) w.heap.size rfl (.tmp 32) (.tmp 36) 23 22 (.slice none 0 0) 24 rfl Try.underlying23 info22 rfl (by decide) (by omega) tm pu zl _ _ _ (fun k_=>(w.heap.size<=k_)/\k_≠ee) (fun k_=>((fun k_=>(w.heap.size<=k_)/\k_≠ee)) k_/\some k_≠(tm:Value).ownBlock) rfl rfl ?aO ?aR (fun _ hk=>hk) ?aF ?aB ?aS ?aL ?_;(case aR=>exact(by skip;exact Kd.N_F (Kd.N_mono (ok':=(fun k_=>((fun k_=>(w.heap.size<=k_)/\k_≠ee)) k_/\some k_≠(tm:Value).ownBlock)) (bc0.out) (fun k_ hk=>⟨⟨hk.1,hk.2.2⟩,hk.2.1⟩))));(case aB=>exact(d7));(case aF=>exact(fun k_ hk=>⟨(Nat.le_trans (G0 (d7)) hk),Kd.freshB (g:=ee) (o:=.cells #[.slice ae ab.length ac, .slice ag aa.length af] 25 (0,0)) (uf0_ br) k_ hk⟩));(case aO=>exact(by(with_reducible repeat(first|apply Kd.N_alloc|apply Kd.N_drewN|apply Kd.N_drew));exact Kd.N_mono fe.out (fun _ hk=>⟨hk.1.1.1,hk.1.1.2⟩)));(case aS=>exact(G0 (d7)));(case aL=>have:=gn4.out;omega);intro ix5 w28 ho hb hg hat;rw[<- gn6.out] at ho;replace br:=(bg_ br hg (Kd.N_ne fe.out br.out (by decide)));replace bc0:=A_ (Kd.N_afterv (ok:=(fun k_=>(w.heap.size<=k_)/\k_≠ee)) (by(with_reducible repeat(first|apply Kd.N_alloc|apply Kd.N_drewN|apply Kd.N_drew));exact Kd.N_mono bc0.out (fun _ hk=>⟨⟨hk.1,hk.2.2⟩,hk.2.1⟩)) hg hat);replace HB:=A_ (hb);have gn7:=A_ (ho);clear fe;clear ho hb hg hat))))
  go_meet
  case rel=>exact⟨_,(gn5),H',⟨g85_⟩,⟨uf4_ gn7⟩,⟨uf0_ br⟩,⟨d7⟩⟩
 clear ex8
 obtain⟨kq,dv8,HA,HJ17,fe,br,HB⟩:=hcut
 cases kq with
 | zero=>exact absurd HA.out (by simp[Fb.j1])
 | succ kj17=>?_
 have H:=HA.out
 clear HA
 simp only[Fb.j1] at H
 obtain⟨rh,H⟩:=pos_ H
 have ci6:=decide_eq_true rh
 have ey0:decide (0 < l1.length)=true:=decide_eq_true (by omega)
 clear rh
 have H':=A_ H
 clear H
 have db5:0<=(0:Int):=(by omega)
 have db6:0 < (l1.length:Int):=od_
 obtain⟨ix6,ix7,cj1⟩:=Kd.at_int h7.out 0 db5 db6
 obtain rfl:ci9=ix6:=(by injection ix7)
 have qi251:(0 < l1.length)=True:=eq_true (by omega)
 (try rw[show((0:Int)).toNat=0 from rfl] at cj1)
 (try rw[Addr.add_zero'] at cj1)
 replace cj1:=cl_ HB cj1
 replace db5:=eq_true db5
 replace db6:=eq_true db6
 go_wp2;(repeat((first|go_step3|rw[Exit.noGoto_normal]|rw[Exit.noGoto_exit]|rw[Exit.noGoto_ret]);go_wp2))
 go_loopg [5,7] kj17 (fun kq v5 v7 w'=>∃(od:List (List Int)) (ir:Int),v7 = .int .i64 ir/\Gy (Fb.l0 kq l1 od (rd l1 (ji3)) ir ab aa=some r)/\Gy (kq<=kj17)/\Gy (Kd.N (Kd.slice 3 (Kd.int .i64)) 22 w' w.heap.size (fun k_=>(w.heap.size<=k_)/\k_≠ee) v5 od)/\Gy (hc_ w' ee #[(.slice ae ab.length ac),(.slice ag aa.length af)] 25)/\Gy (Below w.heap.size w w'))
 case atStart=>exact⟨(dv8),(wrap64 ((rd l1 0) + 1)),(g2_),H',⟨Nat.le_refl _⟩,⟨uf4_ fe⟩,⟨uf0_ br⟩,⟨d7⟩⟩
 clear H'
 obtain⟨od,ir,rfl,HA,HK3,fe,br,HB⟩:=hrel
 cases gk with
 | zero=>exact absurd HA.out (by simp[Fb.l0])
 | succ k3=>?_
 have H:=HA.out
 clear HA
 simp only[Fb.l0] at H
 by_cases m9:ir < (ab.length:Int)
 case neg=>
  rw[if_neg m9] at H
  have ad8:=decide_eq_false m9
  clear m9
  obtain rfl:=Option.some.inj H
  obtain⟨go4,go5,go6,go8⟩:=blk2_ br
  go_wp2;(repeat((first|go_step3|rw[Exit.noGoto_normal]|rw[Exit.noGoto_exit]|rw[Exit.noGoto_ret]);go_wp2))
  go_ret
  exact⟨_,g127_,by(with_reducible repeat(first|apply Kd.N_alloc|apply Kd.N_drewN|apply Kd.N_drew));exact Kd.N_mono fe.out (fun _ hk=>hk.1),d7⟩
 rw[if_pos m9] at H
 have ad8:=decide_eq_true m9
 clear m9
 obtain⟨ey1,H⟩:=pd_ H
 obtain⟨dt8,H⟩:=pd_ H
 obtain⟨da6,H⟩:=pd_ H
 obtain⟨db7,H⟩:=pd_ H
 by_cases k9:(rd (Jc aa (rd l1 (ji3))) ir)=0
 ·rw[if_pos k9] at H
  have dw3:((rd (Jc aa (rd l1 (ji3))) ir) == 0)=true:=beq_iff_eq.mpr k9
  have gn9:((rd (Jc aa (rd l1 (ji3))) ir) != 0)=false:=bne_eq_false_iff_eq.mpr k9
  clear k9
  have H':=A_ H
  clear H
  obtain⟨ey2,ey3,ey4,ey5⟩:=blk2_ br
  obtain⟨⟨xb,ix9,iy0,ey6,cj2,db8,db9⟩,bk9,bl0⟩:=rdp_ (at_L1 bf.out (rd l1 (ji3)))
  cases ey6
  replace cj2:=cl_ HB cj2
  have ey7:=A_ db9
  have iy1:=A_ db8
  clear db9 db8
  obtain⟨⟨iy2,ey8,cj3⟩,bl1,bl2⟩:=rdp_ (Kd.at_int ey7.out ir)
  cases ey8
  replace cj3:=cl_ HB cj3
  go_wp2;(repeat((first|go_step3|rw[Exit.noGoto_normal]|rw[Exit.noGoto_exit]|rw[Exit.noGoto_ret]);go_wp2))
  go_roundg k3
  case measure=>have:=HJ5.out;have:=HJ17.out;have:=HK3.out;omega
  case rel=>exact⟨(od),(wrap64 (ir + 1)),(g2_),H',⟨by have:=HJ5.out;have:=HJ17.out;have:=HK3.out;omega⟩,⟨uf4_ fe⟩,⟨uf0_ br⟩,⟨d7⟩⟩
 rw[if_neg k9] at H
 have dw3:((rd (Jc aa (rd l1 (ji3))) ir) == 0)=false:=beq_eq_false_iff_ne.mpr k9
 have gn9:((rd (Jc aa (rd l1 (ji3))) ir) != 0)=true:=bne_iff_ne.mpr k9
 have H':=A_ H
 clear H
 obtain⟨dc0,dc1,dc2,dc3⟩:=blk2_ br
 obtain⟨⟨xb,ix9,iy0,ey6,cj2,db8,db9⟩,bk9,bl0⟩:=rdp_ (at_L1 bf.out (rd l1 (ji3)))
 cases ey6
 replace cj2:=cl_ HB cj2
 have ey7:=A_ db9
 have iy1:=A_ db8
 clear db9 db8
 obtain⟨⟨iy2,ey8,cj3⟩,bl1,bl2⟩:=rdp_ (Kd.at_int ey7.out ir)
 cases ey8
 replace cj3:=cl_ HB cj3
 go_wp2;(repeat((first|go_step3|rw[Exit.noGoto_normal]|rw[Exit.noGoto_exit]|rw[Exit.noGoto_ret]);go_wp2))
 go_loopg [8] k3 (fun kq v8 w'=>∃(vt:Int),v8 = .int .i64 vt/\Gy (Fb.l1 kq l1 od (rd l1 (ji3)) ir vt ab aa=some r)/\Gy (kq<=k3)/\Gy (Kd.N (Kd.slice 3 (Kd.int .i64)) 22 w' w.heap.size (fun k_=>(w.heap.size<=k_)/\k_≠ee) u5 od)/\Gy (hc_ w' ee #[(.slice ae ab.length ac),(.slice (some xb) aa.length af)] 25)/\Gy (Below w.heap.size w w'))
 case atStart=>exact⟨(0),(g2_),H',⟨Nat.le_refl _⟩,⟨uf4_ fe⟩,⟨uf0_ br⟩,⟨d7⟩⟩
 clear H'
 obtain⟨vt,rfl,HA,HK4,fe,br,HB⟩:=hrel
 cases gk with
 | zero=>exact absurd HA.out (by simp[Fb.l1])
 | succ k4=>?_
 have H:=HA.out
 clear HA
 simp only[Fb.l1] at H
 by_cases tn:vt < (l1.length:Int)
 ·rw[if_pos tn] at H
  have ey9:=decide_eq_true tn
  clear tn
  obtain⟨go0,H⟩:=pd_ H
  by_cases lw:(rd l1 vt)=ir
  ·rw[if_pos lw] at H
   have bl3:((rd l1 vt) == ir)=true:=beq_iff_eq.mpr lw
   have cj4:((rd l1 vt) != ir)=false:=bne_eq_false_iff_eq.mpr lw
   clear lw
   have H':=A_ H
   clear H
   obtain⟨⟨ez0,ez1,dc4⟩,bx5,bx6⟩:=rdp_ (Kd.at_int h7.out vt)
   obtain rfl:ci9=ez0:=(by injection ez1)
   replace dc4:=cl_ HB dc4
   go_wp2;(repeat((first|go_step3|rw[Exit.noGoto_normal]|rw[Exit.noGoto_exit]|rw[Exit.noGoto_ret]);go_wp2))
   go_roundg k4
   case measure=>have:=HJ5.out;have:=HJ17.out;have:=HK3.out;have:=HK4.out;omega
   case rel=>exact⟨(od),(wrap64 (ir + 1)),(g2_),H',⟨g94_⟩,⟨uf4_ fe⟩,⟨uf0_ br⟩,⟨d7⟩⟩
  rw[if_neg lw] at H
  have bl3:((rd l1 vt) == ir)=false:=beq_eq_false_iff_ne.mpr lw
  have cj4:((rd l1 vt) != ir)=true:=bne_iff_ne.mpr lw
  have H':=A_ H
  clear H
  obtain⟨⟨ez0,ez1,dc4⟩,bx5,bx6⟩:=rdp_ (Kd.at_int h7.out vt)
  obtain rfl:ci9=ez0:=(by injection ez1)
  replace dc4:=cl_ HB dc4
  go_wp2;(repeat((first|go_step3|rw[Exit.noGoto_normal]|rw[Exit.noGoto_exit]|rw[Exit.noGoto_ret]);go_wp2))
  go_roundg k4
  case measure=>have:=HJ5.out;have:=HJ17.out;have:=HK3.out;have:=HK4.out;omega
  case rel=>exact⟨(wrap64 (vt + 1)),(g2_),H',⟨g94_⟩,⟨uf4_ fe⟩,⟨uf0_ br⟩,⟨d7⟩⟩
 rw[if_neg tn] at H
 have ey9:=decide_eq_false tn
 clear tn
 obtain⟨bb6,hyq⟩:∃y_:List Int,y_=(([]:List Int)):=⟨_,rfl⟩
 replace H:(if bb6.length + l1.length < 17592186044416 then((some (bb6 ++ l1:List Int)).bind fun zm=>((some (([ir]:List Int):List Int)).bind fun pt=>(if zm.length + pt.length < 17592186044416 then((Fb.f k4 ab aa (zm ++ pt)).bind fun tl=>(if od.length + tl.length < 5864062014805 then(Fb.l0 k4 l1 (od ++ tl) (rd l1 (ji3)) (wrap64 (ir + 1)) ab aa) else(none))) else(none)))) else(none))=some r:=qh_
 have dw4:=A_ hyq
 clear hyq
 obtain⟨c42,H⟩:=pos_ H
 have ez2:=A_ c42
 clear c42
 obtain⟨zm,hyq⟩:∃y_:List Int,y_=(bb6 ++ l1):=⟨_,rfl⟩
 replace H:((some (([ir]:List Int):List Int)).bind fun pt=>(if zm.length + pt.length < 17592186044416 then((Fb.f k4 ab aa (zm ++ pt)).bind fun tl=>(if od.length + tl.length < 5864062014805 then(Fb.l0 k4 l1 (od ++ tl) (rd l1 (ji3)) (wrap64 (ir + 1)) ab aa) else(none))) else(none)))=some r:=qh_
 have ez3:=A_ hyq
 clear hyq
 obtain⟨pt,hyq⟩:∃y_:List Int,y_=(([ir]:List Int)):=⟨_,rfl⟩
 replace H:(if zm.length + pt.length < 17592186044416 then((Fb.f k4 ab aa (zm ++ pt)).bind fun tl=>(if od.length + tl.length < 5864062014805 then(Fb.l0 k4 l1 (od ++ tl) (rd l1 (ji3)) (wrap64 (ir + 1)) ab aa) else(none))) else(none))=some r:=qh_
 have cj5:=A_ hyq
 clear hyq
 obtain⟨c43,H⟩:=pos_ H
 have iy3:=A_ c43
 clear c43
 obtain⟨bl4,hyq⟩:∃y_:List Int,y_=(zm ++ pt):=⟨_,rfl⟩
 replace H:((Fb.f k4 ab aa bl4).bind fun tl=>(if od.length + tl.length < 5864062014805 then(Fb.l0 k4 l1 (od ++ tl) (rd l1 (ji3)) (wrap64 (ir + 1)) ab aa) else(none)))=some r:=qh_
 have iy4:=A_ hyq
 clear hyq
 obtain⟨tl,A44,H⟩:=bind_ H
 obtain⟨c45,H⟩:=pos_ H
 have ez4:=A_ c45
 clear c45
 obtain⟨go1,hyq⟩:∃y_:List (List Int),y_=(od ++ tl):=⟨_,rfl⟩
 replace H:(Fb.l0 k4 l1 go1 (rd l1 (ji3)) (wrap64 (ir + 1)) ab aa)=some r:=qh_
 have iy5:=A_ hyq
 clear hyq
 have H':=A_ H
 clear H
 obtain⟨cj6,cj7,iy6⟩:=Kd.N_slice fe.out
 subst iy6
 try go_wp2
 replace fe:=nd_ fe
 replace br:=bd_ br
 replace HB:=A_ (G2 HB.out)
 refine start_ (n:=11) (S:=fun w'=>w'.cell? ⟨ee,0,none⟩=some (.slice ae ab.length ac)/\w'.cell? ⟨ee,1,none⟩=some (.slice (some xb) aa.length af)) (ds:=[]) (tl_ 11 0) (g1_) rfl (g1_) ⟨(Gz br.out 0).trans rfl,(Gz br.out 1).trans rfl⟩ (fun hHeld=>?_);refine Jm Fb.tab13 Fb.bits13 (fun HT_ HW_=>?_)
 generalize wr.drew=w47 at fe br HB hHeld |-
 refine pw_ 0 70 (tl_ 11 1) ?_
 refine pw_ 3 73 (tl_ 11 9) ?_
 refine pw_ 5 75 (tl_ 11 41) ?_
 refine tk7_ 1 71 (tl_ 11 43) hHeld ?_
 refine join_ (σ:=Value × Value × Value) 4 (tl_ 11 127) (fun s_=>[(72,s_.1),(74,s_.2.1),(76,s_.2.2)]) (fun s_ w'=>(w'.cell? ⟨ee,0,none⟩=some (.slice ae ab.length ac)/\w'.cell? ⟨ee,1,none⟩=some (.slice (some xb) aa.length af))/\(Kd.R (Kd.int .i64) 3 w' w.heap.size (fun k_=>(w.heap.size<=k_)/\some k_≠(s_.2.2:Value).ownBlock) s_.2.1 zm)/\(Kd.R (Kd.int .i64) 3 w' w.heap.size (fun k_=>(w.heap.size<=k_)/\some k_≠(s_.2.1:Value).ownBlock) s_.2.2 pt)/\(Kd.N (Kd.slice 3 (Kd.int .i64)) 22 w' w.heap.size (fun k_=>(w.heap.size<=k_)/\some k_≠(s_.2.1:Value).ownBlock/\some k_≠(s_.2.2:Value).ownBlock/\k_≠ee) (.slice cj6 od.length cj7) od)/\(hc_ w' ee #[.slice ae ab.length ac, .slice (some xb) aa.length af] 25)/\(Below w.heap.size w w')) ?_ ?_
 rotate_left
 ·intro hCont
  refine two_ (i:=2) (j:=6) (Ni:=some 72) (Nj:=some 76) (tl_ 11 47) (tl_ 11 107) rfl rfl rfl rfl (two_of HT_.out (g1_)) (by decide) (by decide) (fun K hK=>?_) (fun K hK=>?_)
  ·skip
   refine rls_ 72 [] ?_
   intro bl5 w48 ae1 hb hg_ hnew_
   clear hg_ hnew_
   (first|rw[<- dw4.out] at ae1|(simp only[Int.reduceToNat] at ae1;rw[<- dw4.out] at ae1))
   replace fe:=A_ (Kd.N_elder' (uf4_ fe) (Kd.R_base ae1) hb)
   have ae2:=A_ (Kd.R_lower (Kd.R_newM (M:=fun k_=>(w.heap.size<=k_)) ae1 (G0 (d7)) (fun k_ h_=>h_)) (G0 (d7)))
   replace br:=bb_ br hb
   replace HB:=hs_ (d7) hb
   clear hb ae1
   refine hK.out _ _ ⟨(Gz br.out 0).trans rfl,(Gz br.out 1).trans rfl⟩ (fun hHeld=>?_)
   clear hK K
   refine nm_ ?_
   refine two_ (i:=4) (j:=6) (Ni:=some 74) (Nj:=some 76) (tl_ 11 63) (tl_ 11 111) rfl rfl rfl rfl (two_of HT_.out (g1_)) (by decide) (by decide) (fun K hK=>?_) (fun K hK=>?_)
   ·skip
    refine Kd.R_append_rows_step (Kd.int .i64) (w0:=w) w.heap.size (by rfl) (.tmp 72) (.tmp 73) 22 3 (.int .i64 0) 8 rfl Try.underlying22 info3 rfl (by decide) (by omega) bl5 bb6 l1 _ _ _ (fun k_=>(w.heap.size<=k_)) (fun _=>False) rfl rfl ?aO ?aR (fun _ _ h=>h) (fun _ h=>h.elim) ?aF ?aB ?aS ?aL ?_
    (case aR=>exact uf1_ h7)
    (case aB=>exact(d7))
    (case aF=>exact(fun k_ hk=>(Nat.le_trans (G0 (d7)) hk)))
    (case aO=>exact(by(with_reducible repeat(first|apply Kd.R_alloc|apply Kd.R_drewN|apply Kd.R_drew));exact Kd.R_mono ae2.out (fun _ hk=>hk.1)))
    (case aS=>exact(G0 (d7)))
    (case aL=>have:=ez2.out;omega)
    intro au8 w50 ho hb hg hat
    rw[<- ez3.out] at ho
    replace fe:=A_ (Kd.N_afterv (ok:=(fun k_=>(w.heap.size<=k_)/\k_≠ee)) (uf4_ fe) hg hat)
    replace br:=(bg_ br hg (Kd.R_ne ae2.out br.out (by decide)))
    replace HB:=A_ (hb)
    have ah7:=A_ (ho)
    clear ae2
    clear ho hb hg hat
    refine hK.out _ _ ⟨(Gz br.out 0).trans rfl,(Gz br.out 1).trans rfl⟩ (fun hHeld=>?_)
    clear hK K
    refine nm_ ?_
    refine one_ (i:=6) (N:=some 76) (tl_ 11 127) rfl rfl (Jo HT_.out (g1_)) (by decide) (fun K hK=>?_)
    refine rls_ 76 [ir] ?_
    intro ae3 w51 bx7 hb hg_ hnew_
    clear hg_ hnew_
    (first|rw[<- cj5.out] at bx7|(simp only[Int.reduceToNat] at bx7;rw[<- cj5.out] at bx7))
    replace fe:=A_ (Kd.N_elder' (uf4_ fe) (Kd.R_base bx7) hb)
    have oy:=A_ (Kd.R_lower (Kd.R_new' (Kd.R_newM (M:=fun k_=>(w.heap.size<=k_)) bx7 (G0 (d7)) (fun k_ h_=>h_)) (Kd.R_lt (uf2_ ah7))) (G0 (d7)))
    replace ah7:=A_ (Kd.R_elder' (uf2_ ah7) (Kd.R_base bx7) hb)
    replace br:=bb_ br hb
    replace HB:=hs_ (d7) hb
    clear hb bx7
    refine hK.out _ _ ⟨(Gz br.out 0).trans rfl,(Gz br.out 1).trans rfl⟩ (fun hHeld=>?_)
    clear hK K
    refine nm_ ?_
    exact norm_ (g19_) (hCont (bl5,au8,ae3) _ ⟨hHeld,(uf2_ ah7),(g126_),(by(with_reducible repeat(first|apply Kd.N_alloc|apply Kd.N_drewN|apply Kd.N_drew));exact Kd.N_mono fe.out (fun _ hk=>⟨hk.1.1.1,⟨hk.1.2,⟨hk.2,hk.1.1.2⟩⟩⟩)),(uf0_ br),(d7)⟩)
   skip
   refine rls_ 76 [ir] ?_
   intro ae3 w50 xc hb hg_ hnew_
   clear hg_ hnew_
   (first|rw[<- cj5.out] at xc|(simp only[Int.reduceToNat] at xc;rw[<- cj5.out] at xc))
   replace fe:=A_ (Kd.N_elder' (uf4_ fe) (Kd.R_base xc) hb)
   have oy:=A_ (Kd.R_lower (Kd.R_new' (Kd.R_newM (M:=fun k_=>(w.heap.size<=k_)) xc (G0 (d7)) (fun k_ h_=>h_)) (Kd.R_lt (uf2_ ae2))) (G0 (d7)))
   replace ae2:=A_ (Kd.R_elder' (uf2_ ae2) (Kd.R_base xc) hb)
   replace br:=bb_ br hb
   replace HB:=hs_ (d7) hb
   clear hb xc
   refine hK.out _ _ ⟨(Gz br.out 0).trans rfl,(Gz br.out 1).trans rfl⟩ (fun hHeld=>?_)
   clear hK K
   refine nm_ ?_
   refine one_ (i:=4) (N:=some 74) (tl_ 11 127) rfl rfl (Jo HT_.out (g1_)) (by decide) (fun K hK=>?_)
   refine Kd.R_append_rows_step (Kd.int .i64) (w0:=w) w.heap.size (by rfl) (.tmp 72) (.tmp 73) 22 3 (.int .i64 0) 8 rfl Try.underlying22 info3 rfl (by decide) (by omega) bl5 bb6 l1 _ _ _ (fun k_=>(w.heap.size<=k_)/\some k_≠(ae3:Value).ownBlock) (fun _=>False) rfl rfl ?aO ?aR (fun _ _ h=>h) (fun _ h=>h.elim) ?aF ?aB ?aS ?aL ?_
   (case aR=>exact uf1_ h7)
   (case aB=>exact(d7))
   (case aF=>exact(fun k_ hk=>⟨(Nat.le_trans (G0 (d7)) hk),Kd.fresh' (Kd.R_lt (uf2_ oy)) k_ hk⟩))
   (case aO=>exact(by(with_reducible repeat(first|apply Kd.R_alloc|apply Kd.R_drewN|apply Kd.R_drew));exact Kd.R_mono ae2.out (fun _ hk=>⟨hk.1.1,hk.2⟩)))
   (case aS=>exact(G0 (d7)))
   (case aL=>have:=ez2.out;omega)
   intro au8 w52 ho hb hg hat
   rw[<- ez3.out] at ho
   replace fe:=A_ (Kd.N_afterv (ok:=(fun k_=>(w.heap.size<=k_)/\some k_≠(ae3:Value).ownBlock/\k_≠ee)) (by(with_reducible repeat(first|apply Kd.N_alloc|apply Kd.N_drewN|apply Kd.N_drew));exact Kd.N_mono fe.out (fun _ hk=>⟨⟨hk.1.1.1,⟨hk.2,hk.1.1.2⟩⟩,hk.1.2⟩)) hg hat)
   replace br:=(bg_ br hg (Kd.R_ne ae2.out br.out (by decide)))
   replace oy:=A_ (Kd.R_after (ok:=(fun k_=>(w.heap.size<=k_))) (g126_) hg hat)
   replace HB:=A_ (hb)
   have ah7:=A_ (ho)
   clear ae2
   clear ho hb hg hat
   refine hK.out _ _ ⟨(Gz br.out 0).trans rfl,(Gz br.out 1).trans rfl⟩ (fun hHeld=>?_)
   clear hK K
   refine nm_ ?_
   exact norm_ (g19_) (hCont (bl5,au8,ae3) _ ⟨hHeld,(uf2_ ah7),(uf2_ oy),(by(with_reducible repeat(first|apply Kd.N_alloc|apply Kd.N_drewN|apply Kd.N_drew));exact Kd.N_mono fe.out (fun _ hk=>⟨hk.1.1,⟨hk.2,⟨hk.1.2.1,hk.1.2.2⟩⟩⟩)),(uf0_ br),(d7)⟩)
  skip
  refine rls_ 76 [ir] ?_
  intro ae3 w48 ae1 hb hg_ hnew_
  clear hg_ hnew_
  (first|rw[<- cj5.out] at ae1|(simp only[Int.reduceToNat] at ae1;rw[<- cj5.out] at ae1))
  replace fe:=A_ (Kd.N_elder' (uf4_ fe) (Kd.R_base ae1) hb)
  have oy:=A_ (Kd.R_lower (Kd.R_newM (M:=fun k_=>(w.heap.size<=k_)) ae1 (G0 (d7)) (fun k_ h_=>h_)) (G0 (d7)))
  replace br:=bb_ br hb
  replace HB:=hs_ (d7) hb
  clear hb ae1
  refine hK.out _ _ ⟨(Gz br.out 0).trans rfl,(Gz br.out 1).trans rfl⟩ (fun hHeld=>?_)
  clear hK K
  refine nm_ ?_
  refine one_ (i:=2) (N:=some 72) (tl_ 11 111) rfl rfl (Jo HT_.out (g1_)) (by decide) (fun K hK=>?_)
  refine rls_ 72 [] ?_
  intro bl5 w50 xc hb hg_ hnew_
  clear hg_ hnew_
  (first|rw[<- dw4.out] at xc|(simp only[Int.reduceToNat] at xc;rw[<- dw4.out] at xc))
  replace fe:=A_ (Kd.N_elder' (uf4_ fe) (Kd.R_base xc) hb)
  have ae2:=A_ (Kd.R_lower (Kd.R_new' (Kd.R_newM (M:=fun k_=>(w.heap.size<=k_)) xc (G0 (d7)) (fun k_ h_=>h_)) (Kd.R_lt (uf2_ oy))) (G0 (d7)))
  replace oy:=A_ (Kd.R_elder' (uf2_ oy) (Kd.R_base xc) hb)
  replace br:=bb_ br hb
  replace HB:=hs_ (d7) hb
  clear hb xc
  refine hK.out _ _ ⟨(Gz br.out 0).trans rfl,(Gz br.out 1).trans rfl⟩ (fun hHeld=>?_)
  clear hK K
  refine nm_ ?_
  refine one_ (i:=4) (N:=some 74) (tl_ 11 127) rfl rfl (Jo HT_.out (g1_)) (by decide) (fun K hK=>?_)
  refine Kd.R_append_rows_step (Kd.int .i64) (w0:=w) w.heap.size (by rfl) (.tmp 72) (.tmp 73) 22 3 (.int .i64 0) 8 rfl Try.underlying22 info3 rfl (by decide) (by omega) bl5 bb6 l1 _ _ _ (fun k_=>(w.heap.size<=k_)/\some k_≠(ae3:Value).ownBlock) (fun _=>False) rfl rfl ?aO ?aR (fun _ _ h=>h) (fun _ h=>h.elim) ?aF ?aB ?aS ?aL ?_
  (case aR=>exact uf1_ h7)
  (case aB=>exact(d7))
  (case aF=>exact(fun k_ hk=>⟨(Nat.le_trans (G0 (d7)) hk),Kd.fresh' (Kd.R_lt (uf2_ oy)) k_ hk⟩))
  (case aO=>exact(by(with_reducible repeat(first|apply Kd.R_alloc|apply Kd.R_drewN|apply Kd.R_drew));exact Kd.R_mono ae2.out (fun _ hk=>⟨hk.1.1,hk.2⟩)))
  (case aS=>exact(G0 (d7)))
  (case aL=>have:=ez2.out;omega)
  intro au8 w52 ho hb hg hat
  rw[<- ez3.out] at ho
  replace fe:=A_ (Kd.N_afterv (ok:=(fun k_=>(w.heap.size<=k_)/\some k_≠(ae3:Value).ownBlock/\k_≠ee)) (by(with_reducible repeat(first|apply Kd.N_alloc|apply Kd.N_drewN|apply Kd.N_drew));exact Kd.N_mono fe.out (fun _ hk=>⟨⟨hk.1.1.1,⟨hk.1.2,hk.1.1.2⟩⟩,hk.2⟩)) hg hat)
  replace br:=(bg_ br hg (Kd.R_ne ae2.out br.out (by decide)))
  replace oy:=A_ (Kd.R_after (ok:=(fun k_=>(w.heap.size<=k_))) (g126_) hg hat)
  replace HB:=A_ (hb)
  have ah7:=A_ (ho)
  clear ae2
  clear ho hb hg hat
  refine hK.out _ _ ⟨(Gz br.out 0).trans rfl,(Gz br.out 1).trans rfl⟩ (fun hHeld=>?_)
  clear hK K
  refine nm_ ?_
  exact norm_ (g19_) (hCont (bl5,au8,ae3) _ ⟨hHeld,(uf2_ ah7),(uf2_ oy),(by(with_reducible repeat(first|apply Kd.N_alloc|apply Kd.N_drewN|apply Kd.N_drew));exact Kd.N_mono fe.out (fun _ hk=>⟨hk.1.1,⟨hk.2,⟨hk.1.2.1,hk.1.2.2⟩⟩⟩)),(uf0_ br),(d7)⟩)
 rintro⟨bl5,au8,ae3⟩ zk ⟨hS_,h0_,h1_,h2_,h3_,h4_⟩
 have ah7:Gy (Kd.R (Kd.int .i64) 3 zk w.heap.size (fun k_=>(w.heap.size<=k_)/\some k_≠(ae3:Value).ownBlock) au8 zm):=⟨h0_⟩
 have oy:Gy (Kd.R (Kd.int .i64) 3 zk w.heap.size (fun k_=>(w.heap.size<=k_)/\some k_≠(au8:Value).ownBlock) ae3 pt):=⟨h1_⟩
 replace fe:Gy (Kd.N (Kd.slice 3 (Kd.int .i64)) 22 zk w.heap.size (fun k_=>(w.heap.size<=k_)/\some k_≠(au8:Value).ownBlock/\some k_≠(ae3:Value).ownBlock/\k_≠ee) (.slice cj6 od.length cj7) od):=⟨h2_⟩
 replace br:Gy (hc_ zk ee #[.slice ae ab.length ac, .slice (some xb) aa.length af] 25):=⟨h3_⟩
 replace HB:Gy (Below w.heap.size w zk):=⟨h4_⟩
 clear h0_ h1_ h2_ h3_ h4_
 have hHeld:zk.cell? ⟨ee,0,none⟩=some (.slice ae ab.length ac)/\zk.cell? ⟨ee,1,none⟩=some (.slice (some xb) aa.length af):=hS_
 obtain⟨ah8,ah9,dc5⟩:=Kd.R_slice oy.out
 (first|subst dc5|(injection dc5 with f1_ f2_ f3_;have f4_:=f1_.symm;have f5_:=f3_.symm;clear f1_ f2_ f3_;subst f4_;subst f5_))
 refine norm_ (a':=?_) ?_ ?_
 rotate_left
 ·simp only[putAll,Act.put,List.setIfInBounds_toArray,List.set_cons_zero,List.set_cons_succ]
  rfl
 refine one_ (i:=7) (N:=some 77) (tl_ 11 255) rfl rfl (Jo HT_.out (g1_)) (by decide) (fun K hK=>?_)
 refine Kd.R_append_rows_step (Kd.int .i64) (w0:=w) w.heap.size (by rfl) (.tmp 74) (.tmp 76) 22 3 (.int .i64 0) 8 rfl Try.underlying22 info3 rfl (by decide) (by omega) au8 zm pt _ _ _ (fun k_=>(w.heap.size<=k_)/\some k_≠(.slice ah8 pt.length ah9:Value).ownBlock) (fun _=>False) rfl rfl ?aO ?aR (fun _ _ h=>h) (fun _ h=>h.elim) ?aF ?aB ?aS ?aL ?_
 (case aR=>repeat(first|exact(Kd.R_reads' oy.out).2.2|(with_reducible refine Kd.C_alloc ?_ _)|(with_reducible refine Kd.C_drewN ?_ _)|(with_reducible refine Kd.C_drew ?_)))
 (case aB=>exact(d7))
 (case aF=>exact(fun k_ hk=>⟨(Nat.le_trans (G0 (d7)) hk),Kd.fresh' (Kd.R_lt (uf2_ oy)) k_ hk⟩))
 (case aO=>exact(uf2_ ah7))
 (case aS=>exact(G0 (d7)))
 (case aL=>have:=iy3.out;omega)
 intro lr4 w54 ho hb hg hat
 rw[<- iy4.out] at ho
 replace fe:=A_ (Kd.N_afterv (ok:=(fun k_=>(w.heap.size<=k_)/\some k_≠(.slice ah8 pt.length ah9:Value).ownBlock/\k_≠ee)) (by(with_reducible repeat(first|apply Kd.N_alloc|apply Kd.N_drewN|apply Kd.N_drew));exact Kd.N_mono fe.out (fun _ hk=>⟨⟨hk.1,⟨hk.2.2.1,hk.2.2.2⟩⟩,hk.2.1⟩)) hg hat)
 replace br:=(bg_ br hg (Kd.R_ne ah7.out br.out (by decide)))
 replace oy:=A_ (Kd.R_after (ok:=(fun k_=>(w.heap.size<=k_))) (uf2_ oy) hg hat)
 replace HB:=A_ (hb)
 have bc2:=A_ (ho)
 clear ah7
 clear ho hb hg hat
 obtain⟨cj8,cj9,go2⟩:=Kd.R_slice bc2.out
 (first|subst go2|(injection go2 with f1_ f2_ f3_;have f4_:=f1_.symm;have f5_:=f3_.symm;clear f1_ f2_ f3_;subst f4_;subst f5_))
 refine hK.out _ _ ⟨(Gz br.out 0).trans rfl,(Gz br.out 1).trans rfl⟩ (fun hHeld=>?_)
 clear hK K
 refine nm_ ?_
 refine one_ (i:=8) (N:=some 78) (tl_ 11 511) rfl rfl (Jo HT_.out (g1_)) (by decide) (fun K hK=>?_)
 refine goes_ Try.func113 (g1_) rfl #[.agg #[.slice ae ab.length ac, .slice (some xb) aa.length af], .slice cj8 bl4.length cj9] (by rfl) rfl rfl (g3_) ?_
 with_reducible refine(ih k4 (g94_) _ _ ab _ _ aa _ _ bl4 tl _ ?side1 ?side2 ?side3 ?side4 ?side5 ?side6 A44.out).mono ?_
 (case side1=>exact uf1_ bu)
 (case side2=>exact cq.out)
 (case side3=>exact uf1_ bf)
 (case side4=>exact cu.out)
 (case side5=>exact cR_ bc2)
 (case side6=>exact lR_ bc2)
 rintro e w57 ⟨lr5,rfl,aj,hb⟩
 refine⟨_,rfl,?_⟩
 have dw5:=A_ (Kd.N_lower (Kd.N_mono (ok':=fun k_=>(w.heap.size<=k_)/\some k_≠(.slice cj6 od.length cj7:Value).ownBlock/\some k_≠(.slice ah8 pt.length ah9:Value).ownBlock/\some k_≠(.slice cj8 bl4.length cj9:Value).ownBlock/\k_≠ee) aj (fun k_ hk_=>⟨(Nat.le_trans (G0 (d7)) hk_),(Kd.fresh' (Kd.N_lt (uf4_ fe)) k_ hk_),(Kd.fresh' (Kd.R_lt (uf2_ oy)) k_ hk_),(Kd.fresh' (Kd.R_lt (uf2_ bc2)) k_ hk_),(Kd.freshB (g:=ee) (o:=.cells #[.slice ae ab.length ac, .slice (some xb) aa.length af] 25 (0,0)) (uf0_ br) k_ hk_)⟩)) (G0 (d7)))
 replace fe:=A_ (Kd.N_elder' (uf4_ fe) (Kd.N_base aj) hb)
 replace oy:=rb_ oy hb
 replace bc2:=rb_ bc2 hb
 replace br:=bb_ br hb
 replace HB:=hs_ (d7) hb
 obtain⟨lr6,lr7,go3⟩:=Kd.N_slice dw5.out
 (first|subst go3|(injection go3 with f1_ f2_ f3_;have f4_:=f1_.symm;have f5_:=f3_.symm;clear f1_ f2_ f3_;subst f4_;subst f5_))
 refine hK.out _ _ ⟨(Gz br.out 0).trans rfl,(Gz br.out 1).trans rfl⟩ (fun hHeld=>?_)
 clear hK K
 refine nm_ ?_
 refine one_ (i:=9) (N:=some 79) (tl_ 11 1023) rfl rfl (Jo HT_.out (g1_)) (by decide) (fun K hK=>?_)
 refine Kd.N_append_rows_step (Kd.slice 3 (Kd.int .i64)) (w0:=w) w.heap.size (by rfl) (.tmp 70) (.tmp 78) 23 22 (.slice none 0 0) 24 rfl Try.underlying23 info22 rfl (by decide) (by omega) (.slice cj6 od.length cj7) od tl _ _ _ (fun k_=>(w.heap.size<=k_)/\some k_≠(.slice ah8 pt.length ah9:Value).ownBlock/\some k_≠(.slice cj8 bl4.length cj9:Value).ownBlock/\k_≠ee) (fun k_=>((fun k_=>(w.heap.size<=k_)/\some k_≠(.slice ah8 pt.length ah9:Value).ownBlock/\some k_≠(.slice cj8 bl4.length cj9:Value).ownBlock/\k_≠ee)) k_/\some k_≠(.slice cj6 od.length cj7:Value).ownBlock) rfl rfl ?aO ?aR (fun _ hk=>hk) ?aF ?aB ?aS ?aL ?_
 (case aR=>exact(by skip;exact Kd.N_F (Kd.N_mono (ok':=(fun k_=>((fun k_=>(w.heap.size<=k_)/\some k_≠(.slice ah8 pt.length ah9:Value).ownBlock/\some k_≠(.slice cj8 bl4.length cj9:Value).ownBlock/\k_≠ee)) k_/\some k_≠(.slice cj6 od.length cj7:Value).ownBlock)) (dw5.out) (fun k_ hk=>⟨⟨hk.1,⟨hk.2.2.1,⟨hk.2.2.2.1,hk.2.2.2.2⟩⟩⟩,hk.2.1⟩))))
 (case aB=>exact(d7))
 (case aF=>exact(fun k_ hk=>⟨(Nat.le_trans (G0 (d7)) hk),Kd.fresh' (Kd.R_lt (uf2_ oy)) k_ hk,Kd.fresh' (Kd.R_lt (uf2_ bc2)) k_ hk,Kd.freshB (g:=ee) (o:=.cells #[.slice ae ab.length ac, .slice (some xb) aa.length af] 25 (0,0)) (uf0_ br) k_ hk⟩))
 (case aO=>exact(by(with_reducible repeat(first|apply Kd.N_alloc|apply Kd.N_drewN|apply Kd.N_drew));exact Kd.N_mono fe.out (fun _ hk=>⟨hk.1.1.1,⟨hk.1.1.2.1,⟨hk.1.2,hk.1.1.2.2⟩⟩⟩)))
 (case aS=>exact(G0 (d7)))
 (case aL=>have:=ez4.out;omega)
 intro lr8 w58 ho hb hg hat
 rw[<- iy5.out] at ho
 replace br:=(bg_ br hg (Kd.N_ne fe.out br.out (by decide)))
 replace oy:=A_ (Kd.R_over' (uf2_ oy) (Kd.N_typed (uf4_ fe)) (by decide) hg)
 replace bc2:=A_ (Kd.R_over' (uf2_ bc2) (Kd.N_typed (uf4_ fe)) (by decide) hg)
 replace dw5:=A_ (Kd.N_afterv (ok:=(fun k_=>(w.heap.size<=k_)/\some k_≠(.slice ah8 pt.length ah9:Value).ownBlock/\some k_≠(.slice cj8 bl4.length cj9:Value).ownBlock/\k_≠ee)) (by(with_reducible repeat(first|apply Kd.N_alloc|apply Kd.N_drewN|apply Kd.N_drew));exact Kd.N_mono dw5.out (fun _ hk=>⟨⟨hk.1,⟨hk.2.2.1,⟨hk.2.2.2.1,hk.2.2.2.2⟩⟩⟩,hk.2.1⟩)) hg hat)
 replace HB:=A_ (hb)
 have iy7:=A_ (ho)
 clear fe
 clear ho hb hg hat
 refine hK.out _ _ ⟨(Gz br.out 0).trans rfl,(Gz br.out 1).trans rfl⟩ (fun hHeld=>?_)
 clear hK K
 refine nm_ ?_
 refine pw_ 10 5 (tl_ 11 2047) ?_
 refine done_ (done_of HT_.out (g1_)) ?_
 try go_wp2
 go_roundg k4
 case measure=>have:=HJ5.out;have:=HJ17.out;have:=HK3.out;have:=HK4.out;omega
 case rel=>exact⟨(go1),(wrap64 (ir + 1)),(g2_),H',⟨g94_⟩,⟨by(with_reducible repeat(first|apply Kd.N_alloc|apply Kd.N_drewN|apply Kd.N_drew));exact Kd.N_mono iy7.out (fun _ hk=>⟨hk.1,hk.2.2.2⟩)⟩,⟨uf0_ br⟩,⟨d7⟩⟩
def Ga.l0:Nat->List Int->List Int->Int->Option (Bool)
 | 0,_,_,_=>none
 | k + 1,x0,x1,x5=>if x5 < (x0.length:Int) then(if 0<=x5 then(if x5 < (x1.length:Int) then(if (rd x0 x5)=(rd x1 x5) then(Ga.l0 k x0 x1 (wrap64 (x5 + 1))) else(some (decide ((rd x0 x5) < (rd x1 x5))))) else(none)) else(none)) else(some false)
def Ga.f (k:Nat) (l0:List Int) (l1:List Int):Option (Bool):=if (l0.length:Int)=(l1.length:Int) then(Ga.l0 k l0 l1 0) else(some (decide ((l0.length:Int) < (l1.length:Int))))
set_option maxHeartbeats 8000000 in
set_option maxRecDepth 100000 in
theorem Ga.calls (k:Nat) (A0:Option Addr) (c0:Nat) (l0:List Int) (A1:Option Addr) (c1:Nat) (l1:List Int) (r:Bool) (w:World) (fc:Kd.C (Kd.int .i64) w A0 l0.length l0) (gc:l0.length<=c0) (j6:Kd.C (Kd.int .i64) w A1 l1.length l1) (kh:l1.length<=c1) (h:Ga.f k l0 l1=some r) :
  Calls Try.prog 114 #[.slice A0 l0.length c0, .slice A1 l1.length c1] w fun e w'=>e = .returned (.bool r)/\Drawn0 w w':=by
 have i3:=A_ fc
 have qn:=A_ gc
 clear fc gc
 have h7:=A_ j6
 have yz:=A_ kh
 clear j6 kh
 have H:=h
 unfold Ga.f at H
 clear h
 by_cases c3:(l0.length:Int)=(l1.length:Int)
 case neg=>
  rw[if_neg c3] at H
  have jd:((l0.length:Int) == (l1.length:Int))=false:=beq_eq_false_iff_ne.mpr c3
  have n7:((l0.length:Int) != (l1.length:Int))=true:=bne_iff_ne.mpr c3
  have vd:(l0.length == l1.length)=false:=by first|simpa using c3|(simp at c3 |-;omega)
  obtain rfl:=Option.some.inj H
  go_enter Try.func114,Try.ntmps114
  go_wp2
  repeat(go_quiet (fail);try go_wp2)
  go_ret
  exact⟨g2_,g5_⟩
 rw[if_pos c3] at H
 have jd:((l0.length:Int) == (l1.length:Int))=true:=beq_iff_eq.mpr c3
 have n7:((l0.length:Int) != (l1.length:Int))=false:=bne_eq_false_iff_eq.mpr c3
 have vd:(l0.length == l1.length)=true:=by first|simpa using c3|(simp at c3 |-;omega)
 clear c3
 have H':=A_ H
 clear H
 go_enter Try.func114,Try.ntmps114
 go_wp2
 repeat(go_quiet (fail);try go_wp2)
 go_loopg [5] k (fun kq v5 w'=>∃(an:Int),v5 = .int .i64 an/\Gy (Ga.l0 kq l0 l1 an=some r)/\Gy (kq<=k)/\Drawn0 w w')
 case atStart=>exact⟨(0),(g2_),H',⟨Nat.le_refl _⟩,g5_⟩
 clear H'
 obtain⟨an,rfl,HA,HK1,⟨m1,rfl⟩⟩:=hrel
 cases gk with
 | zero=>exact absurd HA.out (by simp[Ga.l0])
 | succ k1=>?_
 have H:=HA.out
 clear HA
 simp only[Ga.l0] at H
 by_cases c4:an < (l0.length:Int)
 case neg=>
  rw[if_neg c4] at H
  have mv:=decide_eq_false c4
  clear c4
  obtain rfl:=Option.some.inj H
  go_wp2
  repeat(go_quiet (fail);try go_wp2)
  go_ret
  exact⟨g2_,g5_⟩
 rw[if_pos c4] at H
 have mv:=decide_eq_true c4
 clear c4
 obtain⟨ij,H⟩:=pd_ H
 obtain⟨nk,H⟩:=pd_ H
 by_cases c7:(rd l0 an)=(rd l1 an)
 ·rw[if_pos c7] at H
  have ud:((rd l0 an) == (rd l1 an))=true:=beq_iff_eq.mpr c7
  have ba4:((rd l0 an) != (rd l1 an))=false:=bne_eq_false_iff_eq.mpr c7
  clear c7
  have H':=A_ H
  clear H
  obtain⟨⟨go9,ez5,iy8⟩,bx8,bx9⟩:=rdp_ (Kd.at_int i3.out an)
  cases ez5
  obtain⟨⟨gp0,ez6,iy9⟩,by0,by1⟩:=rdp_ (Kd.at_int h7.out an)
  cases ez6
  go_wp2
  repeat(go_quiet (fail);try go_wp2)
  go_roundg k1
  case measure=>have:=HK1.out;omega
  case rel=>exact⟨(wrap64 (an + 1)),(g2_),H',⟨g13_⟩,g5_⟩
 rw[if_neg c7] at H
 have ud:((rd l0 an) == (rd l1 an))=false:=beq_eq_false_iff_ne.mpr c7
 have ba4:((rd l0 an) != (rd l1 an))=true:=bne_iff_ne.mpr c7
 obtain rfl:=Option.some.inj H
 obtain⟨⟨go9,ez5,iy8⟩,bx8,bx9⟩:=rdp_ (Kd.at_int i3.out an)
 cases ez5
 obtain⟨⟨gp0,ez6,iy9⟩,by0,by1⟩:=rdp_ (Kd.at_int h7.out an)
 cases ez6
 obtain⟨⟨iz0,iz1,lr9⟩,ez7,ez8⟩:=rdp_ (Kd.at_int i3.out an)
 obtain rfl:go9=iz0:=(by injection iz1)
 obtain⟨⟨iz2,iz3,ls0⟩,ez9,fa0⟩:=rdp_ (Kd.at_int h7.out an)
 obtain rfl:gp0=iz2:=(by injection iz3)
 go_wp2
 repeat(go_quiet (fail);try go_wp2)
 go_ret
 exact⟨g2_,g5_⟩
end Go.Proofs.Ytfooakkhkehpiaa.PU
