/- FnDeskRun: for every input the law holds. No condition. -/
import Derived.Test.YtfooakkhkehpiaaZFnDeskRun1
import Derived.Test.YtfooakkhkehpiaaZFnDeskRun2
import Derived.Test.YtfooakkhkehpiaaZFnDeskRun3
import Derived.Test.YtfooakkhkehpiaaZFnDeskRun4
namespace Go.Proofs.Ytfooakkhkehpiaa.PU
open Go.RowKit Go.Proofs.YtfooakkhkehpiaaW.PrintWords Go.Proofs.YtfooakkhkehpiaaW.PrintLast Go.Proofs.YtfooakkhkehpiaaW.PrintMore Go.Proofs.Ytfooakkhkehpiaa.Qd
attribute [local go_sem] max2_int min2_int max_two min_two max_three min_three max_four min_four
set_option linter.unusedVariables false
set_option linter.unusedSimpArgs false
mutual
def Fn.l0:Nat->Int->Int->Int->Int->List Int->Int->List Int->List (List Int)->Option (List Int × (List (List Int)) × Int)
 | 0,_,_,_,_,_,_,_,_=>none
 | k + 1,x1,x5,x7,x8,jv,nl,ce9,cf0=>if x8 < x5 then((Fa.f k jv nl 4).bind fun bt597=>((Fa.f k jv bt597.2 21).bind fun bt599=>((some (([0,bt597.1,bt599.1]:List Int):List Int)).bind fun az4=>(if 0<=x7 then(if x7 < (az4.length:Int) then(if ce9.length < 17592186044416 then(Fn.l1 k x1 x5 x7 x8 (([]:List Int)) 0 jv bt599.2 (ce9 ++ [rd az4 x7]) cf0) else(none)) else(none)) else(none))))) else((F5.f k jv nl x1).bind fun bt627=>(if bt627.1=true then(none) else(some (ce9,cf0,bt627.2))))
def Fn.l1:Nat->Int->Int->Int->Int->List Int->Int->List Int->Int->List Int->List (List Int)->Option (List Int × (List (List Int)) × Int)
 | 0,_,_,_,_,_,_,_,_,_,_=>none
 | k + 1,x1,x5,x7,x8,x9,x10,jv,nl,ce9,cf0=>if x10 < x5 then(if x8=x10 then(if x9.length < 17592186044416 then(Fn.l1 k x1 x5 x7 x8 (x9 ++ [0]) (wrap64 (x10 + 1)) jv nl ce9 cf0) else(none)) else((Fa.f k jv nl 3).bind fun bt617=>(if bt617.1 > 0 then((Fa.f k jv bt617.2 10).bind fun bt619=>(if x9.length < 17592186044416 then(Fn.l1 k x1 x5 x7 x8 (x9 ++ [bt619.1]) (wrap64 (x10 + 1)) jv bt619.2 ce9 cf0) else(none))) else(if x9.length < 17592186044416 then(Fn.l1 k x1 x5 x7 x8 (x9 ++ [0]) (wrap64 (x10 + 1)) jv bt617.2 ce9 cf0) else(none))))) else(if cf0.length < 5864062014805 then(Fn.l0 k x1 x5 x7 (wrap64 (x8 + 1)) jv nl ce9 (cf0 ++ [x9])) else(none))
end
def Fn.f (k:Nat) (ay:List Int) (eh:Int) (a1:Int):Option (List Int × (List (List Int)) × Int):=(some (([1,2,3,3,4,4]:List Int):List Int)).bind fun xo=>((Fa.f k ay eh 6).bind fun bt591=>(if 0<=bt591.1 then(if bt591.1 < (xo.length:Int) then((Fa.f k ay bt591.2 3).bind fun bt595=>(Fn.l0 k a1 (rd xo bt591.1) bt595.1 0 ay bt595.2 ([]:List Int) ([]:List (List Int)))) else(none)) else(none)))
def Fn.T7:Bool × List (List Nat × List Nat):=(true,[([],[]),([0],[0]),([],[]),([2],[2]),([],[]),([4,3],[4]),([3,5],[3,5]),([],[]),([6,7],[6,7]),([8],[8]),([9],[9]),([1,10,5],[1,10]),([0,1,2,3,4,5,6,7,8,9,10,11],[]),([12,11,11,0,1,2,3,4,5,6,7,8,9,10,11],[11,12])])
def Fn.B7:List Nat:=[0,1,0,4,0,28,60,0,252,508,1020,2047,4095,8191]
theorem Fn.tab7:rtab .any (opsOf Try.f91 7)=Fn.T7:=by kernel_rfl
theorem Fn.bits7:waitsOk Fn.T7.2 Fn.B7=true:=by kernel_rfl
theorem j8 {p:Prop} (h:p:=by repeat(first|(with_reducible first|exact HI0.out|apply Jo.alloc|apply Jo.drewN|apply Jo.drew|apply Jo.set_1|refine Jo.far ?_ it5.out _|refine Jo.far ?_ fb7.out _)|exact HI0.out)):p:=h
theorem n6 {p:Prop} (h:p:=by repeat(first|(with_reducible first|exact HK.out|apply Ja.set_|apply Ji|apply Jj|apply keep_alloc|refine Jk ?_ ls9.out _|refine Jk ?_ lt0.out _)|exact HK.out)):p:=h
theorem su {p:Prop} (h:p:=by repeat(first|(with_reducible first|exact HB.out|apply G3|apply G2|apply G1|refine G0 ?_ (Jo.ge HI0.out)|refine G0 ?_ lt1.out|refine G0 ?_ lt2.out)|exact HB.out)):p:=h
set_option maxHeartbeats 8000000 in
set_option maxRecDepth 100000 in
theorem Fn.calls (k:Nat) (g:Nat) (ay:List Int) (eh:Int) (a1:Int) (r1:List Int) (r2:List (List Int)) (r3:Int) (w0 w:World) (hI:Jo w0 w g ay eh) (hB:Below w0.heap.size w0 w) (h:Fn.f k ay eh a1=some (r1,r2,r3)) :
  Calls Try.prog 91 #[.pointer (some ⟨g,0,none⟩), .int .i64 a1] w fun e w'=>∃v0_ v1_:Value,e = .returned (.agg #[v0_,v1_])/\Kd.R (Kd.int .i64) 3 w' w.heap.size (fun _=>True) v0_ r1/\Kd.S (Kd.slice 3 (Kd.int .i64)) 22 w' w.heap.size (fun k_=>some k_≠(v0_:Value).ownBlock) v1_ r2/\Jo w0 w' g ay r3/\Below w0.heap.size w0 w'/\Ja w w' g none:=by
 have hu25:=Try.underlying25
 have HI0:=A_ hI
 have HK:=A_ (Ja.refl w g none)
 have HL:=A_ hB.size
 clear hI
 have HW0:=A_ hB.size
 have HB:=A_ hB
 clear hB
 have H:=h
 unfold Fn.f at H
 clear h
 obtain⟨xo,hyq⟩:∃y_:List Int,y_=(([1,2,3,3,4,4]:List Int)):=⟨_,rfl⟩
 replace H:((Fa.f k ay eh 6).bind fun bt591=>(if 0<=bt591.1 then(if bt591.1 < (xo.length:Int) then((Fa.f k ay bt591.2 3).bind fun bt595=>(Fn.l0 k a1 (rd xo bt591.1) bt595.1 0 ay bt595.2 ([]:List Int) ([]:List (List Int)))) else(none)) else(none)))=some (r1,r2,r3):=qh_
 have it6:=A_ hyq
 clear hyq
 replace H:=Option.bind_eq_some_iff.mp H
 obtain⟨⟨ai7,ea7⟩,nu,H⟩:=H
 try dsimp only at H
 have A3:=A_ nu
 clear nu
 obtain⟨qh,H⟩:=pd_ H
 obtain⟨j9,H⟩:=pd_ H
 replace H:=Option.bind_eq_some_iff.mp H
 obtain⟨⟨vs,it7⟩,A60,H⟩:=H
 try dsimp only at H
 have A6:=A_ A60
 clear A60
 have H':=A_ H
 clear H
 go_enter Try.func91,Try.ntmps91
 go_wp2_with (first|((with_reducible refine gd_ 4 ?_);refine bx_ (N:=4) #[.slice none 0 0, .slice none 0 0] 25 ?_;intro ty hg w7 hbox hb;replace HB:=hs_ (su) hb;have iz:=A_ (hbox);have ls9:=A_ ((g161_:w.heap.size<=ty));have lt1:=A_ (Nat.le_trans HW0.out ls9.out);replace HK:=A_ (Ja.trans (n6) (Ja.of_below hb g none) (.inl rfl));have it5:=A_ ((by rw[hg];exact Nat.ne_of_lt (Jo.lt (show Jo w0 _ g ay eh from j8)):g≠ty));have bv4:=A_ ((by rw[hg];exact Nat.ne_of_gt (Jo.lt (show Jo w0 _ g ay eh from j8)):ty≠g));replace HI0:=A_ (Jo.below (j8) hb);clear hb hbox hg)|((with_reducible refine gd_ 12 ?_);refine rle_ 12 [1,2,3,3,4,4] ?_;intro ob0 w8 ho9 hb hg_ hnew_;clear hg_ hnew_;(first|rw[<- it6.out] at ho9|(simp only[Int.reduceToNat] at ho9;rw[<- it6.out] at ho9));have cf1:=A_ (Kd.R_lower ho9 (Jh (w:=w) (g:=g) (row:=none) (n6)));replace iz:=bb_ iz hb;replace HK:=A_ (Ja.trans (n6) (Ja.of_below hb g none) (.inl rfl));replace HB:=hs_ (su) hb;replace HI0:=A_ (Jo.below (j8) hb);clear hb ho9)|((with_reducible refine gc_ 70 ?_);refine gl_ 14 Try.func70 #[.pointer (some ⟨g,0,none⟩), .int .i64 6] ?_;(refine(Fa.calls k g ay eh 6 ai7 ea7 w0 _ j8 su A3.out).mono ?_);rintro e w10 ⟨rfl,hi,hb,hk⟩;refine⟨_,rfl,?_⟩;replace iz:=kb_ hk iz bv4;replace cf1:=A_ (Kd.R_mono (Kd.R_keep (Jo.apart (show Jo w0 _ g ay eh from j8) (uR_ cf1) (by decide)) hk (fun _ h=>h.2)) (fun _ h=>h.1));replace HK:=A_ (Ja.trans (n6) hk (.inl rfl));replace HB:=A_ (hb);replace HI0:=A_ (hi);obtain⟨a9,a8,ea8⟩:=Kd.R_slice cf1.out;subst ea8;have ea9:0<=(ai7:Int):=od_;have eb0:ai7 < (xo.length:Int):=od_;obtain⟨ob1,lt3,it8⟩:=Kd.at_int (Kd.R_reads' cf1.out).2.2 ai7 ea9 eb0;cases lt3;replace ea9:=eq_true ea9;replace eb0:=eq_true eb0)|((with_reducible refine gd_ 6 ?_);refine bx_ (N:=6) #[.slice none 0 0, .slice none 0 0] 25 ?_;intro qc hg w12 hbox hb;replace cf1:=rb_ cf1 hb;replace HB:=hs_ (su) hb;have gi:=A_ (hbox);have lt0:=A_ ((g161_:w.heap.size<=qc));have lt2:=A_ (Nat.le_trans HW0.out lt0.out);replace HK:=A_ (Ja.trans (n6) (Ja.of_below hb g none) (.inl rfl));have cf2:=nl_ iz hg;have fb8:=nr_ iz hg;replace iz:=bb_ iz hb;have fb7:=A_ ((by rw[hg];exact Nat.ne_of_lt (Jo.lt (show Jo w0 _ g ay ea7 from j8)):g≠qc));have bl5:=A_ ((by rw[hg];exact Nat.ne_of_gt (Jo.lt (show Jo w0 _ g ay ea7 from j8)):qc≠g));replace HI0:=A_ (Jo.below (j8) hb);clear hb hbox hg;have cu5:=fb8.out;have cu6:=cf2.out;have eg0:=bl5.out;have eg1:=fb7.out;obtain⟨bw8,bw9,bx0,bx1⟩:=blk2_ gi)|((with_reducible refine gc_ 70 ?_);refine gl_ 19 Try.func70 #[.pointer (some ⟨g,0,none⟩), .int .i64 3] ?_;(refine(Fa.calls k g ay ea7 3 vs it7 w0 _ j8 su A6.out).mono ?_);rintro e mt ⟨rfl,hi,hb,hk⟩;refine⟨_,rfl,?_⟩;replace iz:=A_ (Ja.blk hk (g':=ty) (o:=.cells #[.slice none 0 0, .slice none 0 0] 25 (0,0)) (ba_ iz) bv4.out (by simp));replace cf1:=A_ (Kd.R_mono (Kd.R_keep (Jo.apart (show Jo w0 _ g ay ea7 from j8) (ra_ cf1) (by decide)) hk (fun _ h=>h.2)) (fun _ h=>h.1));replace gi:=A_ (Ja.blk hk (g':=qc) (o:=.cells #[.slice none 0 0, .slice none 0 0] 25 (0,0)) (ba_ gi) bl5.out (by simp));replace HK:=A_ (Ja.trans (n6) hk (.inl rfl));replace HB:=A_ (hb);replace HI0:=A_ (hi)))
 go_loopg [8] k (fun kq v8 w'=>∃(ji:Int) (g9:Int) (bg7:List Int) (af6:List (List Int)) (bv5:Value) (ac1:Value),v8 = .int .i64 ji/\Gx (Fn.l0 kq a1 (rd xo ai7) vs ji ay g9 bg7 af6=some (r1,r2,r3))/\Gx (kq<=k)/\Gx (Kd.R (Kd.int .i64) 3 w' w.heap.size (fun _=>True) bv5 bg7)/\Gx (Kd.S (Kd.slice 3 (Kd.int .i64)) 22 w' w.heap.size (fun k_=>some k_≠(bv5:Value).ownBlock) ac1 af6)/\Gx (hc_ w' ty #[(.slice none 0 0),(.slice none 0 0)] 25)/\Gx (hc_ w' qc #[bv5,ac1] 25)/\Gx (Jo w0 w' g ay g9)/\Gx (Ja w w' g none)/\Gx (Below w0.heap.size w0 w'))
 case atStart=>exact⟨(0),(it7),(([]:List Int)),(([]:List (List Int))),(.slice none 0 0),(.slice none 0 0),(g3_),H',⟨Nat.le_refl _⟩,⟨g24_⟩,⟨g33_⟩,⟨uB_ iz⟩,⟨uB_ gi⟩,⟨j8⟩,⟨n6⟩,⟨su⟩⟩
 clear H'
 obtain⟨ji,g9,bg7,af6,bv5,ac1,rfl,HA,HK1,mf,mo,iz,gi,HI0,HK,HB⟩:=hrel
 cases gk with
 | zero=>exact absurd HA.out (by simp[Fn.l0])
 | succ k1=>?_
 have H:=HA.out
 clear HA
 simp only[Fn.l0] at H
 by_cases ip:ji < (rd xo ai7)
 case neg=>
  rw[if_neg ip] at H
  have ad6:=decide_eq_false ip
  clear ip
  replace H:=Option.bind_eq_some_iff.mp H
  obtain⟨⟨lv5,lv6⟩,iv1,H⟩:=H
  try dsimp only at H
  have A56:=A_ iv1
  clear iv1
  by_cases u6:lv5=true
  ·subst u6
   replace H:=ifp_ H
   exact absurd H (by simp)
  replace u6:=Bool.eq_false_iff.mpr u6
  subst u6
  replace H:=ifn_ H
  simp only[Option.some.injEq,Prod.mk.injEq] at H
  obtain⟨rfl,rfl,rfl⟩:=H
  go_wp2_with (first|((with_reducible refine gc_ 106 ?_);refine gl_ 66 Try.func106 #[.pointer (some ⟨g,0,none⟩), .int .i64 a1] ?_;(refine(F5.calls k1 g ay g9 a1 false lv6 w0 _ j8 su A56.out).mono ?_);rintro e m0 ⟨rfl,hi,hb,hk⟩;refine⟨_,rfl,?_⟩;replace mf:=A_ (Kd.R_mono (Kd.R_keep (Jo.apart (show Jo w0 _ g ay g9 from j8) (uR_ mf) (by decide)) hk (fun _ h=>h.2)) (fun _ h=>h.1));replace mo:=A_ (Kd.S_mono (Kd.S_keep (Jo.apartS (show Jo w0 _ g ay g9 from j8) (uS_ mo) (by decide)) hk (fun _ h=>h.2)) (fun _ h=>h.1));replace iz:=kb_ hk iz bv4;replace gi:=kb_ hk gi bl5;replace HK:=A_ (Ja.trans (n6) hk (.inl rfl));replace HB:=A_ (hb);replace HI0:=A_ (hi);have hy6:=fb8.out;have hy7:=cf2.out;have lc5:=bl5.out;have lc6:=fb7.out;obtain⟨ik5,ik6,ik7,ik8⟩:=blk2_ gi;obtain⟨ae9,ah4,fx6⟩:=Kd.R_slice mf.out;subst fx6;have ip8:=bv4.out;have ip9:=it5.out;obtain⟨gj8,gj9,gk0,gk1⟩:=blk2_ iz;obtain⟨cr8,cr9,gl6⟩:=Kd.S_slice mo.out;subst gl6))
  refine bodyPost_ret (results_cell_row rfl _ _ ty 25 #[.slice ae9 bg7.length ah4, .slice cr8 af6.length cr9] (0,0) _ rfl (ba_ iz) Try.underlying25 rfl (g0_)) rfl ?_
  exact⟨_,_,g4_,ra_ mf,sa_ mo,j8,su,n6⟩
 rw[if_pos ip] at H
 have ad6:=decide_eq_true ip
 clear ip
 replace H:=Option.bind_eq_some_iff.mp H
 obtain⟨⟨dc4,fb9⟩,dw6,H⟩:=H
 try dsimp only at H
 have A18:=A_ dw6
 clear dw6
 replace H:=Option.bind_eq_some_iff.mp H
 obtain⟨⟨dc5,dc6⟩,it9,H⟩:=H
 try dsimp only at H
 have A19:=A_ it9
 clear it9
 obtain⟨az4,hyq⟩:∃y_:List Int,y_=(([0,dc4,dc5]:List Int)):=⟨_,rfl⟩
 replace H:(if 0<=vs then(if vs < (az4.length:Int) then(if bg7.length < 17592186044416 then(Fn.l1 k1 a1 (rd xo ai7) vs ji (([]:List Int)) 0 ay dc6 (bg7 ++ [rd az4 vs]) af6) else(none)) else(none)) else(none))=some (r1,r2,r3):=qh_
 have gm8:=A_ hyq
 clear hyq
 obtain⟨bx5,H⟩:=pd_ H
 obtain⟨eo0,H⟩:=pd_ H
 obtain⟨lj,H⟩:=pos_ H
 have lt4:=A_ lj
 clear lj
 obtain⟨nm,hyq⟩:∃y_:List Int,y_=(bg7 ++ [rd az4 vs]):=⟨_,rfl⟩
 replace H:(Fn.l1 k1 a1 (rd xo ai7) vs ji (([]:List Int)) 0 ay dc6 nm af6)=some (r1,r2,r3):=qh_
 have lt5:=A_ hyq
 clear hyq
 obtain⟨iu0,hyq⟩:∃y_:List Int,y_=(([]:List Int)):=⟨_,rfl⟩
 replace H:(Fn.l1 k1 a1 (rd xo ai7) vs ji iu0 0 ay dc6 nm af6)=some (r1,r2,r3):=qh_
 have iu1:=A_ hyq
 clear hyq
 have H':=A_ H
 clear H
 try go_wp2
 have pi604:(0<=(vs:Int))=True:=eq_true (od_)
 have qi604:(vs < (az4.length:Int))=True:=eq_true (od_)
 replace mf:=rd_ mf
 replace mo:=sd_ mo
 replace iz:=bd_ iz
 replace gi:=bd_ gi
 replace HI0:=A_ (Jo.drew HI0.out)
 replace HK:=A_ (Jj HK.out)
 replace HB:=A_ (G1 HB.out)
 refine start_ (n:=14) (S:=fun w'=>w'.cell? ⟨qc,0,none⟩=some (bv5)/\w'.cell? ⟨qc,1,none⟩=some (ac1)) (ds:=[13]) (tl_ 14 0) (g0_) rfl (g0_) ⟨(Gy gi.out 0).trans rfl,(Gy gi.out 1).trans rfl⟩ (fun hHeld=>?_);refine Jl Fn.tab7 Fn.bits7 (fun HT_ HW_=>?_)
 generalize wr.drew=w23 at mf mo iz gi HI0 HK HB hHeld |-
 refine pw_ 0 25 (tl_ 14 1) ?_
 refine pw_ 2 27 (tl_ 14 5) ?_
 refine pw_ 4 29 (tl_ 14 21) ?_
 refine pw_ 7 32 (tl_ 14 149) ?_
 refine tk7_ 1 26 (tl_ 14 151) hHeld ?_
 refine one_ (i:=3) (N:=some 28) (tl_ 14 159) rfl rfl (Jn HT_.out (g0_)) (by decide) (fun K hK=>?_)
 refine goes_ Try.func70 (g0_) rfl #[.pointer (some ⟨g,0,none⟩), .int .i64 4] (by rfl) rfl rfl (gM_) ?_
 refine(Fa.calls k1 g ay g9 4 dc4 fb9 w0 _ j8 su A18.out).mono ?_
 rintro e wn ⟨rfl,hi,hb,hk⟩
 refine⟨_,rfl,?_⟩
 replace mf:=A_ (Kd.R_mono (Kd.R_keep (Jo.apart (show Jo w0 _ g ay g9 from j8) (uR_ mf) (by decide)) hk (fun _ h=>h.2)) (fun _ h=>h.1))
 replace mo:=A_ (Kd.S_mono (Kd.S_keep (Jo.apartS (show Jo w0 _ g ay g9 from j8) (uS_ mo) (by decide)) hk (fun _ h=>h.2)) (fun _ h=>h.1))
 replace iz:=kb_ hk iz bv4
 replace gi:=kb_ hk gi bl5
 replace HK:=A_ (Ja.trans (n6) hk (.inl rfl))
 replace HB:=A_ (hb)
 replace HI0:=A_ (hi)
 refine hK.out _ _ ⟨(Gy gi.out 0).trans rfl,(Gy gi.out 1).trans rfl⟩ (fun hHeld=>?_)
 clear hK K
 refine nm_ ?_
 refine one_ (i:=5) (N:=some 30) (tl_ 14 191) rfl rfl (Jn HT_.out (g0_)) (by decide) (fun K hK=>?_)
 refine goes_ Try.func70 (g0_) rfl #[.pointer (some ⟨g,0,none⟩), .int .i64 21] (by rfl) rfl rfl (gM_) ?_
 refine(Fa.calls k1 g ay fb9 21 dc5 dc6 w0 _ j8 su A19.out).mono ?_
 rintro e r6 ⟨rfl,hi,hb,hk⟩
 refine⟨_,rfl,?_⟩
 replace mf:=A_ (Kd.R_mono (Kd.R_keep (Jo.apart (show Jo w0 _ g ay fb9 from j8) (uR_ mf) (by decide)) hk (fun _ h=>h.2)) (fun _ h=>h.1))
 replace mo:=A_ (Kd.S_mono (Kd.S_keep (Jo.apartS (show Jo w0 _ g ay fb9 from j8) (uS_ mo) (by decide)) hk (fun _ h=>h.2)) (fun _ h=>h.1))
 replace iz:=kb_ hk iz bv4
 replace gi:=kb_ hk gi bl5
 replace HK:=A_ (Ja.trans (n6) hk (.inl rfl))
 replace HB:=A_ (hb)
 replace HI0:=A_ (hi)
 refine hK.out _ _ ⟨(Gy gi.out 0).trans rfl,(Gy gi.out 1).trans rfl⟩ (fun hHeld=>?_)
 clear hK K
 refine nm_ ?_
 refine one_ (i:=6) (N:=some 31) (tl_ 14 255) rfl rfl (Jn HT_.out (g0_)) (by decide) (fun K hK=>?_)
 refine rls_ 31 [0,dc4,dc5] ?_
 intro ob2 w26 vh hb hg_ hnew_
 clear hg_ hnew_
 (first|rw[<- gm8.out] at vh|(simp only[Int.reduceToNat] at vh;rw[<- gm8.out] at vh))
 replace mo:=A_ (Kd.S_elder' (uS_ mo) (Kd.R_base vh) hb)
 have bv6:=A_ (Kd.R_lower (Kd.R_new' vh (Kd.R_lt (uR_ mf))) (Jh (w:=w) (g:=g) (row:=none) (n6)))
 replace mf:=A_ (Kd.R_elder' (uR_ mf) (Kd.R_base vh) hb)
 replace iz:=bb_ iz hb
 replace gi:=bb_ gi hb
 replace HK:=A_ (Ja.trans (n6) (Ja.of_below hb g none) (.inl rfl))
 replace HB:=hs_ (su) hb
 replace HI0:=A_ (Jo.below (j8) hb)
 clear hb vh
 obtain⟨bg,bf,bo4⟩:=Kd.R_slice bv6.out
 subst bo4
 obtain⟨ado28,lt6,_⟩:=Kd.at_int (Kd.R_reads' bv6.out).2.2 0 (by decide) (by rw[gm8.out];simp)
 cases lt6
 refine hK.out _ _ ⟨(Gy gi.out 0).trans rfl,(Gy gi.out 1).trans rfl⟩ (fun hHeld=>?_)
 clear hK K
 refine nm_ ?_
 refine pw_ 8 33 (tl_ 14 511) ?_
 refine one_ (i:=9) (N:=some 34) (tl_ 14 1023) rfl rfl (Jn HT_.out (g0_)) (by decide) (fun K hK=>?_)
 (have iu2:0<=(vs:Int):=od_;have iu3:vs < (az4.length:Int):=od_;obtain⟨lt7,lt8,iu4⟩:=Kd.at_int (Kd.R_reads' bv6.out).2.2 vs iu2 iu3;obtain rfl:ado28=lt7:=(by injection lt8))
 refine value_ (w1:=?_) (v:=?_) (by rfl) rfl ?_ ?_
 rotate_left 2
 ·go_simp
  constructor
  ·rfl
  rfl
 clear iu4
 refine hK.out _ _ ⟨(Gy gi.out 0).trans rfl,(Gy gi.out 1).trans rfl⟩ (fun hHeld=>?_)
 clear hK K
 refine nm_ ?_
 refine one_ (i:=10) (N:=some 35) (tl_ 14 2047) rfl rfl (Jn HT_.out (g0_)) (by decide) (fun K hK=>?_)
 refine value_ (w1:=?_) (v:=?_) (by rfl) rfl ?_ ?_
 rotate_left 2
 ·go_simp
  constructor
  ·rfl
  rfl
 refine hK.out _ _ ⟨(Gy (G4 gi.out _) 0).trans rfl,(Gy (G4 gi.out _) 1).trans rfl⟩ (fun hHeld=>?_)
 clear hK K
 refine nm_ ?_
 refine one_ (i:=11) (N:=some 36) (tl_ 14 4095) rfl rfl (Jn HT_.out (g0_)) (by decide) (fun K hK=>?_)
 refine Kd.R_append_step (Kd.int .i64) w.heap.size (by rfl) (.tmp 26) (.tmp 35) 22 3 (.int .i64 0) 8 rfl Try.underlying22 info3 rfl (by decide) (by omega) bv5 bg7 (rd az4 vs) [.int .i64 (rd az4 vs)] (fun k_=>some k_≠(.slice (some ado28) az4.length bf:Value).ownBlock) (fun _=>False) rfl rfl ?aP (fun _ hk=>hk.elim) ?aF ?aO (Below.refl _ _) ?aS ?aL ?_
 (case aP=>exact rfl)
 (case aF=>exact(fun k_ hk=>Kd.fresh' (Kd.R_lt (uR_ bv6)) k_ hk))
 (case aO=>exact(yR_ mf (fun _ hk=>hk.2)))
 (case aS=>exact(Jh (w:=w) (g:=g) (row:=none) (n6)))
 (case aL=>have:=lt4.out;omega)
 intro ob3 w29 ho hb hg hat
 rw[<- lt5.out] at ho
 replace mo:=A_ (Kd.S_after (ok:=(fun k_=>some k_≠(.slice (some ado28) az4.length bf:Value).ownBlock)) (yS_ mo (fun _ hk=>⟨hk.2,hk.1⟩)) hg hat)
 replace iz:=(bg_ iz hg (Kd.R_ne mf.out iz.out (by decide)))
 replace gi:=(bg_ gi hg (Kd.R_ne mf.out gi.out (by decide)))
 replace bv6:=A_ (Kd.R_after (ok:=(fun _=>True)) (uR_ bv6) hg hat)
 replace HB:=A_ (below_weaken (su) HL.out hb)
 replace HI0:=A_ (Jo.grown (j8) hg (Jo.own_ne HI0.out mf.out (by decide)))
 replace HK:=A_ (Ja.trans (n6) (Ja.of_grown hg g) (Kd.R_base2 mf.out))
 have eb1:=A_ (ho)
 clear mf
 clear ho hb hg hat
 obtain⟨jg,jh,bk8⟩:=Kd.R_slice eb1.out
 (first|subst bk8|(injection bk8 with f1_ f2_ f3_;have f4_:=f1_.symm;have f5_:=f3_.symm;clear f1_ f2_ f3_;subst f4_;subst f5_))
 refine hK.out _ _ ⟨(Gy gi.out 0).trans rfl,(Gy gi.out 1).trans rfl⟩ (fun hHeld=>?_)
 clear hK K
 refine nm_ ?_
 refine pw_ 12 37 (tl_ 14 8191) ?_
 refine last_ (i:=13) (N:=none) (tl_ 14 16383) rfl rfl (Jn HT_.out (g0_)) (by decide) (fun K hK=>?_)
 have lt9:w29.cell? ⟨qc,0,none⟩=some (bv5):=(Gy gi.out 0).trans rfl
 have lu0:=G7 gi.out 0
 have lu1:=cf2.out
 have lu2:=fb8.out
 refine skip_ (w1:=?_) (by rfl) rfl ?_ ?_
 rotate_left
 ·go_simp
  rfl
 refine hK.out _ _ ?_
 clear hK K
 refine done_ (done_of HT_.out (g0_)) ?_
 try go_wp2_with (first|((with_reducible refine gd_ 38 ?_);refine rle_ 38 [] ?_;intro ob4 w32 cf3 hb hg_ hnew_;clear hg_ hnew_;(first|rw[<- iu1.out] at cf3|(simp only[Int.reduceToNat] at cf3;rw[<- iu1.out] at cf3));replace mo:=A_ (Kd.S_elder' (sa_ mo) (Kd.R_base cf3) hb);have lu3:=A_ (Kd.R_lower (Kd.R_new' (Kd.R_new' cf3 (Kd.R_lt (ra_ bv6))) (Kd.R_lt (ra_ eb1))) (Jh (w:=w) (g:=g) (row:=none) (n6)));replace bv6:=A_ (Kd.R_elder' (ra_ bv6) (Kd.R_base cf3) hb);replace eb1:=A_ (Kd.R_elder' (ra_ eb1) (Kd.R_base cf3) hb);replace iz:=A_ (G8 (g:=ty) (o:=.cells #[.slice none 0 0, .slice none 0 0] 25 (0,0)) (ba_ iz) hb);replace gi:=A_ (G8 (g:=qc) (o:=.cells #[.slice jg nm.length jh,ac1] 25 (0,0)) (ba_ gi) hb);replace HK:=A_ (Ja.trans (n6) (Ja.of_below hb g none) (.inl rfl));replace HB:=hs_ (su) hb;replace HI0:=A_ (Jo.below (show Jo w0 (w29.setCell ⟨qc,0,none⟩ (.slice jg nm.length jh)) g ay dc6 from j8) hb);clear hb cf3))
 go_loopg [9,10] k1 (fun kq v9 v10 w'=>∃(as9:List Int) (xe:Int) (ai8:Int),v10 = .int .i64 xe/\Gx (Fn.l1 kq a1 (rd xo ai7) vs ji as9 xe ay ai8 nm af6=some (r1,r2,r3))/\Gx (kq<=k1)/\Gx (Kd.R (Kd.int .i64) 3 w' w.heap.size (fun k_=>some k_≠((.slice jg nm.length jh):Value).ownBlock) v9 as9)/\Gx (Kd.R (Kd.int .i64) 3 w' w.heap.size (fun k_=>some k_≠(v9:Value).ownBlock) (.slice jg nm.length jh) nm)/\Gx (Kd.S (Kd.slice 3 (Kd.int .i64)) 22 w' w.heap.size (fun k_=>some k_≠(v9:Value).ownBlock/\some k_≠((.slice jg nm.length jh):Value).ownBlock) ac1 af6)/\Gx (hc_ w' ty #[(.slice none 0 0),(.slice none 0 0)] 25)/\Gx (hc_ w' qc #[(.slice jg nm.length jh),ac1] 25)/\Gx (Jo w0 w' g ay ai8)/\Gx (Ja w w' g none)/\Gx (Below w0.heap.size w0 w'))
 case atStart=>exact⟨(iu0),(0),(dc6),(g3_),H',⟨Nat.le_refl _⟩,⟨by(with_reducible repeat(first|apply Kd.R_alloc|apply Kd.R_drewN|apply Kd.R_drew));exact Kd.R_mono lu3.out (fun _ hk=>hk.2)⟩,⟨by(with_reducible repeat(first|apply Kd.R_alloc|apply Kd.R_drewN|apply Kd.R_drew));exact Kd.R_mono eb1.out (fun _ hk=>hk.2)⟩,⟨by(with_reducible repeat(first|apply Kd.S_alloc|apply Kd.S_drewN|apply Kd.S_drew));exact Kd.S_mono mo.out (fun _ hk=>⟨hk.2,hk.1.2⟩)⟩,⟨uB_ iz⟩,⟨uB_ gi⟩,⟨j8⟩,⟨n6⟩,⟨su⟩⟩
 clear H'
 obtain⟨as9,xe,ai8,rfl,HA,HK2,qq,mf,mo,iz,gi,HI0,HK,HB⟩:=hrel
 cases gk with
 | zero=>exact absurd HA.out (by simp[Fn.l1])
 | succ k2=>?_
 have H:=HA.out
 clear HA
 simp only[Fn.l1] at H
 by_cases vg:xe < (rd xo ai7)
 case neg=>
  rw[if_neg vg] at H
  have dn7:=decide_eq_false vg
  clear vg
  obtain⟨c48,H⟩:=pos_ H
  have lv3:=A_ c48
  clear c48
  obtain⟨eb2,hyq⟩:∃y_:List (List Int),y_=(af6 ++ [as9]):=⟨_,rfl⟩
  replace H:(Fn.l0 k2 a1 (rd xo ai7) vs (wrap64 (ji + 1)) ay ai8 nm eb2)=some (r1,r2,r3):=qh_
  have lv4:=A_ hyq
  clear hyq
  have H':=A_ H
  clear H
  have er9:=bl5.out
  have es0:=fb7.out
  obtain⟨bp3,bp4,bp5,bp6⟩:=blk2_ gi
  obtain⟨px,pz,cz4⟩:=Kd.R_slice qq.out
  subst cz4
  go_wp2_with (first|((with_reducible refine gate_builtin (b:=.append) (xs:=#[.tmp 59, .tmp 61]) rfl ?_);at_builtin;refine Kd.S_append (Kd.slice 3 (Kd.int .i64)) w.heap.size rfl (.tmp 59) (.tmp 61) 23 22 (.slice none 0 0) 24 rfl Try.underlying23 info22 rfl (by decide) (by omega) ac1 af6 as9 [.slice px as9.length pz] (fun k_=>some k_≠(.slice jg nm.length jh:Value).ownBlock) (fun k_=>some k_=(.slice px as9.length pz:Value).ownBlock) rfl rfl ?aP (fun k_ hk_=>((Kd.R_mono (ok':=fun k_=>((fun k_=>some k_≠(.slice jg nm.length jh:Value).ownBlock)) k_/\some k_≠(ac1:Value).ownBlock) (Kd.R_apart' (qq.out) (Kd.S_typed mo.out) (by decide)) (fun k_ hk=>⟨hk.1,hk.2⟩))).1 k_ hk_.symm) ?aF ?aO (Below.refl _ _) ?aS ?aL ?_;(case aP=>exact Kd.M_row (Kd.R_mono (Kd.R_tight rfl (Kd.R_mono (ok':=fun k_=>((fun k_=>some k_≠(.slice jg nm.length jh:Value).ownBlock)) k_/\some k_≠(ac1:Value).ownBlock) (Kd.R_apart' (qq.out) (Kd.S_typed mo.out) (by decide)) (fun k_ hk=>⟨hk.1,hk.2⟩))) (fun _ h_=>h_)));(case aF=>exact(fun k_ hk=>Kd.fresh' (Kd.R_lt (uR_ mf)) k_ hk));(case aO=>exact(by(with_reducible repeat(first|apply Kd.S_alloc|apply Kd.S_drewN|apply Kd.S_drew));exact Kd.S_mono mo.out (fun k_ hk=>⟨hk.2,fun e_=>hk.1 e_⟩)));(case aS=>exact(Jh (w:=w) (g:=g) (row:=none) (n6)));(case aL=>have:=lv3.out;omega);intro ob8 w52 ho hb hg hat;rw[<- lv4.out] at ho;replace mf:=A_ (Kd.R_over' (uR_ mf) (Kd.S_typed (uS_ mo)) (by decide) hg);replace iz:=(bg_ iz hg (Kd.S_ne mo.out iz.out (by decide)));replace gi:=(bg_ gi hg (Kd.S_ne mo.out gi.out (by decide)));replace HB:=A_ (below_weaken (su) HL.out hb);replace HI0:=A_ (Jo.grown (j8) hg (Jo.own_neS HI0.out mo.out (by decide)));replace HK:=A_ (Ja.trans (n6) (Ja.of_grown hg g) (Kd.S_base2 mo.out));have iv0:=A_ (ho);clear mo qq;clear ho hb hg hat;obtain⟨wy,xa,ga4⟩:=Kd.S_slice iv0.out;subst ga4;obtain⟨ik1,ik2,ik3,ik4⟩:=blk2_ gi))
  go_roundg k2
  case measure=>have:=HK1.out;have:=HK2.out;omega
  case rel=>exact⟨(wrap64 (ji + 1)),(ai8),(nm),(eb2),(.slice jg nm.length jh),(.slice wy eb2.length xa),(g3_),H',⟨g29_⟩,⟨ra_ mf⟩,⟨sa_ iv0⟩,⟨ba_ iz⟩,⟨ba_ gi⟩,⟨j8⟩,⟨n6⟩,⟨su⟩⟩
 rw[if_pos vg] at H
 have dn7:=decide_eq_true vg
 clear vg
 by_cases um:ji=xe
 ·rw[if_pos um] at H
  have do8:(ji == xe)=true:=beq_iff_eq.mpr um
  have lu4:(ji != xe)=false:=bne_eq_false_iff_eq.mpr um
  clear um
  obtain⟨rg,H⟩:=pos_ H
  have lu5:=A_ rg
  clear rg
  obtain⟨iu5,hyq⟩:∃y_:List Int,y_=(as9 ++ [0]):=⟨_,rfl⟩
  replace H:(Fn.l1 k2 a1 (rd xo ai7) vs ji iu5 (wrap64 (xe + 1)) ay ai8 nm af6)=some (r1,r2,r3):=qh_
  have lu6:=A_ hyq
  clear hyq
  have H':=A_ H
  clear H
  go_wp2_with (first|((with_reducible refine gate_builtin (b:=.append) (xs:=#[.tmp 54, .tmp 56]) rfl ?_);at_builtin;refine Kd.R_append (Kd.int .i64) w.heap.size rfl (.tmp 54) (.tmp 56) 22 3 (.int .i64 0) 8 rfl Try.underlying22 info3 rfl (by decide) (by omega) u9 as9 0 [.int .i64 0] (fun k_=>some k_≠(.slice jg nm.length jh:Value).ownBlock) (fun _=>False) rfl rfl ?aP (fun _ hk=>hk.elim) ?aF ?aO (Below.refl _ _) ?aS ?aL ?_;(case aP=>exact rfl);(case aF=>exact(fun k_ hk=>Kd.fresh' (Kd.R_lt (uR_ mf)) k_ hk));(case aO=>exact(uR_ qq));(case aS=>exact(Jh (w:=w) (g:=g) (row:=none) (n6)));(case aL=>have:=lu5.out;omega);intro ob5 ta ho hb hg hat;rw[<- lu6.out] at ho;replace mf:=A_ (Kd.R_after (ok:=(fun _=>True)) (yR_ mf (fun _ hk=>⟨trivial,hk⟩)) hg hat);replace mo:=A_ (Kd.S_after (ok:=(fun k_=>some k_≠(.slice jg nm.length jh:Value).ownBlock)) (yS_ mo (fun _ hk=>⟨hk.2,hk.1⟩)) hg hat);replace iz:=(bg_ iz hg (Kd.R_ne qq.out iz.out (by decide)));replace gi:=(bg_ gi hg (Kd.R_ne qq.out gi.out (by decide)));replace HB:=A_ (below_weaken (su) HL.out hb);replace HI0:=A_ (Jo.grown (j8) hg (Jo.own_ne HI0.out qq.out (by decide)));replace HK:=A_ (Ja.trans (n6) (Ja.of_grown hg g) (Kd.R_base2 qq.out));have lu7:=A_ (ho);clear qq;clear ho hb hg hat))
  go_roundg k2
  case measure=>have:=HK1.out;have:=HK2.out;omega
  case rel=>exact⟨(iu5),(wrap64 (xe + 1)),(ai8),(g3_),H',⟨g29_⟩,⟨uR_ lu7⟩,⟨by(with_reducible repeat(first|apply Kd.R_alloc|apply Kd.R_drewN|apply Kd.R_drew));exact Kd.R_mono mf.out (fun _ hk=>hk.2)⟩,⟨by(with_reducible repeat(first|apply Kd.S_alloc|apply Kd.S_drewN|apply Kd.S_drew));exact Kd.S_mono mo.out (fun _ hk=>⟨hk.2,hk.1⟩)⟩,⟨uB_ iz⟩,⟨uB_ gi⟩,⟨j8⟩,⟨n6⟩,⟨su⟩⟩
 rw[if_neg um] at H
 have do8:(ji == xe)=false:=beq_eq_false_iff_ne.mpr um
 have lu4:(ji != xe)=true:=bne_iff_ne.mpr um
 replace H:=Option.bind_eq_some_iff.mp H
 obtain⟨⟨gm9,cf4⟩,iu6,H⟩:=H
 try dsimp only at H
 have A38:=A_ iu6
 clear iu6
 by_cases yc:gm9 > 0
 ·rw[if_pos yc] at H
  have fo7:=decide_eq_true yc
  clear yc
  replace H:=Option.bind_eq_some_iff.mp H
  obtain⟨⟨fc0,gn0⟩,iu7,H⟩:=H
  try dsimp only at H
  have r8:=A_ iu7
  clear iu7
  obtain⟨oz,H⟩:=pos_ H
  have lu8:=A_ oz
  clear oz
  obtain⟨iu8,hyq⟩:∃y_:List Int,y_=(as9 ++ [fc0]):=⟨_,rfl⟩
  replace H:(Fn.l1 k2 a1 (rd xo ai7) vs ji iu8 (wrap64 (xe + 1)) ay gn0 nm af6)=some (r1,r2,r3):=qh_
  have lu9:=A_ hyq
  clear hyq
  have H':=A_ H
  clear H
  go_wp2_with (first|(go_at_call 70;(refine(Fa.calls k2 g ay ai8 3 gm9 cf4 w0 _ j8 su A38.out).mono ?_);rintro e w42 ⟨rfl,hi,hb,hk⟩;replace qq:=A_ (Kd.R_mono (Kd.R_keep (Jo.apart (show Jo w0 _ g ay ai8 from j8) (uR_ qq) (by decide)) hk (fun _ h=>h.2)) (fun _ h=>h.1));replace mf:=A_ (Kd.R_mono (Kd.R_keep (Jo.apart (show Jo w0 _ g ay ai8 from j8) (uR_ mf) (by decide)) hk (fun _ h=>h.2)) (fun _ h=>h.1));replace mo:=A_ (Kd.S_mono (Kd.S_keep (Jo.apartS (show Jo w0 _ g ay ai8 from j8) (uS_ mo) (by decide)) hk (fun _ h=>h.2)) (fun _ h=>h.1));replace iz:=kb_ hk iz bv4;replace gi:=kb_ hk gi bl5;replace HK:=A_ (Ja.trans (n6) hk (.inl rfl));replace HB:=A_ (hb);replace HI0:=A_ (hi))|((with_reducible refine gc_ 70 ?_);refine gl_ 53 Try.func70 #[.pointer (some ⟨g,0,none⟩), .int .i64 10] ?_;(refine(Fa.calls k2 g ay cf4 10 fc0 gn0 w0 _ j8 su r8.out).mono ?_);rintro e w43 ⟨rfl,hi,hb,hk⟩;refine⟨_,rfl,?_⟩;replace qq:=A_ (Kd.R_mono (Kd.R_keep (Jo.apart (show Jo w0 _ g ay cf4 from j8) (uR_ qq) (by decide)) hk (fun _ h=>h.2)) (fun _ h=>h.1));replace mf:=A_ (Kd.R_mono (Kd.R_keep (Jo.apart (show Jo w0 _ g ay cf4 from j8) (uR_ mf) (by decide)) hk (fun _ h=>h.2)) (fun _ h=>h.1));replace mo:=A_ (Kd.S_mono (Kd.S_keep (Jo.apartS (show Jo w0 _ g ay cf4 from j8) (uS_ mo) (by decide)) hk (fun _ h=>h.2)) (fun _ h=>h.1));replace iz:=kb_ hk iz bv4;replace gi:=kb_ hk gi bl5;replace HK:=A_ (Ja.trans (n6) hk (.inl rfl));replace HB:=A_ (hb);replace HI0:=A_ (hi))|((with_reducible refine gate_builtin (b:=.append) (xs:=#[.tmp 54, .tmp 56]) rfl ?_);at_builtin;refine Kd.R_append (Kd.int .i64) w.heap.size rfl (.tmp 54) (.tmp 56) 22 3 (.int .i64 0) 8 rfl Try.underlying22 info3 rfl (by decide) (by omega) u9 as9 fc0 [.int .i64 fc0] (fun k_=>some k_≠(.slice jg nm.length jh:Value).ownBlock) (fun _=>False) rfl rfl ?aP (fun _ hk=>hk.elim) ?aF ?aO (Below.refl _ _) ?aS ?aL ?_;(case aP=>exact rfl);(case aF=>exact(fun k_ hk=>Kd.fresh' (Kd.R_lt (uR_ mf)) k_ hk));(case aO=>exact(uR_ qq));(case aS=>exact(Jh (w:=w) (g:=g) (row:=none) (n6)));(case aL=>have:=lu8.out;omega);intro ob6 w44 ho hb hg hat;rw[<- lu9.out] at ho;replace mf:=A_ (Kd.R_after (ok:=(fun _=>True)) (yR_ mf (fun _ hk=>⟨trivial,hk⟩)) hg hat);replace mo:=A_ (Kd.S_after (ok:=(fun k_=>some k_≠(.slice jg nm.length jh:Value).ownBlock)) (yS_ mo (fun _ hk=>⟨hk.2,hk.1⟩)) hg hat);replace iz:=(bg_ iz hg (Kd.R_ne qq.out iz.out (by decide)));replace gi:=(bg_ gi hg (Kd.R_ne qq.out gi.out (by decide)));replace HB:=A_ (below_weaken (su) HL.out hb);replace HI0:=A_ (Jo.grown (j8) hg (Jo.own_ne HI0.out qq.out (by decide)));replace HK:=A_ (Ja.trans (n6) (Ja.of_grown hg g) (Kd.R_base2 qq.out));have lv0:=A_ (ho);clear qq;clear ho hb hg hat))
  go_roundg k2
  case measure=>have:=HK1.out;have:=HK2.out;omega
  case rel=>exact⟨(iu8),(wrap64 (xe + 1)),(gn0),(g3_),H',⟨g29_⟩,⟨uR_ lv0⟩,⟨by(with_reducible repeat(first|apply Kd.R_alloc|apply Kd.R_drewN|apply Kd.R_drew));exact Kd.R_mono mf.out (fun _ hk=>hk.2)⟩,⟨by(with_reducible repeat(first|apply Kd.S_alloc|apply Kd.S_drewN|apply Kd.S_drew));exact Kd.S_mono mo.out (fun _ hk=>⟨hk.2,hk.1⟩)⟩,⟨uB_ iz⟩,⟨uB_ gi⟩,⟨j8⟩,⟨n6⟩,⟨su⟩⟩
 rw[if_neg yc] at H
 have fo7:=decide_eq_false yc
 clear yc
 obtain⟨c45,H⟩:=pos_ H
 have fp2:=A_ c45
 clear c45
 obtain⟨iu9,hyq⟩:∃y_:List Int,y_=(as9 ++ [0]):=⟨_,rfl⟩
 replace H:(Fn.l1 k2 a1 (rd xo ai7) vs ji iu9 (wrap64 (xe + 1)) ay cf4 nm af6)=some (r1,r2,r3):=qh_
 have lv1:=A_ hyq
 clear hyq
 have H':=A_ H
 clear H
 go_wp2_with (first|(go_at_call 70;(refine(Fa.calls k2 g ay ai8 3 gm9 cf4 w0 _ j8 su A38.out).mono ?_);rintro e wt ⟨rfl,hi,hb,hk⟩;replace qq:=A_ (Kd.R_mono (Kd.R_keep (Jo.apart (show Jo w0 _ g ay ai8 from j8) (uR_ qq) (by decide)) hk (fun _ h=>h.2)) (fun _ h=>h.1));replace mf:=A_ (Kd.R_mono (Kd.R_keep (Jo.apart (show Jo w0 _ g ay ai8 from j8) (uR_ mf) (by decide)) hk (fun _ h=>h.2)) (fun _ h=>h.1));replace mo:=A_ (Kd.S_mono (Kd.S_keep (Jo.apartS (show Jo w0 _ g ay ai8 from j8) (uS_ mo) (by decide)) hk (fun _ h=>h.2)) (fun _ h=>h.1));replace iz:=kb_ hk iz bv4;replace gi:=kb_ hk gi bl5;replace HK:=A_ (Ja.trans (n6) hk (.inl rfl));replace HB:=A_ (hb);replace HI0:=A_ (hi))|((with_reducible refine gate_builtin (b:=.append) (xs:=#[.tmp 54, .tmp 56]) rfl ?_);at_builtin;refine Kd.R_append (Kd.int .i64) w.heap.size rfl (.tmp 54) (.tmp 56) 22 3 (.int .i64 0) 8 rfl Try.underlying22 info3 rfl (by decide) (by omega) u9 as9 0 [.int .i64 0] (fun k_=>some k_≠(.slice jg nm.length jh:Value).ownBlock) (fun _=>False) rfl rfl ?aP (fun _ hk=>hk.elim) ?aF ?aO (Below.refl _ _) ?aS ?aL ?_;(case aP=>exact rfl);(case aF=>exact(fun k_ hk=>Kd.fresh' (Kd.R_lt (uR_ mf)) k_ hk));(case aO=>exact(uR_ qq));(case aS=>exact(Jh (w:=w) (g:=g) (row:=none) (n6)));(case aL=>have:=fp2.out;omega);intro ob7 w47 ho hb hg hat;rw[<- lv1.out] at ho;replace mf:=A_ (Kd.R_after (ok:=(fun _=>True)) (yR_ mf (fun _ hk=>⟨trivial,hk⟩)) hg hat);replace mo:=A_ (Kd.S_after (ok:=(fun k_=>some k_≠(.slice jg nm.length jh:Value).ownBlock)) (yS_ mo (fun _ hk=>⟨hk.2,hk.1⟩)) hg hat);replace iz:=(bg_ iz hg (Kd.R_ne qq.out iz.out (by decide)));replace gi:=(bg_ gi hg (Kd.R_ne qq.out gi.out (by decide)));replace HB:=A_ (below_weaken (su) HL.out hb);replace HI0:=A_ (Jo.grown (j8) hg (Jo.own_ne HI0.out qq.out (by decide)));replace HK:=A_ (Ja.trans (n6) (Ja.of_grown hg g) (Kd.R_base2 qq.out));have lv2:=A_ (ho);clear qq;clear ho hb hg hat))
 go_roundg k2
 case measure=>have:=HK1.out;have:=HK2.out;omega
 case rel=>exact⟨(iu9),(wrap64 (xe + 1)),(cf4),(g3_),H',⟨g29_⟩,⟨uR_ lv2⟩,⟨by(with_reducible repeat(first|apply Kd.R_alloc|apply Kd.R_drewN|apply Kd.R_drew));exact Kd.R_mono mf.out (fun _ hk=>hk.2)⟩,⟨by(with_reducible repeat(first|apply Kd.S_alloc|apply Kd.S_drewN|apply Kd.S_drew));exact Kd.S_mono mo.out (fun _ hk=>⟨hk.2,hk.1⟩)⟩,⟨uB_ iz⟩,⟨uB_ gi⟩,⟨j8⟩,⟨n6⟩,⟨su⟩⟩
mutual
def Ff.j0:Nat->List Int->Int->Int->Int->Int->Int->Option (Int × Int × Int × Int × Int)
 | 0,_,_,_,_,_,_=>none
 | k + 1,jv,nl,eb3,eb4,eb5,eb6=>(F5.f k jv nl 40).bind fun bt650=>(if bt650.1=true then((Fa.f k jv bt650.2 120).bind fun bt652=>(Ff.j1 k jv bt652.2 eb3 eb4 eb5 (wrap64 ((wrap64 (eb6 + bt652.1)) - 10)))) else(Ff.j1 k jv bt650.2 eb3 eb4 eb5 eb6))
def Ff.j1:Nat->List Int->Int->Int->Int->Int->Int->Option (Int × Int × Int × Int × Int)
 | 0,_,_,_,_,_,_=>none
 | k + 1,jv,nl,eb3,eb4,eb5,eb6=>(F5.f k jv nl 40).bind fun bt654=>(if bt654.1=true then((Fa.f k jv bt654.2 7).bind fun bt656=>(some (eb3,wrap64 ((wrap64 (eb4 + bt656.1)) - 2),eb5,eb6,bt656.2))) else(some (eb3,eb4,eb5,eb6,bt654.2)))
end
def Ff.f (k:Nat) (ay:List Int) (eh:Int) (cm:List Int) (cx:List (List Int)) (eb:List (S25)):Option (Int × Int × Int × Int × Int):=(some (([0,0,1,1,1,1,2,3,4]:List Int):List Int)).bind fun cr=>((Fa.f k ay eh 9).bind fun bt634=>(if 0<=bt634.1 then(if bt634.1 < (cr.length:Int) then((Fa.f k ay bt634.2 60).bind fun bt637=>(if (wrap64 ((rd cr bt634.1) + (wrap64 ((wrap64 (Int.tdiv bt637.1 59)) * 5))))=0 then((Fa.f k ay bt637.2 (mx (cm.length:Int) 1)).bind fun bt640=>((Fa.f k ay bt640.2 21).bind fun bt642=>(Ff.j0 k ay bt642.2 (wrap64 ((rd cr bt634.1) + (wrap64 ((wrap64 (Int.tdiv bt637.1 59)) * 5)))) bt640.1 0 bt642.1))) else(if (wrap64 ((rd cr bt634.1) + (wrap64 ((wrap64 (Int.tdiv bt637.1 59)) * 5))))=1 then((Fa.f k ay bt637.2 (mx (cm.length:Int) 1)).bind fun bt644=>((Fa.f k ay bt644.2 (mx (cm.length:Int) 1)).bind fun bt646=>((Fa.f k ay bt646.2 10).bind fun bt648=>(Ff.j0 k ay bt648.2 (wrap64 ((rd cr bt634.1) + (wrap64 ((wrap64 (Int.tdiv bt637.1 59)) * 5)))) bt644.1 bt646.1 bt648.1)))) else(Ff.j0 k ay bt637.2 (wrap64 ((rd cr bt634.1) + (wrap64 ((wrap64 (Int.tdiv bt637.1 59)) * 5)))) 0 0 0)))) else(none)) else(none)))
def Ff.T2:Bool × List (List Nat × List Nat):=(true,[([],[]),([],[]),([1],[1]),([0,2],[0,2]),([3],[3]),([],[]),([5,2],[5]),([6],[6]),([7],[7]),([4,8],[4,8]),([9],[9]),([],[]),([11,10,6,0,1,2,3,4,5,6,7,8,9,10,11],[10,11])])
def Ff.B2:List Nat:=[0,0,2,7,15,0,38,102,230,511,1023,0,4095]
theorem Ff.tab2:rtab .any (opsOf Try.f103 2)=Ff.T2:=by kernel_rfl
theorem Ff.bits2:waitsOk Ff.T2.2 Ff.B2=true:=by kernel_rfl
def Ff.T12:Bool × List (List Nat × List Nat):=(true,[([],[]),([0],[0]),([],[]),([2],[2]),([1,3],[1,3]),([4],[4]),([0,1,2,3,4,5],[]),([6,5,3,0,1,2,3,4,5],[5,6])])
def Ff.B12:List Nat:=[0,1,0,4,15,31,63,127]
theorem Ff.tab12:rtab .any (opsOf Try.f103 12)=Ff.T12:=by kernel_rfl
theorem Ff.bits12:waitsOk Ff.T12.2 Ff.B12=true:=by kernel_rfl
def Ff.T14:Bool × List (List Nat × List Nat):=(true,[([],[]),([0],[0]),([],[]),([2],[2]),([1,3],[1,3]),([4],[4]),([0,1,2,3,4,5],[]),([6,5,3,0,1,2,3,4,5],[5,6])])
def Ff.B14:List Nat:=[0,1,0,4,15,31,63,127]
theorem Ff.tab14:rtab .any (opsOf Try.f103 14)=Ff.T14:=by kernel_rfl
theorem Ff.bits14:waitsOk Ff.T14.2 Ff.B14=true:=by kernel_rfl
theorem d7 {p:Prop} (h:p:=by repeat(first|(with_reducible first|exact HI0.out|apply Jo.alloc|apply Jo.drewN|apply Jo.drew|apply Jo.set_1|refine Jo.far ?_ iv2.out _|refine Jo.far ?_ gn1.out _|refine Jo.far ?_ l3.out _)|exact HI0.out)):p:=h
theorem ft {p:Prop} (h:p:=by repeat(first|(with_reducible first|exact HK.out|apply Ja.set_|apply Ji|apply Jj|apply keep_alloc|refine Jk ?_ lv7.out _|refine Jk ?_ lv8.out _|refine Jk ?_ ny.out _)|exact HK.out)):p:=h
theorem go {p:Prop} (h:p:=by repeat(first|(with_reducible first|exact HB.out|apply G3|apply G2|apply G1|refine G0 ?_ (Jo.ge HI0.out)|refine G0 ?_ lv9.out|refine G0 ?_ lw0.out|refine G0 ?_ nz.out)|exact HB.out)):p:=h
theorem Ff.calls.z0 {p:Prop} (h:p:=by exact norm_ (g10_) (hJ0_2_4_6_11 (.slice (some adz_v632) cr.length zg,adz_v632,bl) _ ⟨(uR_ fb),⟨_,rfl⟩,(uB_ dd),(uB_ db),(uB_ di),ny.out,nz.out,l3.out,jd.out,ju.out,kl.out,js.out,km.out,(d7),(ft),(go)⟩)):p:=h
theorem Ff.calls.z1 {p:Prop} (h:p:=by exact norm_ (g10_) (hJ0_2_6_11 (.slice (some adz_v632) cr.length zg,adz_v632,bl) _ ⟨(uR_ fb),⟨_,rfl⟩,(uB_ dd),(uB_ db),(uB_ di),ny.out,nz.out,l3.out,jd.out,ju.out,kl.out,js.out,km.out,(d7),(ft),(go)⟩)):p:=h
theorem Ff.calls.z2 {p:Prop} (h:p:=by exact norm_ (g10_) (hJ0_2_11 (.slice (some adz_v632) cr.length br,adz_v632,bl) _ ⟨(uR_ fb),⟨_,rfl⟩,(uB_ dd),(uB_ db),(uB_ di),ny.out,nz.out,l3.out,jd.out,ju.out,kl.out,js.out,km.out,(d7),(ft),(go)⟩)):p:=h
set_option maxHeartbeats 8000000 in
set_option maxRecDepth 100000 in
theorem Ff.calls (k:Nat) (g:Nat) (ay:List Int) (eh:Int) (ff:Option Addr) (fj:Nat) (cm:List Int) (fx:Option Addr) (fy:Nat) (cx:List (List Int)) (i3:Option Addr) (iu:Nat) (eb:List (S25)) (r1:Int) (r2:Int) (r3:Int) (r4:Int) (r5:Int) (w0 w:World) (hI:Jo w0 w g ay eh) (hB:Below w0.heap.size w0 w) (zt:Kd.C (Kd.int .i64) w ff cm.length cm) (zu:cm.length<=fj) (hf1_0:∀ad,ff=some ad->0 < cm.length->ad.block≠g) (zv:∀W_,Ja w W_ g none->Kd.C (Kd.slice 3 (Kd.int .i64)) W_ fx cx.length cx) (zw:cx.length<=fy) (bx2:∀W_,Ja w W_ g none->Kd.C k25 W_ i3 eb.length eb) (bx3:eb.length<=iu) (h:Ff.f k ay eh cm cx eb=some (r1,r2,r3,r4,r5)) :
  Calls Try.prog 103 #[.pointer (some ⟨g,0,none⟩), .agg #[.slice ff cm.length fj, .slice fx cx.length fy, .slice i3 eb.length iu]] w fun e w'=>e = .returned (.agg #[.int .i64 r1, .int .i64 r2, .int .i64 r3, .int .i64 r4])/\Jo w0 w' g ay r5/\Below w0.heap.size w0 w'/\Ja w w' g none:=by
 have hu28:=Try.underlying28
 have hu69:=Try.underlying69
 have ao5:=A_ zt
 have ba2:=A_ zu
 clear zt zu
 have ba3:=A_ zv
 have bm2:=A_ zw
 clear zv zw
 have de3:=A_ bx2
 have fd8:=A_ bx3
 clear bx2 bx3
 have HI0:=A_ hI
 have HK:=A_ (Ja.refl w g none)
 have HL:=A_ hB.size
 clear hI
 have HW0:=A_ hB.size
 have HB:=A_ hB
 clear hB
 have H:=h
 unfold Ff.f at H
 clear h
 obtain⟨ji3,hji3⟩:∃j_:Int,(mx (cm.length:Int) 1)=j_:=⟨_,rfl⟩
 first|rw[hji3] at H|simp only[hji3] at H
 (try(have hji3l:1<=ji3:=by(rw[<- hji3];unfold mx;(repeat' split) <;> omega)))
 (try(have hji3m:0<=ji3:=by omega))
 have hji3_:(if (cm.length:Int) < 1 then 1 else(cm.length:Int))=ji3:=hji3
 obtain⟨cr,hyq⟩:∃y_:List Int,y_=(([0,0,1,1,1,1,2,3,4]:List Int)):=⟨_,rfl⟩
 replace H:((Fa.f k ay eh 9).bind fun bt634=>(if 0<=bt634.1 then(if bt634.1 < (cr.length:Int) then((Fa.f k ay bt634.2 60).bind fun bt637=>(if (wrap64 ((rd cr bt634.1) + (wrap64 ((wrap64 (Int.tdiv bt637.1 59)) * 5))))=0 then((Fa.f k ay bt637.2 (ji3)).bind fun bt640=>((Fa.f k ay bt640.2 21).bind fun bt642=>(Ff.j0 k ay bt642.2 (wrap64 ((rd cr bt634.1) + (wrap64 ((wrap64 (Int.tdiv bt637.1 59)) * 5)))) bt640.1 0 bt642.1))) else(if (wrap64 ((rd cr bt634.1) + (wrap64 ((wrap64 (Int.tdiv bt637.1 59)) * 5))))=1 then((Fa.f k ay bt637.2 (ji3)).bind fun bt644=>((Fa.f k ay bt644.2 (ji3)).bind fun bt646=>((Fa.f k ay bt646.2 10).bind fun bt648=>(Ff.j0 k ay bt648.2 (wrap64 ((rd cr bt634.1) + (wrap64 ((wrap64 (Int.tdiv bt637.1 59)) * 5)))) bt644.1 bt646.1 bt648.1)))) else(Ff.j0 k ay bt637.2 (wrap64 ((rd cr bt634.1) + (wrap64 ((wrap64 (Int.tdiv bt637.1 59)) * 5)))) 0 0 0)))) else(none)) else(none)))=some (r1,r2,r3,r4,r5):=qh_
 have at0:=A_ hyq
 clear hyq
 replace H:=Option.bind_eq_some_iff.mp H
 obtain⟨⟨e6,op⟩,r8,H⟩:=H
 try dsimp only at H
 have A4:=A_ r8
 clear r8
 obtain⟨j9,H⟩:=pd_ H
 obtain⟨qu,H⟩:=pd_ H
 replace H:=Option.bind_eq_some_iff.mp H
 obtain⟨⟨gs,qd⟩,A70,H⟩:=H
 try dsimp only at H
 have A7:=A_ A70
 clear A70
 have HC8:=A_ H
 clear H
 go_enter Try.func103,Try.ntmps103
 try go_wp2_with (first|((with_reducible refine gd_ 3 ?_);refine bx_ (N:=3) #[.slice ff cm.length fj, .slice fx cx.length fy, .slice i3 eb.length iu] 28 ?_;intro ep hg w9 hbox hb;replace HB:=hs_ (go) hb;have dd:=A_ (hbox);have lv7:=A_ ((g19_:w.heap.size<=ep));have lv9:=A_ (Nat.le_trans HW0.out lv7.out);replace HK:=kt_ (ft) hb;have iv2:=A_ ((by rw[hg];exact Nat.ne_of_lt (Jo.lt (show Jo w0 _ g ay eh from d7)):g≠ep));have vt:=A_ ((by rw[hg];exact Nat.ne_of_gt (Jo.lt (show Jo w0 _ g ay eh from d7)):ep≠g));replace HI0:=A_ (Jo.below (d7) hb);clear hb hbox hg)|((with_reducible refine gd_ 4 ?_);refine bx_ (N:=4) #[.int .i64 0, .int .i64 0, .int .i64 0, .int .i64 0] 69 ?_;intro ek hg w10 hbox hb;replace HB:=hs_ (go) hb;have db:=A_ (hbox);have lv8:=A_ ((g19_:w.heap.size<=ek));have lw0:=A_ (Nat.le_trans HW0.out lv8.out);replace HK:=kt_ (ft) hb;have gn2:=nl_ dd hg;have gn3:=nr_ dd hg;replace dd:=bb_ dd hb;have gn1:=A_ ((by rw[hg];exact Nat.ne_of_lt (Jo.lt (show Jo w0 _ g ay eh from d7)):g≠ek));have vc:=A_ ((by rw[hg];exact Nat.ne_of_gt (Jo.lt (show Jo w0 _ g ay eh from d7)):ek≠g));replace HI0:=A_ (Jo.below (d7) hb);clear hb hbox hg;have aq2:=gn2.out;have aq3:=gn3.out;have ci9:=vt.out;have cj0:=iv2.out;obtain⟨zy,zz,ej5,z8,z9,ej6⟩:=blk3_ dd))
 have pi636:(0<=(e6:Int))=True:=eq_true (od_)
 have qi636:(e6 < (cr.length:Int))=True:=eq_true (od_)
 replace dd:=bd_ dd
 replace db:=bd_ db
 replace HI0:=A_ (Jo.drew HI0.out)
 replace HK:=A_ (Jj HK.out)
 replace HB:=A_ (G1 HB.out)
 refine start_ (n:=13) (S:=fun w'=>True) (ds:=[]) (tl_ 13 0) (g0_) rfl (g0_) trivial (fun hHeld=>?_);refine Jl Ff.tab2 Ff.bits2 (fun HT_ HW_=>?_)
 generalize w10.drew=w14 at dd db HI0 HK HB hHeld |-
 refine pw_ 1 13 (tl_ 13 2) ?_
 refine pw_ 5 17 (tl_ 13 34) ?_
 refine join_ (σ:=Value × Addr × Nat) 1 (tl_ 13 4095) (fun s_=>[(12,s_.1),(14, .int .i64 e6),(16, .int .i64 (rd cr e6)),(18, .int .i64 gs),(6, .pointer (some ⟨s_.2.2,0,none⟩)),(15, .pointer (some (s_.2.1.add (e6).toNat))),(19, .int .i64 (wrap64 (Int.tdiv gs 59))),(20, .int .i64 (wrap64 ((wrap64 (Int.tdiv gs 59)) * 5))),(21, .int .i64 (wrap64 ((rd cr e6) + (wrap64 ((wrap64 (Int.tdiv gs 59)) * 5))))),(22, .agg #[.int .i64 (wrap64 ((rd cr e6) + (wrap64 ((wrap64 (Int.tdiv gs 59)) * 5)))), .int .i64 0, .int .i64 0, .int .i64 0])]) (fun s_ w'=>(Kd.R (Kd.int .i64) 3 w' w.heap.size (fun _=>True) s_.1 cr)/\(∃c_,(s_.1:Value) = .slice (some s_.2.1) cr.length c_)/\(hc_ w' ep #[.slice ff cm.length fj, .slice fx cx.length fy, .slice i3 eb.length iu] 28)/\(hc_ w' ek #[.int .i64 0, .int .i64 0, .int .i64 0, .int .i64 0] 69)/\(hc_ w' s_.2.2 #[.int .i64 0, .int .i64 0, .int .i64 0, .int .i64 0] 69)/\(w.heap.size<=s_.2.2)/\(w0.heap.size<=s_.2.2)/\(g≠s_.2.2)/\(s_.2.2≠g)/\(ep≠s_.2.2)/\(s_.2.2≠ep)/\(ek≠s_.2.2)/\(s_.2.2≠ek)/\(Jo w0 w' g ay qd)/\(Ja w w' g none)/\(Below w0.heap.size w0 w')) ?_ ?_
 rotate_left
 ·intro hJ0_2_4_6_11
  refine join_ (σ:=Value × Addr) 2 (tl_ 13 2047) (fun s_=>[(12,s_.1),(14, .int .i64 e6),(16, .int .i64 (rd cr e6)),(18, .int .i64 gs),(15, .pointer (some (s_.2.add (e6).toNat))),(19, .int .i64 (wrap64 (Int.tdiv gs 59))),(20, .int .i64 (wrap64 ((wrap64 (Int.tdiv gs 59)) * 5))),(21, .int .i64 (wrap64 ((rd cr e6) + (wrap64 ((wrap64 (Int.tdiv gs 59)) * 5))))),(22, .agg #[.int .i64 (wrap64 ((rd cr e6) + (wrap64 ((wrap64 (Int.tdiv gs 59)) * 5)))), .int .i64 0, .int .i64 0, .int .i64 0])]) (fun s_ w'=>(Kd.R (Kd.int .i64) 3 w' w.heap.size (fun _=>True) s_.1 cr)/\(∃c_,(s_.1:Value) = .slice (some s_.2) cr.length c_)/\(hc_ w' ep #[.slice ff cm.length fj, .slice fx cx.length fy, .slice i3 eb.length iu] 28)/\(hc_ w' ek #[.int .i64 0, .int .i64 0, .int .i64 0, .int .i64 0] 69)/\(Jo w0 w' g ay qd)/\(Ja w w' g none)/\(Below w0.heap.size w0 w')) ?_ ?_
  ·skip
   rintro⟨nn,adz_v632⟩ j4 ⟨h0_,h1_,h2_,h3_,h4_,h5_,h6_⟩
   have fb:Gx (Kd.R (Kd.int .i64) 3 j4 w.heap.size (fun _=>True) nn cr):=⟨h0_⟩
   have HA_HO633:Gx (∃c_,(nn:Value) = .slice (some adz_v632) cr.length c_):=⟨h1_⟩
   replace dd:Gx (hc_ j4 ep #[.slice ff cm.length fj, .slice fx cx.length fy, .slice i3 eb.length iu] 28):=⟨h2_⟩
   replace db:Gx (hc_ j4 ek #[.int .i64 0, .int .i64 0, .int .i64 0, .int .i64 0] 69):=⟨h3_⟩
   replace HI0:Gx (Jo w0 j4 g ay qd):=⟨h4_⟩
   replace HK:Gx (Ja w j4 g none):=⟨h5_⟩
   replace HB:Gx (Below w0.heap.size w0 j4):=⟨h6_⟩
   clear h0_ h1_ h2_ h3_ h4_ h5_ h6_
   have hHeld:=trivial
   obtain⟨zg,bg4⟩:=HA_HO633.out
   clear HA_HO633
   subst bg4
   refine norm_ (a':=?_) ?_ ?_
   rotate_left
   · exact sq_
   refine one_ (i:=11) (N:=some 6) (tl_ 13 4095) rfl rfl (Jn HT_.out (g0_)) (by decide) (fun K hK=>?_)
   refine bs_ (N:=6) #[.int .i64 0, .int .i64 0, .int .i64 0, .int .i64 0] 69 ?_
   intro bl hg yu hbox hb
   replace fb:=rb_ fb hb
   replace HB:=hs_ (go) hb
   have di:=A_ (hbox)
   have ny:=A_ ((g19_:w.heap.size<=bl))
   have nz:=A_ (Nat.le_trans HW0.out ny.out)
   replace HK:=kt_ (ft) hb
   have ju:=nl_ dd hg
   have kl:=nr_ dd hg
   replace dd:=bb_ dd hb
   have js:=nl_ db hg
   have km:=nr_ db hg
   replace db:=bb_ db hb
   have l3:=A_ ((by rw[hg];exact Nat.ne_of_lt (Jo.lt (show Jo w0 _ g ay qd from d7)):g≠bl))
   have jd:=A_ ((by rw[hg];exact Nat.ne_of_gt (Jo.lt (show Jo w0 _ g ay qd from d7)):bl≠g))
   replace HI0:=A_ (Jo.below (d7) hb)
   clear hb hbox hg
   refine hK.out _ _ trivial (fun hHeld=>?_)
   clear hK K
   refine nm_ ?_
   exact Ff.calls.z0
  intro hJ0_2_4_6
  refine join_ (σ:=Value × Addr × Nat) 6 (tl_ 13 2111) (fun s_=>[(12,s_.1),(14, .int .i64 e6),(16, .int .i64 (rd cr e6)),(6, .pointer (some ⟨s_.2.2,0,none⟩)),(15, .pointer (some (s_.2.1.add (e6).toNat)))]) (fun s_ w'=>(Kd.R (Kd.int .i64) 3 w' w.heap.size (fun _=>True) s_.1 cr)/\(∃c_,(s_.1:Value) = .slice (some s_.2.1) cr.length c_)/\(hc_ w' ep #[.slice ff cm.length fj, .slice fx cx.length fy, .slice i3 eb.length iu] 28)/\(hc_ w' ek #[.int .i64 0, .int .i64 0, .int .i64 0, .int .i64 0] 69)/\(hc_ w' s_.2.2 #[.int .i64 0, .int .i64 0, .int .i64 0, .int .i64 0] 69)/\(w.heap.size<=s_.2.2)/\(w0.heap.size<=s_.2.2)/\(g≠s_.2.2)/\(s_.2.2≠g)/\(ep≠s_.2.2)/\(s_.2.2≠ep)/\(ek≠s_.2.2)/\(s_.2.2≠ek)/\(Jo w0 w' g ay op)/\(Ja w w' g none)/\(Below w0.heap.size w0 w')) ?_ ?_
  ·skip
   rintro⟨nn,adz_v632,bl⟩ j4 ⟨h0_,h1_,h2_,h3_,h4_,h5_,h6_,h7_,h8_,h9_,h10_,h11_,h12_,h13_,h14_,h15_⟩
   have fb:Gx (Kd.R (Kd.int .i64) 3 j4 w.heap.size (fun _=>True) nn cr):=⟨h0_⟩
   have HA_HO633:Gx (∃c_,(nn:Value) = .slice (some adz_v632) cr.length c_):=⟨h1_⟩
   replace dd:Gx (hc_ j4 ep #[.slice ff cm.length fj, .slice fx cx.length fy, .slice i3 eb.length iu] 28):=⟨h2_⟩
   replace db:Gx (hc_ j4 ek #[.int .i64 0, .int .i64 0, .int .i64 0, .int .i64 0] 69):=⟨h3_⟩
   have di:Gx (hc_ j4 bl #[.int .i64 0, .int .i64 0, .int .i64 0, .int .i64 0] 69):=⟨h4_⟩
   have ny:Gx (w.heap.size<=bl):=⟨h5_⟩
   have nz:Gx (w0.heap.size<=bl):=⟨h6_⟩
   have l3:Gx (g≠bl):=⟨h7_⟩
   have jd:Gx (bl≠g):=⟨h8_⟩
   have ju:Gx (ep≠bl):=⟨h9_⟩
   have kl:Gx (bl≠ep):=⟨h10_⟩
   have js:Gx (ek≠bl):=⟨h11_⟩
   have km:Gx (bl≠ek):=⟨h12_⟩
   replace HI0:Gx (Jo w0 j4 g ay op):=⟨h13_⟩
   replace HK:Gx (Ja w j4 g none):=⟨h14_⟩
   replace HB:Gx (Below w0.heap.size w0 j4):=⟨h15_⟩
   clear h0_ h1_ h2_ h3_ h4_ h5_ h6_ h7_ h8_ h9_ h10_ h11_ h12_ h13_ h14_ h15_
   have hHeld:=trivial
   obtain⟨zg,bg4⟩:=HA_HO633.out
   clear HA_HO633
   subst bg4
   refine norm_ (a':=?_) ?_ ?_
   rotate_left
   · exact sq_
   refine one_ (i:=6) (N:=some 18) (tl_ 13 2175) rfl rfl (Jn HT_.out (g0_)) (by decide) (fun K hK=>?_)
   refine goes_ Try.func70 (g0_) rfl #[.pointer (some ⟨g,0,none⟩), .int .i64 60] (by rfl) rfl rfl (gM_) ?_
   refine(Fa.calls k g ay op 60 gs qd w0 _ d7 go A7.out).mono ?_
   rintro e yu ⟨rfl,hi,hb,hk⟩
   refine⟨_,rfl,?_⟩
   replace dd:=kb_ hk dd vt
   replace db:=kb_ hk db vc
   replace fb:=A_ (Kd.R_mono (Kd.R_keep (Jo.apart (show Jo w0 _ g ay op from d7) (uR_ fb) (by decide)) hk (fun _ h=>h.2)) (fun _ h=>h.1))
   replace di:=kb_ hk di jd
   replace HK:=A_ (Ja.trans (ft) hk (.inl rfl))
   replace HB:=A_ (hb)
   replace HI0:=A_ (hi)
   refine hK.out _ _ trivial (fun hHeld=>?_)
   clear hK K
   refine nm_ ?_
   refine pw_ 7 19 (tl_ 13 2303) ?_
   refine pw_ 8 20 (tl_ 13 2559) ?_
   refine pw_ 9 21 (tl_ 13 3071) ?_
   refine pw_ 10 22 (tl_ 13 4095) ?_
   exact Ff.calls.z0
  intro hJ0_2_4_11
  refine join_ (σ:=Value × Addr × Nat) 4 (tl_ 13 2543) (fun s_=>[(12,s_.1),(14, .int .i64 e6),(18, .int .i64 gs),(6, .pointer (some ⟨s_.2.2,0,none⟩)),(15, .pointer (some (s_.2.1.add (e6).toNat))),(19, .int .i64 (wrap64 (Int.tdiv gs 59))),(20, .int .i64 (wrap64 ((wrap64 (Int.tdiv gs 59)) * 5)))]) (fun s_ w'=>(Kd.R (Kd.int .i64) 3 w' w.heap.size (fun _=>True) s_.1 cr)/\(∃c_,(s_.1:Value) = .slice (some s_.2.1) cr.length c_)/\(hc_ w' ep #[.slice ff cm.length fj, .slice fx cx.length fy, .slice i3 eb.length iu] 28)/\(hc_ w' ek #[.int .i64 0, .int .i64 0, .int .i64 0, .int .i64 0] 69)/\(hc_ w' s_.2.2 #[.int .i64 0, .int .i64 0, .int .i64 0, .int .i64 0] 69)/\(w.heap.size<=s_.2.2)/\(w0.heap.size<=s_.2.2)/\(g≠s_.2.2)/\(s_.2.2≠g)/\(ep≠s_.2.2)/\(s_.2.2≠ep)/\(ek≠s_.2.2)/\(s_.2.2≠ek)/\(Jo w0 w' g ay qd)/\(Ja w w' g none)/\(Below w0.heap.size w0 w')) ?_ ?_
  ·skip
   rintro⟨nn,adz_v632,bl⟩ mu ⟨h0_,h1_,h2_,h3_,h4_,h5_,h6_,h7_,h8_,h9_,h10_,h11_,h12_,h13_,h14_,h15_⟩
   have fb:Gx (Kd.R (Kd.int .i64) 3 mu w.heap.size (fun _=>True) nn cr):=⟨h0_⟩
   have HA_HO633:Gx (∃c_,(nn:Value) = .slice (some adz_v632) cr.length c_):=⟨h1_⟩
   replace dd:Gx (hc_ mu ep #[.slice ff cm.length fj, .slice fx cx.length fy, .slice i3 eb.length iu] 28):=⟨h2_⟩
   replace db:Gx (hc_ mu ek #[.int .i64 0, .int .i64 0, .int .i64 0, .int .i64 0] 69):=⟨h3_⟩
   have di:Gx (hc_ mu bl #[.int .i64 0, .int .i64 0, .int .i64 0, .int .i64 0] 69):=⟨h4_⟩
   have ny:Gx (w.heap.size<=bl):=⟨h5_⟩
   have nz:Gx (w0.heap.size<=bl):=⟨h6_⟩
   have l3:Gx (g≠bl):=⟨h7_⟩
   have jd:Gx (bl≠g):=⟨h8_⟩
   have ju:Gx (ep≠bl):=⟨h9_⟩
   have kl:Gx (bl≠ep):=⟨h10_⟩
   have js:Gx (ek≠bl):=⟨h11_⟩
   have km:Gx (bl≠ek):=⟨h12_⟩
   replace HI0:Gx (Jo w0 mu g ay qd):=⟨h13_⟩
   replace HK:Gx (Ja w mu g none):=⟨h14_⟩
   replace HB:Gx (Below w0.heap.size w0 mu):=⟨h15_⟩
   clear h0_ h1_ h2_ h3_ h4_ h5_ h6_ h7_ h8_ h9_ h10_ h11_ h12_ h13_ h14_ h15_
   have hHeld:=trivial
   obtain⟨i9,be7⟩:=HA_HO633.out
   clear HA_HO633
   subst be7
   refine norm_ (a':=?_) ?_ ?_
   rotate_left
   · exact sq_
   refine one_ (i:=4) (N:=some 16) (tl_ 13 2559) rfl rfl (Jn HT_.out (g0_)) (by decide) (fun K hK=>?_)
   (have bv7:0<=(e6:Int):=od_;have bv8:e6 < (cr.length:Int):=od_;obtain⟨cs2,cs3,bv9⟩:=Kd.at_int (Kd.R_reads' fb.out).2.2 e6 bv7 bv8;obtain rfl:adz_v632=cs2:=(by injection cs3))
   refine value_ (w1:=?_) (v:=?_) (by rfl) rfl ?_ ?_
   rotate_left 2
   ·go_simp
    constructor
    ·rfl
    rfl
   clear bv9
   refine hK.out _ _ trivial (fun hHeld=>?_)
   clear hK K
   refine nm_ ?_
   refine pw_ 9 21 (tl_ 13 3071) ?_
   refine pw_ 10 22 (tl_ 13 4095) ?_
   exact norm_ (g10_) (hJ0_2_4_6_11 (.slice (some adz_v632) cr.length i9,adz_v632,bl) _ ⟨(uR_ fb),⟨_,rfl⟩,(uB_ dd),(uB_ db),(uB_ di),ny.out,nz.out,l3.out,jd.out,ju.out,kl.out,js.out,km.out,(d7),(ft),(go)⟩)
  intro hJ0_2_6_11
  refine join_ (σ:=Value × Addr) 7 (tl_ 13 63) (fun s_=>[(12,s_.1),(14, .int .i64 e6),(16, .int .i64 (rd cr e6)),(15, .pointer (some (s_.2.add (e6).toNat)))]) (fun s_ w'=>(Kd.R (Kd.int .i64) 3 w' w.heap.size (fun _=>True) s_.1 cr)/\(∃c_,(s_.1:Value) = .slice (some s_.2) cr.length c_)/\(hc_ w' ep #[.slice ff cm.length fj, .slice fx cx.length fy, .slice i3 eb.length iu] 28)/\(hc_ w' ek #[.int .i64 0, .int .i64 0, .int .i64 0, .int .i64 0] 69)/\(Jo w0 w' g ay op)/\(Ja w w' g none)/\(Below w0.heap.size w0 w')) ?_ ?_
  ·skip
   rintro⟨nn,adz_v632⟩ my ⟨h0_,h1_,h2_,h3_,h4_,h5_,h6_⟩
   have fb:Gx (Kd.R (Kd.int .i64) 3 my w.heap.size (fun _=>True) nn cr):=⟨h0_⟩
   have HA_HO633:Gx (∃c_,(nn:Value) = .slice (some adz_v632) cr.length c_):=⟨h1_⟩
   replace dd:Gx (hc_ my ep #[.slice ff cm.length fj, .slice fx cx.length fy, .slice i3 eb.length iu] 28):=⟨h2_⟩
   replace db:Gx (hc_ my ek #[.int .i64 0, .int .i64 0, .int .i64 0, .int .i64 0] 69):=⟨h3_⟩
   replace HI0:Gx (Jo w0 my g ay op):=⟨h4_⟩
   replace HK:Gx (Ja w my g none):=⟨h5_⟩
   replace HB:Gx (Below w0.heap.size w0 my):=⟨h6_⟩
   clear h0_ h1_ h2_ h3_ h4_ h5_ h6_
   have hHeld:=trivial
   obtain⟨br,ac0⟩:=HA_HO633.out
   clear HA_HO633
   subst ac0
   refine norm_ (a':=?_) ?_ ?_
   rotate_left
   · exact sq_
   refine two_ (i:=6) (j:=11) (Ni:=some 18) (Nj:=some 6) (tl_ 13 127) (tl_ 13 2111) rfl rfl rfl rfl (two_of HT_.out (g0_)) (by decide) (by decide) (fun K hK=>?_) (fun K hK=>?_)
   ·skip
    refine goes_ Try.func70 (g0_) rfl #[.pointer (some ⟨g,0,none⟩), .int .i64 60] (by rfl) rfl rfl (gM_) ?_
    refine(Fa.calls k g ay op 60 gs qd w0 _ d7 go A7.out).mono ?_
    rintro e mu ⟨rfl,hi,hb,hk⟩
    refine⟨_,rfl,?_⟩
    replace dd:=kb_ hk dd vt
    replace db:=kb_ hk db vc
    replace fb:=A_ (Kd.R_mono (Kd.R_keep (Jo.apart (show Jo w0 _ g ay op from d7) (uR_ fb) (by decide)) hk (fun _ h=>h.2)) (fun _ h=>h.1))
    replace HK:=A_ (Ja.trans (ft) hk (.inl rfl))
    replace HB:=A_ (hb)
    replace HI0:=A_ (hi)
    refine hK.out _ _ trivial (fun hHeld=>?_)
    clear hK K
    refine nm_ ?_
    refine pw_ 7 19 (tl_ 13 255) ?_
    refine pw_ 8 20 (tl_ 13 511) ?_
    refine pw_ 9 21 (tl_ 13 1023) ?_
    refine pw_ 10 22 (tl_ 13 2047) ?_
    exact norm_ (g10_) (hJ0_2_4_6 (.slice (some adz_v632) cr.length br,adz_v632) _ ⟨(uR_ fb),⟨_,rfl⟩,(uB_ dd),(uB_ db),(d7),(ft),(go)⟩)
   skip
   refine bs_ (N:=6) #[.int .i64 0, .int .i64 0, .int .i64 0, .int .i64 0] 69 ?_
   intro bl hg mu hbox hb
   replace fb:=rb_ fb hb
   replace HB:=hs_ (go) hb
   have di:=A_ (hbox)
   have ny:=A_ ((g19_:w.heap.size<=bl))
   have nz:=A_ (Nat.le_trans HW0.out ny.out)
   replace HK:=kt_ (ft) hb
   have ju:=nl_ dd hg
   have kl:=nr_ dd hg
   replace dd:=bb_ dd hb
   have js:=nl_ db hg
   have km:=nr_ db hg
   replace db:=bb_ db hb
   have l3:=A_ ((by rw[hg];exact Nat.ne_of_lt (Jo.lt (show Jo w0 _ g ay op from d7)):g≠bl))
   have jd:=A_ ((by rw[hg];exact Nat.ne_of_gt (Jo.lt (show Jo w0 _ g ay op from d7)):bl≠g))
   replace HI0:=A_ (Jo.below (d7) hb)
   clear hb hbox hg
   refine hK.out _ _ trivial (fun hHeld=>?_)
   clear hK K
   refine nm_ ?_
   exact norm_ (g10_) (hJ0_2_4_11 (.slice (some adz_v632) cr.length br,adz_v632,bl) _ ⟨(uR_ fb),⟨_,rfl⟩,(uB_ dd),(uB_ db),(uB_ di),ny.out,nz.out,l3.out,jd.out,ju.out,kl.out,js.out,km.out,(d7),(ft),(go)⟩)
  intro hJ0_2_4
  refine join_ (σ:=Value × Addr) 5 (tl_ 13 495) (fun s_=>[(12,s_.1),(14, .int .i64 e6),(18, .int .i64 gs),(15, .pointer (some (s_.2.add (e6).toNat))),(19, .int .i64 (wrap64 (Int.tdiv gs 59))),(20, .int .i64 (wrap64 ((wrap64 (Int.tdiv gs 59)) * 5)))]) (fun s_ w'=>(Kd.R (Kd.int .i64) 3 w' w.heap.size (fun _=>True) s_.1 cr)/\(∃c_,(s_.1:Value) = .slice (some s_.2) cr.length c_)/\(hc_ w' ep #[.slice ff cm.length fj, .slice fx cx.length fy, .slice i3 eb.length iu] 28)/\(hc_ w' ek #[.int .i64 0, .int .i64 0, .int .i64 0, .int .i64 0] 69)/\(Jo w0 w' g ay qd)/\(Ja w w' g none)/\(Below w0.heap.size w0 w')) ?_ ?_
  ·skip
   rintro⟨nn,adz_v632⟩ j4 ⟨h0_,h1_,h2_,h3_,h4_,h5_,h6_⟩
   have fb:Gx (Kd.R (Kd.int .i64) 3 j4 w.heap.size (fun _=>True) nn cr):=⟨h0_⟩
   have HA_HO633:Gx (∃c_,(nn:Value) = .slice (some adz_v632) cr.length c_):=⟨h1_⟩
   replace dd:Gx (hc_ j4 ep #[.slice ff cm.length fj, .slice fx cx.length fy, .slice i3 eb.length iu] 28):=⟨h2_⟩
   replace db:Gx (hc_ j4 ek #[.int .i64 0, .int .i64 0, .int .i64 0, .int .i64 0] 69):=⟨h3_⟩
   replace HI0:Gx (Jo w0 j4 g ay qd):=⟨h4_⟩
   replace HK:Gx (Ja w j4 g none):=⟨h5_⟩
   replace HB:Gx (Below w0.heap.size w0 j4):=⟨h6_⟩
   clear h0_ h1_ h2_ h3_ h4_ h5_ h6_
   have hHeld:=trivial
   obtain⟨zg,bg4⟩:=HA_HO633.out
   clear HA_HO633
   subst bg4
   refine norm_ (a':=?_) ?_ ?_
   rotate_left
   · exact sq_
   refine two_ (i:=4) (j:=11) (Ni:=some 16) (Nj:=some 6) (tl_ 13 511) (tl_ 13 2543) rfl rfl rfl rfl (two_of HT_.out (g0_)) (by decide) (by decide) (fun K hK=>?_) (fun K hK=>?_)
   ·skip
    (have bv7:0<=(e6:Int):=od_;have bv8:e6 < (cr.length:Int):=od_;obtain⟨cs2,cs3,bv9⟩:=Kd.at_int (Kd.R_reads' fb.out).2.2 e6 bv7 bv8;obtain rfl:adz_v632=cs2:=(by injection cs3))
    refine value_ (w1:=?_) (v:=?_) (by rfl) rfl ?_ ?_
    rotate_left 2
    ·go_simp
     constructor
     ·rfl
     rfl
    clear bv9
    refine hK.out _ _ trivial (fun hHeld=>?_)
    clear hK K
    refine nm_ ?_
    refine pw_ 9 21 (tl_ 13 1023) ?_
    refine pw_ 10 22 (tl_ 13 2047) ?_
    exact norm_ (g10_) (hJ0_2_4_6 (.slice (some adz_v632) cr.length zg,adz_v632) _ ⟨(uR_ fb),⟨_,rfl⟩,(uB_ dd),(uB_ db),(d7),(ft),(go)⟩)
   skip
   refine bs_ (N:=6) #[.int .i64 0, .int .i64 0, .int .i64 0, .int .i64 0] 69 ?_
   intro bl hg yu hbox hb
   replace fb:=rb_ fb hb
   replace HB:=hs_ (go) hb
   have di:=A_ (hbox)
   have ny:=A_ ((g19_:w.heap.size<=bl))
   have nz:=A_ (Nat.le_trans HW0.out ny.out)
   replace HK:=kt_ (ft) hb
   have ju:=nl_ dd hg
   have kl:=nr_ dd hg
   replace dd:=bb_ dd hb
   have js:=nl_ db hg
   have km:=nr_ db hg
   replace db:=bb_ db hb
   have l3:=A_ ((by rw[hg];exact Nat.ne_of_lt (Jo.lt (show Jo w0 _ g ay qd from d7)):g≠bl))
   have jd:=A_ ((by rw[hg];exact Nat.ne_of_gt (Jo.lt (show Jo w0 _ g ay qd from d7)):bl≠g))
   replace HI0:=A_ (Jo.below (d7) hb)
   clear hb hbox hg
   refine hK.out _ _ trivial (fun hHeld=>?_)
   clear hK K
   refine nm_ ?_
   exact Ff.calls.z1
  intro hJ0_2_6
  refine join_ (σ:=Value × Addr × Nat) 7 (tl_ 13 2095) (fun s_=>[(12,s_.1),(14, .int .i64 e6),(6, .pointer (some ⟨s_.2.2,0,none⟩)),(15, .pointer (some (s_.2.1.add (e6).toNat)))]) (fun s_ w'=>(Kd.R (Kd.int .i64) 3 w' w.heap.size (fun _=>True) s_.1 cr)/\(∃c_,(s_.1:Value) = .slice (some s_.2.1) cr.length c_)/\(hc_ w' ep #[.slice ff cm.length fj, .slice fx cx.length fy, .slice i3 eb.length iu] 28)/\(hc_ w' ek #[.int .i64 0, .int .i64 0, .int .i64 0, .int .i64 0] 69)/\(hc_ w' s_.2.2 #[.int .i64 0, .int .i64 0, .int .i64 0, .int .i64 0] 69)/\(w.heap.size<=s_.2.2)/\(w0.heap.size<=s_.2.2)/\(g≠s_.2.2)/\(s_.2.2≠g)/\(ep≠s_.2.2)/\(s_.2.2≠ep)/\(ek≠s_.2.2)/\(s_.2.2≠ek)/\(Jo w0 w' g ay op)/\(Ja w w' g none)/\(Below w0.heap.size w0 w')) ?_ ?_
  ·skip
   rintro⟨nn,adz_v632,bl⟩ j4 ⟨h0_,h1_,h2_,h3_,h4_,h5_,h6_,h7_,h8_,h9_,h10_,h11_,h12_,h13_,h14_,h15_⟩
   have fb:Gx (Kd.R (Kd.int .i64) 3 j4 w.heap.size (fun _=>True) nn cr):=⟨h0_⟩
   have HA_HO633:Gx (∃c_,(nn:Value) = .slice (some adz_v632) cr.length c_):=⟨h1_⟩
   replace dd:Gx (hc_ j4 ep #[.slice ff cm.length fj, .slice fx cx.length fy, .slice i3 eb.length iu] 28):=⟨h2_⟩
   replace db:Gx (hc_ j4 ek #[.int .i64 0, .int .i64 0, .int .i64 0, .int .i64 0] 69):=⟨h3_⟩
   have di:Gx (hc_ j4 bl #[.int .i64 0, .int .i64 0, .int .i64 0, .int .i64 0] 69):=⟨h4_⟩
   have ny:Gx (w.heap.size<=bl):=⟨h5_⟩
   have nz:Gx (w0.heap.size<=bl):=⟨h6_⟩
   have l3:Gx (g≠bl):=⟨h7_⟩
   have jd:Gx (bl≠g):=⟨h8_⟩
   have ju:Gx (ep≠bl):=⟨h9_⟩
   have kl:Gx (bl≠ep):=⟨h10_⟩
   have js:Gx (ek≠bl):=⟨h11_⟩
   have km:Gx (bl≠ek):=⟨h12_⟩
   replace HI0:Gx (Jo w0 j4 g ay op):=⟨h13_⟩
   replace HK:Gx (Ja w j4 g none):=⟨h14_⟩
   replace HB:Gx (Below w0.heap.size w0 j4):=⟨h15_⟩
   clear h0_ h1_ h2_ h3_ h4_ h5_ h6_ h7_ h8_ h9_ h10_ h11_ h12_ h13_ h14_ h15_
   have hHeld:=trivial
   obtain⟨zg,bg4⟩:=HA_HO633.out
   clear HA_HO633
   subst bg4
   refine norm_ (a':=?_) ?_ ?_
   rotate_left
   · exact sq_
   refine two_ (i:=4) (j:=6) (Ni:=some 16) (Nj:=some 18) (tl_ 13 2111) (tl_ 13 2159) rfl rfl rfl rfl (two_of HT_.out (g0_)) (by decide) (by decide) (fun K hK=>?_) (fun K hK=>?_)
   ·skip
    (have bv7:0<=(e6:Int):=od_;have bv8:e6 < (cr.length:Int):=od_;obtain⟨cs2,cs3,bv9⟩:=Kd.at_int (Kd.R_reads' fb.out).2.2 e6 bv7 bv8;obtain rfl:adz_v632=cs2:=(by injection cs3))
    refine value_ (w1:=?_) (v:=?_) (by rfl) rfl ?_ ?_
    rotate_left 2
    ·go_simp
     constructor
     ·rfl
     rfl
    clear bv9
    refine hK.out _ _ trivial (fun hHeld=>?_)
    clear hK K
    refine nm_ ?_
    exact norm_ (g10_) (hJ0_2_4_11 (.slice (some adz_v632) cr.length zg,adz_v632,bl) _ ⟨(uR_ fb),⟨_,rfl⟩,(uB_ dd),(uB_ db),(uB_ di),ny.out,nz.out,l3.out,jd.out,ju.out,kl.out,js.out,km.out,(d7),(ft),(go)⟩)
   skip
   refine goes_ Try.func70 (g0_) rfl #[.pointer (some ⟨g,0,none⟩), .int .i64 60] (by rfl) rfl rfl (gM_) ?_
   refine(Fa.calls k g ay op 60 gs qd w0 _ d7 go A7.out).mono ?_
   rintro e yu ⟨rfl,hi,hb,hk⟩
   refine⟨_,rfl,?_⟩
   replace dd:=kb_ hk dd vt
   replace db:=kb_ hk db vc
   replace fb:=A_ (Kd.R_mono (Kd.R_keep (Jo.apart (show Jo w0 _ g ay op from d7) (uR_ fb) (by decide)) hk (fun _ h=>h.2)) (fun _ h=>h.1))
   replace di:=kb_ hk di jd
   replace HK:=A_ (Ja.trans (ft) hk (.inl rfl))
   replace HB:=A_ (hb)
   replace HI0:=A_ (hi)
   refine hK.out _ _ trivial (fun hHeld=>?_)
   clear hK K
   refine nm_ ?_
   refine pw_ 7 19 (tl_ 13 2287) ?_
   refine pw_ 8 20 (tl_ 13 2543) ?_
   exact Ff.calls.z1
  intro hJ0_2_11
  refine join_ (σ:=Nat) 6 (tl_ 13 2534) (fun s_=>[(14, .int .i64 e6),(18, .int .i64 gs),(6, .pointer (some ⟨s_,0,none⟩)),(19, .int .i64 (wrap64 (Int.tdiv gs 59))),(20, .int .i64 (wrap64 ((wrap64 (Int.tdiv gs 59)) * 5)))]) (fun s_ w'=>(hc_ w' ep #[.slice ff cm.length fj, .slice fx cx.length fy, .slice i3 eb.length iu] 28)/\(hc_ w' ek #[.int .i64 0, .int .i64 0, .int .i64 0, .int .i64 0] 69)/\(hc_ w' s_ #[.int .i64 0, .int .i64 0, .int .i64 0, .int .i64 0] 69)/\(w.heap.size<=s_)/\(w0.heap.size<=s_)/\(g≠s_)/\(s_≠g)/\(ep≠s_)/\(s_≠ep)/\(ek≠s_)/\(s_≠ek)/\(Jo w0 w' g ay qd)/\(Ja w w' g none)/\(Below w0.heap.size w0 w')) ?_ ?_
  ·skip
   rintro bl rf ⟨h0_,h1_,h2_,h3_,h4_,h5_,h6_,h7_,h8_,h9_,h10_,h11_,h12_,h13_⟩
   replace dd:Gx (hc_ rf ep #[.slice ff cm.length fj, .slice fx cx.length fy, .slice i3 eb.length iu] 28):=⟨h0_⟩
   replace db:Gx (hc_ rf ek #[.int .i64 0, .int .i64 0, .int .i64 0, .int .i64 0] 69):=⟨h1_⟩
   have di:Gx (hc_ rf bl #[.int .i64 0, .int .i64 0, .int .i64 0, .int .i64 0] 69):=⟨h2_⟩
   have ny:Gx (w.heap.size<=bl):=⟨h3_⟩
   have nz:Gx (w0.heap.size<=bl):=⟨h4_⟩
   have l3:Gx (g≠bl):=⟨h5_⟩
   have jd:Gx (bl≠g):=⟨h6_⟩
   have ju:Gx (ep≠bl):=⟨h7_⟩
   have kl:Gx (bl≠ep):=⟨h8_⟩
   have js:Gx (ek≠bl):=⟨h9_⟩
   have km:Gx (bl≠ek):=⟨h10_⟩
   replace HI0:Gx (Jo w0 rf g ay qd):=⟨h11_⟩
   replace HK:Gx (Ja w rf g none):=⟨h12_⟩
   replace HB:Gx (Below w0.heap.size w0 rf):=⟨h13_⟩
   clear h0_ h1_ h2_ h3_ h4_ h5_ h6_ h7_ h8_ h9_ h10_ h11_ h12_ h13_
   have hHeld:=trivial
   refine norm_ (a':=?_) ?_ ?_
   rotate_left
   · exact sq_
   refine one_ (i:=0) (N:=some 12) (tl_ 13 2535) rfl rfl (Jn HT_.out (g0_)) (by decide) (fun K hK=>?_)
   refine rls_ 12 [0,0,1,1,1,1,2,3,4] ?_
   intro nn my bh0 hb hg_ hnew_
   clear hg_ hnew_
   (first|rw[<- at0.out] at bh0|(simp only[Int.reduceToNat] at bh0;rw[<- at0.out] at bh0))
   have fb:=A_ (Kd.R_lower bh0 (Jh (w:=w) (g:=g) (row:=none) (ft)))
   replace dd:=bb_ dd hb
   replace db:=bb_ db hb
   replace di:=bb_ di hb
   replace HK:=kt_ (ft) hb
   replace HB:=hs_ (go) hb
   replace HI0:=A_ (Jo.below (d7) hb)
   clear hb bh0
   obtain⟨cr4,zg,bg4⟩:=Kd.R_slice fb.out
   subst bg4
   obtain⟨ado21,lw2,_⟩:=Kd.at_int (Kd.R_reads' fb.out).2.2 0 (by decide) (g116_)
   cases lw2
   refine hK.out _ _ trivial (fun hHeld=>?_)
   clear hK K
   refine nm_ ?_
   refine pw_ 3 15 (tl_ 13 2543) ?_
   exact norm_ (g10_) (hJ0_2_6_11 (.slice (some ado21) cr.length zg,ado21,bl) _ ⟨(uR_ fb),⟨_,rfl⟩,(uB_ dd),(uB_ db),(uB_ di),ny.out,nz.out,l3.out,jd.out,ju.out,kl.out,js.out,km.out,(d7),(ft),(go)⟩)
  intro hJ2_6_11
  refine join_ (σ:=Value × Addr) 8 (tl_ 13 47) (fun s_=>[(12,s_.1),(14, .int .i64 e6),(15, .pointer (some (s_.2.add (e6).toNat)))]) (fun s_ w'=>(Kd.R (Kd.int .i64) 3 w' w.heap.size (fun _=>True) s_.1 cr)/\(∃c_,(s_.1:Value) = .slice (some s_.2) cr.length c_)/\(hc_ w' ep #[.slice ff cm.length fj, .slice fx cx.length fy, .slice i3 eb.length iu] 28)/\(hc_ w' ek #[.int .i64 0, .int .i64 0, .int .i64 0, .int .i64 0] 69)/\(Jo w0 w' g ay op)/\(Ja w w' g none)/\(Below w0.heap.size w0 w')) ?_ ?_
  ·skip
   rintro⟨nn,adz_v632⟩ my ⟨h0_,h1_,h2_,h3_,h4_,h5_,h6_⟩
   have fb:Gx (Kd.R (Kd.int .i64) 3 my w.heap.size (fun _=>True) nn cr):=⟨h0_⟩
   have HA_HO633:Gx (∃c_,(nn:Value) = .slice (some adz_v632) cr.length c_):=⟨h1_⟩
   replace dd:Gx (hc_ my ep #[.slice ff cm.length fj, .slice fx cx.length fy, .slice i3 eb.length iu] 28):=⟨h2_⟩
   replace db:Gx (hc_ my ek #[.int .i64 0, .int .i64 0, .int .i64 0, .int .i64 0] 69):=⟨h3_⟩
   replace HI0:Gx (Jo w0 my g ay op):=⟨h4_⟩
   replace HK:Gx (Ja w my g none):=⟨h5_⟩
   replace HB:Gx (Below w0.heap.size w0 my):=⟨h6_⟩
   clear h0_ h1_ h2_ h3_ h4_ h5_ h6_
   have hHeld:=trivial
   obtain⟨br,ac0⟩:=HA_HO633.out
   clear HA_HO633
   subst ac0
   refine norm_ (a':=?_) ?_ ?_
   rotate_left
   · exact sq_
   refine three_ (i:=4) (j:=6) (k:=11) (Ni:=some 16) (Nj:=some 18) (Nk:=some 6) (tl_ 13 63) (tl_ 13 111) (tl_ 13 2095) rfl rfl rfl rfl rfl rfl (three_of HT_.out (g0_)) (by decide) (by decide) (by decide) (fun K hK=>?_) (fun K hK=>?_) (fun K hK=>?_)
   ·skip
    (have bv7:0<=(e6:Int):=od_;have bv8:e6 < (cr.length:Int):=od_;obtain⟨cs2,cs3,bv9⟩:=Kd.at_int (Kd.R_reads' fb.out).2.2 e6 bv7 bv8;obtain rfl:adz_v632=cs2:=(by injection cs3))
    refine value_ (w1:=?_) (v:=?_) (by rfl) rfl ?_ ?_
    rotate_left 2
    ·go_simp
     constructor
     ·rfl
     rfl
    clear bv9
    refine hK.out _ _ trivial (fun hHeld=>?_)
    clear hK K
    refine nm_ ?_
    exact norm_ (g10_) (hJ0_2_4 (.slice (some adz_v632) cr.length br,adz_v632) _ ⟨(uR_ fb),⟨_,rfl⟩,(uB_ dd),(uB_ db),(d7),(ft),(go)⟩)
   ·skip
    refine goes_ Try.func70 (g0_) rfl #[.pointer (some ⟨g,0,none⟩), .int .i64 60] (by rfl) rfl rfl (gM_) ?_
    refine(Fa.calls k g ay op 60 gs qd w0 _ d7 go A7.out).mono ?_
    rintro e mu ⟨rfl,hi,hb,hk⟩
    refine⟨_,rfl,?_⟩
    replace dd:=kb_ hk dd vt
    replace db:=kb_ hk db vc
    replace fb:=A_ (Kd.R_mono (Kd.R_keep (Jo.apart (show Jo w0 _ g ay op from d7) (uR_ fb) (by decide)) hk (fun _ h=>h.2)) (fun _ h=>h.1))
    replace HK:=A_ (Ja.trans (ft) hk (.inl rfl))
    replace HB:=A_ (hb)
    replace HI0:=A_ (hi)
    refine hK.out _ _ trivial (fun hHeld=>?_)
    clear hK K
    refine nm_ ?_
    refine pw_ 7 19 (tl_ 13 239) ?_
    refine pw_ 8 20 (tl_ 13 495) ?_
    exact norm_ (g10_) (hJ0_2_6 (.slice (some adz_v632) cr.length br,adz_v632) _ ⟨(uR_ fb),⟨_,rfl⟩,(uB_ dd),(uB_ db),(d7),(ft),(go)⟩)
   skip
   refine bs_ (N:=6) #[.int .i64 0, .int .i64 0, .int .i64 0, .int .i64 0] 69 ?_
   intro bl hg mu hbox hb
   replace fb:=rb_ fb hb
   replace HB:=hs_ (go) hb
   have di:=A_ (hbox)
   have ny:=A_ ((g19_:w.heap.size<=bl))
   have nz:=A_ (Nat.le_trans HW0.out ny.out)
   replace HK:=kt_ (ft) hb
   have ju:=nl_ dd hg
   have kl:=nr_ dd hg
   replace dd:=bb_ dd hb
   have js:=nl_ db hg
   have km:=nr_ db hg
   replace db:=bb_ db hb
   have l3:=A_ ((by rw[hg];exact Nat.ne_of_lt (Jo.lt (show Jo w0 _ g ay op from d7)):g≠bl))
   have jd:=A_ ((by rw[hg];exact Nat.ne_of_gt (Jo.lt (show Jo w0 _ g ay op from d7)):bl≠g))
   replace HI0:=A_ (Jo.below (d7) hb)
   clear hb hbox hg
   refine hK.out _ _ trivial (fun hHeld=>?_)
   clear hK K
   refine nm_ ?_
   exact Ff.calls.z2
  intro hJ0_2
  refine join_ (σ:=Value × Addr × Nat) 9 (tl_ 13 2083) (fun s_=>[(12,s_.1),(6, .pointer (some ⟨s_.2.2,0,none⟩))]) (fun s_ w'=>(Kd.R (Kd.int .i64) 3 w' w.heap.size (fun _=>True) s_.1 cr)/\(∃c_,(s_.1:Value) = .slice (some s_.2.1) cr.length c_)/\(hc_ w' ep #[.slice ff cm.length fj, .slice fx cx.length fy, .slice i3 eb.length iu] 28)/\(hc_ w' ek #[.int .i64 0, .int .i64 0, .int .i64 0, .int .i64 0] 69)/\(hc_ w' s_.2.2 #[.int .i64 0, .int .i64 0, .int .i64 0, .int .i64 0] 69)/\(w.heap.size<=s_.2.2)/\(w0.heap.size<=s_.2.2)/\(g≠s_.2.2)/\(s_.2.2≠g)/\(ep≠s_.2.2)/\(s_.2.2≠ep)/\(ek≠s_.2.2)/\(s_.2.2≠ek)/\(Jo w0 w' g ay eh)/\(Ja w w' g none)/\(Below w0.heap.size w0 w')) ?_ ?_
  ·skip
   rintro⟨nn,adz_v632,bl⟩ my ⟨h0_,h1_,h2_,h3_,h4_,h5_,h6_,h7_,h8_,h9_,h10_,h11_,h12_,h13_,h14_,h15_⟩
   have fb:Gx (Kd.R (Kd.int .i64) 3 my w.heap.size (fun _=>True) nn cr):=⟨h0_⟩
   have HA_HO633:Gx (∃c_,(nn:Value) = .slice (some adz_v632) cr.length c_):=⟨h1_⟩
   replace dd:Gx (hc_ my ep #[.slice ff cm.length fj, .slice fx cx.length fy, .slice i3 eb.length iu] 28):=⟨h2_⟩
   replace db:Gx (hc_ my ek #[.int .i64 0, .int .i64 0, .int .i64 0, .int .i64 0] 69):=⟨h3_⟩
   have di:Gx (hc_ my bl #[.int .i64 0, .int .i64 0, .int .i64 0, .int .i64 0] 69):=⟨h4_⟩
   have ny:Gx (w.heap.size<=bl):=⟨h5_⟩
   have nz:Gx (w0.heap.size<=bl):=⟨h6_⟩
   have l3:Gx (g≠bl):=⟨h7_⟩
   have jd:Gx (bl≠g):=⟨h8_⟩
   have ju:Gx (ep≠bl):=⟨h9_⟩
   have kl:Gx (bl≠ep):=⟨h10_⟩
   have js:Gx (ek≠bl):=⟨h11_⟩
   have km:Gx (bl≠ek):=⟨h12_⟩
   replace HI0:Gx (Jo w0 my g ay eh):=⟨h13_⟩
   replace HK:Gx (Ja w my g none):=⟨h14_⟩
   replace HB:Gx (Below w0.heap.size w0 my):=⟨h15_⟩
   clear h0_ h1_ h2_ h3_ h4_ h5_ h6_ h7_ h8_ h9_ h10_ h11_ h12_ h13_ h14_ h15_
   have hHeld:=trivial
   obtain⟨br,ac0⟩:=HA_HO633.out
   clear HA_HO633
   subst ac0
   refine norm_ (a':=?_) ?_ ?_
   rotate_left
   · exact sq_
   refine one_ (i:=2) (N:=some 14) (tl_ 13 2087) rfl rfl (Jn HT_.out (g0_)) (by decide) (fun K hK=>?_)
   refine goes_ Try.func70 (g0_) rfl #[.pointer (some ⟨g,0,none⟩), .int .i64 9] (by rfl) rfl rfl (gM_) ?_
   refine(Fa.calls k g ay eh 9 e6 op w0 _ d7 go A4.out).mono ?_
   rintro e mu ⟨rfl,hi,hb,hk⟩
   refine⟨_,rfl,?_⟩
   replace dd:=kb_ hk dd vt
   replace db:=kb_ hk db vc
   replace fb:=A_ (Kd.R_mono (Kd.R_keep (Jo.apart (show Jo w0 _ g ay eh from d7) (uR_ fb) (by decide)) hk (fun _ h=>h.2)) (fun _ h=>h.1))
   replace di:=kb_ hk di jd
   replace HK:=A_ (Ja.trans (ft) hk (.inl rfl))
   replace HB:=A_ (hb)
   replace HI0:=A_ (hi)
   refine hK.out _ _ trivial (fun hHeld=>?_)
   clear hK K
   refine nm_ ?_
   refine pw_ 3 15 (tl_ 13 2095) ?_
   exact Ff.calls.z2
  intro hJ0_11
  refine join_ (σ:=Unit) 7 (tl_ 13 486) (fun s_=>[(14, .int .i64 e6),(18, .int .i64 gs),(19, .int .i64 (wrap64 (Int.tdiv gs 59))),(20, .int .i64 (wrap64 ((wrap64 (Int.tdiv gs 59)) * 5)))]) (fun s_ w'=>(hc_ w' ep #[.slice ff cm.length fj, .slice fx cx.length fy, .slice i3 eb.length iu] 28)/\(hc_ w' ek #[.int .i64 0, .int .i64 0, .int .i64 0, .int .i64 0] 69)/\(Jo w0 w' g ay qd)/\(Ja w w' g none)/\(Below w0.heap.size w0 w')) ?_ ?_
  ·skip
   rintro _ ov ⟨h0_,h1_,h2_,h3_,h4_⟩
   replace dd:Gx (hc_ ov ep #[.slice ff cm.length fj, .slice fx cx.length fy, .slice i3 eb.length iu] 28):=⟨h0_⟩
   replace db:Gx (hc_ ov ek #[.int .i64 0, .int .i64 0, .int .i64 0, .int .i64 0] 69):=⟨h1_⟩
   replace HI0:Gx (Jo w0 ov g ay qd):=⟨h2_⟩
   replace HK:Gx (Ja w ov g none):=⟨h3_⟩
   replace HB:Gx (Below w0.heap.size w0 ov):=⟨h4_⟩
   clear h0_ h1_ h2_ h3_ h4_
   have hHeld:=trivial
   refine norm_ (a':=?_) ?_ ?_
   rotate_left
   · exact sq_
   refine two_ (i:=0) (j:=11) (Ni:=some 12) (Nj:=some 6) (tl_ 13 487) (tl_ 13 2534) rfl rfl rfl rfl (two_of HT_.out (g0_)) (by decide) (by decide) (fun K hK=>?_) (fun K hK=>?_)
   ·skip
    refine rls_ 12 [0,0,1,1,1,1,2,3,4] ?_
    intro nn rf bg9 hb hg_ hnew_
    clear hg_ hnew_
    (first|rw[<- at0.out] at bg9|(simp only[Int.reduceToNat] at bg9;rw[<- at0.out] at bg9))
    have fb:=A_ (Kd.R_lower bg9 (Jh (w:=w) (g:=g) (row:=none) (ft)))
    replace dd:=bb_ dd hb
    replace db:=bb_ db hb
    replace HK:=kt_ (ft) hb
    replace HB:=hs_ (go) hb
    replace HI0:=A_ (Jo.below (d7) hb)
    clear hb bg9
    obtain⟨bz,br,ac0⟩:=Kd.R_slice fb.out
    subst ac0
    obtain⟨ado20,gn5,_⟩:=Kd.at_int (Kd.R_reads' fb.out).2.2 0 (by decide) (g116_)
    cases gn5
    refine hK.out _ _ trivial (fun hHeld=>?_)
    clear hK K
    refine nm_ ?_
    refine pw_ 3 15 (tl_ 13 495) ?_
    exact norm_ (g10_) (hJ0_2_6 (.slice (some ado20) cr.length br,ado20) _ ⟨(uR_ fb),⟨_,rfl⟩,(uB_ dd),(uB_ db),(d7),(ft),(go)⟩)
   skip
   refine bs_ (N:=6) #[.int .i64 0, .int .i64 0, .int .i64 0, .int .i64 0] 69 ?_
   intro bl hg rf hbox hb
   replace HB:=hs_ (go) hb
   have di:=A_ (hbox)
   have ny:=A_ ((g19_:w.heap.size<=bl))
   have nz:=A_ (Nat.le_trans HW0.out ny.out)
   replace HK:=kt_ (ft) hb
   have ju:=nl_ dd hg
   have kl:=nr_ dd hg
   replace dd:=bb_ dd hb
   have js:=nl_ db hg
   have km:=nr_ db hg
   replace db:=bb_ db hb
   have l3:=A_ ((by rw[hg];exact Nat.ne_of_lt (Jo.lt (show Jo w0 _ g ay qd from d7)):g≠bl))
   have jd:=A_ ((by rw[hg];exact Nat.ne_of_gt (Jo.lt (show Jo w0 _ g ay qd from d7)):bl≠g))
   replace HI0:=A_ (Jo.below (d7) hb)
   clear hb hbox hg
   refine hK.out _ _ trivial (fun hHeld=>?_)
   clear hK K
   refine nm_ ?_
   exact norm_ (g10_) (hJ2_6_11 (bl) _ ⟨(uB_ dd),(uB_ db),(uB_ di),ny.out,nz.out,l3.out,jd.out,ju.out,kl.out,js.out,km.out,(d7),(ft),(go)⟩)
  intro hJ2_6
  refine join_ (σ:=Nat) 9 (tl_ 13 2086) (fun s_=>[(14, .int .i64 e6),(6, .pointer (some ⟨s_,0,none⟩))]) (fun s_ w'=>(hc_ w' ep #[.slice ff cm.length fj, .slice fx cx.length fy, .slice i3 eb.length iu] 28)/\(hc_ w' ek #[.int .i64 0, .int .i64 0, .int .i64 0, .int .i64 0] 69)/\(hc_ w' s_ #[.int .i64 0, .int .i64 0, .int .i64 0, .int .i64 0] 69)/\(w.heap.size<=s_)/\(w0.heap.size<=s_)/\(g≠s_)/\(s_≠g)/\(ep≠s_)/\(s_≠ep)/\(ek≠s_)/\(s_≠ek)/\(Jo w0 w' g ay op)/\(Ja w w' g none)/\(Below w0.heap.size w0 w')) ?_ ?_
  ·skip
   rintro bl ov ⟨h0_,h1_,h2_,h3_,h4_,h5_,h6_,h7_,h8_,h9_,h10_,h11_,h12_,h13_⟩
   replace dd:Gx (hc_ ov ep #[.slice ff cm.length fj, .slice fx cx.length fy, .slice i3 eb.length iu] 28):=⟨h0_⟩
   replace db:Gx (hc_ ov ek #[.int .i64 0, .int .i64 0, .int .i64 0, .int .i64 0] 69):=⟨h1_⟩
   have di:Gx (hc_ ov bl #[.int .i64 0, .int .i64 0, .int .i64 0, .int .i64 0] 69):=⟨h2_⟩
   have ny:Gx (w.heap.size<=bl):=⟨h3_⟩
   have nz:Gx (w0.heap.size<=bl):=⟨h4_⟩
   have l3:Gx (g≠bl):=⟨h5_⟩
   have jd:Gx (bl≠g):=⟨h6_⟩
   have ju:Gx (ep≠bl):=⟨h7_⟩
   have kl:Gx (bl≠ep):=⟨h8_⟩
   have js:Gx (ek≠bl):=⟨h9_⟩
   have km:Gx (bl≠ek):=⟨h10_⟩
   replace HI0:Gx (Jo w0 ov g ay op):=⟨h11_⟩
   replace HK:Gx (Ja w ov g none):=⟨h12_⟩
   replace HB:Gx (Below w0.heap.size w0 ov):=⟨h13_⟩
   clear h0_ h1_ h2_ h3_ h4_ h5_ h6_ h7_ h8_ h9_ h10_ h11_ h12_ h13_
   have hHeld:=trivial
   refine norm_ (a':=?_) ?_ ?_
   rotate_left
   · exact sq_
   refine two_ (i:=0) (j:=6) (Ni:=some 12) (Nj:=some 18) (tl_ 13 2087) (tl_ 13 2150) rfl rfl rfl rfl (two_of HT_.out (g0_)) (by decide) (by decide) (fun K hK=>?_) (fun K hK=>?_)
   ·skip
    refine rls_ 12 [0,0,1,1,1,1,2,3,4] ?_
    intro nn rf bg9 hb hg_ hnew_
    clear hg_ hnew_
    (first|rw[<- at0.out] at bg9|(simp only[Int.reduceToNat] at bg9;rw[<- at0.out] at bg9))
    have fb:=A_ (Kd.R_lower bg9 (Jh (w:=w) (g:=g) (row:=none) (ft)))
    replace dd:=bb_ dd hb
    replace db:=bb_ db hb
    replace di:=bb_ di hb
    replace HK:=kt_ (ft) hb
    replace HB:=hs_ (go) hb
    replace HI0:=A_ (Jo.below (d7) hb)
    clear hb bg9
    obtain⟨bz,br,ac0⟩:=Kd.R_slice fb.out
    subst ac0
    obtain⟨ado20,gn5,_⟩:=Kd.at_int (Kd.R_reads' fb.out).2.2 0 (by decide) (g116_)
    cases gn5
    refine hK.out _ _ trivial (fun hHeld=>?_)
    clear hK K
    refine nm_ ?_
    refine pw_ 3 15 (tl_ 13 2095) ?_
    exact norm_ (g10_) (hJ0_2_11 (.slice (some ado20) cr.length br,ado20,bl) _ ⟨(uR_ fb),⟨_,rfl⟩,(uB_ dd),(uB_ db),(uB_ di),ny.out,nz.out,l3.out,jd.out,ju.out,kl.out,js.out,km.out,(d7),(ft),(go)⟩)
   skip
   refine goes_ Try.func70 (g0_) rfl #[.pointer (some ⟨g,0,none⟩), .int .i64 60] (by rfl) rfl rfl (gM_) ?_
   refine(Fa.calls k g ay op 60 gs qd w0 _ d7 go A7.out).mono ?_
   rintro e rf ⟨rfl,hi,hb,hk⟩
   refine⟨_,rfl,?_⟩
   replace dd:=kb_ hk dd vt
   replace db:=kb_ hk db vc
   replace di:=kb_ hk di jd
   replace HK:=A_ (Ja.trans (ft) hk (.inl rfl))
   replace HB:=A_ (hb)
   replace HI0:=A_ (hi)
   refine hK.out _ _ trivial (fun hHeld=>?_)
   clear hK K
   refine nm_ ?_
   refine pw_ 7 19 (tl_ 13 2278) ?_
   refine pw_ 8 20 (tl_ 13 2534) ?_
   exact norm_ (g10_) (hJ2_6_11 (bl) _ ⟨(uB_ dd),(uB_ db),(uB_ di),ny.out,nz.out,l3.out,jd.out,ju.out,kl.out,js.out,km.out,(d7),(ft),(go)⟩)
  intro hJ2_11
  refine join_ (σ:=Value × Addr) 10 (tl_ 13 35) (fun s_=>[(12,s_.1)]) (fun s_ w'=>(Kd.R (Kd.int .i64) 3 w' w.heap.size (fun _=>True) s_.1 cr)/\(∃c_,(s_.1:Value) = .slice (some s_.2) cr.length c_)/\(hc_ w' ep #[.slice ff cm.length fj, .slice fx cx.length fy, .slice i3 eb.length iu] 28)/\(hc_ w' ek #[.int .i64 0, .int .i64 0, .int .i64 0, .int .i64 0] 69)/\(Jo w0 w' g ay eh)/\(Ja w w' g none)/\(Below w0.heap.size w0 w')) ?_ ?_
  ·skip
   rintro⟨nn,adz_v632⟩ rf ⟨h0_,h1_,h2_,h3_,h4_,h5_,h6_⟩
   have fb:Gx (Kd.R (Kd.int .i64) 3 rf w.heap.size (fun _=>True) nn cr):=⟨h0_⟩
   have HA_HO633:Gx (∃c_,(nn:Value) = .slice (some adz_v632) cr.length c_):=⟨h1_⟩
   replace dd:Gx (hc_ rf ep #[.slice ff cm.length fj, .slice fx cx.length fy, .slice i3 eb.length iu] 28):=⟨h2_⟩
   replace db:Gx (hc_ rf ek #[.int .i64 0, .int .i64 0, .int .i64 0, .int .i64 0] 69):=⟨h3_⟩
   replace HI0:Gx (Jo w0 rf g ay eh):=⟨h4_⟩
   replace HK:Gx (Ja w rf g none):=⟨h5_⟩
   replace HB:Gx (Below w0.heap.size w0 rf):=⟨h6_⟩
   clear h0_ h1_ h2_ h3_ h4_ h5_ h6_
   have hHeld:=trivial
   obtain⟨ba,yd⟩:=HA_HO633.out
   clear HA_HO633
   subst yd
   refine norm_ (a':=?_) ?_ ?_
   rotate_left
   · exact sq_
   refine two_ (i:=2) (j:=11) (Ni:=some 14) (Nj:=some 6) (tl_ 13 39) (tl_ 13 2083) rfl rfl rfl rfl (two_of HT_.out (g0_)) (by decide) (by decide) (fun K hK=>?_) (fun K hK=>?_)
   ·skip
    refine goes_ Try.func70 (g0_) rfl #[.pointer (some ⟨g,0,none⟩), .int .i64 9] (by rfl) rfl rfl (gM_) ?_
    refine(Fa.calls k g ay eh 9 e6 op w0 _ d7 go A4.out).mono ?_
    rintro e j4 ⟨rfl,hi,hb,hk⟩
    refine⟨_,rfl,?_⟩
    replace dd:=kb_ hk dd vt
    replace db:=kb_ hk db vc
    replace fb:=A_ (Kd.R_mono (Kd.R_keep (Jo.apart (show Jo w0 _ g ay eh from d7) (uR_ fb) (by decide)) hk (fun _ h=>h.2)) (fun _ h=>h.1))
    replace HK:=A_ (Ja.trans (ft) hk (.inl rfl))
    replace HB:=A_ (hb)
    replace HI0:=A_ (hi)
    refine hK.out _ _ trivial (fun hHeld=>?_)
    clear hK K
    refine nm_ ?_
    refine pw_ 3 15 (tl_ 13 47) ?_
    exact norm_ (g10_) (hJ0_2 (.slice (some adz_v632) cr.length ba,adz_v632) _ ⟨(uR_ fb),⟨_,rfl⟩,(uB_ dd),(uB_ db),(d7),(ft),(go)⟩)
   skip
   refine bs_ (N:=6) #[.int .i64 0, .int .i64 0, .int .i64 0, .int .i64 0] 69 ?_
   intro bl hg j4 hbox hb
   replace fb:=rb_ fb hb
   replace HB:=hs_ (go) hb
   have di:=A_ (hbox)
   have ny:=A_ ((g19_:w.heap.size<=bl))
   have nz:=A_ (Nat.le_trans HW0.out ny.out)
   replace HK:=kt_ (ft) hb
   have ju:=nl_ dd hg
   have kl:=nr_ dd hg
   replace dd:=bb_ dd hb
   have js:=nl_ db hg
   have km:=nr_ db hg
   replace db:=bb_ db hb
   have l3:=A_ ((by rw[hg];exact Nat.ne_of_lt (Jo.lt (show Jo w0 _ g ay eh from d7)):g≠bl))
   have jd:=A_ ((by rw[hg];exact Nat.ne_of_gt (Jo.lt (show Jo w0 _ g ay eh from d7)):bl≠g))
   replace HI0:=A_ (Jo.below (d7) hb)
   clear hb hbox hg
   refine hK.out _ _ trivial (fun hHeld=>?_)
   clear hK K
   refine nm_ ?_
   exact norm_ (g10_) (hJ0_11 (.slice (some adz_v632) cr.length ba,adz_v632,bl) _ ⟨(uR_ fb),⟨_,rfl⟩,(uB_ dd),(uB_ db),(uB_ di),ny.out,nz.out,l3.out,jd.out,ju.out,kl.out,js.out,km.out,(d7),(ft),(go)⟩)
  intro hJ0
  refine join_ (σ:=Unit) 10 (tl_ 13 38) (fun s_=>[(14, .int .i64 e6)]) (fun s_ w'=>(hc_ w' ep #[.slice ff cm.length fj, .slice fx cx.length fy, .slice i3 eb.length iu] 28)/\(hc_ w' ek #[.int .i64 0, .int .i64 0, .int .i64 0, .int .i64 0] 69)/\(Jo w0 w' g ay op)/\(Ja w w' g none)/\(Below w0.heap.size w0 w')) ?_ ?_
  ·skip
   rintro _ mt ⟨h0_,h1_,h2_,h3_,h4_⟩
   replace dd:Gx (hc_ mt ep #[.slice ff cm.length fj, .slice fx cx.length fy, .slice i3 eb.length iu] 28):=⟨h0_⟩
   replace db:Gx (hc_ mt ek #[.int .i64 0, .int .i64 0, .int .i64 0, .int .i64 0] 69):=⟨h1_⟩
   replace HI0:Gx (Jo w0 mt g ay op):=⟨h2_⟩
   replace HK:Gx (Ja w mt g none):=⟨h3_⟩
   replace HB:Gx (Below w0.heap.size w0 mt):=⟨h4_⟩
   clear h0_ h1_ h2_ h3_ h4_
   have hHeld:=trivial
   refine norm_ (a':=?_) ?_ ?_
   rotate_left
   · exact sq_
   refine three_ (i:=0) (j:=6) (k:=11) (Ni:=some 12) (Nj:=some 18) (Nk:=some 6) (tl_ 13 39) (tl_ 13 102) (tl_ 13 2086) rfl rfl rfl rfl rfl rfl (three_of HT_.out (g0_)) (by decide) (by decide) (by decide) (fun K hK=>?_) (fun K hK=>?_) (fun K hK=>?_)
   ·skip
    refine rls_ 12 [0,0,1,1,1,1,2,3,4] ?_
    intro nn ov bg8 hb hg_ hnew_
    clear hg_ hnew_
    (first|rw[<- at0.out] at bg8|(simp only[Int.reduceToNat] at bg8;rw[<- at0.out] at bg8))
    have fb:=A_ (Kd.R_lower bg8 (Jh (w:=w) (g:=g) (row:=none) (ft)))
    replace dd:=bb_ dd hb
    replace db:=bb_ db hb
    replace HK:=kt_ (ft) hb
    replace HB:=hs_ (go) hb
    replace HI0:=A_ (Jo.below (d7) hb)
    clear hb bg8
    obtain⟨bc,ba,yd⟩:=Kd.R_slice fb.out
    subst yd
    obtain⟨ado19,gn4,_⟩:=Kd.at_int (Kd.R_reads' fb.out).2.2 0 (by decide) (g116_)
    cases gn4
    refine hK.out _ _ trivial (fun hHeld=>?_)
    clear hK K
    refine nm_ ?_
    refine pw_ 3 15 (tl_ 13 47) ?_
    exact norm_ (g10_) (hJ0_2 (.slice (some ado19) cr.length ba,ado19) _ ⟨(uR_ fb),⟨_,rfl⟩,(uB_ dd),(uB_ db),(d7),(ft),(go)⟩)
   ·skip
    refine goes_ Try.func70 (g0_) rfl #[.pointer (some ⟨g,0,none⟩), .int .i64 60] (by rfl) rfl rfl (gM_) ?_
    refine(Fa.calls k g ay op 60 gs qd w0 _ d7 go A7.out).mono ?_
    rintro e ov ⟨rfl,hi,hb,hk⟩
    refine⟨_,rfl,?_⟩
    replace dd:=kb_ hk dd vt
    replace db:=kb_ hk db vc
    replace HK:=A_ (Ja.trans (ft) hk (.inl rfl))
    replace HB:=A_ (hb)
    replace HI0:=A_ (hi)
    refine hK.out _ _ trivial (fun hHeld=>?_)
    clear hK K
    refine nm_ ?_
    refine pw_ 7 19 (tl_ 13 230) ?_
    refine pw_ 8 20 (tl_ 13 486) ?_
    exact norm_ (g10_) (hJ2_6 () _ ⟨(uB_ dd),(uB_ db),(d7),(ft),(go)⟩)
   skip
   refine bs_ (N:=6) #[.int .i64 0, .int .i64 0, .int .i64 0, .int .i64 0] 69 ?_
   intro bl hg ov hbox hb
   replace HB:=hs_ (go) hb
   have di:=A_ (hbox)
   have ny:=A_ ((g19_:w.heap.size<=bl))
   have nz:=A_ (Nat.le_trans HW0.out ny.out)
   replace HK:=kt_ (ft) hb
   have ju:=nl_ dd hg
   have kl:=nr_ dd hg
   replace dd:=bb_ dd hb
   have js:=nl_ db hg
   have km:=nr_ db hg
   replace db:=bb_ db hb
   have l3:=A_ ((by rw[hg];exact Nat.ne_of_lt (Jo.lt (show Jo w0 _ g ay op from d7)):g≠bl))
   have jd:=A_ ((by rw[hg];exact Nat.ne_of_gt (Jo.lt (show Jo w0 _ g ay op from d7)):bl≠g))
   replace HI0:=A_ (Jo.below (d7) hb)
   clear hb hbox hg
   refine hK.out _ _ trivial (fun hHeld=>?_)
   clear hK K
   refine nm_ ?_
   exact norm_ (g10_) (hJ2_11 (bl) _ ⟨(uB_ dd),(uB_ db),(uB_ di),ny.out,nz.out,l3.out,jd.out,ju.out,kl.out,js.out,km.out,(d7),(ft),(go)⟩)
  intro hJ2
  refine join_ (σ:=Nat) 10 (tl_ 13 2082) (fun s_=>[(6, .pointer (some ⟨s_,0,none⟩))]) (fun s_ w'=>(hc_ w' ep #[.slice ff cm.length fj, .slice fx cx.length fy, .slice i3 eb.length iu] 28)/\(hc_ w' ek #[.int .i64 0, .int .i64 0, .int .i64 0, .int .i64 0] 69)/\(hc_ w' s_ #[.int .i64 0, .int .i64 0, .int .i64 0, .int .i64 0] 69)/\(w.heap.size<=s_)/\(w0.heap.size<=s_)/\(g≠s_)/\(s_≠g)/\(ep≠s_)/\(s_≠ep)/\(ek≠s_)/\(s_≠ek)/\(Jo w0 w' g ay eh)/\(Ja w w' g none)/\(Below w0.heap.size w0 w')) ?_ ?_
  ·skip
   rintro bl mt ⟨h0_,h1_,h2_,h3_,h4_,h5_,h6_,h7_,h8_,h9_,h10_,h11_,h12_,h13_⟩
   replace dd:Gx (hc_ mt ep #[.slice ff cm.length fj, .slice fx cx.length fy, .slice i3 eb.length iu] 28):=⟨h0_⟩
   replace db:Gx (hc_ mt ek #[.int .i64 0, .int .i64 0, .int .i64 0, .int .i64 0] 69):=⟨h1_⟩
   have di:Gx (hc_ mt bl #[.int .i64 0, .int .i64 0, .int .i64 0, .int .i64 0] 69):=⟨h2_⟩
   have ny:Gx (w.heap.size<=bl):=⟨h3_⟩
   have nz:Gx (w0.heap.size<=bl):=⟨h4_⟩
   have l3:Gx (g≠bl):=⟨h5_⟩
   have jd:Gx (bl≠g):=⟨h6_⟩
   have ju:Gx (ep≠bl):=⟨h7_⟩
   have kl:Gx (bl≠ep):=⟨h8_⟩
   have js:Gx (ek≠bl):=⟨h9_⟩
   have km:Gx (bl≠ek):=⟨h10_⟩
   replace HI0:Gx (Jo w0 mt g ay eh):=⟨h11_⟩
   replace HK:Gx (Ja w mt g none):=⟨h12_⟩
   replace HB:Gx (Below w0.heap.size w0 mt):=⟨h13_⟩
   clear h0_ h1_ h2_ h3_ h4_ h5_ h6_ h7_ h8_ h9_ h10_ h11_ h12_ h13_
   have hHeld:=trivial
   refine norm_ (a':=?_) ?_ ?_
   rotate_left
   · exact sq_
   refine two_ (i:=0) (j:=2) (Ni:=some 12) (Nj:=some 14) (tl_ 13 2083) (tl_ 13 2086) rfl rfl rfl rfl (two_of HT_.out (g0_)) (by decide) (by decide) (fun K hK=>?_) (fun K hK=>?_)
   ·skip
    refine rls_ 12 [0,0,1,1,1,1,2,3,4] ?_
    intro nn ov bg8 hb hg_ hnew_
    clear hg_ hnew_
    (first|rw[<- at0.out] at bg8|(simp only[Int.reduceToNat] at bg8;rw[<- at0.out] at bg8))
    have fb:=A_ (Kd.R_lower bg8 (Jh (w:=w) (g:=g) (row:=none) (ft)))
    replace dd:=bb_ dd hb
    replace db:=bb_ db hb
    replace di:=bb_ di hb
    replace HK:=kt_ (ft) hb
    replace HB:=hs_ (go) hb
    replace HI0:=A_ (Jo.below (d7) hb)
    clear hb bg8
    obtain⟨bc,ba,yd⟩:=Kd.R_slice fb.out
    subst yd
    obtain⟨ado19,gn4,_⟩:=Kd.at_int (Kd.R_reads' fb.out).2.2 0 (by decide) (g116_)
    cases gn4
    refine hK.out _ _ trivial (fun hHeld=>?_)
    clear hK K
    refine nm_ ?_
    exact norm_ (g10_) (hJ0_11 (.slice (some ado19) cr.length ba,ado19,bl) _ ⟨(uR_ fb),⟨_,rfl⟩,(uB_ dd),(uB_ db),(uB_ di),ny.out,nz.out,l3.out,jd.out,ju.out,kl.out,js.out,km.out,(d7),(ft),(go)⟩)
   skip
   refine goes_ Try.func70 (g0_) rfl #[.pointer (some ⟨g,0,none⟩), .int .i64 9] (by rfl) rfl rfl (gM_) ?_
   refine(Fa.calls k g ay eh 9 e6 op w0 _ d7 go A4.out).mono ?_
   rintro e ov ⟨rfl,hi,hb,hk⟩
   refine⟨_,rfl,?_⟩
   replace dd:=kb_ hk dd vt
   replace db:=kb_ hk db vc
   replace di:=kb_ hk di jd
   replace HK:=A_ (Ja.trans (ft) hk (.inl rfl))
   replace HB:=A_ (hb)
   replace HI0:=A_ (hi)
   refine hK.out _ _ trivial (fun hHeld=>?_)
   clear hK K
   refine nm_ ?_
   exact norm_ (g10_) (hJ2_11 (bl) _ ⟨(uB_ dd),(uB_ db),(uB_ di),ny.out,nz.out,l3.out,jd.out,ju.out,kl.out,js.out,km.out,(d7),(ft),(go)⟩)
  intro hJ11
  refine three_ (i:=0) (j:=2) (k:=11) (Ni:=some 12) (Nj:=some 14) (Nk:=some 6) (tl_ 13 35) (tl_ 13 38) (tl_ 13 2082) rfl rfl rfl rfl rfl rfl (three_of HT_.out (g0_)) (by decide) (by decide) (by decide) (fun K hK=>?_) (fun K hK=>?_) (fun K hK=>?_)
  ·skip
   refine rls_ 12 [0,0,1,1,1,1,2,3,4] ?_
   intro nn w15 eb7 hb hg_ hnew_
   clear hg_ hnew_
   (first|rw[<- at0.out] at eb7|(simp only[Int.reduceToNat] at eb7;rw[<- at0.out] at eb7))
   have fb:=A_ (Kd.R_lower eb7 (Jh (w:=w) (g:=g) (row:=none) (ft)))
   replace dd:=bb_ dd hb
   replace db:=bb_ db hb
   replace HK:=kt_ (ft) hb
   replace HB:=hs_ (go) hb
   replace HI0:=A_ (Jo.below (d7) hb)
   clear hb eb7
   obtain⟨ia,h7,bp0⟩:=Kd.R_slice fb.out
   subst bp0
   obtain⟨ado17,lw1,_⟩:=Kd.at_int (Kd.R_reads' fb.out).2.2 0 (by decide) (g116_)
   cases lw1
   refine hK.out _ _ trivial (fun hHeld=>?_)
   clear hK K
   refine nm_ ?_
   exact norm_ (g10_) (hJ0 (.slice (some ado17) cr.length h7,ado17) _ ⟨(uR_ fb),⟨_,rfl⟩,(uB_ dd),(uB_ db),(d7),(ft),(go)⟩)
  ·skip
   refine goes_ Try.func70 (g0_) rfl #[.pointer (some ⟨g,0,none⟩), .int .i64 9] (by rfl) rfl rfl (gM_) ?_
   refine(Fa.calls k g ay eh 9 e6 op w0 _ d7 go A4.out).mono ?_
   rintro e w15 ⟨rfl,hi,hb,hk⟩
   refine⟨_,rfl,?_⟩
   replace dd:=kb_ hk dd vt
   replace db:=kb_ hk db vc
   replace HK:=A_ (Ja.trans (ft) hk (.inl rfl))
   replace HB:=A_ (hb)
   replace HI0:=A_ (hi)
   refine hK.out _ _ trivial (fun hHeld=>?_)
   clear hK K
   refine nm_ ?_
   exact norm_ (g10_) (hJ2 () _ ⟨(uB_ dd),(uB_ db),(d7),(ft),(go)⟩)
  skip
  refine bs_ (N:=6) #[.int .i64 0, .int .i64 0, .int .i64 0, .int .i64 0] 69 ?_
  intro bl hg w15 hbox hb
  replace HB:=hs_ (go) hb
  have di:=A_ (hbox)
  have ny:=A_ ((g19_:w.heap.size<=bl))
  have nz:=A_ (Nat.le_trans HW0.out ny.out)
  replace HK:=kt_ (ft) hb
  have ju:=nl_ dd hg
  have kl:=nr_ dd hg
  replace dd:=bb_ dd hb
  have js:=nl_ db hg
  have km:=nr_ db hg
  replace db:=bb_ db hb
  have l3:=A_ ((by rw[hg];exact Nat.ne_of_lt (Jo.lt (show Jo w0 _ g ay eh from d7)):g≠bl))
  have jd:=A_ ((by rw[hg];exact Nat.ne_of_gt (Jo.lt (show Jo w0 _ g ay eh from d7)):bl≠g))
  replace HI0:=A_ (Jo.below (d7) hb)
  clear hb hbox hg
  refine hK.out _ _ trivial (fun hHeld=>?_)
  clear hK K
  refine nm_ ?_
  exact norm_ (g10_) (hJ11 (bl) _ ⟨(uB_ dd),(uB_ db),(uB_ di),ny.out,nz.out,l3.out,jd.out,ju.out,kl.out,js.out,km.out,(d7),(ft),(go)⟩)
 rintro⟨nn,adz_v632,bl⟩ mu ⟨h0_,h1_,h2_,h3_,h4_,h5_,h6_,h7_,h8_,h9_,h10_,h11_,h12_,h13_,h14_,h15_⟩
 have fb:Gx (Kd.R (Kd.int .i64) 3 mu w.heap.size (fun _=>True) nn cr):=⟨h0_⟩
 have HA_HO633:Gx (∃c_,(nn:Value) = .slice (some adz_v632) cr.length c_):=⟨h1_⟩
 replace dd:Gx (hc_ mu ep #[.slice ff cm.length fj, .slice fx cx.length fy, .slice i3 eb.length iu] 28):=⟨h2_⟩
 replace db:Gx (hc_ mu ek #[.int .i64 0, .int .i64 0, .int .i64 0, .int .i64 0] 69):=⟨h3_⟩
 have di:Gx (hc_ mu bl #[.int .i64 0, .int .i64 0, .int .i64 0, .int .i64 0] 69):=⟨h4_⟩
 have ny:Gx (w.heap.size<=bl):=⟨h5_⟩
 have nz:Gx (w0.heap.size<=bl):=⟨h6_⟩
 have l3:Gx (g≠bl):=⟨h7_⟩
 have jd:Gx (bl≠g):=⟨h8_⟩
 have ju:Gx (ep≠bl):=⟨h9_⟩
 have kl:Gx (bl≠ep):=⟨h10_⟩
 have js:Gx (ek≠bl):=⟨h11_⟩
 have km:Gx (bl≠ek):=⟨h12_⟩
 replace HI0:Gx (Jo w0 mu g ay qd):=⟨h13_⟩
 replace HK:Gx (Ja w mu g none):=⟨h14_⟩
 replace HB:Gx (Below w0.heap.size w0 mu):=⟨h15_⟩
 clear h0_ h1_ h2_ h3_ h4_ h5_ h6_ h7_ h8_ h9_ h10_ h11_ h12_ h13_ h14_ h15_
 have hHeld:=trivial
 obtain⟨i9,be7⟩:=HA_HO633.out
 clear HA_HO633
 subst be7
 refine norm_ (a':=?_) ?_ ?_
 rotate_left
 · exact sq_
 refine one_ (i:=12) (N:=none) (tl_ 13 8191) rfl rfl (Jn HT_.out (g0_)) (by decide) (fun K hK=>?_)
 have lw3:mu.cell? ⟨bl,0,none⟩=some (.int .i64 0):=(Gy di.out 0).trans rfl
 have lw4:=G7 di.out 0
 have ob9:=ju.out
 have lw5:=js.out
 have oc0:=kl.out
 have lw6:=km.out
 have oc1:mu.cell? ⟨bl,1,none⟩=some (.int .i64 0):=(Gy di.out 1).trans rfl
 have oc2:=G7 di.out 1
 have oc7:mu.cell? ⟨bl,2,none⟩=some (.int .i64 0):=(Gy di.out 2).trans rfl
 have oc8:=G7 di.out 2
 have od3:mu.cell? ⟨bl,3,none⟩=some (.int .i64 0):=(Gy di.out 3).trans rfl
 have od4:=G7 di.out 3
 refine skip_ (w1:=?_) (by rfl) rfl ?_ ?_
 rotate_left
 ·go_simp
  rfl
 refine hK.out _ _ trivial (fun hHeld=>?_)
 clear hK K
 refine done_ (done_of HT_.out (g0_)) ?_
 have cu9:=jd.out
 have cv0:=l3.out
 obtain⟨cg6,cg7,eg6,iv3,cg8,cg9,eg7,iv4⟩:=blk4_ di
 go_upto_block 0 with(fail)
 go_cut [] (fun wc=>∃(kq:Nat) (fc1:Int) (ai9:Int) (az5:Int) (cf5:Int),Gx (Ff.j0 kq ay fc1 (wrap64 ((rd cr e6) + (wrap64 ((wrap64 (Int.tdiv gs 59)) * 5)))) ai9 az5 cf5=some (r1,r2,r3,r4,r5))/\Gx (kq<=k)/\Gx (hc_ wc ep #[(.slice ff cm.length fj),(.slice fx cx.length fy),(.slice i3 eb.length iu)] 28)/\Gx (hc_ wc ek #[.int .i64 0, .int .i64 0, .int .i64 0, .int .i64 0] 69)/\Gx (hc_ wc bl #[.int .i64 (wrap64 ((rd cr e6) + (wrap64 ((wrap64 (Int.tdiv gs 59)) * 5)))), .int .i64 ai9, .int .i64 az5, .int .i64 cf5] 69)/\Gx (Jo w0 wc g ay fc1)/\Gx (Ja w wc g none)/\Gx (Below w0.heap.size w0 wc))
 case first=>
  have H:=HC8.out
  clear HC8
  by_cases l9:(wrap64 ((rd cr e6) + (wrap64 ((wrap64 (Int.tdiv gs 59)) * 5))))=0
  ·rw[if_pos l9] at H
   have aq5:((wrap64 ((rd cr e6) + (wrap64 ((wrap64 (Int.tdiv gs 59)) * 5)))) == 0)=true:=beq_iff_eq.mpr l9
   have gn6:((wrap64 ((rd cr e6) + (wrap64 ((wrap64 (Int.tdiv gs 59)) * 5)))) != 0)=false:=bne_eq_false_iff_eq.mpr l9
   clear l9
   (first|rw[aq5]|(simp only[i64_w,i32_w];rw[aq5])|skip)
   replace H:=Option.bind_eq_some_iff.mp H
   obtain⟨⟨eb8,gn7⟩,iv5,H⟩:=H
   try dsimp only at H
   have A32:=A_ iv5
   clear iv5
   replace H:=Option.bind_eq_some_iff.mp H
   obtain⟨⟨iv6,iv7⟩,iv8,H⟩:=H
   try dsimp only at H
   have A33:=A_ iv8
   clear iv8
   have H':=A_ H
   clear H
   go_wp2_with (first|((with_reducible refine gc_ 70 ?_);refine goesL_ (some 29) rfl rfl Try.func70 k_ rfl #[.pointer (some ⟨g,0,none⟩), .int .i64 ji3] rfl (g213_) ?_;(refine(Fa.calls k g ay qd ji3 eb8 gn7 w0 _ d7 go A32.out).mono ?_);rintro e w34 ⟨rfl,hi,hb,hk⟩;refine⟨_,rfl,?_⟩;replace dd:=A_ (Ja.blk hk (g':=ep) (o:=.cells #[.slice ff cm.length fj, .slice fx cx.length fy, .slice i3 eb.length iu] 28 (0,0)) (ba_ dd) vt.out (by simp));replace db:=A_ (Ja.blk hk (g':=ek) (o:=.cells #[.int .i64 0, .int .i64 0, .int .i64 0, .int .i64 0] 69 (0,0)) (ba_ db) vc.out (by simp));replace fb:=A_ (Kd.R_mono (Kd.R_keep (Jo.apart (show Jo w0 _ g ay qd from d7) (ra_ fb) (by decide)) hk (fun _ h=>h.2)) (fun _ h=>h.1));replace di:=A_ (Ja.blk hk (g':=bl) (o:=.cells #[.int .i64 (wrap64 ((rd cr e6) + (wrap64 ((wrap64 (Int.tdiv gs 59)) * 5)))), .int .i64 0, .int .i64 0, .int .i64 0] 69 (0,0)) (ba_ di) jd.out (by simp));replace HK:=A_ (Ja.trans (ft) hk (.inl rfl));replace HB:=A_ (hb);replace HI0:=A_ (hi);have ij8:=kl.out;have ij9:=ju.out;have er5:=km.out;have er6:=js.out;have hn7:=jd.out;have hn8:=l3.out;obtain⟨dp1,dp2,gn8,iv9,dp3,dp4,gn9,iw0⟩:=blk4_ di)|((with_reducible refine gc_ 70 ?_);refine gl_ 32 Try.func70 #[.pointer (some ⟨g,0,none⟩), .int .i64 21] ?_;(refine(Fa.calls k g ay gn7 21 iv6 iv7 w0 _ d7 go A33.out).mono ?_);rintro e w39 ⟨rfl,hi,hb,hk⟩;refine⟨_,rfl,?_⟩;replace dd:=A_ (Ja.blk hk (g':=ep) (o:=.cells #[.slice ff cm.length fj, .slice fx cx.length fy, .slice i3 eb.length iu] 28 (0,0)) (ba_ dd) vt.out (by simp));replace db:=A_ (Ja.blk hk (g':=ek) (o:=.cells #[.int .i64 0, .int .i64 0, .int .i64 0, .int .i64 0] 69 (0,0)) (ba_ db) vc.out (by simp));replace fb:=A_ (Kd.R_mono (Kd.R_keep (Jo.apart (show Jo w0 _ g ay gn7 from d7) (ra_ fb) (by decide)) hk (fun _ h=>h.2)) (fun _ h=>h.1));replace di:=A_ (Ja.blk hk (g':=bl) (o:=.cells #[.int .i64 (wrap64 ((rd cr e6) + (wrap64 ((wrap64 (Int.tdiv gs 59)) * 5)))), .int .i64 eb8, .int .i64 0, .int .i64 0] 69 (0,0)) (ba_ di) jd.out (by simp));replace HK:=A_ (Ja.trans (ft) hk (.inl rfl));replace HB:=A_ (hb);replace HI0:=A_ (hi);obtain⟨eb9,ec0,ec1,iw1,ec2,ec3,ec4,iw2⟩:=blk4_ di))
   go_meet
   case rel=>exact⟨_,(iv7),(eb8),(0),(iv6),H',⟨g9_⟩,⟨ba_ dd⟩,⟨ba_ db⟩,⟨ba_ di⟩,⟨d7⟩,⟨ft⟩,⟨go⟩⟩
  rw[if_neg l9] at H
  have aq5:((wrap64 ((rd cr e6) + (wrap64 ((wrap64 (Int.tdiv gs 59)) * 5)))) == 0)=false:=beq_eq_false_iff_ne.mpr l9
  have gn6:((wrap64 ((rd cr e6) + (wrap64 ((wrap64 (Int.tdiv gs 59)) * 5)))) != 0)=true:=bne_iff_ne.mpr l9
  (first|rw[aq5]|(simp only[i64_w,i32_w];rw[aq5])|skip)
  by_cases oz:(wrap64 ((rd cr e6) + (wrap64 ((wrap64 (Int.tdiv gs 59)) * 5))))=1
  case neg=>
   rw[if_neg oz] at H
   have ca6:((wrap64 ((rd cr e6) + (wrap64 ((wrap64 (Int.tdiv gs 59)) * 5)))) == 1)=false:=beq_eq_false_iff_ne.mpr oz
   have cx3:((wrap64 ((rd cr e6) + (wrap64 ((wrap64 (Int.tdiv gs 59)) * 5)))) != 1)=true:=bne_iff_ne.mpr oz
   have H':=A_ H
   clear H
   go_wp2
   go_meet
   case rel=>exact⟨_,(qd),(0),(0),(0),H',⟨g9_⟩,⟨ba_ dd⟩,⟨ba_ db⟩,⟨ba_ di⟩,⟨d7⟩,⟨ft⟩,⟨go⟩⟩
  rw[if_pos oz] at H
  have ca6:((wrap64 ((rd cr e6) + (wrap64 ((wrap64 (Int.tdiv gs 59)) * 5)))) == 1)=true:=beq_iff_eq.mpr oz
  have cx3:((wrap64 ((rd cr e6) + (wrap64 ((wrap64 (Int.tdiv gs 59)) * 5)))) != 1)=false:=bne_eq_false_iff_eq.mpr oz
  clear oz
  replace H:=Option.bind_eq_some_iff.mp H
  obtain⟨⟨cs4,go0⟩,iw3,H⟩:=H
  try dsimp only at H
  have A42:=A_ iw3
  clear iw3
  replace H:=Option.bind_eq_some_iff.mp H
  obtain⟨⟨ec5,go1⟩,iw4,H⟩:=H
  try dsimp only at H
  have A43:=A_ iw4
  clear iw4
  replace H:=Option.bind_eq_some_iff.mp H
  obtain⟨⟨iw5,iw6⟩,iw7,H⟩:=H
  try dsimp only at H
  have A44:=A_ iw7
  clear iw7
  have H':=A_ H
  clear H
  go_wp2_with (first|((with_reducible refine gc_ 70 ?_);refine goesL_ (some 38) rfl rfl Try.func70 k_ rfl #[.pointer (some ⟨g,0,none⟩), .int .i64 ji3] rfl (g213_) ?_;(refine(Fa.calls k g ay qd ji3 cs4 go0 w0 _ d7 go A42.out).mono ?_);rintro e w45 ⟨rfl,hi,hb,hk⟩;refine⟨_,rfl,?_⟩;replace dd:=A_ (Ja.blk hk (g':=ep) (o:=.cells #[.slice ff cm.length fj, .slice fx cx.length fy, .slice i3 eb.length iu] 28 (0,0)) (ba_ dd) vt.out (by simp));replace db:=A_ (Ja.blk hk (g':=ek) (o:=.cells #[.int .i64 0, .int .i64 0, .int .i64 0, .int .i64 0] 69 (0,0)) (ba_ db) vc.out (by simp));replace fb:=A_ (Kd.R_mono (Kd.R_keep (Jo.apart (show Jo w0 _ g ay qd from d7) (ra_ fb) (by decide)) hk (fun _ h=>h.2)) (fun _ h=>h.1));replace di:=A_ (Ja.blk hk (g':=bl) (o:=.cells #[.int .i64 (wrap64 ((rd cr e6) + (wrap64 ((wrap64 (Int.tdiv gs 59)) * 5)))), .int .i64 0, .int .i64 0, .int .i64 0] 69 (0,0)) (ba_ di) jd.out (by simp));replace HK:=A_ (Ja.trans (ft) hk (.inl rfl));replace HB:=A_ (hb);replace HI0:=A_ (hi);have el7:=kl.out;have el8:=ju.out;have eq3:=km.out;have eq4:=js.out;have el9:=jd.out;have em0:=l3.out;obtain⟨do0,do1,iw8,iw9,do2,do3,ix0,ix1⟩:=blk4_ di)|((with_reducible refine gc_ 70 ?_);refine goesL_ (some 42) rfl rfl Try.func70 k_ rfl #[.pointer (some ⟨g,0,none⟩), .int .i64 ji3] rfl (g213_) ?_;(refine(Fa.calls k g ay go0 ji3 ec5 go1 w0 _ d7 go A43.out).mono ?_);rintro e w50 ⟨rfl,hi,hb,hk⟩;refine⟨_,rfl,?_⟩;replace dd:=A_ (Ja.blk hk (g':=ep) (o:=.cells #[.slice ff cm.length fj, .slice fx cx.length fy, .slice i3 eb.length iu] 28 (0,0)) (ba_ dd) vt.out (by simp));replace db:=A_ (Ja.blk hk (g':=ek) (o:=.cells #[.int .i64 0, .int .i64 0, .int .i64 0, .int .i64 0] 69 (0,0)) (ba_ db) vc.out (by simp));replace fb:=A_ (Kd.R_mono (Kd.R_keep (Jo.apart (show Jo w0 _ g ay go0 from d7) (ra_ fb) (by decide)) hk (fun _ h=>h.2)) (fun _ h=>h.1));replace di:=A_ (Ja.blk hk (g':=bl) (o:=.cells #[.int .i64 (wrap64 ((rd cr e6) + (wrap64 ((wrap64 (Int.tdiv gs 59)) * 5)))), .int .i64 cs4, .int .i64 0, .int .i64 0] 69 (0,0)) (ba_ di) jd.out (by simp));replace HK:=A_ (Ja.trans (ft) hk (.inl rfl));replace HB:=A_ (hb);replace HI0:=A_ (hi);obtain⟨bp3,bp4,cn2,cy7,bp5,bp6,cn3,cy8⟩:=blk4_ di)|((with_reducible refine gc_ 70 ?_);refine gl_ 45 Try.func70 #[.pointer (some ⟨g,0,none⟩), .int .i64 10] ?_;(refine(Fa.calls k g ay go1 10 iw5 iw6 w0 _ d7 go A44.out).mono ?_);rintro e w52 ⟨rfl,hi,hb,hk⟩;refine⟨_,rfl,?_⟩;replace dd:=A_ (Ja.blk hk (g':=ep) (o:=.cells #[.slice ff cm.length fj, .slice fx cx.length fy, .slice i3 eb.length iu] 28 (0,0)) (ba_ dd) vt.out (by simp));replace db:=A_ (Ja.blk hk (g':=ek) (o:=.cells #[.int .i64 0, .int .i64 0, .int .i64 0, .int .i64 0] 69 (0,0)) (ba_ db) vc.out (by simp));replace fb:=A_ (Kd.R_mono (Kd.R_keep (Jo.apart (show Jo w0 _ g ay go1 from d7) (ra_ fb) (by decide)) hk (fun _ h=>h.2)) (fun _ h=>h.1));replace di:=A_ (Ja.blk hk (g':=bl) (o:=.cells #[.int .i64 (wrap64 ((rd cr e6) + (wrap64 ((wrap64 (Int.tdiv gs 59)) * 5)))), .int .i64 cs4, .int .i64 ec5, .int .i64 0] 69 (0,0)) (ba_ di) jd.out (by simp));replace HK:=A_ (Ja.trans (ft) hk (.inl rfl));replace HB:=A_ (hb);replace HI0:=A_ (hi);obtain⟨ey5,ey6,ix2,ix3,ey7,ey8,ix4,ix5⟩:=blk4_ di))
  go_meet
  case rel=>exact⟨_,(iw6),(cs4),(ec5),(iw5),H',⟨g9_⟩,⟨ba_ dd⟩,⟨ba_ db⟩,⟨ba_ di⟩,⟨d7⟩,⟨ft⟩,⟨go⟩⟩
 clear HC8
 obtain⟨kq,fc1,ai9,az5,cf5,HA,HJ7,dd,db,di,HI0,HK,HB⟩:=hcut
 cases kq with
 | zero=>exact absurd HA.out (by simp[Ff.j0])
 | succ kj7=>?_
 have H:=HA.out
 clear HA
 simp only[Ff.j0] at H
 replace H:=Option.bind_eq_some_iff.mp H
 obtain⟨⟨ix6,go2⟩,ix7,H⟩:=H
 try dsimp only at H
 have A54:=A_ ix7
 clear ix7
 have go3:=A_ H
 clear H
 go_upto_if 48 with(first|((with_reducible refine gc_ 106 ?_);refine gl_ 48 Try.func106 #[.pointer (some ⟨g,0,none⟩), .int .i64 40] ?_;(refine(F5.calls kj7 g ay fc1 40 ix6 go2 w0 _ d7 go A54.out).mono ?_);rintro e w56 ⟨rfl,hi,hb,hk⟩;refine⟨_,rfl,?_⟩;replace dd:=kb_ hk dd vt;replace db:=kb_ hk db vc;replace di:=kb_ hk di jd;replace HK:=A_ (Ja.trans (ft) hk (.inl rfl));replace HB:=A_ (hb);replace HI0:=A_ (hi)))
 (try simp only[Act.put,List.setIfInBounds_toArray,List.set_cons_zero,List.set_cons_succ])
 go_cut [] (fun wc=>∃(kq:Nat) (ec6:Int) (dc7:Int),Gx (Ff.j1 kq ay ec6 (wrap64 ((rd cr e6) + (wrap64 ((wrap64 (Int.tdiv gs 59)) * 5)))) ai9 az5 dc7=some (r1,r2,r3,r4,r5))/\Gx (kq<=kj7)/\Gx (hc_ wc ep #[(.slice ff cm.length fj),(.slice fx cx.length fy),(.slice i3 eb.length iu)] 28)/\Gx (hc_ wc ek #[.int .i64 0, .int .i64 0, .int .i64 0, .int .i64 0] 69)/\Gx (hc_ wc bl #[.int .i64 (wrap64 ((rd cr e6) + (wrap64 ((wrap64 (Int.tdiv gs 59)) * 5)))), .int .i64 ai9, .int .i64 az5, .int .i64 dc7] 69)/\Gx (Jo w0 wc g ay ec6)/\Gx (Ja w wc g none)/\Gx (Below w0.heap.size w0 wc))
 case first=>
  have H:=go3.out
  clear go3
  by_cases u6:ix6=true
  case neg=>
   replace u6:=Bool.eq_false_iff.mpr u6
   subst u6
   replace H:=ifn_ H
   have H':=A_ H
   clear H
   go_wp2
   go_meet
   case rel=>exact⟨_,(go2),(cf5),H',⟨by have:=HJ7.out;first|omega|exact Nat.le_refl _⟩,⟨uB_ dd⟩,⟨uB_ db⟩,⟨uB_ di⟩,⟨d7⟩,⟨ft⟩,⟨go⟩⟩
  subst u6
  replace H:=ifp_ H
  replace H:=Option.bind_eq_some_iff.mp H
  obtain⟨⟨ix8,ix9⟩,iy0,H⟩:=H
  try dsimp only at H
  have A58:=A_ iy0
  clear iy0
  have H':=A_ H
  clear H
  try go_wp2
  replace dd:=bd_ dd
  replace db:=bd_ db
  replace di:=bd_ di
  replace HI0:=A_ (Jo.drew HI0.out)
  replace HK:=A_ (Jj HK.out)
  replace HB:=A_ (G1 HB.out)
  refine start_ (n:=8) (S:=fun w'=>w'.cell? ⟨bl,0,none⟩=some (.int .i64 (wrap64 ((rd cr e6) + (wrap64 ((wrap64 (Int.tdiv gs 59)) * 5)))))/\w'.cell? ⟨bl,1,none⟩=some (.int .i64 ai9)/\w'.cell? ⟨bl,2,none⟩=some (.int .i64 az5)/\w'.cell? ⟨bl,3,none⟩=some (.int .i64 cf5)) (ds:=[7]) (tl_ 8 0) (g0_) rfl (g0_) ⟨(Gy di.out 0).trans rfl,(Gy di.out 1).trans rfl,(Gy di.out 2).trans rfl,(Gy di.out 3).trans rfl⟩ (fun hHeld=>?_);refine Jl Ff.tab12 Ff.bits12 (fun HT_ HW_=>?_)
  generalize w56.drew=w59 at dd db di HI0 HK HB hHeld |-
  refine pw_ 0 49 (tl_ 8 1) ?_
  refine pw_ 2 51 (tl_ 8 5) ?_
  refine tk2_ 1 50 (tl_ 8 7) hHeld ?_
  refine one_ (i:=3) (N:=some 52) (tl_ 8 15) rfl rfl (Jn HT_.out (g0_)) (by decide) (fun K hK=>?_)
  refine goes_ Try.func70 (g0_) rfl #[.pointer (some ⟨g,0,none⟩), .int .i64 120] (by rfl) rfl rfl (gM_) ?_
  refine(Fa.calls kj7 g ay go2 120 ix8 ix9 w0 _ d7 go A58.out).mono ?_
  rintro e w60 ⟨rfl,hi,hb,hk⟩
  refine⟨_,rfl,?_⟩
  replace dd:=kb_ hk dd vt
  replace db:=kb_ hk db vc
  replace di:=kb_ hk di jd
  replace HK:=A_ (Ja.trans (ft) hk (.inl rfl))
  replace HB:=A_ (hb)
  replace HI0:=A_ (hi)
  refine hK.out _ _ ⟨(Gy di.out 0).trans rfl,(Gy di.out 1).trans rfl,(Gy di.out 2).trans rfl,(Gy di.out 3).trans rfl⟩ (fun hHeld=>?_)
  clear hK K
  refine nm_ ?_
  refine pw_ 4 53 (tl_ 8 31) ?_
  refine pw_ 5 54 (tl_ 8 63) ?_
  refine pw_ 6 55 (tl_ 8 127) ?_
  refine last_ (i:=7) (N:=none) (tl_ 8 255) rfl rfl (Jn HT_.out (g0_)) (by decide) (fun K hK=>?_)
  have od9:w60.cell? ⟨bl,3,none⟩=some (.int .i64 cf5):=(Gy di.out 3).trans rfl
  have oe0:=G7 di.out 3
  refine skip_ (w1:=?_) (by rfl) rfl ?_ ?_
  rotate_left
  ·go_simp
   rfl
  refine hK.out _ _ ?_
  clear hK K
  refine done_ (done_of HT_.out (g0_)) ?_
  try go_wp2
  go_meet
  case rel=>exact⟨_,(ix9),(wrap64 ((wrap64 (cf5 + ix8)) - 10)),H',⟨by have:=HJ7.out;first|omega|exact Nat.le_refl _⟩,⟨ba_ dd⟩,⟨ba_ db⟩,⟨ba_ di⟩,⟨d7⟩,⟨ft⟩,⟨go⟩⟩
 clear go3
 obtain⟨kq,ec6,dc7,HA,HJ54,dd,db,di,HI0,HK,HB⟩:=hcut
 cases kq with
 | zero=>exact absurd HA.out (by simp[Ff.j1])
 | succ kj54=>?_
 have H:=HA.out
 clear HA
 simp only[Ff.j1] at H
 replace H:=Option.bind_eq_some_iff.mp H
 obtain⟨⟨lw7,go4⟩,iy1,H⟩:=H
 try dsimp only at H
 have A62:=A_ iy1
 clear iy1
 by_cases c63:lw7=true
 case neg=>
  replace c63:=Bool.eq_false_iff.mpr c63
  subst c63
  replace H:=ifn_ H
  simp only[Option.some.injEq,Prod.mk.injEq] at H
  obtain⟨rfl,rfl,rfl,rfl,rfl⟩:=H
  go_wp2_with (first|((with_reducible refine gc_ 106 ?_);refine gl_ 57 Try.func106 #[.pointer (some ⟨g,0,none⟩), .int .i64 40] ?_;(refine(F5.calls kj54 g ay ec6 40 false go4 w0 _ d7 go A62.out).mono ?_);rintro e w76 ⟨rfl,hi,hb,hk⟩;refine⟨_,rfl,?_⟩;replace dd:=kb_ hk dd vt;replace db:=kb_ hk db vc;replace di:=kb_ hk di jd;replace HK:=A_ (Ja.trans (ft) hk (.inl rfl));replace HB:=A_ (hb);replace HI0:=A_ (hi);have of3:=kl.out;have of4:=ju.out;have kb3:=km.out;have kb4:=js.out;have hq8:=jd.out;have hq9:=l3.out;obtain⟨of5,of6,of7,of8,of9,og0,og1,og2⟩:=blk4_ di;have hz6:=gn3.out;have hz7:=gn2.out;have fw4:=vc.out;have fw5:=gn1.out;obtain⟨kn1,kn2,og3,og4,kn3,kn4,og5,og6⟩:=blk4_ db))
  refine bodyPost_ret (results_cell_row rfl _ _ ek 69 #[.int .i64 (wrap64 ((rd cr e6) + (wrap64 ((wrap64 (Int.tdiv gs 59)) * 5)))), .int .i64 ai9, .int .i64 az5, .int .i64 dc7] (0,0) _ rfl (ba_ db) Try.underlying69 rfl (g0_)) rfl ?_
  exact⟨g186_,d7,go,ft⟩
 subst c63
 replace H:=ifp_ H
 replace H:=Option.bind_eq_some_iff.mp H
 obtain⟨⟨fc2,lw8⟩,iy2,H⟩:=H
 try dsimp only at H
 have A64:=A_ iy2
 clear iy2
 simp only[Option.some.injEq,Prod.mk.injEq] at H
 obtain⟨rfl,rfl,rfl,rfl,rfl⟩:=H
 try go_wp2_with (first|((with_reducible refine gc_ 106 ?_);refine gl_ 57 Try.func106 #[.pointer (some ⟨g,0,none⟩), .int .i64 40] ?_;(refine(F5.calls kj54 g ay ec6 40 true go4 w0 _ d7 go A62.out).mono ?_);rintro e w65 ⟨rfl,hi,hb,hk⟩;refine⟨_,rfl,?_⟩;replace dd:=kb_ hk dd vt;replace db:=kb_ hk db vc;replace di:=kb_ hk di jd;replace HK:=A_ (Ja.trans (ft) hk (.inl rfl));replace HB:=A_ (hb);replace HI0:=A_ (hi)))
 replace dd:=bd_ dd
 replace db:=bd_ db
 replace di:=bd_ di
 replace HI0:=A_ (Jo.drew HI0.out)
 replace HK:=A_ (Jj HK.out)
 replace HB:=A_ (G1 HB.out)
 refine start_ (n:=8) (S:=fun w'=>w'.cell? ⟨bl,0,none⟩=some (.int .i64 (wrap64 ((rd cr e6) + (wrap64 ((wrap64 (Int.tdiv gs 59)) * 5)))))/\w'.cell? ⟨bl,1,none⟩=some (.int .i64 ai9)/\w'.cell? ⟨bl,2,none⟩=some (.int .i64 az5)/\w'.cell? ⟨bl,3,none⟩=some (.int .i64 dc7)) (ds:=[7]) (tl_ 8 0) (g0_) rfl (g0_) ⟨(Gy di.out 0).trans rfl,(Gy di.out 1).trans rfl,(Gy di.out 2).trans rfl,(Gy di.out 3).trans rfl⟩ (fun hHeld=>?_);refine Jl Ff.tab14 Ff.bits14 (fun HT_ HW_=>?_)
 generalize w65.drew=w66 at dd db di HI0 HK HB hHeld |-
 refine pw_ 0 58 (tl_ 8 1) ?_
 refine pw_ 2 60 (tl_ 8 5) ?_
 refine tk2_ 1 59 (tl_ 8 7) hHeld ?_
 refine one_ (i:=3) (N:=some 61) (tl_ 8 15) rfl rfl (Jn HT_.out (g0_)) (by decide) (fun K hK=>?_)
 refine goes_ Try.func70 (g0_) rfl #[.pointer (some ⟨g,0,none⟩), .int .i64 7] (by rfl) rfl rfl (gM_) ?_
 refine(Fa.calls kj54 g ay go4 7 fc2 lw8 w0 _ d7 go A64.out).mono ?_
 rintro e w67 ⟨rfl,hi,hb,hk⟩
 refine⟨_,rfl,?_⟩
 replace dd:=kb_ hk dd vt
 replace db:=kb_ hk db vc
 replace di:=kb_ hk di jd
 replace HK:=A_ (Ja.trans (ft) hk (.inl rfl))
 replace HB:=A_ (hb)
 replace HI0:=A_ (hi)
 refine hK.out _ _ ⟨(Gy di.out 0).trans rfl,(Gy di.out 1).trans rfl,(Gy di.out 2).trans rfl,(Gy di.out 3).trans rfl⟩ (fun hHeld=>?_)
 clear hK K
 refine nm_ ?_
 refine pw_ 4 62 (tl_ 8 31) ?_
 refine pw_ 5 63 (tl_ 8 63) ?_
 refine pw_ 6 64 (tl_ 8 127) ?_
 refine last_ (i:=7) (N:=none) (tl_ 8 255) rfl rfl (Jn HT_.out (g0_)) (by decide) (fun K hK=>?_)
 have oe5:w67.cell? ⟨bl,1,none⟩=some (.int .i64 ai9):=(Gy di.out 1).trans rfl
 have oe6:=G7 di.out 1
 refine skip_ (w1:=?_) (by rfl) rfl ?_ ?_
 rotate_left
 ·go_simp
  rfl
 refine hK.out _ _ ?_
 clear hK K
 refine done_ (done_of HT_.out (g0_)) ?_
 obtain⟨fx8,fx9,km6,of1,fy0,fy1,km7,of2⟩:=blk4_ di
 have km8:=gn3.out
 have km9:=gn2.out
 have es2:=vc.out
 have es3:=gn1.out
 obtain⟨fy2,fy3,fy4,fy5,fy6,fy7,fy8,fy9⟩:=blk4_ db
 try go_wp2
 refine bodyPost_ret (results_cell_row rfl _ _ ek 69 #[.int .i64 (wrap64 ((rd cr e6) + (wrap64 ((wrap64 (Int.tdiv gs 59)) * 5)))), .int .i64 (wrap64 ((wrap64 (ai9 + fc2)) - 2)), .int .i64 az5, .int .i64 dc7] (0,0) _ rfl (ba_ db) Try.underlying69 rfl (g0_)) rfl ?_
 exact⟨g186_,d7,go,ft⟩
def Fq.l0:Nat->Int->Int->List Int->Int->List Int->List (List Int)->List (S25)->Option (List Int × (List (List Int)) × (List (S25)) × Int)
 | 0,_,_,_,_,_,_,_=>none
 | k + 1,x1,x6,jv,nl,cs5,dc8,cs6=>if x6 > 0 then((Ff.f k jv nl cs5 dc8 cs6).bind fun bt669=>((Ge.f k cs5 dc8 cs6 bt669.1 bt669.2.1 bt669.2.2.1 bt669.2.2.2.1).bind fun bt674=>(if bt674.2.2.2=true then(Fq.l0 k x1 (wrap64 (x6 - 1)) jv bt669.2.2.2.2 bt674.1 bt674.2.1 bt674.2.2.1) else(Fq.l0 k x1 (wrap64 (x6 - 1)) jv bt669.2.2.2.2 cs5 dc8 cs6)))) else((F5.f k jv nl x1).bind fun bt685=>(if bt685.1=true then((Fa.f k jv bt685.2 3).bind fun bt687=>(if bt687.1=0 then(if 0 < (cs5.length:Int) then(some ((cs5.set (0:Int).toNat (-1)),dc8,cs6,bt687.2)) else(none)) else(if bt687.1=1 then(if 5<=35184372088832 then(if cs6.length < 2932031007402 then(some (cs5,dc8,(cs6 ++ [(⟨(List.replicate 5 0),([]:List (List Int))⟩:S25)]),bt687.2)) else(none)) else(none)) else(some (([]:List Int),([]:List (List Int)),([]:List (S25)),bt687.2))))) else(some (cs5,dc8,cs6,bt685.2))))
def Fq.f (k:Nat) (ay:List Int) (eh:Int) (a1:Int):Option (List Int × (List (List Int)) × (List (S25)) × Int):=(Fn.f k ay eh 0).bind fun bt659=>((Fa.f k ay bt659.2.2 5).bind fun bt667=>(Fq.l0 k a1 bt667.1 ay bt667.2 bt659.1 bt659.2.1 ([]:List (S25))))
def Fq.T5:Bool × List (List Nat × List Nat):=(true,[([],[]),([],[]),([],[]),([1,2],[1,2]),([0,3,3],[0,3]),([4],[4]),([5],[5]),([5],[5]),([],[]),([8,6,4,0,1,2,3,4,5,6,8],[6,8]),([7,9,0,1,2,3,4,5,6,7,8,9],[7])])
def Fq.B5:List Nat:=[0,0,0,6,15,31,63,63,0,383,1023]
theorem Fq.tab5:rtab .any (opsOf Try.f77 5)=Fq.T5:=by kernel_rfl
theorem Fq.bits5:waitsOk Fq.T5.2 Fq.B5=true:=by kernel_rfl
def Fq.T14:Bool × List (List Nat × List Nat):=(true,[([],[]),([0],[0]),([],[]),([2],[2]),([3],[3]),([1,4],[1,4]),([0,1,2,3,4,5],[]),([6,5,5,0,1,2,3,4,5],[5,6])])
def Fq.B14:List Nat:=[0,1,0,4,12,31,63,127]
theorem Fq.tab14:rtab .any (opsOf Try.f77 14)=Fq.T14:=by kernel_rfl
theorem Fq.bits14:waitsOk Fq.T14.2 Fq.B14=true:=by kernel_rfl
theorem d8 {p:Prop} (h:p:=by repeat(first|(with_reducible first|exact HI0.out|apply Jo.alloc|apply Jo.drewN|apply Jo.drew|apply Jo.set_1|refine Jo.far ?_ ec7.out _|refine Jo.far ?_ dc9.out _|refine Jo.far ?_ aj0.out _)|exact HI0.out)):p:=h
theorem g4 {p:Prop} (h:p:=by repeat(first|(with_reducible first|exact HK.out|apply Ja.set_|apply Ji|apply Jj|apply keep_alloc|refine Jk ?_ lw9.out _|refine Jk ?_ lx0.out _|refine Jk ?_ an4.out _)|exact HK.out)):p:=h
theorem lf {p:Prop} (h:p:=by repeat(first|(with_reducible first|exact HB.out|apply G3|apply G2|apply G1|refine G0 ?_ (Jo.ge HI0.out)|refine G0 ?_ lx1.out|refine G0 ?_ lx2.out|refine G0 ?_ an5.out)|exact HB.out)):p:=h
theorem Fq.calls.z0 {p:Prop} (h:p:=by exact norm_ (g8_) (hCont (si,vv,ac4,dt) _ ⟨hHeld,(yR_ aj1 (fun _ hk=>hk.2)),(yS_ aj2 (fun _ hk=>⟨hk.1.1,⟨hk.1.2,hk.2⟩⟩)),(yQ_ aj3 (fun _ hk=>⟨hk.1.1.1.1,⟨hk.1.1.1.2,⟨hk.1.1.2,⟨hk.1.2,hk.2⟩⟩⟩⟩)),(yR_ dg (fun _ hk=>hk.2)),(yS_ dv (fun _ hk=>⟨hk.1.2,⟨hk.2,hk.1.1⟩⟩)),(yQ_ d3 (fun _ hk=>⟨hk.1.1.2,⟨hk.1.2,⟨hk.2,⟨hk.1.1.1.1,hk.1.1.1.2⟩⟩⟩⟩)),(uB_ ed),(uB_ cc),(uB_ kn),an4.out,an5.out,aj0.out,af7.out,rv.out,xp.out,ko.out,xq.out,(d8),(g4),(lf)⟩)):p:=h
set_option maxHeartbeats 8000000 in
set_option maxRecDepth 100000 in
theorem Fq.calls (k:Nat) (g:Nat) (ay:List Int) (eh:Int) (a1:Int) (r1:List Int) (r2:List (List Int)) (r3:List (S25)) (r4:Int) (w0 w:World) (hI:Jo w0 w g ay eh) (hB:Below w0.heap.size w0 w) (h:Fq.f k ay eh a1=some (r1,r2,r3,r4)) :
  Calls Try.prog 77 #[.pointer (some ⟨g,0,none⟩), .int .i64 a1] w fun e w'=>∃v0_ v1_ v2_:Value,e = .returned (.agg #[v0_,v1_,v2_])/\Kd.R (Kd.int .i64) 3 w' w.heap.size (fun _=>True) v0_ r1/\Kd.S (Kd.slice 3 (Kd.int .i64)) 22 w' w.heap.size (fun k_=>some k_≠(v0_:Value).ownBlock) v1_ r2/\Kd.Q k25 25 w' w.heap.size (fun k_=>some k_≠(v0_:Value).ownBlock/\some k_≠(v1_:Value).ownBlock) v2_ r3/\Jo w0 w' g ay r4/\Below w0.heap.size w0 w'/\Ja w w' g none:=by
 have hu28:=Try.underlying28
 have hu25:=Try.underlying25
 have HI0:=A_ hI
 have HK:=A_ (Ja.refl w g none)
 have HL:=A_ hB.size
 clear hI
 have HW0:=A_ hB.size
 have HB:=A_ hB
 clear hB
 have H:=h
 unfold Fq.f at H
 clear h
 replace H:=Option.bind_eq_some_iff.mp H
 obtain⟨⟨cf6,cs7,dd0⟩,nu,H⟩:=H
 try dsimp only at H
 have A3:=A_ nu
 clear nu
 replace H:=Option.bind_eq_some_iff.mp H
 obtain⟨⟨iy3,iy4⟩,r8,H⟩:=H
 try dsimp only at H
 have A4:=A_ r8
 clear r8
 have H':=A_ H
 clear H
 go_enter Try.func77,Try.ntmps77
 go_wp2_with (first|((with_reducible refine gd_ 4 ?_);refine bx_ (N:=4) #[.slice none 0 0, .slice none 0 0, .slice none 0 0] 28 ?_;intro gu hg w5 hbox hb;replace HB:=hs_ (lf) hb;have ed:=A_ (hbox);have lw9:=A_ ((g25_:w.heap.size<=gu));have lx1:=A_ (Nat.le_trans HW0.out lw9.out);replace HK:=kt_ (g4) hb;have ec7:=A_ ((by rw[hg];exact Nat.ne_of_lt (Jo.lt (show Jo w0 _ g ay eh from d8)):g≠gu));have ac2:=A_ ((by rw[hg];exact Nat.ne_of_gt (Jo.lt (show Jo w0 _ g ay eh from d8)):gu≠g));replace HI0:=A_ (Jo.below (d8) hb);clear hb hbox hg)|((with_reducible refine gc_ 91 ?_);refine gl_ 10 Try.func91 #[.pointer (some ⟨g,0,none⟩), .int .i64 0] ?_;(refine(Fn.calls k g ay eh 0 cf6 cs7 dd0 w0 _ d8 lf A3.out).mono ?_);rintro e w6 ⟨og7,og8,rfl,ae,ax,hi,hb,hk⟩;refine⟨_,rfl,?_⟩;replace ed:=kb_ hk ed ac2;have dd1:=A_ (Kd.R_lower ae (Jh (w:=w) (g:=g) (row:=none) (g4)));have dd2:=A_ (Kd.S_lower ax (Jh (w:=w) (g:=g) (row:=none) (g4)));replace HK:=A_ (Ja.trans (g4) hk (.inl rfl));replace HB:=A_ (hb);replace HI0:=A_ (hi);obtain⟨Ao7,co7,eo7⟩:=Kd.S_slice dd2.out;subst eo7;obtain⟨jy,jz,eo8⟩:=Kd.R_slice dd1.out;subst eo8)|((with_reducible refine gd_ 5 ?_);refine bx_ (N:=5) #[.slice none 0 0, .slice none 0 0, .slice none 0 0] 28 ?_;intro fo hg w9 hbox hb;replace dd1:=rb_ dd1 hb;replace dd2:=sb_ dd2 hb;replace HB:=hs_ (lf) hb;have cc:=A_ (hbox);have lx0:=A_ ((g25_:w.heap.size<=fo));have lx2:=A_ (Nat.le_trans HW0.out lx0.out);replace HK:=kt_ (g4) hb;have an6:=nl_ ed hg;have cs8:=nr_ ed hg;replace ed:=bb_ ed hb;have dc9:=A_ ((by rw[hg];exact Nat.ne_of_lt (Jo.lt (show Jo w0 _ g ay dd0 from d8)):g≠fo));have ac3:=A_ ((by rw[hg];exact Nat.ne_of_gt (Jo.lt (show Jo w0 _ g ay dd0 from d8)):fo≠g));replace HI0:=A_ (Jo.below (d8) hb);clear hb hbox hg;have cn6:=cs8.out;have cn7:=an6.out;have aq2:=ac3.out;have aq3:=dc9.out;obtain⟨wu,wv,al7,yf,ww,al8⟩:=blk3_ cc)|((with_reducible refine gc_ 70 ?_);refine gl_ 13 Try.func70 #[.pointer (some ⟨g,0,none⟩), .int .i64 5] ?_;(refine(Fa.calls k g ay dd0 5 iy3 iy4 w0 _ d8 lf A4.out).mono ?_);rintro e w13 ⟨rfl,hi,hb,hk⟩;refine⟨_,rfl,?_⟩;replace ed:=A_ (Ja.blk hk (g':=gu) (o:=.cells #[.slice none 0 0, .slice none 0 0, .slice none 0 0] 28 (0,0)) (ba_ ed) ac2.out (by simp));replace dd1:=A_ (Kd.R_mono (Kd.R_keep (Jo.apart (show Jo w0 _ g ay dd0 from d8) (ra_ dd1) (by decide)) hk (fun _ h=>h.2)) (fun _ h=>h.1));replace dd2:=A_ (Kd.S_mono (Kd.S_keep (Jo.apartS (show Jo w0 _ g ay dd0 from d8) (sa_ dd2) (by decide)) hk (fun _ h=>h.2)) (fun _ h=>h.1));replace cc:=A_ (Ja.blk hk (g':=fo) (o:=.cells #[.slice jy cf6.length jz, .slice Ao7 cs7.length co7, .slice none 0 0] 28 (0,0)) (ba_ cc) ac3.out (by simp));replace HK:=A_ (Ja.trans (g4) hk (.inl rfl));replace HB:=A_ (hb);replace HI0:=A_ (hi)))
 go_loopg [6] k (fun kq v6 w'=>∃(kb:Int) (g9:Int) (eg:List Int) (fp:List (List Int)) (gw:List (S25)) (bw0:Value) (bl6:Value) (bw1:Value),v6 = .int .i64 kb/\Gx (Fq.l0 kq a1 kb ay g9 eg fp gw=some (r1,r2,r3,r4))/\Gx (kq<=k)/\Gx (Kd.R (Kd.int .i64) 3 w' w.heap.size (fun _=>True) bw0 eg)/\Gx (Kd.S (Kd.slice 3 (Kd.int .i64)) 22 w' w.heap.size (fun k_=>some k_≠(bw0:Value).ownBlock) bl6 fp)/\Gx (Kd.Q k25 25 w' w.heap.size (fun k_=>some k_≠(bw0:Value).ownBlock/\some k_≠(bl6:Value).ownBlock) bw1 gw)/\Gx (hc_ w' gu #[(.slice none 0 0),(.slice none 0 0),(.slice none 0 0)] 28)/\Gx (hc_ w' fo #[bw0,bl6,bw1] 28)/\Gx (Jo w0 w' g ay g9)/\Gx (Ja w w' g none)/\Gx (Below w0.heap.size w0 w'))
 case atStart=>exact⟨(iy3),(iy4),(cf6),(cs7),(([]:List (S25))),(.slice jy cf6.length jz),(.slice Ao7 cs7.length co7),(.slice none 0 0),(g3_),H',⟨Nat.le_refl _⟩,⟨uR_ dd1⟩,⟨uS_ dd2⟩,⟨Kd.Q_of_R (g24_)⟩,⟨uB_ ed⟩,⟨uB_ cc⟩,⟨d8⟩,⟨g4⟩,⟨lf⟩⟩
 clear H'
 obtain⟨kb,g9,eg,fp,gw,bw0,bl6,bw1,rfl,HA,HK1,dg,dv,d3,ed,cc,HI0,HK,HB⟩:=hrel
 cases gk with
 | zero=>exact absurd HA.out (by simp[Fq.l0])
 | succ k1=>?_
 have H:=HA.out
 clear HA
 simp only[Fq.l0] at H
 by_cases iw:kb > 0
 case neg=>
  rw[if_neg iw] at H
  have ak2:=decide_eq_false iw
  clear iw
  replace H:=Option.bind_eq_some_iff.mp H
  obtain⟨⟨lx5,af8⟩,iy7,H⟩:=H
  try dsimp only at H
  have A53:=A_ iy7
  clear iy7
  by_cases c54:lx5=true
  case neg=>
   replace c54:=Bool.eq_false_iff.mpr c54
   subst c54
   replace H:=ifn_ H
   simp only[Option.some.injEq,Prod.mk.injEq] at H
   obtain⟨rfl,rfl,rfl,rfl⟩:=H
   go_wp2_with (first|((with_reducible refine gc_ 106 ?_);refine gl_ 30 Try.func106 #[.pointer (some ⟨g,0,none⟩), .int .i64 a1] ?_;(refine(F5.calls k1 g ay g9 a1 false af8 w0 _ d8 lf A53.out).mono ?_);rintro e w95 ⟨rfl,hi,hb,hk⟩;refine⟨_,rfl,?_⟩;replace dg:=A_ (Kd.R_mono (Kd.R_keep (Jo.apart (show Jo w0 _ g ay g9 from d8) (uR_ dg) (by decide)) hk (fun _ h=>h.2)) (fun _ h=>h.1));replace dv:=A_ (Kd.S_mono (Kd.S_keep (Jo.apartS (show Jo w0 _ g ay g9 from d8) (uS_ dv) (by decide)) hk (fun _ h=>h.2)) (fun _ h=>h.1));replace d3:=A_ (Kd.Q_mono (Kd.Q_keep (Jo.apartQ (show Jo w0 _ g ay g9 from d8) (uQ_ d3) (by decide)) hk (fun _ h=>h.2)) (fun _ h=>h.1));replace ed:=kb_ hk ed ac2;replace cc:=kb_ hk cc ac3;replace HK:=A_ (Ja.trans (g4) hk (.inl rfl));replace HB:=A_ (hb);replace HI0:=A_ (hi);have oj9:=cs8.out;have ok0:=an6.out;have ko6:=ac3.out;have ko7:=dc9.out;obtain⟨ok1,ok2,ok3,ok4,ok5,ok6⟩:=blk3_ cc;obtain⟨oq,ot,fc5⟩:=Kd.R_slice dg.out;subst fc5;have lo4:=ac2.out;have lo5:=ec7.out;obtain⟨ok7,ok8,ok9,ol0,ol1,ol2⟩:=blk3_ ed;obtain⟨bs8,bs9,fz2⟩:=Kd.S_slice dv.out;subst fz2;obtain⟨rx,ry,fc6,_⟩:=Kd.Q_slice d3.out;subst fc6))
   refine bodyPost_ret (results_cell_row rfl _ _ gu 28 #[.slice oq eg.length ot, .slice bs8 fp.length bs9, .slice rx gw.length ry] (0,0) _ rfl (ba_ ed) Try.underlying28 rfl (g0_)) rfl ?_
   exact⟨_,_,_,g4_,ra_ dg,sa_ dv,qa_ d3,d8,lf,g4⟩
  subst c54
  replace H:=ifp_ H
  replace H:=Option.bind_eq_some_iff.mp H
  obtain⟨⟨at1,dd3⟩,iy8,H⟩:=H
  try dsimp only at H
  have A55:=A_ iy8
  clear iy8
  by_cases c56:at1=0
  ·rw[if_pos c56] at H
   have lx6:(at1 == 0)=true:=beq_iff_eq.mpr c56
   have lx7:(at1 != 0)=false:=bne_eq_false_iff_eq.mpr c56
   clear c56
   obtain⟨u6,H⟩:=pos_ H
   have iy9:=decide_eq_true u6
   have iz0:decide (0 < eg.length)=true:=decide_eq_true (by omega)
   clear u6
   obtain⟨iz1,hyq⟩:∃y_:List Int,y_=(eg.set (0:Int).toNat (-1)):=⟨_,rfl⟩
   replace H:(some (iz1,fp,gw,dd3))=some (r1,r2,r3,r4):=qh_
   have lx8:=A_ hyq
   clear hyq
   simp only[Option.some.injEq,Prod.mk.injEq] at H
   obtain⟨rfl,rfl,rfl,rfl⟩:=H
   go_wp2_with (first|((with_reducible refine gc_ 106 ?_);refine gl_ 30 Try.func106 #[.pointer (some ⟨g,0,none⟩), .int .i64 a1] ?_;(refine(F5.calls k1 g ay g9 a1 true af8 w0 _ d8 lf A53.out).mono ?_);rintro e w59 ⟨rfl,hi,hb,hk⟩;refine⟨_,rfl,?_⟩;replace dg:=A_ (Kd.R_mono (Kd.R_keep (Jo.apart (show Jo w0 _ g ay g9 from d8) (uR_ dg) (by decide)) hk (fun _ h=>h.2)) (fun _ h=>h.1));replace dv:=A_ (Kd.S_mono (Kd.S_keep (Jo.apartS (show Jo w0 _ g ay g9 from d8) (uS_ dv) (by decide)) hk (fun _ h=>h.2)) (fun _ h=>h.1));replace d3:=A_ (Kd.Q_mono (Kd.Q_keep (Jo.apartQ (show Jo w0 _ g ay g9 from d8) (uQ_ d3) (by decide)) hk (fun _ h=>h.2)) (fun _ h=>h.1));replace ed:=kb_ hk ed ac2;replace cc:=kb_ hk cc ac3;replace HK:=A_ (Ja.trans (g4) hk (.inl rfl));replace HB:=A_ (hb);replace HI0:=A_ (hi))|((with_reducible refine gc_ 70 ?_);refine gl_ 32 Try.func70 #[.pointer (some ⟨g,0,none⟩), .int .i64 3] ?_;(refine(Fa.calls k1 g ay af8 3 at1 dd3 w0 _ d8 lf A55.out).mono ?_);rintro e w60 ⟨rfl,hi,hb,hk⟩;refine⟨_,rfl,?_⟩;replace dg:=A_ (Kd.R_mono (Kd.R_keep (Jo.apart (show Jo w0 _ g ay af8 from d8) (uR_ dg) (by decide)) hk (fun _ h=>h.2)) (fun _ h=>h.1));replace dv:=A_ (Kd.S_mono (Kd.S_keep (Jo.apartS (show Jo w0 _ g ay af8 from d8) (uS_ dv) (by decide)) hk (fun _ h=>h.2)) (fun _ h=>h.1));replace d3:=A_ (Kd.Q_mono (Kd.Q_keep (Jo.apartQ (show Jo w0 _ g ay af8 from d8) (uQ_ d3) (by decide)) hk (fun _ h=>h.2)) (fun _ h=>h.1));replace ed:=kb_ hk ed ac2;replace cc:=kb_ hk cc ac3;replace HK:=A_ (Ja.trans (g4) hk (.inl rfl));replace HB:=A_ (hb);replace HI0:=A_ (hi);have is7:=cs8.out;have is8:=an6.out;have ey9:=ac3.out;have ez0:=dc9.out;obtain⟨es8,es9,hy8,et0,et1,hy9⟩:=blk3_ cc;have p58:0<=(0:Int):=(by omega);have q58:(0:Int) < ((eg.length:Int):Int):=od_;have qi58:(0 < eg.length)=True:=eq_true (by omega);obtain⟨an7,az6,iz2,iz3,gl58,cl58,HG58⟩:=Kd.R_form dg.out (by omega);(first|cases iz2|(injection iz2 with ea_ en_ ec_;(first|subst ea_|(injection ea_ with ea_;subst ea_));subst ec_;clear en_));have GB58:=A_ iz3;have GG58:=A_ HG58;clear iz3 gl58 HG58;obtain⟨iz4,hf58_0⟩:=Kd.R_celln 0 dg.out (0:Int) p58 q58;(try rw[show((0:Int)).toNat=0 from rfl] at iz4);(try simp only[Nat.reduceMul,Nat.zero_mul,Nat.zero_add,Nat.reduceAdd] at iz4);(try rw[show((0:Int)).toNat=0 from rfl] at hf58_0);(try simp only[Nat.reduceMul,Nat.zero_mul,Nat.zero_add,Nat.reduceAdd] at hf58_0);replace p58:=eq_true p58;replace q58:=eq_true q58;obtain⟨hy64_,hz64_⟩:=Kd.R_celln 0 dg.out (0:Int) (by omega) (od_);(try simp only[Int.reduceToNat,Int.toNat_zero,Int.toNat_ofNat,Nat.reduceMul,Nat.zero_mul,Nat.zero_add] at hy64_ hz64_);(try rw[show((0:Int)).toNat=0 from rfl] at hy64_);(try rw[show((0:Int)).toNat=0 from rfl] at hz64_);have HP64:=Kd.R_putg dg.out (0:Int) (-1))|((with_reducible refine gate_store (t:=3) (p:=39) rfl ?_);refine store_event (t:=3) (p:=39) (v:=?vo_w65) (w1:=(w60.setCell ⟨an7,(0:Int).toNat,none⟩ (.int .i64 (-1)))) ?hg ?ho ?hn ?hr ?_;(case ho=>rfl);(case hg=>rfl);(case hn=>rfl);(case hr=>first|(go_simp;done)|(go_simp;rfl));intro w65 hw;have hg:w60.grownBy w65 (some an7):=(by rw[hw];exact HP64.2);have hp_:Kd.R (Kd.int .i64) 3 w65 w.heap.size (fun _=>True) (.slice (some ⟨an7,0,none⟩) eg.length az6) iz1:=(by rw[hw,lx8.out];exact HP64.1);clear HP64;replace dv:=A_ (Kd.S_after (v:=(.slice (some ⟨an7,0,none⟩) eg.length az6)) (v1:=(.slice (some ⟨an7,0,none⟩) eg.length az6)) (ok:=(fun _=>True)) (yS_ dv (fun _ hk=>⟨trivial,hk⟩)) hg (.inl rfl));replace d3:=A_ (Kd.Q_after (v:=(.slice (some ⟨an7,0,none⟩) eg.length az6)) (v1:=(.slice (some ⟨an7,0,none⟩) eg.length az6)) (ok:=(fun k_=>some k_≠(bl6:Value).ownBlock)) (yQ_ d3 (fun _ hk=>⟨hk.2,hk.1⟩)) hg (.inl rfl));replace ed:=(bg_ ed hg (Kd.R_ne dg.out ed.out (by decide)));replace cc:=(bg_ cc hg (Kd.R_ne dg.out cc.out (by decide)));replace HI0:=A_ (Jo.grown (d8) hg (Jo.own_ne HI0.out dg.out (by decide)));replace HB:=A_ ((by rw[hw];exact G0 (HB.out) (Nat.le_trans HL.out GB58.out):Below w0.heap.size w0 w65));replace HK:=A_ (Ja.trans (g4) (Ja.of_grown hg g) (Kd.R_base2 dg.out));replace dg:=A_ (hp_);clear hg hw hp_;obtain⟨ik9,il0,il1,il2,il3,il4⟩:=blk3_ cc;have fv8:=ac2.out;have fv9:=ec7.out;obtain⟨dt9,du0,du1,du2,du3,du4⟩:=blk3_ ed;obtain⟨az2,az3,gm0⟩:=Kd.S_slice dv.out;subst gm0;obtain⟨fc3,fc4,lx9,_⟩:=Kd.Q_slice d3.out;subst lx9))
   refine bodyPost_ret (results_cell_row rfl _ _ gu 28 #[.slice (some ⟨an7,0,none⟩) eg.length az6, .slice az2 fp.length az3, .slice fc3 gw.length fc4] (0,0) _ rfl (ba_ ed) Try.underlying28 rfl (g0_)) rfl ?_
   exact⟨_,_,_,g4_,ra_ dg,sa_ dv,qa_ d3,d8,lf,g4⟩
  rw[if_neg c56] at H
  have lx6:(at1 == 0)=false:=beq_eq_false_iff_ne.mpr c56
  have lx7:(at1 != 0)=true:=bne_iff_ne.mpr c56
  by_cases c71:at1=1
  case neg=>
   rw[if_neg c71] at H
   have iz5:(at1 == 1)=false:=beq_eq_false_iff_ne.mpr c71
   have iz6:(at1 != 1)=true:=bne_iff_ne.mpr c71
   simp only[Option.some.injEq,Prod.mk.injEq] at H
   obtain⟨rfl,rfl,rfl,rfl⟩:=H
   go_wp2_with (first|((with_reducible refine gc_ 106 ?_);refine gl_ 30 Try.func106 #[.pointer (some ⟨g,0,none⟩), .int .i64 a1] ?_;(refine(F5.calls k1 g ay g9 a1 true af8 w0 _ d8 lf A53.out).mono ?_);rintro e w90 ⟨rfl,hi,hb,hk⟩;refine⟨_,rfl,?_⟩;replace dg:=A_ (Kd.R_mono (Kd.R_keep (Jo.apart (show Jo w0 _ g ay g9 from d8) (uR_ dg) (by decide)) hk (fun _ h=>h.2)) (fun _ h=>h.1));replace dv:=A_ (Kd.S_mono (Kd.S_keep (Jo.apartS (show Jo w0 _ g ay g9 from d8) (uS_ dv) (by decide)) hk (fun _ h=>h.2)) (fun _ h=>h.1));replace d3:=A_ (Kd.Q_mono (Kd.Q_keep (Jo.apartQ (show Jo w0 _ g ay g9 from d8) (uQ_ d3) (by decide)) hk (fun _ h=>h.2)) (fun _ h=>h.1));replace ed:=kb_ hk ed ac2;replace cc:=kb_ hk cc ac3;replace HK:=A_ (Ja.trans (g4) hk (.inl rfl));replace HB:=A_ (hb);replace HI0:=A_ (hi))|((with_reducible refine gc_ 70 ?_);refine gl_ 32 Try.func70 #[.pointer (some ⟨g,0,none⟩), .int .i64 3] ?_;(refine(Fa.calls k1 g ay af8 3 at1 dd3 w0 _ d8 lf A55.out).mono ?_);rintro e w91 ⟨rfl,hi,hb,hk⟩;refine⟨_,rfl,?_⟩;replace dg:=A_ (Kd.R_mono (Kd.R_keep (Jo.apart (show Jo w0 _ g ay af8 from d8) (uR_ dg) (by decide)) hk (fun _ h=>h.2)) (fun _ h=>h.1));replace dv:=A_ (Kd.S_mono (Kd.S_keep (Jo.apartS (show Jo w0 _ g ay af8 from d8) (uS_ dv) (by decide)) hk (fun _ h=>h.2)) (fun _ h=>h.1));replace d3:=A_ (Kd.Q_mono (Kd.Q_keep (Jo.apartQ (show Jo w0 _ g ay af8 from d8) (uQ_ d3) (by decide)) hk (fun _ h=>h.2)) (fun _ h=>h.1));replace ed:=kb_ hk ed ac2;replace cc:=kb_ hk cc ac3;replace HK:=A_ (Ja.trans (g4) hk (.inl rfl));replace HB:=A_ (hb);replace HI0:=A_ (hi);have le6:=an6.out;have le7:=cs8.out;have fz0:=ac2.out;have fz1:=ec7.out;obtain⟨le8,le9,oj7,lf0,lf1,oj8⟩:=blk3_ ed))
   refine bodyPost_ret (results_cell_row rfl _ _ gu 28 #[.slice none 0 0, .slice none 0 0, .slice none 0 0] (0,0) _ rfl (ba_ ed) Try.underlying28 rfl (g0_)) rfl ?_
   exact⟨_,_,_,g4_,g24_,g33_,Kd.Q_of_R (g24_),d8,lf,g4⟩
  rw[if_pos c71] at H
  have iz5:(at1 == 1)=true:=beq_iff_eq.mpr c71
  have iz6:(at1 != 1)=false:=bne_eq_false_iff_eq.mpr c71
  clear c71
  obtain⟨c72,H⟩:=pos_ H
  have ly0:=eq_true c72
  have ly1:=decide_eq_true c72
  clear c72
  obtain⟨ec8,hyq⟩:∃y_:List Int,y_=(List.replicate 5 0):=⟨_,rfl⟩
  replace H:(if gw.length < 2932031007402 then(some (eg,fp,(gw ++ [(⟨ec8,([]:List (List Int))⟩:S25)]),dd3)) else(none))=some (r1,r2,r3,r4):=qh_
  have iz7:=A_ hyq
  clear hyq
  obtain⟨c73,H⟩:=pos_ H
  have ly2:=A_ c73
  clear c73
  obtain⟨cf7,hyq⟩:∃y_:List (S25),y_=(gw ++ [(⟨ec8,([]:List (List Int))⟩:S25)]):=⟨_,rfl⟩
  replace H:(some (eg,fp,cf7,dd3))=some (r1,r2,r3,r4):=qh_
  have ly3:=A_ hyq
  clear hyq
  simp only[Option.some.injEq,Prod.mk.injEq] at H
  obtain⟨rfl,rfl,rfl,rfl⟩:=H
  try go_wp2_with (first|((with_reducible refine gc_ 106 ?_);refine gl_ 30 Try.func106 #[.pointer (some ⟨g,0,none⟩), .int .i64 a1] ?_;(refine(F5.calls k1 g ay g9 a1 true af8 w0 _ d8 lf A53.out).mono ?_);rintro e w74 ⟨rfl,hi,hb,hk⟩;refine⟨_,rfl,?_⟩;replace dg:=A_ (Kd.R_mono (Kd.R_keep (Jo.apart (show Jo w0 _ g ay g9 from d8) (uR_ dg) (by decide)) hk (fun _ h=>h.2)) (fun _ h=>h.1));replace dv:=A_ (Kd.S_mono (Kd.S_keep (Jo.apartS (show Jo w0 _ g ay g9 from d8) (uS_ dv) (by decide)) hk (fun _ h=>h.2)) (fun _ h=>h.1));replace d3:=A_ (Kd.Q_mono (Kd.Q_keep (Jo.apartQ (show Jo w0 _ g ay g9 from d8) (uQ_ d3) (by decide)) hk (fun _ h=>h.2)) (fun _ h=>h.1));replace ed:=kb_ hk ed ac2;replace cc:=kb_ hk cc ac3;replace HK:=A_ (Ja.trans (g4) hk (.inl rfl));replace HB:=A_ (hb);replace HI0:=A_ (hi))|((with_reducible refine gc_ 70 ?_);refine gl_ 32 Try.func70 #[.pointer (some ⟨g,0,none⟩), .int .i64 3] ?_;(refine(Fa.calls k1 g ay af8 3 at1 dd3 w0 _ d8 lf A55.out).mono ?_);rintro e w75 ⟨rfl,hi,hb,hk⟩;refine⟨_,rfl,?_⟩;replace dg:=A_ (Kd.R_mono (Kd.R_keep (Jo.apart (show Jo w0 _ g ay af8 from d8) (uR_ dg) (by decide)) hk (fun _ h=>h.2)) (fun _ h=>h.1));replace dv:=A_ (Kd.S_mono (Kd.S_keep (Jo.apartS (show Jo w0 _ g ay af8 from d8) (uS_ dv) (by decide)) hk (fun _ h=>h.2)) (fun _ h=>h.1));replace d3:=A_ (Kd.Q_mono (Kd.Q_keep (Jo.apartQ (show Jo w0 _ g ay af8 from d8) (uQ_ d3) (by decide)) hk (fun _ h=>h.2)) (fun _ h=>h.1));replace ed:=kb_ hk ed ac2;replace cc:=kb_ hk cc ac3;replace HK:=A_ (Ja.trans (g4) hk (.inl rfl));replace HB:=A_ (hb);replace HI0:=A_ (hi)))
  replace dg:=rd_ dg
  replace dv:=sd_ dv
  replace d3:=qd_ d3
  replace ed:=bd_ ed
  replace cc:=bd_ cc
  replace HI0:=A_ (Jo.drew HI0.out)
  replace HK:=A_ (Jj HK.out)
  replace HB:=A_ (G1 HB.out)
  refine start_ (n:=8) (S:=fun w'=>w'.cell? ⟨fo,0,none⟩=some (bw0)/\w'.cell? ⟨fo,1,none⟩=some (bl6)/\w'.cell? ⟨fo,2,none⟩=some (bw1)) (ds:=[7]) (tl_ 8 0) (g0_) rfl (g0_) ⟨(Gy cc.out 0).trans rfl,(Gy cc.out 1).trans rfl,(Gy cc.out 2).trans rfl⟩ (fun hHeld=>?_);refine Jl Fq.tab14 Fq.bits14 (fun HT_ HW_=>?_)
  generalize w75.drew=w76 at dg dv d3 ed cc HI0 HK HB hHeld |-
  refine pw_ 0 42 (tl_ 8 1) ?_
  refine tk3_ 1 43 (tl_ 8 3) hHeld ?_
  refine one_ (i:=2) (N:=some 44) (tl_ 8 7) rfl rfl (Jn HT_.out (g0_)) (by decide) (fun K hK=>?_)
  refine Kd.R_make_step (Kd.int .i64) _ 3 (by rfl) (N:=44) rfl 22 _ _ rfl 5 rfl rfl Try.underlying22 (.int .i64 0) 8 info3 rfl (by decide) (by omega) 0 (ok:=fun _=>True) (okp:=fun _=>True) rfl (fun _ hk=>hk) trivial (by omega) (by omega) (Below.refl _ _) (Nat.le_refl _) ?_
  intro oi3 w77 cf8 hb hg_ hnew_
  clear hg_ hnew_
  (first|rw[<- iz7.out] at cf8|(simp only[Int.reduceToNat] at cf8;rw[<- iz7.out] at cf8))
  replace dv:=A_ (Kd.S_elder' (uS_ dv) (Kd.R_base cf8) hb)
  replace d3:=A_ (Kd.Q_elder' (uQ_ d3) (Kd.R_base cf8) hb)
  have go8:=A_ (Kd.R_lower (Kd.R_new' cf8 (Kd.R_lt (uR_ dg))) (Jh (w:=w) (g:=g) (row:=none) (g4)))
  replace dg:=A_ (Kd.R_elder' (uR_ dg) (Kd.R_base cf8) hb)
  replace ed:=bb_ ed hb
  replace cc:=bb_ cc hb
  replace HK:=kt_ (g4) hb
  replace HB:=hs_ (lf) hb
  replace HI0:=A_ (Jo.below (d8) hb)
  clear hb cf8
  obtain⟨mm,me,fa9⟩:=Kd.R_slice go8.out
  (first|subst fa9|(injection fa9 with f1_ f2_ f3_;have f4_:=f1_.symm;have f5_:=f3_.symm;clear f1_ f2_ f3_;subst f4_;subst f5_))
  refine hK.out _ _ ⟨(Gy cc.out 0).trans rfl,(Gy cc.out 1).trans rfl,(Gy cc.out 2).trans rfl⟩ (fun hHeld=>?_)
  clear hK K
  refine nm_ ?_
  refine pw_ 3 45 (tl_ 8 15) ?_
  refine one_ (i:=4) (N:=some 46) (tl_ 8 31) rfl rfl (Jn HT_.out (g0_)) (by decide) (fun K hK=>?_)
  refine value_ (w1:=?_) (v:=?_) (by rfl) rfl ?_ ?_
  rotate_left 2
  ·go_simp
   constructor
   ·rfl
   rfl
  refine hK.out _ _ ⟨(Gy (G4 cc.out _) 0).trans rfl,(Gy (G4 cc.out _) 1).trans rfl,(Gy (G4 cc.out _) 2).trans rfl⟩ (fun hHeld=>?_)
  clear hK K
  refine nm_ ?_
  refine one_ (i:=5) (N:=some 47) (tl_ 8 63) rfl rfl (Jn HT_.out (g0_)) (by decide) (fun K hK=>?_)
  refine Kd.Q_append_step k25 w.heap.size (by rfl) (.tmp 43) (.tmp 46) 26 25 (.agg #[(.slice none 0 0),(.slice none 0 0)]) 48 rfl Try.underlying26 info25 rfl (by decide) (by omega) bw1 gw (⟨ec8,([]:List (List Int))⟩:S25) [.slice mm ec8.length me, .slice none 0 0] (fun k_=>some k_≠(bw0:Value).ownBlock/\some k_≠(bl6:Value).ownBlock) (fun k_=>((fun k_=>some k_≠(bw0:Value).ownBlock/\some k_≠(bl6:Value).ownBlock)) k_/\some k_≠(bw1:Value).ownBlock) rfl rfl ?aP (fun _ hk=>hk) ?aF ?aO (Below.refl _ _) ?aS ?aL ?_
  (case aP=>exact k25_mkM _ _ _ (⟨ec8,([]:List (List Int))⟩:S25) (Kd.R_mono (Kd.R_apart' (Kd.R_apart' (go8.out) (Kd.S_typed dv.out) (by decide)) (Kd.Q_typed d3.out) (by decide)) (fun k_ hk=>⟨⟨hk.1.1.2,hk.1.2⟩,hk.2⟩)) (Kd.R_nil _ _ _ _ _))
  (case aF=>exact(fun k_ hk=>⟨Kd.fresh' (Kd.R_lt (uR_ dg)) k_ hk,Kd.fresh' (Kd.S_lt (uS_ dv)) k_ hk⟩))
  (case aO=>exact(yQ_ d3 (fun _ hk=>⟨hk.1.1,hk.1.2⟩)))
  (case aS=>exact(Jh (w:=w) (g:=g) (row:=none) (g4)))
  (case aL=>have:=ly2.out;omega)
  intro oi4 w80 ho hb hg hat
  rw[<- ly3.out] at ho
  replace dg:=A_ (Kd.R_over' (uR_ dg) (Kd.Q_typed (uQ_ d3)) (by decide) hg)
  replace dv:=A_ (Kd.S_over' (uS_ dv) (Kd.Q_typed (uQ_ d3)) (by decide) hg)
  replace ed:=(bg_ ed hg (Kd.Q_ne d3.out ed.out (by decide)))
  replace cc:=(bg_ cc hg (Kd.Q_ne d3.out cc.out (by decide)))
  replace HB:=A_ (below_weaken (lf) HL.out hb)
  replace HI0:=A_ (Jo.grown (d8) hg (Jo.own_neQ HI0.out d3.out (by decide)))
  replace HK:=A_ (Ja.trans (g4) (Ja.of_grown hg g) (Kd.Q_base2 d3.out))
  have iz8:=A_ (ho)
  clear d3 go8
  clear ho hb hg hat
  obtain⟨cs9,ct0,iz9,_⟩:=Kd.Q_slice iz8.out
  (first|subst iz9|(injection iz9 with f1_ f2_ f3_;have f4_:=f1_.symm;have f5_:=f3_.symm;clear f1_ f2_ f3_;subst f4_;subst f5_))
  refine hK.out _ _ ⟨(Gy cc.out 0).trans rfl,(Gy cc.out 1).trans rfl,(Gy cc.out 2).trans rfl⟩ (fun hHeld=>?_)
  clear hK K
  refine nm_ ?_
  refine pw_ 6 48 (tl_ 8 127) ?_
  refine last_ (i:=7) (N:=none) (tl_ 8 255) rfl rfl (Jn HT_.out (g0_)) (by decide) (fun K hK=>?_)
  have oi5:w80.cell? ⟨fo,2,none⟩=some (bw1):=(Gy cc.out 2).trans rfl
  have oi6:=G7 cc.out 2
  have oi7:=an6.out
  have oi8:=cs8.out
  refine skip_ (w1:=?_) (by rfl) rfl ?_ ?_
  rotate_left
  ·go_simp
   rfl
  refine hK.out _ _ ?_
  clear hK K
  refine done_ (done_of HT_.out (g0_)) ?_
  have kc3:=ac3.out
  have kc4:=dc9.out
  obtain⟨hr7,hr8,hr9,hs1,hs2,hs3⟩:=blk3_ cc
  obtain⟨dd4,dd5,ly4⟩:=Kd.R_slice dg.out
  subst ly4
  have oi9:=ac2.out
  have oj0:=ec7.out
  obtain⟨oj1,oj2,oj3,oj4,oj5,oj6⟩:=blk3_ ed
  obtain⟨ex,ey,cz2⟩:=Kd.S_slice dv.out
  subst cz2
  try go_wp2
  refine bodyPost_ret (results_cell_row rfl _ _ gu 28 #[.slice dd4 eg.length dd5, .slice ex fp.length ey, .slice cs9 cf7.length ct0] (0,0) _ rfl (ba_ ed) Try.underlying28 rfl (g0_)) rfl ?_
  exact⟨_,_,_,g4_,ra_ dg,sa_ dv,qa_ iz8,d8,lf,g4⟩
 rw[if_pos iw] at H
 have ak2:=decide_eq_true iw
 clear iw
 replace H:=Option.bind_eq_some_iff.mp H
 obtain⟨⟨zl,zm,zn,zo,zp⟩,iy5,H⟩:=H
 try dsimp only at H
 have A15:=A_ iy5
 clear iy5
 replace H:=Option.bind_eq_some_iff.mp H
 obtain⟨⟨tz,vd,vu,lx3⟩,dm2,H⟩:=H
 try dsimp only at H
 have A16:=A_ dm2
 clear dm2
 by_cases ip:lx3=true
 ·subst ip
  replace H:=ifp_ H
  have H':=A_ H
  clear H
  obtain⟨ix,g6,dt6⟩:=Kd.R_slice dg.out
  subst dt6
  obtain⟨bc,ba,yd⟩:=Kd.S_slice dv.out
  subst yd
  obtain⟨bz,br,ac0,_⟩:=Kd.Q_slice d3.out
  subst ac0
  try go_wp2
  replace dg:=rd_ dg
  replace dv:=sd_ dv
  replace d3:=qd_ d3
  replace ed:=bd_ ed
  replace cc:=bd_ cc
  replace HI0:=A_ (Jo.drew HI0.out)
  replace HK:=A_ (Jj HK.out)
  replace HB:=A_ (G1 HB.out)
  refine start_ (n:=11) (S:=fun w'=>w'.cell? ⟨fo,0,none⟩=some (.slice ix eg.length g6)/\w'.cell? ⟨fo,1,none⟩=some (.slice bc fp.length ba)/\w'.cell? ⟨fo,2,none⟩=some (.slice bz gw.length br)) (ds:=[]) (tl_ 11 0) (g0_) rfl (g0_) ⟨(Gy cc.out 0).trans rfl,(Gy cc.out 1).trans rfl,(Gy cc.out 2).trans rfl⟩ (fun hHeld=>?_);refine Jl Fq.tab5 Fq.bits5 (fun HT_ HW_=>?_)
  generalize wr.drew=mu at dg dv d3 ed cc HI0 HK HB hHeld |-
  refine pw_ 1 20 (tl_ 11 2) ?_
  refine tk3_ 0 19 (tl_ 11 3) hHeld ?_
  refine tk3_ 2 21 (tl_ 11 7) hHeld ?_
  refine join_ (σ:=Value × Value × Value × Nat) 2 (tl_ 11 511) (fun s_=>[(22, .agg #[.int .i64 zl, .int .i64 zm, .int .i64 zn, .int .i64 zo]),(23, .tuple #[.agg #[s_.1,s_.2.1,s_.2.2.1], .bool true]),(7, .pointer (some ⟨s_.2.2.2,0,none⟩)),(18, .tuple #[.agg #[s_.1,s_.2.1,s_.2.2.1], .bool true]),(24, .agg #[s_.1,s_.2.1,s_.2.2.1]),(25, .bool true)]) (fun s_ w'=>(w'.cell? ⟨fo,0,none⟩=some (.slice ix eg.length g6)/\w'.cell? ⟨fo,1,none⟩=some (.slice bc fp.length ba)/\w'.cell? ⟨fo,2,none⟩=some (.slice bz gw.length br))/\(Kd.R (Kd.int .i64) 3 w' w.heap.size (fun k_=>some k_≠(.slice ix eg.length g6:Value).ownBlock) s_.1 tz)/\(Kd.S (Kd.slice 3 (Kd.int .i64)) 22 w' w.heap.size (fun k_=>some k_≠(s_.1:Value).ownBlock/\some k_≠(.slice ix eg.length g6:Value).ownBlock/\some k_≠(.slice bc fp.length ba:Value).ownBlock) s_.2.1 vd)/\(Kd.Q k25 25 w' w.heap.size (fun k_=>some k_≠(s_.1:Value).ownBlock/\some k_≠(s_.2.1:Value).ownBlock/\some k_≠(.slice ix eg.length g6:Value).ownBlock/\some k_≠(.slice bc fp.length ba:Value).ownBlock/\some k_≠(.slice bz gw.length br:Value).ownBlock) s_.2.2.1 vu)/\(Kd.R (Kd.int .i64) 3 w' w.heap.size (fun k_=>some k_≠(s_.1:Value).ownBlock) (.slice ix eg.length g6) eg)/\(Kd.S (Kd.slice 3 (Kd.int .i64)) 22 w' w.heap.size (fun k_=>some k_≠(s_.1:Value).ownBlock/\some k_≠(s_.2.1:Value).ownBlock/\some k_≠(.slice ix eg.length g6:Value).ownBlock) (.slice bc fp.length ba) fp)/\(Kd.Q k25 25 w' w.heap.size (fun k_=>some k_≠(s_.1:Value).ownBlock/\some k_≠(s_.2.1:Value).ownBlock/\some k_≠(s_.2.2.1:Value).ownBlock/\some k_≠(.slice ix eg.length g6:Value).ownBlock/\some k_≠(.slice bc fp.length ba:Value).ownBlock) (.slice bz gw.length br) gw)/\(hc_ w' gu #[.slice none 0 0, .slice none 0 0, .slice none 0 0] 28)/\(hc_ w' fo #[.slice ix eg.length g6, .slice bc fp.length ba, .slice bz gw.length br] 28)/\(hc_ w' s_.2.2.2 #[.slice none 0 0, .slice none 0 0, .slice none 0 0] 28)/\(w.heap.size<=s_.2.2.2)/\(w0.heap.size<=s_.2.2.2)/\(g≠s_.2.2.2)/\(s_.2.2.2≠g)/\(gu≠s_.2.2.2)/\(s_.2.2.2≠gu)/\(fo≠s_.2.2.2)/\(s_.2.2.2≠fo)/\(Jo w0 w' g ay zp)/\(Ja w w' g none)/\(Below w0.heap.size w0 w')) ?_ ?_
  rotate_left
  ·intro hCont
   refine two_ (i:=3) (j:=8) (Ni:=some 22) (Nj:=some 7) (tl_ 11 15) (tl_ 11 263) rfl rfl rfl rfl (two_of HT_.out (g0_)) (by decide) (by decide) (fun K hK=>?_) (fun K hK=>?_)
   ·skip
    refine goes_ Try.func103 (g0_) rfl #[.pointer (some ⟨g,0,none⟩), .agg #[.slice ix eg.length g6, .slice bc fp.length ba, .slice bz gw.length br]] (by rfl) rfl rfl (gM_) ?_
    refine(Ff.calls k1 g ay g9 _ _ eg _ _ fp _ _ gw zl zm zn zo zp w0 _ d8 lf (cR_ dg) (lR_ dg) (far_slice (Jo.own_ne HI0.out dg.out (by decide))) (Kd.C_foot_own ((Kd.S_R (Jo.apartS (show Jo w0 _ g ay g9 from d8) (uS_ dv) (by decide)))) (fun _ h_=>h_.2)) (lS_ dv) (Kd.C_foot_ownQ (Jo.apartQ (show Jo w0 _ g ay g9 from d8) (uQ_ d3) (by decide)) (fun _ h_=>h_.2)) (lQ_ d3) A15.out).mono ?_
    rintro e yu ⟨rfl,hi,hb,hk⟩
    refine⟨_,rfl,?_⟩
    replace dg:=A_ (Kd.R_mono (Kd.R_keep (Jo.apart (show Jo w0 _ g ay g9 from d8) (uR_ dg) (by decide)) hk (fun _ h=>h.2)) (fun _ h=>h.1))
    replace dv:=A_ (Kd.S_mono (Kd.S_keep (Jo.apartS (show Jo w0 _ g ay g9 from d8) (uS_ dv) (by decide)) hk (fun _ h=>h.2)) (fun _ h=>h.1))
    replace d3:=A_ (Kd.Q_mono (Kd.Q_keep (Jo.apartQ (show Jo w0 _ g ay g9 from d8) (uQ_ d3) (by decide)) hk (fun _ h=>h.2)) (fun _ h=>h.1))
    replace ed:=kb_ hk ed ac2
    replace cc:=kb_ hk cc ac3
    replace HK:=A_ (Ja.trans (g4) hk (.inl rfl))
    replace HB:=A_ (hb)
    replace HI0:=A_ (hi)
    refine hK.out _ _ ⟨(Gy cc.out 0).trans rfl,(Gy cc.out 1).trans rfl,(Gy cc.out 2).trans rfl⟩ (fun hHeld=>?_)
    clear hK K
    refine nm_ ?_
    refine two_ (i:=4) (j:=8) (Ni:=some 23) (Nj:=some 7) (tl_ 11 31) (tl_ 11 271) rfl rfl rfl rfl (two_of HT_.out (g0_)) (by decide) (by decide) (fun K hK=>?_) (fun K hK=>?_)
    ·skip
     refine goes_ Try.func54 (g0_) rfl #[.agg #[.slice ix eg.length g6, .slice bc fp.length ba, .slice bz gw.length br], .agg #[.int .i64 zl, .int .i64 zm, .int .i64 zn, .int .i64 zo]] (by rfl) rfl rfl (gM_) ?_
     refine(Ge.calls k1 _ _ eg _ _ fp _ _ gw zl zm zn zo tz vd vu true _ (cR_ dg) (lR_ dg) (cS_ dv) (lS_ dv) (cQ_ d3) (lQ_ d3) A16.out).mono ?_
     rintro e w23 ⟨si,vv,ac4,rfl,ae,ax,bm,hb⟩
     refine⟨_,rfl,?_⟩
     have aj1:=A_ (Kd.R_lower (Kd.R_new' ae (Kd.R_lt (uR_ dg))) (Jh (w:=w) (g:=g) (row:=none) (g4)))
     have aj2:=A_ (Kd.S_lower (Kd.S_new' (Kd.S_new' ax (Kd.R_lt (uR_ dg))) (Kd.S_lt (uS_ dv))) (Jh (w:=w) (g:=g) (row:=none) (g4)))
     have aj3:=A_ (Kd.Q_lower (Kd.Q_new' (Kd.Q_new' (Kd.Q_new' bm (Kd.R_lt (uR_ dg))) (Kd.S_lt (uS_ dv))) (Kd.Q_lt (uQ_ d3))) (Jh (w:=w) (g:=g) (row:=none) (g4)))
     replace dg:=A_ (Kd.R_elder' (uR_ dg) (Kd.R_base ae) hb)
     replace dv:=A_ (Kd.S_mono (Kd.S_told (Kd.S_told (Kd.S_old (uS_ dv) hb) (Kd.R_base ae)) (Kd.S_base ax)) (fun _ h_=>h_.1))
     replace d3:=A_ (Kd.Q_mono (Kd.Q_told (Kd.Q_told (Kd.Q_told (Kd.Q_old (uQ_ d3) hb) (Kd.R_base ae)) (Kd.S_base ax)) (Kd.Q_base bm)) (fun _ h_=>h_.1))
     replace ed:=bb_ ed hb
     replace cc:=bb_ cc hb
     replace HK:=kt_ (g4) hb
     replace HB:=hs_ (lf) hb
     replace HI0:=A_ (Jo.below (d8) hb)
     refine hK.out _ _ ⟨(Gy cc.out 0).trans rfl,(Gy cc.out 1).trans rfl,(Gy cc.out 2).trans rfl⟩ (fun hHeld=>?_)
     clear hK K
     refine nm_ ?_
     refine pw_ 5 18 (tl_ 11 63) ?_
     refine pw_ 6 24 (tl_ 11 127) ?_
     refine pw_ 7 25 (tl_ 11 255) ?_
     refine one_ (i:=8) (N:=some 7) (tl_ 11 511) rfl rfl (Jn HT_.out (g0_)) (by decide) (fun K hK=>?_)
     refine bs_ (N:=7) #[.slice none 0 0, .slice none 0 0, .slice none 0 0] 28 ?_
     intro dt hg wn hbox hb
     replace dg:=rb_ dg hb
     replace dv:=sb_ dv hb
     replace d3:=qb_ d3 hb
     replace aj1:=rb_ aj1 hb
     replace aj2:=sb_ aj2 hb
     replace aj3:=qb_ aj3 hb
     replace HB:=hs_ (lf) hb
     have kn:=A_ (hbox)
     have an4:=A_ ((g25_:w.heap.size<=dt))
     have an5:=A_ (Nat.le_trans HW0.out an4.out)
     replace HK:=kt_ (g4) hb
     have rv:=nl_ ed hg
     have xp:=nr_ ed hg
     replace ed:=bb_ ed hb
     have ko:=nl_ cc hg
     have xq:=nr_ cc hg
     replace cc:=bb_ cc hb
     have aj0:=A_ ((by rw[hg];exact Nat.ne_of_lt (Jo.lt (show Jo w0 _ g ay zp from d8)):g≠dt))
     have af7:=A_ ((by rw[hg];exact Nat.ne_of_gt (Jo.lt (show Jo w0 _ g ay zp from d8)):dt≠g))
     replace HI0:=A_ (Jo.below (d8) hb)
     clear hb hbox hg
     refine hK.out _ _ ⟨(Gy cc.out 0).trans rfl,(Gy cc.out 1).trans rfl,(Gy cc.out 2).trans rfl⟩ (fun hHeld=>?_)
     clear hK K
     refine nm_ ?_
     exact Fq.calls.z0
    skip
    refine bs_ (N:=7) #[.slice none 0 0, .slice none 0 0, .slice none 0 0] 28 ?_
    intro dt hg w23 hbox hb
    replace dg:=rb_ dg hb
    replace dv:=sb_ dv hb
    replace d3:=qb_ d3 hb
    replace HB:=hs_ (lf) hb
    have kn:=A_ (hbox)
    have an4:=A_ ((g25_:w.heap.size<=dt))
    have an5:=A_ (Nat.le_trans HW0.out an4.out)
    replace HK:=kt_ (g4) hb
    have rv:=nl_ ed hg
    have xp:=nr_ ed hg
    replace ed:=bb_ ed hb
    have ko:=nl_ cc hg
    have xq:=nr_ cc hg
    replace cc:=bb_ cc hb
    have aj0:=A_ ((by rw[hg];exact Nat.ne_of_lt (Jo.lt (show Jo w0 _ g ay zp from d8)):g≠dt))
    have af7:=A_ ((by rw[hg];exact Nat.ne_of_gt (Jo.lt (show Jo w0 _ g ay zp from d8)):dt≠g))
    replace HI0:=A_ (Jo.below (d8) hb)
    clear hb hbox hg
    refine hK.out _ _ ⟨(Gy cc.out 0).trans rfl,(Gy cc.out 1).trans rfl,(Gy cc.out 2).trans rfl⟩ (fun hHeld=>?_)
    clear hK K
    refine nm_ ?_
    refine one_ (i:=4) (N:=some 23) (tl_ 11 287) rfl rfl (Jn HT_.out (g0_)) (by decide) (fun K hK=>?_)
    refine goes_ Try.func54 (g0_) rfl #[.agg #[.slice ix eg.length g6, .slice bc fp.length ba, .slice bz gw.length br], .agg #[.int .i64 zl, .int .i64 zm, .int .i64 zn, .int .i64 zo]] (by rfl) rfl rfl (gM_) ?_
    refine(Ge.calls k1 _ _ eg _ _ fp _ _ gw zl zm zn zo tz vd vu true _ (cR_ dg) (lR_ dg) (cS_ dv) (lS_ dv) (cQ_ d3) (lQ_ d3) A16.out).mono ?_
    rintro e wn ⟨si,vv,ac4,rfl,ae,ax,bm,hb⟩
    refine⟨_,rfl,?_⟩
    have aj1:=A_ (Kd.R_lower (Kd.R_new' ae (Kd.R_lt (uR_ dg))) (Jh (w:=w) (g:=g) (row:=none) (g4)))
    have aj2:=A_ (Kd.S_lower (Kd.S_new' (Kd.S_new' ax (Kd.R_lt (uR_ dg))) (Kd.S_lt (uS_ dv))) (Jh (w:=w) (g:=g) (row:=none) (g4)))
    have aj3:=A_ (Kd.Q_lower (Kd.Q_new' (Kd.Q_new' (Kd.Q_new' bm (Kd.R_lt (uR_ dg))) (Kd.S_lt (uS_ dv))) (Kd.Q_lt (uQ_ d3))) (Jh (w:=w) (g:=g) (row:=none) (g4)))
    replace dg:=A_ (Kd.R_elder' (uR_ dg) (Kd.R_base ae) hb)
    replace dv:=A_ (Kd.S_mono (Kd.S_told (Kd.S_told (Kd.S_old (uS_ dv) hb) (Kd.R_base ae)) (Kd.S_base ax)) (fun _ h_=>h_.1))
    replace d3:=A_ (Kd.Q_mono (Kd.Q_told (Kd.Q_told (Kd.Q_told (Kd.Q_old (uQ_ d3) hb) (Kd.R_base ae)) (Kd.S_base ax)) (Kd.Q_base bm)) (fun _ h_=>h_.1))
    replace ed:=bb_ ed hb
    replace cc:=bb_ cc hb
    replace kn:=bb_ kn hb
    replace HK:=kt_ (g4) hb
    replace HB:=hs_ (lf) hb
    replace HI0:=A_ (Jo.below (d8) hb)
    refine hK.out _ _ ⟨(Gy cc.out 0).trans rfl,(Gy cc.out 1).trans rfl,(Gy cc.out 2).trans rfl⟩ (fun hHeld=>?_)
    clear hK K
    refine nm_ ?_
    refine pw_ 5 18 (tl_ 11 319) ?_
    refine pw_ 6 24 (tl_ 11 383) ?_
    refine pw_ 7 25 (tl_ 11 511) ?_
    exact Fq.calls.z0
   skip
   refine bs_ (N:=7) #[.slice none 0 0, .slice none 0 0, .slice none 0 0] 28 ?_
   intro dt hg yu hbox hb
   replace dg:=rb_ dg hb
   replace dv:=sb_ dv hb
   replace d3:=qb_ d3 hb
   replace HB:=hs_ (lf) hb
   have kn:=A_ (hbox)
   have an4:=A_ ((g25_:w.heap.size<=dt))
   have an5:=A_ (Nat.le_trans HW0.out an4.out)
   replace HK:=kt_ (g4) hb
   have rv:=nl_ ed hg
   have xp:=nr_ ed hg
   replace ed:=bb_ ed hb
   have ko:=nl_ cc hg
   have xq:=nr_ cc hg
   replace cc:=bb_ cc hb
   have aj0:=A_ ((by rw[hg];exact Nat.ne_of_lt (Jo.lt (show Jo w0 _ g ay g9 from d8)):g≠dt))
   have af7:=A_ ((by rw[hg];exact Nat.ne_of_gt (Jo.lt (show Jo w0 _ g ay g9 from d8)):dt≠g))
   replace HI0:=A_ (Jo.below (d8) hb)
   clear hb hbox hg
   refine hK.out _ _ ⟨(Gy cc.out 0).trans rfl,(Gy cc.out 1).trans rfl,(Gy cc.out 2).trans rfl⟩ (fun hHeld=>?_)
   clear hK K
   refine nm_ ?_
   refine one_ (i:=3) (N:=some 22) (tl_ 11 271) rfl rfl (Jn HT_.out (g0_)) (by decide) (fun K hK=>?_)
   refine goes_ Try.func103 (g0_) rfl #[.pointer (some ⟨g,0,none⟩), .agg #[.slice ix eg.length g6, .slice bc fp.length ba, .slice bz gw.length br]] (by rfl) rfl rfl (gM_) ?_
   refine(Ff.calls k1 g ay g9 _ _ eg _ _ fp _ _ gw zl zm zn zo zp w0 _ d8 lf (cR_ dg) (lR_ dg) (far_slice (Jo.own_ne HI0.out dg.out (by decide))) (Kd.C_foot_own ((Kd.S_R (Jo.apartS (show Jo w0 _ g ay g9 from d8) (uS_ dv) (by decide)))) (fun _ h_=>h_.2)) (lS_ dv) (Kd.C_foot_ownQ (Jo.apartQ (show Jo w0 _ g ay g9 from d8) (uQ_ d3) (by decide)) (fun _ h_=>h_.2)) (lQ_ d3) A15.out).mono ?_
   rintro e w23 ⟨rfl,hi,hb,hk⟩
   refine⟨_,rfl,?_⟩
   replace dg:=A_ (Kd.R_mono (Kd.R_keep (Jo.apart (show Jo w0 _ g ay g9 from d8) (uR_ dg) (by decide)) hk (fun _ h=>h.2)) (fun _ h=>h.1))
   replace dv:=A_ (Kd.S_mono (Kd.S_keep (Jo.apartS (show Jo w0 _ g ay g9 from d8) (uS_ dv) (by decide)) hk (fun _ h=>h.2)) (fun _ h=>h.1))
   replace d3:=A_ (Kd.Q_mono (Kd.Q_keep (Jo.apartQ (show Jo w0 _ g ay g9 from d8) (uQ_ d3) (by decide)) hk (fun _ h=>h.2)) (fun _ h=>h.1))
   replace ed:=kb_ hk ed ac2
   replace cc:=kb_ hk cc ac3
   replace kn:=kb_ hk kn af7
   replace HK:=A_ (Ja.trans (g4) hk (.inl rfl))
   replace HB:=A_ (hb)
   replace HI0:=A_ (hi)
   refine hK.out _ _ ⟨(Gy cc.out 0).trans rfl,(Gy cc.out 1).trans rfl,(Gy cc.out 2).trans rfl⟩ (fun hHeld=>?_)
   clear hK K
   refine nm_ ?_
   refine one_ (i:=4) (N:=some 23) (tl_ 11 287) rfl rfl (Jn HT_.out (g0_)) (by decide) (fun K hK=>?_)
   refine goes_ Try.func54 (g0_) rfl #[.agg #[.slice ix eg.length g6, .slice bc fp.length ba, .slice bz gw.length br], .agg #[.int .i64 zl, .int .i64 zm, .int .i64 zn, .int .i64 zo]] (by rfl) rfl rfl (gM_) ?_
   refine(Ge.calls k1 _ _ eg _ _ fp _ _ gw zl zm zn zo tz vd vu true _ (cR_ dg) (lR_ dg) (cS_ dv) (lS_ dv) (cQ_ d3) (lQ_ d3) A16.out).mono ?_
   rintro e wn ⟨si,vv,ac4,rfl,ae,ax,bm,hb⟩
   refine⟨_,rfl,?_⟩
   have aj1:=A_ (Kd.R_lower (Kd.R_new' ae (Kd.R_lt (uR_ dg))) (Jh (w:=w) (g:=g) (row:=none) (g4)))
   have aj2:=A_ (Kd.S_lower (Kd.S_new' (Kd.S_new' ax (Kd.R_lt (uR_ dg))) (Kd.S_lt (uS_ dv))) (Jh (w:=w) (g:=g) (row:=none) (g4)))
   have aj3:=A_ (Kd.Q_lower (Kd.Q_new' (Kd.Q_new' (Kd.Q_new' bm (Kd.R_lt (uR_ dg))) (Kd.S_lt (uS_ dv))) (Kd.Q_lt (uQ_ d3))) (Jh (w:=w) (g:=g) (row:=none) (g4)))
   replace dg:=A_ (Kd.R_elder' (uR_ dg) (Kd.R_base ae) hb)
   replace dv:=A_ (Kd.S_mono (Kd.S_told (Kd.S_told (Kd.S_old (uS_ dv) hb) (Kd.R_base ae)) (Kd.S_base ax)) (fun _ h_=>h_.1))
   replace d3:=A_ (Kd.Q_mono (Kd.Q_told (Kd.Q_told (Kd.Q_told (Kd.Q_old (uQ_ d3) hb) (Kd.R_base ae)) (Kd.S_base ax)) (Kd.Q_base bm)) (fun _ h_=>h_.1))
   replace ed:=bb_ ed hb
   replace cc:=bb_ cc hb
   replace kn:=bb_ kn hb
   replace HK:=kt_ (g4) hb
   replace HB:=hs_ (lf) hb
   replace HI0:=A_ (Jo.below (d8) hb)
   refine hK.out _ _ ⟨(Gy cc.out 0).trans rfl,(Gy cc.out 1).trans rfl,(Gy cc.out 2).trans rfl⟩ (fun hHeld=>?_)
   clear hK K
   refine nm_ ?_
   refine pw_ 5 18 (tl_ 11 319) ?_
   refine pw_ 6 24 (tl_ 11 383) ?_
   refine pw_ 7 25 (tl_ 11 511) ?_
   exact Fq.calls.z0
  rintro⟨si,vv,ac4,dt⟩ r6 ⟨hS_,h0_,h1_,h2_,h3_,h4_,h5_,h6_,h7_,h8_,h9_,h10_,h11_,h12_,h13_,h14_,h15_,h16_,h17_,h18_,h19_⟩
  have aj1:Gx (Kd.R (Kd.int .i64) 3 r6 w.heap.size (fun k_=>some k_≠(.slice ix eg.length g6:Value).ownBlock) si tz):=⟨h0_⟩
  have aj2:Gx (Kd.S (Kd.slice 3 (Kd.int .i64)) 22 r6 w.heap.size (fun k_=>some k_≠(si:Value).ownBlock/\some k_≠(.slice ix eg.length g6:Value).ownBlock/\some k_≠(.slice bc fp.length ba:Value).ownBlock) vv vd):=⟨h1_⟩
  have aj3:Gx (Kd.Q k25 25 r6 w.heap.size (fun k_=>some k_≠(si:Value).ownBlock/\some k_≠(vv:Value).ownBlock/\some k_≠(.slice ix eg.length g6:Value).ownBlock/\some k_≠(.slice bc fp.length ba:Value).ownBlock/\some k_≠(.slice bz gw.length br:Value).ownBlock) ac4 vu):=⟨h2_⟩
  replace dg:Gx (Kd.R (Kd.int .i64) 3 r6 w.heap.size (fun k_=>some k_≠(si:Value).ownBlock) (.slice ix eg.length g6) eg):=⟨h3_⟩
  replace dv:Gx (Kd.S (Kd.slice 3 (Kd.int .i64)) 22 r6 w.heap.size (fun k_=>some k_≠(si:Value).ownBlock/\some k_≠(vv:Value).ownBlock/\some k_≠(.slice ix eg.length g6:Value).ownBlock) (.slice bc fp.length ba) fp):=⟨h4_⟩
  replace d3:Gx (Kd.Q k25 25 r6 w.heap.size (fun k_=>some k_≠(si:Value).ownBlock/\some k_≠(vv:Value).ownBlock/\some k_≠(ac4:Value).ownBlock/\some k_≠(.slice ix eg.length g6:Value).ownBlock/\some k_≠(.slice bc fp.length ba:Value).ownBlock) (.slice bz gw.length br) gw):=⟨h5_⟩
  replace ed:Gx (hc_ r6 gu #[.slice none 0 0, .slice none 0 0, .slice none 0 0] 28):=⟨h6_⟩
  replace cc:Gx (hc_ r6 fo #[.slice ix eg.length g6, .slice bc fp.length ba, .slice bz gw.length br] 28):=⟨h7_⟩
  have kn:Gx (hc_ r6 dt #[.slice none 0 0, .slice none 0 0, .slice none 0 0] 28):=⟨h8_⟩
  have an4:Gx (w.heap.size<=dt):=⟨h9_⟩
  have an5:Gx (w0.heap.size<=dt):=⟨h10_⟩
  have aj0:Gx (g≠dt):=⟨h11_⟩
  have af7:Gx (dt≠g):=⟨h12_⟩
  have rv:Gx (gu≠dt):=⟨h13_⟩
  have xp:Gx (dt≠gu):=⟨h14_⟩
  have ko:Gx (fo≠dt):=⟨h15_⟩
  have xq:Gx (dt≠fo):=⟨h16_⟩
  replace HI0:Gx (Jo w0 r6 g ay zp):=⟨h17_⟩
  replace HK:Gx (Ja w r6 g none):=⟨h18_⟩
  replace HB:Gx (Below w0.heap.size w0 r6):=⟨h19_⟩
  clear h0_ h1_ h2_ h3_ h4_ h5_ h6_ h7_ h8_ h9_ h10_ h11_ h12_ h13_ h14_ h15_ h16_ h17_ h18_ h19_
  have hHeld:r6.cell? ⟨fo,0,none⟩=some (.slice ix eg.length g6)/\r6.cell? ⟨fo,1,none⟩=some (.slice bc fp.length ba)/\r6.cell? ⟨fo,2,none⟩=some (.slice bz gw.length br):=hS_
  obtain⟨sx,sy,av4⟩:=Kd.R_slice aj1.out
  (first|subst av4|(injection av4 with f1_ f2_ f3_;have f4_:=f1_.symm;have f5_:=f3_.symm;clear f1_ f2_ f3_;subst f4_;subst f5_))
  obtain⟨bg,bf,bo4⟩:=Kd.S_slice aj2.out
  (first|subst bo4|(injection bo4 with f1_ f2_ f3_;have f4_:=f1_.symm;have f5_:=f3_.symm;clear f1_ f2_ f3_;subst f4_;subst f5_))
  obtain⟨jg,jh,bk8,_⟩:=Kd.Q_slice aj3.out
  (first|subst bk8|(injection bk8 with f1_ f2_ f3_;have f4_:=f1_.symm;have f5_:=f3_.symm;clear f1_ f2_ f3_;subst f4_;subst f5_))
  refine norm_ (a':=?_) ?_ ?_
  rotate_left
  · exact sq_
  refine one_ (i:=9) (N:=none) (tl_ 11 1023) rfl rfl (Jn HT_.out (g0_)) (by decide) (fun K hK=>?_)
  have jk6:r6.cell? ⟨dt,0,none⟩=some (.slice none 0 0):=(Gy kn.out 0).trans rfl
  have jk7:=G7 kn.out 0
  have jk8:=rv.out
  have jk9:=ko.out
  have jl0:=xp.out
  have jl1:=xq.out
  have jj1:r6.cell? ⟨dt,1,none⟩=some (.slice none 0 0):=(Gy kn.out 1).trans rfl
  have jj2:=G7 kn.out 1
  have lt9:r6.cell? ⟨dt,2,none⟩=some (.slice none 0 0):=(Gy kn.out 2).trans rfl
  have lu0:=G7 kn.out 2
  refine skip_ (w1:=?_) (by rfl) rfl ?_ ?_
  rotate_left
  ·go_simp
   rfl
  refine hK.out _ _ ⟨(cf_ ko ((cf_ ko ((cf_ ko (hHeld.1)))))),(cf_ ko ((cf_ ko ((cf_ ko (hHeld.2.1)))))),(cf_ ko ((cf_ ko ((cf_ ko (hHeld.2.2))))))⟩ (fun hHeld=>?_)
  clear hK K
  refine pw_ 10 8 (tl_ 11 2047) ?_
  refine done_ (done_of HT_.out (g0_)) ?_
  have cy5:=af7.out
  have cy6:=aj0.out
  obtain⟨bi2,bi3,br9,bi4,bi5,bs0⟩:=blk3_ kn
  have er5:=cs8.out
  have er6:=an6.out
  have hn7:=ac3.out
  have hn8:=dc9.out
  obtain⟨dp1,dp2,gn8,dp3,dp4,gn9⟩:=blk3_ cc
  try go_wp2
  go_roundg k1
  case measure=>have:=HK1.out;omega
  case rel=>exact⟨(wrap64 (kb - 1)),(zp),(tz),(vd),(vu),(.slice sx tz.length sy),(.slice bg vd.length bf),(.slice jg vu.length jh),(g3_),H',⟨g17_⟩,⟨ra_ aj1⟩,⟨sa_ aj2⟩,⟨qa_ aj3⟩,⟨ba_ ed⟩,⟨ba_ cc⟩,⟨d8⟩,⟨g4⟩,⟨lf⟩⟩
 replace ip:=Bool.eq_false_iff.mpr ip
 subst ip
 replace H:=ifn_ H
 have H':=A_ H
 clear H
 obtain⟨lp,k8,ag9⟩:=Kd.R_slice dg.out
 subst ag9
 obtain⟨vw,vx,lx4⟩:=Kd.S_slice dv.out
 subst lx4
 obtain⟨ku,j3,ah1,_⟩:=Kd.Q_slice d3.out
 subst ah1
 try go_wp2
 replace dg:=rd_ dg
 replace dv:=sd_ dv
 replace d3:=qd_ d3
 replace ed:=bd_ ed
 replace cc:=bd_ cc
 replace HI0:=A_ (Jo.drew HI0.out)
 replace HK:=A_ (Jj HK.out)
 replace HB:=A_ (G1 HB.out)
 refine start_ (n:=11) (S:=fun w'=>w'.cell? ⟨fo,0,none⟩=some (.slice lp eg.length k8)/\w'.cell? ⟨fo,1,none⟩=some (.slice vw fp.length vx)/\w'.cell? ⟨fo,2,none⟩=some (.slice ku gw.length j3)) (ds:=[]) (tl_ 11 0) (g0_) rfl (g0_) ⟨(Gy cc.out 0).trans rfl,(Gy cc.out 1).trans rfl,(Gy cc.out 2).trans rfl⟩ (fun hHeld=>?_);refine Jl Fq.tab5 Fq.bits5 (fun HT_ HW_=>?_)
 generalize wr.drew=w42 at dg dv d3 ed cc HI0 HK HB hHeld |-
 refine pw_ 1 20 (tl_ 11 2) ?_
 refine tk3_ 0 19 (tl_ 11 3) hHeld ?_
 refine tk3_ 2 21 (tl_ 11 7) hHeld ?_
 refine join_ (σ:=Value × Value × Value × Nat) 2 (tl_ 11 511) (fun s_=>[(22, .agg #[.int .i64 zl, .int .i64 zm, .int .i64 zn, .int .i64 zo]),(23, .tuple #[.agg #[s_.1,s_.2.1,s_.2.2.1], .bool false]),(7, .pointer (some ⟨s_.2.2.2,0,none⟩)),(18, .tuple #[.agg #[s_.1,s_.2.1,s_.2.2.1], .bool false]),(24, .agg #[s_.1,s_.2.1,s_.2.2.1]),(25, .bool false)]) (fun s_ w'=>(w'.cell? ⟨fo,0,none⟩=some (.slice lp eg.length k8)/\w'.cell? ⟨fo,1,none⟩=some (.slice vw fp.length vx)/\w'.cell? ⟨fo,2,none⟩=some (.slice ku gw.length j3))/\(Kd.R (Kd.int .i64) 3 w' w.heap.size (fun k_=>some k_≠(.slice lp eg.length k8:Value).ownBlock) s_.1 tz)/\(Kd.S (Kd.slice 3 (Kd.int .i64)) 22 w' w.heap.size (fun k_=>some k_≠(s_.1:Value).ownBlock/\some k_≠(.slice lp eg.length k8:Value).ownBlock/\some k_≠(.slice vw fp.length vx:Value).ownBlock) s_.2.1 vd)/\(Kd.Q k25 25 w' w.heap.size (fun k_=>some k_≠(s_.1:Value).ownBlock/\some k_≠(s_.2.1:Value).ownBlock/\some k_≠(.slice lp eg.length k8:Value).ownBlock/\some k_≠(.slice vw fp.length vx:Value).ownBlock/\some k_≠(.slice ku gw.length j3:Value).ownBlock) s_.2.2.1 vu)/\(Kd.R (Kd.int .i64) 3 w' w.heap.size (fun k_=>some k_≠(s_.1:Value).ownBlock) (.slice lp eg.length k8) eg)/\(Kd.S (Kd.slice 3 (Kd.int .i64)) 22 w' w.heap.size (fun k_=>some k_≠(s_.1:Value).ownBlock/\some k_≠(s_.2.1:Value).ownBlock/\some k_≠(.slice lp eg.length k8:Value).ownBlock) (.slice vw fp.length vx) fp)/\(Kd.Q k25 25 w' w.heap.size (fun k_=>some k_≠(s_.1:Value).ownBlock/\some k_≠(s_.2.1:Value).ownBlock/\some k_≠(s_.2.2.1:Value).ownBlock/\some k_≠(.slice lp eg.length k8:Value).ownBlock/\some k_≠(.slice vw fp.length vx:Value).ownBlock) (.slice ku gw.length j3) gw)/\(hc_ w' gu #[.slice none 0 0, .slice none 0 0, .slice none 0 0] 28)/\(hc_ w' fo #[.slice lp eg.length k8, .slice vw fp.length vx, .slice ku gw.length j3] 28)/\(hc_ w' s_.2.2.2 #[.slice none 0 0, .slice none 0 0, .slice none 0 0] 28)/\(w.heap.size<=s_.2.2.2)/\(w0.heap.size<=s_.2.2.2)/\(g≠s_.2.2.2)/\(s_.2.2.2≠g)/\(gu≠s_.2.2.2)/\(s_.2.2.2≠gu)/\(fo≠s_.2.2.2)/\(s_.2.2.2≠fo)/\(Jo w0 w' g ay zp)/\(Ja w w' g none)/\(Below w0.heap.size w0 w')) ?_ ?_
 rotate_left
 ·intro hCont
  refine two_ (i:=3) (j:=8) (Ni:=some 22) (Nj:=some 7) (tl_ 11 15) (tl_ 11 263) rfl rfl rfl rfl (two_of HT_.out (g0_)) (by decide) (by decide) (fun K hK=>?_) (fun K hK=>?_)
  ·skip
   refine goes_ Try.func103 (g0_) rfl #[.pointer (some ⟨g,0,none⟩), .agg #[.slice lp eg.length k8, .slice vw fp.length vx, .slice ku gw.length j3]] (by rfl) rfl rfl (gM_) ?_
   refine(Ff.calls k1 g ay g9 _ _ eg _ _ fp _ _ gw zl zm zn zo zp w0 _ d8 lf (cR_ dg) (lR_ dg) (far_slice (Jo.own_ne HI0.out dg.out (by decide))) (Kd.C_foot_own ((Kd.S_R (Jo.apartS (show Jo w0 _ g ay g9 from d8) (uS_ dv) (by decide)))) (fun _ h_=>h_.2)) (lS_ dv) (Kd.C_foot_ownQ (Jo.apartQ (show Jo w0 _ g ay g9 from d8) (uQ_ d3) (by decide)) (fun _ h_=>h_.2)) (lQ_ d3) A15.out).mono ?_
   rintro e w43 ⟨rfl,hi,hb,hk⟩
   refine⟨_,rfl,?_⟩
   replace dg:=A_ (Kd.R_mono (Kd.R_keep (Jo.apart (show Jo w0 _ g ay g9 from d8) (uR_ dg) (by decide)) hk (fun _ h=>h.2)) (fun _ h=>h.1))
   replace dv:=A_ (Kd.S_mono (Kd.S_keep (Jo.apartS (show Jo w0 _ g ay g9 from d8) (uS_ dv) (by decide)) hk (fun _ h=>h.2)) (fun _ h=>h.1))
   replace d3:=A_ (Kd.Q_mono (Kd.Q_keep (Jo.apartQ (show Jo w0 _ g ay g9 from d8) (uQ_ d3) (by decide)) hk (fun _ h=>h.2)) (fun _ h=>h.1))
   replace ed:=kb_ hk ed ac2
   replace cc:=kb_ hk cc ac3
   replace HK:=A_ (Ja.trans (g4) hk (.inl rfl))
   replace HB:=A_ (hb)
   replace HI0:=A_ (hi)
   refine hK.out _ _ ⟨(Gy cc.out 0).trans rfl,(Gy cc.out 1).trans rfl,(Gy cc.out 2).trans rfl⟩ (fun hHeld=>?_)
   clear hK K
   refine nm_ ?_
   refine two_ (i:=4) (j:=8) (Ni:=some 23) (Nj:=some 7) (tl_ 11 31) (tl_ 11 271) rfl rfl rfl rfl (two_of HT_.out (g0_)) (by decide) (by decide) (fun K hK=>?_) (fun K hK=>?_)
   ·skip
    refine goes_ Try.func54 (g0_) rfl #[.agg #[.slice lp eg.length k8, .slice vw fp.length vx, .slice ku gw.length j3], .agg #[.int .i64 zl, .int .i64 zm, .int .i64 zn, .int .i64 zo]] (by rfl) rfl rfl (gM_) ?_
    refine(Ge.calls k1 _ _ eg _ _ fp _ _ gw zl zm zn zo tz vd vu false _ (cR_ dg) (lR_ dg) (cS_ dv) (lS_ dv) (cQ_ d3) (lQ_ d3) A16.out).mono ?_
    rintro e w44 ⟨si,vv,ac4,rfl,ae,ax,bm,hb⟩
    refine⟨_,rfl,?_⟩
    have aj1:=A_ (Kd.R_lower (Kd.R_new' ae (Kd.R_lt (uR_ dg))) (Jh (w:=w) (g:=g) (row:=none) (g4)))
    have aj2:=A_ (Kd.S_lower (Kd.S_new' (Kd.S_new' ax (Kd.R_lt (uR_ dg))) (Kd.S_lt (uS_ dv))) (Jh (w:=w) (g:=g) (row:=none) (g4)))
    have aj3:=A_ (Kd.Q_lower (Kd.Q_new' (Kd.Q_new' (Kd.Q_new' bm (Kd.R_lt (uR_ dg))) (Kd.S_lt (uS_ dv))) (Kd.Q_lt (uQ_ d3))) (Jh (w:=w) (g:=g) (row:=none) (g4)))
    replace dg:=A_ (Kd.R_elder' (uR_ dg) (Kd.R_base ae) hb)
    replace dv:=A_ (Kd.S_mono (Kd.S_told (Kd.S_told (Kd.S_old (uS_ dv) hb) (Kd.R_base ae)) (Kd.S_base ax)) (fun _ h_=>h_.1))
    replace d3:=A_ (Kd.Q_mono (Kd.Q_told (Kd.Q_told (Kd.Q_told (Kd.Q_old (uQ_ d3) hb) (Kd.R_base ae)) (Kd.S_base ax)) (Kd.Q_base bm)) (fun _ h_=>h_.1))
    replace ed:=bb_ ed hb
    replace cc:=bb_ cc hb
    replace HK:=kt_ (g4) hb
    replace HB:=hs_ (lf) hb
    replace HI0:=A_ (Jo.below (d8) hb)
    refine hK.out _ _ ⟨(Gy cc.out 0).trans rfl,(Gy cc.out 1).trans rfl,(Gy cc.out 2).trans rfl⟩ (fun hHeld=>?_)
    clear hK K
    refine nm_ ?_
    refine pw_ 5 18 (tl_ 11 63) ?_
    refine pw_ 6 24 (tl_ 11 127) ?_
    refine pw_ 7 25 (tl_ 11 255) ?_
    refine one_ (i:=8) (N:=some 7) (tl_ 11 511) rfl rfl (Jn HT_.out (g0_)) (by decide) (fun K hK=>?_)
    refine bs_ (N:=7) #[.slice none 0 0, .slice none 0 0, .slice none 0 0] 28 ?_
    intro dt hg w45 hbox hb
    replace dg:=rb_ dg hb
    replace dv:=sb_ dv hb
    replace d3:=qb_ d3 hb
    replace aj1:=rb_ aj1 hb
    replace aj2:=sb_ aj2 hb
    replace aj3:=qb_ aj3 hb
    replace HB:=hs_ (lf) hb
    have kn:=A_ (hbox)
    have an4:=A_ ((g25_:w.heap.size<=dt))
    have an5:=A_ (Nat.le_trans HW0.out an4.out)
    replace HK:=kt_ (g4) hb
    have rv:=nl_ ed hg
    have xp:=nr_ ed hg
    replace ed:=bb_ ed hb
    have ko:=nl_ cc hg
    have xq:=nr_ cc hg
    replace cc:=bb_ cc hb
    have aj0:=A_ ((by rw[hg];exact Nat.ne_of_lt (Jo.lt (show Jo w0 _ g ay zp from d8)):g≠dt))
    have af7:=A_ ((by rw[hg];exact Nat.ne_of_gt (Jo.lt (show Jo w0 _ g ay zp from d8)):dt≠g))
    replace HI0:=A_ (Jo.below (d8) hb)
    clear hb hbox hg
    refine hK.out _ _ ⟨(Gy cc.out 0).trans rfl,(Gy cc.out 1).trans rfl,(Gy cc.out 2).trans rfl⟩ (fun hHeld=>?_)
    clear hK K
    refine nm_ ?_
    exact Fq.calls.z0
   skip
   refine bs_ (N:=7) #[.slice none 0 0, .slice none 0 0, .slice none 0 0] 28 ?_
   intro dt hg w44 hbox hb
   replace dg:=rb_ dg hb
   replace dv:=sb_ dv hb
   replace d3:=qb_ d3 hb
   replace HB:=hs_ (lf) hb
   have kn:=A_ (hbox)
   have an4:=A_ ((g25_:w.heap.size<=dt))
   have an5:=A_ (Nat.le_trans HW0.out an4.out)
   replace HK:=kt_ (g4) hb
   have rv:=nl_ ed hg
   have xp:=nr_ ed hg
   replace ed:=bb_ ed hb
   have ko:=nl_ cc hg
   have xq:=nr_ cc hg
   replace cc:=bb_ cc hb
   have aj0:=A_ ((by rw[hg];exact Nat.ne_of_lt (Jo.lt (show Jo w0 _ g ay zp from d8)):g≠dt))
   have af7:=A_ ((by rw[hg];exact Nat.ne_of_gt (Jo.lt (show Jo w0 _ g ay zp from d8)):dt≠g))
   replace HI0:=A_ (Jo.below (d8) hb)
   clear hb hbox hg
   refine hK.out _ _ ⟨(Gy cc.out 0).trans rfl,(Gy cc.out 1).trans rfl,(Gy cc.out 2).trans rfl⟩ (fun hHeld=>?_)
   clear hK K
   refine nm_ ?_
   refine one_ (i:=4) (N:=some 23) (tl_ 11 287) rfl rfl (Jn HT_.out (g0_)) (by decide) (fun K hK=>?_)
   refine goes_ Try.func54 (g0_) rfl #[.agg #[.slice lp eg.length k8, .slice vw fp.length vx, .slice ku gw.length j3], .agg #[.int .i64 zl, .int .i64 zm, .int .i64 zn, .int .i64 zo]] (by rfl) rfl rfl (gM_) ?_
   refine(Ge.calls k1 _ _ eg _ _ fp _ _ gw zl zm zn zo tz vd vu false _ (cR_ dg) (lR_ dg) (cS_ dv) (lS_ dv) (cQ_ d3) (lQ_ d3) A16.out).mono ?_
   rintro e w45 ⟨si,vv,ac4,rfl,ae,ax,bm,hb⟩
   refine⟨_,rfl,?_⟩
   have aj1:=A_ (Kd.R_lower (Kd.R_new' ae (Kd.R_lt (uR_ dg))) (Jh (w:=w) (g:=g) (row:=none) (g4)))
   have aj2:=A_ (Kd.S_lower (Kd.S_new' (Kd.S_new' ax (Kd.R_lt (uR_ dg))) (Kd.S_lt (uS_ dv))) (Jh (w:=w) (g:=g) (row:=none) (g4)))
   have aj3:=A_ (Kd.Q_lower (Kd.Q_new' (Kd.Q_new' (Kd.Q_new' bm (Kd.R_lt (uR_ dg))) (Kd.S_lt (uS_ dv))) (Kd.Q_lt (uQ_ d3))) (Jh (w:=w) (g:=g) (row:=none) (g4)))
   replace dg:=A_ (Kd.R_elder' (uR_ dg) (Kd.R_base ae) hb)
   replace dv:=A_ (Kd.S_mono (Kd.S_told (Kd.S_told (Kd.S_old (uS_ dv) hb) (Kd.R_base ae)) (Kd.S_base ax)) (fun _ h_=>h_.1))
   replace d3:=A_ (Kd.Q_mono (Kd.Q_told (Kd.Q_told (Kd.Q_told (Kd.Q_old (uQ_ d3) hb) (Kd.R_base ae)) (Kd.S_base ax)) (Kd.Q_base bm)) (fun _ h_=>h_.1))
   replace ed:=bb_ ed hb
   replace cc:=bb_ cc hb
   replace kn:=bb_ kn hb
   replace HK:=kt_ (g4) hb
   replace HB:=hs_ (lf) hb
   replace HI0:=A_ (Jo.below (d8) hb)
   refine hK.out _ _ ⟨(Gy cc.out 0).trans rfl,(Gy cc.out 1).trans rfl,(Gy cc.out 2).trans rfl⟩ (fun hHeld=>?_)
   clear hK K
   refine nm_ ?_
   refine pw_ 5 18 (tl_ 11 319) ?_
   refine pw_ 6 24 (tl_ 11 383) ?_
   refine pw_ 7 25 (tl_ 11 511) ?_
   exact Fq.calls.z0
  skip
  refine bs_ (N:=7) #[.slice none 0 0, .slice none 0 0, .slice none 0 0] 28 ?_
  intro dt hg w43 hbox hb
  replace dg:=rb_ dg hb
  replace dv:=sb_ dv hb
  replace d3:=qb_ d3 hb
  replace HB:=hs_ (lf) hb
  have kn:=A_ (hbox)
  have an4:=A_ ((g25_:w.heap.size<=dt))
  have an5:=A_ (Nat.le_trans HW0.out an4.out)
  replace HK:=kt_ (g4) hb
  have rv:=nl_ ed hg
  have xp:=nr_ ed hg
  replace ed:=bb_ ed hb
  have ko:=nl_ cc hg
  have xq:=nr_ cc hg
  replace cc:=bb_ cc hb
  have aj0:=A_ ((by rw[hg];exact Nat.ne_of_lt (Jo.lt (show Jo w0 _ g ay g9 from d8)):g≠dt))
  have af7:=A_ ((by rw[hg];exact Nat.ne_of_gt (Jo.lt (show Jo w0 _ g ay g9 from d8)):dt≠g))
  replace HI0:=A_ (Jo.below (d8) hb)
  clear hb hbox hg
  refine hK.out _ _ ⟨(Gy cc.out 0).trans rfl,(Gy cc.out 1).trans rfl,(Gy cc.out 2).trans rfl⟩ (fun hHeld=>?_)
  clear hK K
  refine nm_ ?_
  refine one_ (i:=3) (N:=some 22) (tl_ 11 271) rfl rfl (Jn HT_.out (g0_)) (by decide) (fun K hK=>?_)
  refine goes_ Try.func103 (g0_) rfl #[.pointer (some ⟨g,0,none⟩), .agg #[.slice lp eg.length k8, .slice vw fp.length vx, .slice ku gw.length j3]] (by rfl) rfl rfl (gM_) ?_
  refine(Ff.calls k1 g ay g9 _ _ eg _ _ fp _ _ gw zl zm zn zo zp w0 _ d8 lf (cR_ dg) (lR_ dg) (far_slice (Jo.own_ne HI0.out dg.out (by decide))) (Kd.C_foot_own ((Kd.S_R (Jo.apartS (show Jo w0 _ g ay g9 from d8) (uS_ dv) (by decide)))) (fun _ h_=>h_.2)) (lS_ dv) (Kd.C_foot_ownQ (Jo.apartQ (show Jo w0 _ g ay g9 from d8) (uQ_ d3) (by decide)) (fun _ h_=>h_.2)) (lQ_ d3) A15.out).mono ?_
  rintro e w44 ⟨rfl,hi,hb,hk⟩
  refine⟨_,rfl,?_⟩
  replace dg:=A_ (Kd.R_mono (Kd.R_keep (Jo.apart (show Jo w0 _ g ay g9 from d8) (uR_ dg) (by decide)) hk (fun _ h=>h.2)) (fun _ h=>h.1))
  replace dv:=A_ (Kd.S_mono (Kd.S_keep (Jo.apartS (show Jo w0 _ g ay g9 from d8) (uS_ dv) (by decide)) hk (fun _ h=>h.2)) (fun _ h=>h.1))
  replace d3:=A_ (Kd.Q_mono (Kd.Q_keep (Jo.apartQ (show Jo w0 _ g ay g9 from d8) (uQ_ d3) (by decide)) hk (fun _ h=>h.2)) (fun _ h=>h.1))
  replace ed:=kb_ hk ed ac2
  replace cc:=kb_ hk cc ac3
  replace kn:=kb_ hk kn af7
  replace HK:=A_ (Ja.trans (g4) hk (.inl rfl))
  replace HB:=A_ (hb)
  replace HI0:=A_ (hi)
  refine hK.out _ _ ⟨(Gy cc.out 0).trans rfl,(Gy cc.out 1).trans rfl,(Gy cc.out 2).trans rfl⟩ (fun hHeld=>?_)
  clear hK K
  refine nm_ ?_
  refine one_ (i:=4) (N:=some 23) (tl_ 11 287) rfl rfl (Jn HT_.out (g0_)) (by decide) (fun K hK=>?_)
  refine goes_ Try.func54 (g0_) rfl #[.agg #[.slice lp eg.length k8, .slice vw fp.length vx, .slice ku gw.length j3], .agg #[.int .i64 zl, .int .i64 zm, .int .i64 zn, .int .i64 zo]] (by rfl) rfl rfl (gM_) ?_
  refine(Ge.calls k1 _ _ eg _ _ fp _ _ gw zl zm zn zo tz vd vu false _ (cR_ dg) (lR_ dg) (cS_ dv) (lS_ dv) (cQ_ d3) (lQ_ d3) A16.out).mono ?_
  rintro e w45 ⟨si,vv,ac4,rfl,ae,ax,bm,hb⟩
  refine⟨_,rfl,?_⟩
  have aj1:=A_ (Kd.R_lower (Kd.R_new' ae (Kd.R_lt (uR_ dg))) (Jh (w:=w) (g:=g) (row:=none) (g4)))
  have aj2:=A_ (Kd.S_lower (Kd.S_new' (Kd.S_new' ax (Kd.R_lt (uR_ dg))) (Kd.S_lt (uS_ dv))) (Jh (w:=w) (g:=g) (row:=none) (g4)))
  have aj3:=A_ (Kd.Q_lower (Kd.Q_new' (Kd.Q_new' (Kd.Q_new' bm (Kd.R_lt (uR_ dg))) (Kd.S_lt (uS_ dv))) (Kd.Q_lt (uQ_ d3))) (Jh (w:=w) (g:=g) (row:=none) (g4)))
  replace dg:=A_ (Kd.R_elder' (uR_ dg) (Kd.R_base ae) hb)
  replace dv:=A_ (Kd.S_mono (Kd.S_told (Kd.S_told (Kd.S_old (uS_ dv) hb) (Kd.R_base ae)) (Kd.S_base ax)) (fun _ h_=>h_.1))
  replace d3:=A_ (Kd.Q_mono (Kd.Q_told (Kd.Q_told (Kd.Q_told (Kd.Q_old (uQ_ d3) hb) (Kd.R_base ae)) (Kd.S_base ax)) (Kd.Q_base bm)) (fun _ h_=>h_.1))
  replace ed:=bb_ ed hb
  replace cc:=bb_ cc hb
  replace kn:=bb_ kn hb
  replace HK:=kt_ (g4) hb
  replace HB:=hs_ (lf) hb
  replace HI0:=A_ (Jo.below (d8) hb)
  refine hK.out _ _ ⟨(Gy cc.out 0).trans rfl,(Gy cc.out 1).trans rfl,(Gy cc.out 2).trans rfl⟩ (fun hHeld=>?_)
  clear hK K
  refine nm_ ?_
  refine pw_ 5 18 (tl_ 11 319) ?_
  refine pw_ 6 24 (tl_ 11 383) ?_
  refine pw_ 7 25 (tl_ 11 511) ?_
  exact Fq.calls.z0
 rintro⟨si,vv,ac4,dt⟩ wt ⟨hS_,h0_,h1_,h2_,h3_,h4_,h5_,h6_,h7_,h8_,h9_,h10_,h11_,h12_,h13_,h14_,h15_,h16_,h17_,h18_,h19_⟩
 have aj1:Gx (Kd.R (Kd.int .i64) 3 wt w.heap.size (fun k_=>some k_≠(.slice lp eg.length k8:Value).ownBlock) si tz):=⟨h0_⟩
 have aj2:Gx (Kd.S (Kd.slice 3 (Kd.int .i64)) 22 wt w.heap.size (fun k_=>some k_≠(si:Value).ownBlock/\some k_≠(.slice lp eg.length k8:Value).ownBlock/\some k_≠(.slice vw fp.length vx:Value).ownBlock) vv vd):=⟨h1_⟩
 have aj3:Gx (Kd.Q k25 25 wt w.heap.size (fun k_=>some k_≠(si:Value).ownBlock/\some k_≠(vv:Value).ownBlock/\some k_≠(.slice lp eg.length k8:Value).ownBlock/\some k_≠(.slice vw fp.length vx:Value).ownBlock/\some k_≠(.slice ku gw.length j3:Value).ownBlock) ac4 vu):=⟨h2_⟩
 replace dg:Gx (Kd.R (Kd.int .i64) 3 wt w.heap.size (fun k_=>some k_≠(si:Value).ownBlock) (.slice lp eg.length k8) eg):=⟨h3_⟩
 replace dv:Gx (Kd.S (Kd.slice 3 (Kd.int .i64)) 22 wt w.heap.size (fun k_=>some k_≠(si:Value).ownBlock/\some k_≠(vv:Value).ownBlock/\some k_≠(.slice lp eg.length k8:Value).ownBlock) (.slice vw fp.length vx) fp):=⟨h4_⟩
 replace d3:Gx (Kd.Q k25 25 wt w.heap.size (fun k_=>some k_≠(si:Value).ownBlock/\some k_≠(vv:Value).ownBlock/\some k_≠(ac4:Value).ownBlock/\some k_≠(.slice lp eg.length k8:Value).ownBlock/\some k_≠(.slice vw fp.length vx:Value).ownBlock) (.slice ku gw.length j3) gw):=⟨h5_⟩
 replace ed:Gx (hc_ wt gu #[.slice none 0 0, .slice none 0 0, .slice none 0 0] 28):=⟨h6_⟩
 replace cc:Gx (hc_ wt fo #[.slice lp eg.length k8, .slice vw fp.length vx, .slice ku gw.length j3] 28):=⟨h7_⟩
 have kn:Gx (hc_ wt dt #[.slice none 0 0, .slice none 0 0, .slice none 0 0] 28):=⟨h8_⟩
 have an4:Gx (w.heap.size<=dt):=⟨h9_⟩
 have an5:Gx (w0.heap.size<=dt):=⟨h10_⟩
 have aj0:Gx (g≠dt):=⟨h11_⟩
 have af7:Gx (dt≠g):=⟨h12_⟩
 have rv:Gx (gu≠dt):=⟨h13_⟩
 have xp:Gx (dt≠gu):=⟨h14_⟩
 have ko:Gx (fo≠dt):=⟨h15_⟩
 have xq:Gx (dt≠fo):=⟨h16_⟩
 replace HI0:Gx (Jo w0 wt g ay zp):=⟨h17_⟩
 replace HK:Gx (Ja w wt g none):=⟨h18_⟩
 replace HB:Gx (Below w0.heap.size w0 wt):=⟨h19_⟩
 clear h0_ h1_ h2_ h3_ h4_ h5_ h6_ h7_ h8_ h9_ h10_ h11_ h12_ h13_ h14_ h15_ h16_ h17_ h18_ h19_
 have hHeld:wt.cell? ⟨fo,0,none⟩=some (.slice lp eg.length k8)/\wt.cell? ⟨fo,1,none⟩=some (.slice vw fp.length vx)/\wt.cell? ⟨fo,2,none⟩=some (.slice ku gw.length j3):=hS_
 obtain⟨vj,vk,cb7⟩:=Kd.R_slice aj1.out
 (first|subst cb7|(injection cb7 with f1_ f2_ f3_;have f4_:=f1_.symm;have f5_:=f3_.symm;clear f1_ f2_ f3_;subst f4_;subst f5_))
 obtain⟨go5,go6,iy6⟩:=Kd.S_slice aj2.out
 (first|subst iy6|(injection iy6 with f1_ f2_ f3_;have f4_:=f1_.symm;have f5_:=f3_.symm;clear f1_ f2_ f3_;subst f4_;subst f5_))
 obtain⟨k9,la,cn9,_⟩:=Kd.Q_slice aj3.out
 (first|subst cn9|(injection cn9 with f1_ f2_ f3_;have f4_:=f1_.symm;have f5_:=f3_.symm;clear f1_ f2_ f3_;subst f4_;subst f5_))
 refine norm_ (a':=?_) ?_ ?_
 rotate_left
 · exact sq_
 refine one_ (i:=9) (N:=none) (tl_ 11 1023) rfl rfl (Jn HT_.out (g0_)) (by decide) (fun K hK=>?_)
 have oh1:wt.cell? ⟨dt,0,none⟩=some (.slice none 0 0):=(Gy kn.out 0).trans rfl
 have oh2:=G7 kn.out 0
 have oh3:=rv.out
 have oh4:=ko.out
 have oh5:=xp.out
 have oh6:=xq.out
 have oh7:wt.cell? ⟨dt,1,none⟩=some (.slice none 0 0):=(Gy kn.out 1).trans rfl
 have oh8:=G7 kn.out 1
 have lm5:wt.cell? ⟨dt,2,none⟩=some (.slice none 0 0):=(Gy kn.out 2).trans rfl
 have lm6:=G7 kn.out 2
 refine skip_ (w1:=?_) (by rfl) rfl ?_ ?_
 rotate_left
 ·go_simp
  rfl
 refine hK.out _ _ ⟨(cf_ ko ((cf_ ko ((cf_ ko (hHeld.1)))))),(cf_ ko ((cf_ ko ((cf_ ko (hHeld.2.1)))))),(cf_ ko ((cf_ ko ((cf_ ko (hHeld.2.2))))))⟩ (fun hHeld=>?_)
 clear hK K
 refine pw_ 10 8 (tl_ 11 2047) ?_
 refine done_ (done_of HT_.out (g0_)) ?_
 try go_wp2
 go_roundg k1
 case measure=>have:=HK1.out;omega
 case rel=>exact⟨(wrap64 (kb - 1)),(zp),(eg),(fp),(gw),(.slice lp eg.length k8),(.slice vw fp.length vx),(.slice ku gw.length j3),(g3_),H',⟨g17_⟩,⟨ra_ dg⟩,⟨sa_ dv⟩,⟨qa_ d3⟩,⟨ba_ ed⟩,⟨ba_ cc⟩,⟨d8⟩,⟨g4⟩,⟨lf⟩⟩
def Gb.l0:Nat->List (S69)->Int->List Int->Int->List Int->List (List Int)->List (S25)->Option ((List (S69)) × Int)
 | 0,_,_,_,_,_,_,_=>none
 | k + 1,x5,x6,jv,nl,ja0,ja1,ja2=>if x6 > 0 then((Ff.f k jv nl ja0 ja1 ja2).bind fun bt702=>(if x5.length < 4398046511104 then(Gb.l0 k (x5 ++ [(⟨bt702.1,bt702.2.1,bt702.2.2.1,bt702.2.2.2.1⟩:S69)]) (wrap64 (x6 - 1)) jv bt702.2.2.2.2 ja0 ja1 ja2) else(none))) else(some (x5,nl))
def Gb.f (k:Nat) (ay:List Int) (eh:Int) (cm:List Int) (cx:List (List Int)) (eb:List (S25)):Option ((List (S69)) × Int):=(Fa.f k ay eh 6).bind fun bt700=>(Gb.l0 k (([]:List (S69))) bt700.1 ay bt700.2 cm cx eb)
theorem ba1 {p:Prop} (h:p:=by repeat(first|(with_reducible first|exact HI0.out|apply Jo.alloc|apply Jo.drewN|apply Jo.drew|apply Jo.set_1|refine Jo.far ?_ ja3.out _)|exact HI0.out)):p:=h
theorem aj6 {p:Prop} (h:p:=by repeat(first|(with_reducible first|exact HK.out|apply Ja.set_|apply Ji|apply Jj|apply keep_alloc|refine Jk ?_ ly5.out _)|exact HK.out)):p:=h
theorem cg1 {p:Prop} (h:p:=by repeat(first|(with_reducible first|exact HB.out|apply G3|apply G2|apply G1|refine G0 ?_ (Jo.ge HI0.out)|refine G0 ?_ ly6.out)|exact HB.out)):p:=h
set_option maxHeartbeats 8000000 in
set_option maxRecDepth 100000 in
theorem Gb.calls (k:Nat) (g:Nat) (ay:List Int) (eh:Int) (ff:Option Addr) (fj:Nat) (cm:List Int) (fx:Option Addr) (fy:Nat) (cx:List (List Int)) (i3:Option Addr) (iu:Nat) (eb:List (S25)) (r1:List (S69)) (r2:Int) (w0 w:World) (hI:Jo w0 w g ay eh) (hB:Below w0.heap.size w0 w) (zt:Kd.C (Kd.int .i64) w ff cm.length cm) (zu:cm.length<=fj) (hf1_0:∀ad,ff=some ad->0 < cm.length->ad.block≠g) (zv:∀W_,Ja w W_ g none->Kd.C (Kd.slice 3 (Kd.int .i64)) W_ fx cx.length cx) (zw:cx.length<=fy) (bx2:∀W_,Ja w W_ g none->Kd.C k25 W_ i3 eb.length eb) (bx3:eb.length<=iu) (h:Gb.f k ay eh cm cx eb=some (r1,r2)) :
  Calls Try.prog 107 #[.pointer (some ⟨g,0,none⟩), .agg #[.slice ff cm.length fj, .slice fx cx.length fy, .slice i3 eb.length iu]] w fun e w'=>∃v0_:Value,e = .returned (v0_)/\Kd.R k69 69 w' w.heap.size (fun _=>True) v0_ r1/\Jo w0 w' g ay r2/\Below w0.heap.size w0 w'/\Ja w w' g none:=by
 have hu28:=Try.underlying28
 have ao5:=A_ zt
 have ba2:=A_ zu
 clear zt zu
 have ba3:=A_ zv
 have bm2:=A_ zw
 clear zv zw
 have de3:=A_ bx2
 have fd8:=A_ bx3
 clear bx2 bx3
 have HI0:=A_ hI
 have HK:=A_ (Ja.refl w g none)
 have HL:=A_ hB.size
 clear hI
 have HW0:=A_ hB.size
 have HB:=A_ hB
 clear hB
 have H:=h
 unfold Gb.f at H
 clear h
 obtain⟨ja4,hyq⟩:∃y_:List (S69),y_=(([]:List (S69))):=⟨_,rfl⟩
 replace H:((Fa.f k ay eh 6).bind fun bt700=>(Gb.l0 k ja4 bt700.1 ay bt700.2 cm cx eb))=some (r1,r2):=qh_
 have ja5:=A_ hyq
 clear hyq
 replace H:=Option.bind_eq_some_iff.mp H
 obtain⟨⟨ja6,ja7⟩,nu,H⟩:=H
 try dsimp only at H
 have A3:=A_ nu
 clear nu
 have H':=A_ H
 clear H
 go_enter Try.func107,Try.ntmps107
 go_wp2_with (first|((with_reducible refine gd_ 3 ?_);refine bx_ (N:=3) #[.slice ff cm.length fj, .slice fx cx.length fy, .slice i3 eb.length iu] 28 ?_;intro ct1 hg w4 hbox hb;replace HB:=hs_ (cg1) hb;have at2:=A_ (hbox);have ly5:=A_ ((by rw[hg];exact(Jh (w:=w) (g:=g) (row:=none) (aj6)):w.heap.size<=ct1));have ly6:=A_ (Nat.le_trans HW0.out ly5.out);replace HK:=kt_ (aj6) hb;have ja3:=A_ ((by rw[hg];exact Nat.ne_of_lt (Jo.lt (show Jo w0 _ g ay eh from ba1)):g≠ct1));have go9:=A_ ((by rw[hg];exact Nat.ne_of_gt (Jo.lt (show Jo w0 _ g ay eh from ba1)):ct1≠g));replace HI0:=A_ (Jo.below (ba1) hb);clear hb hbox hg)|((with_reducible refine gd_ 7 ?_);refine Kd.R_lit k69 _ 69 ?hg (N:=7) ?hd (xs:=([]:List (S69))) (inner:=[]) (ok:=fun _=>True) (okp:=fun _=>True) ?hr ?hp (fun _ hk=>hk) trivial (Below.refl _ _) (Nat.le_refl _) (by simp) ?_;(case hd=>rfl);(case hg=>rfl);(case hr=>first|(go_simp;done)|(go_simp;rfl));(case hp=>exact(Reps.none _ _));intro ol3 w5 ho6 hb hg_ hnew_;clear hg_ hnew_;(first|rw[<- ja5.out] at ho6|(simp only[Int.reduceToNat] at ho6;rw[<- ja5.out] at ho6));have gp0:=A_ (Kd.R_lower ho6 (Jh (w:=w) (g:=g) (row:=none) (aj6)));replace at2:=bb_ at2 hb;replace HK:=kt_ (aj6) hb;replace HB:=hs_ (cg1) hb;replace HI0:=A_ (Jo.below (ba1) hb);clear hb ho6)|((with_reducible refine gc_ 70 ?_);refine gl_ 9 Try.func70 #[.pointer (some ⟨g,0,none⟩), .int .i64 6] ?_;(refine(Fa.calls k g ay eh 6 ja6 ja7 w0 _ ba1 cg1 A3.out).mono ?_);rintro e w7 ⟨rfl,hi,hb,hk⟩;refine⟨_,rfl,?_⟩;replace at2:=kb_ hk at2 go9;replace gp0:=A_ (Kd.R_mono (Kd.R_keep (Jo.apart (show Jo w0 _ g ay eh from ba1) (uR_ gp0) (by decide)) hk (fun _ h=>h.2)) (fun _ h=>h.1));replace HK:=A_ (Ja.trans (aj6) hk (.inl rfl));replace HB:=A_ (hb);replace HI0:=A_ (hi)))
 go_loopg [5,6] k (fun kq v5 v6 w'=>∃(bj:List (S69)) (kb:Int) (g9:Int),v6 = .int .i64 kb/\Gx (Gb.l0 kq bj kb ay g9 cm cx eb=some (r1,r2))/\Gx (kq<=k)/\Gx (Kd.R k69 69 w' w.heap.size (fun _=>True) v5 bj)/\Gx (hc_ w' ct1 #[(.slice ff cm.length fj),(.slice fx cx.length fy),(.slice i3 eb.length iu)] 28)/\Gx (Jo w0 w' g ay g9)/\Gx (Ja w w' g none)/\Gx (Below w0.heap.size w0 w'))
 case atStart=>exact⟨(ja4),(ja6),(ja7),(g3_),H',⟨Nat.le_refl _⟩,⟨uR_ gp0⟩,⟨uB_ at2⟩,⟨ba1⟩,⟨aj6⟩,⟨cg1⟩⟩
 clear H'
 obtain⟨bj,kb,g9,rfl,HA,HK1,fv,at2,HI0,HK,HB⟩:=hrel
 cases gk with
 | zero=>exact absurd HA.out (by simp[Gb.l0])
 | succ k1=>?_
 have H:=HA.out
 clear HA
 simp only[Gb.l0] at H
 by_cases c8:kb > 0
 case neg=>
  rw[if_neg c8] at H
  have ag8:=decide_eq_false c8
  clear c8
  simp only[Option.some.injEq,Prod.mk.injEq] at H
  obtain⟨rfl,rfl⟩:=H
  go_wp2
  go_ret
  exact⟨_,g4_,uR_ fv,ba1,cg1,aj6⟩
 rw[if_pos c8] at H
 have ag8:=decide_eq_true c8
 clear c8
 replace H:=Option.bind_eq_some_iff.mp H
 obtain⟨⟨ec9,ed0,ed1,ed2,gp1⟩,A90,H⟩:=H
 try dsimp only at H
 have A9:=A_ A90
 clear A90
 obtain⟨io,H⟩:=pos_ H
 have dp9:=A_ io
 clear io
 obtain⟨ja8,hyq⟩:∃y_:List (S69),y_=(bj ++ [(⟨ec9,ed0,ed1,ed2⟩:S69)]):=⟨_,rfl⟩
 replace H:(Gb.l0 k1 ja8 (wrap64 (kb - 1)) ay gp1 cm cx eb)=some (r1,r2):=qh_
 have ly7:=A_ hyq
 clear hyq
 have H':=A_ H
 clear H
 have aq2:=go9.out
 have aq3:=ja3.out
 obtain⟨wu,wv,al7,yf,ww,al8⟩:=blk3_ at2
 go_wp2_with (first|((with_reducible refine gc_ 103 ?_);refine gl_ 17 Try.func103 #[.pointer (some ⟨g,0,none⟩), .agg #[.slice ff cm.length fj, .slice fx cx.length fy, .slice i3 eb.length iu]] ?_;(refine(Ff.calls k1 g ay g9 _ _ cm _ _ cx _ _ eb ec9 ed0 ed1 ed2 gp1 w0 _ ba1 cg1 (Kd.C_keep 0 ao5.out (aj6) hf1_0) ba2.out hf1_0 (Kd.C_foot_step ba3.out (aj6)) bm2.out (Kd.C_foot_step de3.out (aj6)) fd8.out A9.out).mono ?_);rintro e w13 ⟨rfl,hi,hb,hk⟩;refine⟨_,rfl,?_⟩;replace fv:=A_ (Kd.R_mono (Kd.R_keep (Jo.apart (show Jo w0 _ g ay g9 from ba1) (uR_ fv) (by decide)) hk (fun _ h=>h.2)) (fun _ h=>h.1));replace at2:=kb_ hk at2 go9;replace HK:=A_ (Ja.trans (aj6) hk (.inl rfl));replace HB:=A_ (hb);replace HI0:=A_ (hi))|((with_reducible refine gate_builtin (b:=.append) (xs:=#[.tmp 14, .tmp 18]) rfl ?_);at_builtin;refine Kd.R_append k69 w.heap.size rfl (.tmp 14) (.tmp 18) 78 69 (.agg #[(.int .i64 0),(.int .i64 0),(.int .i64 0),(.int .i64 0)]) 32 rfl Try.underlying78 info69 rfl (by decide) (by omega) u5 bj (⟨ec9,ed0,ed1,ed2⟩:S69) [.int .i64 ec9, .int .i64 ed0, .int .i64 ed1, .int .i64 ed2] (fun _=>True) (fun _=>False) rfl rfl ?aP (fun _ hk=>hk.elim) ?aF ?aO (Below.refl _ _) ?aS ?aL ?_;(case aP=>exact k69_mkM _ _ _ (⟨ec9,ed0,ed1,ed2⟩:S69));(case aF=>exact(fun _ _=>trivial));(case aO=>exact(uR_ fv));(case aS=>exact(Jh (w:=w) (g:=g) (row:=none) (aj6)));(case aL=>have:=dp9.out;omega);intro ol4 w14 ho hb hg hat;rw[<- ly7.out] at ho;replace at2:=(bg_ at2 hg (Kd.R_ne fv.out at2.out (by decide)));replace HB:=A_ (below_weaken (cg1) HL.out hb);replace HI0:=A_ (Jo.grown (ba1) hg (Jo.own_ne HI0.out fv.out (by decide)));replace HK:=A_ (Ja.trans (aj6) (Ja.of_grown hg g) (Kd.R_base2 fv.out));have ly8:=A_ (ho);clear fv;clear ho hb hg hat))
 go_roundg k1
 case measure=>have:=HK1.out;omega
 case rel=>exact⟨(ja8),(wrap64 (kb - 1)),(gp1),(g3_),H',⟨g17_⟩,⟨uR_ ly8⟩,⟨uB_ at2⟩,⟨ba1⟩,⟨aj6⟩,⟨cg1⟩⟩
def Gn.f (k:Nat) (l0:List Int):Option (List Int × (List (List Int)) × (List (S25)) × (List (S69))):=(Gu.f l0).bind fun bt711=>((Fq.f k bt711.1 bt711.2 12).bind fun bt714=>((F5.f k bt711.1 bt714.2.2.2 30).bind fun bt725=>(if bt725.1=true then(if 41<=8796093022208 then(some (bt714.1,bt714.2.1,bt714.2.2.1,(List.replicate 41 z69))) else(none)) else((Gb.f k bt711.1 bt725.2 bt714.1 bt714.2.1 bt714.2.2.1).bind fun bt730=>(some (bt714.1,bt714.2.1,bt714.2.2.1,bt730.1))))))
theorem rc {p:Prop} (h:p:=by repeat(first|(with_reducible first|exact HB.out|apply G3|apply G2|apply G1|refine G0 ?_ ja9.out|refine G0 ?_ (Jo.ge HI713.out)|refine G0 ?_ jb0.out)|exact HB.out)):p:=h
theorem rz {p:Prop} (h:p:=by repeat(first|(with_reducible first|exact HI713.out|apply Jo.alloc|apply Jo.drewN|apply Jo.drew|apply Jo.set_1|refine Jo.far ?_ jb1.out _|refine Jo.far ?_ fc7.out _)|exact HI713.out)):p:=h
set_option maxHeartbeats 8000000 in
set_option maxRecDepth 100000 in
theorem Gn.calls (k:Nat) (A0:Option Addr) (c0:Nat) (l0:List Int) (r1:List Int) (r2:List (List Int)) (r3:List (S25)) (r4:List (S69)) (w:World) (gq:Kd.C (Kd.int .u8) w A0 l0.length l0) (i2:l0.length<=c0) (h:Gn.f k l0=some (r1,r2,r3,r4)) :
  Calls Try.prog 64 #[.slice A0 l0.length c0] w fun e w'=>∃v0_ v1_ v2_ v3_:Value,e = .returned (.tuple #[.agg #[v0_,v1_,v2_],v3_])/\Kd.R (Kd.int .i64) 3 w' w.heap.size (fun _=>True) v0_ r1/\Kd.S (Kd.slice 3 (Kd.int .i64)) 22 w' w.heap.size (fun k_=>some k_≠(v0_:Value).ownBlock) v1_ r2/\Kd.Q k25 25 w' w.heap.size (fun k_=>some k_≠(v0_:Value).ownBlock/\some k_≠(v1_:Value).ownBlock) v2_ r3/\Kd.R k69 69 w' w.heap.size (fun _=>True) v3_ r4/\Below w.heap.size w w':=by
 have hu28:=Try.underlying28
 have ks:=A_ gq
 have uc:=A_ i2
 clear gq i2
 have HB:=A_ (Below.refl w.heap.size w)
 have H:=h
 unfold Gn.f at H
 clear h
 replace H:=Option.bind_eq_some_iff.mp H
 obtain⟨⟨sj,fc8⟩,yv,H⟩:=H
 try dsimp only at H
 have A2:=A_ yv
 clear yv
 replace H:=Option.bind_eq_some_iff.mp H
 obtain⟨⟨i7,jw,lm,an8⟩,nu,H⟩:=H
 try dsimp only at H
 have A3:=A_ nu
 clear nu
 replace H:=Option.bind_eq_some_iff.mp H
 obtain⟨⟨ly9,bh1⟩,r8,H⟩:=H
 try dsimp only at H
 have A4:=A_ r8
 clear r8
 by_cases c5:ly9=true
 case neg=>
  replace c5:=Bool.eq_false_iff.mpr c5
  subst c5
  replace H:=ifn_ H
  replace H:=Option.bind_eq_some_iff.mp H
  obtain⟨⟨ma0,ma1⟩,jb2,H⟩:=H
  try dsimp only at H
  have A25:=A_ jb2
  clear jb2
  simp only[Option.some.injEq,Prod.mk.injEq] at H
  obtain⟨rfl,rfl,rfl,rfl⟩:=H
  go_enter Try.func64,Try.ntmps64
  try go_wp2_with (first|((with_reducible refine gd_ 2 ?_);refine bx_ (N:=2) #[.slice none 0 0, .slice none 0 0, .slice none 0 0] 28 ?_;intro gm hg w26 hbox hb;have gn:=A_ (hbox);have lz0:=A_ ((g57_:w.heap.size<=gm));have ja9:=lz0;replace HB:=hs_ (rc) hb;clear hb hbox hg)|((with_reducible refine gc_ 69 ?_);refine gl_ 7 Try.func69 #[.slice A0 l0.length c0] ?_;(refine(Gu.calls _ _ l0 sj fc8 w _ rc ks.out uc.out A2.out).mono ?_);rintro e w27 ⟨g713,rfl,hi,hb,hb2⟩;refine⟨_,rfl,?_⟩;replace HB:=A_ (hb);have HI713:=A_ (hi);have jb1:=A_ (Jo.ne_blk hi (G8 (g:=gm) (o:=.cells #[.slice none 0 0, .slice none 0 0, .slice none 0 0] 28 (0,0)) (uB_ gn) hb2) (by decide));have dd6:=A_ (Ne.symm (Jo.ne_blk hi (G8 (g:=gm) (o:=.cells #[.slice none 0 0, .slice none 0 0, .slice none 0 0] 28 (0,0)) (uB_ gn) hb2) (by decide)));replace gn:=A_ (G8 (g:=gm) (o:=.cells #[.slice none 0 0, .slice none 0 0, .slice none 0 0] 28 (0,0)) (uB_ gn) hb2))|((with_reducible refine gc_ 77 ?_);refine gl_ 9 Try.func77 #[.pointer (some ⟨g713,0,none⟩), .int .i64 12] ?_;(refine(Fq.calls k g713 sj fc8 12 i7 jw lm an8 w _ rz rc A3.out).mono ?_);rintro e w28 ⟨lz1,lz2,lz3,rfl,ae,ax,bm,hi,hb,hk⟩;refine⟨_,rfl,?_⟩;replace gn:=kb_ hk gn dd6;have o8:=A_ (Kd.R_lower ae (Gz (rc)));have pk:=A_ (Kd.S_lower ax (Gz (rc)));have pl:=A_ (Kd.Q_lower bm (Gz (rc)));replace HB:=A_ (hb);replace HI713:=A_ (hi))|((with_reducible refine gd_ 5 ?_);refine bx_ (N:=5) #[.slice none 0 0, .slice none 0 0, .slice none 0 0] 28 ?_;intro jx hg w29 hbox hb;replace o8:=rb_ o8 hb;replace pk:=sb_ pk hb;replace pl:=qb_ pl hb;have kw:=A_ (hbox);have lz4:=A_ ((g57_:w.heap.size<=jx));have jb0:=lz4;replace HB:=hs_ (rc) hb;have zq:=nl_ gn hg;have kg:=nr_ gn hg;replace gn:=bb_ gn hb;have fc7:=A_ ((by rw[hg];exact Nat.ne_of_lt (Jo.lt (show Jo w _ g713 sj an8 from rz)):g713≠jx));have dd7:=A_ ((by rw[hg];exact Nat.ne_of_gt (Jo.lt (show Jo w _ g713 sj an8 from rz)):jx≠g713));replace HI713:=A_ (Jo.below (rz) hb);clear hb hbox hg;obtain⟨jg,jh,bk8⟩:=Kd.R_slice o8.out;subst bk8;have ej0:=kg.out;have ej1:=zq.out;have cb8:=dd7.out;have cb9:=fc7.out;obtain⟨fk6,fk7,gz1,fk8,fk9,gz2⟩:=blk3_ kw;obtain⟨k6,kt,bo8⟩:=Kd.S_slice pk.out;subst bo8;obtain⟨rh,qy,bz8,_⟩:=Kd.Q_slice pl.out;subst bz8)|((with_reducible refine gc_ 106 ?_);refine gl_ 11 Try.func106 #[.pointer (some ⟨g713,0,none⟩), .int .i64 30] ?_;(refine(F5.calls k g713 sj an8 30 false bh1 w _ rz rc A4.out).mono ?_);rintro e k7 ⟨rfl,hi,hb,hk⟩;refine⟨_,rfl,?_⟩;replace gn:=A_ (Ja.blk hk (g':=gm) (o:=.cells #[.slice none 0 0, .slice none 0 0, .slice none 0 0] 28 (0,0)) (ba_ gn) dd6.out (by simp));replace o8:=A_ (Kd.R_mono (Kd.R_keep (Jo.apart (show Jo w _ g713 sj an8 from rz) (ra_ o8) (by decide)) hk (fun _ h=>h.2)) (fun _ h=>h.1));replace pk:=A_ (Kd.S_mono (Kd.S_keep (Jo.apartS (show Jo w _ g713 sj an8 from rz) (sa_ pk) (by decide)) hk (fun _ h=>h.2)) (fun _ h=>h.1));replace pl:=A_ (Kd.Q_mono (Kd.Q_keep (Jo.apartQ (show Jo w _ g713 sj an8 from rz) (qa_ pl) (by decide)) hk (fun _ h=>h.2)) (fun _ h=>h.1));replace kw:=A_ (Ja.blk hk (g':=jx) (o:=.cells #[.slice jg i7.length jh, .slice k6 jw.length kt, .slice rh lm.length qy] 28 (0,0)) (ba_ kw) dd7.out (by simp));replace HB:=A_ (hb);replace HI713:=A_ (hi)))
  replace o8:=rd_ o8
  replace pk:=sd_ pk
  replace pl:=qd_ pl
  replace gn:=bd_ gn
  replace kw:=bd_ kw
  replace HI713:=A_ (Jo.drew HI713.out)
  replace HB:=A_ (G1 HB.out)
  refine start_ (n:=6) (S:=fun w'=>w'.cell? ⟨jx,0,none⟩=some (.slice jg i7.length jh)/\w'.cell? ⟨jx,1,none⟩=some (.slice k6 jw.length kt)/\w'.cell? ⟨jx,2,none⟩=some (.slice rh lm.length qy)) (ds:=[]) (tl_ 6 0) (g0_) rfl (g0_) ⟨(Gy kw.out 0).trans rfl,(Gy kw.out 1).trans rfl,(Gy kw.out 2).trans rfl⟩ (fun hHeld=>?_)
  generalize k7.drew=ta at o8 pk pl gn kw HI713 HB hHeld |-
  refine pure_ (i:=1) (N:=some 15) (v:=?_) (a':=?_) (tl_ 6 2) rfl rfl (g0_) (fun _ _ _ h=>h) (Or.inl ⟨by rfl,?_⟩) ?_ ?_
  rotate_left
  ·intro w'
   go_simp
   with_reducible rfl
  rotate_left
  · exact sp_
  refine take_ (i:=0) (N:=some 14) (v:=?_) (a':=?_) (tl_ 6 3) rfl rfl (g0_) (fun _ _ _ h=>h) (Or.inl ⟨by rfl,?_⟩) hHeld ?_ ?_
  rotate_left
  ·rintro w' ⟨s0,s1,s2⟩
   go_simp
   with_reducible rfl
  rotate_left
  · exact sp_
  refine take_ (i:=2) (N:=some 16) (v:=?_) (a':=?_) (tl_ 6 7) rfl rfl (g0_) (fun _ _ _ h=>h) (Or.inl ⟨by rfl,?_⟩) hHeld ?_ ?_
  rotate_left
  ·rintro w' ⟨s0,s1,s2⟩
   go_simp
   with_reducible rfl
  rotate_left
  · exact sp_
  refine one_ (i:=3) (N:=some 17) (tl_ 6 15) rfl rfl (g0_) (by decide) (fun K hK=>?_)
  refine goes_ Try.func107 (g0_) rfl #[.pointer (some ⟨g713,0,none⟩), .agg #[.slice jg i7.length jh, .slice k6 jw.length kt, .slice rh lm.length qy]] (by rfl) rfl rfl (gM_) ?_
  refine(Gb.calls k g713 sj bh1 _ _ i7 _ _ jw _ _ lm ma0 ma1 w _ rz rc (cR_ o8) (lR_ o8) (far_slice (Jo.own_ne HI713.out o8.out (by decide))) (Kd.C_foot_own ((Kd.S_R (Jo.apartS (show Jo w _ g713 sj bh1 from rz) (uS_ pk) (by decide)))) (fun _ h_=>h_.2)) (lS_ pk) (Kd.C_foot_ownQ (Jo.apartQ (show Jo w _ g713 sj bh1 from rz) (uQ_ pl) (by decide)) (fun _ h_=>h_.2)) (lQ_ pl) A25.out).mono ?_
  rintro e lx ⟨om7,rfl,ae,hi,hb,hk⟩
  refine⟨_,rfl,?_⟩
  replace gn:=kb_ hk gn dd6
  replace o8:=A_ (Kd.R_mono (Kd.R_keep (Jo.apart (show Jo w _ g713 sj bh1 from rz) (uR_ o8) (by decide)) hk (fun _ h=>h.2)) (fun _ h=>h.1))
  replace pk:=A_ (Kd.S_mono (Kd.S_keep (Jo.apartS (show Jo w _ g713 sj bh1 from rz) (uS_ pk) (by decide)) hk (fun _ h=>h.2)) (fun _ h=>h.1))
  replace pl:=A_ (Kd.Q_mono (Kd.Q_keep (Jo.apartQ (show Jo w _ g713 sj bh1 from rz) (uQ_ pl) (by decide)) hk (fun _ h=>h.2)) (fun _ h=>h.1))
  replace kw:=kb_ hk kw dd7
  have ma2:=A_ (Kd.R_lower ae (Gz (rc)))
  replace HB:=A_ (hb)
  replace HI713:=A_ (hi)
  refine hK.out _ _ ⟨(Gy kw.out 0).trans rfl,(Gy kw.out 1).trans rfl,(Gy kw.out 2).trans rfl⟩ (fun hHeld=>?_)
  clear hK K
  refine nm_ ?_
  refine one_ (i:=4) (N:=none) (tl_ 6 31) rfl rfl (g0_) (by decide) (fun K hK=>?_)
  have om8:lx.cell? ⟨gm,0,none⟩=some (.slice none 0 0):=(Gy gn.out 0).trans rfl
  have om9:=G7 gn.out 0
  have on0:=kg.out
  have on1:=zq.out
  have ib4:lx.cell? ⟨gm,1,none⟩=some (.slice none 0 0):=(Gy gn.out 1).trans rfl
  have ib5:=G7 gn.out 1
  have lb3:lx.cell? ⟨gm,2,none⟩=some (.slice none 0 0):=(Gy gn.out 2).trans rfl
  have lb4:=G7 gn.out 2
  refine skip_ (w1:=?_) (by rfl) rfl ?_ ?_
  rotate_left
  ·go_simp
   rfl
  refine hK.out _ _ ⟨(cf_ kg ((cf_ kg ((cf_ kg (hHeld.1)))))),(cf_ kg ((cf_ kg ((cf_ kg (hHeld.2.1)))))),(cf_ kg ((cf_ kg ((cf_ kg (hHeld.2.2))))))⟩ (fun hHeld=>?_)
  clear hK K
  refine pure_ (i:=5) (N:=some 3) (v:=?_) (a':=?_) (tl_ 6 63) rfl rfl (g0_) (fun _ _ _ h=>h) (Or.inl ⟨by rfl,?_⟩) ?_ ?_
  rotate_left
  ·intro w'
   go_simp
   with_reducible rfl
  rotate_left
  · exact sp_
  refine done_ (g0_) ?_
  try go_wp2
  refine bodyPost_ret (Jm rfl _ _ gm 28 #[.slice jg i7.length jh, .slice k6 jw.length kt, .slice rh lm.length qy] (0,0) _ rfl (ba_ gn) Try.underlying28 rfl (g0_)) rfl ?_
  exact⟨_,_,_,_,g4_,ra_ o8,sa_ pk,qa_ pl,ra_ ma2,rc⟩
 subst c5
 replace H:=ifp_ H
 obtain⟨c6,H⟩:=pos_ H
 have qu:=eq_true c6
 have bx4:=decide_eq_true c6
 clear c6
 obtain⟨gp2,hyq⟩:∃y_:List (S69),y_=(List.replicate 41 z69):=⟨_,rfl⟩
 replace H:(some (i7,jw,lm,gp2))=some (r1,r2,r3,r4):=qh_
 have fc9:=A_ hyq
 clear hyq
 simp only[Option.some.injEq,Prod.mk.injEq] at H
 obtain⟨rfl,rfl,rfl,rfl⟩:=H
 go_enter Try.func64,Try.ntmps64
 try go_wp2_with (first|((with_reducible refine gd_ 2 ?_);refine bx_ (N:=2) #[.slice none 0 0, .slice none 0 0, .slice none 0 0] 28 ?_;intro gm hg w7 hbox hb;have gn:=A_ (hbox);have lz0:=A_ ((g57_:w.heap.size<=gm));have ja9:=lz0;replace HB:=hs_ (rc) hb;clear hb hbox hg)|((with_reducible refine gc_ 69 ?_);refine gl_ 7 Try.func69 #[.slice A0 l0.length c0] ?_;(refine(Gu.calls _ _ l0 sj fc8 w _ rc ks.out uc.out A2.out).mono ?_);rintro e w8 ⟨g713,rfl,hi,hb,hb2⟩;refine⟨_,rfl,?_⟩;replace HB:=A_ (hb);have HI713:=A_ (hi);have jb1:=A_ (Jo.ne_blk hi (G8 (g:=gm) (o:=.cells #[.slice none 0 0, .slice none 0 0, .slice none 0 0] 28 (0,0)) (uB_ gn) hb2) (by decide));have dd6:=A_ (Ne.symm (Jo.ne_blk hi (G8 (g:=gm) (o:=.cells #[.slice none 0 0, .slice none 0 0, .slice none 0 0] 28 (0,0)) (uB_ gn) hb2) (by decide)));replace gn:=A_ (G8 (g:=gm) (o:=.cells #[.slice none 0 0, .slice none 0 0, .slice none 0 0] 28 (0,0)) (uB_ gn) hb2))|((with_reducible refine gc_ 77 ?_);refine gl_ 9 Try.func77 #[.pointer (some ⟨g713,0,none⟩), .int .i64 12] ?_;(refine(Fq.calls k g713 sj fc8 12 i7 jw lm an8 w _ rz rc A3.out).mono ?_);rintro e w9 ⟨lz1,lz2,lz3,rfl,ae,ax,bm,hi,hb,hk⟩;refine⟨_,rfl,?_⟩;replace gn:=kb_ hk gn dd6;have o8:=A_ (Kd.R_lower ae (Gz (rc)));have pk:=A_ (Kd.S_lower ax (Gz (rc)));have pl:=A_ (Kd.Q_lower bm (Gz (rc)));replace HB:=A_ (hb);replace HI713:=A_ (hi))|((with_reducible refine gd_ 5 ?_);refine bx_ (N:=5) #[.slice none 0 0, .slice none 0 0, .slice none 0 0] 28 ?_;intro jx hg w10 hbox hb;replace o8:=rb_ o8 hb;replace pk:=sb_ pk hb;replace pl:=qb_ pl hb;have kw:=A_ (hbox);have lz4:=A_ ((g57_:w.heap.size<=jx));have jb0:=lz4;replace HB:=hs_ (rc) hb;have zq:=nl_ gn hg;have kg:=nr_ gn hg;replace gn:=bb_ gn hb;have fc7:=A_ ((by rw[hg];exact Nat.ne_of_lt (Jo.lt (show Jo w _ g713 sj an8 from rz)):g713≠jx));have dd7:=A_ ((by rw[hg];exact Nat.ne_of_gt (Jo.lt (show Jo w _ g713 sj an8 from rz)):jx≠g713));replace HI713:=A_ (Jo.below (rz) hb);clear hb hbox hg;obtain⟨a9,a8,ea8⟩:=Kd.R_slice o8.out;subst ea8;have ci9:=kg.out;have cj0:=zq.out;have cu5:=dd7.out;have cu6:=fc7.out;obtain⟨xv,xw,cv5,xx,xy,cv6⟩:=blk3_ kw;obtain⟨qe,qf,lz5⟩:=Kd.S_slice pk.out;subst lz5;obtain⟨aq,ap,bq3,_⟩:=Kd.Q_slice pl.out;subst bq3)|((with_reducible refine gc_ 106 ?_);refine gl_ 11 Try.func106 #[.pointer (some ⟨g713,0,none⟩), .int .i64 30] ?_;(refine(F5.calls k g713 sj an8 30 true bh1 w _ rz rc A4.out).mono ?_);rintro e ov ⟨rfl,hi,hb,hk⟩;refine⟨_,rfl,?_⟩;replace gn:=A_ (Ja.blk hk (g':=gm) (o:=.cells #[.slice none 0 0, .slice none 0 0, .slice none 0 0] 28 (0,0)) (ba_ gn) dd6.out (by simp));replace o8:=A_ (Kd.R_mono (Kd.R_keep (Jo.apart (show Jo w _ g713 sj an8 from rz) (ra_ o8) (by decide)) hk (fun _ h=>h.2)) (fun _ h=>h.1));replace pk:=A_ (Kd.S_mono (Kd.S_keep (Jo.apartS (show Jo w _ g713 sj an8 from rz) (sa_ pk) (by decide)) hk (fun _ h=>h.2)) (fun _ h=>h.1));replace pl:=A_ (Kd.Q_mono (Kd.Q_keep (Jo.apartQ (show Jo w _ g713 sj an8 from rz) (qa_ pl) (by decide)) hk (fun _ h=>h.2)) (fun _ h=>h.1));replace kw:=A_ (Ja.blk hk (g':=jx) (o:=.cells #[.slice a9 i7.length a8, .slice qe jw.length qf, .slice aq lm.length ap] 28 (0,0)) (ba_ kw) dd7.out (by simp));replace HB:=A_ (hb);replace HI713:=A_ (hi)))
 replace o8:=rd_ o8
 replace pk:=sd_ pk
 replace pl:=qd_ pl
 replace gn:=bd_ gn
 replace kw:=bd_ kw
 replace HI713:=A_ (Jo.drew HI713.out)
 replace HB:=A_ (G1 HB.out)
 refine start_ (n:=4) (S:=fun w'=>w'.cell? ⟨jx,0,none⟩=some (.slice a9 i7.length a8)/\w'.cell? ⟨jx,1,none⟩=some (.slice qe jw.length qf)/\w'.cell? ⟨jx,2,none⟩=some (.slice aq lm.length ap)) (ds:=[]) (tl_ 4 0) (g0_) rfl (g0_) ⟨(Gy kw.out 0).trans rfl,(Gy kw.out 1).trans rfl,(Gy kw.out 2).trans rfl⟩ (fun hHeld=>?_)
 generalize ov.drew=rf at o8 pk pl gn kw HI713 HB hHeld |-
 refine take_ (i:=0) (N:=some 12) (v:=?_) (a':=?_) (tl_ 4 1) rfl rfl (g0_) (fun _ _ _ h=>h) (Or.inl ⟨by rfl,?_⟩) hHeld ?_ ?_
 rotate_left
 ·rintro w' ⟨s0,s1,s2⟩
  go_simp
  with_reducible rfl
 rotate_left
 · exact sp_
 refine join_ (σ:=Value) 1 (tl_ 4 7) (fun s_=>[(13,s_)]) (fun s_ w'=>(w'.cell? ⟨jx,0,none⟩=some (.slice a9 i7.length a8)/\w'.cell? ⟨jx,1,none⟩=some (.slice qe jw.length qf)/\w'.cell? ⟨jx,2,none⟩=some (.slice aq lm.length ap))/\(Kd.R (Kd.int .i64) 3 w' w.heap.size (fun _=>True) (.slice a9 i7.length a8) i7)/\(Kd.S (Kd.slice 3 (Kd.int .i64)) 22 w' w.heap.size (fun k_=>some k_≠(.slice a9 i7.length a8:Value).ownBlock) (.slice qe jw.length qf) jw)/\(Kd.Q k25 25 w' w.heap.size (fun k_=>some k_≠(.slice a9 i7.length a8:Value).ownBlock/\some k_≠(.slice qe jw.length qf:Value).ownBlock) (.slice aq lm.length ap) lm)/\(Kd.R k69 69 w' w.heap.size (fun _=>True) s_ gp2)/\(hc_ w' gm #[.slice a9 i7.length a8, .slice qe jw.length qf, .slice aq lm.length ap] 28)/\(hc_ w' jx #[.slice a9 i7.length a8, .slice qe jw.length qf, .slice aq lm.length ap] 28)/\(Jo w w' g713 sj bh1)/\(Below w.heap.size w w')) ?_ ?_
 rotate_left
 ·intro hCont
  refine two_ (i:=1) (j:=2) (Ni:=some 13) (Nj:=none) (tl_ 4 3) (tl_ 4 5) rfl rfl rfl rfl (g0_) (by decide) (by decide) (fun K hK=>?_) (fun K hK=>?_)
  ·skip
   refine Kd.R_make_step k69 _ 69 (by rfl) (N:=13) rfl 78 _ _ rfl 41 rfl rfl Try.underlying78 (.agg #[(.int .i64 0),(.int .i64 0),(.int .i64 0),(.int .i64 0)]) 32 info69 rfl (by decide) (by omega) z69 (ok:=fun _=>True) (okp:=fun _=>True) (k69_mkM _ _ _ z69) (fun _ hk=>hk) trivial (by omega) (by omega) (Below.refl _ _) (Nat.le_refl _) ?_
   intro ed3 my bh0 hb hg_ hnew_
   clear hg_ hnew_
   (first|rw[<- fc9.out] at bh0|(simp only[Int.reduceToNat] at bh0;rw[<- fc9.out] at bh0))
   replace o8:=rb_ o8 hb
   replace pk:=sb_ pk hb
   replace pl:=qb_ pl hb
   have ed4:=A_ (Kd.R_lower bh0 (Gz (rc)))
   replace gn:=bb_ gn hb
   replace kw:=bb_ kw hb
   replace HB:=hs_ (rc) hb
   replace HI713:=A_ (Jo.below (rz) hb)
   clear hb bh0
   refine hK.out _ _ ⟨(Gy kw.out 0).trans rfl,(Gy kw.out 1).trans rfl,(Gy kw.out 2).trans rfl⟩ (fun hHeld=>?_)
   clear hK K
   refine nm_ ?_
   refine one_ (i:=2) (N:=none) (tl_ 4 7) rfl rfl (g0_) (by decide) (fun K hK=>?_)
   have lz6:my.cell? ⟨gm,0,none⟩=some (.slice none 0 0):=(Gy gn.out 0).trans rfl
   have lz7:=G7 gn.out 0
   have lz8:=kg.out
   have lz9:=zq.out
   have ol5:my.cell? ⟨gm,1,none⟩=some (.slice none 0 0):=(Gy gn.out 1).trans rfl
   have ol6:=G7 gn.out 1
   have lw3:my.cell? ⟨gm,2,none⟩=some (.slice none 0 0):=(Gy gn.out 2).trans rfl
   have lw4:=G7 gn.out 2
   refine skip_ (w1:=?_) (by rfl) rfl ?_ ?_
   rotate_left
   ·go_simp
    rfl
   refine hK.out _ _ ⟨(cf_ kg ((cf_ kg ((cf_ kg (hHeld.1)))))),(cf_ kg ((cf_ kg ((cf_ kg (hHeld.2.1)))))),(cf_ kg ((cf_ kg ((cf_ kg (hHeld.2.2))))))⟩ (fun hHeld=>?_)
   clear hK K
   exact norm_ (g8_) (hCont (ed3) _ ⟨hHeld,(ra_ o8),(sa_ pk),(qa_ pl),(ra_ ed4),(ba_ gn),(ba_ kw),(rz),(rc)⟩)
  skip
  have ol9:rf.cell? ⟨gm,0,none⟩=some (.slice none 0 0):=(Gy gn.out 0).trans rfl
  have om0:=G7 gn.out 0
  have om1:=kg.out
  have om2:=zq.out
  have om3:rf.cell? ⟨gm,1,none⟩=some (.slice none 0 0):=(Gy gn.out 1).trans rfl
  have om4:=G7 gn.out 1
  have lz6:rf.cell? ⟨gm,2,none⟩=some (.slice none 0 0):=(Gy gn.out 2).trans rfl
  have lz7:=G7 gn.out 2
  have lz8:=kg.out
  have lz9:=zq.out
  refine skip_ (w1:=?_) (by rfl) rfl ?_ ?_
  rotate_left
  ·go_simp
   rfl
  refine hK.out _ _ ⟨(cf_ kg ((cf_ kg ((cf_ kg (hHeld.1)))))),(cf_ kg ((cf_ kg ((cf_ kg (hHeld.2.1)))))),(cf_ kg ((cf_ kg ((cf_ kg (hHeld.2.2))))))⟩ (fun hHeld=>?_)
  clear hK K
  refine one_ (i:=1) (N:=some 13) (tl_ 4 7) rfl rfl (g0_) (by decide) (fun K hK=>?_)
  refine Kd.R_make_step k69 _ 69 (by rfl) (N:=13) rfl 78 _ _ rfl 41 rfl rfl Try.underlying78 (.agg #[(.int .i64 0),(.int .i64 0),(.int .i64 0),(.int .i64 0)]) 32 info69 rfl (by decide) (by omega) z69 (ok:=fun _=>True) (okp:=fun _=>True) (k69_mkM _ _ _ z69) (fun _ hk=>hk) trivial (by omega) (by omega) (Below.refl _ _) (Nat.le_refl _) ?_
  intro ed3 yu qz hb hg_ hnew_
  clear hg_ hnew_
  (first|rw[<- fc9.out] at qz|(simp only[Int.reduceToNat] at qz;rw[<- fc9.out] at qz))
  replace o8:=A_ (Kd.R_below (ra_ o8) hb)
  replace pk:=A_ (Kd.S_below (sa_ pk) hb)
  replace pl:=A_ (Kd.Q_below (qa_ pl) hb)
  have ed4:=A_ (Kd.R_lower qz (Gz (rc)))
  replace gn:=A_ (G8 (g:=gm) (o:=.cells #[.slice a9 i7.length a8, .slice qe jw.length qf, .slice aq lm.length ap] 28 (0,0)) (ba_ gn) hb)
  replace kw:=A_ (G8 (g:=jx) (o:=.cells #[.slice a9 i7.length a8, .slice qe jw.length qf, .slice aq lm.length ap] 28 (0,0)) (ba_ kw) hb)
  replace HB:=hs_ (rc) hb
  replace HI713:=A_ (Jo.below (show Jo w (((rf.setCell ⟨gm,0,none⟩ (.slice a9 i7.length a8)).setCell ⟨gm,1,none⟩ (.slice qe jw.length qf)).setCell ⟨gm,2,none⟩ (.slice aq lm.length ap)) g713 sj bh1 from rz) hb)
  clear hb qz
  refine hK.out _ _ ⟨(Gy kw.out 0).trans rfl,(Gy kw.out 1).trans rfl,(Gy kw.out 2).trans rfl⟩ (fun hHeld=>?_)
  clear hK K
  refine nm_ ?_
  exact norm_ (g8_) (hCont (ed3) _ ⟨hHeld,(uR_ o8),(uS_ pk),(uQ_ pl),(uR_ ed4),(uB_ gn),(uB_ kw),(rz),(rc)⟩)
 rintro ed3 wn ⟨hS_,h0_,h1_,h2_,h3_,h4_,h5_,h6_,h7_⟩
 replace o8:Gx (Kd.R (Kd.int .i64) 3 wn w.heap.size (fun _=>True) (.slice a9 i7.length a8) i7):=⟨h0_⟩
 replace pk:Gx (Kd.S (Kd.slice 3 (Kd.int .i64)) 22 wn w.heap.size (fun k_=>some k_≠(.slice a9 i7.length a8:Value).ownBlock) (.slice qe jw.length qf) jw):=⟨h1_⟩
 replace pl:Gx (Kd.Q k25 25 wn w.heap.size (fun k_=>some k_≠(.slice a9 i7.length a8:Value).ownBlock/\some k_≠(.slice qe jw.length qf:Value).ownBlock) (.slice aq lm.length ap) lm):=⟨h2_⟩
 have ed4:Gx (Kd.R k69 69 wn w.heap.size (fun _=>True) ed3 gp2):=⟨h3_⟩
 replace gn:Gx (hc_ wn gm #[.slice a9 i7.length a8, .slice qe jw.length qf, .slice aq lm.length ap] 28):=⟨h4_⟩
 replace kw:Gx (hc_ wn jx #[.slice a9 i7.length a8, .slice qe jw.length qf, .slice aq lm.length ap] 28):=⟨h5_⟩
 replace HI713:Gx (Jo w wn g713 sj bh1):=⟨h6_⟩
 replace HB:Gx (Below w.heap.size w wn):=⟨h7_⟩
 clear h0_ h1_ h2_ h3_ h4_ h5_ h6_ h7_
 have hHeld:wn.cell? ⟨jx,0,none⟩=some (.slice a9 i7.length a8)/\wn.cell? ⟨jx,1,none⟩=some (.slice qe jw.length qf)/\wn.cell? ⟨jx,2,none⟩=some (.slice aq lm.length ap):=hS_
 refine norm_ (a':=?_) ?_ ?_
 rotate_left
 · exact sq_
 refine pure_ (i:=3) (N:=some 3) (v:=?_) (a':=?_) (tl_ 4 15) rfl rfl (g0_) (fun _ _ _ h=>h) (Or.inl ⟨by rfl,?_⟩) ?_ ?_
 rotate_left
 ·intro w'
  go_simp
  with_reducible rfl
 rotate_left
 · exact sp_
 refine done_ (g0_) ?_
 try go_wp2
 refine bodyPost_ret (Jm rfl _ _ gm 28 #[.slice a9 i7.length a8, .slice qe jw.length qf, .slice aq lm.length ap] (0,0) _ rfl (uB_ gn) Try.underlying28 rfl (g0_)) rfl ?_
 exact⟨_,_,_,_,g4_,uR_ o8,uS_ pk,uQ_ pl,uR_ ed4,rc⟩
mutual
def Fd.j0:Nat->List (S69)->Int->Bool->List Int->List (List Int)->List (S25)->List Int->List (List Int)->List (S25)->Option (Bool)
 | 0,_,_,_,_,_,_,_,_,_=>none
 | k + 1,x4,x6,x42,dd8,ed5,ed6,ct2,dd9,de0=>if x42=true then(some false) else((Fw.f k dd8 ed5 ed6).bind fun gp3=>(if gp3=true then(Fd.j1 k x4 x6 (decide ((x4.length:Int) > 40)) dd8 ed5 ed6 ct2 dd9 de0) else(Fd.j1 k x4 x6 true dd8 ed5 ed6 ct2 dd9 de0)))
def Fd.j1:Nat->List (S69)->Int->Bool->List Int->List (List Int)->List (S25)->List Int->List (List Int)->List (S25)->Option (Bool)
 | 0,_,_,_,_,_,_,_,_,_=>none
 | k + 1,x4,x6,x50,dd8,ed5,ed6,ct2,dd9,de0=>if x50=true then(if x6=0 then((Gw.f k ct2 dd9 de0).bind fun gp4=>(if gp4=true then((Gp.f k).bind fun gp5=>(some gp5)) else(some false))) else(some false)) else(if 0<=(wrap64 ((x4.length:Int) / 2)) then(if (wrap64 ((x4.length:Int) / 2))<=(x4.length:Int) then((Fy.f k dd8 ed5 ed6 (x4.take ((wrap64 ((x4.length:Int) / 2)):Int).toNat)).bind fun bt777=>((Fy.f k bt777.1 bt777.2.1 bt777.2.2.1 (x4.drop ((wrap64 ((x4.length:Int) / 2)):Int).toNat)).bind fun bt792=>((Gt.f k ct2 dd9 de0).bind fun bw2=>(if bw2=true then(if (ct2.length:Int)=(dd8.length:Int) then((Ft.f k bt792.1 bt792.2.1 bt792.2.2.1 ct2 dd9 de0).bind fun bw3=>(if bw3=true then(some ((wrap64 (bt777.2.2.2 + bt792.2.2.2)) == x6)) else(some false))) else(some false)) else(some false))))) else(none)) else(none))
end
def Fd.f (k:Nat) (l0:List Int):Option (Bool):=if (l0.length:Int) > 1048576 then(some true) else((Gn.f k l0).bind fun bt734=>((Fy.f k bt734.1 bt734.2.1 bt734.2.2.1 bt734.2.2.2).bind fun bt747=>((Fr.f k bt734.1 bt734.2.1 bt734.2.2.1 bt734.2.2.2).bind fun bt758=>((Ft.f k bt747.1 bt747.2.1 bt747.2.2.1 bt758.1 bt758.2.1 bt758.2.2.1).bind fun ed7=>(if ed7=true then(Fd.j0 k bt734.2.2.2 bt747.2.2.2 (bt747.2.2.2 != bt758.2.2.2) bt734.1 bt734.2.1 bt734.2.2.1 bt747.1 bt747.2.1 bt747.2.2.1) else(Fd.j0 k bt734.2.2.2 bt747.2.2.2 true bt734.1 bt734.2.1 bt734.2.2.1 bt747.1 bt747.2.1 bt747.2.2.1))))))
def Fd.T11:Bool × List (List Nat × List Nat):=(true,[([],[]),([],[]),([],[]),([1,2],[1,2]),([0,3],[0,3]),([4],[4]),([5],[5]),([5],[5]),([],[]),([8,6,4,0,1,2,3,4,5,6,8],[6,8]),([7,9,0,1,2,3,4,5,6,7,8,9],[7])])
def Fd.B11:List Nat:=[0,0,0,6,15,31,63,63,0,383,1023]
theorem Fd.tab11:rtab .any (opsOf Try.f14 11)=Fd.T11:=by kernel_rfl
theorem Fd.bits11:waitsOk Fd.T11.2 Fd.B11=true:=by kernel_rfl
def Fd.T12:Bool × List (List Nat × List Nat):=(true,[([],[]),([],[]),([],[]),([1,2],[1,2]),([0,3],[0,3]),([4],[4]),([5],[5]),([5],[5]),([],[]),([8,6,4,0,1,2,3,4,5,6,8],[6,8]),([7,9,0,1,2,3,4,5,6,7,8,9],[7])])
def Fd.B12:List Nat:=[0,0,0,6,15,31,63,63,0,383,1023]
theorem Fd.tab12:rtab .any (opsOf Try.f14 12)=Fd.T12:=by kernel_rfl
theorem Fd.bits12:waitsOk Fd.T12.2 Fd.B12=true:=by kernel_rfl
theorem cn {p:Prop} (h:p:=by repeat(first|(with_reducible first|exact HB.out|apply G3|apply G2|apply G1|refine G0 ?_ ma3.out|refine G0 ?_ ma4.out|refine G0 ?_ ma5.out|refine G0 ?_ xr.out|refine G0 ?_ xt.out)|exact HB.out)):p:=h
theorem Fd.pr {p:Prop} (h:p:=by(exfalso;first|(rw[hrt] at H;simp at H;done)|(rw[hrt,Fd.j0.eq_def] at H;split at H <;> (simp at H;done))|(rw[hrt,Fd.j1.eq_def] at H;split at H <;> (simp at H;done)))):p:=h
theorem Fd.calls.z0 {p:Prop} (h:p:=by exact norm_ (g8_) (hCont (gx,jn,np,ac) _ ⟨hHeld,(ra_ cv),(sa_ cz),(ra_ dj),(ra_ cb),(ra_ bp),(sa_ bt),(qa_ b6),(ra_ bq),(sa_ bu),(qa_ b8),(ra_ bv),(sa_ b9),(qa_ cj),(uB_ bi),(uB_ b3),(uB_ b7),(uB_ bh),yq.out,xr.out,gh.out,n0.out,mg.out,nq.out,n4.out,o9.out,(cn)⟩)):p:=h
theorem Fd.calls.z1 {p:Prop} (h:p:=by exact norm_ (g8_) (hCont (fq,im,l4,ar) _ ⟨hHeld,(ra_ cv),(sa_ cz),(ra_ dj),(ra_ lu),(sa_ lv),(ra_ lw),(ra_ cb),(ra_ bp),(sa_ bt),(qa_ b6),(ra_ bq),(sa_ bu),(qa_ b8),(ra_ bv),(sa_ b9),(qa_ cj),(uB_ bi),(uB_ b3),(uB_ b7),(uB_ bh),(uB_ ct),yr.out,xt.out,ms.out,n5.out,mh.out,nr.out,m7.out,od.out,gj.out,oe.out,(cn)⟩)):p:=h
set_option maxHeartbeats 8000000 in
set_option maxRecDepth 100000 in
theorem Fd.calls (k:Nat) (A0:Option Addr) (c0:Nat) (l0:List Int) (r:Bool) (hrt:r=true) (w:World) (gq:Kd.C (Kd.int .u8) w A0 l0.length l0) (i2:l0.length<=c0) (h:Fd.f k l0=some r) :
  Calls Try.prog 14 #[.slice A0 l0.length c0] w fun e w'=>e = .returned (.bool r)/\Below w.heap.size w w':=by
 have hu28:=Try.underlying28
 have ks:=A_ gq
 have uc:=A_ i2
 clear gq i2
 have HB:=A_ (Below.refl w.heap.size w)
 have H:=h
 unfold Fd.f at H
 clear h
 by_cases c2:(l0.length:Int) > 1048576
 ·rw[if_pos c2] at H
  have bn2:=decide_eq_true c2
  have ea6:decide (1048576 < l0.length)=true:=decide_eq_true (by omega)
  clear c2
  obtain rfl:=Option.some.inj H
  go_enter Try.func14,Try.ntmps14
  go_wp2
  go_ret
  exact⟨g4_,cn⟩
 rw[if_neg c2] at H
 have bn2:=decide_eq_false c2
 have ea6:decide (1048576 < l0.length)=false:=decide_eq_false (by omega)
 clear c2
 replace H:=Option.bind_eq_some_iff.mp H
 obtain⟨⟨al,a7,bo,dm⟩,nu,H⟩:=H
 try dsimp only at H
 have A3:=A_ nu
 clear nu
 replace H:=Option.bind_eq_some_iff.mp H
 obtain⟨⟨am,bb,bs,az7⟩,r8,H⟩:=H
 try dsimp only at H
 have A4:=A_ r8
 clear r8
 replace H:=Option.bind_eq_some_iff.mp H
 obtain⟨⟨au,bd,b5,jb3⟩,A50,H⟩:=H
 try dsimp only at H
 have A5:=A_ A50
 clear A50
 have HC6:=A_ H
 clear H
 go_enter Try.func14,Try.ntmps14
 go_upto_region 6 with(first|((with_reducible refine gc_ 64 ?_);refine gl_ 19 Try.func64 #[.slice A0 l0.length c0] ?_;(refine(Gn.calls k _ _ l0 al a7 bo dm _ (cu_ ks.out) uc.out A3.out).mono ?_);rintro e w7 ⟨on2,on3,on4,on5,rfl,ae,ax,bm,ho3,hb⟩;refine⟨_,rfl,?_⟩;have yn:=A_ (Kd.R_lower ae (Gz (cn)));have yo:=A_ (Kd.S_lower ax (Gz (cn)));have yp:=A_ (Kd.Q_lower bm (Gz (cn)));have vy:=A_ (Kd.R_lower ho3 (Gz (cn)));replace HB:=hs_ (cn) hb)|((with_reducible refine gd_ 3 ?_);(try(refine gate_guard (by rfl) ?_;dsimp only));refine bx_ (N:=3) #[.slice none 0 0, .slice none 0 0, .slice none 0 0] 28 ?_;intro ch hg w8 hbox hb;replace yn:=rbs_ yn hb;replace yo:=sbs_ yo hb;replace yp:=qbs_ yp hb;replace vy:=rbs_ vy hb;have bi:=A_ (hbox);have on6:=A_ ((g7_:w.heap.size<=ch));have ma3:=on6;replace HB:=hs_ (cn) hb;clear hb hbox hg;obtain⟨ak,aj,eo9⟩:=Kd.R_slice yn.out;subst eo9;obtain⟨aj7,aj8,jb4,aj9,ak0,jb5⟩:=blk3_ bi;obtain⟨a9,a8,ea8⟩:=Kd.S_slice yo.out;subst ea8;obtain⟨cd,ca,ma6,_⟩:=Kd.Q_slice yp.out;subst ma6;obtain⟨dz,de,bc8⟩:=Kd.R_slice vy.out;subst bc8)|((with_reducible refine gc_ 61 ?_);refine gl_ 25 Try.func61 #[.agg #[.slice ak al.length aj, .slice a9 a7.length a8, .slice cd bo.length ca], .slice dz dm.length de] ?_;(refine(Fy.calls k _ _ al _ _ a7 _ _ bo _ _ dm am bb bs az7 _ (c2R_ yn) (lR_ yn) (c2S_ yo) (lS_ yo) (c2Q_ yp) (lQ_ yp) (c2R_ vy) (lR_ vy) A4.out).mono ?_);rintro e w14 ⟨on7,on8,on9,rfl,ae,ax,bm,hb⟩;refine⟨_,rfl,?_⟩;replace vy:=rbs_ vy hb;have an9:=A_ (Kd.R_lower ae (Gz (cn)));have ao0:=A_ (Kd.S_lower ax (Gz (cn)));have aj4:=A_ (Kd.R_lower bm (Gz (cn)));replace yn:=rbs_ yn hb;replace yo:=sbs_ yo hb;replace yp:=qbs_ yp hb;replace bi:=A_ (G8 (g:=ch) (o:=.cells #[.slice ak al.length aj, .slice a9 a7.length a8, .slice cd bo.length ca] 28 (0,0)) (ba_ bi) hb);replace HB:=hs_ (cn) hb)|((with_reducible refine gd_ 5 ?_);(try(refine gate_guard (by rfl) ?_;dsimp only));refine bx_ (N:=5) #[.slice none 0 0, .slice none 0 0, .slice none 0 0] 28 ?_;intro da hg w15 hbox hb;replace yn:=rbs_ yn hb;replace yo:=sbs_ yo hb;replace yp:=qbs_ yp hb;replace vy:=rbs_ vy hb;replace an9:=rbs_ an9 hb;replace ao0:=sbs_ ao0 hb;replace aj4:=rbs_ aj4 hb;have b3:=A_ (hbox);have oo0:=A_ ((g7_:w.heap.size<=da));have ma4:=oo0;replace HB:=hs_ (cn) hb;have ao1:=nl_ bi hg;have bh2:=nr_ bi hg;replace bi:=bb_ bi hb;clear hb hbox hg;obtain⟨aq,ap,bq3⟩:=Kd.R_slice an9.out;subst bq3;have gg6:=bh2.out;have gg7:=ao1.out;obtain⟨bb3,bb4,cp8,bb5,bb6,cp9⟩:=blk3_ b3;obtain⟨bc,ba,yd⟩:=Kd.S_slice ao0.out;subst yd;obtain⟨bz,br,ac0⟩:=Kd.R_slice aj4.out;subst ac0;obtain⟨aa2,aa3,bo1,ad7,aa4,bo2⟩:=blk3_ bi)|((with_reducible refine gc_ 59 ?_);refine gl_ 31 Try.func59 #[.agg #[.slice ak al.length aj, .slice a9 a7.length a8, .slice cd bo.length ca], .slice dz dm.length de] ?_;(refine(Fr.calls k _ _ al _ _ a7 _ _ bo _ _ dm au bd b5 jb3 _ (c2R_ yn) (lR_ yn) (c2S_ yo) (lS_ yo) (c2Q_ yp) (lQ_ yp) (c2R_ vy) (lR_ vy) A5.out).mono ?_);rintro e yu ⟨oo1,oo2,oo3,rfl,ae,ax,bm,hb⟩;refine⟨_,rfl,?_⟩;replace vy:=rbs_ vy hb;have bl7:=A_ (Kd.R_lower ae (Gz (cn)));have bl8:=A_ (Kd.S_lower ax (Gz (cn)));have bl9:=A_ (Kd.Q_lower bm (Gz (cn)));replace yn:=rbs_ yn hb;replace yo:=sbs_ yo hb;replace yp:=qbs_ yp hb;replace an9:=rbs_ an9 hb;replace ao0:=sbs_ ao0 hb;replace aj4:=rbs_ aj4 hb;replace bi:=A_ (G8 (g:=ch) (o:=.cells #[.slice ak al.length aj, .slice a9 a7.length a8, .slice cd bo.length ca] 28 (0,0)) (ba_ bi) hb);replace b3:=A_ (G8 (g:=da) (o:=.cells #[.slice aq am.length ap, .slice bc bb.length ba, .slice bz bs.length br] 28 (0,0)) (ba_ b3) hb);replace HB:=hs_ (cn) hb)|((with_reducible refine gd_ 7 ?_);(try(refine gate_guard (by rfl) ?_;dsimp only));refine bx_ (N:=7) #[.slice none 0 0, .slice none 0 0, .slice none 0 0] 28 ?_;intro cq hg w23 hbox hb;replace yn:=rbs_ yn hb;replace yo:=sbs_ yo hb;replace yp:=qbs_ yp hb;replace vy:=rbs_ vy hb;replace an9:=rbs_ an9 hb;replace ao0:=sbs_ ao0 hb;replace aj4:=rbs_ aj4 hb;replace bl7:=rbs_ bl7 hb;replace bl8:=sbs_ bl8 hb;replace bl9:=qbs_ bl9 hb;have b7:=A_ (hbox);have oo4:=A_ ((g7_:w.heap.size<=cq));have ma5:=oo4;replace HB:=hs_ (cn) hb;have ao2:=nl_ bi hg;have cf9:=nr_ bi hg;replace bi:=bb_ bi hb;have aj5:=nl_ b3 hg;have bw4:=nr_ b3 hg;replace b3:=bb_ b3 hb;clear hb hbox hg;obtain⟨aw,ag,bi6⟩:=Kd.R_slice bl7.out;subst bi6;have fv6:=cf9.out;have fv7:=ao2.out;have eq6:=bw4.out;have eq7:=aj5.out;obtain⟨br4,br5,dt7,br6,br7,dt8⟩:=blk3_ b7;obtain⟨bg,bf,bo4⟩:=Kd.S_slice bl8.out;subst bo4;obtain⟨ci,cg,bd4,_⟩:=Kd.Q_slice bl9.out;subst bd4))
 (try simp only[Act.put,List.setIfInBounds_toArray,List.set_cons_zero,List.set_cons_succ])
 go_cut [42] (fun v42 wc=>∃(kq:Nat) (fd0:Bool),v42 = .bool fd0/\Gx (Fd.j0 kq dm az7 fd0 al a7 bo am bb bs=some r)/\Gx (kq<=k)/\Gx (Kd.R k69 69 wc w.heap.size (fun _=>True) (.slice dz dm.length de) dm)/\Gx (Kd.R (Kd.int .i64) 3 wc w.heap.size (fun _=>True) (.slice ak al.length aj) al)/\Gx (Kd.S (Kd.slice 3 (Kd.int .i64)) 22 wc w.heap.size (fun _=>True) (.slice a9 a7.length a8) a7)/\Gx (Kd.Q k25 25 wc w.heap.size (fun _=>True) (.slice cd bo.length ca) bo)/\Gx (Kd.R (Kd.int .i64) 3 wc w.heap.size (fun _=>True) (.slice aq am.length ap) am)/\Gx (Kd.S (Kd.slice 3 (Kd.int .i64)) 22 wc w.heap.size (fun _=>True) (.slice bc bb.length ba) bb)/\Gx (Kd.Q k25 25 wc w.heap.size (fun _=>True) (.slice bz bs.length br) bs)/\Gx (Kd.R (Kd.int .i64) 3 wc w.heap.size (fun _=>True) (.slice aw au.length ag) au)/\Gx (Kd.S (Kd.slice 3 (Kd.int .i64)) 22 wc w.heap.size (fun _=>True) (.slice bg bd.length bf) bd)/\Gx (Kd.Q k25 25 wc w.heap.size (fun _=>True) (.slice ci b5.length cg) b5)/\Gx (hc_ wc ch #[(.slice ak al.length aj),(.slice a9 a7.length a8),(.slice cd bo.length ca)] 28)/\Gx (hc_ wc da #[(.slice aq am.length ap),(.slice bc bb.length ba),(.slice bz bs.length br)] 28)/\Gx (hc_ wc cq #[(.slice aw au.length ag),(.slice bg bd.length bf),(.slice ci b5.length cg)] 28)/\Gx (Below w.heap.size w wc))
 case first=>
  have H:=HC6.out
  clear HC6
  obtain⟨ed7,nu,H⟩:=bind_ H
  by_cases l9:ed7=true
  case neg=>
   replace l9:=Bool.eq_false_iff.mpr l9
   subst l9
   replace H:=ifn_ H
   exact Fd.pr
  subst l9
  replace H:=ifp_ H
  have H':=A_ H
  clear H
  have cb8:=bh2.out
  have cb9:=ao1.out
  have bo5:=aj5.out
  have bo6:=bw4.out
  obtain⟨dl5,dl6,jb6,dl7,dl8,jb7⟩:=blk3_ b3
  have ij8:=cf9.out
  have ij9:=ao2.out
  obtain⟨ey0,ey1,jb8,ey2,ey3,jb9⟩:=blk3_ b7
  go_wp2_with (first|((with_reducible refine gc_ 21 ?_);refine gl_ 36 Try.func21 #[.agg #[.slice aq am.length ap, .slice bc bb.length ba, .slice bz bs.length br], .agg #[.slice aw au.length ag, .slice bg bd.length bf, .slice ci b5.length cg]] ?_;(refine(Ft.calls k _ _ am _ _ bb _ _ bs _ _ au _ _ bd _ _ b5 true _ (c2R_ an9) (lR_ an9) (c2S_ ao0) (lS_ ao0) (c2R_ aj4) (lR_ aj4) (c2R_ bl7) (lR_ bl7) (c2S_ bl8) (lS_ bl8) (c2Q_ bl9) (lQ_ bl9) nu.out).mono ?_);rintro e ta ⟨rfl,hb⟩;refine⟨_,rfl,?_⟩;replace yn:=rbs_ yn hb;replace yo:=sbs_ yo hb;replace yp:=qbs_ yp hb;replace vy:=rbs_ vy hb;replace an9:=rbs_ an9 hb;replace ao0:=sbs_ ao0 hb;replace aj4:=rbs_ aj4 hb;replace bl7:=rbs_ bl7 hb;replace bl8:=sbs_ bl8 hb;replace bl9:=qbs_ bl9 hb;replace bi:=A_ (G8 (g:=ch) (o:=.cells #[.slice ak al.length aj, .slice a9 a7.length a8, .slice cd bo.length ca] 28 (0,0)) (ba_ bi) hb);replace b3:=A_ (G8 (g:=da) (o:=.cells #[.slice aq am.length ap, .slice bc bb.length ba, .slice bz bs.length br] 28 (0,0)) (ba_ b3) hb);replace b7:=A_ (G8 (g:=cq) (o:=.cells #[.slice aw au.length ag, .slice bg bd.length bf, .slice ci b5.length cg] 28 (0,0)) (ba_ b7) hb);replace HB:=hs_ (cn) hb))
  go_meet
  case rel=>exact⟨_,((az7 != jb3)),(g3_),H',⟨g9_⟩,⟨ra_ vy⟩,⟨ra_ yn⟩,⟨sa_ yo⟩,⟨qa_ yp⟩,⟨ra_ an9⟩,⟨sa_ ao0⟩,⟨Kd.Q_of_R (ra_ aj4)⟩,⟨ra_ bl7⟩,⟨sa_ bl8⟩,⟨qa_ bl9⟩,⟨uB_ bi⟩,⟨uB_ b3⟩,⟨uB_ b7⟩,⟨cn⟩⟩
 clear HC6
 obtain⟨kq,fd0,rfl,HA,HJ5,cb,bp,bt,b6,bq,bu,b8,bv,b9,cj,bi,b3,b7,HB⟩:=hcut
 cases kq with
 | zero=>exact absurd HA.out (by simp[Fd.j0])
 | succ kj5=>?_
 have H:=HA.out
 clear HA
 simp only[Fd.j0] at H
 by_cases c44:fd0=true
 ·subst c44
  replace H:=ifp_ H
  exact Fd.pr
 replace c44:=Bool.eq_false_iff.mpr c44
 subst c44
 replace H:=ifn_ H
 have gp6:=A_ H
 clear H
 go_upto_region 8 with(fail)
 go_cut [50] (fun v50 wc=>∃(kq:Nat) (fd1:Bool),v50 = .bool fd1/\Gx (Fd.j1 kq dm az7 fd1 al a7 bo am bb bs=some r)/\Gx (kq<=kj5)/\Gx (Kd.R k69 69 wc w.heap.size (fun _=>True) (.slice dz dm.length de) dm)/\Gx (Kd.R (Kd.int .i64) 3 wc w.heap.size (fun _=>True) (.slice ak al.length aj) al)/\Gx (Kd.S (Kd.slice 3 (Kd.int .i64)) 22 wc w.heap.size (fun _=>True) (.slice a9 a7.length a8) a7)/\Gx (Kd.Q k25 25 wc w.heap.size (fun _=>True) (.slice cd bo.length ca) bo)/\Gx (Kd.R (Kd.int .i64) 3 wc w.heap.size (fun _=>True) (.slice aq am.length ap) am)/\Gx (Kd.S (Kd.slice 3 (Kd.int .i64)) 22 wc w.heap.size (fun _=>True) (.slice bc bb.length ba) bb)/\Gx (Kd.Q k25 25 wc w.heap.size (fun _=>True) (.slice bz bs.length br) bs)/\Gx (Kd.R (Kd.int .i64) 3 wc w.heap.size (fun _=>True) (.slice aw au.length ag) au)/\Gx (Kd.S (Kd.slice 3 (Kd.int .i64)) 22 wc w.heap.size (fun _=>True) (.slice bg bd.length bf) bd)/\Gx (Kd.Q k25 25 wc w.heap.size (fun _=>True) (.slice ci b5.length cg) b5)/\Gx (hc_ wc ch #[(.slice ak al.length aj),(.slice a9 a7.length a8),(.slice cd bo.length ca)] 28)/\Gx (hc_ wc da #[(.slice aq am.length ap),(.slice bc bb.length ba),(.slice bz bs.length br)] 28)/\Gx (hc_ wc cq #[(.slice aw au.length ag),(.slice bg bd.length bf),(.slice ci b5.length cg)] 28)/\Gx (Below w.heap.size w wc))
 case first=>
  have H:=gp6.out
  clear gp6
  obtain⟨gp3,A46,H⟩:=bind_ H
  by_cases c47:gp3=true
  ·subst c47
   replace H:=ifp_ H
   have H':=A_ H
   clear H
   have el9:=ao1.out
   have em0:=bh2.out
   have er7:=ao2.out
   have er8:=cf9.out
   obtain⟨hl8,hl9,ma7,hm2,hm3,ma8⟩:=blk3_ bi
   go_wp2_with (first|((with_reducible refine gc_ 28 ?_);refine gl_ 44 Try.func28 #[.agg #[.slice ak al.length aj, .slice a9 a7.length a8, .slice cd bo.length ca]] ?_;(refine(Fw.calls kj5 _ _ al _ _ a7 _ _ bo true _ (cR_ bp) (lR_ bp) (cS_ bt) (lS_ bt) (cQ_ b6) (lQ_ b6) A46.out).mono ?_);rintro e w51 ⟨rfl,hb⟩;refine⟨_,rfl,?_⟩;replace cb:=rbs_ cb hb;replace bp:=rbs_ bp hb;replace bt:=sbs_ bt hb;replace b6:=qbs_ b6 hb;replace bq:=rbs_ bq hb;replace bu:=sbs_ bu hb;replace b8:=qbs_ b8 hb;replace bv:=rbs_ bv hb;replace b9:=sbs_ b9 hb;replace cj:=qbs_ cj hb;replace bi:=bb_ bi hb;replace b3:=bb_ b3 hb;replace b7:=bb_ b7 hb;replace HB:=hs_ (cn) hb))
   go_meet
   case rel=>exact⟨_,(decide ((dm.length:Int) > 40)),(g3_),H',⟨g135_⟩,⟨ra_ cb⟩,⟨ra_ bp⟩,⟨sa_ bt⟩,⟨qa_ b6⟩,⟨ra_ bq⟩,⟨sa_ bu⟩,⟨qa_ b8⟩,⟨ra_ bv⟩,⟨sa_ b9⟩,⟨qa_ cj⟩,⟨uB_ bi⟩,⟨uB_ b3⟩,⟨uB_ b7⟩,⟨cn⟩⟩
  replace c47:=Bool.eq_false_iff.mpr c47
  subst c47
  replace H:=ifn_ H
  have H':=A_ H
  clear H
  have hy2:=ao1.out
  have hy3:=bh2.out
  have hy4:=ao2.out
  have hy5:=cf9.out
  obtain⟨is1,is2,is3,is4,is5,is6⟩:=blk3_ bi
  go_wp2_with (first|((with_reducible refine gc_ 28 ?_);refine gl_ 44 Try.func28 #[.agg #[.slice ak al.length aj, .slice a9 a7.length a8, .slice cd bo.length ca]] ?_;(refine(Fw.calls kj5 _ _ al _ _ a7 _ _ bo false _ (cR_ bp) (lR_ bp) (cS_ bt) (lS_ bt) (cQ_ b6) (lQ_ b6) A46.out).mono ?_);rintro e w55 ⟨rfl,hb⟩;refine⟨_,rfl,?_⟩;replace cb:=rbs_ cb hb;replace bp:=rbs_ bp hb;replace bt:=sbs_ bt hb;replace b6:=qbs_ b6 hb;replace bq:=rbs_ bq hb;replace bu:=sbs_ bu hb;replace b8:=qbs_ b8 hb;replace bv:=rbs_ bv hb;replace b9:=sbs_ b9 hb;replace cj:=qbs_ cj hb;replace bi:=bb_ bi hb;replace b3:=bb_ b3 hb;replace b7:=bb_ b7 hb;replace HB:=hs_ (cn) hb))
  go_meet
  case rel=>exact⟨_,(true),(g3_),H',⟨g135_⟩,⟨ra_ cb⟩,⟨ra_ bp⟩,⟨sa_ bt⟩,⟨qa_ b6⟩,⟨ra_ bq⟩,⟨sa_ bu⟩,⟨qa_ b8⟩,⟨ra_ bv⟩,⟨sa_ b9⟩,⟨qa_ cj⟩,⟨uB_ bi⟩,⟨uB_ b3⟩,⟨uB_ b7⟩,⟨cn⟩⟩
 clear gp6
 obtain⟨kq,fd1,rfl,HA,HJ44,cb,bp,bt,b6,bq,bu,b8,bv,b9,cj,bi,b3,b7,HB⟩:=hcut
 cases kq with
 | zero=>exact absurd HA.out (by simp[Fd.j1])
 | succ kj44=>?_
 have H:=HA.out
 clear HA
 simp only[Fd.j1] at H
 by_cases c56:fd1=true
 ·subst c56
  replace H:=ifp_ H
  by_cases u6:az7=0
  case neg=>
   rw[if_neg u6] at H
   exact Fd.pr
  rw[if_pos u6] at H
  have iy9:(az7 == 0)=true:=beq_iff_eq.mpr u6
  have iz0:(az7 != 0)=false:=bne_eq_false_iff_eq.mpr u6
  clear u6
  obtain⟨gp4,A58,H⟩:=bind_ H
  by_cases c59:gp4=true
  ·subst c59
   replace H:=ifp_ H
   obtain⟨gp5,A60,H⟩:=bind_ H
   obtain rfl:=Option.some.inj H
   have is7:=bh2.out
   have is8:=ao1.out
   have ey9:=aj5.out
   have ez0:=bw4.out
   obtain⟨es8,es9,hy8,et0,et1,hy9⟩:=blk3_ b3
   go_wp2_with (first|(go_at_call 22;(refine(Gw.calls kj44 _ _ am _ _ bb _ _ bs true _ (cR_ bq) (lR_ bq) (cS_ bu) (lS_ bu) (cQ_ b8) (lQ_ b8) A58.out).mono ?_);rintro e w64 ⟨rfl,hb⟩;replace cb:=rbs_ cb hb;replace bp:=rbs_ bp hb;replace bt:=sbs_ bt hb;replace b6:=qbs_ b6 hb;replace bq:=rbs_ bq hb;replace bu:=sbs_ bu hb;replace b8:=qbs_ b8 hb;replace bv:=rbs_ bv hb;replace b9:=sbs_ b9 hb;replace cj:=qbs_ cj hb;replace bi:=bb_ bi hb;replace b3:=bb_ b3 hb;replace b7:=bb_ b7 hb;replace HB:=hs_ (cn) hb)|(go_at_call 23;(with_reducible refine(Gp.calls kj44  gp5 _ A60.out).mono ?_);rintro e w65 ⟨rfl,hb⟩;replace cb:=rbs_ cb hb;replace bp:=rbs_ bp hb;replace bt:=sbs_ bt hb;replace b6:=qbs_ b6 hb;replace bq:=rbs_ bq hb;replace bu:=sbs_ bu hb;replace b8:=qbs_ b8 hb;replace bv:=rbs_ bv hb;replace b9:=sbs_ b9 hb;replace cj:=qbs_ cj hb;replace bi:=bb_ bi hb;replace b3:=bb_ b3 hb;replace b7:=bb_ b7 hb;replace HB:=hs_ (cn) hb))
   go_ret
   exact⟨g4_,cn⟩
  replace c59:=Bool.eq_false_iff.mpr c59
  subst c59
  replace H:=ifn_ H
  exact Fd.pr
 replace c56:=Bool.eq_false_iff.mpr c56
 subst c56
 replace H:=ifn_ H
 obtain⟨ji70,hji70⟩:∃j_:Int,(wrap64 ((dm.length:Int) / 2))=j_:=⟨_,rfl⟩
 first|rw[hji70] at H|simp only[hji70] at H
 have hji70w:(IntKind.i64.wrap ((dm.length:Int) / 2))=ji70:=(i64_w _).trans hji70
 obtain⟨c71,H⟩:=pos_ H
 have iz5:=eq_true c71
 have iz6:=decide_eq_true c71
 clear c71
 obtain⟨c72,H⟩:=pos_ H
 have ly0:=eq_true c72
 have ly1:=decide_eq_true c72
 clear c72
 obtain⟨sk,hyq⟩:∃y_:List (S69),y_=(dm.take ((ji70):Int).toNat):=⟨_,rfl⟩
 replace H:((Fy.f kj44 al a7 bo sk).bind fun bt777=>((Fy.f kj44 bt777.1 bt777.2.1 bt777.2.2.1 (dm.drop ((ji70):Int).toNat)).bind fun bt792=>((Gt.f kj44 am bb bs).bind fun bw2=>(if bw2=true then(if (am.length:Int)=(al.length:Int) then((Ft.f kj44 bt792.1 bt792.2.1 bt792.2.2.1 am bb bs).bind fun bw3=>(if bw3=true then(some ((wrap64 (bt777.2.2.2 + bt792.2.2.2)) == az7)) else(some false))) else(some false)) else(some false)))))=some r:=qh_
 have ed8:=A_ hyq
 clear hyq
 replace H:=Option.bind_eq_some_iff.mp H
 obtain⟨⟨an,az,be,vz⟩,jc0,H⟩:=H
 try dsimp only at H
 have A73:=A_ jc0
 clear jc0
 have oo5:=eq_true (od_:0<=(ji70))
 have oo6:=eq_true (od_:(ji70)<=(dm.length:Int))
 obtain⟨mr,hyq⟩:∃y_:List (S69),y_=(dm.drop ((ji70):Int).toNat):=⟨_,rfl⟩
 replace H:((Fy.f kj44 an az be mr).bind fun bt792=>((Gt.f kj44 am bb bs).bind fun bw2=>(if bw2=true then(if (am.length:Int)=(al.length:Int) then((Ft.f kj44 bt792.1 bt792.2.1 bt792.2.2.1 am bb bs).bind fun bw3=>(if bw3=true then(some ((wrap64 (vz + bt792.2.2.2)) == az7)) else(some false))) else(some false)) else(some false))))=some r:=qh_
 have ed9:=A_ hyq
 clear hyq
 replace H:=Option.bind_eq_some_iff.mp H
 obtain⟨⟨dn,dr,d6,xu⟩,jc1,H⟩:=H
 try dsimp only at H
 have A76:=A_ jc1
 clear jc1
 obtain⟨bw2,A77,H⟩:=bind_ H
 by_cases c78:bw2=true
 case neg=>
  replace c78:=Bool.eq_false_iff.mpr c78
  subst c78
  replace H:=ifn_ H
  exact Fd.pr
 subst c78
 replace H:=ifp_ H
 by_cases c79:(am.length:Int)=(al.length:Int)
 case neg=>
  rw[if_neg c79] at H
  exact Fd.pr
 rw[if_pos c79] at H
 have il6:((am.length:Int) == (al.length:Int))=true:=beq_iff_eq.mpr c79
 have ma9:((am.length:Int) != (al.length:Int))=false:=bne_eq_false_iff_eq.mpr c79
 have mb0:(am.length == al.length)=true:=by first|simpa using c79|(simp at c79 |-;omega)
 clear c79
 obtain⟨bw3,A80,H⟩:=bind_ H
 by_cases c81:bw3=true
 case neg=>
  replace c81:=Bool.eq_false_iff.mpr c81
  subst c81
  replace H:=ifn_ H
  exact Fd.pr
 subst c81
 replace H:=ifp_ H
 obtain rfl:=Option.some.inj H
 try go_wp2
 replace cb:=rd_ cb
 replace bp:=rd_ bp
 replace bt:=sd_ bt
 replace b6:=qd_ b6
 replace bq:=rd_ bq
 replace bu:=sd_ bu
 replace b8:=qd_ b8
 replace bv:=rd_ bv
 replace b9:=sd_ b9
 replace cj:=qd_ cj
 replace bi:=bd_ bi
 replace b3:=bd_ b3
 replace b7:=bd_ b7
 replace HB:=A_ (G1 HB.out)
 have q83:((ji70):Int)<=((dm.length:Int):Int):=od_
 obtain⟨i083,jc2,_,hsz83,_⟩:=info_parts info69
 have hroom83:dm.length<=de:=(Kd.R_reads' cb.out).2.1
 have hC83:Kd.C k69 _ dz dm.length dm:=(Kd.R_reads' cb.out).2.2
 have hcut83:=cut_to (P:=Try.prog) 78 69 .i64 Try.underlying78 jc2 dz dm.length de (ji70) (od_) q83 hroom83
 have gp7:=Kd.C_take (m:=((ji70):Int).toNat) hC83 (by omega)
 have hy83:sk.length=((ji70):Int).toNat:=(g172_)
 rw[<- ed8.out] at gp7
 rw[<- hy83] at hcut83
 have sl:=A_ gp7
 have bh3:=A_ (show sk.length<=de from by omega)
 clear gp7 hC83 hroom83 jc2 hsz83
 have KY83:=A_ hy83
 clear hy83
 have KL83:=A_ (show((ji70):Int).toNat<=dm.length from by omega)
 replace q83:=eq_true q83
 refine start_ (n:=11) (S:=fun w'=>w'.cell? ⟨ch,0,none⟩=some (.slice ak al.length aj)/\w'.cell? ⟨ch,1,none⟩=some (.slice a9 a7.length a8)/\w'.cell? ⟨ch,2,none⟩=some (.slice cd bo.length ca)) (ds:=[]) (tl_ 11 0) (g0_) rfl (g0_) ⟨(Gy bi.out 0).trans rfl,(Gy bi.out 1).trans rfl,(Gy bi.out 2).trans rfl⟩ (fun hHeld=>?_);refine Jl Fd.tab11 Fd.bits11 (fun HT_ HW_=>?_)
 generalize wc.drew=w82 at cb bp bt b6 bq bu b8 bv b9 cj bi b3 b7 HB sl hHeld |-
 refine pw_ 1 65 (tl_ 11 2) ?_
 refine pw_ 2 66 (tl_ 11 6) ?_
 refine pw_ 3 67 (tl_ 11 14) ?_
 refine tk3_ 0 64 (tl_ 11 15) hHeld ?_
 refine join_ (σ:=Value × Value × Value × Nat) 2 (tl_ 11 511) (fun s_=>[(68, .tuple #[.agg #[s_.1,s_.2.1,s_.2.2.1], .int .i64 vz]),(10, .pointer (some ⟨s_.2.2.2,0,none⟩)),(63, .tuple #[.agg #[s_.1,s_.2.1,s_.2.2.1], .int .i64 vz]),(69, .agg #[s_.1,s_.2.1,s_.2.2.1]),(70, .int .i64 vz)]) (fun s_ w'=>(w'.cell? ⟨ch,0,none⟩=some (.slice ak al.length aj)/\w'.cell? ⟨ch,1,none⟩=some (.slice a9 a7.length a8)/\w'.cell? ⟨ch,2,none⟩=some (.slice cd bo.length ca))/\(Kd.R (Kd.int .i64) 3 w' w.heap.size (fun _=>True) s_.1 an)/\(Kd.S (Kd.slice 3 (Kd.int .i64)) 22 w' w.heap.size (fun _=>True) s_.2.1 az)/\(Kd.R k25 25 w' w.heap.size (fun _=>True) s_.2.2.1 be)/\(Kd.R k69 69 w' w.heap.size (fun _=>True) (.slice dz dm.length de) dm)/\(Kd.R (Kd.int .i64) 3 w' w.heap.size (fun _=>True) (.slice ak al.length aj) al)/\(Kd.S (Kd.slice 3 (Kd.int .i64)) 22 w' w.heap.size (fun _=>True) (.slice a9 a7.length a8) a7)/\(Kd.Q k25 25 w' w.heap.size (fun _=>True) (.slice cd bo.length ca) bo)/\(Kd.R (Kd.int .i64) 3 w' w.heap.size (fun _=>True) (.slice aq am.length ap) am)/\(Kd.S (Kd.slice 3 (Kd.int .i64)) 22 w' w.heap.size (fun _=>True) (.slice bc bb.length ba) bb)/\(Kd.Q k25 25 w' w.heap.size (fun _=>True) (.slice bz bs.length br) bs)/\(Kd.R (Kd.int .i64) 3 w' w.heap.size (fun _=>True) (.slice aw au.length ag) au)/\(Kd.S (Kd.slice 3 (Kd.int .i64)) 22 w' w.heap.size (fun _=>True) (.slice bg bd.length bf) bd)/\(Kd.Q k25 25 w' w.heap.size (fun _=>True) (.slice ci b5.length cg) b5)/\(hc_ w' ch #[.slice ak al.length aj, .slice a9 a7.length a8, .slice cd bo.length ca] 28)/\(hc_ w' da #[.slice aq am.length ap, .slice bc bb.length ba, .slice bz bs.length br] 28)/\(hc_ w' cq #[.slice aw au.length ag, .slice bg bd.length bf, .slice ci b5.length cg] 28)/\(hc_ w' s_.2.2.2 #[.slice none 0 0, .slice none 0 0, .slice none 0 0] 28)/\(w.heap.size<=s_.2.2.2)/\(w.heap.size<=s_.2.2.2)/\(ch≠s_.2.2.2)/\(s_.2.2.2≠ch)/\(da≠s_.2.2.2)/\(s_.2.2.2≠da)/\(cq≠s_.2.2.2)/\(s_.2.2.2≠cq)/\(Below w.heap.size w w')) ?_ ?_
 rotate_left
 ·intro hCont
  refine two_ (i:=4) (j:=8) (Ni:=some 68) (Nj:=some 10) (tl_ 11 31) (tl_ 11 271) rfl rfl rfl rfl (two_of HT_.out (g0_)) (by decide) (by decide) (fun K hK=>?_) (fun K hK=>?_)
  ·skip
   refine goes_ Try.func61 (g0_) rfl #[.agg #[.slice ak al.length aj, .slice a9 a7.length a8, .slice cd bo.length ca], .slice dz sk.length de] (by rfl) rfl rfl (gM_) ?_
   refine(Fy.calls kj44 _ _ al _ _ a7 _ _ bo _ _ sk an az be vz _ (cR_ bp) (lR_ bp) (cS_ bt) (lS_ bt) (cQ_ b6) (lQ_ b6) (cu_ (g14_)) bh3.out A73.out).mono ?_
   rintro e w84 ⟨gx,jn,np,rfl,ae,ax,bm,hb⟩
   refine⟨_,rfl,?_⟩
   replace cb:=rbs_ cb hb
   have cv:=A_ (Kd.R_lower ae (Gz (cn)))
   have cz:=A_ (Kd.S_lower ax (Gz (cn)))
   have dj:=A_ (Kd.R_lower bm (Gz (cn)))
   replace bp:=rbs_ bp hb
   replace bt:=sbs_ bt hb
   replace b6:=qbs_ b6 hb
   replace bq:=rbs_ bq hb
   replace bu:=sbs_ bu hb
   replace b8:=qbs_ b8 hb
   replace bv:=rbs_ bv hb
   replace b9:=sbs_ b9 hb
   replace cj:=qbs_ cj hb
   replace bi:=bb_ bi hb
   replace b3:=bb_ b3 hb
   replace b7:=bb_ b7 hb
   replace sl:=A_ (Kd.C_below (g14_) hb)
   replace HB:=hs_ (cn) hb
   refine hK.out _ _ ⟨(Gy bi.out 0).trans rfl,(Gy bi.out 1).trans rfl,(Gy bi.out 2).trans rfl⟩ (fun hHeld=>?_)
   clear hK K
   refine nm_ ?_
   refine pw_ 5 63 (tl_ 11 63) ?_
   refine pw_ 6 69 (tl_ 11 127) ?_
   refine pw_ 7 70 (tl_ 11 255) ?_
   refine one_ (i:=8) (N:=some 10) (tl_ 11 511) rfl rfl (Jn HT_.out (g0_)) (by decide) (fun K hK=>?_)
   refine bs_ (N:=10) #[.slice none 0 0, .slice none 0 0, .slice none 0 0] 28 ?_
   intro ac hg w85 hbox hb
   replace cb:=rbs_ cb hb
   replace bp:=rbs_ bp hb
   replace bt:=sbs_ bt hb
   replace b6:=qbs_ b6 hb
   replace bq:=rbs_ bq hb
   replace bu:=sbs_ bu hb
   replace b8:=qbs_ b8 hb
   replace bv:=rbs_ bv hb
   replace b9:=sbs_ b9 hb
   replace cj:=qbs_ cj hb
   replace cv:=rbs_ cv hb
   replace cz:=sbs_ cz hb
   replace dj:=rbs_ dj hb
   replace sl:=A_ (Kd.C_below (g14_) hb)
   have bh:=A_ (hbox)
   have yq:=A_ ((g7_:w.heap.size<=ac))
   have xr:=yq
   replace HB:=hs_ (cn) hb
   have gh:=nl_ bi hg
   have n0:=nr_ bi hg
   replace bi:=bb_ bi hb
   have mg:=nl_ b3 hg
   have nq:=nr_ b3 hg
   replace b3:=bb_ b3 hb
   have n4:=nl_ b7 hg
   have o9:=nr_ b7 hg
   replace b7:=bb_ b7 hb
   clear hb hbox hg
   refine hK.out _ _ ⟨(Gy bi.out 0).trans rfl,(Gy bi.out 1).trans rfl,(Gy bi.out 2).trans rfl⟩ (fun hHeld=>?_)
   clear hK K
   refine nm_ ?_
   exact Fd.calls.z0
  skip
  refine bs_ (N:=10) #[.slice none 0 0, .slice none 0 0, .slice none 0 0] 28 ?_
  intro ac hg w84 hbox hb
  replace cb:=rbs_ cb hb
  replace bp:=rbs_ bp hb
  replace bt:=sbs_ bt hb
  replace b6:=qbs_ b6 hb
  replace bq:=rbs_ bq hb
  replace bu:=sbs_ bu hb
  replace b8:=qbs_ b8 hb
  replace bv:=rbs_ bv hb
  replace b9:=sbs_ b9 hb
  replace cj:=qbs_ cj hb
  replace sl:=A_ (Kd.C_below (g14_) hb)
  have bh:=A_ (hbox)
  have yq:=A_ ((g7_:w.heap.size<=ac))
  have xr:=yq
  replace HB:=hs_ (cn) hb
  have gh:=nl_ bi hg
  have n0:=nr_ bi hg
  replace bi:=bb_ bi hb
  have mg:=nl_ b3 hg
  have nq:=nr_ b3 hg
  replace b3:=bb_ b3 hb
  have n4:=nl_ b7 hg
  have o9:=nr_ b7 hg
  replace b7:=bb_ b7 hb
  clear hb hbox hg
  refine hK.out _ _ ⟨(Gy bi.out 0).trans rfl,(Gy bi.out 1).trans rfl,(Gy bi.out 2).trans rfl⟩ (fun hHeld=>?_)
  clear hK K
  refine nm_ ?_
  refine one_ (i:=4) (N:=some 68) (tl_ 11 287) rfl rfl (Jn HT_.out (g0_)) (by decide) (fun K hK=>?_)
  refine goes_ Try.func61 (g0_) rfl #[.agg #[.slice ak al.length aj, .slice a9 a7.length a8, .slice cd bo.length ca], .slice dz sk.length de] (by rfl) rfl rfl (gM_) ?_
  refine(Fy.calls kj44 _ _ al _ _ a7 _ _ bo _ _ sk an az be vz _ (cR_ bp) (lR_ bp) (cS_ bt) (lS_ bt) (cQ_ b6) (lQ_ b6) (cu_ (g14_)) bh3.out A73.out).mono ?_
  rintro e w85 ⟨gx,jn,np,rfl,ae,ax,bm,hb⟩
  refine⟨_,rfl,?_⟩
  replace cb:=rbs_ cb hb
  have cv:=A_ (Kd.R_lower ae (Gz (cn)))
  have cz:=A_ (Kd.S_lower ax (Gz (cn)))
  have dj:=A_ (Kd.R_lower bm (Gz (cn)))
  replace bp:=rbs_ bp hb
  replace bt:=sbs_ bt hb
  replace b6:=qbs_ b6 hb
  replace bq:=rbs_ bq hb
  replace bu:=sbs_ bu hb
  replace b8:=qbs_ b8 hb
  replace bv:=rbs_ bv hb
  replace b9:=sbs_ b9 hb
  replace cj:=qbs_ cj hb
  replace bi:=bb_ bi hb
  replace b3:=bb_ b3 hb
  replace b7:=bb_ b7 hb
  replace sl:=A_ (Kd.C_below (g14_) hb)
  replace bh:=bb_ bh hb
  replace HB:=hs_ (cn) hb
  refine hK.out _ _ ⟨(Gy bi.out 0).trans rfl,(Gy bi.out 1).trans rfl,(Gy bi.out 2).trans rfl⟩ (fun hHeld=>?_)
  clear hK K
  refine nm_ ?_
  refine pw_ 5 63 (tl_ 11 319) ?_
  refine pw_ 6 69 (tl_ 11 383) ?_
  refine pw_ 7 70 (tl_ 11 511) ?_
  exact Fd.calls.z0
 rintro⟨gx,jn,np,ac⟩ kx ⟨hS_,h0_,h1_,h2_,h3_,h4_,h5_,h6_,h7_,h8_,h9_,h10_,h11_,h12_,h13_,h14_,h15_,h16_,h17_,h18_,h19_,h20_,h21_,h22_,h23_,h24_,h25_⟩
 have cv:Gx (Kd.R (Kd.int .i64) 3 kx w.heap.size (fun _=>True) gx an):=⟨h0_⟩
 have cz:Gx (Kd.S (Kd.slice 3 (Kd.int .i64)) 22 kx w.heap.size (fun _=>True) jn az):=⟨h1_⟩
 have dj:Gx (Kd.R k25 25 kx w.heap.size (fun _=>True) np be):=⟨h2_⟩
 replace cb:Gx (Kd.R k69 69 kx w.heap.size (fun _=>True) (.slice dz dm.length de) dm):=⟨h3_⟩
 replace bp:Gx (Kd.R (Kd.int .i64) 3 kx w.heap.size (fun _=>True) (.slice ak al.length aj) al):=⟨h4_⟩
 replace bt:Gx (Kd.S (Kd.slice 3 (Kd.int .i64)) 22 kx w.heap.size (fun _=>True) (.slice a9 a7.length a8) a7):=⟨h5_⟩
 replace b6:Gx (Kd.Q k25 25 kx w.heap.size (fun _=>True) (.slice cd bo.length ca) bo):=⟨h6_⟩
 replace bq:Gx (Kd.R (Kd.int .i64) 3 kx w.heap.size (fun _=>True) (.slice aq am.length ap) am):=⟨h7_⟩
 replace bu:Gx (Kd.S (Kd.slice 3 (Kd.int .i64)) 22 kx w.heap.size (fun _=>True) (.slice bc bb.length ba) bb):=⟨h8_⟩
 replace b8:Gx (Kd.Q k25 25 kx w.heap.size (fun _=>True) (.slice bz bs.length br) bs):=⟨h9_⟩
 replace bv:Gx (Kd.R (Kd.int .i64) 3 kx w.heap.size (fun _=>True) (.slice aw au.length ag) au):=⟨h10_⟩
 replace b9:Gx (Kd.S (Kd.slice 3 (Kd.int .i64)) 22 kx w.heap.size (fun _=>True) (.slice bg bd.length bf) bd):=⟨h11_⟩
 replace cj:Gx (Kd.Q k25 25 kx w.heap.size (fun _=>True) (.slice ci b5.length cg) b5):=⟨h12_⟩
 replace bi:Gx (hc_ kx ch #[.slice ak al.length aj, .slice a9 a7.length a8, .slice cd bo.length ca] 28):=⟨h13_⟩
 replace b3:Gx (hc_ kx da #[.slice aq am.length ap, .slice bc bb.length ba, .slice bz bs.length br] 28):=⟨h14_⟩
 replace b7:Gx (hc_ kx cq #[.slice aw au.length ag, .slice bg bd.length bf, .slice ci b5.length cg] 28):=⟨h15_⟩
 have bh:Gx (hc_ kx ac #[.slice none 0 0, .slice none 0 0, .slice none 0 0] 28):=⟨h16_⟩
 have yq:Gx (w.heap.size<=ac):=⟨h17_⟩
 have xr:Gx (w.heap.size<=ac):=⟨h18_⟩
 have gh:Gx (ch≠ac):=⟨h19_⟩
 have n0:Gx (ac≠ch):=⟨h20_⟩
 have mg:Gx (da≠ac):=⟨h21_⟩
 have nq:Gx (ac≠da):=⟨h22_⟩
 have n4:Gx (cq≠ac):=⟨h23_⟩
 have o9:Gx (ac≠cq):=⟨h24_⟩
 replace HB:Gx (Below w.heap.size w kx):=⟨h25_⟩
 clear h0_ h1_ h2_ h3_ h4_ h5_ h6_ h7_ h8_ h9_ h10_ h11_ h12_ h13_ h14_ h15_ h16_ h17_ h18_ h19_ h20_ h21_ h22_ h23_ h24_ h25_
 have hHeld:kx.cell? ⟨ch,0,none⟩=some (.slice ak al.length aj)/\kx.cell? ⟨ch,1,none⟩=some (.slice a9 a7.length a8)/\kx.cell? ⟨ch,2,none⟩=some (.slice cd bo.length ca):=hS_
 obtain⟨er,es,jc3⟩:=Kd.R_slice cv.out
 (first|subst jc3|(injection jc3 with f1_ f2_ f3_;have f4_:=f1_.symm;have f5_:=f3_.symm;clear f1_ f2_ f3_;subst f4_;subst f5_))
 obtain⟨ex,ey,cz2⟩:=Kd.S_slice cz.out
 (first|subst cz2|(injection cz2 with f1_ f2_ f3_;have f4_:=f1_.symm;have f5_:=f3_.symm;clear f1_ f2_ f3_;subst f4_;subst f5_))
 obtain⟨ic,h9,du5⟩:=Kd.R_slice dj.out
 (first|subst du5|(injection du5 with f1_ f2_ f3_;have f4_:=f1_.symm;have f5_:=f3_.symm;clear f1_ f2_ f3_;subst f4_;subst f5_))
 refine norm_ (a':=?_) ?_ ?_
 rotate_left
 · exact sq_
 refine one_ (i:=9) (N:=none) (tl_ 11 1023) rfl rfl (Jn HT_.out (g0_)) (by decide) (fun K hK=>?_)
 have oo7:kx.cell? ⟨ac,0,none⟩=some (.slice none 0 0):=(Gy bh.out 0).trans rfl
 have oo8:=G7 bh.out 0
 have oo9:=gh.out
 have op0:=mg.out
 have op1:=n4.out
 have op2:=n0.out
 have op3:=nq.out
 have op4:=o9.out
 have op5:kx.cell? ⟨ac,1,none⟩=some (.slice none 0 0):=(Gy bh.out 1).trans rfl
 have op6:=G7 bh.out 1
 have oq3:kx.cell? ⟨ac,2,none⟩=some (.slice none 0 0):=(Gy bh.out 2).trans rfl
 have oq4:=G7 bh.out 2
 refine skip_ (w1:=?_) (by rfl) rfl ?_ ?_
 rotate_left
 ·go_simp
  rfl
 refine hK.out _ _ ⟨(cf_ gh ((cf_ gh ((cf_ gh (hHeld.1)))))),(cf_ gh ((cf_ gh ((cf_ gh (hHeld.2.1)))))),(cf_ gh ((cf_ gh ((cf_ gh (hHeld.2.2))))))⟩ (fun hHeld=>?_)
 clear hK K
 refine pw_ 10 11 (tl_ 11 2047) ?_
 refine done_ (done_of HT_.out (g0_)) ?_
 try go_wp2
 generalize hw_:(((kx.setCell ⟨ac,0,none⟩ (.slice er an.length es)).setCell ⟨ac,1,none⟩ (.slice ex az.length ey)).setCell ⟨ac,2,none⟩ (.slice ic be.length h9))=w93
 have n0_:Gx (Kd.R k69 69 w93 w.heap.size (fun _=>True) (.slice dz dm.length de) dm):=A_ (by rw[<- hw_];exact ra_ cb)
 have n1_:Gx (Kd.R (Kd.int .i64) 3 w93 w.heap.size (fun _=>True) (.slice ak al.length aj) al):=A_ (by rw[<- hw_];exact ra_ bp)
 have n2_:Gx (Kd.S (Kd.slice 3 (Kd.int .i64)) 22 w93 w.heap.size (fun _=>True) (.slice a9 a7.length a8) a7):=A_ (by rw[<- hw_];exact sa_ bt)
 have n3_:Gx (Kd.Q k25 25 w93 w.heap.size (fun _=>True) (.slice cd bo.length ca) bo):=A_ (by rw[<- hw_];exact qa_ b6)
 have n4_:Gx (Kd.R (Kd.int .i64) 3 w93 w.heap.size (fun _=>True) (.slice aq am.length ap) am):=A_ (by rw[<- hw_];exact ra_ bq)
 have n5_:Gx (Kd.S (Kd.slice 3 (Kd.int .i64)) 22 w93 w.heap.size (fun _=>True) (.slice bc bb.length ba) bb):=A_ (by rw[<- hw_];exact sa_ bu)
 have n6_:Gx (Kd.Q k25 25 w93 w.heap.size (fun _=>True) (.slice bz bs.length br) bs):=A_ (by rw[<- hw_];exact qa_ b8)
 have n7_:Gx (Kd.R (Kd.int .i64) 3 w93 w.heap.size (fun _=>True) (.slice aw au.length ag) au):=A_ (by rw[<- hw_];exact ra_ bv)
 have n8_:Gx (Kd.S (Kd.slice 3 (Kd.int .i64)) 22 w93 w.heap.size (fun _=>True) (.slice bg bd.length bf) bd):=A_ (by rw[<- hw_];exact sa_ b9)
 have n9_:Gx (Kd.Q k25 25 w93 w.heap.size (fun _=>True) (.slice ci b5.length cg) b5):=A_ (by rw[<- hw_];exact qa_ cj)
 have n10_:Gx (Kd.R (Kd.int .i64) 3 w93 w.heap.size (fun _=>True) (.slice er an.length es) an):=A_ (by rw[<- hw_];exact ra_ cv)
 have n11_:Gx (Kd.S (Kd.slice 3 (Kd.int .i64)) 22 w93 w.heap.size (fun _=>True) (.slice ex az.length ey) az):=A_ (by rw[<- hw_];exact sa_ cz)
 have n12_:Gx (Kd.R k25 25 w93 w.heap.size (fun _=>True) (.slice ic be.length h9) be):=A_ (by rw[<- hw_];exact ra_ dj)
 have n13_:Gx (hc_ w93 ch #[.slice ak al.length aj, .slice a9 a7.length a8, .slice cd bo.length ca] 28):=A_ (by rw[<- hw_];exact ba_ bi)
 have n14_:Gx (hc_ w93 da #[.slice aq am.length ap, .slice bc bb.length ba, .slice bz bs.length br] 28):=A_ (by rw[<- hw_];exact ba_ b3)
 have n15_:Gx (hc_ w93 cq #[.slice aw au.length ag, .slice bg bd.length bf, .slice ci b5.length cg] 28):=A_ (by rw[<- hw_];exact ba_ b7)
 have n16_:Gx (hc_ w93 ac #[.slice er an.length es, .slice ex az.length ey, .slice ic be.length h9] 28):=A_ (by rw[<- hw_];exact ba_ bh)
 have n17_:Gx (Below w.heap.size w w93):=A_ (by rw[<- hw_];exact cn)
 have cb:=n0_
 have bp:=n1_
 have bt:=n2_
 have b6:=n3_
 have bq:=n4_
 have bu:=n5_
 have b8:=n6_
 have bv:=n7_
 have b9:=n8_
 have cj:=n9_
 have cv:=n10_
 have cz:=n11_
 have dj:=n12_
 have bi:=n13_
 have b3:=n14_
 have b7:=n15_
 have bh:=n16_
 have HB:=n17_
 clear n0_ n1_ n2_ n3_ n4_ n5_ n6_ n7_ n8_ n9_ n10_ n11_ n12_ n13_ n14_ n15_ n16_ n17_
 clear hw_
 replace cb:=rd_ cb
 replace bp:=rd_ bp
 replace bt:=sd_ bt
 replace b6:=qd_ b6
 replace bq:=rd_ bq
 replace bu:=sd_ bu
 replace b8:=qd_ b8
 replace bv:=rd_ bv
 replace b9:=sd_ b9
 replace cj:=qd_ cj
 replace cv:=rd_ cv
 replace cz:=sd_ cz
 replace dj:=rd_ dj
 replace bi:=bd_ bi
 replace b3:=bd_ b3
 replace b7:=bd_ b7
 replace bh:=bd_ bh
 replace HB:=A_ (G1 HB.out)
 have q95:((ji70):Int)<=((dm.length:Int):Int):=od_
 obtain⟨i095,jc4,_,hsz95,_⟩:=info_parts info69
 have hroom95:dm.length<=de:=(Kd.R_reads' cb.out).2.1
 have hC95:Kd.C k69 _ dz dm.length dm:=(Kd.R_reads' cb.out).2.2
 have mb1:(0:Int)<=((ji70):Int):=od_
 have hcut95:=cut_from (P:=Try.prog) 78 69 .i64 Try.underlying78 jc4 4 hsz95 dz dm.length de (ji70) mb1 q95
 have ee0:=Kd.C_drop (m:=((ji70):Int).toNat) (c:=de) hC95 (by omega) hroom95
 obtain⟨A95,hA95⟩:∃A1,A1=(if de=((ji70):Int).toNat then dz else(dz:Option Addr).map (·.add (((ji70):Int).toNat * 4))):=⟨_,rfl⟩
 obtain⟨c95,gp8⟩:∃c1,c1=de - ((ji70):Int).toNat:=⟨_,rfl⟩
 have hy95:mr.length=dm.length - ((ji70):Int).toNat:=(g176_)
 rw[show(dm).drop ((ji70):Int).toNat=mr from ed9.out.symm] at ee0
 replace ee0:Kd.C k69 _ A95 mr.length mr:=(by rw[hA95];exact ee0)
 rw[<- hy95, <- hA95, <- gp8] at hcut95
 have sm:=A_ ee0
 have bh4:=A_ (show mr.length<=c95 from by rw[hy95,gp8];exact Nat.sub_le_sub_right hroom95 _)
 clear ee0 hC95 hroom95 jc4 hsz95 gp8
 have KY95:=A_ hy95
 have KA95:=A_ hA95
 clear hy95 hA95
 have KL95:=A_ (show((ji70):Int).toNat<=dm.length from by omega)
 replace q95:=eq_true q95
 refine start_ (n:=11) (S:=fun w'=>w'.cell? ⟨ac,0,none⟩=some (.slice er an.length es)/\w'.cell? ⟨ac,1,none⟩=some (.slice ex az.length ey)/\w'.cell? ⟨ac,2,none⟩=some (.slice ic be.length h9)) (ds:=[]) (tl_ 11 0) (g0_) rfl (g0_) ⟨(Gy bh.out 0).trans rfl,(Gy bh.out 1).trans rfl,(Gy bh.out 2).trans rfl⟩ (fun hHeld=>?_);refine Jl Fd.tab12 Fd.bits12 (fun HT_ HW_=>?_)
 generalize w93.drew=w94 at cb bp bt b6 bq bu b8 bv b9 cj cv cz dj bi b3 b7 bh HB sm hHeld |-
 refine pw_ 1 73 (tl_ 11 2) ?_
 refine pw_ 2 74 (tl_ 11 6) ?_
 refine pw_ 3 75 (tl_ 11 14) ?_
 refine tk3_ 0 72 (tl_ 11 15) hHeld ?_
 refine join_ (σ:=Value × Value × Value × Nat) 2 (tl_ 11 511) (fun s_=>[(76, .tuple #[.agg #[s_.1,s_.2.1,s_.2.2.1], .int .i64 xu]),(12, .pointer (some ⟨s_.2.2.2,0,none⟩)),(71, .tuple #[.agg #[s_.1,s_.2.1,s_.2.2.1], .int .i64 xu]),(77, .agg #[s_.1,s_.2.1,s_.2.2.1]),(78, .int .i64 xu)]) (fun s_ w'=>(w'.cell? ⟨ac,0,none⟩=some (.slice er an.length es)/\w'.cell? ⟨ac,1,none⟩=some (.slice ex az.length ey)/\w'.cell? ⟨ac,2,none⟩=some (.slice ic be.length h9))/\(Kd.R (Kd.int .i64) 3 w' w.heap.size (fun _=>True) (.slice er an.length es) an)/\(Kd.S (Kd.slice 3 (Kd.int .i64)) 22 w' w.heap.size (fun _=>True) (.slice ex az.length ey) az)/\(Kd.R k25 25 w' w.heap.size (fun _=>True) (.slice ic be.length h9) be)/\(Kd.R (Kd.int .i64) 3 w' w.heap.size (fun _=>True) s_.1 dn)/\(Kd.S (Kd.slice 3 (Kd.int .i64)) 22 w' w.heap.size (fun _=>True) s_.2.1 dr)/\(Kd.R k25 25 w' w.heap.size (fun _=>True) s_.2.2.1 d6)/\(Kd.R k69 69 w' w.heap.size (fun _=>True) (.slice dz dm.length de) dm)/\(Kd.R (Kd.int .i64) 3 w' w.heap.size (fun _=>True) (.slice ak al.length aj) al)/\(Kd.S (Kd.slice 3 (Kd.int .i64)) 22 w' w.heap.size (fun _=>True) (.slice a9 a7.length a8) a7)/\(Kd.Q k25 25 w' w.heap.size (fun _=>True) (.slice cd bo.length ca) bo)/\(Kd.R (Kd.int .i64) 3 w' w.heap.size (fun _=>True) (.slice aq am.length ap) am)/\(Kd.S (Kd.slice 3 (Kd.int .i64)) 22 w' w.heap.size (fun _=>True) (.slice bc bb.length ba) bb)/\(Kd.Q k25 25 w' w.heap.size (fun _=>True) (.slice bz bs.length br) bs)/\(Kd.R (Kd.int .i64) 3 w' w.heap.size (fun _=>True) (.slice aw au.length ag) au)/\(Kd.S (Kd.slice 3 (Kd.int .i64)) 22 w' w.heap.size (fun _=>True) (.slice bg bd.length bf) bd)/\(Kd.Q k25 25 w' w.heap.size (fun _=>True) (.slice ci b5.length cg) b5)/\(hc_ w' ch #[.slice ak al.length aj, .slice a9 a7.length a8, .slice cd bo.length ca] 28)/\(hc_ w' da #[.slice aq am.length ap, .slice bc bb.length ba, .slice bz bs.length br] 28)/\(hc_ w' cq #[.slice aw au.length ag, .slice bg bd.length bf, .slice ci b5.length cg] 28)/\(hc_ w' ac #[.slice er an.length es, .slice ex az.length ey, .slice ic be.length h9] 28)/\(hc_ w' s_.2.2.2 #[.slice none 0 0, .slice none 0 0, .slice none 0 0] 28)/\(w.heap.size<=s_.2.2.2)/\(w.heap.size<=s_.2.2.2)/\(ch≠s_.2.2.2)/\(s_.2.2.2≠ch)/\(da≠s_.2.2.2)/\(s_.2.2.2≠da)/\(cq≠s_.2.2.2)/\(s_.2.2.2≠cq)/\(ac≠s_.2.2.2)/\(s_.2.2.2≠ac)/\(Below w.heap.size w w')) ?_ ?_
 rotate_left
 ·intro hCont
  refine two_ (i:=4) (j:=8) (Ni:=some 76) (Nj:=some 12) (tl_ 11 31) (tl_ 11 271) rfl rfl rfl rfl (two_of HT_.out (g0_)) (by decide) (by decide) (fun K hK=>?_) (fun K hK=>?_)
  ·skip
   refine goes_ Try.func61 (g0_) rfl #[.agg #[.slice er an.length es, .slice ex az.length ey, .slice ic be.length h9], .slice A95 mr.length c95] (by rfl) rfl rfl (gM_) ?_
   refine(Fy.calls kj44 _ _ an _ _ az _ _ be _ _ mr dn dr d6 xu _ (cR_ cv) (lR_ cv) (cS_ cz) (lS_ cz) (cR_ dj) (lR_ dj) (cu_ (g15_)) bh4.out A76.out).mono ?_
   rintro e w96 ⟨fq,im,l4,rfl,ae,ax,bm,hb⟩
   refine⟨_,rfl,?_⟩
   replace cb:=rbs_ cb hb
   have lu:=A_ (Kd.R_lower ae (Gz (cn)))
   have lv:=A_ (Kd.S_lower ax (Gz (cn)))
   have lw:=A_ (Kd.R_lower bm (Gz (cn)))
   replace bp:=rbs_ bp hb
   replace bt:=sbs_ bt hb
   replace b6:=qbs_ b6 hb
   replace bq:=rbs_ bq hb
   replace bu:=sbs_ bu hb
   replace b8:=qbs_ b8 hb
   replace bv:=rbs_ bv hb
   replace b9:=sbs_ b9 hb
   replace cj:=qbs_ cj hb
   replace cv:=rbs_ cv hb
   replace cz:=sbs_ cz hb
   replace dj:=rbs_ dj hb
   replace bi:=bb_ bi hb
   replace b3:=bb_ b3 hb
   replace b7:=bb_ b7 hb
   replace bh:=bb_ bh hb
   replace sm:=A_ (Kd.C_below (g15_) hb)
   replace HB:=hs_ (cn) hb
   refine hK.out _ _ ⟨(Gy bh.out 0).trans rfl,(Gy bh.out 1).trans rfl,(Gy bh.out 2).trans rfl⟩ (fun hHeld=>?_)
   clear hK K
   refine nm_ ?_
   refine pw_ 5 71 (tl_ 11 63) ?_
   refine pw_ 6 77 (tl_ 11 127) ?_
   refine pw_ 7 78 (tl_ 11 255) ?_
   refine one_ (i:=8) (N:=some 12) (tl_ 11 511) rfl rfl (Jn HT_.out (g0_)) (by decide) (fun K hK=>?_)
   refine bs_ (N:=12) #[.slice none 0 0, .slice none 0 0, .slice none 0 0] 28 ?_
   intro ar hg w97 hbox hb
   replace cb:=rbs_ cb hb
   replace bp:=rbs_ bp hb
   replace bt:=sbs_ bt hb
   replace b6:=qbs_ b6 hb
   replace bq:=rbs_ bq hb
   replace bu:=sbs_ bu hb
   replace b8:=qbs_ b8 hb
   replace bv:=rbs_ bv hb
   replace b9:=sbs_ b9 hb
   replace cj:=qbs_ cj hb
   replace cv:=rbs_ cv hb
   replace cz:=sbs_ cz hb
   replace dj:=rbs_ dj hb
   replace lu:=rbs_ lu hb
   replace lv:=sbs_ lv hb
   replace lw:=rbs_ lw hb
   replace sm:=A_ (Kd.C_below (g15_) hb)
   have ct:=A_ (hbox)
   have yr:=A_ ((g7_:w.heap.size<=ar))
   have xt:=yr
   replace HB:=hs_ (cn) hb
   have ms:=nl_ bi hg
   have n5:=nr_ bi hg
   replace bi:=bb_ bi hb
   have mh:=nl_ b3 hg
   have nr:=nr_ b3 hg
   replace b3:=bb_ b3 hb
   have m7:=nl_ b7 hg
   have od:=nr_ b7 hg
   replace b7:=bb_ b7 hb
   have gj:=nl_ bh hg
   have oe:=nr_ bh hg
   replace bh:=bb_ bh hb
   clear hb hbox hg
   refine hK.out _ _ ⟨(Gy bh.out 0).trans rfl,(Gy bh.out 1).trans rfl,(Gy bh.out 2).trans rfl⟩ (fun hHeld=>?_)
   clear hK K
   refine nm_ ?_
   exact Fd.calls.z1
  skip
  refine bs_ (N:=12) #[.slice none 0 0, .slice none 0 0, .slice none 0 0] 28 ?_
  intro ar hg w96 hbox hb
  replace cb:=rbs_ cb hb
  replace bp:=rbs_ bp hb
  replace bt:=sbs_ bt hb
  replace b6:=qbs_ b6 hb
  replace bq:=rbs_ bq hb
  replace bu:=sbs_ bu hb
  replace b8:=qbs_ b8 hb
  replace bv:=rbs_ bv hb
  replace b9:=sbs_ b9 hb
  replace cj:=qbs_ cj hb
  replace cv:=rbs_ cv hb
  replace cz:=sbs_ cz hb
  replace dj:=rbs_ dj hb
  replace sm:=A_ (Kd.C_below (g15_) hb)
  have ct:=A_ (hbox)
  have yr:=A_ ((g7_:w.heap.size<=ar))
  have xt:=yr
  replace HB:=hs_ (cn) hb
  have ms:=nl_ bi hg
  have n5:=nr_ bi hg
  replace bi:=bb_ bi hb
  have mh:=nl_ b3 hg
  have nr:=nr_ b3 hg
  replace b3:=bb_ b3 hb
  have m7:=nl_ b7 hg
  have od:=nr_ b7 hg
  replace b7:=bb_ b7 hb
  have gj:=nl_ bh hg
  have oe:=nr_ bh hg
  replace bh:=bb_ bh hb
  clear hb hbox hg
  refine hK.out _ _ ⟨(Gy bh.out 0).trans rfl,(Gy bh.out 1).trans rfl,(Gy bh.out 2).trans rfl⟩ (fun hHeld=>?_)
  clear hK K
  refine nm_ ?_
  refine one_ (i:=4) (N:=some 76) (tl_ 11 287) rfl rfl (Jn HT_.out (g0_)) (by decide) (fun K hK=>?_)
  refine goes_ Try.func61 (g0_) rfl #[.agg #[.slice er an.length es, .slice ex az.length ey, .slice ic be.length h9], .slice A95 mr.length c95] (by rfl) rfl rfl (gM_) ?_
  refine(Fy.calls kj44 _ _ an _ _ az _ _ be _ _ mr dn dr d6 xu _ (cR_ cv) (lR_ cv) (cS_ cz) (lS_ cz) (cR_ dj) (lR_ dj) (cu_ (g15_)) bh4.out A76.out).mono ?_
  rintro e w97 ⟨fq,im,l4,rfl,ae,ax,bm,hb⟩
  refine⟨_,rfl,?_⟩
  replace cb:=rbs_ cb hb
  have lu:=A_ (Kd.R_lower ae (Gz (cn)))
  have lv:=A_ (Kd.S_lower ax (Gz (cn)))
  have lw:=A_ (Kd.R_lower bm (Gz (cn)))
  replace bp:=rbs_ bp hb
  replace bt:=sbs_ bt hb
  replace b6:=qbs_ b6 hb
  replace bq:=rbs_ bq hb
  replace bu:=sbs_ bu hb
  replace b8:=qbs_ b8 hb
  replace bv:=rbs_ bv hb
  replace b9:=sbs_ b9 hb
  replace cj:=qbs_ cj hb
  replace cv:=rbs_ cv hb
  replace cz:=sbs_ cz hb
  replace dj:=rbs_ dj hb
  replace bi:=bb_ bi hb
  replace b3:=bb_ b3 hb
  replace b7:=bb_ b7 hb
  replace bh:=bb_ bh hb
  replace sm:=A_ (Kd.C_below (g15_) hb)
  replace ct:=bb_ ct hb
  replace HB:=hs_ (cn) hb
  refine hK.out _ _ ⟨(Gy bh.out 0).trans rfl,(Gy bh.out 1).trans rfl,(Gy bh.out 2).trans rfl⟩ (fun hHeld=>?_)
  clear hK K
  refine nm_ ?_
  refine pw_ 5 71 (tl_ 11 319) ?_
  refine pw_ 6 77 (tl_ 11 383) ?_
  refine pw_ 7 78 (tl_ 11 511) ?_
  exact Fd.calls.z1
 rintro⟨fq,im,l4,ar⟩ o0 ⟨hS_,h0_,h1_,h2_,h3_,h4_,h5_,h6_,h7_,h8_,h9_,h10_,h11_,h12_,h13_,h14_,h15_,h16_,h17_,h18_,h19_,h20_,h21_,h22_,h23_,h24_,h25_,h26_,h27_,h28_,h29_,h30_,h31_⟩
 replace cv:Gx (Kd.R (Kd.int .i64) 3 o0 w.heap.size (fun _=>True) (.slice er an.length es) an):=⟨h0_⟩
 replace cz:Gx (Kd.S (Kd.slice 3 (Kd.int .i64)) 22 o0 w.heap.size (fun _=>True) (.slice ex az.length ey) az):=⟨h1_⟩
 replace dj:Gx (Kd.R k25 25 o0 w.heap.size (fun _=>True) (.slice ic be.length h9) be):=⟨h2_⟩
 have lu:Gx (Kd.R (Kd.int .i64) 3 o0 w.heap.size (fun _=>True) fq dn):=⟨h3_⟩
 have lv:Gx (Kd.S (Kd.slice 3 (Kd.int .i64)) 22 o0 w.heap.size (fun _=>True) im dr):=⟨h4_⟩
 have lw:Gx (Kd.R k25 25 o0 w.heap.size (fun _=>True) l4 d6):=⟨h5_⟩
 replace cb:Gx (Kd.R k69 69 o0 w.heap.size (fun _=>True) (.slice dz dm.length de) dm):=⟨h6_⟩
 replace bp:Gx (Kd.R (Kd.int .i64) 3 o0 w.heap.size (fun _=>True) (.slice ak al.length aj) al):=⟨h7_⟩
 replace bt:Gx (Kd.S (Kd.slice 3 (Kd.int .i64)) 22 o0 w.heap.size (fun _=>True) (.slice a9 a7.length a8) a7):=⟨h8_⟩
 replace b6:Gx (Kd.Q k25 25 o0 w.heap.size (fun _=>True) (.slice cd bo.length ca) bo):=⟨h9_⟩
 replace bq:Gx (Kd.R (Kd.int .i64) 3 o0 w.heap.size (fun _=>True) (.slice aq am.length ap) am):=⟨h10_⟩
 replace bu:Gx (Kd.S (Kd.slice 3 (Kd.int .i64)) 22 o0 w.heap.size (fun _=>True) (.slice bc bb.length ba) bb):=⟨h11_⟩
 replace b8:Gx (Kd.Q k25 25 o0 w.heap.size (fun _=>True) (.slice bz bs.length br) bs):=⟨h12_⟩
 replace bv:Gx (Kd.R (Kd.int .i64) 3 o0 w.heap.size (fun _=>True) (.slice aw au.length ag) au):=⟨h13_⟩
 replace b9:Gx (Kd.S (Kd.slice 3 (Kd.int .i64)) 22 o0 w.heap.size (fun _=>True) (.slice bg bd.length bf) bd):=⟨h14_⟩
 replace cj:Gx (Kd.Q k25 25 o0 w.heap.size (fun _=>True) (.slice ci b5.length cg) b5):=⟨h15_⟩
 replace bi:Gx (hc_ o0 ch #[.slice ak al.length aj, .slice a9 a7.length a8, .slice cd bo.length ca] 28):=⟨h16_⟩
 replace b3:Gx (hc_ o0 da #[.slice aq am.length ap, .slice bc bb.length ba, .slice bz bs.length br] 28):=⟨h17_⟩
 replace b7:Gx (hc_ o0 cq #[.slice aw au.length ag, .slice bg bd.length bf, .slice ci b5.length cg] 28):=⟨h18_⟩
 replace bh:Gx (hc_ o0 ac #[.slice er an.length es, .slice ex az.length ey, .slice ic be.length h9] 28):=⟨h19_⟩
 have ct:Gx (hc_ o0 ar #[.slice none 0 0, .slice none 0 0, .slice none 0 0] 28):=⟨h20_⟩
 have yr:Gx (w.heap.size<=ar):=⟨h21_⟩
 have xt:Gx (w.heap.size<=ar):=⟨h22_⟩
 have ms:Gx (ch≠ar):=⟨h23_⟩
 have n5:Gx (ar≠ch):=⟨h24_⟩
 have mh:Gx (da≠ar):=⟨h25_⟩
 have nr:Gx (ar≠da):=⟨h26_⟩
 have m7:Gx (cq≠ar):=⟨h27_⟩
 have od:Gx (ar≠cq):=⟨h28_⟩
 have gj:Gx (ac≠ar):=⟨h29_⟩
 have oe:Gx (ar≠ac):=⟨h30_⟩
 replace HB:Gx (Below w.heap.size w o0):=⟨h31_⟩
 clear h0_ h1_ h2_ h3_ h4_ h5_ h6_ h7_ h8_ h9_ h10_ h11_ h12_ h13_ h14_ h15_ h16_ h17_ h18_ h19_ h20_ h21_ h22_ h23_ h24_ h25_ h26_ h27_ h28_ h29_ h30_ h31_
 have hHeld:o0.cell? ⟨ac,0,none⟩=some (.slice er an.length es)/\o0.cell? ⟨ac,1,none⟩=some (.slice ex az.length ey)/\o0.cell? ⟨ac,2,none⟩=some (.slice ic be.length h9):=hS_
 obtain⟨oq,ot,fc5⟩:=Kd.R_slice lu.out
 (first|subst fc5|(injection fc5 with f1_ f2_ f3_;have f4_:=f1_.symm;have f5_:=f3_.symm;clear f1_ f2_ f3_;subst f4_;subst f5_))
 obtain⟨t1,t2,jc5⟩:=Kd.S_slice lv.out
 (first|subst jc5|(injection jc5 with f1_ f2_ f3_;have f4_:=f1_.symm;have f5_:=f3_.symm;clear f1_ f2_ f3_;subst f4_;subst f5_))
 obtain⟨rx,ry,fc6⟩:=Kd.R_slice lw.out
 (first|subst fc6|(injection fc6 with f1_ f2_ f3_;have f4_:=f1_.symm;have f5_:=f3_.symm;clear f1_ f2_ f3_;subst f4_;subst f5_))
 refine norm_ (a':=?_) ?_ ?_
 rotate_left
 · exact sq_
 refine one_ (i:=9) (N:=none) (tl_ 11 1023) rfl rfl (Jn HT_.out (g0_)) (by decide) (fun K hK=>?_)
 have kd3:o0.cell? ⟨ar,0,none⟩=some (.slice none 0 0):=(Gy ct.out 0).trans rfl
 have kd4:=G7 ct.out 0
 have kd5:=ms.out
 have kd6:=mh.out
 have or1:=m7.out
 have kd7:=gj.out
 have kd8:=n5.out
 have kd9:=nr.out
 have or2:=od.out
 have ke0:=oe.out
 have or3:o0.cell? ⟨ar,1,none⟩=some (.slice none 0 0):=(Gy ct.out 1).trans rfl
 have or4:=G7 ct.out 1
 have lf7:o0.cell? ⟨ar,2,none⟩=some (.slice none 0 0):=(Gy ct.out 2).trans rfl
 have lf8:=G7 ct.out 2
 refine skip_ (w1:=?_) (by rfl) rfl ?_ ?_
 rotate_left
 ·go_simp
  rfl
 refine hK.out _ _ ⟨(cf_ gj ((cf_ gj ((cf_ gj (hHeld.1)))))),(cf_ gj ((cf_ gj ((cf_ gj (hHeld.2.1)))))),(cf_ gj ((cf_ gj ((cf_ gj (hHeld.2.2))))))⟩ (fun hHeld=>?_)
 clear hK K
 refine pw_ 10 13 (tl_ 11 2047) ?_
 refine done_ (done_of HT_.out (g0_)) ?_
 have fw7:=bh2.out
 have fw8:=ao1.out
 have fw9:=aj5.out
 have fx0:=bw4.out
 obtain⟨lh1,lh2,lh3,lh4,lh5,lh6⟩:=blk3_ b3
 try go_wp2_with (first|((with_reducible refine gc_ 24 ?_);refine gl_ 80 Try.func24 #[.agg #[.slice aq am.length ap, .slice bc bb.length ba, .slice bz bs.length br]] ?_;(refine(Gt.calls kj44 _ _ am _ _ bb _ _ bs true _ (c2R_ bq) (lR_ bq) (c2S_ bu) (lS_ bu) (c2Q_ b8) (lQ_ b8) A77.out).mono ?_);rintro e os5 ⟨rfl,hb⟩;refine⟨_,rfl,?_⟩;replace cb:=rbs_ cb hb;replace bp:=rbs_ bp hb;replace bt:=sbs_ bt hb;replace b6:=qbs_ b6 hb;replace bq:=rbs_ bq hb;replace bu:=sbs_ bu hb;replace b8:=qbs_ b8 hb;replace bv:=rbs_ bv hb;replace b9:=sbs_ b9 hb;replace cj:=qbs_ cj hb;replace cv:=rbs_ cv hb;replace cz:=sbs_ cz hb;replace dj:=rbs_ dj hb;replace lu:=rbs_ lu hb;replace lv:=sbs_ lv hb;replace lw:=rbs_ lw hb;replace bi:=A_ (G8 (g:=ch) (o:=.cells #[.slice ak al.length aj, .slice a9 a7.length a8, .slice cd bo.length ca] 28 (0,0)) (ba_ bi) hb);replace b3:=A_ (G8 (g:=da) (o:=.cells #[.slice aq am.length ap, .slice bc bb.length ba, .slice bz bs.length br] 28 (0,0)) (ba_ b3) hb);replace b7:=A_ (G8 (g:=cq) (o:=.cells #[.slice aw au.length ag, .slice bg bd.length bf, .slice ci b5.length cg] 28 (0,0)) (ba_ b7) hb);replace bh:=A_ (G8 (g:=ac) (o:=.cells #[.slice er an.length es, .slice ex az.length ey, .slice ic be.length h9] 28 (0,0)) (ba_ bh) hb);replace ct:=A_ (G8 (g:=ar) (o:=.cells #[.slice oq dn.length ot, .slice t1 dr.length t2, .slice rx d6.length ry] 28 (0,0)) (ba_ ct) hb);replace HB:=hs_ (cn) hb;obtain⟨ia9,ib0,kp0,ib1,ib2,kp1⟩:=blk3_ b3;have lo9:=ao2.out;have lp0:=cf9.out;have ht9:=gh.out;have hu3:=n0.out;have lp1:=ms.out;have lp2:=n5.out;obtain⟨os6,os7,os8,os9,ot0,ot1⟩:=blk3_ bi;have kp5:=od.out;have kp6:=m7.out;have ot2:=oe.out;have ot3:=gj.out;obtain⟨ot4,ot5,ot6,ot7,ot8,ot9⟩:=blk3_ ct)|(go_at_call 21;(refine(Ft.calls kj44 _ _ dn _ _ dr _ _ d6 _ _ am _ _ bb _ _ bs true _ (cR_ lu) (lR_ lu) (cS_ lv) (lS_ lv) (cR_ lw) (lR_ lw) (cR_ bq) (lR_ bq) (cS_ bu) (lS_ bu) (cQ_ b8) (lQ_ b8) A80.out).mono ?_);rintro e ou0 ⟨rfl,hb⟩;replace cb:=rbs_ cb hb;replace bp:=rbs_ bp hb;replace bt:=sbs_ bt hb;replace b6:=qbs_ b6 hb;replace bq:=rbs_ bq hb;replace bu:=sbs_ bu hb;replace b8:=qbs_ b8 hb;replace bv:=rbs_ bv hb;replace b9:=sbs_ b9 hb;replace cj:=qbs_ cj hb;replace cv:=rbs_ cv hb;replace cz:=sbs_ cz hb;replace dj:=rbs_ dj hb;replace lu:=rbs_ lu hb;replace lv:=sbs_ lv hb;replace lw:=rbs_ lw hb;replace bi:=bb_ bi hb;replace b3:=bb_ b3 hb;replace b7:=bb_ b7 hb;replace bh:=bb_ bh hb;replace ct:=bb_ ct hb;replace HB:=hs_ (cn) hb))
 go_ret
 exact⟨g181_,cn⟩
def Fd.Pure:Prop:=∀(l0:List Int),l0.length<=maxLen->l0.length * 1<=140737488351232->(∀x ∈ l0,(Lit.int .u8 x).wf=true)->∃k,Fd.f k l0=some true
theorem Fd.walk (P:Fd.Pure) (a0:Option Addr) (len0 cap0:Nat) (z0:List Int) (w:World) (w0:(a0=none/\len0=0/\cap0=0/\z0=[]) ∨ ∃x,a0=some x/\len0<=cap0/\cap0<=maxLen/\z0.length=cap0/\(∀i,i < z0.length->w.cell? (x.add i)=some (.int .u8 (z0.getD i 0)))/\∀n ∈ z0,(Lit.int .u8 n).wf=true) (y0:len0 * 1<=140737488351232) :
  Calls Try.prog 14 #[.slice a0 len0 cap0] w fun e w'=>e = .returned (.bool true)/\Below w.heap.size w w':=by
 obtain⟨l0,rfl,gq,hm0,hw0,i2⟩:=ReadsInt.ofRowC w0
 obtain⟨k,h⟩:=P l0 hm0 y0 hw0
 refine(Fd.calls k _ _ l0 true rfl w (Kd.C_of_reads (d:=(0:Int)) (h1:=fun _=>rfl) gq) i2 h).mono ?_
 rintro e w' ⟨rfl,hd⟩
 exact⟨rfl,hd⟩
end Go.Proofs.Ytfooakkhkehpiaa.PU
namespace Go.Proofs.Ytfooakkhkehpiaa.Qh
open Go.RowKit Go.Proofs.YtfooakkhkehpiaaW.PrintWords Go.Proofs.YtfooakkhkehpiaaW.PrintMore
set_option linter.unusedVariables false
set_option linter.unusedSimpArgs false
theorem w64 {n:Int} (h1 : -9223372036854775808<=n) (h2:n<=9223372036854775807):wrap64 n=n:=by unfold wrap64;omega
theorem wsucc {i n:Nat} (h:i < n) (hn:n<=4611686018427387904):wrap64 ((i:Int) + 1)=((i + 1:Nat):Int):=by unfold wrap64;omega
section
variable {α β:Type} {r:α}
theorem evPos {c:Prop} [Decidable c] {g f:Nat->Option α} (h:c) (k:Ev g r):Ev (fun n=>if c then g n else f n) r:=by
  simp only[if_pos h];exact k
theorem evNeg {c:Prop} [Decidable c] {g f:Nat->Option α} (h:¬ c) (k:Ev f r):Ev (fun n=>if c then g n else f n) r:=by
  simp only[if_neg h];exact k
theorem evBind0 {g:Option β} {f:Nat->β->Option α} {a:β} (h:g=some a) (k:Ev (fun n=>f n a) r):Ev (fun n=>g.bind (f n)) r:=by
  subst h;exact k
theorem evEq {g:Nat->Option α} {q:α} (h:Ev g q) (e:q=r):Ev g r:=e ▸ h
end
theorem rd_get (xs:List Int) (i:Nat) (h:i < xs.length):rd xs (i:Int)=xs[i]:=by
  simp[rd,List.getD_eq_getElem?_getD,List.getElem?_eq_getElem h]
theorem drop_rd (xs:List Int) (i:Nat) (h:i < xs.length):xs.drop i=rd xs (i:Int) :: xs.drop (i + 1):=by
  rw[rd_get xs i h,List.drop_eq_getElem_cons h]
theorem drop_of {α:Type} (xs:List α) (d:α) (i:Nat) (h:i < xs.length):xs.drop i=xs.getD i d :: xs.drop (i + 1):=by
  rw[List.drop_eq_getElem_cons h];simp[List.getD_eq_getElem?_getD,List.getElem?_eq_getElem h]
theorem getD_set {α:Type} (xs:List α) (d v:α) (i j:Nat) (h:i < xs.length):(xs.set i v).getD j d=if i=j then v else xs.getD j d:=by
  simp only[List.getD_eq_getElem?_getD,List.getElem?_set]
  by_cases e:i=j
  · subst e;simp[h]
  · simp[e]
theorem rd_set (xs:List Int) (v:Int) (i j:Int) (h0:0<=i) (h:i < xs.length) (hj:0<=j):rd (xs.set i.toNat v) j=if i=j then v else rd xs j:=by
  unfold rd
  rw[getD_set xs 0 v i.toNat j.toNat (by omega)]
  by_cases e:i=j
  · subst e;simp
  · rw[if_neg e,if_neg (by omega)]
theorem rd_app (xs:List Int) (v:Int) (j:Nat):rd (xs ++ [v]) (j:Int)=if j < xs.length then rd xs j else if j=xs.length then v else 0:=by
  unfold rd
  simp only[Int.toNat_natCast,List.getD_eq_getElem?_getD,List.getElem?_append]
  by_cases h:j < xs.length
  · simp[h]
  · by_cases e:j=xs.length
    · subst e;simp
    · rw[if_neg h,if_neg h,if_neg e]
      have:1<=j - xs.length:=by omega
      rw[List.getElem?_eq_none (by simp;omega)];rfl
theorem ext_rd (xs ys:List Int) (hl:xs.length=ys.length) (h:∀i:Nat,i < xs.length->rd xs (i:Int)=rd ys (i:Int)):xs=ys:=by
  apply List.ext_getElem hl
  intro i h1 h2
  have:=h i h1
  rwa [rd_get xs i h1,rd_get ys i h2] at this
theorem getD_mem {α:Type} (d:α) (xs:List α) (i:Nat) (h:i < xs.length):xs.getD i d ∈ xs:=by
  simp[List.getD_eq_getElem?_getD,List.getElem?_eq_getElem h]
def EvB (g:Nat->Option Bool) (p:Prop):Prop:=∃b,(b=true ↔ p)/\Ev g b
section
variable {g f:Nat->Option Bool} {p q:Prop}
theorem EvB.congr (h:EvB g p) (e:p ↔ q):EvB g q:=by obtain⟨b,h1,h2⟩:=h;exact⟨b,h1.trans e,h2⟩
theorem EvB.tt (h:p):EvB (fun _=>some true) p:=⟨true,by simp[h],Ev.now _⟩
theorem EvB.ff (h:¬ p):EvB (fun _=>some false) p:=⟨false,by simp[h],Ev.now _⟩
theorem EvB.pos {c:Prop} [Decidable c] (h:c) (k:EvB g p):EvB (fun n=>if c then g n else f n) p:=by obtain⟨b,h1,h2⟩:=k;exact⟨b,h1,evPos h h2⟩
theorem EvB.neg {c:Prop} [Decidable c] (h:¬ c) (k:EvB f p):EvB (fun n=>if c then g n else f n) p:=by obtain⟨b,h1,h2⟩:=k;exact⟨b,h1,evNeg h h2⟩
theorem EvB.step {g f:Nat->Option Bool} (h:∀k,g (k + 1)=f k) (k:EvB f p):EvB g p:=by obtain⟨b,h1,h2⟩:=k;exact⟨b,h1,Ev.step h h2⟩
theorem EvB.bind {β:Type} {g:Nat->Option β} {f:Nat->β->Option Bool} {a:β} (h:Ev g a) (k:EvB (fun n=>f n a) p):EvB (fun n=>(g n).bind (f n)) p:=by obtain⟨b,h1,h2⟩:=k;exact⟨b,h1,Ev.bind h h2⟩
theorem EvB.bind0 {β:Type} {g:Option β} {f:Nat->β->Option Bool} {a:β} (h:g=some a) (k:EvB (fun n=>f n a) p):EvB (fun n=>g.bind (f n)) p:=by obtain⟨b,h1,h2⟩:=k;exact⟨b,h1,evBind0 h h2⟩
theorem EvB.yes (h:EvB g p) (hp:p):Ev g true:=by obtain⟨b,h1,h2⟩:=h;rw[h1.2 hp] at h2;exact h2
theorem EvB.no (h:EvB g p) (hp:¬ p):Ev g false:=by
  obtain⟨b,h1,h2⟩:=h
  have:b=false:=by cases b with
    | true=>exact absurd (h1.1 rfl) hp
    | false=>rfl
  rw[this] at h2;exact h2
end
end Go.Proofs.Ytfooakkhkehpiaa.Qh
namespace Go.Proofs.Ytfooakkhkehpiaa.Dr
open Go.RowKit Go.Proofs.Ytfooakkhkehpiaa.PU Go.Proofs.Ytfooakkhkehpiaa.Qh Go.Proofs.YtfooakkhkehpiaaW.PrintWords Go.Proofs.YtfooakkhkehpiaaW.PrintMore
set_option linter.unusedVariables false
set_option linter.unusedSimpArgs false
theorem xor_nonneg (a b:Int) (ha:0<=a) (ha2:a < 4611686018427387904) (hb:0<=b) (hb2:b < 4611686018427387904):0<=Go.bits .xor .i64 a b:=by
  obtain⟨m,rfl⟩:=Int.eq_ofNat_of_zero_le ha
  obtain⟨n,rfl⟩:=Int.eq_ofNat_of_zero_le hb
  have hm:m < 2 ^ 62:=by omega
  have hn:n < 2 ^ 62:=by omega
  have hx:m ^^^ n < 2 ^ 62:=Nat.xor_lt_two_pow hm hn
  have e1:m % 2 ^ 64=m:=Nat.mod_eq_of_lt (by omega)
  have e2:n % 2 ^ 64=n:=Nat.mod_eq_of_lt (by omega)
  have:Go.bits .xor .i64 (m:Int) (n:Int)=((m ^^^ n:Nat):Int):=by
    simp only[Go.bits,BitVec.ofInt_natCast,BitVec.toNat_xor,BitVec.toNat_ofNat]
    show IntKind.i64.wrap (((m % 2 ^ 64) ^^^ (n % 2 ^ 64):Nat):Int)=_
    rw[e1,e2,IntKind.wrap_i64]
    omega
  rw[this]
  omega
def Bytes (b:List Int):Prop:=b.length<=2000/\∀x ∈ b,0<=x/\x<=255
theorem rd_byte {b:List Int} (h:Bytes b) (i:Int):0<=rd b i/\rd b i<=255:=by
  unfold rd
  by_cases hi:i.toNat < b.length
  · exact h.2 _ (getD_mem 0 b _ hi)
  · simp[List.getD_eq_getElem?_getD,List.getElem?_eq_none (by omega:b.length<=i.toNat)]
theorem pick {b:List Int} (hb:Bytes b) (p n:Int) (h0:0<=p) (h1:p<=1000000000) :
    ∃v,0<=v/\(1<=n->v < n)/\(n < 1->v=0)/\Ev (fun k=>Fa.f k b p n) (v,p + 1):=by
  have hp:wrap64 (p + 1)=p + 1:=w64 (by omega) (by omega)
  have hp1:wrap64 (p + 1 - 1)=p:=by rw[w64 (by omega) (by omega)];omega
  unfold Fa.f
  rw[hp]
  by_cases hn:n < 1
  · refine⟨0,by omega,by omega,fun _=>rfl,evPos hn ?_⟩
    refine Ev.step (fun k=>by rw[Fa.j0]) ?_
    exact evPos rfl (Ev.now _)
  by_cases hz:b.length=0
  · refine⟨0,by omega,by omega,fun h=>absurd h hn,evNeg hn ?_⟩
    refine Ev.step (fun k=>by rw[Fa.j0]) ?_
    exact evPos (by simp[hz]) (Ev.now _)
  have hlen:0 < (b.length:Int):=by omega
  by_cases hlt:p < (b.length:Int)
  · have hr:=rd_byte hb p
    refine⟨Int.tmod (rd b p) n,Int.tmod_nonneg _ hr.1,fun _=>Int.tmod_lt_of_pos _ (by omega),fun h=>absurd h hn,evNeg hn ?_⟩
    refine Ev.step (fun k=>by rw[Fa.j0]) ?_
    rw[hp1]
    refine evNeg (fun h=>by have:=beq_iff_eq.mp h;omega) (evPos hlt (evPos h0 (evNeg (by omega) ?_)))
    rw[w64 (by omega) (by omega)]
    exact Ev.now _
  · have hp7:wrap64 (p * 7)=p * 7:=w64 (by omega) (by omega)
    have hp73:wrap64 (p * 7 + 3)=p * 7 + 3:=w64 (by omega) (by omega)
    have hp29:wrap64 (p * 29)=p * 29:=w64 (by omega) (by omega)
    have i1:=Int.tmod_nonneg (b.length:Int) h0
    have i2:=Int.tmod_lt_of_pos p hlen
    have j1:=Int.tmod_nonneg (b.length:Int) (show 0<=p * 7 + 3 by omega)
    have j2:=Int.tmod_lt_of_pos (p * 7 + 3) hlen
    have d1:0<=Int.tdiv p (b.length:Int):=Int.tdiv_nonneg h0 (by omega)
    have d2:Int.tdiv p (b.length:Int)<=p:=Int.tdiv_le_self _ h0
    have r1:=rd_byte hb (Int.tmod p (b.length:Int))
    have r2:=rd_byte hb (Int.tmod (p * 7 + 3) (b.length:Int))
    have key:∃x,0<=x/\x < 4611686018427387904/\wrap64 ((wrap64 ((wrap64 ((wrap64 ((wrap64 (rd b (Int.tmod p (b.length:Int)))) * 131)) + (wrap64 ((wrap64 (rd b (Int.tmod (p * 7 + 3) (b.length:Int)))) * 1117)))) + (p * 29))) + (wrap64 ((wrap64 (Int.tdiv p (b.length:Int))) * 53)))=x:=by
      generalize rd b (Int.tmod p (b.length:Int))=u at *
      generalize rd b (Int.tmod (p * 7 + 3) (b.length:Int))=v at *
      generalize Int.tdiv p (b.length:Int)=d at *
      have e1:wrap64 u=u:=w64 (by omega) (by omega)
      have e2:wrap64 v=v:=w64 (by omega) (by omega)
      have e3:wrap64 d=d:=w64 (by omega) (by omega)
      have e4:wrap64 (u * 131)=u * 131:=w64 (by omega) (by omega)
      have e5:wrap64 (v * 1117)=v * 1117:=w64 (by omega) (by omega)
      have e6:wrap64 (d * 53)=d * 53:=w64 (by omega) (by omega)
      have e7:wrap64 (u * 131 + v * 1117)=u * 131 + v * 1117:=w64 (by omega) (by omega)
      have e8:wrap64 (u * 131 + v * 1117 + p * 29)=u * 131 + v * 1117 + p * 29:=w64 (by omega) (by omega)
      refine⟨u * 131 + v * 1117 + p * 29 + d * 53,by omega,by omega,?_⟩
      rw[e1,e2,e3,e4,e5,e6,e7,e8]
      exact w64 (by omega) (by omega)
    obtain⟨x,hx0,hx1,hx⟩:=key
    have t0:0<=Int.tdiv x 64:=Int.tdiv_nonneg hx0 (by omega)
    have t1:Int.tdiv x 64<=x:=Int.tdiv_le_self _ hx0
    have ht:wrap64 (Int.tdiv x 64)=Int.tdiv x 64:=w64 (by omega) (by omega)
    have hq:=xor_nonneg x (Int.tdiv x 64) hx0 hx1 t0 (by omega)
    refine⟨Int.tmod (Go.bits .xor .i64 x (Int.tdiv x 64)) n,Int.tmod_nonneg _ hq,fun _=>Int.tmod_lt_of_pos _ (by omega),fun h=>absurd h hn,evNeg hn ?_⟩
    refine Ev.step (fun k=>by rw[Fa.j0]) ?_
    rw[hp1,hp7,hp73,hp29,hx,ht]
    refine evNeg (fun h=>by have:=beq_iff_eq.mp h;omega) (evNeg hlt (evNeg (by omega) (evPos i1 (evPos i2 (evPos j1 (evPos j2 (evNeg (by omega) (Ev.now _))))))))
theorem open_ (l:List Int) (hu:∀x ∈ l,(Lit.int .u8 x).wf=true):∃b,Bytes b/\Gu.f l=some (b,0):=by
  have hb:∀x ∈ l,0<=x/\x<=255:=fun x hx=>by
    have:=hu x hx
    simp[Lit.wf,IntKind.min,IntKind.max,IntKind.bits,IntKind.signed] at this
    omega
  unfold Gu.f
  by_cases h:(l.length:Int) > 2000
  · exact⟨l.take 2000,⟨by rw[List.length_take];omega,fun x hx=>hb x (List.mem_of_mem_take hx)⟩,by rw[if_pos h,if_pos (by omega)]⟩
  · exact⟨l,⟨by omega,hb⟩,by rw[if_neg h]⟩
end Go.Proofs.Ytfooakkhkehpiaa.Dr
namespace Go.Proofs.Ytfooakkhkehpiaa.Db
open Go.RowKit Go.Proofs.Ytfooakkhkehpiaa.PU Go.Proofs.Ytfooakkhkehpiaa.Qh Go.Proofs.Ytfooakkhkehpiaa.Dr Go.Proofs.YtfooakkhkehpiaaW.PrintWords Go.Proofs.YtfooakkhkehpiaaW.PrintMore
set_option linter.unusedVariables false
set_option linter.unusedSimpArgs false
def EvX {α:Type} (g:Nat->Option α) (P:α->Prop):Prop:=∃r,P r/\Ev g r
section
variable {α β:Type} {P Q:α->Prop} {g f:Nat->Option α}
theorem EvX.imp (h:EvX g P) (k:∀r,P r->Q r):EvX g Q:=by obtain⟨r,h1,h2⟩:=h;exact⟨r,k r h1,h2⟩
theorem EvX.now {r:α} (h:P r):EvX (fun _=>some r) P:=⟨r,h,Ev.now _⟩
theorem EvX.step {g f:Nat->Option α} (h:∀k,g (k + 1)=f k) (k:EvX f P):EvX g P:=by obtain⟨r,h1,h2⟩:=k;exact⟨r,h1,Ev.step h h2⟩
theorem EvX.pos {c:Prop} [Decidable c] (h:c) (k:EvX g P):EvX (fun n=>if c then g n else f n) P:=by obtain⟨r,h1,h2⟩:=k;exact⟨r,h1,evPos h h2⟩
theorem EvX.neg {c:Prop} [Decidable c] (h:¬ c) (k:EvX f P):EvX (fun n=>if c then g n else f n) P:=by obtain⟨r,h1,h2⟩:=k;exact⟨r,h1,evNeg h h2⟩
theorem EvX.bind {g:Nat->Option β} {f:Nat->β->Option α} {a:β} (h:Ev g a) (k:EvX (fun n=>f n a) P):EvX (fun n=>(g n).bind (f n)) P:=by obtain⟨r,h1,h2⟩:=k;exact⟨r,h1,Ev.bind h h2⟩
theorem EvX.bind0 {g:Option β} {f:Nat->β->Option α} {a:β} (h:g=some a) (k:EvX (fun n=>f n a) P):EvX (fun n=>g.bind (f n)) P:=by obtain⟨r,h1,h2⟩:=k;exact⟨r,h1,evBind0 h h2⟩
theorem EvX.bindX {R:β->Prop} {g:Nat->Option β} {f:Nat->β->Option α} (h:EvX g R) (k:∀a,R a->EvX (fun n=>f n a) P):EvX (fun n=>(g n).bind (f n)) P:=by
  obtain⟨a,h1,h2⟩:=h;exact EvX.bind h2 (k a h1)
end
theorem podd {b:List Int} (hb:Bytes b) (p n:Int) (hn:1<=n) (hn2:n<=1000) (h0:0<=p) (h1:p<=1000000000):∃v,Ev (fun k=>F5.f k b p n) (v,p + 1):=by
  obtain⟨x,_,_,_,hx⟩:=pick hb p n h0 h1
  unfold F5.f
  exact⟨_,evPos (by omega) (Ev.bind hx (Ev.now _))⟩
end Go.Proofs.Ytfooakkhkehpiaa.Db
namespace Go.Proofs.Ytfooakkhkehpiaa.Bk
open Go.RowKit Go.Proofs.Ytfooakkhkehpiaa.PU Go.Proofs.Ytfooakkhkehpiaa.Qh Go.Proofs.YtfooakkhkehpiaaW.PrintWords Go.Proofs.YtfooakkhkehpiaaW.PrintMore
set_option linter.unusedVariables false
set_option linter.unusedSimpArgs false
def RowP (c:List Int) (d:List (List Int)) (i:Nat):Prop:=
  0<=rd c (i:Int)/\rd c (i:Int)<=20/\(Jb d (i:Int)).length=c.length/\rd (Jb d (i:Int)) (i:Int)=0/\∀j:Nat,j < c.length->0<=rd (Jb d (i:Int)) (j:Int)/\rd (Jb d (i:Int)) (j:Int)<=9
def BookP (c:List Int) (d:List (List Int)):Prop:=1<=c.length/\c.length<=4/\d.length=c.length/\∀i:Nat,i < c.length->RowP c d i
theorem ib_l1 (c:List Int) (d:List (List Int)) (row:List Int) (x3:Int) (i:Nat) (hrow:row.length<=4) (hi:i < d.length) (hd:d.length<=4) {R:Prop}
    (hR:EvB (fun k=>Fi.l0 k x3 d (d.length:Int) ((i + 1:Nat):Int) c d) R):∀(e j:Nat),row.length - j=e->j<=row.length ->
    EvB (fun k=>Fi.l1 k x3 d (d.length:Int) (i:Int) row (row.length:Int) (j:Int) c d) ((∀j':Nat,j<=j'->j' < row.length->0<=rd row (j':Int)/\rd row (j':Int)<=9)/\R):=by
  have hs:wrap64 ((i:Int) + 1)=((i + 1:Nat):Int):=wsucc hi (by omega)
  intro e
  induction e with
  | zero=>
    intro j he hj
    refine EvB.step (fun k=>by rw[Fi.l1]) ?_
    rw[hs]
    exact EvB.neg (by omega) (hR.congr ⟨fun h=>⟨fun j' h1 h2=>by omega,h⟩,fun h=>h.2⟩)
  | succ e ih=>
    intro j he hj
    have hlt:j < row.length:=by omega
    have hj1:wrap64 ((j:Int) + 1)=((j + 1:Nat):Int):=wsucc hlt (by omega)
    refine EvB.step (fun k=>by rw[Fi.l1]) ?_
    refine EvB.pos (by omega) (EvB.pos (by omega) (EvB.pos (by omega) ?_))
    by_cases h1:rd row (j:Int) < 0
    · exact EvB.pos h1 (EvB.ff (fun h=>by have:=h.1 j (Nat.le_refl _) hlt;omega))
    · refine EvB.neg h1 ?_
      by_cases h2:rd row (j:Int) > 9
      · exact EvB.pos h2 (EvB.ff (fun h=>by have:=h.1 j (Nat.le_refl _) hlt;omega))
      · refine EvB.neg h2 ?_
        rw[hj1]
        refine(ih (j + 1) (by omega) (by omega)).congr ⟨fun h=>⟨fun j' h3 h4=>?_,h.2⟩,fun h=>⟨fun j' h3 h4=>h.1 j' (by omega) h4,h.2⟩⟩
        by_cases e':j'=j
        · subst e';exact⟨by omega,by omega⟩
        · exact h.1 j' (by omega) h4
theorem ib_l0 (c:List Int) (d:List (List Int)) (h4:c.length<=4) (hl:d.length=c.length):∀(e i:Nat),c.length - i=e->i<=c.length ->
    EvB (fun k=>Fi.l0 k (c.length:Int) d (d.length:Int) (i:Int) c d) (∀i':Nat,i<=i'->i' < c.length->RowP c d i'):=by
  intro e
  induction e with
  | zero=>
    intro i he hi
    refine EvB.step (fun k=>by rw[Fi.l0]) ?_
    exact EvB.neg (by omega) (EvB.tt (fun i' h1 h2=>by omega))
  | succ e ih=>
    intro i he hi
    have hlt:i < c.length:=by omega
    refine EvB.step (fun k=>by rw[Fi.l0]) ?_
    refine EvB.pos (by omega) (EvB.pos (by omega) (EvB.pos (by omega) (EvB.pos (by omega) ?_)))
    have bad:∀(P:Prop),(P->¬ RowP c d i)->P->EvB (fun k=>Fi.j2 k (c.length:Int) (Jb d (i:Int)) d (d.length:Int) (i:Int) true c d) (∀i':Nat,i<=i'->i' < c.length->RowP c d i'):=by
      intro P hP p
      refine EvB.step (fun k=>by rw[Fi.j2]) ?_
      exact EvB.pos rfl (EvB.ff (fun h=>hP p (h i (Nat.le_refl _) hlt)))
    by_cases h1:rd c (i:Int) < 0
    · exact EvB.pos h1 (bad _ (fun p h=>by have:=h.1;omega) h1)
    refine EvB.neg h1 ?_
    by_cases h2:rd c (i:Int) > 20
    · exact EvB.pos h2 (bad _ (fun p h=>by have:=h.2.1;omega) h2)
    refine EvB.neg h2 ?_
    by_cases h3:((Jb d (i:Int)).length:Int)=(c.length:Int)
    · refine EvB.pos h3 (EvB.pos (by omega) ?_)
      by_cases h5:rd (Jb d (i:Int)) (i:Int)=0
      · refine EvB.step (fun k=>by rw[Fi.j2]) ?_
        refine EvB.neg (by rw[h5];decide) ?_
        refine(ib_l1 c d (Jb d (i:Int)) (c.length:Int) i (by omega) (by omega) (by omega) (ih (i + 1) (by omega) (by omega)) _ 0 rfl (by omega)).congr ?_
        constructor
        · intro h i' h6 h7
          by_cases e':i'=i
          · subst e';exact⟨by omega,by omega,by omega,h5,fun j hj=>h.1 j (by omega) (by omega)⟩
          · exact h.2 i' (by omega) h7
        · intro h
          have hr:=h i (Nat.le_refl _) hlt
          exact⟨fun j' _ h7=>hr.2.2.2.2 j' (by omega),fun i' h6 h7=>h i' (by omega) h7⟩
      · have hb:(rd (Jb d (i:Int)) (i:Int) != 0)=true:=bne_iff_ne.mpr h5
        rw[hb]
        exact bad _ (fun p h=>p h.2.2.2.1) h5
    · exact EvB.neg h3 (bad _ (fun p h=>p (by rw[h.2.2.1])) h3)
theorem isBook (c:List Int) (d:List (List Int)):EvB (fun k=>Fi.f k c d) (BookP c d):=by
  unfold Fi.f
  by_cases h1:(c.length:Int) < 1
  · refine EvB.pos h1 (EvB.step (fun k=>by rw[Fi.j0]) ?_)
    exact EvB.pos rfl (EvB.ff (fun h=>by have:=h.1;omega))
  refine EvB.neg h1 ?_
  by_cases h2:(c.length:Int) > 4
  · refine EvB.pos h2 (EvB.step (fun k=>by rw[Fi.j0]) ?_)
    exact EvB.pos rfl (EvB.ff (fun h=>by have:=h.2.1;omega))
  refine EvB.neg h2 (EvB.step (fun k=>by rw[Fi.j0]) ?_)
  by_cases h3:d.length=c.length
  · refine EvB.neg (by rw[h3];simp) ?_
    refine(ib_l0 c d (by omega) h3 _ 0 rfl (by omega)).congr ⟨fun h=>⟨by omega,by omega,h3,fun i hi=>h i (by omega) hi⟩,fun h i _ hi=>h.2.2.2 i hi⟩
  · exact EvB.pos (bne_iff_ne.mpr (by omega)) (EvB.ff (fun h=>h3 h.2.2.1))
theorem sIn (a lo hi:Int):F8.f a lo hi=some (decide (lo<=a/\a<=hi)):=by
  unfold F8.f
  by_cases h:a ≥ lo
  · rw[if_pos h];simp[h]
  · rw[if_neg h];congr 1;symm;exact decide_eq_false (fun h'=>h h'.1)
theorem sb_l1 (c:List Int) (d:List (List Int)) (i:Nat) (hrow:(Jb d (i:Int)).length<=4) (hi:i < d.length) (hd:d.length<=4) {R:Prop}
    (hR:EvB (fun k=>Fh.l0 k ((i + 1:Nat):Int) c d) R):∀(e j:Nat),(Jb d (i:Int)).length - j=e->j<=(Jb d (i:Int)).length ->
    EvB (fun k=>Fh.l1 k (i:Int) (j:Int) c d) ((∀j':Nat,j<=j'->j' < (Jb d (i:Int)).length->0<=rd (Jb d (i:Int)) (j':Int)/\rd (Jb d (i:Int)) (j':Int)<=9)/\R):=by
  have hs:wrap64 ((i:Int) + 1)=((i + 1:Nat):Int):=wsucc hi (by omega)
  intro e
  induction e with
  | zero=>
    intro j he hj
    refine EvB.step (fun k=>by rw[Fh.l1]) ?_
    rw[hs]
    exact EvB.pos (by omega) (EvB.pos (by omega) (EvB.neg (by omega) (hR.congr ⟨fun h=>⟨fun j' h1 h2=>by omega,h⟩,fun h=>h.2⟩)))
  | succ e ih=>
    intro j he hj
    have hlt:j < (Jb d (i:Int)).length:=by omega
    have hj1:wrap64 ((j:Int) + 1)=((j + 1:Nat):Int):=wsucc hlt (by omega)
    refine EvB.step (fun k=>by rw[Fh.l1]) ?_
    refine EvB.pos (by omega) (EvB.pos (by omega) (EvB.pos (by omega) (EvB.pos (by omega) (EvB.bind0 (sIn _ _ _) ?_))))
    by_cases h1:0<=rd (Jb d (i:Int)) (j:Int)/\rd (Jb d (i:Int)) (j:Int)<=9
    · refine EvB.pos (decide_eq_true h1) ?_
      rw[hj1]
      refine(ih (j + 1) (by omega) (by omega)).congr ⟨fun h=>⟨fun j' h3 h4=>?_,h.2⟩,fun h=>⟨fun j' h3 h4=>h.1 j' (by omega) h4,h.2⟩⟩
      by_cases e':j'=j
      · subst e';exact h1
      · exact h.1 j' (by omega) h4
    · exact EvB.neg (by simpa using h1) (EvB.ff (fun h=>h1 (h.1 j (Nat.le_refl _) hlt)))
theorem sb_l0 (c:List Int) (d:List (List Int)) (h4:c.length<=4) (hl:d.length=c.length):∀(e i:Nat),c.length - i=e->i<=c.length ->
    EvB (fun k=>Fh.l0 k (i:Int) c d) (∀i':Nat,i<=i'->i' < c.length->RowP c d i'):=by
  intro e
  induction e with
  | zero=>
    intro i he hi
    refine EvB.step (fun k=>by rw[Fh.l0]) ?_
    exact EvB.neg (by omega) (EvB.tt (fun i' h1 h2=>by omega))
  | succ e ih=>
    intro i he hi
    have hlt:i < c.length:=by omega
    refine EvB.step (fun k=>by rw[Fh.l0]) ?_
    refine EvB.pos (by omega) (EvB.pos (by omega) (EvB.bind0 (sIn _ _ _) ?_))
    have bad:∀(P:Prop),(P->¬ RowP c d i)->P->EvB (fun k=>Fh.j2 k (i:Int) true c d) (∀i':Nat,i<=i'->i' < c.length->RowP c d i'):=by
      intro P hP p
      refine EvB.step (fun k=>by rw[Fh.j2]) ?_
      exact EvB.pos rfl (EvB.ff (fun h=>hP p (h i (Nat.le_refl _) hlt)))
    by_cases h1:0<=rd c (i:Int)/\rd c (i:Int)<=20
    · refine EvB.pos (decide_eq_true h1) (EvB.pos (by omega) ?_)
      by_cases h3:((Jb d (i:Int)).length:Int)=(c.length:Int)
      · refine EvB.pos h3 (EvB.pos (by omega) ?_)
        by_cases h5:rd (Jb d (i:Int)) (i:Int)=0
        · refine EvB.step (fun k=>by rw[Fh.j2]) ?_
          refine EvB.neg (by rw[h5];decide) ?_
          refine(sb_l1 c d i (by omega) (by omega) (by omega) (ih (i + 1) (by omega) (by omega)) _ 0 rfl (by omega)).congr ?_
          constructor
          · intro h i' h6 h7
            by_cases e':i'=i
            · subst e';exact⟨h1.1,h1.2,by omega,h5,fun j hj=>h.1 j (by omega) (by omega)⟩
            · exact h.2 i' (by omega) h7
          · intro h
            have hr:=h i (Nat.le_refl _) hlt
            exact⟨fun j' _ h7=>hr.2.2.2.2 j' (by omega),fun i' h6 h7=>h i' (by omega) h7⟩
        · have hb:(rd (Jb d (i:Int)) (i:Int) != 0)=true:=bne_iff_ne.mpr h5
          rw[hb]
          exact bad _ (fun p h=>p h.2.2.2.1) h5
      · exact EvB.neg h3 (bad _ (fun p h=>p (by rw[h.2.2.1])) h3)
    · exact EvB.neg (by simpa using h1) (bad _ (fun p h=>p ⟨h.1,h.2.1⟩) h1)
theorem bookOk (c:List Int) (d:List (List Int)):EvB (fun k=>Fh.f k c d) (BookP c d):=by
  unfold Fh.f
  refine EvB.bind0 (sIn _ _ _) ?_
  by_cases h1:1<=(c.length:Int)/\(c.length:Int)<=4
  · refine EvB.pos (decide_eq_true h1) (EvB.step (fun k=>by rw[Fh.j0]) ?_)
    by_cases h3:d.length=c.length
    · refine EvB.neg (by rw[h3];simp) ?_
      refine(sb_l0 c d (by omega) h3 _ 0 rfl (by omega)).congr ⟨fun h=>⟨by omega,by omega,h3,fun i hi=>h i (by omega) hi⟩,fun h i _ hi=>h.2.2.2 i hi⟩
    · exact EvB.pos (bne_iff_ne.mpr (by omega)) (EvB.ff (fun h=>h3 h.2.2.1))
  · refine EvB.neg (by simpa using h1) (EvB.step (fun k=>by rw[Fh.j0]) ?_)
    exact EvB.pos rfl (EvB.ff (fun h=>h1 ⟨by have:=h.1;omega,by have:=h.2.1;omega⟩))
end Go.Proofs.Ytfooakkhkehpiaa.Bk
