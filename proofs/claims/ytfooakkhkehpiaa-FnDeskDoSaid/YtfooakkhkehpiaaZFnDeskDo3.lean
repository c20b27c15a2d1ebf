/- FnDeskDo: for every input the law holds. No condition. -/
import Derived.Test.YtfooakkhkehpiaaZFnDeskDo1
import Derived.Test.YtfooakkhkehpiaaZFnDeskDo2
namespace Go.Proofs.Ytfooakkhkehpiaa.PU
open Go.RowKit Go.Proofs.YtfooakkhkehpiaaW.PrintWords Go.Proofs.YtfooakkhkehpiaaW.PrintLast Go.Proofs.YtfooakkhkehpiaaW.PrintMore Go.Proofs.Ytfooakkhkehpiaa.Qd
attribute [local go_sem] max2_int min2_int max_two min_two max_three min_three max_four min_four
set_option linter.unusedVariables false
set_option linter.unusedSimpArgs false
mutual
def Fe.j1:Nat->List (List Int)->Option ((List (List Int)))
 | 0,_=>none
 | k + 1,x3=>Fe.l1 k x3 1
def Fe.l1:Nat->List (List Int)->Int->Option ((List (List Int)))
 | 0,_,_=>none
 | k + 1,x3,x5=>if x5 < (x3.length:Int) then(Fe.l2 k x3 x5 x5) else(some x3)
def Fe.l2:Nat->List (List Int)->Int->Int->Option ((List (List Int)))
 | 0,_,_,_=>none
 | k + 1,x3,x5,x6=>if x6 > 0 then(if 0<=x6 then(if x6 < (x3.length:Int) then(if 0<=(wrap64 (x6 - 1)) then(if (wrap64 (x6 - 1)) < (x3.length:Int) then((Ga.f k (Jc x3 x6) (Jc x3 (wrap64 (x6 - 1)))).bind fun ap4=>(if ap4=true then(Fe.l2 k ((x3.set (x6:Int).toNat (Jc x3 (wrap64 (x6 - 1)))).set ((wrap64 (x6 - 1)):Int).toNat (Jc x3 x6)) x5 (wrap64 (x6 - 1))) else(Fe.l1 k x3 (wrap64 (x5 + 1))))) else(none)) else(none)) else(none)) else(none)) else(Fe.l1 k x3 (wrap64 (x5 + 1)))
def Fe.l0:Nat->List (List Int)->Int->List Int->List (List Int)->Option ((List (List Int)))
 | 0,_,_,_,_=>none
 | k + 1,x3,x4,dw6,fa1=>if x4 < (dw6.length:Int) then((Ff.f k dw6 fa1).bind fun fa2=>(if fa2=true then((Fb.f k dw6 fa1 (([x4]:List Int))).bind fun ae4=>(if x3.length + ae4.length < 5864062014805 then(Fe.l0 k (x3 ++ ae4) (wrap64 (x4 + 1)) dw6 fa1) else(none))) else(Fe.j1 k x3))) else(Fe.j1 k x3)
end
def Fe.f (k:Nat) (ab:List Int) (aa:List (List Int)):Option ((List (List Int))):=Fe.l0 k (([]:List (List Int))) 0 ab aa
theorem Fe.V_atq {α:Type} {d:Kd α} {e:Nat} {w w1:World} {base n:Nat} {ok:Nat->Prop} {v:Value} {xs:List α} (hq:World.drewN w n=w1) (h:Kd.V d e w base ok v xs):Kd.V d e w1 base ok v xs:=by subst hq;exact Kd.V_drewN h n
theorem f9 {p:Prop} (h:p:=by repeat(first|(with_reducible first|exact HB.out|apply G4|apply G3|apply G2|refine G1 ?_ fa3.out)|exact HB.out)):p:=h
set_option maxHeartbeats 8000000 in
set_option maxRecDepth 100000 in
theorem Fe.calls (k:Nat) (ae:Option Addr) (ac:Nat) (ab:List Int) (ag:Option Addr) (af:Nat) (aa:List (List Int)) (r:List (List Int)) (w:World) (ca:Kd.C (Kd.int .i64) w ae ab.length ab) (ce:ab.length<=ac) (cb:Kd.C (Kd.slice 3 (Kd.int .i64)) w ag aa.length aa) (cg:aa.length<=af) (h:Fe.f k ab aa=some r) :
  Calls Try.prog 95 #[.agg #[.slice ae ab.length ac, .slice ag aa.length af]] w fun e w'=>∃v0_:Value,e = .returned (v0_)/\Kd.N (Kd.slice 3 (Kd.int .i64)) 22 w' w.heap.size (fun k_=>(w.heap.size<=k_)) v0_ r/\Below w.heap.size w w':=by
 have hu25:=Try.underlying25
 have bu:=A_ ca
 have cq:=A_ ce
 clear ca ce
 have bf:=A_ cb
 have cu:=A_ cg
 clear cb cg
 have HB:=A_ (Below.refl w.heap.size w)
 have H:=h
 unfold Fe.f at H
 clear h
 obtain⟨gp1,hyq⟩:∃y_:List (List Int),y_=(([]:List (List Int))):=⟨_,rfl⟩
 replace H:(Fe.l0 k gp1 0 ab aa)=some r:=qh_
 have ck0:=A_ hyq
 clear hyq
 have wt:=A_ H
 clear H
 go_enter Try.func95,Try.ntmps95
 go_upto_block 0 with(first|((with_reducible refine gd_ 1 ?_);refine bx_ (N:=1) #[.slice ae ab.length ac, .slice ag aa.length af] 25 ?_;intro bo hg w3 hbox hb;have cw:=A_ (hbox);have gp2:=A_ ((g55_:w.heap.size<=bo));have fa3:=gp2;replace HB:=hs_ (f9) hb;clear hb hbox hg)|((with_reducible refine gd_ 8 ?_);refine Kd.N_lit (Kd.slice 3 (Kd.int .i64)) _ 22 ?hg (N':=8) ?hd (xs:=([]:List (List Int))) (inner:=[]) (ok:=(fun k_=>(w.heap.size<=k_)/\k_≠bo)) (okp:=(fun k_=>(w.heap.size<=k_)/\k_≠bo)) ?hr ?hp (fun _ hk=>hk) ((show ∀k_,w3.heap.size<=k_->(fun k_=>(w.heap.size<=k_)/\k_≠bo) k_ from fun k_ hk=>⟨(Nat.le_trans (G0 (f9)) hk),Kd.freshB (g:=bo) (o:=.cells #[.slice ae ab.length ac, .slice ag aa.length af] 25 (0,0)) (uf0_ cw) k_ hk⟩) _ (Nat.le_refl _)) (Below.refl _ _) (Nat.le_refl _) (by simp) ?_;(case hd=>rfl);(case hg=>rfl);(case hr=>first|(go_simp;done)|(go_simp;rfl));(case hp=>exact(Reps.none _ _));intro gp3 w4 ul hb hg_ hnew_;clear hg_ hnew_;(first|rw[<- ck0.out] at ul|(simp only[Int.reduceToNat] at ul;rw[<- ck0.out] at ul));have fa4:=A_ (Kd.N_lower ul (G0 (f9)));replace cw:=bb_ cw hb;replace HB:=hs_ (f9) hb;clear hb ul))
 repeat(go_quiet (first|((with_reducible refine gd_ 1 ?_);refine bx_ (N:=1) #[.slice ae ab.length ac, .slice ag aa.length af] 25 ?_;intro bo hg w3 hbox hb;have cw:=A_ (hbox);have gp2:=A_ ((g55_:w.heap.size<=bo));have fa3:=gp2;replace HB:=hs_ (f9) hb;clear hb hbox hg)|((with_reducible refine gd_ 8 ?_);refine Kd.N_lit (Kd.slice 3 (Kd.int .i64)) _ 22 ?hg (N':=8) ?hd (xs:=([]:List (List Int))) (inner:=[]) (ok:=(fun k_=>(w.heap.size<=k_)/\k_≠bo)) (okp:=(fun k_=>(w.heap.size<=k_)/\k_≠bo)) ?hr ?hp (fun _ hk=>hk) ((show ∀k_,w3.heap.size<=k_->(fun k_=>(w.heap.size<=k_)/\k_≠bo) k_ from fun k_ hk=>⟨(Nat.le_trans (G0 (f9)) hk),Kd.freshB (g:=bo) (o:=.cells #[.slice ae ab.length ac, .slice ag aa.length af] 25 (0,0)) (uf0_ cw) k_ hk⟩) _ (Nat.le_refl _)) (Below.refl _ _) (Nat.le_refl _) (by simp) ?_;(case hd=>rfl);(case hg=>rfl);(case hr=>first|(go_simp;done)|(go_simp;rfl));(case hp=>exact(Reps.none _ _));intro gp3 w4 ul hb hg_ hnew_;clear hg_ hnew_;(first|rw[<- ck0.out] at ul|(simp only[Int.reduceToNat] at ul;rw[<- ck0.out] at ul));have fa4:=A_ (Kd.N_lower ul (G0 (f9)));replace cw:=bb_ cw hb;replace HB:=hs_ (f9) hb;clear hb ul));go_upto_block 0 with(first|((with_reducible refine gd_ 1 ?_);refine bx_ (N:=1) #[.slice ae ab.length ac, .slice ag aa.length af] 25 ?_;intro bo hg w3 hbox hb;have cw:=A_ (hbox);have gp2:=A_ ((g55_:w.heap.size<=bo));have fa3:=gp2;replace HB:=hs_ (f9) hb;clear hb hbox hg)|((with_reducible refine gd_ 8 ?_);refine Kd.N_lit (Kd.slice 3 (Kd.int .i64)) _ 22 ?hg (N':=8) ?hd (xs:=([]:List (List Int))) (inner:=[]) (ok:=(fun k_=>(w.heap.size<=k_)/\k_≠bo)) (okp:=(fun k_=>(w.heap.size<=k_)/\k_≠bo)) ?hr ?hp (fun _ hk=>hk) ((show ∀k_,w3.heap.size<=k_->(fun k_=>(w.heap.size<=k_)/\k_≠bo) k_ from fun k_ hk=>⟨(Nat.le_trans (G0 (f9)) hk),Kd.freshB (g:=bo) (o:=.cells #[.slice ae ab.length ac, .slice ag aa.length af] 25 (0,0)) (uf0_ cw) k_ hk⟩) _ (Nat.le_refl _)) (Below.refl _ _) (Nat.le_refl _) (by simp) ?_;(case hd=>rfl);(case hg=>rfl);(case hr=>first|(go_simp;done)|(go_simp;rfl));(case hp=>exact(Reps.none _ _));intro gp3 w4 ul hb hg_ hnew_;clear hg_ hnew_;(first|rw[<- ck0.out] at ul|(simp only[Int.reduceToNat] at ul;rw[<- ck0.out] at ul));have fa4:=A_ (Kd.N_lower ul (G0 (f9)));replace cw:=bb_ cw hb;replace HB:=hs_ (f9) hb;clear hb ul)))
 (try simp only[Act.put,List.setIfInBounds_toArray,List.set_cons_zero,List.set_cons_succ])
 go_cut [3] (fun v3 wc=>∃(kq:Nat) (cj:List (List Int)),Gy (Fe.j1 kq cj=some r)/\Gy (kq<=k)/\Gy (Kd.N (Kd.slice 3 (Kd.int .i64)) 22 wc w.heap.size (fun k_=>(w.heap.size<=k_)/\k_≠bo) v3 cj)/\Gy (hc_ wc bo #[(.slice ae ab.length ac),(.slice ag aa.length af)] 25)/\Gy (Below w.heap.size w wc))
 case first=>
  have H:=wt.out
  clear wt
  have H':=A_ H
  clear H
  go_wp2
  repeat(go_quiet (fail);try go_wp2)
  go_loopg [3,4] k (fun kq v3 v4 w'=>∃(cj:List (List Int)) (a8:Int),v4 = .int .i64 a8/\Gy (Fe.l0 kq cj a8 ab aa=some r)/\Gy (kq<=k)/\Gy (Kd.N (Kd.slice 3 (Kd.int .i64)) 22 w' w.heap.size (fun k_=>(w.heap.size<=k_)/\k_≠bo) v3 cj)/\Gy (hc_ w' bo #[(.slice ae ab.length ac),(.slice ag aa.length af)] 25)/\Gy (Below w.heap.size w w'))
  case atStart=>exact⟨(gp1),(0),(g2_),H',⟨Nat.le_refl _⟩,⟨uf4_ fa4⟩,⟨uf0_ cw⟩,⟨f9⟩⟩
  clear H'
  obtain⟨cj,a8,rfl,HA,HK1,au,cw,HB⟩:=hrel
  cases gk with
  | zero=>exact absurd HA.out (by simp[Fe.l0])
  | succ k1=>?_
  have H:=HA.out
  clear HA
  simp only[Fe.l0] at H
  by_cases c6:a8 < (ab.length:Int)
  case neg=>
   rw[if_neg c6] at H
   have nk:=decide_eq_false c6
   clear c6
   (first|rw[nk]|(simp only[i64_w,i32_w];rw[nk])|skip)
   have H':=A_ H
   clear H
   obtain⟨an3,an4,an5,an6⟩:=blk2_ cw
   go_wp2
   repeat(go_quiet (fail);try go_wp2)
   go_meet
   case rel=>exact⟨_,(cj),H',⟨by have:=HK1.out;first|omega|exact Nat.le_refl _⟩,⟨uf4_ au⟩,⟨uf0_ cw⟩,⟨f9⟩⟩
  rw[if_pos c6] at H
  have nk:=decide_eq_true c6
  clear c6
  (first|rw[nk]|(simp only[i64_w,i32_w];rw[nk])|skip)
  obtain⟨fa2,A7,H⟩:=bind_ H
  by_cases c8:fa2=true
  case neg=>
   replace c8:=Bool.eq_false_iff.mpr c8
   subst c8
   replace H:=ifn_ H
   have H':=A_ H
   clear H
   obtain⟨cz3,cz4,cz5,cz6⟩:=blk2_ cw
   iterate 2 (go_wp2_with (first|(go_at_call 42;(refine(Ff.calls k1 _ _ ab _ _ aa false _ (uf1_ bu) cq.out (uf1_ bf) cu.out A7.out).mono ?_);rintro e j5 ⟨rfl,hb⟩;replace au:=nb_ au hb;replace cw:=bb_ cw hb;replace HB:=hs_ (f9) hb));try(go_quiet (first|(go_at_call 42;(refine(Ff.calls k1 _ _ ab _ _ aa false _ (uf1_ bu) cq.out (uf1_ bf) cu.out A7.out).mono ?_);rintro e j5 ⟨rfl,hb⟩;replace au:=nb_ au hb;replace cw:=bb_ cw hb;replace HB:=hs_ (f9) hb))))
   go_meet
   case rel=>exact⟨_,(cj),H',⟨by have:=HK1.out;first|omega|exact Nat.le_refl _⟩,⟨uf4_ au⟩,⟨uf0_ cw⟩,⟨f9⟩⟩
  subst c8
  replace H:=ifp_ H
  obtain⟨um,hyq⟩:∃y_:List Int,y_=(([a8]:List Int)):=⟨_,rfl⟩
  replace H:((Fb.f k1 ab aa um).bind fun ae4=>(if cj.length + ae4.length < 5864062014805 then(Fe.l0 k1 (cj ++ ae4) (wrap64 (a8 + 1)) ab aa) else(none)))=some r:=qh_
  have ck1:=A_ hyq
  clear hyq
  obtain⟨ae4,A9,H⟩:=bind_ H
  obtain⟨fb,H⟩:=pos_ H
  have fa5:=A_ fb
  clear fb
  obtain⟨gp4,hyq⟩:∃y_:List (List Int),y_=(cj ++ ae4):=⟨_,rfl⟩
  replace H:(Fe.l0 k1 gp4 (wrap64 (a8 + 1)) ab aa)=some r:=qh_
  have fa6:=A_ hyq
  clear hyq
  have H':=A_ H
  clear H
  obtain⟨yu,yv,yw,yx⟩:=blk2_ cw
  iterate 2 (go_wp2_with (first|(go_at_call 42;(refine(Ff.calls k1 _ _ ab _ _ aa true _ (uf1_ bu) cq.out (uf1_ bf) cu.out A7.out).mono ?_);rintro e ws ⟨rfl,hb⟩;replace au:=nb_ au hb;replace cw:=bb_ cw hb;replace HB:=hs_ (f9) hb;obtain⟨tc,td,te,tf⟩:=blk2_ cw)|((with_reducible refine gd_ 23 ?_);refine rle_ 23 [a8] ?_;intro gp5 w14 rl hb hg_ hnew_;clear hg_ hnew_;(first|rw[<- ck1.out] at rl|(simp only[Int.reduceToNat] at rl;rw[<- ck1.out] at rl));replace au:=A_ (Kd.N_elder' (uf4_ au) (Kd.R_base rl) hb);have me:=A_ (Kd.R_lower (Kd.R_newM (M:=fun k_=>(w.heap.size<=k_)) rl (G0 (f9)) (fun k_ h_=>h_)) (G0 (f9)));replace cw:=bb_ cw hb;replace HB:=hs_ (f9) hb;clear hb rl;obtain⟨j9,jy,at5⟩:=Kd.R_slice me.out;subst at5)|(go_at_call 113;(refine(Fb.calls k1 _ _ ab _ _ aa _ _ um ae4 _ (uf1_ bu) cq.out (uf1_ bf) cu.out (cR_ me) (lR_ me) A9.out).mono ?_);rintro e j4 ⟨gp6,rfl,aj,hb⟩;have au9:=A_ (Kd.N_lower (Kd.N_mono (ok':=fun k_=>(w.heap.size<=k_)/\some k_≠(u3:Value).ownBlock/\some k_≠(.slice j9 um.length jy:Value).ownBlock/\k_≠bo) aj (fun k_ hk_=>⟨(Nat.le_trans (G0 (f9)) hk_),(Kd.fresh' (Kd.N_lt (uf4_ au)) k_ hk_),(Kd.fresh' (Kd.R_lt (uf2_ me)) k_ hk_),(Kd.freshB (g:=bo) (o:=.cells #[.slice ae ab.length ac, .slice ag aa.length af] 25 (0,0)) (uf0_ cw) k_ hk_)⟩)) (G0 (f9)));replace au:=A_ (Kd.N_elder' (uf4_ au) (Kd.N_base aj) hb);replace me:=rb_ me hb;replace cw:=bb_ cw hb;replace HB:=hs_ (f9) hb;obtain⟨g3,gf,sn⟩:=Kd.N_slice au9.out;subst sn)|((with_reducible refine gate_builtin (b:=.append) (xs:=#[.tmp 20, .tmp 24]) rfl ?_);at_builtin;refine Kd.N_append_rows (Kd.slice 3 (Kd.int .i64)) (w0:=w) w.heap.size rfl (.tmp 20) (.tmp 24) 23 22 (.slice none 0 0) 24 rfl Try.underlying23 info22 rfl (by decide) (by omega) u3 cj ae4 _ _ _ (fun k_=>(w.heap.size<=k_)/\some k_≠(.slice j9 um.length jy:Value).ownBlock/\k_≠bo) (fun k_=>((fun k_=>(w.heap.size<=k_)/\some k_≠(.slice j9 um.length jy:Value).ownBlock/\k_≠bo)) k_/\some k_≠(u3:Value).ownBlock) rfl rfl ?aO ?aR (fun _ hk=>hk) ?aF ?aB ?aS ?aL ?_;(case aR=>exact(g128_));(case aB=>exact(f9));(case aF=>exact(fun k_ hk=>⟨(Nat.le_trans (G0 (f9)) hk),Kd.fresh' (Kd.R_lt (uf2_ me)) k_ hk,Kd.freshB (g:=bo) (o:=.cells #[.slice ae ab.length ac, .slice ag aa.length af] 25 (0,0)) (uf0_ cw) k_ hk⟩));(case aO=>exact(g129_));(case aS=>exact(G0 (f9)));(case aL=>have:=fa5.out;omega);intro gp7 pp ho hb hg hat;rw[<- fa6.out] at ho;replace cw:=(bg_ cw hg (Kd.N_ne au.out cw.out (by decide)));replace me:=A_ (Kd.R_over' (uf2_ me) (Kd.N_typed (uf4_ au)) (by decide) hg);replace au9:=A_ (Kd.N_afterv (ok:=(fun k_=>(w.heap.size<=k_)/\some k_≠(.slice j9 um.length jy:Value).ownBlock/\k_≠bo)) (g130_) hg hat);replace HB:=A_ (hb);have fa7:=A_ (ho);clear au;clear ho hb hg hat));try(go_quiet (first|(go_at_call 42;(refine(Ff.calls k1 _ _ ab _ _ aa true _ (uf1_ bu) cq.out (uf1_ bf) cu.out A7.out).mono ?_);rintro e ws ⟨rfl,hb⟩;replace au:=nb_ au hb;replace cw:=bb_ cw hb;replace HB:=hs_ (f9) hb;obtain⟨tc,td,te,tf⟩:=blk2_ cw)|(go_at_call 113;(refine(Fb.calls k1 _ _ ab _ _ aa _ _ um ae4 _ (uf1_ bu) cq.out (uf1_ bf) cu.out (cR_ me) (lR_ me) A9.out).mono ?_);rintro e j4 ⟨gp6,rfl,aj,hb⟩;have au9:=A_ (Kd.N_lower (Kd.N_mono (ok':=fun k_=>(w.heap.size<=k_)/\some k_≠(u3:Value).ownBlock/\some k_≠(.slice j9 um.length jy:Value).ownBlock/\k_≠bo) aj (fun k_ hk_=>⟨(Nat.le_trans (G0 (f9)) hk_),(Kd.fresh' (Kd.N_lt (uf4_ au)) k_ hk_),(Kd.fresh' (Kd.R_lt (uf2_ me)) k_ hk_),(Kd.freshB (g:=bo) (o:=.cells #[.slice ae ab.length ac, .slice ag aa.length af] 25 (0,0)) (uf0_ cw) k_ hk_)⟩)) (G0 (f9)));replace au:=A_ (Kd.N_elder' (uf4_ au) (Kd.N_base aj) hb);replace me:=rb_ me hb;replace cw:=bb_ cw hb;replace HB:=hs_ (f9) hb;obtain⟨g3,gf,sn⟩:=Kd.N_slice au9.out;subst sn))))
  go_roundg k1
  case measure=>have:=HK1.out;omega
  case rel=>exact⟨(gp4),(wrap64 (a8 + 1)),(g2_),H',⟨g13_⟩,⟨by(with_reducible repeat(first|apply Kd.N_alloc|apply Kd.N_drewN|apply Kd.N_drew));exact Kd.N_mono fa7.out (fun _ hk=>⟨hk.1,hk.2.2⟩)⟩,⟨uf0_ cw⟩,⟨f9⟩⟩
 clear wt
 obtain⟨kq,cj,HA,HJ1,au,cw,HB⟩:=hcut
 cases kq with
 | zero=>exact absurd HA.out (by simp[Fe.j1])
 | succ kj1=>?_
 have H:=HA.out
 clear HA
 simp only[Fe.j1] at H
 have H':=A_ H
 clear H
 go_wp2
 repeat(go_quiet (fail);try go_wp2)
 go_loopg [5] kj1 (fun kq v5 w'=>∃(b6:List (List Int)) (b3:Int),v5 = .int .i64 b3/\Gy (Fe.l1 kq b6 b3=some r)/\Gy (kq<=kj1)/\Gy (Kd.N (Kd.slice 3 (Kd.int .i64)) 22 w' w.heap.size (fun k_=>(w.heap.size<=k_)/\k_≠bo) u3 b6)/\Gy (hc_ w' bo #[(.slice ae ab.length ac),(.slice ag aa.length af)] 25)/\Gy (Below w.heap.size w w'))
 case atStart=>exact⟨(cj),(1),(g2_),H',⟨Nat.le_refl _⟩,⟨uf4_ au⟩,⟨uf0_ cw⟩,⟨f9⟩⟩
 clear H'
 obtain⟨b6,b3,rfl,HA,HK2,au,cw,HB⟩:=hrel
 cases gk with
 | zero=>exact absurd HA.out (by simp[Fe.l1])
 | succ k2=>?_
 have H:=HA.out
 clear HA
 simp only[Fe.l1] at H
 by_cases kw:b3 < (b6.length:Int)
 case neg=>
  rw[if_neg kw] at H
  have ba3:=decide_eq_false kw
  clear kw
  obtain rfl:=Option.some.inj H
  obtain⟨lx,la,ai2⟩:=Kd.N_slice au.out
  subst ai2
  go_wp2
  repeat(go_quiet (fail);try go_wp2)
  go_ret
  exact⟨_,g4_,by(with_reducible repeat(first|apply Kd.N_alloc|apply Kd.N_drewN|apply Kd.N_drew));exact Kd.N_mono au.out (fun _ hk=>hk.1),f9⟩
 rw[if_pos kw] at H
 have ba3:=decide_eq_true kw
 clear kw
 have H':=A_ H
 clear H
 obtain⟨at9,ej,ci3⟩:=Kd.N_slice au.out
 subst ci3
 go_wp2
 repeat(go_quiet (fail);try go_wp2)
 go_loopg [6] k2 (fun kq v6 w'=>∃(aw:List (List Int)) (dd:Int),v6 = .int .i64 dd/\Gy (Fe.l2 kq aw b3 dd=some r)/\Gy (kq<=k2)/\Gy (Kd.N (Kd.slice 3 (Kd.int .i64)) 22 w' w.heap.size (fun k_=>(w.heap.size<=k_)/\k_≠bo) (.slice at9 b6.length ej) aw)/\Gy (hc_ w' bo #[(.slice ae ab.length ac),(.slice ag aa.length af)] 25)/\Gy (Below w.heap.size w w'))
 case atStart=>exact⟨(b6),(b3),(g2_),H',⟨Nat.le_refl _⟩,⟨uf4_ au⟩,⟨uf0_ cw⟩,⟨f9⟩⟩
 clear H'
 obtain⟨aw,dd,rfl,HA,HK3,au,cw,HB⟩:=hrel
 have bl6:=(Kd.N_reads' au.out).1
 rw[bl6] at au
 (try simp only[bl6])
 (try simp only[bl6] at cw)
 cases gk with
 | zero=>exact absurd HA.out (by simp[Fe.l2])
 | succ k3=>?_
 have H:=HA.out
 clear HA
 simp only[Fe.l2] at H
 by_cases mw:dd > 0
 case neg=>
  rw[if_neg mw] at H
  have bh9:=decide_eq_false mw
  clear mw
  have H':=A_ H
  clear H
  go_wp2
  repeat(go_quiet (fail);try go_wp2)
  (try simp only[<- bl6])
  go_roundg k3
  case measure=>have:=HJ1.out;have:=HK2.out;have:=HK3.out;omega
  case rel=>exact⟨(aw),(wrap64 (b3 + 1)),(g2_),H',⟨g133_⟩,⟨g134_⟩,⟨g135_⟩,⟨f9⟩⟩
 rw[if_pos mw] at H
 have bh9:=decide_eq_true mw
 clear mw
 obtain⟨ch1,H⟩:=pd_ H
 obtain⟨bt2,H⟩:=pd_ H
 obtain⟨ji28,hji28⟩:∃j_:Int,(wrap64 (dd - 1))=j_:=⟨_,rfl⟩
 first|rw[hji28] at H|simp only[hji28] at H
 have hji28w:(IntKind.i64.wrap (dd - 1))=ji28:=(i64_w _).trans hji28
 obtain⟨gp8,H⟩:=pd_ H
 obtain⟨ci6,H⟩:=pd_ H
 obtain⟨ap4,A31,H⟩:=bind_ H
 by_cases uk:ap4=true
 ·subst uk
  replace H:=ifp_ H
  obtain⟨ap5,hyq⟩:∃y_:List (List Int),y_=(aw.set (dd:Int).toNat (Jc aw (ji28))):=⟨_,rfl⟩
  replace H:(Fe.l2 k3 (ap5.set ((ji28):Int).toNat (Jc aw dd)) b3 ji28)=some r:=qh_
  have fa8:=A_ hyq
  clear hyq
  obtain⟨dc6,hyq⟩:∃y_:List (List Int),y_=(ap5.set ((ji28):Int).toNat (Jc aw dd)):=⟨_,rfl⟩
  replace H:(Fe.l2 k3 dc6 b3 ji28)=some r:=qh_
  have fa9:=A_ hyq
  clear hyq
  have H':=A_ H
  clear H
  have bc3:0<=(dd:Int):=od_
  have bc4:dd < (aw.length:Int):=od_
  obtain⟨bc5,av0,av1,fb0,bc6,dc7,dc8⟩:=at_L1 (Kd.N_reads' au.out).2.2 dd bc3 bc4
  cases fb0
  obtain⟨ce291,hce291,hMe291,hcc291⟩:=Kd.N_get au.out [] dd bc3 (by first|exact bc4|exact od_|(have e_:=(Kd.N_reads' au.out).1;omega))
  obtain⟨ua291_0,uc291_0,rfl,ul291_0,ge291_0⟩:=Kd.FK_slice_open hMe291
  have hv291_0:=hcc291 0 _ rfl
  rw[Nat.add_zero,show((Kd.slice 3 (Kd.int .i64))).sz=1 from rfl,Nat.mul_one] at hv291_0
  replace hv291_0:=Option.some.inj (hv291_0.symm.trans bc6)
  injection hv291_0 with hva_ hvn_ hvc_
  rw[hva_] at ge291_0
  rw[hvc_] at ul291_0
  have oe:=A_ (show Kd.V (Kd.int .i64) 3 _ w.heap.size _ _ (Jc aw dd) from Kd.V_mk ul291_0 ge291_0)
  clear hva_ hvn_ hvc_ ge291_0 ul291_0
  clear hcc291 hce291
  have fb1:=A_ dc8
  have by2:=A_ dc7
  clear dc8 dc7
  replace bc3:=eq_true bc3
  replace bc4:=eq_true bc4
  have bc7:0<=((ji28):Int):=od_
  have bc8:(ji28) < (aw.length:Int):=od_
  obtain⟨fb2,av2,av3,fb3,bc9,dc9,dd0⟩:=at_L1 (Kd.N_reads' au.out).2.2 (ji28) bc7 bc8
  obtain rfl:bc5=fb2:=(by injection fb3)
  obtain⟨ce292,hce292,hMe292,hcc292⟩:=Kd.N_get au.out [] (ji28) bc7 (by first|exact bc8|exact od_|(have e_:=(Kd.N_reads' au.out).1;omega))
  obtain⟨ua292_0,uc292_0,rfl,ul292_0,ge292_0⟩:=Kd.FK_slice_open hMe292
  have hv292_0:=hcc292 0 _ rfl
  rw[Nat.add_zero,show((Kd.slice 3 (Kd.int .i64))).sz=1 from rfl,Nat.mul_one] at hv292_0
  replace hv292_0:=Option.some.inj (hv292_0.symm.trans bc9)
  injection hv292_0 with hva_ hvn_ hvc_
  rw[hva_] at ge292_0
  rw[hvc_] at ul292_0
  have og:=A_ (show Kd.V (Kd.int .i64) 3 _ w.heap.size _ _ (Jc aw (ji28)) from Kd.V_mk ul292_0 ge292_0)
  clear hva_ hvn_ hvc_ ge292_0 ul292_0
  clear hcc292 hce292
  have fb4:=A_ dd0
  have by3:=A_ dc9
  clear dd0 dc9
  replace bc7:=eq_true bc7
  replace bc8:=eq_true bc8
  iterate 2 (go_wp2_with (first|(go_at_call 114;(refine(Ga.calls k3 _ _ (Jc aw dd) _ _ (Jc aw (ji28)) true _ (cu_ (g56_)) by2.out (cu_ (g57_)) by3.out A31.out).mono ?_);rintro e w' ⟨rfl,⟨nd,rfl⟩⟩;(try first|exact⟨rfl,_,World.drewN_drewN _ _ _⟩|exact⟨rfl,_,Eq.trans (World.drewN_drewN _ _ _) (congrArg (World.drewN _) (Nat.add_assoc _ _ _))⟩);have zn:0<=(dd:Int):=od_;have ai0:dd < (aw.length:Int):=od_;obtain⟨dd1,gp9,gq0,dd2,ap6,bl7,bl8⟩:=at_L1 (Kd.N_reads' au.out).2.2 dd zn ai0;obtain rfl:bc5=dd1:=(by injection dd2);obtain⟨ce294,hce294,hMe294,hcc294⟩:=Kd.N_get au.out [] dd zn (g131_);obtain⟨ua294_0,uc294_0,rfl,ul294_0,ge294_0⟩:=Kd.FK_slice_open hMe294;have hv294_0:=hcc294 0 _ rfl;rw[Nat.add_zero,show((Kd.slice 3 (Kd.int .i64))).sz=1 from rfl,Nat.mul_one] at hv294_0;replace hv294_0:=Option.some.inj (hv294_0.symm.trans ap6);injection hv294_0 with hva_ hvn_ hvc_;rw[hva_] at ge294_0;rw[hvc_] at ul294_0;have jr:=A_ (show Kd.V (Kd.int .i64) 3 _ w.heap.size _ _ (Jc aw dd) from Kd.V_mk ul294_0 ge294_0);clear hva_ hvn_ hvc_ ge294_0 ul294_0;clear hcc294 hce294;have gq1:=A_ bl8;have gq2:=A_ bl7;clear bl8 bl7;replace zn:=eq_true zn;replace ai0:=eq_true ai0;have ea_:=Option.some.inj (bc6.symm.trans ap6);injection ea_ with ea_ en_ ec_;subst ea_;subst ec_;clear en_;have zo:0<=((ji28):Int):=od_;have ai1:(ji28) < (aw.length:Int):=od_;obtain⟨dd3,gq3,gq4,dd4,ap7,bl9,bm0⟩:=at_L1 (Kd.N_reads' au.out).2.2 (ji28) zo ai1;obtain rfl:bc5=dd3:=(by injection dd4);obtain⟨ce295,hce295,hMe295,hcc295⟩:=Kd.N_get au.out [] (ji28) zo (g132_);obtain⟨ua295_0,uc295_0,rfl,ul295_0,ge295_0⟩:=Kd.FK_slice_open hMe295;have hv295_0:=hcc295 0 _ rfl;rw[Nat.add_zero,show((Kd.slice 3 (Kd.int .i64))).sz=1 from rfl,Nat.mul_one] at hv295_0;replace hv295_0:=Option.some.inj (hv295_0.symm.trans ap7);injection hv295_0 with hva_ hvn_ hvc_;rw[hva_] at ge295_0;rw[hvc_] at ul295_0;have js:=A_ (show Kd.V (Kd.int .i64) 3 _ w.heap.size _ _ (Jc aw (ji28)) from Kd.V_mk ul295_0 ge295_0);clear hva_ hvn_ hvc_ ge295_0 ul295_0;clear hcc295 hce295;have gq5:=A_ bm0;have gq6:=A_ bl9;clear bm0 bl9;replace zo:=eq_true zo;replace ai1:=eq_true ai1;have ea_:=Option.some.inj (bc9.symm.trans ap7);injection ea_ with ea_ en_ ec_;subst ea_;subst ec_;clear en_;have p33:0<=(dd:Int):=od_;have q33:(dd:Int) < ((aw.length:Int):Int):=od_;obtain⟨ck,er,av4,bm1,gl33,cl33,HG33⟩:=Kd.N_form au.out (by omega);(first|cases av4|(injection av4 with ea_ en_ ec_;(first|subst ea_|(injection ea_ with ea_;subst ea_));subst ec_;clear en_));have GB33:=A_ bm1;have GG33:=A_ HG33;clear bm1 gl33 HG33;(first|simp only[add_plain] at bc6|skip);(first|simp only[add_plain] at bc9|skip);(first|simp only[add_plain] at ap6|skip);(first|simp only[add_plain] at ap7|skip);obtain⟨ce33,hcl33,hM33,hcc33,hfr33⟩:=Kd.N_elem au.out [] (dd:Int) p33 q33;obtain⟨ua33_0,uc33_0,rfl,ul33_0,ge33_0⟩:=Kd.FK_slice_open hM33;have dd5:=hcc33 0 _ rfl;have hf33_0:=hfr33 0;(try simp only[show((Kd.slice 3 (Kd.int .i64))).sz=1 from rfl,Nat.mul_one,Nat.add_zero] at dd5);(try simp only[show((Kd.slice 3 (Kd.int .i64))).sz=1 from rfl,Nat.mul_one,Nat.add_zero] at hf33_0);clear hcl33 hcc33 hfr33 hM33;replace p33:=eq_true p33;replace q33:=eq_true q33;have HX35:=A_ (show Kd.N (Kd.slice 3 (Kd.int .i64)) 22 wr w.heap.size (fun k_=>(w.heap.size<=k_)/\k_≠bo) (.slice (some ⟨ck,0,none⟩) aw.length ej) aw from(uf4_ au));obtain⟨ce35,hcl35,hM35,hcc35,hfr35⟩:=Kd.N_elem HX35.out [] (dd:Int) (od_) (by have h_:(dd:Int) < ((aw.length:Int):Int):=od_;first|exact h_|(have e_:=(Kd.N_reads' au.out).1;omega)|simpa using h_);obtain⟨ua35_0,uc35_0,rfl,ul35_0,ge35_0⟩:=Kd.FK_slice_open hM35;have HP35:=Kd.N_seg HX35.out (dd:Int) (od_) (by have h_:(dd:Int) < ((aw.length:Int):Int):=od_;first|exact h_|(have e_:=(Kd.N_reads' au.out).1;omega)|simpa using h_) (seg:=[.slice av2 (Jc aw (ji28)).length av3]) (j:=0) hcl35 hcc35 (show 1<=1 from by decide) (x':=Jc aw (ji28)) (Kd.FK_slice_mk (Kd.V_reads' (Kd.V_mono (ok':=(fun k_=>((fun k_=>(w.heap.size<=k_)/\k_≠bo)) k_/\k_≠ck)) (js.out) (fun k_ hk=>⟨⟨hk.1.1,hk.1.2⟩,fun e_=>(hk.2) (g6_)⟩))).2.1 (Kd.V_F (Kd.V_mono (ok':=(fun k_=>((fun k_=>(w.heap.size<=k_)/\k_≠bo)) k_/\k_≠ck)) (js.out) (fun k_ hk=>⟨⟨hk.1.1,hk.1.2⟩,fun e_=>(hk.2) (g6_)⟩)))) (fun _ hk=>hk);have ad9:=hcc35 0 _ rfl;(try simp only[show((Kd.slice 3 (Kd.int .i64))).sz=1 from rfl,Nat.mul_one,Nat.add_zero] at ad9);have hf35_0:=hfr35 0;(try simp only[show((Kd.slice 3 (Kd.int .i64))).sz=1 from rfl,Nat.mul_one,Nat.add_zero] at hf35_0);clear hcl35 hcc35 hfr35 hM35;(try simp only[show((Kd.slice 3 (Kd.int .i64))).sz=1 from rfl,Nat.mul_one,Nat.add_zero] at HP35);(try simp only[show((Kd.slice 3 (Kd.int .i64))).sz=1 from rfl,Nat.mul_one,Nat.add_zero] at HP35))|((with_reducible refine gate_store (t:=22) (p:=60) rfl ?_);(try(rw[drewN_self wr];generalize hq_:World.drewN wr _=wr;replace au:=A_ (Kd.N_at hq_ au.out);replace oe:=A_ (Fe.V_atq hq_ oe.out);replace og:=A_ (Fe.V_atq hq_ og.out);replace jr:=A_ (Fe.V_atq hq_ jr.out);replace js:=A_ (Fe.V_atq hq_ js.out);replace cw:=A_ (blk_at hq_ cw.out);replace HB:=A_ (below_at hq_ HB.out);clear hq_;(try(have HX35:=A_ (show Kd.N (Kd.slice 3 (Kd.int .i64)) 22 wr w.heap.size (fun k_=>(w.heap.size<=k_)/\k_≠bo) (.slice (some ⟨ck,0,none⟩) aw.length ej) aw from(uf4_ au))));(try(obtain⟨ce35,hcl35,hM35,hcc35,hfr35⟩:=Kd.N_elem HX35.out [] (dd:Int) (od_) (by have h_:(dd:Int) < ((aw.length:Int):Int):=od_;first|exact h_|(have e_:=(Kd.N_reads' au.out).1;omega)|simpa using h_)));(try(obtain⟨ua35_0,uc35_0,rfl,ul35_0,ge35_0⟩:=Kd.FK_slice_open hM35));(try(have HP35:=Kd.N_seg HX35.out (dd:Int) (od_) (by have h_:(dd:Int) < ((aw.length:Int):Int):=od_;first|exact h_|(have e_:=(Kd.N_reads' au.out).1;omega)|simpa using h_) (seg:=[.slice av2 (Jc aw (ji28)).length av3]) (j:=0) hcl35 hcc35 (show 1<=1 from by decide) (x':=Jc aw (ji28)) (Kd.FK_slice_mk (Kd.V_reads' (Kd.V_mono (ok':=(fun k_=>((fun k_=>(w.heap.size<=k_)/\k_≠bo)) k_/\k_≠ck)) (js.out) (fun k_ hk=>⟨⟨hk.1.1,hk.1.2⟩,fun e_=>(hk.2) (g6_)⟩))).2.1 (Kd.V_F (Kd.V_mono (ok':=(fun k_=>((fun k_=>(w.heap.size<=k_)/\k_≠bo)) k_/\k_≠ck)) (js.out) (fun k_ hk=>⟨⟨hk.1.1,hk.1.2⟩,fun e_=>(hk.2) (g6_)⟩)))) (fun _ hk=>hk)));(try(have ad9:=hcc35 0 _ rfl));(try(try simp only[show((Kd.slice 3 (Kd.int .i64))).sz=1 from rfl,Nat.mul_one,Nat.add_zero] at ad9));(try(have hf35_0:=hfr35 0));(try(try simp only[show((Kd.slice 3 (Kd.int .i64))).sz=1 from rfl,Nat.mul_one,Nat.add_zero] at hf35_0));(try(clear hcl35 hcc35 hfr35 hM35));(try(try simp only[show((Kd.slice 3 (Kd.int .i64))).sz=1 from rfl,Nat.mul_one,Nat.add_zero] at HP35));(try(try simp only[show((Kd.slice 3 (Kd.int .i64))).sz=1 from rfl,Nat.mul_one,Nat.add_zero] at HP35))));refine store_event (t:=22) (p:=60) (v:=?vo_w36) (w1:=(wr.setCell ⟨ck,(dd:Int).toNat,none⟩ (.slice av2 (Jc aw (ji28)).length av3))) ?hg ?ho ?hn ?hr ?_;(case ho=>rfl);(case hg=>rfl);(case hn=>rfl);(case hr=>first|(go_simp;done)|(go_simp;rfl));intro jq hw;have hg:wr.grownBy jq (some ck):=(by rw[hw];exact HP35.2);have hp_:Kd.N (Kd.slice 3 (Kd.int .i64)) 22 jq w.heap.size (fun k_=>(w.heap.size<=k_)/\k_≠bo) (.slice (some ⟨ck,0,none⟩) aw.length ej) ap5:=(by rw[hw,fa8.out];exact HP35.1);clear HP35;replace cw:=(bg_ cw hg (Kd.N_ne au.out cw.out (by decide)));replace au:=A_ (hp_);replace oe:=A_ (Kd.V_afterv (v:=(.slice (some ⟨ck,0,none⟩) aw.length ej)) (v1:=(.slice (some ⟨ck,0,none⟩) aw.length ej)) (ok:=(fun k_=>(w.heap.size<=k_)/\k_≠bo)) (uf5_ oe) hg (.inl rfl));replace og:=A_ (Kd.V_afterv (v:=(.slice (some ⟨ck,0,none⟩) aw.length ej)) (v1:=(.slice (some ⟨ck,0,none⟩) aw.length ej)) (ok:=(fun k_=>(w.heap.size<=k_)/\k_≠bo)) (uf5_ og) hg (.inl rfl));replace jr:=A_ (Kd.V_afterv (v:=(.slice (some ⟨ck,0,none⟩) aw.length ej)) (v1:=(.slice (some ⟨ck,0,none⟩) aw.length ej)) (ok:=(fun k_=>(w.heap.size<=k_)/\k_≠bo)) (uf5_ jr) hg (.inl rfl));replace js:=A_ (Kd.V_afterv (v:=(.slice (some ⟨ck,0,none⟩) aw.length ej)) (v1:=(.slice (some ⟨ck,0,none⟩) aw.length ej)) (ok:=(fun k_=>(w.heap.size<=k_)/\k_≠bo)) (uf5_ js) hg (.inl rfl));replace HB:=A_ ((g58_:Below w.heap.size w jq));clear hg hw hp_;have p34:0<=((ji28):Int):=od_;have q34:((ji28):Int) < ((aw.length:Int):Int):=od_;obtain⟨ce34,hcl34,hM34,hcc34,hfr34⟩:=Kd.N_elem au.out [] ((ji28):Int) p34 q34;obtain⟨ua34_0,uc34_0,rfl,ul34_0,ge34_0⟩:=Kd.FK_slice_open hM34;have dd6:=hcc34 0 _ rfl;have hf34_0:=hfr34 0;(try simp only[show((Kd.slice 3 (Kd.int .i64))).sz=1 from rfl,Nat.mul_one,Nat.add_zero] at dd6);(try simp only[show((Kd.slice 3 (Kd.int .i64))).sz=1 from rfl,Nat.mul_one,Nat.add_zero] at hf34_0);clear hcl34 hcc34 hfr34 hM34;replace p34:=eq_true p34;replace q34:=eq_true q34;have HX37:=A_ (show Kd.N (Kd.slice 3 (Kd.int .i64)) 22 jq w.heap.size (fun k_=>(w.heap.size<=k_)/\k_≠bo) (.slice (some ⟨ck,0,none⟩) aw.length ej) ap5 from(uf4_ au));obtain⟨ce37,hcl37,hM37,hcc37,hfr37⟩:=Kd.N_elem HX37.out [] ((ji28):Int) (od_) (by have h_:((ji28):Int) < ((aw.length:Int):Int):=od_;first|exact h_|(have e_:=(Kd.N_reads' au.out).1;omega)|simpa using h_);obtain⟨ua37_0,uc37_0,rfl,ul37_0,ge37_0⟩:=Kd.FK_slice_open hM37;have HP37:=Kd.N_seg HX37.out ((ji28):Int) (od_) (by have h_:((ji28):Int) < ((aw.length:Int):Int):=od_;first|exact h_|(have e_:=(Kd.N_reads' au.out).1;omega)|simpa using h_) (seg:=[.slice av0 (Jc aw dd).length av1]) (j:=0) hcl37 hcc37 (show 1<=1 from by decide) (x':=Jc aw dd) (Kd.FK_slice_mk (Kd.V_reads' (Kd.V_mono (ok':=(fun k_=>((fun k_=>(w.heap.size<=k_)/\k_≠bo)) k_/\k_≠ck)) (jr.out) (fun k_ hk=>⟨⟨hk.1.1,hk.1.2⟩,fun e_=>(hk.2) (g6_)⟩))).2.1 (Kd.V_F (Kd.V_mono (ok':=(fun k_=>((fun k_=>(w.heap.size<=k_)/\k_≠bo)) k_/\k_≠ck)) (jr.out) (fun k_ hk=>⟨⟨hk.1.1,hk.1.2⟩,fun e_=>(hk.2) (g6_)⟩)))) (fun _ hk=>hk);have ap8:=hcc37 0 _ rfl;(try simp only[show((Kd.slice 3 (Kd.int .i64))).sz=1 from rfl,Nat.mul_one,Nat.add_zero] at ap8);have hf37_0:=hfr37 0;(try simp only[show((Kd.slice 3 (Kd.int .i64))).sz=1 from rfl,Nat.mul_one,Nat.add_zero] at hf37_0);clear hcl37 hcc37 hfr37 hM37;(try simp only[show((Kd.slice 3 (Kd.int .i64))).sz=1 from rfl,Nat.mul_one,Nat.add_zero] at HP37);(try simp only[show((Kd.slice 3 (Kd.int .i64))).sz=1 from rfl,Nat.mul_one,Nat.add_zero] at HP37))|((with_reducible refine gate_store (t:=22) (p:=65) rfl ?_);(try(rw[drewN_self jq];generalize hq_:World.drewN jq _=jq;replace au:=A_ (Kd.N_at hq_ au.out);replace oe:=A_ (Fe.V_atq hq_ oe.out);replace og:=A_ (Fe.V_atq hq_ og.out);replace jr:=A_ (Fe.V_atq hq_ jr.out);replace js:=A_ (Fe.V_atq hq_ js.out);replace cw:=A_ (blk_at hq_ cw.out);replace HB:=A_ (below_at hq_ HB.out);clear hq_;(try(have HX37:=A_ (show Kd.N (Kd.slice 3 (Kd.int .i64)) 22 jq w.heap.size (fun k_=>(w.heap.size<=k_)/\k_≠bo) (.slice (some ⟨ck,0,none⟩) aw.length ej) ap5 from(uf4_ au))));(try(obtain⟨ce37,hcl37,hM37,hcc37,hfr37⟩:=Kd.N_elem HX37.out [] ((ji28):Int) (od_) (by have h_:((ji28):Int) < ((aw.length:Int):Int):=od_;first|exact h_|(have e_:=(Kd.N_reads' au.out).1;omega)|simpa using h_)));(try(obtain⟨ua37_0,uc37_0,rfl,ul37_0,ge37_0⟩:=Kd.FK_slice_open hM37));(try(have HP37:=Kd.N_seg HX37.out ((ji28):Int) (od_) (by have h_:((ji28):Int) < ((aw.length:Int):Int):=od_;first|exact h_|(have e_:=(Kd.N_reads' au.out).1;omega)|simpa using h_) (seg:=[.slice av0 (Jc aw dd).length av1]) (j:=0) hcl37 hcc37 (show 1<=1 from by decide) (x':=Jc aw dd) (Kd.FK_slice_mk (Kd.V_reads' (Kd.V_mono (ok':=(fun k_=>((fun k_=>(w.heap.size<=k_)/\k_≠bo)) k_/\k_≠ck)) (jr.out) (fun k_ hk=>⟨⟨hk.1.1,hk.1.2⟩,fun e_=>(hk.2) (g6_)⟩))).2.1 (Kd.V_F (Kd.V_mono (ok':=(fun k_=>((fun k_=>(w.heap.size<=k_)/\k_≠bo)) k_/\k_≠ck)) (jr.out) (fun k_ hk=>⟨⟨hk.1.1,hk.1.2⟩,fun e_=>(hk.2) (g6_)⟩)))) (fun _ hk=>hk)));(try(have ap8:=hcc37 0 _ rfl));(try(try simp only[show((Kd.slice 3 (Kd.int .i64))).sz=1 from rfl,Nat.mul_one,Nat.add_zero] at ap8));(try(have hf37_0:=hfr37 0));(try(try simp only[show((Kd.slice 3 (Kd.int .i64))).sz=1 from rfl,Nat.mul_one,Nat.add_zero] at hf37_0));(try(clear hcl37 hcc37 hfr37 hM37));(try(try simp only[show((Kd.slice 3 (Kd.int .i64))).sz=1 from rfl,Nat.mul_one,Nat.add_zero] at HP37));(try(try simp only[show((Kd.slice 3 (Kd.int .i64))).sz=1 from rfl,Nat.mul_one,Nat.add_zero] at HP37))));refine store_event (t:=22) (p:=65) (v:=?vo_w38) (w1:=(jq.setCell ⟨ck,((ji28):Int).toNat,none⟩ (.slice av0 (Jc aw dd).length av1))) ?hg ?ho ?hn ?hr ?_;(case ho=>rfl);(case hg=>rfl);(case hn=>rfl);(case hr=>first|(go_simp;done)|(go_simp;rfl));intro w38 hw;have hg:jq.grownBy w38 (some ck):=(by rw[hw];exact HP37.2);have hp_:Kd.N (Kd.slice 3 (Kd.int .i64)) 22 w38 w.heap.size (fun k_=>(w.heap.size<=k_)/\k_≠bo) (.slice (some ⟨ck,0,none⟩) aw.length ej) dc6:=(by rw[hw,fa9.out];exact HP37.1);clear HP37;replace cw:=(bg_ cw hg (Kd.N_ne au.out cw.out (by decide)));replace au:=A_ (hp_);replace oe:=A_ (Kd.V_afterv (v:=(.slice (some ⟨ck,0,none⟩) aw.length ej)) (v1:=(.slice (some ⟨ck,0,none⟩) aw.length ej)) (ok:=(fun k_=>(w.heap.size<=k_)/\k_≠bo)) (uf5_ oe) hg (.inl rfl));replace og:=A_ (Kd.V_afterv (v:=(.slice (some ⟨ck,0,none⟩) aw.length ej)) (v1:=(.slice (some ⟨ck,0,none⟩) aw.length ej)) (ok:=(fun k_=>(w.heap.size<=k_)/\k_≠bo)) (uf5_ og) hg (.inl rfl));replace jr:=A_ (Kd.V_afterv (v:=(.slice (some ⟨ck,0,none⟩) aw.length ej)) (v1:=(.slice (some ⟨ck,0,none⟩) aw.length ej)) (ok:=(fun k_=>(w.heap.size<=k_)/\k_≠bo)) (uf5_ jr) hg (.inl rfl));replace js:=A_ (Kd.V_afterv (v:=(.slice (some ⟨ck,0,none⟩) aw.length ej)) (v1:=(.slice (some ⟨ck,0,none⟩) aw.length ej)) (ok:=(fun k_=>(w.heap.size<=k_)/\k_≠bo)) (uf5_ js) hg (.inl rfl));replace HB:=A_ ((g58_:Below w.heap.size w w38));clear hg hw hp_));try(go_quiet (first|(go_at_call 114;(refine(Ga.calls k3 _ _ (Jc aw dd) _ _ (Jc aw (ji28)) true _ (cu_ (g56_)) by2.out (cu_ (g57_)) by3.out A31.out).mono ?_);rintro e w' ⟨rfl,⟨nd,rfl⟩⟩;(try first|exact⟨rfl,_,World.drewN_drewN _ _ _⟩|exact⟨rfl,_,Eq.trans (World.drewN_drewN _ _ _) (congrArg (World.drewN _) (Nat.add_assoc _ _ _))⟩);have zn:0<=(dd:Int):=od_;have ai0:dd < (aw.length:Int):=od_;obtain⟨dd1,gp9,gq0,dd2,ap6,bl7,bl8⟩:=at_L1 (Kd.N_reads' au.out).2.2 dd zn ai0;obtain rfl:bc5=dd1:=(by injection dd2);obtain⟨ce294,hce294,hMe294,hcc294⟩:=Kd.N_get au.out [] dd zn (g131_);obtain⟨ua294_0,uc294_0,rfl,ul294_0,ge294_0⟩:=Kd.FK_slice_open hMe294;have hv294_0:=hcc294 0 _ rfl;rw[Nat.add_zero,show((Kd.slice 3 (Kd.int .i64))).sz=1 from rfl,Nat.mul_one] at hv294_0;replace hv294_0:=Option.some.inj (hv294_0.symm.trans ap6);injection hv294_0 with hva_ hvn_ hvc_;rw[hva_] at ge294_0;rw[hvc_] at ul294_0;have jr:=A_ (show Kd.V (Kd.int .i64) 3 _ w.heap.size _ _ (Jc aw dd) from Kd.V_mk ul294_0 ge294_0);clear hva_ hvn_ hvc_ ge294_0 ul294_0;clear hcc294 hce294;have gq1:=A_ bl8;have gq2:=A_ bl7;clear bl8 bl7;replace zn:=eq_true zn;replace ai0:=eq_true ai0;have ea_:=Option.some.inj (bc6.symm.trans ap6);injection ea_ with ea_ en_ ec_;subst ea_;subst ec_;clear en_;have zo:0<=((ji28):Int):=od_;have ai1:(ji28) < (aw.length:Int):=od_;obtain⟨dd3,gq3,gq4,dd4,ap7,bl9,bm0⟩:=at_L1 (Kd.N_reads' au.out).2.2 (ji28) zo ai1;obtain rfl:bc5=dd3:=(by injection dd4);obtain⟨ce295,hce295,hMe295,hcc295⟩:=Kd.N_get au.out [] (ji28) zo (g132_);obtain⟨ua295_0,uc295_0,rfl,ul295_0,ge295_0⟩:=Kd.FK_slice_open hMe295;have hv295_0:=hcc295 0 _ rfl;rw[Nat.add_zero,show((Kd.slice 3 (Kd.int .i64))).sz=1 from rfl,Nat.mul_one] at hv295_0;replace hv295_0:=Option.some.inj (hv295_0.symm.trans ap7);injection hv295_0 with hva_ hvn_ hvc_;rw[hva_] at ge295_0;rw[hvc_] at ul295_0;have js:=A_ (show Kd.V (Kd.int .i64) 3 _ w.heap.size _ _ (Jc aw (ji28)) from Kd.V_mk ul295_0 ge295_0);clear hva_ hvn_ hvc_ ge295_0 ul295_0;clear hcc295 hce295;have gq5:=A_ bm0;have gq6:=A_ bl9;clear bm0 bl9;replace zo:=eq_true zo;replace ai1:=eq_true ai1;have ea_:=Option.some.inj (bc9.symm.trans ap7);injection ea_ with ea_ en_ ec_;subst ea_;subst ec_;clear en_;have p33:0<=(dd:Int):=od_;have q33:(dd:Int) < ((aw.length:Int):Int):=od_;obtain⟨ck,er,av4,bm1,gl33,cl33,HG33⟩:=Kd.N_form au.out (by omega);(first|cases av4|(injection av4 with ea_ en_ ec_;(first|subst ea_|(injection ea_ with ea_;subst ea_));subst ec_;clear en_));have GB33:=A_ bm1;have GG33:=A_ HG33;clear bm1 gl33 HG33;(first|simp only[add_plain] at bc6|skip);(first|simp only[add_plain] at bc9|skip);(first|simp only[add_plain] at ap6|skip);(first|simp only[add_plain] at ap7|skip);obtain⟨ce33,hcl33,hM33,hcc33,hfr33⟩:=Kd.N_elem au.out [] (dd:Int) p33 q33;obtain⟨ua33_0,uc33_0,rfl,ul33_0,ge33_0⟩:=Kd.FK_slice_open hM33;have dd5:=hcc33 0 _ rfl;have hf33_0:=hfr33 0;(try simp only[show((Kd.slice 3 (Kd.int .i64))).sz=1 from rfl,Nat.mul_one,Nat.add_zero] at dd5);(try simp only[show((Kd.slice 3 (Kd.int .i64))).sz=1 from rfl,Nat.mul_one,Nat.add_zero] at hf33_0);clear hcl33 hcc33 hfr33 hM33;replace p33:=eq_true p33;replace q33:=eq_true q33;have HX35:=A_ (show Kd.N (Kd.slice 3 (Kd.int .i64)) 22 wr w.heap.size (fun k_=>(w.heap.size<=k_)/\k_≠bo) (.slice (some ⟨ck,0,none⟩) aw.length ej) aw from(uf4_ au));obtain⟨ce35,hcl35,hM35,hcc35,hfr35⟩:=Kd.N_elem HX35.out [] (dd:Int) (od_) (by have h_:(dd:Int) < ((aw.length:Int):Int):=od_;first|exact h_|(have e_:=(Kd.N_reads' au.out).1;omega)|simpa using h_);obtain⟨ua35_0,uc35_0,rfl,ul35_0,ge35_0⟩:=Kd.FK_slice_open hM35;have HP35:=Kd.N_seg HX35.out (dd:Int) (od_) (by have h_:(dd:Int) < ((aw.length:Int):Int):=od_;first|exact h_|(have e_:=(Kd.N_reads' au.out).1;omega)|simpa using h_) (seg:=[.slice av2 (Jc aw (ji28)).length av3]) (j:=0) hcl35 hcc35 (show 1<=1 from by decide) (x':=Jc aw (ji28)) (Kd.FK_slice_mk (Kd.V_reads' (Kd.V_mono (ok':=(fun k_=>((fun k_=>(w.heap.size<=k_)/\k_≠bo)) k_/\k_≠ck)) (js.out) (fun k_ hk=>⟨⟨hk.1.1,hk.1.2⟩,fun e_=>(hk.2) (g6_)⟩))).2.1 (Kd.V_F (Kd.V_mono (ok':=(fun k_=>((fun k_=>(w.heap.size<=k_)/\k_≠bo)) k_/\k_≠ck)) (js.out) (fun k_ hk=>⟨⟨hk.1.1,hk.1.2⟩,fun e_=>(hk.2) (g6_)⟩)))) (fun _ hk=>hk);have ad9:=hcc35 0 _ rfl;(try simp only[show((Kd.slice 3 (Kd.int .i64))).sz=1 from rfl,Nat.mul_one,Nat.add_zero] at ad9);have hf35_0:=hfr35 0;(try simp only[show((Kd.slice 3 (Kd.int .i64))).sz=1 from rfl,Nat.mul_one,Nat.add_zero] at hf35_0);clear hcl35 hcc35 hfr35 hM35;(try simp only[show((Kd.slice 3 (Kd.int .i64))).sz=1 from rfl,Nat.mul_one,Nat.add_zero] at HP35);(try simp only[show((Kd.slice 3 (Kd.int .i64))).sz=1 from rfl,Nat.mul_one,Nat.add_zero] at HP35)))))
  (try simp only[<- bl6])
  go_roundg k3
  case measure=>have:=HJ1.out;have:=HK2.out;have:=HK3.out;omega
  case rel=>exact⟨(dc6),(ji28),(by first|rfl|(simp;done)|(simp only[<- hji28] <;> (first|rfl|simp))|(simp[*];done)),H',⟨g133_⟩,⟨g134_⟩,⟨g135_⟩,⟨f9⟩⟩
 replace uk:=Bool.eq_false_iff.mpr uk
 subst uk
 replace H:=ifn_ H
 have H':=A_ H
 clear H
 have bc3:0<=(dd:Int):=od_
 have bc4:dd < (aw.length:Int):=od_
 obtain⟨bc5,av0,av1,fb0,bc6,dc7,dc8⟩:=at_L1 (Kd.N_reads' au.out).2.2 dd bc3 bc4
 cases fb0
 obtain⟨ce291,hce291,hMe291,hcc291⟩:=Kd.N_get au.out [] dd bc3 (by first|exact bc4|exact od_|(have e_:=(Kd.N_reads' au.out).1;omega))
 obtain⟨ua291_0,uc291_0,rfl,ul291_0,ge291_0⟩:=Kd.FK_slice_open hMe291
 have hv291_0:=hcc291 0 _ rfl
 rw[Nat.add_zero,show((Kd.slice 3 (Kd.int .i64))).sz=1 from rfl,Nat.mul_one] at hv291_0
 replace hv291_0:=Option.some.inj (hv291_0.symm.trans bc6)
 injection hv291_0 with hva_ hvn_ hvc_
 rw[hva_] at ge291_0
 rw[hvc_] at ul291_0
 have oe:=A_ (show Kd.V (Kd.int .i64) 3 _ w.heap.size _ _ (Jc aw dd) from Kd.V_mk ul291_0 ge291_0)
 clear hva_ hvn_ hvc_ ge291_0 ul291_0
 clear hcc291 hce291
 have fb1:=A_ dc8
 have by2:=A_ dc7
 clear dc8 dc7
 replace bc3:=eq_true bc3
 replace bc4:=eq_true bc4
 have bc7:0<=((ji28):Int):=od_
 have bc8:(ji28) < (aw.length:Int):=od_
 obtain⟨fb2,av2,av3,fb3,bc9,dc9,dd0⟩:=at_L1 (Kd.N_reads' au.out).2.2 (ji28) bc7 bc8
 obtain rfl:bc5=fb2:=(by injection fb3)
 obtain⟨ce292,hce292,hMe292,hcc292⟩:=Kd.N_get au.out [] (ji28) bc7 (by first|exact bc8|exact od_|(have e_:=(Kd.N_reads' au.out).1;omega))
 obtain⟨ua292_0,uc292_0,rfl,ul292_0,ge292_0⟩:=Kd.FK_slice_open hMe292
 have hv292_0:=hcc292 0 _ rfl
 rw[Nat.add_zero,show((Kd.slice 3 (Kd.int .i64))).sz=1 from rfl,Nat.mul_one] at hv292_0
 replace hv292_0:=Option.some.inj (hv292_0.symm.trans bc9)
 injection hv292_0 with hva_ hvn_ hvc_
 rw[hva_] at ge292_0
 rw[hvc_] at ul292_0
 have og:=A_ (show Kd.V (Kd.int .i64) 3 _ w.heap.size _ _ (Jc aw (ji28)) from Kd.V_mk ul292_0 ge292_0)
 clear hva_ hvn_ hvc_ ge292_0 ul292_0
 clear hcc292 hce292
 have fb4:=A_ dd0
 have by3:=A_ dc9
 clear dd0 dc9
 replace bc7:=eq_true bc7
 replace bc8:=eq_true bc8
 iterate 2 (go_wp2_with (first|(go_at_call 114;(refine(Ga.calls k3 _ _ (Jc aw dd) _ _ (Jc aw (ji28)) false _ (cu_ (g56_)) by2.out (cu_ (g57_)) by3.out A31.out).mono ?_);rintro e w' ⟨rfl,⟨nd,rfl⟩⟩;(try first|exact⟨rfl,_,World.drewN_drewN _ _ _⟩|exact⟨rfl,_,Eq.trans (World.drewN_drewN _ _ _) (congrArg (World.drewN _) (Nat.add_assoc _ _ _))⟩)));try(go_quiet (first|(go_at_call 114;(refine(Ga.calls k3 _ _ (Jc aw dd) _ _ (Jc aw (ji28)) false _ (cu_ (g56_)) by2.out (cu_ (g57_)) by3.out A31.out).mono ?_);rintro e w' ⟨rfl,⟨nd,rfl⟩⟩;(try first|exact⟨rfl,_,World.drewN_drewN _ _ _⟩|exact⟨rfl,_,Eq.trans (World.drewN_drewN _ _ _) (congrArg (World.drewN _) (Nat.add_assoc _ _ _))⟩)))))
 (try simp only[<- bl6])
 go_roundg k3
 case measure=>have:=HJ1.out;have:=HK2.out;have:=HK3.out;omega
 case rel=>exact⟨(aw),(wrap64 (b3 + 1)),(g2_),H',⟨g133_⟩,⟨g134_⟩,⟨g135_⟩,⟨f9⟩⟩
mutual
def Fk.l0:Nat->List Int->Int->Int->List Int->List (List Int)->List Int->List (List Int)->Option (List Int × (List (List Int)))
 | 0,_,_,_,_,_,_,_=>none
 | k + 1,x1,x6,x7,dw7,av5,dd7,bm2=>if x7 < (x1.length:Int) then(if 0<=x7 then(if 0<=(rd x1 x7) then(if (rd x1 x7) < (av5.length:Int) then(if (x1.length:Int)=0 then(none) else(if 0<=(Int.tmod (wrap64 (x7 + 1)) (x1.length:Int)) then(if (Int.tmod (wrap64 (x7 + 1)) (x1.length:Int)) < (x1.length:Int) then(if 0<=(rd x1 (Int.tmod (wrap64 (x7 + 1)) (x1.length:Int))) then(if (rd x1 (Int.tmod (wrap64 (x7 + 1)) (x1.length:Int))) < ((Jc av5 (rd x1 x7)).length:Int) then(Fk.l0 k x1 (mn x6 (rd (Jc av5 (rd x1 x7)) (rd x1 (Int.tmod (wrap64 (x7 + 1)) (x1.length:Int))))) (wrap64 (x7 + 1)) dw7 av5 dd7 bm2) else(none)) else(none)) else(none)) else(none))) else(none)) else(none)) else(none)) else(Fk.l1 k x1 x6 0 dw7 av5 dd7 bm2)
def Fk.l1:Nat->List Int->Int->Int->List Int->List (List Int)->List Int->List (List Int)->Option (List Int × (List (List Int)))
 | 0,_,_,_,_,_,_,_=>none
 | k + 1,x1,x6,x8,dw7,av5,dd7,bm2=>if x8 < (x1.length:Int) then(if 0<=x8 then(if (x1.length:Int)=0 then(none) else(if 0<=(Int.tmod (wrap64 (x8 + 1)) (x1.length:Int)) then(if (Int.tmod (wrap64 (x8 + 1)) (x1.length:Int)) < (x1.length:Int) then(if 0<=(rd x1 x8) then(if (rd x1 x8) < (bm2.length:Int) then(if (rd x1 x8) < (av5.length:Int) then(if 0<=(rd x1 (Int.tmod (wrap64 (x8 + 1)) (x1.length:Int))) then(if (rd x1 (Int.tmod (wrap64 (x8 + 1)) (x1.length:Int))) < ((Jc av5 (rd x1 x8)).length:Int) then(if (rd x1 (Int.tmod (wrap64 (x8 + 1)) (x1.length:Int))) < ((Jc bm2 (rd x1 x8)).length:Int) then(Fk.l1 k x1 x6 (wrap64 (x8 + 1)) dw7 av5 dd7 (bm2.set ((rd x1 x8):Int).toNat ((Jc bm2 (rd x1 x8)).set ((rd x1 (Int.tmod (wrap64 (x8 + 1)) (x1.length:Int))):Int).toNat (wrap64 ((rd (Jc av5 (rd x1 x8)) (rd x1 (Int.tmod (wrap64 (x8 + 1)) (x1.length:Int)))) - x6))))) else(none)) else(none)) else(none)) else(none)) else(none)) else(none)) else(none)) else(none))) else(none)) else(some (dd7,bm2))
end
def Fk.f (k:Nat) (ab:List Int) (aa:List (List Int)) (l1:List Int):Option (List Int × (List (List Int))):=(Fu.f k ab aa).bind fun bt300=>(Fk.l0 k l1 9 0 ab aa bt300.1 bt300.2)
def Fk.T6:Bool × List (List Nat × List Nat):=(true,[([],[]),([],[]),([1],[1]),([],[]),([],[]),([3,4],[3,4]),([5],[5]),([2,6],[2,6]),([7],[7]),([],[]),([],[]),([10],[10]),([],[]),([12],[12]),([11,13],[11,13]),([9,14],[9,14]),([15],[15]),([8,16],[8,16]),([17],[17]),([0,18],[0,18]),([19,0,1,2,3,4,5,6,7,8,9,10,11,12,13,14,15,16,17,18,19],[0,19])])
def Fk.B6:List Nat:=[0,0,2,0,0,24,56,126,254,0,0,1024,0,4096,15360,32256,65024,131070,262142,524287,1048575]
theorem Fk.tab6:rtab .any (opsOf Try.f98 6)=Fk.T6:=by kernel_rfl
theorem Fk.bits6:waitsOk Fk.T6.2 Fk.B6=true:=by kernel_rfl
def Fk.T12:Bool × List (List Nat × List Nat):=(true,[([],[]),([0],[0]),([],[]),([1,2],[1,2]),([3],[3]),([],[]),([],[]),([6],[6]),([],[]),([7,8],[7,8]),([9],[9]),([],[]),([10,11],[10,11]),([12],[12]),([],[]),([13,14],[13,14]),([4,5,0,1,2,3,4,5,6,7,8,9,10,11,12,13,14,15],[4,5]),([16,15,0,1,2,3,4,5,6,7,8,9,10,11,12,13,14,15],[15,16])])
def Fk.B12:List Nat:=[0,1,0,7,15,0,0,64,0,448,960,0,4032,8128,0,32704,65535,131071]
theorem Fk.tab12:rtab .any (opsOf Try.f98 12)=Fk.T12:=by kernel_rfl
theorem Fk.bits12:waitsOk Fk.T12.2 Fk.B12=true:=by kernel_rfl
theorem al8 {p:Prop} (h:p:=by repeat(first|(with_reducible first|exact HB.out|apply G4|apply G3|apply G2|refine G1 ?_ iz4.out|refine G1 ?_ iz5.out|refine G1 ?_ iz6.out|refine G1 ?_ GB39.out)|exact HB.out)):p:=h
set_option maxHeartbeats 8000000 in
set_option maxRecDepth 100000 in
theorem Fk.calls (k:Nat) (ae:Option Addr) (ac:Nat) (ab:List Int) (ag:Option Addr) (af:Nat) (aa:List (List Int)) (A1:Option Addr) (c1:Nat) (l1:List Int) (r1:List Int) (r2:List (List Int)) (w:World) (ca:Kd.C (Kd.int .i64) w ae ab.length ab) (ce:ab.length<=ac) (cb:Kd.C (Kd.slice 3 (Kd.int .i64)) w ag aa.length aa) (cg:aa.length<=af) (j6:Kd.C (Kd.int .i64) w A1 l1.length l1) (kh:l1.length<=c1) (h:Fk.f k ab aa l1=some (r1,r2)) :
  Calls Try.prog 98 #[.agg #[.slice ae ab.length ac, .slice ag aa.length af], .slice A1 l1.length c1] w fun e w'=>∃v0_ v1_:Value,e = .returned (.agg #[v0_,v1_])/\Kd.R (Kd.int .i64) 3 w' w.heap.size (fun _=>True) v0_ r1/\Kd.S (Kd.slice 3 (Kd.int .i64)) 22 w' w.heap.size (fun k_=>some k_≠(v0_:Value).ownBlock) v1_ r2/\Below w.heap.size w w':=by
 have hu25:=Try.underlying25
 have bu:=A_ ca
 have cq:=A_ ce
 clear ca ce
 have bf:=A_ cb
 have cu:=A_ cg
 clear cb cg
 have h7:=A_ j6
 have yz:=A_ kh
 clear j6 kh
 have HB:=A_ (Below.refl w.heap.size w)
 have H:=h
 unfold Fk.f at H
 clear h
 replace H:=Option.bind_eq_some_iff.mp H
 obtain⟨⟨ae5,ap9⟩,pb,H⟩:=H
 try dsimp only at H
 have A3:=A_ pb
 clear pb
 have H':=A_ H
 clear H
 go_enter Try.func98,Try.ntmps98
 go_wp2_with (first|((with_reducible refine gd_ 2 ?_);refine bx_ (N:=2) #[.slice ae ab.length ac, .slice ag aa.length af] 25 ?_;intro vv hg w4 hbox hb;have m0:=A_ (hbox);have ls1:=A_ ((g59_:w.heap.size<=vv));have iz4:=ls1;replace HB:=hs_ (al8) hb;clear hb hbox hg)|((with_reducible refine gd_ 4 ?_);refine bx_ (N:=4) #[.slice none 0 0, .slice none 0 0] 25 ?_;intro xd hg w5 hbox hb;have pc:=A_ (hbox);have ls2:=A_ ((g59_:w.heap.size<=xd));have iz5:=ls2;replace HB:=hs_ (al8) hb;have gq7:=nl_ m0 hg;have gq8:=nr_ m0 hg;replace m0:=bb_ m0 hb;clear hb hbox hg;have gb3:=gq7.out;have gb4:=gq8.out;obtain⟨sx,sy,ta,tb⟩:=blk2_ m0)|((with_reducible refine gc_ 80 ?_);refine gl_ 12 Try.func80 #[.agg #[.slice ae ab.length ac, .slice ag aa.length af]] ?_;(refine(Fu.calls k _ _ ab _ _ aa ae5 ap9 _ (uf1_ bu) cq.out (uf1_ bf) cu.out A3.out).mono ?_);rintro e w8 ⟨ls3,ls4,rfl,aj,ar,hb⟩;refine⟨_,rfl,?_⟩;have dw8:=A_ (Kd.R_lower aj (G0 (al8)));have dw9:=A_ (Kd.S_lower ar (G0 (al8)));replace m0:=bb_ m0 hb;replace pc:=bb_ pc hb;replace HB:=hs_ (al8) hb)|((with_reducible refine gd_ 5 ?_);refine bx_ (N:=5) #[.slice none 0 0, .slice none 0 0] 25 ?_;intro zp hg w9 hbox hb;replace dw8:=rb_ dw8 hb;replace dw9:=sb_ dw9 hb;have so:=A_ (hbox);have ls5:=A_ ((g59_:w.heap.size<=zp));have iz6:=ls5;replace HB:=hs_ (al8) hb;have dx0:=nl_ m0 hg;have gq9:=nr_ m0 hg;replace m0:=bb_ m0 hb;have dx1:=nl_ pc hg;have gr0:=nr_ pc hg;replace pc:=bb_ pc hb;clear hb hbox hg;obtain⟨ax,av,ao5⟩:=Kd.R_slice dw8.out;subst ao5;have ah3:=gq9.out;have ah4:=dx0.out;have bv1:=gr0.out;have bv2:=dx1.out;obtain⟨tc,td,te,tf⟩:=blk2_ so;obtain⟨es,dr,ag7⟩:=Kd.S_slice dw9.out;subst ag7))
 go_loopg [6,7] k (fun kq v6 v7 w'=>∃(jt:Int) (oh:Int),v6 = .int .i64 jt/\v7 = .int .i64 oh/\Gy (Fk.l0 kq l1 jt oh ab aa ae5 ap9=some (r1,r2))/\Gy (kq<=k)/\Gy (Kd.R (Kd.int .i64) 3 w' w.heap.size (fun _=>True) (.slice ax ae5.length av) ae5)/\Gy (Kd.S (Kd.slice 3 (Kd.int .i64)) 22 w' w.heap.size (fun k_=>some k_≠((.slice ax ae5.length av):Value).ownBlock) (.slice es ap9.length dr) ap9)/\Gy (hc_ w' vv #[(.slice ae ab.length ac),(.slice ag aa.length af)] 25)/\Gy (hc_ w' xd #[(.slice none 0 0),(.slice none 0 0)] 25)/\Gy (hc_ w' zp #[(.slice ax ae5.length av),(.slice es ap9.length dr)] 25)/\Gy (Below w.heap.size w w'))
 case atStart=>exact⟨(9),(0),(g2_),(g2_),H',⟨Nat.le_refl _⟩,⟨ra_ dw8⟩,⟨sa_ dw9⟩,⟨ba_ m0⟩,⟨ba_ pc⟩,⟨ba_ so⟩,⟨al8⟩⟩
 clear H'
 obtain⟨jt,oh,rfl,rfl,HA,HK1,ai3,tp,m0,pc,so,HB⟩:=hrel
 cases gk with
 | zero=>exact absurd HA.out (by simp[Fk.l0])
 | succ k1=>?_
 have H:=HA.out
 clear HA
 simp only[Fk.l0] at H
 by_cases dl:oh < (l1.length:Int)
 ·rw[if_pos dl] at H
  have mb:=decide_eq_true dl
  clear dl
  obtain⟨vm,H⟩:=pd_ H
  obtain⟨vg,H⟩:=pd_ H
  obtain⟨ao9,H⟩:=pd_ H
  by_cases ei:(l1.length:Int)=0
  ·rw[if_pos ei] at H
   exact absurd H (by simp)
  rw[if_neg ei] at H
  have qm:((l1.length:Int) == 0)=false:=beq_eq_false_iff_ne.mpr ei
  have ac8:((l1.length:Int) != 0)=true:=bne_iff_ne.mpr ei
  have ch0:¬ (l1=[]):=fun h_=>ei (g47_)
  obtain⟨ji20,hji20⟩:∃j_:Int,(Int.tmod (wrap64 (oh + 1)) (l1.length:Int))=j_:=⟨_,rfl⟩
  first|rw[hji20] at H|simp only[hji20] at H
  obtain⟨dx2,H⟩:=pd_ H
  obtain⟨ao0,H⟩:=pd_ H
  obtain⟨ba3,H⟩:=pd_ H
  obtain⟨vl,H⟩:=pd_ H
  obtain⟨ji25,hji25⟩:∃j_:Int,(mn jt (rd (Jc aa (rd l1 oh)) (rd l1 (ji20))))=j_:=⟨_,rfl⟩
  first|rw[hji25] at H|simp only[hji25] at H
  have hji25_:(if (rd (Jc aa (rd l1 oh)) (rd l1 (ji20))) < jt then(rd (Jc aa (rd l1 oh)) (rd l1 (ji20))) else jt)=ji25:=hji25
  have H':=A_ H
  clear H
  try go_wp2
  replace ai3:=rd_ ai3
  replace tp:=sd_ tp
  replace m0:=bd_ m0
  replace pc:=bd_ pc
  replace so:=bd_ so
  replace HB:=A_ (G2 HB.out)
  obtain⟨⟨fb5,iz7,dd8⟩,dx3,dx4⟩:=rdp_ (Kd.at_int h7.out oh)
  have iz8:=dd8
  cases iz7
  replace dd8:=cl_ HB dd8
  obtain⟨⟨gr1,ls6,iz9,ja0,dd9,gr2,gr3⟩,dx5,dx6⟩:=rdp_ (at_L1 bf.out (rd l1 oh))
  have ja1:=dd9
  cases ja0
  replace dd9:=cl_ HB dd9
  have gr4:=A_ gr3
  have ls7:=A_ gr2
  clear gr3 gr2
  obtain⟨⟨ja2,ja3,de0⟩,dx7,dx8⟩:=rdp_ (Kd.at_int h7.out (ji20))
  have ja4:=de0
  obtain rfl:fb5=ja2:=(by injection ja3)
  replace de0:=cl_ HB de0
  obtain⟨⟨gr5,ja5,de1⟩,dx9,dy0⟩:=rdp_ (Kd.at_int gr4.out (rd l1 (ji20)))
  have ja6:=de1
  cases ja5
  replace de1:=cl_ HB de1
  refine start_ (n:=21) (S:=fun w'=>w'.cell? ⟨vv,0,none⟩=some (.slice ae ab.length ac)/\w'.cell? ⟨vv,1,none⟩=some (.slice (some gr1) aa.length af)/\w'.cell? (fb5.add (oh).toNat)=some (.int .i64 (rd l1 oh))/\w'.cell? (gr1.add ((rd l1 oh)).toNat)=some (.slice (some gr5) (Jc aa (rd l1 oh)).length iz9)/\w'.cell? (fb5.add ((ji20)).toNat)=some (.int .i64 (rd l1 (ji20)))/\w'.cell? (gr5.add ((rd l1 (ji20))).toNat)=some (.int .i64 (rd (Jc aa (rd l1 oh)) (rd l1 (ji20))))) (ds:=[]) (tl_ 21 0) (g1_) rfl (g1_) ⟨(Gz m0.out 0).trans rfl,(Gz m0.out 1).trans rfl,((cl_ HB iz8).trans rfl),((cl_ HB ja1).trans rfl),((cl_ HB ja4).trans rfl),((cl_ HB ja6).trans rfl)⟩ (fun hHeld=>?_);refine Jm Fk.tab6 Fk.bits6 (fun HT_ HW_=>?_)
  generalize wr.drew=w26 at ai3 tp m0 pc so HB gr4 dd8 dd9 de0 de1 hHeld |-
  refine pw_ 0 19 (tl_ 21 1) ?_
  refine pw_ 1 20 (tl_ 21 3) ?_
  refine pw_ 3 22 (tl_ 21 11) ?_
  refine pw_ 4 23 (tl_ 21 27) ?_
  refine pw_ 5 24 (tl_ 21 59) ?_
  refine pw_ 9 28 (tl_ 21 571) ?_
  refine pw_ 10 29 (tl_ 21 1595) ?_
  refine pw_ 11 30 (tl_ 21 3643) ?_
  refine pw_ 12 31 (tl_ 21 7739) ?_
  refine pw_ 13 32 (tl_ 21 15931) ?_
  refine pw_ 14 33 (tl_ 21 32315) ?_
  refine pw_ 15 34 (tl_ 21 65083) ?_
  refine tk1_ 2 21 (tl_ 21 65087) hHeld ?_
  refine tk1_ 6 25 (tl_ 21 65151) hHeld ?_
  refine pw_ 7 26 (tl_ 21 65279) ?_
  refine tk1_ 8 27 (tl_ 21 65535) hHeld ?_
  refine tk1_ 16 35 (tl_ 21 131071) hHeld ?_
  refine pw_ 17 36 (tl_ 21 262143) ?_
  refine tk1_ 18 37 (tl_ 21 524287) hHeld ?_
  refine pw_ 19 38 (tl_ 21 1048575) ?_
  refine pw_ 20 6 (tl_ 21 2097151) ?_
  refine done_ (done_of HT_.out (g1_)) ?_
  try go_wp2
  go_roundg k1
  case measure=>have:=HK1.out;omega
  case rel=>exact⟨(ji25),(wrap64 (oh + 1)),(by first|rfl|(simp;done)|(simp only[<- hji25] <;> (first|rfl|simp))|(simp[*];done)),(g2_),H',⟨g13_⟩,⟨uf2_ ai3⟩,⟨uf3_ tp⟩,⟨uf0_ m0⟩,⟨uf0_ pc⟩,⟨uf0_ so⟩,⟨al8⟩⟩
 rw[if_neg dl] at H
 have mb:=decide_eq_false dl
 clear dl
 have H':=A_ H
 clear H
 go_wp2
 go_loopg [8] k1 (fun kq v8 w'=>∃(ik:Int) (aq0:List Int) (pv:List (List Int)) (ck2:Value) (fb6:Value),v8 = .int .i64 ik/\Gy (Fk.l1 kq l1 jt ik ab aa aq0 pv=some (r1,r2))/\Gy (kq<=k1)/\Gy (Kd.R (Kd.int .i64) 3 w' w.heap.size (fun _=>True) ck2 aq0)/\Gy (Kd.S (Kd.slice 3 (Kd.int .i64)) 22 w' w.heap.size (fun k_=>some k_≠(ck2:Value).ownBlock) fb6 pv)/\Gy (hc_ w' vv #[(.slice ae ab.length ac),(.slice ag aa.length af)] 25)/\Gy (hc_ w' xd #[(.slice none 0 0),(.slice none 0 0)] 25)/\Gy (hc_ w' zp #[ck2,fb6] 25)/\Gy (Below w.heap.size w w'))
 case atStart=>exact⟨(0),(ae5),(ap9),(.slice ax ae5.length av),(.slice es ap9.length dr),(g2_),H',⟨Nat.le_refl _⟩,⟨uf2_ ai3⟩,⟨uf3_ tp⟩,⟨uf0_ m0⟩,⟨uf0_ pc⟩,⟨uf0_ so⟩,⟨al8⟩⟩
 clear H'
 obtain⟨ik,aq0,pv,ck2,fb6,rfl,HA,HK2,ai3,tp,m0,pc,so,HB⟩:=hrel
 cases gk with
 | zero=>exact absurd HA.out (by simp[Fk.l1])
 | succ k2=>?_
 have H:=HA.out
 clear HA
 simp only[Fk.l1] at H
 by_cases my:ik < (l1.length:Int)
 case neg=>
  rw[if_neg my] at H
  have bt2:=decide_eq_false my
  clear my
  simp only[Option.some.injEq,Prod.mk.injEq] at H
  obtain⟨rfl,rfl⟩:=H
  have gs6:=gq9.out
  have gs7:=dx0.out
  have da7:=gr0.out
  have da8:=dx1.out
  obtain⟨fc8,fc9,fd0,fd1⟩:=blk2_ so
  obtain⟨ae6,ae7,ck4⟩:=Kd.R_slice ai3.out
  subst ck4
  have ew9:=gq8.out
  have ex0:=gq7.out
  obtain⟨da9,db0,db1,db2⟩:=blk2_ pc
  obtain⟨ah5,ah6,db3⟩:=Kd.S_slice tp.out
  subst db3
  go_wp2
  refine bodyPost_ret (results_cell_row rfl _ _ xd 25 #[.slice ae6 aq0.length ae7, .slice ah5 pv.length ah6] (0,0) _ rfl (ba_ pc) Try.underlying25 rfl (g1_)) rfl ?_
  exact⟨_,_,g4_,ra_ ai3,sa_ tp,al8⟩
 rw[if_pos my] at H
 have bt2:=decide_eq_true my
 clear my
 obtain⟨bt3,H⟩:=pd_ H
 by_cases un:(l1.length:Int)=0
 ·rw[if_pos un] at H
  exact absurd H (by simp)
 rw[if_neg un] at H
 have gp8:((l1.length:Int) == 0)=false:=beq_eq_false_iff_ne.mpr un
 have ls8:((l1.length:Int) != 0)=true:=bne_iff_ne.mpr un
 have ls9:¬ (l1=[]):=fun h_=>un (g47_)
 obtain⟨ji30,hji30⟩:∃j_:Int,(Int.tmod (wrap64 (ik + 1)) (l1.length:Int))=j_:=⟨_,rfl⟩
 first|rw[hji30] at H|simp only[hji30] at H
 obtain⟨ad8,H⟩:=pd_ H
 obtain⟨ey1,H⟩:=pd_ H
 obtain⟨dt8,H⟩:=pd_ H
 obtain⟨da6,H⟩:=pd_ H
 obtain⟨db7,H⟩:=pd_ H
 obtain⟨dw3,H⟩:=pd_ H
 obtain⟨ja7,H⟩:=pd_ H
 obtain⟨ja8,H⟩:=pd_ H
 obtain⟨fb7,hyq⟩:∃y_:List Int,y_=((Jc pv (rd l1 ik)).set ((rd l1 (ji30)):Int).toNat (wrap64 ((rd (Jc aa (rd l1 ik)) (rd l1 (ji30))) - jt))):=⟨_,rfl⟩
 replace H:(Fk.l1 k2 l1 jt (wrap64 (ik + 1)) ab aa aq0 (pv.set ((rd l1 ik):Int).toNat fb7))=some (r1,r2):=qh_
 have ja9:=A_ hyq
 clear hyq
 obtain⟨gr6,hyq⟩:∃y_:List (List Int),y_=(pv.set ((rd l1 ik):Int).toNat fb7):=⟨_,rfl⟩
 replace H:(Fk.l1 k2 l1 jt (wrap64 (ik + 1)) ab aa aq0 gr6)=some (r1,r2):=qh_
 have jb0:=A_ hyq
 clear hyq
 have H':=A_ H
 clear H
 obtain⟨⟨jb1,jb2,gr7⟩,fb8,fb9⟩:=rdp_ (Kd.at_int h7.out ik)
 cases jb2
 replace gr7:=cl_ HB gr7
 obtain⟨⟨jb3,jb4,gr8⟩,fc0,fc1⟩:=rdp_ (Kd.at_int h7.out (ji30))
 obtain rfl:jb1=jb3:=(by injection jb4)
 replace gr8:=cl_ HB gr8
 try go_wp2
 replace ai3:=rd_ ai3
 replace tp:=sd_ tp
 replace m0:=bd_ m0
 replace pc:=bd_ pc
 replace so:=bd_ so
 replace HB:=A_ (G2 HB.out)
 obtain⟨oz,m3,av6⟩:=Kd.S_slice tp.out
 (first|subst av6|(injection av6 with f1_ f2_ f3_;have f4_:=f1_.symm;have f5_:=f3_.symm;clear f1_ f2_ f3_;subst f4_;subst f5_))
 have dy1:0<=((rd l1 ik):Int):=od_
 have dy2:(rd l1 ik) < (pv.length:Int):=od_
 obtain⟨fc2,lt0,jb5,jb6,dy3,gr9,gs0⟩:=at_L1 (Kd.S_reads' tp.out).2.2 (rd l1 ik) dy1 dy2
 cases jb6
 obtain⟨ce313,hce313,hMe313,hcc313⟩:=Kd.S_get tp.out [] (rd l1 ik) dy1 (by first|exact dy2|exact od_|(have e_:=(Kd.S_reads' tp.out).1;omega))
 obtain⟨ve313_0,rfl,ge313_0⟩:=hMe313
 have hv313_0:=hcc313 0 _ rfl
 rw[Nat.add_zero,show((Kd.slice 3 (Kd.int .i64))).sz=1 from rfl,Nat.mul_one] at hv313_0
 replace hv313_0:=Option.some.inj (hv313_0.symm.trans dy3)
 rw[hv313_0] at ge313_0
 have by4:=A_ (show Kd.R (Kd.int .i64) 3 _ _ _ _ (Jc pv (rd l1 ik)) from ge313_0)
 clear hv313_0 ge313_0
 have HX313_0:=A_ dy3
 clear hcc313 hce313
 have jb7:=A_ gs0
 have lt1:=A_ gr9
 clear gs0 gr9
 replace dy1:=eq_true dy1
 replace dy2:=eq_true dy2
 obtain⟨⟨gs1,lt2,jb8,jb9,dy4,gs2,gs3⟩,fc3,fc4⟩:=rdp_ (at_L1 bf.out (rd l1 ik))
 have jc0:=dy4
 cases jb9
 replace dy4:=cl_ HB dy4
 have gs4:=A_ gs3
 have lt3:=A_ gs2
 clear gs3 gs2
 obtain⟨⟨gs5,jc1,dy5⟩,fc5,fc6⟩:=rdp_ (Kd.at_int gs4.out (rd l1 (ji30)))
 have jc2:=dy5
 cases jc1
 replace dy5:=cl_ HB dy5
 have p39:0<=((rd l1 (ji30)):Int):=od_
 have q39:((rd l1 (ji30)):Int) < (((Jc pv (rd l1 ik)).length:Int):Int):=od_
 obtain⟨ck3,la,ai2,de2,gl39,cl39,HG39⟩:=Kd.R_form by4.out (by omega)
 (first|cases ai2|(injection ai2 with ea_ en_ ec_;(first|subst ea_|(injection ea_ with ea_;subst ea_));subst ec_;clear en_))
 have GB39:=A_ de2
 have GG39:=A_ HG39
 clear de2 gl39 HG39
 obtain⟨fc7,hf39_0⟩:=Kd.R_celln 0 by4.out ((rd l1 (ji30)):Int) p39 q39
 replace p39:=eq_true p39
 replace q39:=eq_true q39
 have hq42:((rd l1 ik):Int) < (pv.length:Int):=(by have h_:((rd l1 ik):Int) < ((pv.length:Int):Int):=od_;first|exact h_|(have e_:=(Kd.S_reads' tp.out).1;omega)|simpa only[List.length_set,List.length_set] using h_)
 obtain⟨oki42,ce42,hcl42,hM42,hcc42,hok42,hbk42⟩:=Kd.S_borrow tp.out [] ((rd l1 ik):Int) (od_) (by first|exact hq42|exact od_|(have e_:=(Kd.S_reads' tp.out).1;omega))
 obtain⟨ve42_0,rfl,ge42_0⟩:=hM42
 have hv42:=hcc42 0 _ rfl
 rw[Nat.add_zero,show((Kd.slice 3 (Kd.int .i64))).sz=1 from rfl,Nat.mul_one] at hv42
 replace hv42:=Option.some.inj (hv42.symm.trans HX313_0.out)
 subst hv42
 clear hcc42 hcl42
 replace ge42_0:=(show Kd.R (Kd.int .i64) 3 _ _ _ _ (Jc pv (rd l1 ik)) from ge42_0)
 have HP42:=Kd.R_putg ge42_0 ((rd l1 (ji30)):Int) (wrap64 ((rd (Jc aa (rd l1 ik)) (rd l1 (ji30))) - jt))
 rw[<- ja9.out] at HP42
 have HS42:=hbk42 HP42.2 (fun k_ e_=>by injection e_ with e_;subst e_;exact ge42_0.1 _ rfl) (x':=fb7) (Kd.M_row HP42.1)
 rw[<- jb0.out] at HS42
 have HQ42:=A_ HS42
 clear HP42 HS42 hbk42 hok42
 refine start_ (n:=18) (S:=fun w'=>w'.cell? ⟨zp,0,none⟩=some (ck2)/\w'.cell? ⟨zp,1,none⟩=some (.slice (some fc2) pv.length m3)/\w'.cell? ⟨vv,0,none⟩=some (.slice ae ab.length ac)/\w'.cell? ⟨vv,1,none⟩=some (.slice (some gs1) aa.length af)/\w'.cell? (fc2.add ((rd l1 ik)).toNat)=some (.slice (some ⟨ck3,0,none⟩) (Jc pv (rd l1 ik)).length jb5)/\w'.cell? (gs1.add ((rd l1 ik)).toNat)=some (.slice (some gs5) (Jc aa (rd l1 ik)).length jb8)/\w'.cell? (gs5.add ((rd l1 (ji30))).toNat)=some (.int .i64 (rd (Jc aa (rd l1 ik)) (rd l1 (ji30))))) (ds:=[17]) (tl_ 18 0) (g1_) rfl (g1_) ⟨(Gz so.out 0).trans rfl,(Gz so.out 1).trans rfl,(Gz m0.out 0).trans rfl,(Gz m0.out 1).trans rfl,dy3,((cl_ HB jc0).trans rfl),((cl_ HB jc2).trans rfl)⟩ (fun hHeld=>?_);refine Jm Fk.tab12 Fk.bits12 (fun HT_ HW_=>?_)
 generalize wr.drew=w40 at ai3 tp m0 pc so HB GG39 by4 HQ42 jb7 gs4 HX313_0 hf39_0 dy3 dy4 dy5 fc7 hHeld |-
 refine pw_ 0 57 (tl_ 18 1) ?_
 refine pw_ 2 59 (tl_ 18 5) ?_
 refine pw_ 5 62 (tl_ 18 37) ?_
 refine pw_ 6 63 (tl_ 18 101) ?_
 refine pw_ 8 65 (tl_ 18 357) ?_
 refine pw_ 11 68 (tl_ 18 2405) ?_
 refine pw_ 14 71 (tl_ 18 18789) ?_
 refine tk4_ 1 58 (tl_ 18 18791) hHeld ?_
 refine pw_ 3 60 (tl_ 18 18799) ?_
 refine tk4_ 4 61 (tl_ 18 18815) hHeld ?_
 refine tk4_ 7 64 (tl_ 18 18943) hHeld ?_
 refine pw_ 9 66 (tl_ 18 19455) ?_
 refine tk4_ 10 67 (tl_ 18 20479) hHeld ?_
 refine pw_ 12 69 (tl_ 18 24575) ?_
 refine tk4_ 13 70 (tl_ 18 32767) hHeld ?_
 refine pw_ 15 72 (tl_ 18 65535) ?_
 refine pw_ 16 73 (tl_ 18 131071) ?_
 refine last_ (i:=17) (N:=none) (tl_ 18 262143) rfl rfl (Jo HT_.out (g1_)) (by decide) (fun K hK=>?_)
 refine skip_ (w1:=?_) (by rfl) rfl ?_ ?_
 rotate_left
 ·go_simp
  rfl
 refine hK.out _ _ ?_
 clear hK K
 refine done_ (done_of HT_.out (g1_)) ?_
 try go_wp2
 go_roundg k2
 case measure=>have:=HK1.out;have:=HK2.out;omega
 case rel=>exact⟨(wrap64 (ik + 1)),(aq0),(gr6),(ck2),(.slice (some fc2) pv.length m3),(g2_),H',⟨g16_⟩,⟨by(with_reducible repeat(first|apply Kd.R_alloc|apply Kd.R_drewN|apply Kd.R_drew));exact Kd.R_mono (Kd.R_far (p:=⟨ck3,((rd l1 (ji30)):Int).toNat,none⟩) (Kd.R_far1 ai3.out rfl ((by4.out.1 _ rfl).1)) (fun _ hk=>hk.2) (.int .i64 (wrap64 ((rd (Jc aa (rd l1 ik)) (rd l1 (ji30))) - jt)))) (fun _ hk=>trivial)⟩,⟨uf3_ HQ42⟩,⟨by(with_reducible repeat(first|refine G6 ?_ _|refine G7 ?_|refine G5 ?_ _));refine Jf ?_ (by have h_:=Kd.R_ne by4.out m0.out (by decide);intro e_;exact h_ (g6_)) _;exact uf0_ m0⟩,⟨by(with_reducible repeat(first|refine G6 ?_ _|refine G7 ?_|refine G5 ?_ _));refine Jf ?_ (by have h_:=Kd.R_ne by4.out pc.out (by decide);intro e_;exact h_ (g6_)) _;exact uf0_ pc⟩,⟨by(with_reducible repeat(first|refine G6 ?_ _|refine G7 ?_|refine G5 ?_ _));refine Jf ?_ (by have h_:=Kd.R_ne by4.out so.out (by decide);intro e_;exact h_ (g6_)) _;exact uf0_ so⟩,⟨al8⟩⟩
def Fc.l0:Nat->Int->List Int->List (List Int)->Option (List Int × (List (List Int)) × Int)
 | 0,_,_,_=>none
 | k + 1,x5,fd2,fd3=>(Fe.f k fd2 fd3).bind fun rm=>(if (rm.length:Int)=0 then(some (fd2,fd3,x5)) else(if 0 < (rm.length:Int) then((Fk.f k fd2 fd3 (Jc rm 0)).bind fun bt301=>(Fc.l0 k (wrap64 (x5 + 1)) bt301.1 bt301.2)) else(none)))
def Fc.f (k:Nat) (ab:List Int) (aa:List (List Int)):Option (List Int × (List (List Int)) × Int):=(Ff.f k ab aa).bind fun de3=>(if de3=true then((Fu.f k ab aa).bind fun bt290=>(Fc.l0 k 0 bt290.1 bt290.2)) else(some (([]:List Int),([]:List (List Int)),(-1))))
theorem Fc.calls0_q0 {p:Prop} (h:p:=by repeat(first|(with_reducible first|exact HB.out|apply G4|apply G3|apply G2|refine G1 ?_ gs8.out|refine G1 ?_ gs9.out|refine G1 ?_ jc3.out)|exact HB.out)):p:=h
set_option maxHeartbeats 8000000 in
set_option maxRecDepth 100000 in
theorem Fc.calls0 (k:Nat) (ae:Option Addr) (ac:Nat) (ab:List Int) (ag:Option Addr) (af:Nat) (aa:List (List Int)) (r1:List Int) (r2:List (List Int)) (r3:Int) (w:World) (ca:Kd.C (Kd.int .i64) w ae ab.length ab) (ce:ab.length<=ac) (cb:Kd.C (Kd.slice 3 (Kd.int .i64)) w ag aa.length aa) (cg:aa.length<=af) (h:Fc.f k ab aa=some (r1,r2,r3)) :
  Calls Try.prog 53 #[.agg #[.slice ae ab.length ac, .slice ag aa.length af]] w fun e w'=>∃v0_ v1_:Value,e = .returned (.tuple #[.agg #[v0_,v1_], .int .i64 r3])/\Kd.R (Kd.int .i64) 3 w' w.heap.size (fun k_=>(w.heap.size<=k_)) v0_ r1/\Kd.S (Kd.slice 3 (Kd.int .i64)) 22 w' w.heap.size (fun k_=>(w.heap.size<=k_)/\some k_≠(v0_:Value).ownBlock) v1_ r2/\Below w.heap.size w w':=by
 have hu25:=Try.underlying25
 have bu:=A_ ca
 have cq:=A_ ce
 clear ca ce
 have bf:=A_ cb
 have cu:=A_ cg
 clear cb cg
 have HB:=A_ (Below.refl w.heap.size w)
 have H:=h
 unfold Fc.f at H
 clear h
 obtain⟨de3,A2,H⟩:=bind_ H
 by_cases c3:de3=true
 case neg=>
  replace c3:=Bool.eq_false_iff.mpr c3
  subst c3
  replace H:=ifn_ H
  simp only[Option.some.injEq,Prod.mk.injEq] at H
  obtain⟨rfl,rfl,rfl⟩:=H
  go_enter Try.func53,Try.ntmps53
  go_wp2_with (first|((with_reducible refine gd_ 1 ?_);refine bx_ (N:=1) #[.slice ae ab.length ac, .slice ag aa.length af] 25 ?_;intro pd hg w45 hbox hb;have ko:=A_ (hbox);have jc4:=A_ ((g26_:w.heap.size<=pd));have gs8:=jc4;replace HB:=A_ (Jh (Fc.calls0_q0) hb);clear hb hbox hg)|((with_reducible refine gd_ 2 ?_);refine bx_ (N:=2) #[.slice none 0 0, .slice none 0 0] 25 ?_;intro ly hg ro hbox hb;have lb:=A_ (hbox);have jc5:=A_ ((g26_:w.heap.size<=ly));have gs9:=jc5;replace HB:=A_ (Jh (Fc.calls0_q0) hb);have dy6:=A_ ((g136_:pd≠ly));have dy7:=A_ ((g137_:ly≠pd));replace ko:=bb_ ko hb;clear hb hbox hg;have dz2:=dy6.out;have dz3:=dy7.out;obtain⟨df1,df2,df3,df4⟩:=blk2_ ko)|((with_reducible refine gc_ 42 ?_);refine gl_ 8 Try.func42 #[.agg #[.slice ae ab.length ac, .slice ag aa.length af]] ?_;(refine(Ff.calls k _ _ ab _ _ aa false _ (uf1_ bu) cq.out (uf1_ bf) cu.out A2.out).mono ?_);rintro e w49 ⟨rfl,hb⟩;refine⟨_,rfl,?_⟩;replace ko:=bb_ ko hb;replace lb:=bb_ lb hb;replace HB:=A_ (Jh (Fc.calls0_q0) hb);obtain⟨lu3,lu4,lu5,lu6⟩:=blk2_ lb))
  refine bodyPost_ret (Jn rfl _ _ ly 25 #[.slice none 0 0, .slice none 0 0] (0,0) _ rfl (ba_ lb) Try.underlying25 rfl (g1_)) rfl ?_
  exact⟨_,_,g4_,g18_,g24_,Fc.calls0_q0⟩
 subst c3
 replace H:=ifp_ H
 replace H:=Option.bind_eq_some_iff.mp H
 obtain⟨⟨ai4,ap4⟩,oc,H⟩:=H
 try dsimp only at H
 have A4:=A_ oc
 clear oc
 have H':=A_ H
 clear H
 go_enter Try.func53,Try.ntmps53
 go_wp2_with (first|((with_reducible refine gd_ 1 ?_);refine bx_ (N:=1) #[.slice ae ab.length ac, .slice ag aa.length af] 25 ?_;intro pd hg w5 hbox hb;have ko:=A_ (hbox);have jc4:=A_ ((g26_:w.heap.size<=pd));have gs8:=jc4;replace HB:=A_ (Jh (Fc.calls0_q0) hb);clear hb hbox hg)|((with_reducible refine gd_ 2 ?_);refine bx_ (N:=2) #[.slice none 0 0, .slice none 0 0] 25 ?_;intro ly hg w6 hbox hb;have lb:=A_ (hbox);have jc5:=A_ ((g26_:w.heap.size<=ly));have gs9:=jc5;replace HB:=A_ (Jh (Fc.calls0_q0) hb);have dy6:=A_ ((g136_:pd≠ly));have dy7:=A_ ((g137_:ly≠pd));replace ko:=bb_ ko hb;clear hb hbox hg;have et0:=dy6.out;have et1:=dy7.out;obtain⟨sj,sk,sl,sm⟩:=blk2_ ko)|((with_reducible refine gc_ 42 ?_);refine gl_ 8 Try.func42 #[.agg #[.slice ae ab.length ac, .slice ag aa.length af]] ?_;(refine(Ff.calls k _ _ ab _ _ aa true _ (uf1_ bu) cq.out (uf1_ bf) cu.out A2.out).mono ?_);rintro e w9 ⟨rfl,hb⟩;refine⟨_,rfl,?_⟩;replace ko:=bb_ ko hb;replace lb:=bb_ lb hb;replace HB:=A_ (Jh (Fc.calls0_q0) hb);obtain⟨am4,am5,am6,am7⟩:=blk2_ ko)|((with_reducible refine gc_ 80 ?_);refine gl_ 12 Try.func80 #[.agg #[.slice ae ab.length ac, .slice ag aa.length af]] ?_;(refine(Fu.calls k _ _ ab _ _ aa ai4 ap4 _ (uf1_ bu) cq.out (uf1_ bf) cu.out A4.out).mono ?_);rintro e w11 ⟨gt0,lt4,rfl,aj,ar,hb⟩;refine⟨_,rfl,?_⟩;have bd0:=A_ (Kd.R_lower (Kd.R_newM (M:=fun k_=>(w.heap.size<=k_)) aj (G0 (Fc.calls0_q0)) (fun k_ h_=>h_)) (G0 (Fc.calls0_q0)));have dy8:=A_ (Kd.S_lower (Kd.S_mono (ok':=fun k_=>(w.heap.size<=k_)/\some k_≠(gt0:Value).ownBlock/\k_≠pd/\k_≠ly) (id (Kd.S_bound ar)) (fun k_ hk_=>⟨(Nat.le_trans (G0 (Fc.calls0_q0)) hk_.2.1),hk_.1,(Kd.freshB (g:=pd) (o:=.cells #[.slice ae ab.length ac, .slice ag aa.length af] 25 (0,0)) (uf0_ ko) k_ hk_.2.1),(Kd.freshB (g:=ly) (o:=.cells #[.slice none 0 0, .slice none 0 0] 25 (0,0)) (uf0_ lb) k_ hk_.2.1)⟩)) (G0 (Fc.calls0_q0)));replace ko:=bb_ ko hb;replace lb:=bb_ lb hb;replace HB:=A_ (Jh (Fc.calls0_q0) hb))|((with_reducible refine gd_ 4 ?_);refine bx_ (N:=4) #[.slice none 0 0, .slice none 0 0] 25 ?_;intro mf hg ws hbox hb;replace bd0:=rb_ bd0 hb;replace dy8:=A_ (Kd.S_below (Kd.S_elderB (uf3_ dy8) mf (Nat.le_of_eq hg.symm)) hb);have mg:=A_ (hbox);have lt5:=A_ ((g26_:w.heap.size<=mf));have jc3:=lt5;replace HB:=A_ (Jh (Fc.calls0_q0) hb);have bd1:=A_ ((g136_:pd≠mf));have de4:=A_ ((g137_:mf≠pd));replace ko:=bb_ ko hb;have bd2:=nl_ lb hg;have de5:=nr_ lb hg;replace lb:=bb_ lb hb;clear hb hbox hg;obtain⟨bq,bb,ao8⟩:=Kd.R_slice bd0.out;subst ao8;have cr3:=de4.out;have cr4:=bd1.out;have dt6:=de5.out;have dt7:=bd2.out;obtain⟨bs7,bs8,bs9,bt0⟩:=blk2_ mg;obtain⟨fd,ey,vn⟩:=Kd.S_slice dy8.out;subst vn))
 go_loopg [5] k (fun kq v5 w'=>∃(an:Int) (pw:List Int) (px:List (List Int)) (dy9:Value) (fd4:Value),v5 = .int .i64 an/\Gy (Fc.l0 kq an pw px=some (r1,r2,r3))/\Gy (kq<=k)/\Gy (Kd.R (Kd.int .i64) 3 w' w.heap.size (fun k_=>(w.heap.size<=k_)) dy9 pw)/\Gy (Kd.S (Kd.slice 3 (Kd.int .i64)) 22 w' w.heap.size (fun k_=>(w.heap.size<=k_)/\some k_≠(dy9:Value).ownBlock/\k_≠pd/\k_≠ly/\k_≠mf) fd4 px)/\Gy (hc_ w' pd #[(.slice ae ab.length ac),(.slice ag aa.length af)] 25)/\Gy (hc_ w' ly #[(.slice none 0 0),(.slice none 0 0)] 25)/\Gy (hc_ w' mf #[dy9,fd4] 25)/\Gy (Below w.heap.size w w'))
 case atStart=>exact⟨(0),(ai4),(ap4),(.slice bq ai4.length bb),(.slice fd ap4.length ey),(g2_),H',⟨Nat.le_refl _⟩,⟨ra_ bd0⟩,⟨sa_ dy8⟩,⟨ba_ ko⟩,⟨ba_ lb⟩,⟨ba_ mg⟩,⟨Fc.calls0_q0⟩⟩
 clear H'
 obtain⟨an,pw,px,dy9,fd4,rfl,HA,HK1,pz,qs,ko,lb,mg,HB⟩:=hrel
 cases gk with
 | zero=>exact absurd HA.out (by simp[Fc.l0])
 | succ k1=>?_
 have H:=HA.out
 clear HA
 simp only[Fc.l0] at H
 obtain⟨rm,A18,H⟩:=bind_ H
 by_cases ei:(rm.length:Int)=0
 ·rw[if_pos ei] at H
  have qm:((rm.length:Int) == 0)=true:=beq_iff_eq.mpr ei
  have ac8:((rm.length:Int) != 0)=false:=bne_eq_false_iff_eq.mpr ei
  clear ei
  simp only[Option.some.injEq,Prod.mk.injEq] at H
  obtain⟨rfl,rfl,rfl⟩:=H
  have bv3:=de4.out
  have bv4:=bd1.out
  have gt1:=de5.out
  have gt2:=bd2.out
  obtain⟨an3,an4,an5,an6⟩:=blk2_ mg
  obtain⟨dj,bw,by5⟩:=Kd.R_slice pz.out
  subst by5
  obtain⟨at9,ej,ci3⟩:=Kd.S_slice qs.out
  subst ci3
  go_wp2_with (first|((with_reducible refine gc_ 95 ?_);refine gl_ 14 Try.func95 #[.agg #[.slice dj pw.length bw, .slice at9 px.length ej]] ?_;(refine(Fe.calls k1 _ _ pw _ _ px rm _ (cR_ pz) (lR_ pz) (cS_ qs) (lS_ qs) A18.out).mono ?_);rintro e oa ⟨jc6,rfl,aj,hb⟩;refine⟨_,rfl,?_⟩;have ai5:=A_ (Kd.N_lower (Kd.N_mono (ok':=fun k_=>(w.heap.size<=k_)/\some k_≠(.slice dj pw.length bw:Value).ownBlock/\some k_≠(.slice at9 px.length ej:Value).ownBlock/\k_≠pd/\k_≠ly/\k_≠mf) aj (fun k_ hk_=>⟨(Nat.le_trans (G0 (Fc.calls0_q0)) hk_),(Kd.fresh' (Kd.R_lt (uf2_ pz)) k_ hk_),(Kd.fresh' (Kd.S_lt (uf3_ qs)) k_ hk_),(Kd.freshB (g:=pd) (o:=.cells #[.slice ae ab.length ac, .slice ag aa.length af] 25 (0,0)) (uf0_ ko) k_ hk_),(Kd.freshB (g:=ly) (o:=.cells #[.slice none 0 0, .slice none 0 0] 25 (0,0)) (uf0_ lb) k_ hk_),(Kd.freshB (g:=mf) (o:=.cells #[.slice dj pw.length bw, .slice at9 px.length ej] 25 (0,0)) (uf0_ mg) k_ hk_)⟩)) (G0 (Fc.calls0_q0)));replace pz:=rb_ pz hb;replace qs:=A_ (Kd.S_elder' (uf3_ qs) (Kd.N_base (g95_)) hb);replace ko:=bb_ ko hb;replace lb:=bb_ lb hb;replace mg:=bb_ mg hb;replace HB:=A_ (Jh (Fc.calls0_q0) hb);obtain⟨ti,tj,au0⟩:=Kd.N_slice ai5.out;subst au0;obtain⟨ck5,ck6,ck7,ck8⟩:=blk2_ mg;have bw1:=dy7.out;have bw2:=dy6.out;obtain⟨cx3,cx4,cx5,cx6⟩:=blk2_ lb))
  refine bodyPost_ret (Jn rfl _ _ ly 25 #[.slice dj pw.length bw, .slice at9 px.length ej] (0,0) _ rfl (ba_ lb) Try.underlying25 rfl (g1_)) rfl ?_
  exact⟨_,_,g4_,ra_ pz,sa_ qs,Fc.calls0_q0⟩
 rw[if_neg ei] at H
 have qm:((rm.length:Int) == 0)=false:=beq_eq_false_iff_ne.mpr ei
 have ac8:((rm.length:Int) != 0)=true:=bne_iff_ne.mpr ei
 have ch0:¬ (rm=[]):=fun h_=>ei (g47_)
 obtain⟨rh,H⟩:=pos_ H
 have ci6:=decide_eq_true rh
 have ey0:decide (0 < rm.length)=true:=decide_eq_true (by omega)
 clear rh
 replace H:=Option.bind_eq_some_iff.mp H
 obtain⟨⟨ai6,de6⟩,gt3,H⟩:=H
 try dsimp only at H
 have A31:=A_ gt3
 clear gt3
 have H':=A_ H
 clear H
 have de7:=de4.out
 have de8:=bd1.out
 have bk0:=de5.out
 have bk1:=bd2.out
 obtain⟨gh4,gh5,gh6,gh7⟩:=blk2_ mg
 obtain⟨zq,wy,ci8⟩:=Kd.R_slice pz.out
 subst ci8
 obtain⟨zg,zh,et8⟩:=Kd.S_slice qs.out
 subst et8
 try go_wp2_with (first|((with_reducible refine gc_ 95 ?_);refine gl_ 14 Try.func95 #[.agg #[.slice zq pw.length wy, .slice zg px.length zh]] ?_;(refine(Fe.calls k1 _ _ pw _ _ px rm _ (cR_ pz) (lR_ pz) (cS_ qs) (lS_ qs) A18.out).mono ?_);rintro e rj ⟨jc6,rfl,aj,hb⟩;refine⟨_,rfl,?_⟩;have ai5:=A_ (Kd.N_lower (Kd.N_mono (ok':=fun k_=>(w.heap.size<=k_)/\some k_≠(.slice zq pw.length wy:Value).ownBlock/\some k_≠(.slice zg px.length zh:Value).ownBlock/\k_≠pd/\k_≠ly/\k_≠mf) aj (fun k_ hk_=>⟨(Nat.le_trans (G0 (Fc.calls0_q0)) hk_),(Kd.fresh' (Kd.R_lt (uf2_ pz)) k_ hk_),(Kd.fresh' (Kd.S_lt (uf3_ qs)) k_ hk_),(Kd.freshB (g:=pd) (o:=.cells #[.slice ae ab.length ac, .slice ag aa.length af] 25 (0,0)) (uf0_ ko) k_ hk_),(Kd.freshB (g:=ly) (o:=.cells #[.slice none 0 0, .slice none 0 0] 25 (0,0)) (uf0_ lb) k_ hk_),(Kd.freshB (g:=mf) (o:=.cells #[.slice zq pw.length wy, .slice zg px.length zh] 25 (0,0)) (uf0_ mg) k_ hk_)⟩)) (G0 (Fc.calls0_q0)));replace pz:=rb_ pz hb;replace qs:=A_ (Kd.S_elder' (uf3_ qs) (Kd.N_base (g95_)) hb);replace ko:=bb_ ko hb;replace lb:=bb_ lb hb;replace mg:=bb_ mg hb;replace HB:=A_ (Jh (Fc.calls0_q0) hb);obtain⟨lv,j8,au1⟩:=Kd.N_slice ai5.out;subst au1))
 replace pz:=rd_ pz
 replace qs:=sd_ qs
 replace ai5:=nd_ ai5
 replace ko:=bd_ ko
 replace lb:=bd_ lb
 replace mg:=bd_ mg
 replace HB:=A_ (G2 HB.out)
 have dz0:0<=(0:Int):=(by omega)
 have dz1:0 < (rm.length:Int):=od_
 obtain⟨gt4,gt5,gt6,jc7,de9,gt7,gt8⟩:=at_L1 (Kd.N_reads' ai5.out).2.2 0 dz0 dz1
 cases jc7
 obtain⟨ce300,hce300,hMe300,hcc300⟩:=Kd.N_get ai5.out [] 0 dz0 (by first|exact dz1|exact od_|(have e_:=(Kd.N_reads' ai5.out).1;omega))
 obtain⟨ua300_0,uc300_0,rfl,ul300_0,ge300_0⟩:=Kd.FK_slice_open hMe300
 have hv300_0:=hcc300 0 _ rfl
 rw[Nat.add_zero,show((Kd.slice 3 (Kd.int .i64))).sz=1 from rfl,Nat.mul_one] at hv300_0
 replace hv300_0:=Option.some.inj (hv300_0.symm.trans de9)
 injection hv300_0 with hva_ hvn_ hvc_
 rw[hva_] at ge300_0
 rw[hvc_] at ul300_0
 have fd5:=A_ (show Kd.V (Kd.int .i64) 3 _ w.heap.size _ _ (Jc rm 0) from Kd.V_mk ul300_0 ge300_0)
 clear hva_ hvn_ hvc_ ge300_0 ul300_0
 clear hcc300 hce300
 have qi300:(0 < rm.length)=True:=eq_true (by omega)
 (try rw[show((0:Int)).toNat=0 from rfl] at de9)
 (try rw[Addr.add_zero'] at de9)
 have ck9:=A_ gt8
 have jc8:=A_ gt7
 clear gt8 gt7
 replace dz0:=eq_true dz0
 replace dz1:=eq_true dz1
 refine start_ (n:=6) (S:=fun w'=>w'.cell? ⟨mf,0,none⟩=some (.slice zq pw.length wy)/\w'.cell? ⟨mf,1,none⟩=some (.slice zg px.length zh)/\w'.cell? gt4=some (.slice gt5 (Jc rm 0).length gt6)) (ds:=[5]) (tl_ 6 0) (g1_) rfl (g1_) ⟨(Gz mg.out 0).trans rfl,(Gz mg.out 1).trans rfl,de9⟩ (fun hHeld=>?_)
 generalize rj.drew=w39 at pz qs ai5 ko lb mg HB fd5 ck9 de9 hHeld |-
 refine pure_ (i:=1) (N:=some 21) (v:=?_) (a':=?_) (tl_ 6 2) rfl rfl (g1_) (fun _ _ _ h=>h) (Or.inl ⟨by rfl,?_⟩) ?_ ?_
 rotate_left
 ·intro w'
  go_simp
  with_reducible rfl
 rotate_left
 ·simp only[Act.put,List.setIfInBounds_toArray,List.set_cons_zero,List.set_cons_succ,i64_w,i32_w]
  rfl
 refine pure_ (i:=2) (N:=some 22) (v:=?_) (a':=?_) (tl_ 6 6) rfl rfl (g1_) (fun _ _ _ h=>h) (Or.inl ⟨by rfl,?_⟩) ?_ ?_
 rotate_left
 ·intro w'
  go_simp
  with_reducible rfl
 rotate_left
 ·simp only[Act.put,List.setIfInBounds_toArray,List.set_cons_zero,List.set_cons_succ,i64_w,i32_w]
  rfl
 refine take_ (i:=0) (N:=some 20) (v:=?_) (a':=?_) (tl_ 6 7) rfl rfl (g1_) (fun _ _ _ h=>h) (Or.inl ⟨by rfl,?_⟩) hHeld ?_ ?_
 rotate_left
 ·rintro w' ⟨s0,s1,s2⟩
  go_simp
  with_reducible rfl
 rotate_left
 ·simp only[Act.put,List.setIfInBounds_toArray,List.set_cons_zero,List.set_cons_succ,i64_w,i32_w]
  rfl
 refine take_ (i:=3) (N:=some 23) (v:=?_) (a':=?_) (tl_ 6 15) rfl rfl (g1_) (fun _ _ _ h=>h) (Or.inl ⟨by rfl,?_⟩) hHeld ?_ ?_
 rotate_left
 ·rintro w' ⟨s0,s1,s2⟩
  go_simp
  with_reducible rfl
 rotate_left
 ·simp only[Act.put,List.setIfInBounds_toArray,List.set_cons_zero,List.set_cons_succ,i64_w,i32_w]
  rfl
 refine one_ (i:=4) (N:=some 24) (tl_ 6 31) rfl rfl (g1_) (by decide) (fun K hK=>?_)
 refine goes_ Try.func98 (g1_) rfl #[.agg #[.slice zq pw.length wy, .slice zg px.length zh], .slice gt5 (Jc rm 0).length gt6] (by rfl) rfl rfl (g3_) ?_
 with_reducible refine(Fk.calls k1 _ _ pw _ _ px _ _ (Jc rm 0) ai6 de6 _ ?side1 ?side2 ?side3 ?side4 ?side5 ?side6 A31.out).mono ?_
 (case side1=>exact cR_ pz)
 (case side2=>exact lR_ pz)
 (case side3=>exact cS_ qs)
 (case side4=>exact lS_ qs)
 (case side5=>repeat(first|exact(by repeat(first|(with_reducible exact ck9.out)|(with_reducible refine Kd.C_alloc ?_ _)|(with_reducible refine Kd.C_drewN ?_ _)|(with_reducible refine Kd.C_drew ?_)|exact ck9.out))|(with_reducible refine Kd.C_alloc ?_ _)|(with_reducible refine Kd.C_drewN ?_ _)|(with_reducible refine Kd.C_drew ?_)))
 (case side6=>exact jc8.out)
 rintro e w40 ⟨gt9,lt6,rfl,aj,ar,hb⟩
 have HS2_:=(hb.cell (World.block_lt_of_cell? _ _ (hHeld.2.2))).trans (hHeld.2.2)
 refine⟨_,rfl,?_⟩
 replace fd5:=A_ (Kd.V_mono (Kd.V_told (Kd.V_told (Kd.V_old (uf5_ fd5) hb) (Kd.R_base aj)) (Kd.S_base (g60_))) (fun _ h_=>h_.1))
 have df0:=A_ (Kd.R_lower (Kd.R_new' (Kd.R_newM (M:=fun k_=>(w.heap.size<=k_)) aj (G0 (Fc.calls0_q0)) (fun k_ h_=>h_)) (Kd.R_lt (uf2_ pz))) (G0 (Fc.calls0_q0)))
 have gu0:=A_ (Kd.S_lower (Kd.S_mono (ok':=fun k_=>(w.heap.size<=k_)/\some k_≠(gt9:Value).ownBlock/\some k_≠(.slice zq pw.length wy:Value).ownBlock/\some k_≠(.slice zg px.length zh:Value).ownBlock/\some k_≠(.slice (some gt4) rm.length j8:Value).ownBlock/\k_≠pd/\k_≠ly/\k_≠mf) (id (Kd.S_bound ar)) (fun k_ hk_=>⟨(Nat.le_trans (G0 (Fc.calls0_q0)) hk_.2.1),hk_.1,(Kd.fresh' (Kd.R_lt (uf2_ pz)) k_ hk_.2.1),(Kd.fresh' (Kd.S_lt (uf3_ qs)) k_ hk_.2.1),(Kd.fresh' (Kd.N_lt (uf4_ ai5)) k_ hk_.2.1),(Kd.freshB (g:=pd) (o:=.cells #[.slice ae ab.length ac, .slice ag aa.length af] 25 (0,0)) (uf0_ ko) k_ hk_.2.1),(Kd.freshB (g:=ly) (o:=.cells #[.slice none 0 0, .slice none 0 0] 25 (0,0)) (uf0_ lb) k_ hk_.2.1),(Kd.freshB (g:=mf) (o:=.cells #[.slice zq pw.length wy, .slice zg px.length zh] 25 (0,0)) (uf0_ mg) k_ hk_.2.1)⟩)) (G0 (Fc.calls0_q0)))
 replace pz:=A_ (Kd.R_elder' (uf2_ pz) (Kd.R_base aj) hb)
 replace qs:=A_ (Kd.S_mono (Kd.S_told (Kd.S_told (Kd.S_old (uf3_ qs) hb) (Kd.R_base aj)) (Kd.S_base (g60_))) (fun _ h_=>h_.1))
 replace ai5:=A_ (Kd.N_mono (Kd.N_told (Kd.N_told (Kd.N_old (uf4_ ai5) hb) (Kd.R_base aj)) (Kd.S_base (g60_))) (fun _ h_=>h_.1))
 replace ko:=bb_ ko hb
 replace lb:=bb_ lb hb
 replace mg:=bb_ mg hb
 replace ck9:=A_ (Kd.C_below (by repeat(first|(with_reducible exact ck9.out)|(with_reducible refine Kd.C_alloc ?_ _)|(with_reducible refine Kd.C_drewN ?_ _)|(with_reducible refine Kd.C_drew ?_)|exact ck9.out)) hb)
 replace HB:=A_ (Jh (Fc.calls0_q0) hb)
 obtain⟨oz,m3,av6⟩:=Kd.R_slice df0.out
 (first|subst av6|(injection av6 with f1_ f2_ f3_;have f4_:=f1_.symm;have f5_:=f3_.symm;clear f1_ f2_ f3_;subst f4_;subst f5_))
 obtain⟨qt,p0,by6⟩:=Kd.S_slice gu0.out
 (first|subst by6|(injection by6 with f1_ f2_ f3_;have f4_:=f1_.symm;have f5_:=f3_.symm;clear f1_ f2_ f3_;subst f4_;subst f5_))
 refine hK.out _ _ ⟨(Gz mg.out 0).trans rfl,(Gz mg.out 1).trans rfl,HS2_⟩ (fun hHeld=>?_)
 clear hK K
 refine nm_ ?_
 refine last_ (i:=5) (N:=none) (tl_ 6 63) rfl rfl (g1_) (by decide) (fun K hK=>?_)
 have jc9:w40.cell? ⟨mf,0,none⟩=some (.slice zq pw.length wy):=(Gz mg.out 0).trans rfl
 have jd0:=G8 mg.out 0
 have lt7:w40.cell? ⟨mf,1,none⟩=some (.slice zg px.length zh):=(Gz mg.out 1).trans rfl
 have lt8:=G8 mg.out 1
 refine skip_ (w1:=?_) (by rfl) rfl ?_ ?_
 rotate_left
 ·go_simp
  rfl
 refine hK.out _ _ ?_
 clear hK K
 refine done_ (g1_) ?_
 try go_wp2
 go_roundg k1
 case measure=>have:=HK1.out;omega
 case rel=>exact⟨(wrap64 (an + 1)),(ai6),(de6),(.slice oz ai6.length m3),(.slice qt de6.length p0),(g2_),H',⟨g13_⟩,⟨ra_ df0⟩,⟨sa_ gu0⟩,⟨ba_ ko⟩,⟨ba_ lb⟩,⟨ba_ mg⟩,⟨Fc.calls0_q0⟩⟩
theorem Fc.calls (k:Nat) (ae:Option Addr) (ac:Nat) (ab:List Int) (ag:Option Addr) (af:Nat) (aa:List (List Int)) (r1:List Int) (r2:List (List Int)) (r3:Int) (w:World) (ca:Kd.C (Kd.int .i64) w ae ab.length ab) (ce:ab.length<=ac) (cb:Kd.C (Kd.slice 3 (Kd.int .i64)) w ag aa.length aa) (cg:aa.length<=af) (h:Fc.f k ab aa=some (r1,r2,r3)) :
  Calls Try.prog 53 #[.agg #[.slice ae ab.length ac, .slice ag aa.length af]] w fun e w'=>∃v0_ v1_:Value,e = .returned (.tuple #[.agg #[v0_,v1_], .int .i64 r3])/\Kd.R (Kd.int .i64) 3 w' w.heap.size (fun _=>True) v0_ r1/\Kd.S (Kd.slice 3 (Kd.int .i64)) 22 w' w.heap.size (fun k_=>some k_≠(v0_:Value).ownBlock) v1_ r2/\Below w.heap.size w w':=by
 refine(Fc.calls0 k ae ac ab ag af aa r1 r2 r3 w ca ce cb cg h).mono ?_
 rintro e w' ⟨v0_,v1_,he,h0,h1,hb⟩
 exact⟨v0_,v1_,he,Kd.R_mono h0 (fun _ _=>trivial),Kd.S_mono h1 (fun _ h_=>h_.2),hb⟩
mutual
def Fx.l0:Nat->Int->List Int->List (List Int)->List Int->List (List Int)->Option (Bool)
 | 0,_,_,_,_,_=>none
 | k + 1,x5,by7,by8,cl0,by9=>if x5 < (by7.length:Int) then(if 0<=x5 then(if x5 < (cl0.length:Int) then(if (rd by7 x5)=(rd cl0 x5) then(Fx.l1 k x5 0 by7 by8 cl0 by9) else(some false)) else(none)) else(none)) else(some true)
def Fx.l1:Nat->Int->Int->List Int->List (List Int)->List Int->List (List Int)->Option (Bool)
 | 0,_,_,_,_,_,_=>none
 | k + 1,x5,x6,by7,by8,cl0,by9=>if x6 < (by7.length:Int) then(if 0<=x5 then(if x5 < (by8.length:Int) then(if 0<=x6 then(if x6 < ((Jc by8 x5).length:Int) then(if x5 < (by9.length:Int) then(if x6 < ((Jc by9 x5).length:Int) then(if (rd (Jc by8 x5) x6)=(rd (Jc by9 x5) x6) then(Fx.l1 k x5 (wrap64 (x6 + 1)) by7 by8 cl0 by9) else(some false)) else(none)) else(none)) else(none)) else(none)) else(none)) else(none)) else(Fx.l0 k (wrap64 (x5 + 1)) by7 by8 cl0 by9)
end
def Fx.f (k:Nat) (ab:List Int) (aa:List (List Int)) (bg:List Int) (b5:List (List Int)):Option (Bool):=Fx.l0 k 0 ab aa bg b5
theorem ac1 {p:Prop} (h:p:=by repeat(first|(with_reducible first|exact HB.out|apply G4|apply G3|apply G2|refine G1 ?_ fd6.out|refine G1 ?_ fd7.out)|exact HB.out)):p:=h
set_option maxHeartbeats 8000000 in
set_option maxRecDepth 100000 in
theorem Fx.calls (k:Nat) (ae:Option Addr) (ac:Nat) (ab:List Int) (ag:Option Addr) (af:Nat) (aa:List (List Int)) (eu:Option Addr) (ev:Nat) (bg:List Int) (e7:Option Addr) (e8:Nat) (b5:List (List Int)) (r:Bool) (w:World) (ca:Kd.C (Kd.int .i64) w ae ab.length ab) (ce:ab.length<=ac) (cb:Kd.C (Kd.slice 3 (Kd.int .i64)) w ag aa.length aa) (cg:aa.length<=af) (yn:Kd.C (Kd.int .i64) w eu bg.length bg) (yo:bg.length<=ev) (yp:Kd.C (Kd.slice 3 (Kd.int .i64)) w e7 b5.length b5) (yq:b5.length<=e8) (h:Fx.f k ab aa bg b5=some r) :
  Calls Try.prog 122 #[.agg #[.slice ae ab.length ac, .slice ag aa.length af], .agg #[.slice eu bg.length ev, .slice e7 b5.length e8]] w fun e w'=>e = .returned (.bool r)/\Below w.heap.size w w':=by
 have hu25:=Try.underlying25
 have bu:=A_ ca
 have cq:=A_ ce
 clear ca ce
 have bf:=A_ cb
 have cu:=A_ cg
 clear cb cg
 have am2:=A_ yn
 have ay4:=A_ yo
 clear yn yo
 have ay5:=A_ yp
 have br0:=A_ yq
 clear yp yq
 have HB:=A_ (Below.refl w.heap.size w)
 have H:(Fx.l0 k 0 ab aa bg b5)=some r:=h
 clear h
 have H':=A_ H
 clear H
 go_enter Try.func122,Try.ntmps122
 iterate 2 (go_wp2_with (first|((with_reducible refine gd_ 2 ?_);refine bx_ (N:=2) #[.slice ae ab.length ac, .slice ag aa.length af] 25 ?_;intro tq hg w3 hbox hb;have p8:=A_ (hbox);have gu1:=A_ ((g20_:w.heap.size<=tq));have fd6:=gu1;replace HB:=hs_ (ac1) hb;clear hb hbox hg)|((with_reducible refine gd_ 3 ?_);refine bx_ (N:=3) #[.slice eu bg.length ev, .slice e7 b5.length e8] 25 ?_;intro vw hg w4 hbox hb;have ai7:=A_ (hbox);have gu2:=A_ ((g20_:w.heap.size<=vw));have fd7:=gu2;replace HB:=hs_ (ac1) hb;have bm3:=A_ ((g138_:tq≠vw));have bm4:=A_ ((g139_:vw≠tq));replace p8:=bb_ p8 hb;clear hb hbox hg));try(go_quiet (fail)))
 go_loopg [5] k (fun kq v5 w'=>∃(an:Int),v5 = .int .i64 an/\Gy (Fx.l0 kq an ab aa bg b5=some r)/\Gy (kq<=k)/\Gy (hc_ w' tq #[(.slice ae ab.length ac),(.slice ag aa.length af)] 25)/\Gy (hc_ w' vw #[(.slice eu bg.length ev),(.slice e7 b5.length e8)] 25)/\Gy (Below w.heap.size w w'))
 case atStart=>exact⟨(0),(g2_),H',⟨Nat.le_refl _⟩,⟨uf0_ p8⟩,⟨uf0_ ai7⟩,⟨ac1⟩⟩
 clear H'
 obtain⟨an,rfl,HA,HK1,p8,ai7,HB⟩:=hrel
 cases gk with
 | zero=>exact absurd HA.out (by simp[Fx.l0])
 | succ k1=>?_
 have H:=HA.out
 clear HA
 simp only[Fx.l0] at H
 by_cases c5:an < (ab.length:Int)
 case neg=>
  rw[if_neg c5] at H
  have ij:=decide_eq_false c5
  clear c5
  obtain rfl:=Option.some.inj H
  have et6:=bm3.out
  have et7:=bm4.out
  obtain⟨ds6,ds7,ds8,ds9⟩:=blk2_ p8
  go_wp2
  repeat(go_quiet (fail);try go_wp2)
  go_ret
  exact⟨g4_,ac1⟩
 rw[if_pos c5] at H
 have ij:=decide_eq_true c5
 clear c5
 obtain⟨nk,H⟩:=pd_ H
 obtain⟨ud,H⟩:=pd_ H
 by_cases c8:(rd ab an)=(rd bg an)
 case neg=>
  rw[if_neg c8] at H
  have ad6:((rd ab an) == (rd bg an))=false:=beq_eq_false_iff_ne.mpr c8
  have bm5:((rd ab an) != (rd bg an))=true:=bne_iff_ne.mpr c8
  obtain rfl:=Option.some.inj H
  have bw1:=bm3.out
  have bw2:=bm4.out
  obtain⟨cx3,cx4,cx5,cx6⟩:=blk2_ p8
  obtain⟨⟨gu3,fe0,cl1⟩,bm6,bm7⟩:=rdp_ (Kd.at_int bu.out an)
  cases fe0
  replace cl1:=cl_ HB cl1
  obtain⟨br7,br8,br9,bs0⟩:=blk2_ ai7
  obtain⟨⟨gu4,fe1,cl2⟩,bm8,bm9⟩:=rdp_ (Kd.at_int am2.out an)
  cases fe1
  replace cl2:=cl_ HB cl2
  go_wp2
  repeat(go_quiet (fail);try go_wp2)
  go_ret
  exact⟨g4_,ac1⟩
 rw[if_pos c8] at H
 have ad6:((rd ab an) == (rd bg an))=true:=beq_iff_eq.mpr c8
 have bm5:((rd ab an) != (rd bg an))=false:=bne_eq_false_iff_eq.mpr c8
 clear c8
 have H':=A_ H
 clear H
 have fd8:=bm3.out
 have fd9:=bm4.out
 obtain⟨am4,am5,am6,am7⟩:=blk2_ p8
 obtain⟨⟨gu3,fe0,cl1⟩,bm6,bm7⟩:=rdp_ (Kd.at_int bu.out an)
 cases fe0
 replace cl1:=cl_ HB cl1
 obtain⟨yu,yv,yw,yx⟩:=blk2_ ai7
 obtain⟨⟨gu4,fe1,cl2⟩,bm8,bm9⟩:=rdp_ (Kd.at_int am2.out an)
 cases fe1
 replace cl2:=cl_ HB cl2
 go_wp2
 repeat(go_quiet (fail);try go_wp2)
 go_loopg [6] k1 (fun kq v6 w'=>∃(na:Int),v6 = .int .i64 na/\Gy (Fx.l1 kq an na ab aa bg b5=some r)/\Gy (kq<=k1)/\Gy (hc_ w' tq #[(.slice (some gu3) ab.length ac),(.slice ag aa.length af)] 25)/\Gy (hc_ w' vw #[(.slice (some gu4) bg.length ev),(.slice e7 b5.length e8)] 25)/\Gy (Below w.heap.size w w'))
 case atStart=>exact⟨(0),(g2_),H',⟨Nat.le_refl _⟩,⟨uf0_ p8⟩,⟨uf0_ ai7⟩,⟨ac1⟩⟩
 clear H'
 obtain⟨na,rfl,HA,HK2,p8,ai7,HB⟩:=hrel
 cases gk with
 | zero=>exact absurd HA.out (by simp[Fx.l1])
 | succ k2=>?_
 have H:=HA.out
 clear HA
 simp only[Fx.l1] at H
 by_cases go:na < (ab.length:Int)
 case neg=>
  rw[if_neg go] at H
  have t8:=decide_eq_false go
  clear go
  have H':=A_ H
  clear H
  obtain⟨ck5,ck6,ck7,ck8⟩:=blk2_ p8
  go_wp2
  repeat(go_quiet (fail);try go_wp2)
  go_roundg k2
  case measure=>have:=HK1.out;have:=HK2.out;omega
  case rel=>exact⟨(wrap64 (an + 1)),(g2_),H',⟨g16_⟩,⟨uf0_ p8⟩,⟨uf0_ ai7⟩,⟨ac1⟩⟩
 rw[if_pos go] at H
 have t8:=decide_eq_true go
 clear go
 obtain⟨az8,H⟩:=pd_ H
 obtain⟨vf,H⟩:=pd_ H
 obtain⟨mb,H⟩:=pd_ H
 obtain⟨vm,H⟩:=pd_ H
 obtain⟨vg,H⟩:=pd_ H
 obtain⟨ao9,H⟩:=pd_ H
 by_cases ei:(rd (Jc aa an) na)=(rd (Jc b5 an) na)
 ·rw[if_pos ei] at H
  have qm:((rd (Jc aa an) na) == (rd (Jc b5 an) na))=true:=beq_iff_eq.mpr ei
  have ac8:((rd (Jc aa an) na) != (rd (Jc b5 an) na))=false:=bne_eq_false_iff_eq.mpr ei
  clear ei
  have H':=A_ H
  clear H
  obtain⟨vh,vi,wu,vj⟩:=blk2_ p8
  obtain⟨⟨jd5,jd6,jd7,fe2,df5,df6,df7⟩,bz0,bz1⟩:=rdp_ (at_L1 bf.out an)
  cases fe2
  replace df5:=cl_ HB df5
  have fe3:=A_ df7
  have jd8:=A_ df6
  clear df7 df6
  obtain⟨⟨jd9,fe4,df8⟩,bz2,bz3⟩:=rdp_ (Kd.at_int fe3.out na)
  cases fe4
  replace df8:=cl_ HB df8
  obtain⟨an3,an4,an5,an6⟩:=blk2_ ai7
  obtain⟨⟨je0,je1,je2,fe5,df9,dg0,dg1⟩,bz4,bz5⟩:=rdp_ (at_L1 ay5.out an)
  cases fe5
  replace df9:=cl_ HB df9
  have fe6:=A_ dg1
  have je3:=A_ dg0
  clear dg1 dg0
  obtain⟨⟨je4,fe7,dg2⟩,bz6,bz7⟩:=rdp_ (Kd.at_int fe6.out na)
  cases fe7
  replace dg2:=cl_ HB dg2
  go_wp2
  repeat(go_quiet (fail);try go_wp2)
  go_roundg k2
  case measure=>have:=HK1.out;have:=HK2.out;omega
  case rel=>exact⟨(wrap64 (na + 1)),(g2_),H',⟨g16_⟩,⟨uf0_ p8⟩,⟨uf0_ ai7⟩,⟨ac1⟩⟩
 rw[if_neg ei] at H
 have qm:((rd (Jc aa an) na) == (rd (Jc b5 an) na))=false:=beq_eq_false_iff_ne.mpr ei
 have ac8:((rd (Jc aa an) na) != (rd (Jc b5 an) na))=true:=bne_iff_ne.mpr ei
 obtain rfl:=Option.some.inj H
 obtain⟨ct9,cu0,cu1,cu2⟩:=blk2_ p8
 obtain⟨⟨jd5,jd6,jd7,fe2,df5,df6,df7⟩,bz0,bz1⟩:=rdp_ (at_L1 bf.out an)
 cases fe2
 replace df5:=cl_ HB df5
 have fe3:=A_ df7
 have jd8:=A_ df6
 clear df7 df6
 obtain⟨⟨jd9,fe4,df8⟩,bz2,bz3⟩:=rdp_ (Kd.at_int fe3.out na)
 cases fe4
 replace df8:=cl_ HB df8
 obtain⟨dp5,dp6,dp7,dp8⟩:=blk2_ ai7
 obtain⟨⟨je0,je1,je2,fe5,df9,dg0,dg1⟩,bz4,bz5⟩:=rdp_ (at_L1 ay5.out an)
 cases fe5
 replace df9:=cl_ HB df9
 have fe6:=A_ dg1
 have je3:=A_ dg0
 clear dg1 dg0
 obtain⟨⟨je4,fe7,dg2⟩,bz6,bz7⟩:=rdp_ (Kd.at_int fe6.out na)
 cases fe7
 replace dg2:=cl_ HB dg2
 go_wp2
 repeat(go_quiet (fail);try go_wp2)
 go_ret
 exact⟨g4_,ac1⟩
attribute [local go_sem high] eqA69
mutual
def Fs.j0:Nat->Int->Bool->List Int->List (List Int)->Int->Int->Int->Int->List Int->List (List Int)->Option (List Int × (List (List Int)) × Bool)
 | 0,_,_,_,_,_,_,_,_,_,_=>none
 | k + 1,x6,pa,ai8,ai9,bd3,tr,ae8,aq1,av7,aj0=>if pa=true then(if 0<=tr then(if tr < (av7.length:Int) then((some (av7.set (tr:Int).toNat aq1:List Int)).bind fun av8=>((Fx.f k av8 aj0 ai8 ai9).bind fun dg3=>(some (av8,aj0, !dg3)))) else(none)) else(none)) else(if bd3=1 then((F5.f tr 0 (wrap64 (x6 - 1))).bind fun ff0=>(if ff0=true then((F5.f ae8 0 (wrap64 (x6 - 1))).bind fun dm=>(if dm=true then(if tr=ae8 then(Fs.j1 k false ai8 ai9 bd3 tr ae8 aq1 av7 aj0) else((F5.f aq1 0 9).bind fun dz4=>(Fs.j1 k dz4 ai8 ai9 bd3 tr ae8 aq1 av7 aj0))) else(Fs.j1 k false ai8 ai9 bd3 tr ae8 aq1 av7 aj0))) else(Fs.j1 k false ai8 ai9 bd3 tr ae8 aq1 av7 aj0))) else(Fs.j1 k false ai8 ai9 bd3 tr ae8 aq1 av7 aj0))
def Fs.j1:Nat->Bool->List Int->List (List Int)->Int->Int->Int->Int->List Int->List (List Int)->Option (List Int × (List (List Int)) × Bool)
 | 0,_,_,_,_,_,_,_,_,_=>none
 | k + 1,x42,ai8,ai9,bd3,tr,ae8,aq1,av7,aj0=>if x42=true then(if 0<=tr then(if tr < (aj0.length:Int) then(if 0<=ae8 then(if ae8 < ((Jc aj0 tr).length:Int) then((some (aj0.set (tr:Int).toNat ((Jc aj0 tr).set (ae8:Int).toNat aq1):List (List Int))).bind fun ae9=>((Fx.f k av7 ae9 ai8 ai9).bind fun bz8=>(some (av7,ae9, !bz8)))) else(none)) else(none)) else(none)) else(none)) else(if (bd3 == 2 && (tr == 0 && (ae8 == 0 && (aq1 == 0))))=true then((Fj.f k ai8 ai9).bind fun bt349=>((Fx.f k bt349.1 bt349.2 ai8 ai9).bind fun ff1=>(some (bt349.1,bt349.2, !ff1)))) else(if (bd3 == 3 && (tr == 0 && (ae8 == 0 && (aq1 == 0))))=true then((Fc.f k ai8 ai9).bind fun bt356=>((Fx.f k bt356.1 bt356.2.1 ai8 ai9).bind fun ff2=>(some (bt356.1,bt356.2.1, !ff2)))) else(some (([]:List Int),([]:List (List Int)),false))))
end
def Fs.f (k:Nat) (ab:List Int) (aa:List (List Int)) (aq:Int) (ak:Int) (am:Int) (ap:Int):Option (List Int × (List (List Int)) × Bool):=(Fu.f k ab aa).bind fun bt330=>(if aq=0 then((F5.f ak 0 (wrap64 ((ab.length:Int) - 1))).bind fun dg4=>(if dg4=true then(if am=0 then((F5.f ap 0 20).bind fun cl3=>(Fs.j0 k (ab.length:Int) cl3 ab aa aq ak am ap bt330.1 bt330.2)) else(Fs.j0 k (ab.length:Int) false ab aa aq ak am ap bt330.1 bt330.2)) else(Fs.j0 k (ab.length:Int) false ab aa aq ak am ap bt330.1 bt330.2))) else(Fs.j0 k (ab.length:Int) false ab aa aq ak am ap bt330.1 bt330.2))
def Fs.T7:Bool × List (List Nat × List Nat):=(true,[([],[]),([0],[0]),([],[]),([2],[2]),([1,3],[1,3]),([4],[4]),([],[]),([6],[6]),([],[]),([8],[8]),([5,7,0,1,2,3,4,5,6,7,8,9],[5,7]),([10,9,0,1,2,3,4,5,6,7,8,9],[9,10])])
def Fs.B7:List Nat:=[0,1,0,4,15,31,0,64,0,256,1023,2047]
theorem Fs.tab7:rtab .any (opsOf Try.f101 7)=Fs.T7:=by kernel_rfl
theorem Fs.bits7:waitsOk Fs.T7.2 Fs.B7=true:=by kernel_rfl
theorem km {p:Prop} (h:p:=by repeat(first|(with_reducible first|exact HB.out|apply G4|apply G3|apply G2|refine G1 ?_ je5.out|refine G1 ?_ je6.out|refine G1 ?_ je7.out|refine G1 ?_ je8.out|refine G1 ?_ GB91.out)|exact HB.out)):p:=h
set_option maxHeartbeats 8000000 in
set_option maxRecDepth 100000 in
theorem Fs.calls (k:Nat) (ae:Option Addr) (ac:Nat) (ab:List Int) (ag:Option Addr) (af:Nat) (aa:List (List Int)) (aq:Int) (ak:Int) (am:Int) (ap:Int) (r1:List Int) (r2:List (List Int)) (r3:Bool) (w:World) (ca:Kd.C (Kd.int .i64) w ae ab.length ab) (ce:ab.length<=ac) (cb:Kd.C (Kd.slice 3 (Kd.int .i64)) w ag aa.length aa) (cg:aa.length<=af) (h:Fs.f k ab aa aq ak am ap=some (r1,r2,r3)) :
  Calls Try.prog 101 #[.agg #[.slice ae ab.length ac, .slice ag aa.length af], .agg #[.int .i64 aq, .int .i64 ak, .int .i64 am, .int .i64 ap]] w fun e w'=>∃v0_ v1_:Value,e = .returned (.tuple #[.agg #[v0_,v1_], .bool r3])/\Kd.R (Kd.int .i64) 3 w' w.heap.size (fun _=>True) v0_ r1/\Kd.S (Kd.slice 3 (Kd.int .i64)) 22 w' w.heap.size (fun k_=>some k_≠(v0_:Value).ownBlock) v1_ r2/\Below w.heap.size w w':=by
 have hu25:=Try.underlying25
 have hu69:=Try.underlying69
 have bu:=A_ ca
 have cq:=A_ ce
 clear ca ce
 have bf:=A_ cb
 have cu:=A_ cg
 clear cb cg
 have HB:=A_ (Below.refl w.heap.size w)
 have H:=h
 unfold Fs.f at H
 clear h
 replace H:=Option.bind_eq_some_iff.mp H
 obtain⟨⟨gg,g6⟩,pb,H⟩:=H
 try dsimp only at H
 have A3:=A_ pb
 clear pb
 have HC4:=A_ H
 clear H
 go_enter Try.func101,Try.ntmps101
 go_upto_region 4 with(first|((with_reducible refine gd_ 2 ?_);refine bx_ (N:=2) #[.slice ae ab.length ac, .slice ag aa.length af] 25 ?_;intro o0 hg w5 hbox hb;have em:=A_ (hbox);have lu7:=A_ ((g36_:w.heap.size<=o0));have je5:=lu7;replace HB:=hs_ (km) hb;clear hb hbox hg)|((with_reducible refine gd_ 3 ?_);refine bx_ (N:=3) #[.int .i64 aq, .int .i64 ak, .int .i64 am, .int .i64 ap] 69 ?_;intro p9 hg w6 hbox hb;have ew:=A_ (hbox);have lu8:=A_ ((g36_:w.heap.size<=p9));have je6:=lu8;replace HB:=hs_ (km) hb;have zr:=A_ ((g140_:o0≠p9));have zt:=A_ ((g141_:p9≠o0));replace em:=bb_ em hb;clear hb hbox hg)|((with_reducible refine gd_ 4 ?_);refine bx_ (N:=4) #[.slice none 0 0, .slice none 0 0] 25 ?_;intro il hg w7 hbox hb;have dy:=A_ (hbox);have lu9:=A_ ((g36_:w.heap.size<=il));have je7:=lu9;replace HB:=hs_ (km) hb;have m4:=A_ ((g140_:o0≠il));have aj1:=A_ ((g141_:il≠o0));replace em:=bb_ em hb;have qu:=nl_ ew hg;have qv:=nr_ ew hg;replace ew:=bb_ ew hb;clear hb hbox hg;have ga5:=zr.out;have ga6:=zt.out;have fd8:=m4.out;have fd9:=aj1.out;obtain⟨am4,am5,am6,am7⟩:=blk2_ em)|((with_reducible refine gc_ 80 ?_);refine gl_ 12 Try.func80 #[.agg #[.slice ae ab.length ac, .slice ag aa.length af]] ?_;(refine(Fu.calls k _ _ ab _ _ aa gg g6 _ (uf1_ bu) cq.out (uf1_ bf) cu.out A3.out).mono ?_);rintro e w11 ⟨lv0,lv1,rfl,aj,ar,hb⟩;refine⟨_,rfl,?_⟩;have dz5:=A_ (Kd.R_lower aj (G0 (km)));have dz6:=A_ (Kd.S_lower ar (G0 (km)));replace em:=bb_ em hb;replace ew:=bb_ ew hb;replace dy:=bb_ dy hb;replace HB:=hs_ (km) hb)|((with_reducible refine gd_ 7 ?_);refine bx_ (N:=7) #[.slice none 0 0, .slice none 0 0] 25 ?_;intro du hg ws hbox hb;replace dz5:=rb_ dz5 hb;replace dz6:=sb_ dz6 hb;have d5:=A_ (hbox);have lv2:=A_ ((g36_:w.heap.size<=du));have je8:=lv2;replace HB:=hs_ (km) hb;have cl4:=A_ ((g140_:o0≠du));have dz7:=A_ ((g141_:du≠o0));replace em:=bb_ em hb;have vx:=nl_ ew hg;have zu:=nr_ ew hg;replace ew:=bb_ ew hb;have xe:=nl_ dy hg;have mh:=nr_ dy hg;replace dy:=bb_ dy hb;clear hb hbox hg;obtain⟨bq,bb,ao8⟩:=Kd.R_slice dz5.out;subst ao8;have cr3:=dz7.out;have cr4:=cl4.out;have dt6:=zu.out;have dt7:=vx.out;have dz8:=mh.out;have dz9:=xe.out;obtain⟨ff3,ff4,ff5,ff6⟩:=blk2_ d5;obtain⟨az,ay,az9⟩:=Kd.S_slice dz6.out;subst az9))
 (try simp only[Act.put,List.setIfInBounds_toArray,List.set_cons_zero,List.set_cons_succ])
 go_cut [14] (fun v14 wc=>∃(kq:Nat) (ea0:Bool),v14 = .bool ea0/\Gy (Fs.j0 kq (ab.length:Int) ea0 ab aa aq ak am ap gg g6=some (r1,r2,r3))/\Gy (kq<=k)/\Gy (Kd.R (Kd.int .i64) 3 wc w.heap.size (fun _=>True) (.slice bq gg.length bb) gg)/\Gy (Kd.S (Kd.slice 3 (Kd.int .i64)) 22 wc w.heap.size (fun k_=>some k_≠((.slice bq gg.length bb):Value).ownBlock) (.slice az g6.length ay) g6)/\Gy (hc_ wc o0 #[(.slice ae ab.length ac),(.slice ag aa.length af)] 25)/\Gy (hc_ wc p9 #[.int .i64 aq, .int .i64 ak, .int .i64 am, .int .i64 ap] 69)/\Gy (hc_ wc il #[(.slice none 0 0),(.slice none 0 0)] 25)/\Gy (hc_ wc du #[(.slice bq gg.length bb),(.slice az g6.length ay)] 25)/\Gy (Below w.heap.size w wc))
 case first=>
  have H:=HC4.out
  clear HC4
  by_cases ei:aq=0
  case neg=>
   rw[if_neg ei] at H
   have qm:(aq == 0)=false:=beq_eq_false_iff_ne.mpr ei
   have ac8:(aq != 0)=true:=bne_iff_ne.mpr ei
   (first|rw[qm]|(simp only[i64_w,i32_w];rw[qm])|skip)
   have H':=A_ H
   clear H
   have ea3:=zt.out
   have ea4:=zr.out
   have fg0:=qu.out
   have fg1:=qv.out
   have je9:=vx.out
   have jf0:=zu.out
   obtain⟨gv3,gv4,gv5,gv6,gv7,gv8,gv9,gw0⟩:=blk4_ ew
   go_wp2
   go_meet
   case rel=>exact⟨_,(false),(g2_),H',⟨g9_⟩,⟨g96_⟩,⟨g97_⟩,⟨g61_⟩,⟨g62_⟩,⟨g63_⟩,⟨g98_⟩,⟨km⟩⟩
  rw[if_pos ei] at H
  have qm:(aq == 0)=true:=beq_iff_eq.mpr ei
  have ac8:(aq != 0)=false:=bne_eq_false_iff_eq.mpr ei
  clear ei
  (first|rw[qm]|(simp only[i64_w,i32_w];rw[qm])|skip)
  obtain⟨dg4,th,H⟩:=bind_ H
  by_cases li:dg4=true
  case neg=>
   replace li:=Bool.eq_false_iff.mpr li
   subst li
   replace H:=ifn_ H
   have H':=A_ H
   clear H
   have de7:=zt.out
   have de8:=zr.out
   have bk0:=qu.out
   have bk1:=qv.out
   have dg5:=vx.out
   have dg6:=zu.out
   obtain⟨ba8,ba9,bn0,ea1,bb0,bb1,bn1,ea2⟩:=blk4_ ew
   go_wp2_with (first|(go_at_call 65;(with_reducible refine(F5.calls ak 0 (wrap64 ((ab.length:Int) - 1)) false _ th.out).mono ?_);rintro e w' ⟨rfl,⟨nd,rfl⟩⟩))
   go_meet
   case rel=>exact⟨_,(false),(g2_),H',⟨g9_⟩,⟨g96_⟩,⟨g97_⟩,⟨g61_⟩,⟨g62_⟩,⟨g63_⟩,⟨g98_⟩,⟨km⟩⟩
  subst li
  replace H:=ifp_ H
  by_cases je:am=0
  ·rw[if_pos je] at H
   have ao0:(am == 0)=true:=beq_iff_eq.mpr je
   have ff7:(am != 0)=false:=bne_eq_false_iff_eq.mpr je
   clear je
   obtain⟨cl3,A23,H⟩:=bind_ H
   have H':=A_ H
   clear H
   have gu5:=zt.out
   have gu6:=zr.out
   have ff8:=qu.out
   have ff9:=qv.out
   have fe8:=vx.out
   have fe9:=zu.out
   obtain⟨ck5,ck6,gu7,gu8,ck7,ck8,gu9,gv0⟩:=blk4_ ew
   have MK65_0:=True.intro
   go_wp2_with (first|(clear MK65_0;go_at_call 65;(with_reducible refine(F5.calls ak 0 (wrap64 ((ab.length:Int) - 1)) true _ th.out).mono ?_);rintro e w' ⟨rfl,⟨nd,rfl⟩⟩)|(go_at_call 65;(with_reducible refine(F5.calls ap 0 20 cl3 _ A23.out).mono ?_);rintro e w' ⟨rfl,⟨nd,rfl⟩⟩))
   go_meet
   case rel=>exact⟨_,(cl3),(g2_),H',⟨g9_⟩,⟨g96_⟩,⟨g97_⟩,⟨g61_⟩,⟨g62_⟩,⟨g63_⟩,⟨g98_⟩,⟨km⟩⟩
  rw[if_neg je] at H
  have ao0:(am == 0)=false:=beq_eq_false_iff_ne.mpr je
  have ff7:(am != 0)=true:=bne_iff_ne.mpr je
  have H':=A_ H
  clear H
  have bw1:=zt.out
  have bw2:=zr.out
  have br5:=qu.out
  have br6:=qv.out
  have ds4:=vx.out
  have ds5:=zu.out
  obtain⟨bs1,bs2,cu3,gv1,bs3,bs4,cu4,gv2⟩:=blk4_ ew
  go_wp2_with (first|(go_at_call 65;(with_reducible refine(F5.calls ak 0 (wrap64 ((ab.length:Int) - 1)) true _ th.out).mono ?_);rintro e w' ⟨rfl,⟨nd,rfl⟩⟩))
  go_meet
  case rel=>exact⟨_,(false),(g2_),H',⟨g9_⟩,⟨g96_⟩,⟨g97_⟩,⟨g61_⟩,⟨g62_⟩,⟨g63_⟩,⟨g98_⟩,⟨km⟩⟩
 clear HC4
 obtain⟨kq,ea0,rfl,HA,HJ3,fp,fw,em,ew,dy,d5,HB⟩:=hcut
 cases kq with
 | zero=>exact absurd HA.out (by simp[Fs.j0])
 | succ kj3=>?_
 have H:=HA.out
 clear HA
 simp only[Fs.j0] at H
 by_cases vu:ea0=true
 ·subst vu
  replace H:=ifp_ H
  obtain⟨bl3,H⟩:=pd_ H
  obtain⟨jf1,H⟩:=pd_ H
  obtain⟨av8,hyq⟩:∃y_:List Int,y_=(gg.set (ak:Int).toNat ap):=⟨_,rfl⟩
  replace H:((Fx.f kj3 av8 g6 ab aa).bind fun dg3=>(some (av8,g6, !dg3)))=some (r1,r2,r3):=qh_
  have jf2:=A_ hyq
  clear hyq
  obtain⟨dg3,A44,H⟩:=bind_ H
  simp only[Option.some.injEq,Prod.mk.injEq] at H
  obtain⟨rfl,rfl,rfl⟩:=H
  have da7:=dz7.out
  have da8:=cl4.out
  have dv3:=zu.out
  have dv4:=vx.out
  have dz2:=mh.out
  have dz3:=xe.out
  obtain⟨df1,df2,df3,df4⟩:=blk2_ d5
  have fg2:=zt.out
  have fg3:=zr.out
  have fg4:=qu.out
  have fg5:=qv.out
  obtain⟨au2,au3,bn2,cl5,au4,au5,bn3,cl6⟩:=blk4_ ew
  have p43:0<=(ak:Int):=od_
  have q43:(ak:Int) < ((gg.length:Int):Int):=od_
  obtain⟨aj2,p0,by6,gw1,gl43,cl43,HG43⟩:=Kd.R_form fp.out (by omega)
  (first|cases by6|(injection by6 with ea_ en_ ec_;(first|subst ea_|(injection ea_ with ea_;subst ea_));subst ec_;clear en_))
  have GB43:=A_ gw1
  have GG43:=A_ HG43
  clear gw1 gl43 HG43
  obtain⟨jf3,hf43_0⟩:=Kd.R_celln 0 fp.out (ak:Int) p43 q43
  replace p43:=eq_true p43
  replace q43:=eq_true q43
  have HP52:=Kd.R_putg fp.out (ak:Int) ap
  try go_wp2_with (first|((with_reducible refine gate_store (t:=3) (p:=41) rfl ?_);refine store_event (t:=3) (p:=41) (v:=?vo_w53) (w1:=(wc.setCell ⟨aj2,(ak:Int).toNat,none⟩ (.int .i64 ap))) ?hg ?ho ?hn ?hr ?_;(case ho=>rfl);(case hg=>rfl);(case hn=>rfl);(case hr=>first|(go_simp;done)|(go_simp;rfl));intro zk hw;have hg:wc.grownBy zk (some aj2):=(by rw[hw];exact HP52.2);have hp_:Kd.R (Kd.int .i64) 3 zk w.heap.size (fun _=>True) (.slice (some ⟨aj2,0,none⟩) gg.length bb) av8:=(by rw[hw,jf2.out];exact HP52.1);clear HP52;replace fw:=A_ (Kd.S_after (v:=(.slice (some ⟨aj2,0,none⟩) gg.length bb)) (v1:=(.slice (some ⟨aj2,0,none⟩) gg.length bb)) (ok:=(fun _=>True)) (by(with_reducible repeat(first|apply Kd.S_alloc|apply Kd.S_drewN|apply Kd.S_drew));exact Kd.S_mono fw.out (fun _ hk=>⟨trivial,hk⟩)) hg (.inl rfl));replace em:=(bg_ em hg (Kd.R_ne fp.out em.out (by decide)));replace ew:=(bg_ ew hg (Kd.R_ne fp.out ew.out (by decide)));replace dy:=(bg_ dy hg (Kd.R_ne fp.out dy.out (by decide)));replace d5:=(bg_ d5 hg (Kd.R_ne fp.out d5.out (by decide)));replace fp:=A_ (hp_);replace HB:=A_ ((by rw[hw];exact G1 (HB.out) GB43.out:Below w.heap.size w zk));clear hg hw hp_))
  replace fp:=rd_ fp
  replace fw:=sd_ fw
  replace em:=bd_ em
  replace ew:=bd_ ew
  replace dy:=bd_ dy
  replace d5:=bd_ d5
  replace HB:=A_ (G2 HB.out)
  refine start_ (n:=7) (S:=fun w'=>w'.cell? ⟨du,0,none⟩=some (.slice (some ⟨aj2,0,none⟩) gg.length bb)/\w'.cell? ⟨du,1,none⟩=some (.slice az g6.length ay)/\w'.cell? ⟨o0,0,none⟩=some (.slice ae ab.length ac)/\w'.cell? ⟨o0,1,none⟩=some (.slice ag aa.length af)) (ds:=[]) (tl_ 7 0) (g1_) rfl (g1_) ⟨(Gz d5.out 0).trans rfl,(Gz d5.out 1).trans rfl,(Gz em.out 0).trans rfl,(Gz em.out 1).trans rfl⟩ (fun hHeld=>?_)
  generalize zk.drew=w54 at fp fw em ew dy d5 HB hHeld |-
  refine take_ (i:=0) (N:=some 98) (v:=?_) (a':=?_) (tl_ 7 1) rfl rfl (g1_) (fun _ _ _ h=>h) (Or.inl ⟨by rfl,?_⟩) hHeld ?_ ?_
  rotate_left
  ·rintro w' ⟨s0,s1,s2,s3⟩
   go_simp
   with_reducible rfl
  rotate_left
  ·simp only[Act.put,List.setIfInBounds_toArray,List.set_cons_zero,List.set_cons_succ,i64_w,i32_w]
   rfl
  refine take_ (i:=1) (N:=some 99) (v:=?_) (a':=?_) (tl_ 7 3) rfl rfl (g1_) (fun _ _ _ h=>h) (Or.inl ⟨by rfl,?_⟩) hHeld ?_ ?_
  rotate_left
  ·rintro w' ⟨s0,s1,s2,s3⟩
   go_simp
   with_reducible rfl
  rotate_left
  ·simp only[Act.put,List.setIfInBounds_toArray,List.set_cons_zero,List.set_cons_succ,i64_w,i32_w]
   rfl
  refine take_ (i:=2) (N:=some 100) (v:=?_) (a':=?_) (tl_ 7 7) rfl rfl (g1_) (fun _ _ _ h=>h) (Or.inl ⟨by rfl,?_⟩) hHeld ?_ ?_
  rotate_left
  ·rintro w' ⟨s0,s1,s2,s3⟩
   go_simp
   with_reducible rfl
  rotate_left
  ·simp only[Act.put,List.setIfInBounds_toArray,List.set_cons_zero,List.set_cons_succ,i64_w,i32_w]
   rfl
  refine one_ (i:=3) (N:=some 101) (tl_ 7 15) rfl rfl (g1_) (by decide) (fun K hK=>?_)
  refine goes_ Try.func122 (g1_) rfl #[.agg #[.slice (some ⟨aj2,0,none⟩) av8.length bb, .slice az g6.length ay], .agg #[.slice ae ab.length ac, .slice ag aa.length af]] (by rfl) rfl rfl (by(try simp only[List.map_toArray,List.map_cons,List.map_nil]);first|done|(rw[show av8.length=gg.length from(Kd.R_reads' fp.out).1.symm] <;> rfl)|rfl|(simp only[List.length_drop,List.length_take];rfl)) ?_
  with_reducible refine(Fx.calls kj3 _ _ av8 _ _ g6 _ _ ab _ _ aa dg3 _ ?side1 ?side2 ?side3 ?side4 ?side5 ?side6 ?side7 ?side8 A44.out).mono ?_
  (case side1=>exact cR_ fp)
  (case side2=>rw[show av8.length=gg.length from(Kd.R_reads' fp.out).1.symm];exact(Kd.R_reads' fp.out).2.1)
  (case side3=>exact cS_ fw)
  (case side4=>exact lS_ fw)
  (case side5=>exact uf1_ bu)
  (case side6=>exact cq.out)
  (case side7=>exact uf1_ bf)
  (case side8=>exact cu.out)
  rintro e w55 ⟨rfl,hb⟩
  refine⟨_,rfl,?_⟩
  replace fp:=rb_ fp hb
  replace fw:=sb_ fw hb
  replace em:=bb_ em hb
  replace ew:=bb_ ew hb
  replace dy:=bb_ dy hb
  replace d5:=bb_ d5 hb
  replace HB:=hs_ (km) hb
  refine hK.out _ _ ⟨(Gz d5.out 0).trans rfl,(Gz d5.out 1).trans rfl,(Gz em.out 0).trans rfl,(Gz em.out 1).trans rfl⟩ (fun hHeld=>?_)
  clear hK K
  refine nm_ ?_
  refine pure_ (i:=4) (N:=some 102) (v:=?_) (a':=?_) (tl_ 7 31) rfl rfl (g1_) (fun _ _ _ h=>h) (Or.inl ⟨by rfl,?_⟩) ?_ ?_
  rotate_left
  ·intro w'
   go_simp
   with_reducible rfl
  rotate_left
  ·simp only[Act.put,List.setIfInBounds_toArray,List.set_cons_zero,List.set_cons_succ,i64_w,i32_w]
   rfl
  refine one_ (i:=5) (N:=none) (tl_ 7 63) rfl rfl (g1_) (by decide) (fun K hK=>?_)
  have jf4:w55.cell? ⟨il,0,none⟩=some (.slice none 0 0):=(Gz dy.out 0).trans rfl
  have jf5:=G8 dy.out 0
  have jf6:=m4.out
  have jf9:=aj1.out
  have lv3:w55.cell? ⟨il,1,none⟩=some (.slice none 0 0):=(Gz dy.out 1).trans rfl
  have lv4:=G8 dy.out 1
  refine skip_ (w1:=?_) (by rfl) rfl ?_ ?_
  rotate_left
  ·go_simp
   rfl
  refine hK.out _ _ ⟨(cf_ mh ((cf_ mh (hHeld.1)))),(cf_ mh ((cf_ mh (hHeld.2.1)))),(cf_ m4 ((cf_ m4 (hHeld.2.2.1)))),(cf_ m4 ((cf_ m4 (hHeld.2.2.2))))⟩ (fun hHeld=>?_)
  clear hK K
  refine pure_ (i:=6) (N:=some 5) (v:=?_) (a':=?_) (tl_ 7 127) rfl rfl (g1_) (fun _ _ _ h=>h) (Or.inl ⟨by rfl,?_⟩) ?_ ?_
  rotate_left
  ·intro w'
   go_simp
   with_reducible rfl
  rotate_left
  ·simp only[Act.put,List.setIfInBounds_toArray,List.set_cons_zero,List.set_cons_succ,i64_w,i32_w]
   rfl
  refine done_ (g1_) ?_
  try go_wp2
  refine bodyPost_ret (Jn rfl _ _ il 25 #[.slice (some ⟨aj2,0,none⟩) gg.length bb, .slice az g6.length ay] (0,0) _ rfl (ba_ dy) Try.underlying25 rfl (g1_)) rfl ?_
  exact⟨_,_,g4_,ra_ fp,sa_ fw,km⟩
 replace vu:=Bool.eq_false_iff.mpr vu
 subst vu
 replace H:=ifn_ H
 have bz9:=A_ H
 clear H
 go_upto_region 6 with(fail)
 go_cut [42] (fun v42 wc=>∃(kq:Nat) (ea5:Bool),v42 = .bool ea5/\Gy (Fs.j1 kq ea5 ab aa aq ak am ap gg g6=some (r1,r2,r3))/\Gy (kq<=kj3)/\Gy (Kd.R (Kd.int .i64) 3 wc w.heap.size (fun _=>True) (.slice bq gg.length bb) gg)/\Gy (Kd.S (Kd.slice 3 (Kd.int .i64)) 22 wc w.heap.size (fun k_=>some k_≠((.slice bq gg.length bb):Value).ownBlock) (.slice az g6.length ay) g6)/\Gy (hc_ wc o0 #[(.slice ae ab.length ac),(.slice ag aa.length af)] 25)/\Gy (hc_ wc p9 #[.int .i64 aq, .int .i64 ak, .int .i64 am, .int .i64 ap] 69)/\Gy (hc_ wc il #[(.slice none 0 0),(.slice none 0 0)] 25)/\Gy (hc_ wc du #[(.slice bq gg.length bb),(.slice az g6.length ay)] 25)/\Gy (Below w.heap.size w wc))
 case first=>
  have H:=bz9.out
  clear bz9
  by_cases c59:aq=1
  case neg=>
   rw[if_neg c59] at H
   have cl8:(aq == 1)=false:=beq_eq_false_iff_ne.mpr c59
   have gw2:(aq != 1)=true:=bne_iff_ne.mpr c59
   (first|rw[cl8]|(simp only[i64_w,i32_w];rw[cl8])|skip)
   have H':=A_ H
   clear H
   have fh0:=zt.out
   have fh1:=zr.out
   have gx1:=qu.out
   have gx2:=qv.out
   have jj9:=vx.out
   have jk0:=zu.out
   obtain⟨gx3,gx4,gx5,jk1,gx6,gx7,gx8,jk2⟩:=blk4_ ew
   go_wp2
   go_meet
   case rel=>exact⟨_,(false),(g2_),H',⟨g86_⟩,⟨uf2_ fp⟩,⟨uf3_ fw⟩,⟨uf0_ em⟩,⟨uf0_ ew⟩,⟨uf0_ dy⟩,⟨uf0_ d5⟩,⟨km⟩⟩
  rw[if_pos c59] at H
  have cl8:(aq == 1)=true:=beq_iff_eq.mpr c59
  have gw2:(aq != 1)=false:=bne_eq_false_iff_eq.mpr c59
  clear c59
  (first|rw[cl8]|(simp only[i64_w,i32_w];rw[cl8])|skip)
  obtain⟨ff0,A60,H⟩:=bind_ H
  by_cases c61:ff0=true
  case neg=>
   replace c61:=Bool.eq_false_iff.mpr c61
   subst c61
   replace H:=ifn_ H
   have H':=A_ H
   clear H
   have ji8:=zt.out
   have jj0:=zr.out
   have gw7:=qu.out
   have gw8:=qv.out
   have gw9:=vx.out
   have gx0:=zu.out
   obtain⟨jj1,jj2,jj3,jj4,jj5,jj6,jj7,jj8⟩:=blk4_ ew
   go_wp2_with (first|(go_at_call 65;(with_reducible refine(F5.calls ak 0 (wrap64 ((ab.length:Int) - 1)) false _ A60.out).mono ?_);rintro e w' ⟨rfl,⟨nd,rfl⟩⟩))
   go_meet
   case rel=>exact⟨_,(false),(g2_),H',⟨g86_⟩,⟨uf2_ fp⟩,⟨uf3_ fw⟩,⟨uf0_ em⟩,⟨uf0_ ew⟩,⟨uf0_ dy⟩,⟨uf0_ d5⟩,⟨km⟩⟩
  subst c61
  replace H:=ifp_ H
  obtain⟨dm,A62,H⟩:=bind_ H
  by_cases c63:dm=true
  case neg=>
   replace c63:=Bool.eq_false_iff.mpr c63
   subst c63
   replace H:=ifn_ H
   have H':=A_ H
   clear H
   have eb2:=zt.out
   have eb3:=zr.out
   have jh6:=qu.out
   have jh7:=qv.out
   have lw3:=vx.out
   have lw4:=zu.out
   obtain⟨jh8,jh9,ji0,ji1,ji2,ji5,ji6,ji7⟩:=blk4_ ew
   have MK65_0:=True.intro
   go_wp2_with (first|(clear MK65_0;go_at_call 65;(with_reducible refine(F5.calls ak 0 (wrap64 ((ab.length:Int) - 1)) true _ A60.out).mono ?_);rintro e w' ⟨rfl,⟨nd,rfl⟩⟩)|(go_at_call 65;(with_reducible refine(F5.calls am 0 (wrap64 ((ab.length:Int) - 1)) false _ A62.out).mono ?_);rintro e w' ⟨rfl,⟨nd,rfl⟩⟩))
   go_meet
   case rel=>exact⟨_,(false),(g2_),H',⟨g86_⟩,⟨uf2_ fp⟩,⟨uf3_ fw⟩,⟨uf0_ em⟩,⟨uf0_ ew⟩,⟨uf0_ dy⟩,⟨uf0_ d5⟩,⟨km⟩⟩
  subst c63
  replace H:=ifp_ H
  by_cases c64:ak=am
  ·rw[if_pos c64] at H
   have gw3:(ak == am)=true:=beq_iff_eq.mpr c64
   have gw4:(ak != am)=false:=bne_eq_false_iff_eq.mpr c64
   clear c64
   have H':=A_ H
   clear H
   have jg2:=zt.out
   have jg3:=zr.out
   have jg4:=qu.out
   have jg5:=qv.out
   have gw5:=vx.out
   have gw6:=zu.out
   obtain⟨ea6,ea7,ea8,jg6,ea9,eb0,eb1,jg7⟩:=blk4_ ew
   have MK65_0:=True.intro
   go_wp2_with (first|(clear MK65_0;go_at_call 65;(with_reducible refine(F5.calls ak 0 (wrap64 ((ab.length:Int) - 1)) true _ A60.out).mono ?_);rintro e w' ⟨rfl,⟨nd,rfl⟩⟩)|(go_at_call 65;(with_reducible refine(F5.calls am 0 (wrap64 ((ab.length:Int) - 1)) true _ A62.out).mono ?_);rintro e w' ⟨rfl,⟨nd,rfl⟩⟩))
   go_meet
   case rel=>exact⟨_,(false),(g2_),H',⟨g86_⟩,⟨uf2_ fp⟩,⟨uf3_ fw⟩,⟨uf0_ em⟩,⟨uf0_ ew⟩,⟨uf0_ dy⟩,⟨uf0_ d5⟩,⟨km⟩⟩
  rw[if_neg c64] at H
  have gw3:(ak == am)=false:=beq_eq_false_iff_ne.mpr c64
  have gw4:(ak != am)=true:=bne_iff_ne.mpr c64
  obtain⟨dz4,A69,H⟩:=bind_ H
  have H':=A_ H
  clear H
  have fg6:=zt.out
  have fg7:=zr.out
  have fg8:=qu.out
  have fg9:=qv.out
  have lw1:=vx.out
  have lw2:=zu.out
  obtain⟨jg8,jg9,jh0,jh1,jh2,jh3,jh4,jh5⟩:=blk4_ ew
  have MK65_0:=True.intro
  have MK65_1:=True.intro
  go_wp2_with (first|(clear MK65_0;go_at_call 65;(with_reducible refine(F5.calls ak 0 (wrap64 ((ab.length:Int) - 1)) true _ A60.out).mono ?_);rintro e w' ⟨rfl,⟨nd,rfl⟩⟩)|(clear MK65_1;go_at_call 65;(with_reducible refine(F5.calls am 0 (wrap64 ((ab.length:Int) - 1)) true _ A62.out).mono ?_);rintro e w' ⟨rfl,⟨nd,rfl⟩⟩)|(go_at_call 65;(with_reducible refine(F5.calls ap 0 9 dz4 _ A69.out).mono ?_);rintro e w' ⟨rfl,⟨nd,rfl⟩⟩))
  go_meet
  case rel=>exact⟨_,(dz4),(g2_),H',⟨g86_⟩,⟨uf2_ fp⟩,⟨uf3_ fw⟩,⟨uf0_ em⟩,⟨uf0_ ew⟩,⟨uf0_ dy⟩,⟨uf0_ d5⟩,⟨km⟩⟩
 clear bz9
 obtain⟨kq,ea5,rfl,HA,HJ57,fp,fw,em,ew,dy,d5,HB⟩:=hcut
 cases kq with
 | zero=>exact absurd HA.out (by simp[Fs.j1])
 | succ kj57=>?_
 have H:=HA.out
 clear HA
 simp only[Fs.j1] at H
 by_cases c86:ea5=true
 ·subst c86
  replace H:=ifp_ H
  obtain⟨lw6,H⟩:=pd_ H
  obtain⟨lw7,H⟩:=pd_ H
  obtain⟨lw8,H⟩:=pd_ H
  obtain⟨lw9,H⟩:=pd_ H
  obtain⟨fh2,hyq⟩:∃y_:List Int,y_=((Jc g6 ak).set (am:Int).toNat ap):=⟨_,rfl⟩
  replace H:((some (g6.set (ak:Int).toNat fh2:List (List Int))).bind fun ae9=>((Fx.f kj57 gg ae9 ab aa).bind fun bz8=>(some (gg,ae9, !bz8))))=some (r1,r2,r3):=qh_
  have jk3:=A_ hyq
  clear hyq
  obtain⟨ae9,hyq⟩:∃y_:List (List Int),y_=(g6.set (ak:Int).toNat fh2):=⟨_,rfl⟩
  replace H:((Fx.f kj57 gg ae9 ab aa).bind fun bz8=>(some (gg,ae9, !bz8)))=some (r1,r2,r3):=qh_
  have jk4:=A_ hyq
  clear hyq
  obtain⟨bz8,A92,H⟩:=bind_ H
  simp only[Option.some.injEq,Prod.mk.injEq] at H
  obtain⟨rfl,rfl,rfl⟩:=H
  try go_wp2
  replace fp:=rd_ fp
  replace fw:=sd_ fw
  replace em:=bd_ em
  replace ew:=bd_ ew
  replace dy:=bd_ dy
  replace d5:=bd_ d5
  replace HB:=A_ (G2 HB.out)
  have eb4:0<=(ak:Int):=od_
  have eb5:ak < (g6.length:Int):=od_
  obtain⟨bd4,lx0,jk5,jk6,eb6,gx9,gy0⟩:=at_L1 (Kd.S_reads' fw.out).2.2 ak eb4 eb5
  cases jk6
  obtain⟨ce344,hce344,hMe344,hcc344⟩:=Kd.S_get fw.out [] ak eb4 (by first|exact eb5|exact od_|(have e_:=(Kd.S_reads' fw.out).1;omega))
  obtain⟨ve344_0,rfl,ge344_0⟩:=hMe344
  have hv344_0:=hcc344 0 _ rfl
  rw[Nat.add_zero,show((Kd.slice 3 (Kd.int .i64))).sz=1 from rfl,Nat.mul_one] at hv344_0
  replace hv344_0:=Option.some.inj (hv344_0.symm.trans eb6)
  rw[hv344_0] at ge344_0
  have bn4:=A_ (show Kd.R (Kd.int .i64) 3 _ _ _ _ (Jc g6 ak) from ge344_0)
  clear hv344_0 ge344_0
  have HX344_0:=A_ eb6
  clear hcc344 hce344
  have jk7:=A_ gy0
  have lx1:=A_ gx9
  clear gy0 gx9
  replace eb4:=eq_true eb4
  replace eb5:=eq_true eb5
  have p91:0<=(am:Int):=od_
  have q91:(am:Int) < (((Jc g6 ak).length:Int):Int):=od_
  obtain⟨av9,lx2,gy1,gy2,gl91,cl91,HG91⟩:=Kd.R_form bn4.out (by omega)
  (first|cases gy1|(injection gy1 with ea_ en_ ec_;(first|subst ea_|(injection ea_ with ea_;subst ea_));subst ec_;clear en_))
  have GB91:=A_ gy2
  have GG91:=A_ HG91
  clear gy2 gl91 HG91
  obtain⟨jk8,hf91_0⟩:=Kd.R_celln 0 bn4.out (am:Int) p91 q91
  replace p91:=eq_true p91
  replace q91:=eq_true q91
  have hq94:(ak:Int) < (g6.length:Int):=(by have h_:(ak:Int) < ((g6.length:Int):Int):=od_;first|exact h_|(have e_:=(Kd.S_reads' fw.out).1;omega)|simpa only[List.length_set,List.length_set] using h_)
  obtain⟨oki94,ce94,hcl94,hM94,hcc94,hok94,hbk94⟩:=Kd.S_borrow fw.out [] (ak:Int) (od_) (by first|exact hq94|exact od_|(have e_:=(Kd.S_reads' fw.out).1;omega))
  obtain⟨ve94_0,rfl,ge94_0⟩:=hM94
  have hv94:=hcc94 0 _ rfl
  rw[Nat.add_zero,show((Kd.slice 3 (Kd.int .i64))).sz=1 from rfl,Nat.mul_one] at hv94
  replace hv94:=Option.some.inj (hv94.symm.trans HX344_0.out)
  subst hv94
  clear hcc94 hcl94
  replace ge94_0:=(show Kd.R (Kd.int .i64) 3 _ _ _ _ (Jc g6 ak) from ge94_0)
  have HP94:=Kd.R_putg ge94_0 (am:Int) ap
  rw[<- jk3.out] at HP94
  have HS94:=hbk94 HP94.2 (fun k_ e_=>by injection e_ with e_;subst e_;exact ge94_0.1 _ rfl) (x':=fh2) (Kd.M_row HP94.1)
  rw[<- jk4.out] at HS94
  have HQ94:=A_ HS94
  clear HP94 HS94 hbk94 hok94
  refine start_ (n:=12) (S:=fun w'=>w'.cell? ⟨du,0,none⟩=some (.slice bq gg.length bb)/\w'.cell? ⟨du,1,none⟩=some (.slice (some bd4) g6.length ay)/\w'.cell? ⟨p9,0,none⟩=some (.int .i64 aq)/\w'.cell? ⟨p9,1,none⟩=some (.int .i64 ak)/\w'.cell? ⟨p9,2,none⟩=some (.int .i64 am)/\w'.cell? ⟨p9,3,none⟩=some (.int .i64 ap)/\w'.cell? (bd4.add (ak).toNat)=some (.slice (some ⟨av9,0,none⟩) (Jc g6 ak).length jk5)) (ds:=[11]) (tl_ 12 0) (g1_) rfl (g1_) ⟨(Gz d5.out 0).trans rfl,(Gz d5.out 1).trans rfl,(Gz ew.out 0).trans rfl,(Gz ew.out 1).trans rfl,(Gz ew.out 2).trans rfl,(Gz ew.out 3).trans rfl,eb6⟩ (fun hHeld=>?_);refine Jm Fs.tab7 Fs.bits7 (fun HT_ HW_=>?_)
  generalize wc.drew=w93 at fp fw em ew dy d5 HB GG91 bn4 HQ94 jk7 HX344_0 hf91_0 eb6 jk8 hHeld |-
  refine pw_ 0 72 (tl_ 12 1) ?_
  refine pw_ 2 74 (tl_ 12 5) ?_
  refine pw_ 6 78 (tl_ 12 69) ?_
  refine pw_ 8 80 (tl_ 12 325) ?_
  refine tk4_ 1 73 (tl_ 12 327) hHeld ?_
  refine tk4_ 3 75 (tl_ 12 335) hHeld ?_
  refine pw_ 4 76 (tl_ 12 351) ?_
  refine tk4_ 5 77 (tl_ 12 383) hHeld ?_
  refine tk4_ 7 79 (tl_ 12 511) hHeld ?_
  refine tk4_ 9 81 (tl_ 12 1023) hHeld ?_
  refine pw_ 10 82 (tl_ 12 2047) ?_
  refine last_ (i:=11) (N:=none) (tl_ 12 4095) rfl rfl (Jo HT_.out (g1_)) (by decide) (fun K hK=>?_)
  refine skip_ (w1:=?_) (by rfl) rfl ?_ ?_
  rotate_left
  ·go_simp
   rfl
  refine hK.out _ _ ?_
  clear hK K
  refine done_ (done_of HT_.out (g1_)) ?_
  generalize hw_:(w93.setCell ⟨av9,(am:Int).toNat,none⟩ (.int .i64 ap))=w96
  have n0_:Gy (Kd.R (Kd.int .i64) 3 w96 w.heap.size (fun _=>True) (.slice bq gg.length bb) gg):=A_ (by rw[<- hw_];exact(by(with_reducible repeat(first|apply Kd.R_alloc|apply Kd.R_drewN|apply Kd.R_drew));exact Kd.R_mono (Kd.R_far (p:=⟨av9,(am:Int).toNat,none⟩) (Kd.R_far1 fp.out rfl ((bn4.out.1 _ rfl).1)) (fun _ hk=>hk.2) (.int .i64 ap)) (fun _ hk=>trivial)))
  have n1_:Gy (Kd.S (Kd.slice 3 (Kd.int .i64)) 22 w96 w.heap.size (fun k_=>some k_≠(.slice bq gg.length bb:Value).ownBlock) (.slice (some bd4) g6.length ay) ae9):=A_ (by rw[<- hw_];exact uf3_ HQ94)
  have n2_:Gy (hc_ w96 o0 #[.slice ae ab.length ac, .slice ag aa.length af] 25):=A_ (by rw[<- hw_];exact(by(with_reducible repeat(first|refine G6 ?_ _|refine G7 ?_|refine G5 ?_ _));refine Jf ?_ (by have h_:=Kd.R_ne bn4.out em.out (by decide);intro e_;exact h_ (g6_)) _;exact uf0_ em))
  have n3_:Gy (hc_ w96 p9 #[.int .i64 aq, .int .i64 ak, .int .i64 am, .int .i64 ap] 69):=A_ (by rw[<- hw_];exact(by(with_reducible repeat(first|refine G6 ?_ _|refine G7 ?_|refine G5 ?_ _));refine Jf ?_ (by have h_:=Kd.R_ne bn4.out ew.out (by decide);intro e_;exact h_ (g6_)) _;exact uf0_ ew))
  have n4_:Gy (hc_ w96 il #[.slice none 0 0, .slice none 0 0] 25):=A_ (by rw[<- hw_];exact(by(with_reducible repeat(first|refine G6 ?_ _|refine G7 ?_|refine G5 ?_ _));refine Jf ?_ (by have h_:=Kd.R_ne bn4.out dy.out (by decide);intro e_;exact h_ (g6_)) _;exact uf0_ dy))
  have n5_:Gy (hc_ w96 du #[.slice bq gg.length bb, .slice (some bd4) g6.length ay] 25):=A_ (by rw[<- hw_];exact(by(with_reducible repeat(first|refine G6 ?_ _|refine G7 ?_|refine G5 ?_ _));refine Jf ?_ (by have h_:=Kd.R_ne bn4.out d5.out (by decide);intro e_;exact h_ (g6_)) _;exact uf0_ d5))
  have n6_:Gy (Below w.heap.size w w96):=A_ (by rw[<- hw_];exact km)
  clear hw_
  have fp:=n0_
  have fw:=n1_
  have em:=n2_
  have ew:=n3_
  have dy:=n4_
  have d5:=n5_
  have HB:=n6_
  clear n0_ n1_ n2_ n3_ n4_ n5_ n6_
  try go_wp2
  replace fp:=rd_ fp
  replace fw:=sd_ fw
  replace em:=bd_ em
  replace ew:=bd_ ew
  replace dy:=bd_ dy
  replace d5:=bd_ d5
  replace HB:=A_ (G2 HB.out)
  refine start_ (n:=7) (S:=fun w'=>w'.cell? ⟨du,0,none⟩=some (.slice bq gg.length bb)/\w'.cell? ⟨du,1,none⟩=some (.slice (some bd4) g6.length ay)/\w'.cell? ⟨o0,0,none⟩=some (.slice ae ab.length ac)/\w'.cell? ⟨o0,1,none⟩=some (.slice ag aa.length af)) (ds:=[]) (tl_ 7 0) (g1_) rfl (g1_) ⟨(Gz d5.out 0).trans rfl,(Gz d5.out 1).trans rfl,(Gz em.out 0).trans rfl,(Gz em.out 1).trans rfl⟩ (fun hHeld=>?_)
  generalize w96.drew=w97 at fp fw em ew dy d5 HB hHeld |-
  refine take_ (i:=0) (N:=some 98) (v:=?_) (a':=?_) (tl_ 7 1) rfl rfl (g1_) (fun _ _ _ h=>h) (Or.inl ⟨by rfl,?_⟩) hHeld ?_ ?_
  rotate_left
  ·rintro w' ⟨s0,s1,s2,s3⟩
   go_simp
   with_reducible rfl
  rotate_left
  ·simp only[Act.put,List.setIfInBounds_toArray,List.set_cons_zero,List.set_cons_succ,i64_w,i32_w]
   rfl
  refine take_ (i:=1) (N:=some 99) (v:=?_) (a':=?_) (tl_ 7 3) rfl rfl (g1_) (fun _ _ _ h=>h) (Or.inl ⟨by rfl,?_⟩) hHeld ?_ ?_
  rotate_left
  ·rintro w' ⟨s0,s1,s2,s3⟩
   go_simp
   with_reducible rfl
  rotate_left
  ·simp only[Act.put,List.setIfInBounds_toArray,List.set_cons_zero,List.set_cons_succ,i64_w,i32_w]
   rfl
  refine take_ (i:=2) (N:=some 100) (v:=?_) (a':=?_) (tl_ 7 7) rfl rfl (g1_) (fun _ _ _ h=>h) (Or.inl ⟨by rfl,?_⟩) hHeld ?_ ?_
  rotate_left
  ·rintro w' ⟨s0,s1,s2,s3⟩
   go_simp
   with_reducible rfl
  rotate_left
  ·simp only[Act.put,List.setIfInBounds_toArray,List.set_cons_zero,List.set_cons_succ,i64_w,i32_w]
   rfl
  refine one_ (i:=3) (N:=some 101) (tl_ 7 15) rfl rfl (g1_) (by decide) (fun K hK=>?_)
  refine goes_ Try.func122 (g1_) rfl #[.agg #[.slice bq gg.length bb, .slice (some bd4) ae9.length ay], .agg #[.slice ae ab.length ac, .slice ag aa.length af]] (by rfl) rfl rfl (by(try simp only[List.map_toArray,List.map_cons,List.map_nil]);first|done|(rw[show ae9.length=g6.length from(Kd.S_reads' fw.out).1.symm] <;> rfl)|rfl|(simp only[List.length_drop,List.length_take];rfl)) ?_
  with_reducible refine(Fx.calls kj57 _ _ gg _ _ ae9 _ _ ab _ _ aa bz8 _ ?side1 ?side2 ?side3 ?side4 ?side5 ?side6 ?side7 ?side8 A92.out).mono ?_
  (case side1=>exact cR_ fp)
  (case side2=>exact lR_ fp)
  (case side3=>exact cS_ fw)
  (case side4=>rw[show ae9.length=g6.length from(Kd.S_reads' fw.out).1.symm];exact(Kd.S_reads' fw.out).2.1)
  (case side5=>exact uf1_ bu)
  (case side6=>exact cq.out)
  (case side7=>exact uf1_ bf)
  (case side8=>exact cu.out)
  rintro e w98 ⟨rfl,hb⟩
  refine⟨_,rfl,?_⟩
  replace fp:=rb_ fp hb
  replace fw:=sb_ fw hb
  replace em:=bb_ em hb
  replace ew:=bb_ ew hb
  replace dy:=bb_ dy hb
  replace d5:=bb_ d5 hb
  replace HB:=hs_ (km) hb
  refine hK.out _ _ ⟨(Gz d5.out 0).trans rfl,(Gz d5.out 1).trans rfl,(Gz em.out 0).trans rfl,(Gz em.out 1).trans rfl⟩ (fun hHeld=>?_)
  clear hK K
  refine nm_ ?_
  refine pure_ (i:=4) (N:=some 102) (v:=?_) (a':=?_) (tl_ 7 31) rfl rfl (g1_) (fun _ _ _ h=>h) (Or.inl ⟨by rfl,?_⟩) ?_ ?_
  rotate_left
  ·intro w'
   go_simp
   with_reducible rfl
  rotate_left
  ·simp only[Act.put,List.setIfInBounds_toArray,List.set_cons_zero,List.set_cons_succ,i64_w,i32_w]
   rfl
  refine one_ (i:=5) (N:=none) (tl_ 7 63) rfl rfl (g1_) (by decide) (fun K hK=>?_)
  have lx3:w98.cell? ⟨il,0,none⟩=some (.slice none 0 0):=(Gz dy.out 0).trans rfl
  have lx4:=G8 dy.out 0
  have lx5:=m4.out
  have lx6:=qu.out
  have lx7:=mh.out
  have lx8:=aj1.out
  have lx9:=qv.out
  have ly0:=xe.out
  have ly1:w98.cell? ⟨il,1,none⟩=some (.slice none 0 0):=(Gz dy.out 1).trans rfl
  have ly2:=G8 dy.out 1
  refine skip_ (w1:=?_) (by rfl) rfl ?_ ?_
  rotate_left
  ·go_simp
   rfl
  refine hK.out _ _ ⟨(cf_ mh ((cf_ mh (hHeld.1)))),(cf_ mh ((cf_ mh (hHeld.2.1)))),(cf_ m4 ((cf_ m4 (hHeld.2.2.1)))),(cf_ m4 ((cf_ m4 (hHeld.2.2.2))))⟩ (fun hHeld=>?_)
  clear hK K
  refine pure_ (i:=6) (N:=some 5) (v:=?_) (a':=?_) (tl_ 7 127) rfl rfl (g1_) (fun _ _ _ h=>h) (Or.inl ⟨by rfl,?_⟩) ?_ ?_
  rotate_left
  ·intro w'
   go_simp
   with_reducible rfl
  rotate_left
  ·simp only[Act.put,List.setIfInBounds_toArray,List.set_cons_zero,List.set_cons_succ,i64_w,i32_w]
   rfl
  refine done_ (g1_) ?_
  try go_wp2
  refine bodyPost_ret (Jn rfl _ _ il 25 #[.slice bq gg.length bb, .slice (some bd4) g6.length ay] (0,0) _ rfl (ba_ dy) Try.underlying25 rfl (g1_)) rfl ?_
  exact⟨_,_,g4_,ra_ fp,sa_ fw,km⟩
 replace c86:=Bool.eq_false_iff.mpr c86
 subst c86
 replace H:=ifn_ H
 by_cases aq2:(aq == 2 && (ak == 0 && (am == 0 && (ap == 0))))=true
 ·rw[if_pos aq2] at H
  have jk9:(aq == 2 && (ak == 0 && (am == 0 && (ap == 0))))=true:=aq2
  (try(have jl0:decide (aq=2 && (ak == 0 && (am == 0 && (ap == 0))))=true:=by simpa using aq2))
  (try(have jl1:(aq == 2 && (ak == 0 && (am == 0 && (ap == 0))))=true:=by simpa using aq2))
  clear aq2
  replace H:=Option.bind_eq_some_iff.mp H
  obtain⟨⟨di,nc⟩,gy3,H⟩:=H
  try dsimp only at H
  have jl2:=A_ gy3
  clear gy3
  obtain⟨ff1,jl3,H⟩:=bind_ H
  simp only[Option.some.injEq,Prod.mk.injEq] at H
  obtain⟨rfl,rfl,rfl⟩:=H
  have fh3:=zt.out
  have fh4:=zr.out
  have fh5:=qu.out
  have fh6:=qv.out
  have gy4:=vx.out
  have gy5:=zu.out
  obtain⟨gy6,gy7,jl4,ly9,gy8,gy9,jl5,lz0⟩:=blk4_ ew
  have gz0:=m4.out
  have gz1:=aj1.out
  have gz2:=cl4.out
  have gz3:=dz7.out
  obtain⟨jl6,jl7,jl8,jl9⟩:=blk2_ em
  try go_wp2_with (first|((with_reducible refine gc_ 41 ?_);refine gl_ 88 Try.func41 #[.agg #[.slice ae ab.length ac, .slice ag aa.length af]] ?_;(refine(Fj.calls kj57 _ _ ab _ _ aa di nc _ (uf1_ bu) cq.out (uf1_ bf) cu.out jl2.out).mono ?_);rintro e aw0 ⟨fh7,lz1,rfl,aj,ar,hb⟩;refine⟨_,rfl,?_⟩;have jh:=A_ (Kd.R_lower (Kd.R_new' aj (Kd.R_lt (uf2_ fp))) (G0 (km)));have aj3:=A_ (Kd.S_lower (Kd.S_new' (Kd.S_new' ar (Kd.R_lt (uf2_ fp))) (Kd.S_lt (uf3_ fw))) (G0 (km)));replace fp:=A_ (Kd.R_elder' (uf2_ fp) (Kd.R_base aj) hb);replace fw:=A_ (Kd.S_mono (Kd.S_told (Kd.S_told (Kd.S_old (uf3_ fw) hb) (Kd.R_base aj)) (Kd.S_base ar)) (fun _ h_=>h_.1));replace em:=bb_ em hb;replace ew:=bb_ ew hb;replace dy:=bb_ dy hb;replace d5:=bb_ d5 hb;replace HB:=hs_ (km) hb;obtain⟨nl,nm,jm0⟩:=Kd.R_slice jh.out;subst jm0;have jm1:=mh.out;have jm2:=xe.out;obtain⟨jm3,jm4,jm5,jm6⟩:=blk2_ d5;obtain⟨nn,np,fh8⟩:=Kd.S_slice aj3.out;subst fh8))
  have n0_:Gy (Kd.R (Kd.int .i64) 3 ((aw0.setCell ⟨du,0,none⟩ (.slice nl di.length nm)).setCell ⟨du,1,none⟩ (.slice nn nc.length np)) w.heap.size (fun k_=>some k_≠(.slice nl di.length nm:Value).ownBlock) (.slice bq gg.length bb) gg):=⟨ra_ fp⟩
  have n1_:Gy (Kd.S (Kd.slice 3 (Kd.int .i64)) 22 ((aw0.setCell ⟨du,0,none⟩ (.slice nl di.length nm)).setCell ⟨du,1,none⟩ (.slice nn nc.length np)) w.heap.size (fun k_=>some k_≠(.slice bq gg.length bb:Value).ownBlock/\some k_≠(.slice nl di.length nm:Value).ownBlock/\some k_≠(.slice nn nc.length np:Value).ownBlock) (.slice az g6.length ay) g6):=⟨sa_ fw⟩
  have n2_:Gy (Kd.R (Kd.int .i64) 3 ((aw0.setCell ⟨du,0,none⟩ (.slice nl di.length nm)).setCell ⟨du,1,none⟩ (.slice nn nc.length np)) w.heap.size (fun k_=>some k_≠(.slice bq gg.length bb:Value).ownBlock) (.slice nl di.length nm) di):=⟨ra_ jh⟩
  have n3_:Gy (Kd.S (Kd.slice 3 (Kd.int .i64)) 22 ((aw0.setCell ⟨du,0,none⟩ (.slice nl di.length nm)).setCell ⟨du,1,none⟩ (.slice nn nc.length np)) w.heap.size (fun k_=>some k_≠(.slice bq gg.length bb:Value).ownBlock/\some k_≠(.slice az g6.length ay:Value).ownBlock/\some k_≠(.slice nl di.length nm:Value).ownBlock) (.slice nn nc.length np) nc):=⟨sa_ aj3⟩
  have n4_:Gy (((aw0.setCell ⟨du,0,none⟩ (.slice nl di.length nm)).setCell ⟨du,1,none⟩ (.slice nn nc.length np)).heap[o0]? = some (.cells #[.slice ae ab.length ac, .slice ag aa.length af] 25 (0,0))):=⟨g61_⟩
  have n5_:Gy (((aw0.setCell ⟨du,0,none⟩ (.slice nl di.length nm)).setCell ⟨du,1,none⟩ (.slice nn nc.length np)).heap[p9]? = some (.cells #[.int .i64 aq, .int .i64 ak, .int .i64 am, .int .i64 ap] 69 (0,0))):=⟨g62_⟩
  have n6_:Gy (((aw0.setCell ⟨du,0,none⟩ (.slice nl di.length nm)).setCell ⟨du,1,none⟩ (.slice nn nc.length np)).heap[il]? = some (.cells #[.slice none 0 0, .slice none 0 0] 25 (0,0))):=⟨g63_⟩
  have n7_:Gy (((aw0.setCell ⟨du,0,none⟩ (.slice nl di.length nm)).setCell ⟨du,1,none⟩ (.slice nn nc.length np)).heap[du]? = some (.cells #[.slice nl di.length nm, .slice nn nc.length np] 25 (0,0))):=⟨ba_ d5⟩
  have n8_:Gy (Below w.heap.size w ((aw0.setCell ⟨du,0,none⟩ (.slice nl di.length nm)).setCell ⟨du,1,none⟩ (.slice nn nc.length np))):=⟨km⟩
  generalize ((aw0.setCell ⟨du,0,none⟩ (.slice nl di.length nm)).setCell ⟨du,1,none⟩ (.slice nn nc.length np))=jm7 at n0_ n1_ n2_ n3_ n4_ n5_ n6_ n7_ n8_ |-
  have fp:=n0_
  have fw:=n1_
  have jh:=n2_
  have aj3:=n3_
  have em:=n4_
  have ew:=n5_
  have dy:=n6_
  have d5:=n7_
  have HB:=n8_
  clear n0_ n1_ n2_ n3_ n4_ n5_ n6_ n7_ n8_
  replace fp:=rd_ fp
  replace fw:=sd_ fw
  replace jh:=rd_ jh
  replace aj3:=sd_ aj3
  replace em:=bd_ em
  replace ew:=bd_ ew
  replace dy:=bd_ dy
  replace d5:=bd_ d5
  replace HB:=A_ (G2 HB.out)
  refine start_ (n:=7) (S:=fun w'=>w'.cell? ⟨du,0,none⟩=some (.slice nl di.length nm)/\w'.cell? ⟨du,1,none⟩=some (.slice nn nc.length np)/\w'.cell? ⟨o0,0,none⟩=some (.slice ae ab.length ac)/\w'.cell? ⟨o0,1,none⟩=some (.slice ag aa.length af)) (ds:=[]) (tl_ 7 0) (g1_) rfl (g1_) ⟨(Gz d5.out 0).trans rfl,(Gz d5.out 1).trans rfl,(Gz em.out 0).trans rfl,(Gz em.out 1).trans rfl⟩ (fun hHeld=>?_)
  generalize jm7.drew=gz4 at fp fw jh aj3 em ew dy d5 HB hHeld |-
  refine take_ (i:=0) (N:=some 98) (v:=?_) (a':=?_) (tl_ 7 1) rfl rfl (g1_) (fun _ _ _ h=>h) (Or.inl ⟨by rfl,?_⟩) hHeld ?_ ?_
  rotate_left
  ·rintro w' ⟨s0,s1,s2,s3⟩
   go_simp
   with_reducible rfl
  rotate_left
  ·simp only[Act.put,List.setIfInBounds_toArray,List.set_cons_zero,List.set_cons_succ,i64_w,i32_w]
   rfl
  refine take_ (i:=1) (N:=some 99) (v:=?_) (a':=?_) (tl_ 7 3) rfl rfl (g1_) (fun _ _ _ h=>h) (Or.inl ⟨by rfl,?_⟩) hHeld ?_ ?_
  rotate_left
  ·rintro w' ⟨s0,s1,s2,s3⟩
   go_simp
   with_reducible rfl
  rotate_left
  ·simp only[Act.put,List.setIfInBounds_toArray,List.set_cons_zero,List.set_cons_succ,i64_w,i32_w]
   rfl
  refine take_ (i:=2) (N:=some 100) (v:=?_) (a':=?_) (tl_ 7 7) rfl rfl (g1_) (fun _ _ _ h=>h) (Or.inl ⟨by rfl,?_⟩) hHeld ?_ ?_
  rotate_left
  ·rintro w' ⟨s0,s1,s2,s3⟩
   go_simp
   with_reducible rfl
  rotate_left
  ·simp only[Act.put,List.setIfInBounds_toArray,List.set_cons_zero,List.set_cons_succ,i64_w,i32_w]
   rfl
  refine one_ (i:=3) (N:=some 101) (tl_ 7 15) rfl rfl (g1_) (by decide) (fun K hK=>?_)
  refine goes_ Try.func122 (g1_) rfl #[.agg #[.slice nl di.length nm, .slice nn nc.length np], .agg #[.slice ae ab.length ac, .slice ag aa.length af]] (by rfl) rfl rfl (g3_) ?_
  refine(Fx.calls kj57 _ _ di _ _ nc _ _ ab _ _ aa ff1 _ (cR_ jh) (lR_ jh) (cS_ aj3) (lS_ aj3) (uf1_ bu) cq.out (uf1_ bf) cu.out jl3.out).mono ?_
  rintro e fh9 ⟨rfl,hb⟩
  refine⟨_,rfl,?_⟩
  replace fp:=rb_ fp hb
  replace fw:=sb_ fw hb
  replace jh:=rb_ jh hb
  replace aj3:=sb_ aj3 hb
  replace em:=bb_ em hb
  replace ew:=bb_ ew hb
  replace dy:=bb_ dy hb
  replace d5:=bb_ d5 hb
  replace HB:=hs_ (km) hb
  refine hK.out _ _ ⟨(Gz d5.out 0).trans rfl,(Gz d5.out 1).trans rfl,(Gz em.out 0).trans rfl,(Gz em.out 1).trans rfl⟩ (fun hHeld=>?_)
  clear hK K
  refine nm_ ?_
  refine pure_ (i:=4) (N:=some 102) (v:=?_) (a':=?_) (tl_ 7 31) rfl rfl (g1_) (fun _ _ _ h=>h) (Or.inl ⟨by rfl,?_⟩) ?_ ?_
  rotate_left
  ·intro w'
   go_simp
   with_reducible rfl
  rotate_left
  ·simp only[Act.put,List.setIfInBounds_toArray,List.set_cons_zero,List.set_cons_succ,i64_w,i32_w]
   rfl
  refine one_ (i:=5) (N:=none) (tl_ 7 63) rfl rfl (g1_) (by decide) (fun K hK=>?_)
  have lz2:fh9.cell? ⟨il,0,none⟩=some (.slice none 0 0):=(Gz dy.out 0).trans rfl
  have lz3:=G8 dy.out 0
  have lz6:=mh.out
  have lz9:=xe.out
  have ma0:fh9.cell? ⟨il,1,none⟩=some (.slice none 0 0):=(Gz dy.out 1).trans rfl
  have ma1:=G8 dy.out 1
  refine skip_ (w1:=?_) (by rfl) rfl ?_ ?_
  rotate_left
  ·go_simp
   rfl
  refine hK.out _ _ ⟨(cf_ mh ((cf_ mh (hHeld.1)))),(cf_ mh ((cf_ mh (hHeld.2.1)))),(cf_ m4 ((cf_ m4 (hHeld.2.2.1)))),(cf_ m4 ((cf_ m4 (hHeld.2.2.2))))⟩ (fun hHeld=>?_)
  clear hK K
  refine pure_ (i:=6) (N:=some 5) (v:=?_) (a':=?_) (tl_ 7 127) rfl rfl (g1_) (fun _ _ _ h=>h) (Or.inl ⟨by rfl,?_⟩) ?_ ?_
  rotate_left
  ·intro w'
   go_simp
   with_reducible rfl
  rotate_left
  ·simp only[Act.put,List.setIfInBounds_toArray,List.set_cons_zero,List.set_cons_succ,i64_w,i32_w]
   rfl
  refine done_ (g1_) ?_
  try go_wp2
  refine bodyPost_ret (Jn rfl _ _ il 25 #[.slice nl di.length nm, .slice nn nc.length np] (0,0) _ rfl (ba_ dy) Try.underlying25 rfl (g1_)) rfl ?_
  exact⟨_,_,g4_,ra_ jh,sa_ aj3,km⟩
 rw[if_neg aq2] at H
 have jk9:(aq == 2 && (ak == 0 && (am == 0 && (ap == 0))))=false:=by simpa using aq2
 (try(have jl0:decide (aq=2 && (ak == 0 && (am == 0 && (ap == 0))))=false:=by simpa using aq2))
 (try(have jl1:(aq == 2 && (ak == 0 && (am == 0 && (ap == 0))))=false:=by simpa using aq2))
 (try(have ma8:¬ (aq=2 && (ak == 0 && (am == 0 && (ap == 0)))):=by simpa using aq2))
 clear aq2
 by_cases vy:(aq == 3 && (ak == 0 && (am == 0 && (ap == 0))))=true
 case neg=>
  rw[if_neg vy] at H
  have jm8:(aq == 3 && (ak == 0 && (am == 0 && (ap == 0))))=false:=by simpa using vy
  (try(have jm9:decide (aq=3 && (ak == 0 && (am == 0 && (ap == 0))))=false:=by simpa using vy))
  (try(have jn0:(aq == 3 && (ak == 0 && (am == 0 && (ap == 0))))=false:=by simpa using vy))
  (try(have md3:¬ (aq=3 && (ak == 0 && (am == 0 && (ap == 0)))):=by simpa using vy))
  clear vy
  simp only[Option.some.injEq,Prod.mk.injEq] at H
  obtain⟨rfl,rfl,rfl⟩:=H
  have gz6:=zt.out
  have gz7:=zr.out
  have jp5:=qu.out
  have jp6:=qv.out
  have md4:=vx.out
  have md5:=zu.out
  obtain⟨md6,md7,md8,md9,me0,me1,me2,me3⟩:=blk4_ ew
  have gz8:=aj1.out
  have gz9:=m4.out
  have ha0:=xe.out
  have ha1:=mh.out
  obtain⟨jp7,jp8,jp9,jq0⟩:=blk2_ dy
  go_wp2
  refine bodyPost_ret (Jn rfl _ _ il 25 #[.slice none 0 0, .slice none 0 0] (0,0) _ rfl (ba_ dy) Try.underlying25 rfl (g1_)) rfl ?_
  exact⟨_,_,g4_,g18_,g24_,km⟩
 rw[if_pos vy] at H
 have jm8:(aq == 3 && (ak == 0 && (am == 0 && (ap == 0))))=true:=vy
 (try(have jm9:decide (aq=3 && (ak == 0 && (am == 0 && (ap == 0))))=true:=by simpa using vy))
 (try(have jn0:(aq == 3 && (ak == 0 && (am == 0 && (ap == 0))))=true:=by simpa using vy))
 clear vy
 replace H:=Option.bind_eq_some_iff.mp H
 obtain⟨⟨mi,oj,jn1⟩,gz5,H⟩:=H
 try dsimp only at H
 have fi0:=A_ gz5
 clear gz5
 obtain⟨ff2,jn2,H⟩:=bind_ H
 simp only[Option.some.injEq,Prod.mk.injEq] at H
 obtain⟨rfl,rfl,rfl⟩:=H
 have jn3:=zt.out
 have jn4:=zr.out
 have jn5:=qu.out
 have jn6:=qv.out
 have fi1:=vx.out
 have fi2:=zu.out
 obtain⟨jn7,jn8,jn9,ma9,jo0,jo1,jo2,mb0⟩:=blk4_ ew
 have jo3:=m4.out
 have jo4:=aj1.out
 have jo5:=cl4.out
 have jo6:=dz7.out
 obtain⟨mb1,mb2,mb3,mb4⟩:=blk2_ em
 try go_wp2_with (first|((with_reducible refine gc_ 53 ?_);refine gl_ 95 Try.func53 #[.agg #[.slice ae ab.length ac, .slice ag aa.length af]] ?_;(refine(Fc.calls kj57 _ _ ab _ _ aa mi oj jn1 _ (uf1_ bu) cq.out (uf1_ bf) cu.out fi0.out).mono ?_);rintro e aw1 ⟨mb5,mb6,rfl,aj,ar,hb⟩;refine⟨_,rfl,?_⟩;have aj4:=A_ (Kd.R_lower (Kd.R_new' aj (Kd.R_lt (uf2_ fp))) (G0 (km)));have aj5:=A_ (Kd.S_lower (Kd.S_new' (Kd.S_new' ar (Kd.R_lt (uf2_ fp))) (Kd.S_lt (uf3_ fw))) (G0 (km)));replace fp:=A_ (Kd.R_elder' (uf2_ fp) (Kd.R_base aj) hb);replace fw:=A_ (Kd.S_mono (Kd.S_told (Kd.S_told (Kd.S_old (uf3_ fw) hb) (Kd.R_base aj)) (Kd.S_base ar)) (fun _ h_=>h_.1));replace em:=bb_ em hb;replace ew:=bb_ ew hb;replace dy:=bb_ dy hb;replace d5:=bb_ d5 hb;replace HB:=hs_ (km) hb;obtain⟨nq,nr,jo7⟩:=Kd.R_slice aj4.out;subst jo7;have fi3:=mh.out;have fi4:=xe.out;obtain⟨jo8,jo9,jp0,jp1⟩:=blk2_ d5;obtain⟨qa,qb,jp2⟩:=Kd.S_slice aj5.out;subst jp2))
 have n0_:Gy (Kd.R (Kd.int .i64) 3 ((aw1.setCell ⟨du,0,none⟩ (.slice nq mi.length nr)).setCell ⟨du,1,none⟩ (.slice qa oj.length qb)) w.heap.size (fun k_=>some k_≠(.slice nq mi.length nr:Value).ownBlock) (.slice bq gg.length bb) gg):=⟨ra_ fp⟩
 have n1_:Gy (Kd.S (Kd.slice 3 (Kd.int .i64)) 22 ((aw1.setCell ⟨du,0,none⟩ (.slice nq mi.length nr)).setCell ⟨du,1,none⟩ (.slice qa oj.length qb)) w.heap.size (fun k_=>some k_≠(.slice bq gg.length bb:Value).ownBlock/\some k_≠(.slice nq mi.length nr:Value).ownBlock/\some k_≠(.slice qa oj.length qb:Value).ownBlock) (.slice az g6.length ay) g6):=⟨sa_ fw⟩
 have n2_:Gy (Kd.R (Kd.int .i64) 3 ((aw1.setCell ⟨du,0,none⟩ (.slice nq mi.length nr)).setCell ⟨du,1,none⟩ (.slice qa oj.length qb)) w.heap.size (fun k_=>some k_≠(.slice bq gg.length bb:Value).ownBlock) (.slice nq mi.length nr) mi):=⟨ra_ aj4⟩
 have n3_:Gy (Kd.S (Kd.slice 3 (Kd.int .i64)) 22 ((aw1.setCell ⟨du,0,none⟩ (.slice nq mi.length nr)).setCell ⟨du,1,none⟩ (.slice qa oj.length qb)) w.heap.size (fun k_=>some k_≠(.slice bq gg.length bb:Value).ownBlock/\some k_≠(.slice az g6.length ay:Value).ownBlock/\some k_≠(.slice nq mi.length nr:Value).ownBlock) (.slice qa oj.length qb) oj):=⟨sa_ aj5⟩
 have n4_:Gy (((aw1.setCell ⟨du,0,none⟩ (.slice nq mi.length nr)).setCell ⟨du,1,none⟩ (.slice qa oj.length qb)).heap[o0]? = some (.cells #[.slice ae ab.length ac, .slice ag aa.length af] 25 (0,0))):=⟨g61_⟩
 have n5_:Gy (((aw1.setCell ⟨du,0,none⟩ (.slice nq mi.length nr)).setCell ⟨du,1,none⟩ (.slice qa oj.length qb)).heap[p9]? = some (.cells #[.int .i64 aq, .int .i64 ak, .int .i64 am, .int .i64 ap] 69 (0,0))):=⟨g62_⟩
 have n6_:Gy (((aw1.setCell ⟨du,0,none⟩ (.slice nq mi.length nr)).setCell ⟨du,1,none⟩ (.slice qa oj.length qb)).heap[il]? = some (.cells #[.slice none 0 0, .slice none 0 0] 25 (0,0))):=⟨g63_⟩
 have n7_:Gy (((aw1.setCell ⟨du,0,none⟩ (.slice nq mi.length nr)).setCell ⟨du,1,none⟩ (.slice qa oj.length qb)).heap[du]? = some (.cells #[.slice nq mi.length nr, .slice qa oj.length qb] 25 (0,0))):=⟨ba_ d5⟩
 have n8_:Gy (Below w.heap.size w ((aw1.setCell ⟨du,0,none⟩ (.slice nq mi.length nr)).setCell ⟨du,1,none⟩ (.slice qa oj.length qb))):=⟨km⟩
 generalize ((aw1.setCell ⟨du,0,none⟩ (.slice nq mi.length nr)).setCell ⟨du,1,none⟩ (.slice qa oj.length qb))=jp3 at n0_ n1_ n2_ n3_ n4_ n5_ n6_ n7_ n8_ |-
 have fp:=n0_
 have fw:=n1_
 have aj4:=n2_
 have aj5:=n3_
 have em:=n4_
 have ew:=n5_
 have dy:=n6_
 have d5:=n7_
 have HB:=n8_
 clear n0_ n1_ n2_ n3_ n4_ n5_ n6_ n7_ n8_
 replace fp:=rd_ fp
 replace fw:=sd_ fw
 replace aj4:=rd_ aj4
 replace aj5:=sd_ aj5
 replace em:=bd_ em
 replace ew:=bd_ ew
 replace dy:=bd_ dy
 replace d5:=bd_ d5
 replace HB:=A_ (G2 HB.out)
 refine start_ (n:=7) (S:=fun w'=>w'.cell? ⟨du,0,none⟩=some (.slice nq mi.length nr)/\w'.cell? ⟨du,1,none⟩=some (.slice qa oj.length qb)/\w'.cell? ⟨o0,0,none⟩=some (.slice ae ab.length ac)/\w'.cell? ⟨o0,1,none⟩=some (.slice ag aa.length af)) (ds:=[]) (tl_ 7 0) (g1_) rfl (g1_) ⟨(Gz d5.out 0).trans rfl,(Gz d5.out 1).trans rfl,(Gz em.out 0).trans rfl,(Gz em.out 1).trans rfl⟩ (fun hHeld=>?_)
 generalize jp3.drew=jp4 at fp fw aj4 aj5 em ew dy d5 HB hHeld |-
 refine take_ (i:=0) (N:=some 98) (v:=?_) (a':=?_) (tl_ 7 1) rfl rfl (g1_) (fun _ _ _ h=>h) (Or.inl ⟨by rfl,?_⟩) hHeld ?_ ?_
 rotate_left
 ·rintro w' ⟨s0,s1,s2,s3⟩
  go_simp
  with_reducible rfl
 rotate_left
 ·simp only[Act.put,List.setIfInBounds_toArray,List.set_cons_zero,List.set_cons_succ,i64_w,i32_w]
  rfl
 refine take_ (i:=1) (N:=some 99) (v:=?_) (a':=?_) (tl_ 7 3) rfl rfl (g1_) (fun _ _ _ h=>h) (Or.inl ⟨by rfl,?_⟩) hHeld ?_ ?_
 rotate_left
 ·rintro w' ⟨s0,s1,s2,s3⟩
  go_simp
  with_reducible rfl
 rotate_left
 ·simp only[Act.put,List.setIfInBounds_toArray,List.set_cons_zero,List.set_cons_succ,i64_w,i32_w]
  rfl
 refine take_ (i:=2) (N:=some 100) (v:=?_) (a':=?_) (tl_ 7 7) rfl rfl (g1_) (fun _ _ _ h=>h) (Or.inl ⟨by rfl,?_⟩) hHeld ?_ ?_
 rotate_left
 ·rintro w' ⟨s0,s1,s2,s3⟩
  go_simp
  with_reducible rfl
 rotate_left
 ·simp only[Act.put,List.setIfInBounds_toArray,List.set_cons_zero,List.set_cons_succ,i64_w,i32_w]
  rfl
 refine one_ (i:=3) (N:=some 101) (tl_ 7 15) rfl rfl (g1_) (by decide) (fun K hK=>?_)
 refine goes_ Try.func122 (g1_) rfl #[.agg #[.slice nq mi.length nr, .slice qa oj.length qb], .agg #[.slice ae ab.length ac, .slice ag aa.length af]] (by rfl) rfl rfl (g3_) ?_
 refine(Fx.calls kj57 _ _ mi _ _ oj _ _ ab _ _ aa ff2 _ (cR_ aj4) (lR_ aj4) (cS_ aj5) (lS_ aj5) (uf1_ bu) cq.out (uf1_ bf) cu.out jn2.out).mono ?_
 rintro e fi5 ⟨rfl,hb⟩
 refine⟨_,rfl,?_⟩
 replace fp:=rb_ fp hb
 replace fw:=sb_ fw hb
 replace aj4:=rb_ aj4 hb
 replace aj5:=sb_ aj5 hb
 replace em:=bb_ em hb
 replace ew:=bb_ ew hb
 replace dy:=bb_ dy hb
 replace d5:=bb_ d5 hb
 replace HB:=hs_ (km) hb
 refine hK.out _ _ ⟨(Gz d5.out 0).trans rfl,(Gz d5.out 1).trans rfl,(Gz em.out 0).trans rfl,(Gz em.out 1).trans rfl⟩ (fun hHeld=>?_)
 clear hK K
 refine nm_ ?_
 refine pure_ (i:=4) (N:=some 102) (v:=?_) (a':=?_) (tl_ 7 31) rfl rfl (g1_) (fun _ _ _ h=>h) (Or.inl ⟨by rfl,?_⟩) ?_ ?_
 rotate_left
 ·intro w'
  go_simp
  with_reducible rfl
 rotate_left
 ·simp only[Act.put,List.setIfInBounds_toArray,List.set_cons_zero,List.set_cons_succ,i64_w,i32_w]
  rfl
 refine one_ (i:=5) (N:=none) (tl_ 7 63) rfl rfl (g1_) (by decide) (fun K hK=>?_)
 have mb7:fi5.cell? ⟨il,0,none⟩=some (.slice none 0 0):=(Gz dy.out 0).trans rfl
 have mb8:=G8 dy.out 0
 have mc1:=mh.out
 have mc4:=xe.out
 have mc5:fi5.cell? ⟨il,1,none⟩=some (.slice none 0 0):=(Gz dy.out 1).trans rfl
 have mc6:=G8 dy.out 1
 refine skip_ (w1:=?_) (by rfl) rfl ?_ ?_
 rotate_left
 ·go_simp
  rfl
 refine hK.out _ _ ⟨(cf_ mh ((cf_ mh (hHeld.1)))),(cf_ mh ((cf_ mh (hHeld.2.1)))),(cf_ m4 ((cf_ m4 (hHeld.2.2.1)))),(cf_ m4 ((cf_ m4 (hHeld.2.2.2))))⟩ (fun hHeld=>?_)
 clear hK K
 refine pure_ (i:=6) (N:=some 5) (v:=?_) (a':=?_) (tl_ 7 127) rfl rfl (g1_) (fun _ _ _ h=>h) (Or.inl ⟨by rfl,?_⟩) ?_ ?_
 rotate_left
 ·intro w'
  go_simp
  with_reducible rfl
 rotate_left
 ·simp only[Act.put,List.setIfInBounds_toArray,List.set_cons_zero,List.set_cons_succ,i64_w,i32_w]
  rfl
 refine done_ (g1_) ?_
 try go_wp2
 refine bodyPost_ret (Jn rfl _ _ il 25 #[.slice nq mi.length nr, .slice qa oj.length qb] (0,0) _ rfl (ba_ dy) Try.underlying25 rfl (g1_)) rfl ?_
 exact⟨_,_,g4_,ra_ aj4,sa_ aj5,km⟩
attribute [local go_sem high] eqA69
theorem k25s_ne {w:World} {g g':Nat} {t:Nat} (h:∃cells,w.heap[g]? = some (.cells cells 25 (0,0))) {cells':Array Value} (h':w.heap[g']? = some (.cells cells' t (0,0))) (ht:(25:Nat)≠t):g≠g':=by
 rintro rfl
 obtain⟨cells,hc⟩:=h
 rw[hc] at h'
 injection h' with h1
 injection h1 with _ h2
 exact ht h2
theorem k25s_last {w:World} {base:Nat} {ok:Nat->Prop} {A:Option Addr} {m c n:Nat} {xs:List S25} (hn:xs.length=n + 1) (h:Kd.S k25s 25 w base ok (.slice A m c) xs) :
  ∃g u0 u1,A=some ⟨g,0,none⟩/\w.cell? ⟨g,n * 2,none⟩=some u0/\w.cell? ⟨g,n * 2 + 1,none⟩=some u1/\Kd.R (Kd.int .i64) 3 w base (fun _=>True) u0 (Jd xs (n:Int)).f0/\Kd.S (Kd.slice 3 (Kd.int .i64)) 22 w base (fun k=>some k≠u0.ownBlock) u1 (Jd xs (n:Int)).f1/\Kd.Q k25 25 w base (fun k=>some k≠u0.ownBlock/\some k≠u1.ownBlock) (.slice (some ⟨g,0,none⟩) n c) (xs.take n)/\(∃cells,w.heap[g]? = some (.cells cells 25 (0,0)))/\m=n + 1:=by
 obtain⟨f,hR⟩:=h
 have hlz:xs.zipIdx.length=n + 1:=by rw[List.length_zipIdx,hn]
 have hm:m=n + 1:=by rw[(Kd.R_reads' hR).1,hlz]
 subst hm
 obtain⟨hok,inner,ho,hr⟩:=hR
 have aj:=ho
 rcases aj.2 with⟨hv,_⟩ | ⟨g,cap',cur,hv,hgb,hh,_⟩
 ·cases hv
 injection hv with hA _ hc
 subst hA
 have hbl:(Value.slice (some ⟨g,0,none⟩) (n + 1) c).ownBlock=some g:=by simp[Value.ownBlock]
 obtain⟨cs,hcl,hM,hcc⟩:=Kd.R_getA (⟨hok,inner,ho,hr⟩:(Kd.tag f k25s).R 25 w base ok _ _) (z25,0) (n:Int) (by omega) (by omega)
 have hzi:xs.zipIdx.getD (n:Int).toNat (z25,0)=(Jd xs (n:Int),n):=by
  simp[Jd,List.getD_eq_getElem?_getD,hn]
 rw[hzi] at hM
 obtain⟨u0,u1,rfl,h0,h1⟩:=hM
 have e0:=hcc 0 u0 rfl
 have e1:=hcc 1 u1 rfl
 have hsz:(Kd.tag f k25s).sz=2:=rfl
 rw[hsz] at e0 e1
 refine⟨g,u0,u1,rfl,?_,?_,Kd.R_mono h0 (fun _ _=>trivial),Kd.S_mono h1 (fun _ hk=>hk.2),Kd.Q_of_R ?_,⟨cur,hh⟩,rfl⟩
 ·rw[add_at] at e0;simpa using e0
 ·rw[add_at] at e1;simpa using e1
 have hu0:∀k,u0.ownBlock=some k->f k=n/\k≠g:=fun k hk=>by
  have:=h0.1 k hk
  refine⟨this.2,fun e=>this.1.2 (by rw[hbl,e])⟩
 have hu1:∀k,u1.ownBlock=some k->f k=n/\k≠g:=fun k hk=>by
  have:=(Kd.S_R h1).1 k hk
  refine⟨this.1.2,fun e=>this.1.1.2 (by rw[hbl,e])⟩
 have hRt:=Kd.R_take (m:=n) (⟨hok,inner,ho,hr⟩:(Kd.tag f k25s).R 25 w base ok _ _) (by omega)
 obtain⟨hok2,inner2,ef,hr2⟩:=hRt
 have hbl2:(Value.slice (some ⟨g,0,none⟩) n c).ownBlock=some g:=by simp[Value.ownBlock]
 have hlt:(xs.zipIdx.take n).length=n:=by rw[List.length_take,hlz];omega
 have hlt2:(xs.take n).length=n:=by rw[List.length_take,hn];omega
 rw[hlt] at ef
 refine⟨fun k hk=>?_,inner2,by rw[hlt2];exact ef,?_,fun j p hj=>?_⟩
 ·have hkg:g=k:=by rw[hbl2] at hk;injection hk
  subst hkg
  exact⟨fun e=>(hu0 _ e.symm).2 rfl,fun e=>(hu1 _ e.symm).2 rfl⟩
 ·rw[hr2.1,hlt,hlt2];rfl
 have hjn:j < n:=by have:=(List.getElem?_eq_some_iff.1 hj).1;omega
 have hj2:xs[j]? = some p:=by rw[List.getElem?_take,if_pos hjn] at hj;exact hj
 have hj3:(xs.zipIdx.take n)[j]? = some (p,j):=by rw[List.getElem?_take,if_pos hjn];exact Kd.zip_at hj2
 have hMj:=hr2.2 j (p,j) hj3
 refine k25.M_mono (fun k hk=>⟨⟨fun e=>?_,fun e=>?_⟩,hk.1.2⟩) (k25s_M hMj)
 ·have:=(hu0 k e.symm).1;have h3:=hk.2;omega
 have:=(hu1 k e.symm).1;have h3:=hk.2;omega
def Ge.j0:Nat->Bool->List Int->List (List Int)->List (S25)->Int->Int->Int->Int->List Int->List (List Int)->List (S25)->Option (List Int × (List (List Int)) × (List (S25)) × Bool)
 | 0,_,_,_,_,_,_,_,_,_,_,_=>none
 | k + 1,x24,jq1,jq2,me4,jq3,jq4,jq5,jq6,ha2,ha3,fi6=>if x24=true then(none) else((Fs.f k jq1 jq2 jq3 jq4 jq5 jq6).bind fun bt346=>(if bt346.2.2=true then(if fi6.length < 2932031007402 then((some (fi6 ++ [(⟨ha2,ha3⟩:S25)]:List (S25))).bind fun lk=>(if (lk.length:Int) > 8 then(if 1<=(lk.length:Int) then(some (bt346.1,bt346.2.1,(lk.drop (1:Int).toNat),true)) else(none)) else(some (bt346.1,bt346.2.1,lk,true)))) else(none)) else(some (ha2,ha3,fi6,false))))
def Ge.f (k:Nat) (ab:List Int) (aa:List (List Int)) (ai:List (S25)) (aq:Int) (ak:Int) (am:Int) (ap:Int):Option (List Int × (List (List Int)) × (List (S25)) × Bool):=(Fz.f k ab aa ai).bind fun dg7=>(if dg7=true then((Fn.f k ab aa ai).bind fun bt336=>(if (aq == 4 && (ak == 0 && (am == 0 && (ap == 0))))=true then(Ge.j0 k (decide ((ai.length:Int) > 0)) ab aa ai aq ak am ap bt336.1 bt336.2.1 bt336.2.2) else(Ge.j0 k false ab aa ai aq ak am ap bt336.1 bt336.2.1 bt336.2.2))) else(some (([]:List Int),([]:List (List Int)),([]:List (S25)),false)))
theorem jo {p:Prop} (h:p:=by repeat(first|(with_reducible first|exact HB.out|apply G4|apply G3|apply G2|refine G1 ?_ cl9.out|refine G1 ?_ dg8.out|refine G1 ?_ ca0.out|refine G1 ?_ bn5.out|refine G1 ?_ fi7.out)|exact HB.out)):p:=h
set_option maxHeartbeats 8000000 in
set_option maxRecDepth 100000 in
theorem Ge.calls (k:Nat) (ae:Option Addr) (ac:Nat) (ab:List Int) (ag:Option Addr) (af:Nat) (aa:List (List Int)) (ci:Option Addr) (bv:Nat) (ai:List (S25)) (aq:Int) (ak:Int) (am:Int) (ap:Int) (r1:List Int) (r2:List (List Int)) (r3:List (S25)) (r4:Bool) (w:World) (ca:Kd.C (Kd.int .i64) w ae ab.length ab) (ce:ab.length<=ac) (cb:Kd.C (Kd.slice 3 (Kd.int .i64)) w ag aa.length aa) (cg:aa.length<=af) (k0:Kd.C k25 w ci ai.length ai) (k5:ai.length<=bv) (h:Ge.f k ab aa ai aq ak am ap=some (r1,r2,r3,r4)) :
  Calls Try.prog 54 #[.agg #[.slice ae ab.length ac, .slice ag aa.length af, .slice ci ai.length bv], .agg #[.int .i64 aq, .int .i64 ak, .int .i64 am, .int .i64 ap]] w fun e w'=>∃v0_ v1_ v2_:Value,e = .returned (.tuple #[.agg #[v0_,v1_,v2_], .bool r4])/\Kd.R (Kd.int .i64) 3 w' w.heap.size (fun _=>True) v0_ r1/\Kd.S (Kd.slice 3 (Kd.int .i64)) 22 w' w.heap.size (fun k_=>some k_≠(v0_:Value).ownBlock) v1_ r2/\Kd.Q k25 25 w' w.heap.size (fun k_=>some k_≠(v0_:Value).ownBlock/\some k_≠(v1_:Value).ownBlock) v2_ r3/\Below w.heap.size w w':=by
 have hu28:=Try.underlying28
 have hu69:=Try.underlying69
 have hu25:=Try.underlying25
 have bu:=A_ ca
 have cq:=A_ ce
 clear ca ce
 have bf:=A_ cb
 have cu:=A_ cg
 clear cb cg
 have l9:=A_ k0
 have rf:=A_ k5
 clear k0 k5
 have HB:=A_ (Below.refl w.heap.size w)
 have H:=h
 unfold Ge.f at H
 clear h
 obtain⟨dg7,A3,H⟩:=bind_ H
 by_cases c4:dg7=true
 case neg=>
  replace c4:=Bool.eq_false_iff.mpr c4
  subst c4
  replace H:=ifn_ H
  simp only[Option.some.injEq,Prod.mk.injEq] at H
  obtain⟨rfl,rfl,rfl,rfl⟩:=H
  go_enter Try.func54,Try.ntmps54
  go_wp2_with (first|((with_reducible refine gd_ 2 ?_);(try(refine gate_guard (by rfl) ?_;dsimp only));refine bx_ (N:=2) #[.slice ae ab.length ac, .slice ag aa.length af, .slice ci ai.length bv] 28 ?_;intro gs hg jv9 hbox hb;have d3:=A_ (hbox);have ha4:=A_ ((g14_:w.heap.size<=gs));have cl9:=ha4;replace HB:=hs_ (jo) hb;clear hb hbox hg)|((with_reducible refine gd_ 3 ?_);(try(refine gate_guard (by rfl) ?_;dsimp only));refine bx_ (N:=3) #[.int .i64 aq, .int .i64 ak, .int .i64 am, .int .i64 ap] 69 ?_;intro g4 hg jw0 hbox hb;have fq:=A_ (hbox);have ha5:=A_ ((g14_:w.heap.size<=g4));have dg8:=ha5;replace HB:=hs_ (jo) hb;have aw2:=A_ ((g37_:gs≠g4));have aw3:=A_ ((g38_:g4≠gs));replace d3:=bb_ d3 hb;clear hb hbox hg)|((with_reducible refine gd_ 4 ?_);(try(refine gate_guard (by rfl) ?_;dsimp only));refine bx_ (N:=4) #[.slice none 0 0, .slice none 0 0, .slice none 0 0] 28 ?_;intro cy hg mj2 hbox hb;have en:=A_ (hbox);have ha6:=A_ ((g14_:w.heap.size<=cy));have ca0:=ha6;replace HB:=hs_ (jo) hb;have bd5:=A_ ((g37_:gs≠cy));have bd6:=A_ ((g38_:cy≠gs));replace d3:=bb_ d3 hb;have bn6:=A_ ((g64_:g4≠cy));have bn7:=A_ ((g65_:cy≠g4));replace fq:=bb_ fq hb;clear hb hbox hg;have hf1:=aw2.out;have hf2:=aw3.out;have jw1:=bd5.out;have jw2:=bd6.out;obtain⟨jw3,jw4,jw5,jw6,jw7,jw8⟩:=blk3_ d3)|((with_reducible refine gc_ 28 ?_);refine gl_ 11 Try.func28 #[.agg #[.slice ae ab.length ac, .slice ag aa.length af, .slice ci ai.length bv]] ?_;(refine(Fz.calls k _ _ ab _ _ aa _ _ ai false _ (uf1_ bu) cq.out (uf1_ bf) cu.out (uf1_ l9) rf.out A3.out).mono ?_);rintro e fh9 ⟨rfl,hb⟩;refine⟨_,rfl,?_⟩;replace d3:=bb_ d3 hb;replace fq:=bb_ fq hb;replace en:=bb_ en hb;replace HB:=hs_ (jo) hb;have hf3:=bn7.out;have hf5:=bn6.out;obtain⟨hf6,hf7,hf8,hf9,hg0,hg3⟩:=blk3_ en))
  refine bodyPost_ret (Jn rfl _ _ cy 28 #[.slice none 0 0, .slice none 0 0, .slice none 0 0] (0,0) _ rfl (ba_ en) Try.underlying28 rfl (g1_)) rfl ?_
  exact⟨_,_,_,g4_,g18_,g24_,Kd.Q_of_R (g18_),jo⟩
 subst c4
 replace H:=ifp_ H
 replace H:=Option.bind_eq_some_iff.mp H
 obtain⟨⟨fo,gh,dm⟩,A50,H⟩:=H
 try dsimp only at H
 have A5:=A_ A50
 clear A50
 have HC6:=A_ H
 clear H
 go_enter Try.func54,Try.ntmps54
 go_upto_region 4 with(first|((with_reducible refine gd_ 2 ?_);(try(refine gate_guard (by rfl) ?_;dsimp only));refine bx_ (N:=2) #[.slice ae ab.length ac, .slice ag aa.length af, .slice ci ai.length bv] 28 ?_;intro gs hg w7 hbox hb;have d3:=A_ (hbox);have ha4:=A_ ((g14_:w.heap.size<=gs));have cl9:=ha4;replace HB:=hs_ (jo) hb;clear hb hbox hg)|((with_reducible refine gd_ 3 ?_);(try(refine gate_guard (by rfl) ?_;dsimp only));refine bx_ (N:=3) #[.int .i64 aq, .int .i64 ak, .int .i64 am, .int .i64 ap] 69 ?_;intro g4 hg w8 hbox hb;have fq:=A_ (hbox);have ha5:=A_ ((g14_:w.heap.size<=g4));have dg8:=ha5;replace HB:=hs_ (jo) hb;have aw2:=A_ ((g37_:gs≠g4));have aw3:=A_ ((g38_:g4≠gs));replace d3:=bb_ d3 hb;clear hb hbox hg)|((with_reducible refine gd_ 4 ?_);(try(refine gate_guard (by rfl) ?_;dsimp only));refine bx_ (N:=4) #[.slice none 0 0, .slice none 0 0, .slice none 0 0] 28 ?_;intro cy hg w9 hbox hb;have en:=A_ (hbox);have ha6:=A_ ((g14_:w.heap.size<=cy));have ca0:=ha6;replace HB:=hs_ (jo) hb;have bd5:=A_ ((g37_:gs≠cy));have bd6:=A_ ((g38_:cy≠gs));replace d3:=bb_ d3 hb;have bn6:=A_ ((g64_:g4≠cy));have bn7:=A_ ((g65_:cy≠g4));replace fq:=bb_ fq hb;clear hb hbox hg;have bn8:=aw2.out;have bn9:=aw3.out;have ah3:=bd5.out;have ah4:=bd6.out;obtain⟨xg,xh,bd7,zv,xi,bd8⟩:=blk3_ d3)|((with_reducible refine gc_ 28 ?_);refine gl_ 11 Try.func28 #[.agg #[.slice ae ab.length ac, .slice ag aa.length af, .slice ci ai.length bv]] ?_;(refine(Fz.calls k _ _ ab _ _ aa _ _ ai true _ (uf1_ bu) cq.out (uf1_ bf) cu.out (uf1_ l9) rf.out A3.out).mono ?_);rintro e w13 ⟨rfl,hb⟩;refine⟨_,rfl,?_⟩;replace d3:=bb_ d3 hb;replace fq:=bb_ fq hb;replace en:=bb_ en hb;replace HB:=hs_ (jo) hb;obtain⟨sf,sg,ch5,sh,si,ch6⟩:=blk3_ d3)|((with_reducible refine gc_ 100 ?_);refine gl_ 15 Try.func100 #[.agg #[.slice ae ab.length ac, .slice ag aa.length af, .slice ci ai.length bv]] ?_;(refine(Fn.calls k _ _ ab _ _ aa _ _ ai fo gh dm _ (uf1_ bu) cq.out (uf1_ bf) cu.out (uf1_ l9) rf.out A5.out).mono ?_);rintro e w15 ⟨jq7,jq8,jq9,rfl,aj,ar,ef,hb⟩;refine⟨_,rfl,?_⟩;have aq3:=A_ (Kd.R_lower aj (G0 (jo)));have aq4:=A_ (Kd.S_lower ar (G0 (jo)));have af0:=A_ (Kd.R_lower ef (G0 (jo)));replace d3:=bb_ d3 hb;replace fq:=bb_ fq hb;replace en:=bb_ en hb;replace HB:=hs_ (jo) hb)|((with_reducible refine gd_ 6 ?_);(try(refine gate_guard (by rfl) ?_;dsimp only));refine bx_ (N:=6) #[.slice none 0 0, .slice none 0 0, .slice none 0 0] 28 ?_;intro bj hg jp hbox hb;replace aq3:=rb_ aq3 hb;replace aq4:=sb_ aq4 hb;replace af0:=rb_ af0 hb;have fm:=A_ (hbox);have jr0:=A_ ((g14_:w.heap.size<=bj));have bn5:=jr0;replace HB:=hs_ (jo) hb;have xj:=A_ ((g37_:gs≠bj));have bo0:=A_ ((g38_:bj≠gs));replace d3:=bb_ d3 hb;have vz:=A_ ((g64_:g4≠bj));have bd9:=A_ ((g65_:bj≠g4));replace fq:=bb_ fq hb;have rp:=A_ ((g99_:cy≠bj));have ca1:=A_ ((g100_:bj≠cy));replace en:=bb_ en hb;clear hb hbox hg;obtain⟨fd,ey,vn⟩:=Kd.R_slice aq3.out;subst vn;have em7:=bo0.out;have em8:=xj.out;have ch8:=bd9.out;have ch9:=vz.out;have bv3:=ca1.out;have bv4:=rp.out;obtain⟨vh,vi,bj7,wu,vj,bj8⟩:=blk3_ fm;obtain⟨bh,bc,aq5⟩:=Kd.S_slice aq4.out;subst aq5;obtain⟨dj,bw,by5⟩:=Kd.R_slice af0.out;subst by5))
 (try simp only[Act.put,List.setIfInBounds_toArray,List.set_cons_zero,List.set_cons_succ])
 go_cut [24] (fun v24 wc=>∃(kq:Nat) (eb7:Bool),v24 = .bool eb7/\Gy (Ge.j0 kq eb7 ab aa ai aq ak am ap fo gh dm=some (r1,r2,r3,r4))/\Gy (kq<=k)/\Gy (Kd.R (Kd.int .i64) 3 wc w.heap.size (fun _=>True) (.slice fd fo.length ey) fo)/\Gy (Kd.S (Kd.slice 3 (Kd.int .i64)) 22 wc w.heap.size (fun k_=>some k_≠((.slice fd fo.length ey):Value).ownBlock) (.slice bh gh.length bc) gh)/\Gy (Kd.Q k25 25 wc w.heap.size (fun k_=>some k_≠((.slice fd fo.length ey):Value).ownBlock/\some k_≠((.slice bh gh.length bc):Value).ownBlock) (.slice dj dm.length bw) dm)/\Gy (hc_ wc gs #[(.slice ae ab.length ac),(.slice ag aa.length af),(.slice ci ai.length bv)] 28)/\Gy (hc_ wc g4 #[.int .i64 aq, .int .i64 ak, .int .i64 am, .int .i64 ap] 69)/\Gy (hc_ wc cy #[(.slice none 0 0),(.slice none 0 0),(.slice none 0 0)] 28)/\Gy (hc_ wc bj #[(.slice fd fo.length ey),(.slice bh gh.length bc),(.slice dj dm.length bw)] 28)/\Gy (Below w.heap.size w wc))
 case first=>
  have H:=HC6.out
  clear HC6
  by_cases i2:(aq == 4 && (ak == 0 && (am == 0 && (ap == 0))))=true
  ·rw[if_pos i2] at H
   have vl:(aq == 4 && (ak == 0 && (am == 0 && (ap == 0))))=true:=i2
   (try(have ha7:decide (aq=4 && (ak == 0 && (am == 0 && (ap == 0))))=true:=by simpa using i2))
   (try(have ha8:(aq == 4 && (ak == 0 && (am == 0 && (ap == 0))))=true:=by simpa using i2))
   clear i2
   (first|rw[vl]|(simp only[i64_w,i32_w];rw[vl])|skip)
   have H':=A_ H
   clear H
   have ff8:=aw3.out
   have ff9:=aw2.out
   have fe8:=bn6.out
   have fe9:=bn7.out
   have jr1:=vz.out
   have jr2:=bd9.out
   obtain⟨gf6,gf7,jr3,jr4,gf8,gf9,jr5,jr6⟩:=blk4_ fq
   have br5:=bd5.out
   have br6:=bd6.out
   have ds4:=xj.out
   have ds5:=bo0.out
   obtain⟨bs1,bs2,cu3,bs3,bs4,cu4⟩:=blk3_ d3
   go_wp2
   go_meet
   case rel=>exact⟨_,(decide ((ai.length:Int) > 0)),(g2_),H',⟨g9_⟩,⟨ra_ aq3⟩,⟨sa_ aq4⟩,⟨Kd.Q_of_R (ra_ af0)⟩,⟨ba_ d3⟩,⟨ba_ fq⟩,⟨ba_ en⟩,⟨ba_ fm⟩,⟨jo⟩⟩
  rw[if_neg i2] at H
  have vl:(aq == 4 && (ak == 0 && (am == 0 && (ap == 0))))=false:=by simpa using i2
  (try(have ha7:decide (aq=4 && (ak == 0 && (am == 0 && (ap == 0))))=false:=by simpa using i2))
  (try(have ha8:(aq == 4 && (ak == 0 && (am == 0 && (ap == 0))))=false:=by simpa using i2))
  (try(have me5:¬ (aq=4 && (ak == 0 && (am == 0 && (ap == 0)))):=by simpa using i2))
  clear i2
  (first|rw[vl]|(simp only[i64_w,i32_w];rw[vl])|skip)
  have H':=A_ H
  clear H
  have de7:=aw3.out
  have de8:=aw2.out
  have bk0:=bn6.out
  have bk1:=bn7.out
  have dg5:=vz.out
  have dg6:=bd9.out
  obtain⟨ba8,ba9,bn0,ea1,bb0,bb1,bn1,ea2⟩:=blk4_ fq
  go_wp2
  go_meet
  case rel=>exact⟨_,(false),(g2_),H',⟨g9_⟩,⟨ra_ aq3⟩,⟨sa_ aq4⟩,⟨Kd.Q_of_R (ra_ af0)⟩,⟨ba_ d3⟩,⟨ba_ fq⟩,⟨ba_ en⟩,⟨ba_ fm⟩,⟨jo⟩⟩
 clear HC6
 obtain⟨kq,eb7,rfl,HA,HJ5,lz,o1,jk,d3,fq,en,fm,HB⟩:=hcut
 cases kq with
 | zero=>exact absurd HA.out (by simp[Ge.j0])
 | succ kj5=>?_
 have H:=HA.out
 clear HA
 simp only[Ge.j0] at H
 by_cases k9:eb7=true
 ·subst k9
  replace H:=ifp_ H
  exact absurd H (by simp)
 replace k9:=Bool.eq_false_iff.mpr k9
 subst k9
 replace H:=ifn_ H
 replace H:=Option.bind_eq_some_iff.mp H
 obtain⟨⟨e9,di,nc⟩,ha9,H⟩:=H
 try dsimp only at H
 have A37:=A_ ha9
 clear ha9
 by_cases c38:nc=true
 case neg=>
  replace c38:=Bool.eq_false_iff.mpr c38
  subst c38
  replace H:=ifn_ H
  simp only[Option.some.injEq,Prod.mk.injEq] at H
  obtain⟨rfl,rfl,rfl,rfl⟩:=H
  have fl0:=aw2.out
  have fl1:=aw3.out
  have ju5:=bd5.out
  have ju6:=bd6.out
  have ju7:=xj.out
  have ju8:=bo0.out
  obtain⟨he1,he2,he3,he4,he5,he6⟩:=blk3_ d3
  have he7:=bn6.out
  have he8:=bn7.out
  have ju9:=vz.out
  have jv0:=bd9.out
  obtain⟨mi0,mi1,mi2,mi3,mi4,mi5,mi6,mi7⟩:=blk4_ fq
  go_wp2_with (first|((with_reducible refine gc_ 101 ?_);refine gl_ 45 Try.func101 #[.agg #[.slice ae ab.length ac, .slice ag aa.length af], .agg #[.int .i64 aq, .int .i64 ak, .int .i64 am, .int .i64 ap]] ?_;(refine(Fs.calls kj5 _ _ ab _ _ aa aq ak am ap e9 di false _ (uf1_ bu) cq.out (uf1_ bf) cu.out A37.out).mono ?_);rintro e he9 ⟨hc6,fh7,rfl,aj,ar,hb⟩;refine⟨_,rfl,?_⟩;replace jk:=A_ (Kd.Q_mono (Kd.Q_told (Kd.Q_told (Kd.Q_old (uf6_ jk) hb) (Kd.R_base aj)) (Kd.S_base ar)) (fun _ h_=>h_.1));have ol:=A_ (Kd.R_lower (Kd.R_new' aj (Kd.R_lt (uf2_ lz))) (G0 (jo)));have jh:=A_ (Kd.S_lower (Kd.S_new' (Kd.S_new' ar (Kd.R_lt (uf2_ lz))) (Kd.S_lt (uf3_ o1))) (G0 (jo)));replace lz:=A_ (Kd.R_elder' (uf2_ lz) (Kd.R_base aj) hb);replace o1:=A_ (Kd.S_mono (Kd.S_told (Kd.S_told (Kd.S_old (uf3_ o1) hb) (Kd.R_base aj)) (Kd.S_base ar)) (fun _ h_=>h_.1));replace d3:=bb_ d3 hb;replace fq:=bb_ fq hb;replace en:=bb_ en hb;replace fm:=bb_ fm hb;replace HB:=hs_ (jo) hb)|((with_reducible refine gd_ 8 ?_);(try(refine gate_guard (by rfl) ?_;dsimp only));refine bx_ (N:=8) #[.slice none 0 0, .slice none 0 0] 25 ?_;intro dx hg jv1 hbox hb;replace lz:=rb_ lz hb;replace o1:=sb_ o1 hb;replace jk:=A_ (Kd.Q_below (Kd.Q_elderB (uf6_ jk) dx (Nat.le_of_eq hg.symm)) hb);replace ol:=rb_ ol hb;replace jh:=sb_ jh hb;have ky:=A_ (hbox);have hc7:=A_ ((g14_:w.heap.size<=dx));have fi7:=hc7;replace HB:=hs_ (jo) hb;have be0:=A_ ((g37_:gs≠dx));have dg9:=A_ ((g38_:dx≠gs));replace d3:=bb_ d3 hb;have be1:=A_ ((g64_:g4≠dx));have dh0:=A_ ((g65_:dx≠g4));replace fq:=bb_ fq hb;have aq6:=A_ ((g99_:cy≠dx));have dh1:=A_ ((g100_:dx≠cy));replace en:=bb_ en hb;have be2:=A_ ((g142_:bj≠dx));have cm0:=A_ ((g143_:dx≠bj));replace fm:=bb_ fm hb;clear hb hbox hg;obtain⟨be3,be4,fl2⟩:=Kd.R_slice ol.out;subst fl2;have jv2:=dg9.out;have jv3:=be0.out;have fh3:=dh0.out;have fh4:=be1.out;have fh5:=dh1.out;have fh6:=aq6.out;have gy4:=cm0.out;have gy5:=be2.out;obtain⟨gy6,gy7,gy8,gy9⟩:=blk2_ ky;obtain⟨fl3,fl4,jv4⟩:=Kd.S_slice jh.out;subst jv4;have gz2:=ca1.out;have gz3:=rp.out;obtain⟨jl6,jl7,mi8,jl8,jl9,mi9⟩:=blk3_ fm;obtain⟨jv5,jv6,mj0,jv7,jv8,mj1⟩:=blk3_ en))
  refine bodyPost_ret (Jn rfl _ _ cy 28 #[.slice fd fo.length ey, .slice bh gh.length bc, .slice dj dm.length bw] (0,0) _ rfl (ba_ en) Try.underlying28 rfl (g1_)) rfl ?_
  exact⟨_,_,_,g4_,ra_ lz,sa_ o1,qa_ jk,jo⟩
 subst c38
 replace H:=ifp_ H
 obtain⟨tn,H⟩:=pos_ H
 have hb7:=A_ tn
 clear tn
 obtain⟨lk,hyq⟩:∃y_:List (S25),y_=(dm ++ [(⟨fo,gh⟩:S25)]):=⟨_,rfl⟩
 replace H:(if (lk.length:Int) > 8 then(if 1<=(lk.length:Int) then(some (e9,di,(lk.drop (1:Int).toNat),true)) else(none)) else(some (e9,di,lk,true)))=some (r1,r2,r3,r4):=qh_
 have hb8:=A_ hyq
 clear hyq
 by_cases vu:(lk.length:Int) > 8
 ·rw[if_pos vu] at H
  have go0:=decide_eq_true vu
  have jr7:decide (8 < lk.length)=true:=decide_eq_true (by omega)
  clear vu
  obtain⟨lw,H⟩:=pos_ H
  have bl3:=eq_true lw
  have cj4:=decide_eq_true lw
  clear lw
  obtain⟨aj6,hyq⟩:∃y_:List (S25),y_=(lk.drop (1:Int).toNat):=⟨_,rfl⟩
  replace H:(some (e9,di,aj6,true))=some (r1,r2,r3,r4):=qh_
  have hb9:=A_ hyq
  clear hyq
  simp only[Option.some.injEq,Prod.mk.injEq] at H
  obtain⟨rfl,rfl,rfl,rfl⟩:=H
  have jr8:=aw2.out
  have jr9:=aw3.out
  have me6:=bd5.out
  have me7:=bd6.out
  have gs6:=xj.out
  have gs7:=bo0.out
  obtain⟨me8,me9,mf0,mf1,mf2,mf3⟩:=blk3_ d3
  have dv3:=bn6.out
  have dv4:=bn7.out
  have dz2:=vz.out
  have dz3:=bd9.out
  obtain⟨df1,df2,hc4,mf4,df3,df4,hc5,mf5⟩:=blk4_ fq
  go_wp2_with (first|((with_reducible refine gc_ 101 ?_);refine gl_ 45 Try.func101 #[.agg #[.slice ae ab.length ac, .slice ag aa.length af], .agg #[.int .i64 aq, .int .i64 ak, .int .i64 am, .int .i64 ap]] ?_;(refine(Fs.calls kj5 _ _ ab _ _ aa aq ak am ap e9 di true _ (uf1_ bu) cq.out (uf1_ bf) cu.out A37.out).mono ?_);rintro e w49 ⟨hc6,fh7,rfl,aj,ar,hb⟩;refine⟨_,rfl,?_⟩;replace jk:=A_ (Kd.Q_mono (Kd.Q_told (Kd.Q_told (Kd.Q_old (uf6_ jk) hb) (Kd.R_base aj)) (Kd.S_base ar)) (fun _ h_=>h_.1));have ol:=A_ (Kd.R_lower (Kd.R_new' aj (Kd.R_lt (uf2_ lz))) (G0 (jo)));have jh:=A_ (Kd.S_lower (Kd.S_new' (Kd.S_new' ar (Kd.R_lt (uf2_ lz))) (Kd.S_lt (uf3_ o1))) (G0 (jo)));replace lz:=A_ (Kd.R_elder' (uf2_ lz) (Kd.R_base aj) hb);replace o1:=A_ (Kd.S_mono (Kd.S_told (Kd.S_told (Kd.S_old (uf3_ o1) hb) (Kd.R_base aj)) (Kd.S_base ar)) (fun _ h_=>h_.1));replace d3:=bb_ d3 hb;replace fq:=bb_ fq hb;replace en:=bb_ en hb;replace fm:=bb_ fm hb;replace HB:=hs_ (jo) hb)|((with_reducible refine gd_ 8 ?_);(try(refine gate_guard (by rfl) ?_;dsimp only));refine bx_ (N:=8) #[.slice none 0 0, .slice none 0 0] 25 ?_;intro dx hg w50 hbox hb;replace lz:=rb_ lz hb;replace o1:=sb_ o1 hb;replace jk:=A_ (Kd.Q_below (Kd.Q_elderB (uf6_ jk) dx (Nat.le_of_eq hg.symm)) hb);replace ol:=rb_ ol hb;replace jh:=sb_ jh hb;have ky:=A_ (hbox);have hc7:=A_ ((g14_:w.heap.size<=dx));have fi7:=hc7;replace HB:=hs_ (jo) hb;have be0:=A_ ((g37_:gs≠dx));have dg9:=A_ ((g38_:dx≠gs));replace d3:=bb_ d3 hb;have be1:=A_ ((g64_:g4≠dx));have dh0:=A_ ((g65_:dx≠g4));replace fq:=bb_ fq hb;have aq6:=A_ ((g99_:cy≠dx));have dh1:=A_ ((g100_:dx≠cy));replace en:=bb_ en hb;have be2:=A_ ((g142_:bj≠dx));have cm0:=A_ ((g143_:dx≠bj));replace fm:=bb_ fm hb;clear hb hbox hg;obtain⟨i4,i5,ca2⟩:=Kd.R_slice ol.out;subst ca2;have js0:=dg9.out;have js1:=be0.out;have mf6:=dh0.out;have mf7:=be1.out;have mf8:=dh1.out;have mf9:=aq6.out;have iw3:=cm0.out;have iw4:=be2.out;obtain⟨ex3,ex4,ex5,ex6⟩:=blk2_ ky;obtain⟨ns,nt,js2⟩:=Kd.S_slice jh.out;subst js2)|((with_reducible refine gate_store (t:=25) (p:=8) rfl ?_);refine store_event (t:=25) (p:=8) (v:=?vo_w58) (w1:=((w50.setCell ⟨dx,0,none⟩ (.slice i4 e9.length i5)).setCell ⟨dx,1,none⟩ (.slice ns di.length nt))) ?hg ?ho ?hn ?hr ?_;(case ho=>rfl);(case hg=>rfl);(case hn=>rfl);(case hr=>first|(go_simp;done)|(go_simp;rfl)|(obtain⟨_,_,e0_⟩:=Kd.R_slice lz.out;rw[e0_];first|(go_simp;done)|(go_simp;rfl)));intro w58 hw;replace lz:Gy (Kd.R (Kd.int .i64) 3 w58 w.heap.size (fun k_=>some k_≠(.slice i4 e9.length i5:Value).ownBlock) (.slice fd fo.length ey) fo):=⟨(by rw[hw];exact(ra_ lz))⟩;replace o1:Gy (Kd.S (Kd.slice 3 (Kd.int .i64)) 22 w58 w.heap.size (fun k_=>some k_≠(.slice fd fo.length ey:Value).ownBlock/\some k_≠(.slice i4 e9.length i5:Value).ownBlock/\some k_≠(.slice ns di.length nt:Value).ownBlock) (.slice bh gh.length bc) gh):=⟨(by rw[hw];exact(sa_ o1))⟩;replace jk:Gy (Kd.Q k25 25 w58 w.heap.size (fun k_=>some k_≠(.slice fd fo.length ey:Value).ownBlock/\some k_≠(.slice bh gh.length bc:Value).ownBlock/\some k_≠(.slice i4 e9.length i5:Value).ownBlock/\some k_≠(.slice ns di.length nt:Value).ownBlock/\k_≠dx) (.slice dj dm.length bw) dm):=⟨(by rw[hw];exact(qa_ jk))⟩;replace ol:Gy (Kd.R (Kd.int .i64) 3 w58 w.heap.size (fun k_=>some k_≠(.slice fd fo.length ey:Value).ownBlock) (.slice i4 e9.length i5) e9):=⟨(by rw[hw];exact(ra_ ol))⟩;replace jh:Gy (Kd.S (Kd.slice 3 (Kd.int .i64)) 22 w58 w.heap.size (fun k_=>some k_≠(.slice fd fo.length ey:Value).ownBlock/\some k_≠(.slice bh gh.length bc:Value).ownBlock/\some k_≠(.slice i4 e9.length i5:Value).ownBlock) (.slice ns di.length nt) di):=⟨(by rw[hw];exact(sa_ jh))⟩;replace d3:Gy (hc_ w58 gs #[.slice ae ab.length ac, .slice ag aa.length af, .slice ci ai.length bv] 28):=⟨(by rw[hw];exact(ba_ d3))⟩;replace fq:Gy (hc_ w58 g4 #[.int .i64 aq, .int .i64 ak, .int .i64 am, .int .i64 ap] 69):=⟨(by rw[hw];exact(ba_ fq))⟩;replace en:Gy (hc_ w58 cy #[.slice none 0 0, .slice none 0 0, .slice none 0 0] 28):=⟨(by rw[hw];exact(ba_ en))⟩;replace fm:Gy (hc_ w58 bj #[.slice fd fo.length ey, .slice bh gh.length bc, .slice dj dm.length bw] 28):=⟨(by rw[hw];exact(ba_ fm))⟩;replace ky:Gy (hc_ w58 dx #[.slice i4 e9.length i5, .slice ns di.length nt] 25):=⟨(by rw[hw];exact(ba_ ky))⟩;replace HB:Gy (Below w.heap.size w w58):=⟨(by rw[hw];exact(jo))⟩;clear hw;have fi8:=ca1.out;have fi9:=rp.out;obtain⟨go4,go5,js3,go6,go8,js4⟩:=blk3_ fm)|((with_reducible refine gate_builtin (b:=.append) (xs:=#[.tmp 52, .tmp 55]) rfl ?_);(try(refine gate_guard (by rfl) ?_;dsimp only));at_builtin;refine Kd.Q_append k25 (w0:=w) w.heap.size rfl (.tmp 52) (.tmp 55) 26 25 (.agg #[(.slice none 0 0),(.slice none 0 0)]) 48 rfl Try.underlying26 info25 rfl (by decide) (by omega) (.slice dj dm.length bw) dm (⟨fo,gh⟩:S25) [.slice fd fo.length ey, .slice bh gh.length bc] (fun k_=>some k_≠(.slice i4 e9.length i5:Value).ownBlock/\some k_≠(.slice ns di.length nt:Value).ownBlock/\k_≠dx) (fun k_=>((fun k_=>some k_≠(.slice i4 e9.length i5:Value).ownBlock/\some k_≠(.slice ns di.length nt:Value).ownBlock/\k_≠dx)) k_/\some k_≠(.slice dj dm.length bw:Value).ownBlock) rfl rfl ?aP (fun _ hk=>hk) ?aF ?aO ?aB ?aS ?aL ?_;(case aP=>exact k25_mkM _ _ _ (⟨fo,gh⟩:S25) (Kd.R_mono (Kd.R_types (Kd.R_apart' (Kd.R_apart' (lz.out) (Kd.S_typed jh.out) (by decide)) (Kd.Q_typed jk.out) (by decide)) ky.out (by decide)) (fun k_ hk=>⟨⟨hk.1.1.1,⟨hk.1.1.2,hk.2⟩⟩,hk.1.2⟩)) (Kd.R_mono (Kd.R_types (Kd.R_apart' ((Kd.S_R o1.out)) (Kd.Q_typed jk.out) (by decide)) ky.out (by decide)) (fun k_ hk=>⟨⟨hk.1.1.2.1,⟨hk.1.1.2.2,hk.2⟩⟩,hk.1.2⟩)));(case aB=>exact(jo));(case aF=>exact(fun k_ hk=>⟨Kd.fresh' (Kd.R_lt (uf2_ ol)) k_ hk,Kd.fresh' (Kd.S_lt (uf3_ jh)) k_ hk,Kd.freshB (g:=dx) (o:=.cells #[.slice i4 e9.length i5, .slice ns di.length nt] 25 (0,0)) (uf0_ ky) k_ hk⟩));(case aO=>exact(by(with_reducible repeat(first|apply Kd.Q_alloc|apply Kd.Q_drewN|apply Kd.Q_drew));exact Kd.Q_mono jk.out (fun _ hk=>⟨hk.2.2.1,⟨hk.2.2.2.1,hk.2.2.2.2⟩⟩)));(case aS=>exact(G0 (jo)));(case aL=>have:=hb7.out;omega);intro js5 w61 ho hb hg hat;rw[<- hb8.out] at ho;replace d3:=(bg_ d3 hg (Kd.Q_ne jk.out d3.out (by decide)));replace fq:=(bg_ fq hg (Kd.Q_ne jk.out fq.out (by decide)));replace en:=(bg_ en hg (Kd.Q_ne jk.out en.out (by decide)));replace fm:=(bg_ fm hg (Kd.Q_ne jk.out fm.out (by decide)));replace ol:=A_ (Kd.R_over' (uf2_ ol) (Kd.Q_typed (uf6_ jk)) (by decide) hg);replace jh:=A_ (Kd.S_over' (uf3_ jh) (Kd.Q_typed (uf6_ jk)) (by decide) hg);replace ky:=(bg_ ky hg (Kd.Q_away jk.out (fun _ hk=>hk.2.2.2.2)));replace HB:=A_ (hb);have bo1:=A_ (ho);clear jk lz o1;clear ho hb hg hat;obtain⟨we,xk,fj0,_⟩:=Kd.Q_slice bo1.out;subst fj0;obtain⟨fj1,fj2,js6,fj3,fj4,js7⟩:=blk3_ fm)|((with_reducible refine gate_store (t:=26) (p:=57) rfl ?_);refine store_event (t:=26) (p:=57) (v:=?vo_w64) (w1:=(w61.setCell ⟨bj,2,none⟩ (.slice we lk.length xk))) ?hg ?ho ?hn ?hr ?_;(case ho=>rfl);(case hg=>rfl);(case hn=>rfl);(case hr=>first|(go_simp;done)|(go_simp;rfl)|(obtain⟨_,_,e0_⟩:=Kd.R_slice lz.out;rw[e0_];first|(go_simp;done)|(go_simp;rfl)));intro w64 hw;replace ol:Gy (Kd.R (Kd.int .i64) 3 w64 w.heap.size (fun _=>True) (.slice i4 e9.length i5) e9):=⟨(by rw[hw];exact(ra_ ol))⟩;replace jh:Gy (Kd.S (Kd.slice 3 (Kd.int .i64)) 22 w64 w.heap.size (fun k_=>some k_≠(.slice i4 e9.length i5:Value).ownBlock) (.slice ns di.length nt) di):=⟨(by rw[hw];exact(sa_ jh))⟩;replace bo1:Gy (Kd.Q k25 25 w64 w.heap.size (fun k_=>some k_≠(.slice i4 e9.length i5:Value).ownBlock/\some k_≠(.slice ns di.length nt:Value).ownBlock/\k_≠dx) (.slice we lk.length xk) lk):=⟨(by rw[hw];exact(qa_ bo1))⟩;replace d3:Gy (hc_ w64 gs #[.slice ae ab.length ac, .slice ag aa.length af, .slice ci ai.length bv] 28):=⟨(by rw[hw];exact(ba_ d3))⟩;replace fq:Gy (hc_ w64 g4 #[.int .i64 aq, .int .i64 ak, .int .i64 am, .int .i64 ap] 69):=⟨(by rw[hw];exact(ba_ fq))⟩;replace en:Gy (hc_ w64 cy #[.slice none 0 0, .slice none 0 0, .slice none 0 0] 28):=⟨(by rw[hw];exact(ba_ en))⟩;replace fm:Gy (hc_ w64 bj #[.slice fd fo.length ey, .slice bh gh.length bc, .slice we lk.length xk] 28):=⟨(by rw[hw];exact(ba_ fm))⟩;replace ky:Gy (hc_ w64 dx #[.slice i4 e9.length i5, .slice ns di.length nt] 25):=⟨(by rw[hw];exact(ba_ ky))⟩;replace HB:Gy (Below w.heap.size w w64):=⟨(by rw[hw];exact(jo))⟩;clear hw;obtain⟨hc8,hc9,mg0,hd2,hd3,mg1⟩:=blk3_ fm;have q66:(1:Int)<=((lk.length:Int):Int):=od_;obtain⟨i066,hd4,_,hsz66,_⟩:=info_parts info25;have hcut66:=cut_from (P:=Try.prog) 26 25 .i64 Try.underlying26 hd4 2 hsz66 we lk.length xk 1 (by omega) q66;have dh2:=Kd.Q_drop (k:=(1:Int).toNat) bo1.out (by omega);obtain⟨A66,hA66⟩:∃A1,A1=(if xk=(1:Int).toNat then we else(we:Option Addr).map (·.add ((1:Int).toNat * 2))):=⟨_,rfl⟩;obtain⟨c66,fj5⟩:∃c1,c1=xk - (1:Int).toNat:=⟨_,rfl⟩;have hy66:aj6.length=lk.length - (1:Int).toNat:=(by rw[hb9.out,List.length_drop]);rw[<- hb9.out] at dh2;rw[<- hy66, <- hA66, <- fj5] at hcut66;replace dh2:Kd.Q k25 25 w64 w.heap.size (fun k_=>some k_≠(.slice i4 e9.length i5:Value).ownBlock/\some k_≠(.slice ns di.length nt:Value).ownBlock/\k_≠dx) (.slice A66 aj6.length c66) aj6:=(by rw[hA66,fj5,hy66];exact dh2);have HE66:Gy ((Value.slice A66 aj6.length c66).ownBlock=(.slice we lk.length xk:Value).ownBlock):=⟨by rw[hA66];split <;> (cases(we:Option Addr) <;> rfl)⟩;clear hy66 hd4 hsz66 bo1 hA66 fj5;have js8:=A_ dh2;clear dh2;replace q66:=eq_true q66;obtain⟨mg2,mg3,mg4,mg5⟩:=blk2_ ky;obtain⟨ea6,ea7,ea8,ea9,eb0,eb1⟩:=blk3_ en))
  refine bodyPost_ret (Jn rfl _ _ cy 28 #[.slice i4 e9.length i5, .slice ns di.length nt, .slice A66 aj6.length c66] (0,0) _ rfl (ba_ en) Try.underlying28 rfl (g1_)) rfl ?_
  exact⟨_,_,_,g4_,ra_ ol,sa_ jh,qa_ js8,jo⟩
 rw[if_neg vu] at H
 have go0:=decide_eq_false vu
 have jr7:decide (8 < lk.length)=false:=decide_eq_false (by omega)
 clear vu
 simp only[Option.some.injEq,Prod.mk.injEq] at H
 obtain⟨rfl,rfl,rfl,rfl⟩:=H
 have fj6:=aw2.out
 have fj7:=aw3.out
 have fg6:=bd5.out
 have fg7:=bd6.out
 have fg8:=xj.out
 have fg9:=bo0.out
 obtain⟨fj8,fj9,js9,fk0,fk1,jt0⟩:=blk3_ d3
 have jt1:=bn6.out
 have jt2:=bn7.out
 have eb2:=vz.out
 have eb3:=bd9.out
 obtain⟨fk2,fk3,fk4,fk5,fk6,fk7,fk8,fk9⟩:=blk4_ fq
 go_wp2_with (first|((with_reducible refine gc_ 101 ?_);refine gl_ 45 Try.func101 #[.agg #[.slice ae ab.length ac, .slice ag aa.length af], .agg #[.int .i64 aq, .int .i64 ak, .int .i64 am, .int .i64 ap]] ?_;(refine(Fs.calls kj5 _ _ ab _ _ aa aq ak am ap e9 di true _ (uf1_ bu) cq.out (uf1_ bf) cu.out A37.out).mono ?_);rintro e w76 ⟨hc6,fh7,rfl,aj,ar,hb⟩;refine⟨_,rfl,?_⟩;replace jk:=A_ (Kd.Q_mono (Kd.Q_told (Kd.Q_told (Kd.Q_old (uf6_ jk) hb) (Kd.R_base aj)) (Kd.S_base ar)) (fun _ h_=>h_.1));have ol:=A_ (Kd.R_lower (Kd.R_new' aj (Kd.R_lt (uf2_ lz))) (G0 (jo)));have jh:=A_ (Kd.S_lower (Kd.S_new' (Kd.S_new' ar (Kd.R_lt (uf2_ lz))) (Kd.S_lt (uf3_ o1))) (G0 (jo)));replace lz:=A_ (Kd.R_elder' (uf2_ lz) (Kd.R_base aj) hb);replace o1:=A_ (Kd.S_mono (Kd.S_told (Kd.S_told (Kd.S_old (uf3_ o1) hb) (Kd.R_base aj)) (Kd.S_base ar)) (fun _ h_=>h_.1));replace d3:=bb_ d3 hb;replace fq:=bb_ fq hb;replace en:=bb_ en hb;replace fm:=bb_ fm hb;replace HB:=hs_ (jo) hb)|((with_reducible refine gd_ 8 ?_);(try(refine gate_guard (by rfl) ?_;dsimp only));refine bx_ (N:=8) #[.slice none 0 0, .slice none 0 0] 25 ?_;intro dx hg w77 hbox hb;replace lz:=rb_ lz hb;replace o1:=sb_ o1 hb;replace jk:=A_ (Kd.Q_below (Kd.Q_elderB (uf6_ jk) dx (Nat.le_of_eq hg.symm)) hb);replace ol:=rb_ ol hb;replace jh:=sb_ jh hb;have ky:=A_ (hbox);have hc7:=A_ ((g14_:w.heap.size<=dx));have fi7:=hc7;replace HB:=hs_ (jo) hb;have be0:=A_ ((g37_:gs≠dx));have dg9:=A_ ((g38_:dx≠gs));replace d3:=bb_ d3 hb;have be1:=A_ ((g64_:g4≠dx));have dh0:=A_ ((g65_:dx≠g4));replace fq:=bb_ fq hb;have aq6:=A_ ((g99_:cy≠dx));have dh1:=A_ ((g100_:dx≠cy));replace en:=bb_ en hb;have be2:=A_ ((g142_:bj≠dx));have cm0:=A_ ((g143_:dx≠bj));replace fm:=bb_ fm hb;clear hb hbox hg;obtain⟨nu,nv,jt3⟩:=Kd.R_slice ol.out;subst jt3;have gw7:=dg9.out;have gw8:=be0.out;have gw9:=dh0.out;have gx0:=be1.out;have hd5:=dh1.out;have hd6:=aq6.out;have fh0:=cm0.out;have fh1:=be2.out;obtain⟨jt4,jt5,jt6,jt7⟩:=blk2_ ky;obtain⟨qc,qd,jt8⟩:=Kd.S_slice jh.out;subst jt8)|((with_reducible refine gate_store (t:=25) (p:=8) rfl ?_);refine store_event (t:=25) (p:=8) (v:=?vo_w85) (w1:=((w77.setCell ⟨dx,0,none⟩ (.slice nu e9.length nv)).setCell ⟨dx,1,none⟩ (.slice qc di.length qd))) ?hg ?ho ?hn ?hr ?_;(case ho=>rfl);(case hg=>rfl);(case hn=>rfl);(case hr=>first|(go_simp;done)|(go_simp;rfl)|(obtain⟨_,_,e0_⟩:=Kd.R_slice lz.out;rw[e0_];first|(go_simp;done)|(go_simp;rfl)));intro w85 hw;replace lz:Gy (Kd.R (Kd.int .i64) 3 w85 w.heap.size (fun k_=>some k_≠(.slice nu e9.length nv:Value).ownBlock) (.slice fd fo.length ey) fo):=⟨(by rw[hw];exact(ra_ lz))⟩;replace o1:Gy (Kd.S (Kd.slice 3 (Kd.int .i64)) 22 w85 w.heap.size (fun k_=>some k_≠(.slice fd fo.length ey:Value).ownBlock/\some k_≠(.slice nu e9.length nv:Value).ownBlock/\some k_≠(.slice qc di.length qd:Value).ownBlock) (.slice bh gh.length bc) gh):=⟨(by rw[hw];exact(sa_ o1))⟩;replace jk:Gy (Kd.Q k25 25 w85 w.heap.size (fun k_=>some k_≠(.slice fd fo.length ey:Value).ownBlock/\some k_≠(.slice bh gh.length bc:Value).ownBlock/\some k_≠(.slice nu e9.length nv:Value).ownBlock/\some k_≠(.slice qc di.length qd:Value).ownBlock/\k_≠dx) (.slice dj dm.length bw) dm):=⟨(by rw[hw];exact(qa_ jk))⟩;replace ol:Gy (Kd.R (Kd.int .i64) 3 w85 w.heap.size (fun k_=>some k_≠(.slice fd fo.length ey:Value).ownBlock) (.slice nu e9.length nv) e9):=⟨(by rw[hw];exact(ra_ ol))⟩;replace jh:Gy (Kd.S (Kd.slice 3 (Kd.int .i64)) 22 w85 w.heap.size (fun k_=>some k_≠(.slice fd fo.length ey:Value).ownBlock/\some k_≠(.slice bh gh.length bc:Value).ownBlock/\some k_≠(.slice nu e9.length nv:Value).ownBlock) (.slice qc di.length qd) di):=⟨(by rw[hw];exact(sa_ jh))⟩;replace d3:Gy (hc_ w85 gs #[.slice ae ab.length ac, .slice ag aa.length af, .slice ci ai.length bv] 28):=⟨(by rw[hw];exact(ba_ d3))⟩;replace fq:Gy (hc_ w85 g4 #[.int .i64 aq, .int .i64 ak, .int .i64 am, .int .i64 ap] 69):=⟨(by rw[hw];exact(ba_ fq))⟩;replace en:Gy (hc_ w85 cy #[.slice none 0 0, .slice none 0 0, .slice none 0 0] 28):=⟨(by rw[hw];exact(ba_ en))⟩;replace fm:Gy (hc_ w85 bj #[.slice fd fo.length ey, .slice bh gh.length bc, .slice dj dm.length bw] 28):=⟨(by rw[hw];exact(ba_ fm))⟩;replace ky:Gy (hc_ w85 dx #[.slice nu e9.length nv, .slice qc di.length qd] 25):=⟨(by rw[hw];exact(ba_ ky))⟩;replace HB:Gy (Below w.heap.size w w85):=⟨(by rw[hw];exact(jo))⟩;clear hw;have jt9:=ca1.out;have ju0:=rp.out;obtain⟨ju1,ju2,mg6,ju3,ju4,mg7⟩:=blk3_ fm)|((with_reducible refine gate_builtin (b:=.append) (xs:=#[.tmp 52, .tmp 55]) rfl ?_);(try(refine gate_guard (by rfl) ?_;dsimp only));at_builtin;refine Kd.Q_append k25 (w0:=w) w.heap.size rfl (.tmp 52) (.tmp 55) 26 25 (.agg #[(.slice none 0 0),(.slice none 0 0)]) 48 rfl Try.underlying26 info25 rfl (by decide) (by omega) (.slice dj dm.length bw) dm (⟨fo,gh⟩:S25) [.slice fd fo.length ey, .slice bh gh.length bc] (fun k_=>some k_≠(.slice nu e9.length nv:Value).ownBlock/\some k_≠(.slice qc di.length qd:Value).ownBlock/\k_≠dx) (fun k_=>((fun k_=>some k_≠(.slice nu e9.length nv:Value).ownBlock/\some k_≠(.slice qc di.length qd:Value).ownBlock/\k_≠dx)) k_/\some k_≠(.slice dj dm.length bw:Value).ownBlock) rfl rfl ?aP (fun _ hk=>hk) ?aF ?aO ?aB ?aS ?aL ?_;(case aP=>exact k25_mkM _ _ _ (⟨fo,gh⟩:S25) (Kd.R_mono (Kd.R_types (Kd.R_apart' (Kd.R_apart' (lz.out) (Kd.S_typed jh.out) (by decide)) (Kd.Q_typed jk.out) (by decide)) ky.out (by decide)) (fun k_ hk=>⟨⟨hk.1.1.1,⟨hk.1.1.2,hk.2⟩⟩,hk.1.2⟩)) (Kd.R_mono (Kd.R_types (Kd.R_apart' ((Kd.S_R o1.out)) (Kd.Q_typed jk.out) (by decide)) ky.out (by decide)) (fun k_ hk=>⟨⟨hk.1.1.2.1,⟨hk.1.1.2.2,hk.2⟩⟩,hk.1.2⟩)));(case aB=>exact(jo));(case aF=>exact(fun k_ hk=>⟨Kd.fresh' (Kd.R_lt (uf2_ ol)) k_ hk,Kd.fresh' (Kd.S_lt (uf3_ jh)) k_ hk,Kd.freshB (g:=dx) (o:=.cells #[.slice nu e9.length nv, .slice qc di.length qd] 25 (0,0)) (uf0_ ky) k_ hk⟩));(case aO=>exact(by(with_reducible repeat(first|apply Kd.Q_alloc|apply Kd.Q_drewN|apply Kd.Q_drew));exact Kd.Q_mono jk.out (fun _ hk=>⟨hk.2.2.1,⟨hk.2.2.2.1,hk.2.2.2.2⟩⟩)));(case aS=>exact(G0 (jo)));(case aL=>have:=hb7.out;omega);intro js5 w88 ho hb hg hat;rw[<- hb8.out] at ho;replace d3:=(bg_ d3 hg (Kd.Q_ne jk.out d3.out (by decide)));replace fq:=(bg_ fq hg (Kd.Q_ne jk.out fq.out (by decide)));replace en:=(bg_ en hg (Kd.Q_ne jk.out en.out (by decide)));replace fm:=(bg_ fm hg (Kd.Q_ne jk.out fm.out (by decide)));replace ol:=A_ (Kd.R_over' (uf2_ ol) (Kd.Q_typed (uf6_ jk)) (by decide) hg);replace jh:=A_ (Kd.S_over' (uf3_ jh) (Kd.Q_typed (uf6_ jk)) (by decide) hg);replace ky:=(bg_ ky hg (Kd.Q_away jk.out (fun _ hk=>hk.2.2.2.2)));replace HB:=A_ (hb);have bo1:=A_ (ho);clear jk lz o1;clear ho hb hg hat;obtain⟨xl,xm,cm1,_⟩:=Kd.Q_slice bo1.out;subst cm1;obtain⟨mg8,mg9,mh0,mh1,mh2,mh3⟩:=blk3_ fm;obtain⟨mh4,mh5,mh6,mh7⟩:=blk2_ ky;obtain⟨hd7,hd8,mh8,hd9,he0,mh9⟩:=blk3_ en))
 refine bodyPost_ret (Jn rfl _ _ cy 28 #[.slice nu e9.length nv, .slice qc di.length qd, .slice xl lk.length xm] (0,0) _ rfl (ba_ en) Try.underlying28 rfl (g1_)) rfl ?_
 exact⟨_,_,_,g4_,ra_ ol,sa_ jh,qa_ bo1,jo⟩
set_option maxHeartbeats 8000000 in
set_option maxRecDepth 100000 in
theorem Gg.back (k:Nat) (ae:Option Addr) (ac:Nat) (ab:List Int) (ag:Option Addr) (af:Nat) (aa:List (List Int)) (ci:Option Addr) (bv:Nat) (ai:List (S25)) (w:World) (ca:Kd.C (Kd.int .i64) w ae ab.length ab) (ce:ab.length<=ac) (cb:Kd.C (Kd.slice 3 (Kd.int .i64)) w ag aa.length aa) (cg:aa.length<=af) (k0:Kd.C k25 w ci ai.length ai) (k5:ai.length<=bv) (fo:List Int) (gh:List (List Int)) (dm:List S25) (n:Nat) (hd:Fz.f k ab aa ai=some true) (hcp:Fn.f k ab aa ai=some (fo,gh,dm)) (hn:dm.length=n + 1) (hmx:n < 2932031007402) (hp:0 < ai.length) :
  Calls Try.prog 54 #[.agg #[.slice ae ab.length ac, .slice ag aa.length af, .slice ci ai.length bv], .agg #[.int .i64 4, .int .i64 0, .int .i64 0, .int .i64 0]] w fun e w'=>∃v0_ v1_ v2_:Value,e = .returned (.tuple #[.agg #[v0_,v1_,v2_], .bool true])/\Kd.R (Kd.int .i64) 3 w' w.heap.size (fun _=>True) v0_ (Jd dm (n:Int)).f0/\Kd.S (Kd.slice 3 (Kd.int .i64)) 22 w' w.heap.size (fun k_=>some k_≠(v0_:Value).ownBlock) v1_ (Jd dm (n:Int)).f1/\Kd.Q k25 25 w' w.heap.size (fun k_=>some k_≠(v0_:Value).ownBlock/\some k_≠(v1_:Value).ownBlock) v2_ (dm.take n)/\Below w.heap.size w w':=by
 have hu28:=Try.underlying28
 have hu69:=Try.underlying69
 have hu25:=Try.underlying25
 have bu:=A_ ca
 have cq:=A_ ce
 have bf:=A_ cb
 have cu:=A_ cg
 have l9:=A_ k0
 have rf:=A_ k5
 have HB:=A_ (Below.refl w.heap.size w)
 have A3:=A_ hd
 have A5:=A_ hcp
 have HN:=A_ hn
 have hp1:decide ((ai.length:Int) > 0)=true:=decide_eq_true (by omega)
 have hp2:wrap64 ((dm.length:Int) - 1)=(n:Int):=by rw[show((dm.length:Int) - 1)=(n:Int) by omega];unfold wrap64;omega
 have hp3:(0<=(n:Int))=True:=eq_true (by omega)
 have hp4:((n:Int) < (dm.length:Int))=True:=eq_true (by omega)
 have hp6:((n:Int) < (n:Int) + 1)=True:=eq_true (by omega)
 have hp7:((n:Int) < ((n + 1:Nat):Int))=True:=eq_true (by omega)
 have hp5:((n:Int)).toNat=n:=Int.toNat_natCast n
 clear ca ce cb cg k0 k5 hd hcp hn
 go_enter Try.func54,Try.ntmps54
 go_upto_region 4 with(first|((with_reducible refine gd_ 2 ?_);(try(refine gate_guard (by rfl) ?_;dsimp only));refine box_event ?hg (N:=2) ?hd (cs:=#[.slice ae ab.length ac, .slice ag aa.length af, .slice ci ai.length bv]) (t:=28) ?hr ?_;(case hd=>rfl);(case hg=>rfl);(case hr=>first|(go_simp;done)|(go_simp;rfl));intro gs hg w7 hbox hb;have n0_:=hs_ (g12_) hb;have n1_:=A_ (hbox);have n2_:=A_ ((by rw[hg];exact(G0 (g12_)):w.heap.size<=gs));have n3_:=n2_;clear HB;have HB:=n0_;have d3:=n1_;have ha4:=n2_;have cl9:=n3_;clear n0_ n1_ n2_ n3_;clear hb hbox hg)|((with_reducible refine gd_ 3 ?_);(try(refine gate_guard (by rfl) ?_;dsimp only));refine box_event ?hg (N:=3) ?hd (cs:=#[.int .i64 4, .int .i64 0, .int .i64 0, .int .i64 0]) (t:=69) ?hr ?_;(case hd=>rfl);(case hg=>rfl);(case hr=>first|(go_simp;done)|(go_simp;rfl));intro g4 hg w8 hbox hb;have n0_:=A_ (G9 (g:=gs) (o:=.cells #[.slice ae ab.length ac, .slice ag aa.length af, .slice ci ai.length bv] 28 (0,0)) (g23_) hb);have n1_:=hs_ (g144_) hb;have n2_:=A_ (hbox);have n3_:=A_ ((by rw[hg];exact(G0 (g144_)):w.heap.size<=g4));have n4_:=n3_;have n5_:=A_ ((g145_:gs≠g4));have n6_:=A_ ((g146_:g4≠gs));clear d3;clear HB;have d3:=n0_;have HB:=n1_;have fq:=n2_;have ha5:=n3_;have dg8:=n4_;have aw2:=n5_;have aw3:=n6_;clear n0_ n1_ n2_ n3_ n4_ n5_ n6_;clear hb hbox hg)|((with_reducible refine gd_ 4 ?_);(try(refine gate_guard (by rfl) ?_;dsimp only));refine box_event ?hg (N:=4) ?hd (cs:=#[.slice none 0 0, .slice none 0 0, .slice none 0 0]) (t:=28) ?hr ?_;(case hd=>rfl);(case hg=>rfl);(case hr=>first|(go_simp;done)|(go_simp;rfl));intro cy hg w9 hbox hb;have n0_:=A_ (G9 (g:=gs) (o:=.cells #[.slice ae ab.length ac, .slice ag aa.length af, .slice ci ai.length bv] 28 (0,0)) (g23_) hb);have n1_:=A_ (G9 (g:=g4) (o:=.cells #[.int .i64 4, .int .i64 0, .int .i64 0, .int .i64 0] 69 (0,0)) (g39_) hb);have n2_:=hs_ (g147_) hb;have n3_:=A_ (hbox);have n4_:=A_ ((by rw[hg];exact(G0 (g147_)):w.heap.size<=cy));have n5_:=n4_;have n6_:=A_ ((g145_:gs≠cy));have n7_:=A_ ((g146_:cy≠gs));have n8_:=A_ ((by rw[hg];exact Nat.ne_of_lt (blk_lt (g:=g4) (o:=.cells #[.int .i64 4, .int .i64 0, .int .i64 0, .int .i64 0] 69 (0,0)) (g39_)):g4≠cy));have n9_:=A_ ((by rw[hg];exact Nat.ne_of_gt (blk_lt (g:=g4) (o:=.cells #[.int .i64 4, .int .i64 0, .int .i64 0, .int .i64 0] 69 (0,0)) (g39_)):cy≠g4));clear d3;clear fq;clear HB;have d3:=n0_;have fq:=n1_;have HB:=n2_;have en:=n3_;have ha6:=n4_;have ca0:=n5_;have bd5:=n6_;have bd6:=n7_;have bn6:=n8_;have bn7:=n9_;clear n0_ n1_ n2_ n3_ n4_ n5_ n6_ n7_ n8_ n9_;clear hb hbox hg;have bn8:=aw2.out;have bn9:=aw3.out;have ah3:=bd5.out;have ah4:=bd6.out;have xg:w9.cell? ⟨gs,0,none⟩=some (.slice ae ab.length ac):=(Gz d3.out 0).trans rfl;have xh:w9.cell? ⟨gs,1,none⟩=some (.slice ag aa.length af):=(Gz d3.out 1).trans rfl;have bd7:w9.cell? ⟨gs,2,none⟩=some (.slice ci ai.length bv):=(Gz d3.out 2).trans rfl;have zv:=G8 d3.out 0;have xi:=G8 d3.out 1;have bd8:=G8 d3.out 2)|((with_reducible refine gc_ 28 ?_);refine goesL_ (some 11) rfl rfl Try.func28 (g1_) rfl #[.agg #[.slice ae ab.length ac, .slice ag aa.length af, .slice ci ai.length bv]] rfl (g3_) ?_;(refine(Fz.calls k _ _ ab _ _ aa _ _ ai true _ (cu_ (Kd.C_below bu.out HB.out)) cq.out (cu_ (Kd.C_below bf.out HB.out)) cu.out (cu_ (Kd.C_below l9.out HB.out)) rf.out A3.out).mono ?_);rintro e w13 ⟨rfl,hb⟩;refine⟨_,rfl,?_⟩;have n0_:=A_ (G9 (g:=gs) (o:=.cells #[.slice ae ab.length ac, .slice ag aa.length af, .slice ci ai.length bv] 28 (0,0)) (g23_) hb);have n1_:=A_ (G9 (g:=g4) (o:=.cells #[.int .i64 4, .int .i64 0, .int .i64 0, .int .i64 0] 69 (0,0)) (g39_) hb);have n2_:=A_ (G9 (g:=cy) (o:=.cells #[.slice none 0 0, .slice none 0 0, .slice none 0 0] 28 (0,0)) (g87_) hb);have n3_:=hs_ (g40_) hb;clear d3;clear fq;clear en;clear HB;have d3:=n0_;have fq:=n1_;have en:=n2_;have HB:=n3_;clear n0_ n1_ n2_ n3_;have sf:w13.cell? ⟨gs,0,none⟩=some (.slice ae ab.length ac):=(Gz d3.out 0).trans rfl;have sg:w13.cell? ⟨gs,1,none⟩=some (.slice ag aa.length af):=(Gz d3.out 1).trans rfl;have ch5:w13.cell? ⟨gs,2,none⟩=some (.slice ci ai.length bv):=(Gz d3.out 2).trans rfl;have sh:=G8 d3.out 0;have si:=G8 d3.out 1;have ch6:=G8 d3.out 2)|((with_reducible refine gc_ 100 ?_);refine goesL_ (some 15) rfl rfl Try.func100 (g1_) rfl #[.agg #[.slice ae ab.length ac, .slice ag aa.length af, .slice ci ai.length bv]] rfl (g3_) ?_;(refine(Fn.calls_s k _ _ ab _ _ aa _ _ ai fo gh dm _ (cu_ (Kd.C_below bu.out HB.out)) cq.out (cu_ (Kd.C_below bf.out HB.out)) cu.out (cu_ (Kd.C_below l9.out HB.out)) rf.out A5.out).mono ?_);rintro e w15 ⟨jq7,jq8,jq9,rfl,aj,ar,ef,hb⟩;refine⟨_,rfl,?_⟩;have n0_:=A_ (Kd.R_lower aj (G0 (g40_)));have n1_:=A_ (Kd.S_lower ar (G0 (g40_)));have n2_:=A_ (Kd.S_lower ef (G0 (g40_)));have n3_:=A_ (G9 (g:=gs) (o:=.cells #[.slice ae ab.length ac, .slice ag aa.length af, .slice ci ai.length bv] 28 (0,0)) (g23_) hb);have n4_:=A_ (G9 (g:=g4) (o:=.cells #[.int .i64 4, .int .i64 0, .int .i64 0, .int .i64 0] 69 (0,0)) (g39_) hb);have n5_:=A_ (G9 (g:=cy) (o:=.cells #[.slice none 0 0, .slice none 0 0, .slice none 0 0] 28 (0,0)) (g87_) hb);have n6_:=hs_ (g40_) hb;clear d3;clear fq;clear en;clear HB;have aq3:=n0_;have aq4:=n1_;have af0:=n2_;have d3:=n3_;have fq:=n4_;have en:=n5_;have HB:=n6_;clear n0_ n1_ n2_ n3_ n4_ n5_ n6_)|((with_reducible refine gd_ 6 ?_);(try(refine gate_guard (by rfl) ?_;dsimp only));refine box_event ?hg (N:=6) ?hd (cs:=#[.slice none 0 0, .slice none 0 0, .slice none 0 0]) (t:=28) ?hr ?_;(case hd=>rfl);(case hg=>rfl);(case hr=>first|(go_simp;done)|(go_simp;rfl));intro bj hg jp hbox hb;have n0_:=A_ (Kd.R_below (by(with_reducible repeat(first|apply Kd.R_alloc|apply Kd.R_drewN|apply Kd.R_drew));exact aq3.out) hb);have n1_:=A_ (Kd.S_below (by(with_reducible repeat(first|apply Kd.S_alloc|apply Kd.S_drewN|apply Kd.S_drew));exact aq4.out) hb);have n2_:=A_ (Kd.S_below (by(with_reducible repeat(first|apply Kd.S_alloc|apply Kd.S_drewN|apply Kd.S_drew));exact af0.out) hb);have n3_:=A_ (G9 (g:=gs) (o:=.cells #[.slice ae ab.length ac, .slice ag aa.length af, .slice ci ai.length bv] 28 (0,0)) (g23_) hb);have n4_:=A_ (G9 (g:=g4) (o:=.cells #[.int .i64 4, .int .i64 0, .int .i64 0, .int .i64 0] 69 (0,0)) (g39_) hb);have n5_:=A_ (G9 (g:=cy) (o:=.cells #[.slice none 0 0, .slice none 0 0, .slice none 0 0] 28 (0,0)) (g87_) hb);have n6_:=hs_ (g40_) hb;have n7_:=A_ (hbox);have n8_:=A_ ((by rw[hg];exact(G0 (g40_)):w.heap.size<=bj));have n9_:=n8_;have n10_:=A_ ((g145_:gs≠bj));have n11_:=A_ ((g146_:bj≠gs));have n12_:=A_ ((by rw[hg];exact Nat.ne_of_lt (blk_lt (g:=g4) (o:=.cells #[.int .i64 4, .int .i64 0, .int .i64 0, .int .i64 0] 69 (0,0)) (g39_)):g4≠bj));have n13_:=A_ ((by rw[hg];exact Nat.ne_of_gt (blk_lt (g:=g4) (o:=.cells #[.int .i64 4, .int .i64 0, .int .i64 0, .int .i64 0] 69 (0,0)) (g39_)):bj≠g4));have n14_:=A_ ((by rw[hg];exact Nat.ne_of_lt (blk_lt (g:=cy) (o:=.cells #[.slice none 0 0, .slice none 0 0, .slice none 0 0] 28 (0,0)) (g87_)):cy≠bj));have n15_:=A_ ((by rw[hg];exact Nat.ne_of_gt (blk_lt (g:=cy) (o:=.cells #[.slice none 0 0, .slice none 0 0, .slice none 0 0] 28 (0,0)) (g87_)):bj≠cy));clear aq3;clear aq4;clear af0;clear d3;clear fq;clear en;clear HB;have aq3:=n0_;have aq4:=n1_;have af0:=n2_;have d3:=n3_;have fq:=n4_;have en:=n5_;have HB:=n6_;have fm:=n7_;have jr0:=n8_;have bn5:=n9_;have xj:=n10_;have bo0:=n11_;have vz:=n12_;have bd9:=n13_;have rp:=n14_;have ca1:=n15_;clear n0_ n1_ n2_ n3_ n4_ n5_ n6_ n7_ n8_ n9_ n10_ n11_ n12_ n13_ n14_ n15_;clear hb hbox hg;obtain⟨fd,ey,vn⟩:=Kd.R_slice aq3.out;subst vn;have em7:=bo0.out;have em8:=xj.out;have ch8:=bd9.out;have ch9:=vz.out;have bv3:=ca1.out;have bv4:=rp.out;have vh:jp.cell? ⟨bj,0,none⟩=some (.slice none 0 0):=(Gz fm.out 0).trans rfl;have vi:jp.cell? ⟨bj,1,none⟩=some (.slice none 0 0):=(Gz fm.out 1).trans rfl;have bj7:jp.cell? ⟨bj,2,none⟩=some (.slice none 0 0):=(Gz fm.out 2).trans rfl;have wu:=G8 fm.out 0;have vj:=G8 fm.out 1;have bj8:=G8 fm.out 2;obtain⟨bh,bc,aq5⟩:=Kd.S_slice aq4.out;subst aq5;obtain⟨dj,bw,by5⟩:=Kd.S_slice af0.out;subst by5;obtain⟨ga,u0,u1,eA,hx0,ub,hl0,hl1,hl2,hg1,hg2⟩:=k25s_last (n:=n) HN.out af0.out;subst eA;have HL0:=A_ (Kd.R_types (Kd.R_types hl0 fm.out (by decide)) en.out (by decide));have HL1:=A_ (Kd.S_types (Kd.S_types hl1 fm.out (by decide)) en.out (by decide));have HL2:=A_ (Kd.Q_types (Kd.Q_types hl2 fm.out (by decide)) en.out (by decide));clear hl0 hl1 hl2;have hge1:ga≠bj:=k25s_ne hg1 fm.out (by decide);have hge2:bj≠ga:=fun e_=>hge1 e_.symm;have hge3:ga≠cy:=k25s_ne hg1 en.out (by decide);have hge4:cy≠ga:=fun e_=>hge3 e_.symm;obtain⟨B0,b0,eu0⟩:=Kd.R_slice HL0.out;subst eu0;obtain⟨B1,b1,eu1⟩:=Kd.S_slice HL1.out;subst eu1;have hn1:(dm.length:Int)=(n:Int) + 1:=(by have:=HN.out;omega);have at0:jp.cell? ⟨g4,0,none⟩=some (.int .i64 4):=(Gz fq.out 0).trans rfl;have at1:jp.cell? ⟨g4,1,none⟩=some (.int .i64 0):=(Gz fq.out 1).trans rfl;have gd0:jp.cell? ⟨g4,2,none⟩=some (.int .i64 0):=(Gz fq.out 2).trans rfl;have jw9:jp.cell? ⟨g4,3,none⟩=some (.int .i64 0):=(Gz fq.out 3).trans rfl;have hcr_0:jp.cell? ⟨cy,0,none⟩=some (.slice none 0 0):=(Gz en.out 0).trans rfl;have hcr_1:jp.cell? ⟨cy,1,none⟩=some (.slice none 0 0):=(Gz en.out 1).trans rfl;have hcr_2:jp.cell? ⟨cy,2,none⟩=some (.slice none 0 0):=(Gz en.out 2).trans rfl;have hfr_0:=G8 en.out 0;have hfr_1:=G8 en.out 1;have hfr_2:=G8 en.out 2;have hcd_2:jp.cell? ⟨gs,2,none⟩=some (.slice ci ai.length bv):=(Gz d3.out 2).trans rfl;have hb1:=vz.out;have hb2:=bd9.out;have hb3:=rp.out;have hb4:=ca1.out;have hb5:=xj.out;have hb6:=bo0.out))
 (try simp only[Act.put,List.setIfInBounds_toArray,List.set_cons_zero,List.set_cons_succ])
 go_upto_region 7 with fail
 obtain⟨i0,hi0,_,hsz0,_⟩:=info_parts info25
 have hcut:=cut_to (P:=Try.prog) 26 25 .i64 Try.underlying26 hi0 (some ⟨ga,0,none⟩) (n + 1) bw (n:Int) (by omega) (by omega) (by have:=(Kd.S_reads' af0.out).2.1;omega)
 rw[hp5] at hcut
 go_upto_region 8 with fail
 have n0_:Gy (Kd.R (Kd.int .i64) 3 ((((((jp.setCell ⟨bj,0,none⟩ (.slice fd fo.length ey)).setCell ⟨bj,1,none⟩ (.slice bh gh.length bc)).setCell ⟨bj,2,none⟩ (.slice (some ⟨ga,0,none⟩) (n + 1) bw)).setCell ⟨bj,0,none⟩ (.slice B0 (Jd dm (n:Int)).f0.length b0)).setCell ⟨bj,1,none⟩ (.slice B1 (Jd dm (n:Int)).f1.length b1)).setCell ⟨bj,2,none⟩ (.slice (some ⟨ga,0,none⟩) n bw)) w.heap.size (fun k_=>(True/\k_≠bj)/\k_≠cy) (.slice B0 (Jd dm (n:Int)).f0.length b0) (Jd dm (n:Int)).f0):=A_ (by refine Kd.R_far ?_ (fun _ hk=>hk.1.2) _;refine Kd.R_far ?_ (fun _ hk=>hk.1.2) _;refine Kd.R_far ?_ (fun _ hk=>hk.1.2) _;refine Kd.R_far ?_ (fun _ hk=>hk.1.2) _;refine Kd.R_far ?_ (fun _ hk=>hk.1.2) _;refine Kd.R_far ?_ (fun _ hk=>hk.1.2) _;exact HL0.out)
 have n1_:Gy (Kd.S (Kd.slice 3 (Kd.int .i64)) 22 ((((((jp.setCell ⟨bj,0,none⟩ (.slice fd fo.length ey)).setCell ⟨bj,1,none⟩ (.slice bh gh.length bc)).setCell ⟨bj,2,none⟩ (.slice (some ⟨ga,0,none⟩) (n + 1) bw)).setCell ⟨bj,0,none⟩ (.slice B0 (Jd dm (n:Int)).f0.length b0)).setCell ⟨bj,1,none⟩ (.slice B1 (Jd dm (n:Int)).f1.length b1)).setCell ⟨bj,2,none⟩ (.slice (some ⟨ga,0,none⟩) n bw)) w.heap.size (fun k_=>(some k_≠(.slice B0 (Jd dm (n:Int)).f0.length b0:Value).ownBlock/\k_≠bj)/\k_≠cy) (.slice B1 (Jd dm (n:Int)).f1.length b1) (Jd dm (n:Int)).f1):=A_ (by refine Kd.S_far ?_ (fun _ hk=>hk.1.2) _;refine Kd.S_far ?_ (fun _ hk=>hk.1.2) _;refine Kd.S_far ?_ (fun _ hk=>hk.1.2) _;refine Kd.S_far ?_ (fun _ hk=>hk.1.2) _;refine Kd.S_far ?_ (fun _ hk=>hk.1.2) _;refine Kd.S_far ?_ (fun _ hk=>hk.1.2) _;exact HL1.out)
 have n2_:Gy (Kd.Q k25 25 ((((((jp.setCell ⟨bj,0,none⟩ (.slice fd fo.length ey)).setCell ⟨bj,1,none⟩ (.slice bh gh.length bc)).setCell ⟨bj,2,none⟩ (.slice (some ⟨ga,0,none⟩) (n + 1) bw)).setCell ⟨bj,0,none⟩ (.slice B0 (Jd dm (n:Int)).f0.length b0)).setCell ⟨bj,1,none⟩ (.slice B1 (Jd dm (n:Int)).f1.length b1)).setCell ⟨bj,2,none⟩ (.slice (some ⟨ga,0,none⟩) n bw)) w.heap.size (fun k_=>((some k_≠(.slice B0 (Jd dm (n:Int)).f0.length b0:Value).ownBlock/\some k_≠(.slice B1 (Jd dm (n:Int)).f1.length b1:Value).ownBlock)/\k_≠bj)/\k_≠cy) (.slice (some ⟨ga,0,none⟩) n bw) (dm.take n)):=A_ (by refine Kd.Q_far ?_ (fun _ hk=>hk.1.2) _;refine Kd.Q_far ?_ (fun _ hk=>hk.1.2) _;refine Kd.Q_far ?_ (fun _ hk=>hk.1.2) _;refine Kd.Q_far ?_ (fun _ hk=>hk.1.2) _;refine Kd.Q_far ?_ (fun _ hk=>hk.1.2) _;refine Kd.Q_far ?_ (fun _ hk=>hk.1.2) _;exact HL2.out)
 have n3_:Gy (((((((jp.setCell ⟨bj,0,none⟩ (.slice fd fo.length ey)).setCell ⟨bj,1,none⟩ (.slice bh gh.length bc)).setCell ⟨bj,2,none⟩ (.slice (some ⟨ga,0,none⟩) (n + 1) bw)).setCell ⟨bj,0,none⟩ (.slice B0 (Jd dm (n:Int)).f0.length b0)).setCell ⟨bj,1,none⟩ (.slice B1 (Jd dm (n:Int)).f1.length b1)).setCell ⟨bj,2,none⟩ (.slice (some ⟨ga,0,none⟩) n bw)).heap[bj]? = some (.cells #[.slice B0 (Jd dm (n:Int)).f0.length b0, .slice B1 (Jd dm (n:Int)).f1.length b1, .slice (some ⟨ga,0,none⟩) n bw] 28 (0,0))):=A_ (ba_ fm)
 have n4_:Gy (((((((jp.setCell ⟨bj,0,none⟩ (.slice fd fo.length ey)).setCell ⟨bj,1,none⟩ (.slice bh gh.length bc)).setCell ⟨bj,2,none⟩ (.slice (some ⟨ga,0,none⟩) (n + 1) bw)).setCell ⟨bj,0,none⟩ (.slice B0 (Jd dm (n:Int)).f0.length b0)).setCell ⟨bj,1,none⟩ (.slice B1 (Jd dm (n:Int)).f1.length b1)).setCell ⟨bj,2,none⟩ (.slice (some ⟨ga,0,none⟩) n bw)).heap[cy]? = some (.cells #[.slice none 0 0, .slice none 0 0, .slice none 0 0] 28 (0,0))):=A_ (ba_ en)
 have n5_:Gy (Below w.heap.size w ((((((jp.setCell ⟨bj,0,none⟩ (.slice fd fo.length ey)).setCell ⟨bj,1,none⟩ (.slice bh gh.length bc)).setCell ⟨bj,2,none⟩ (.slice (some ⟨ga,0,none⟩) (n + 1) bw)).setCell ⟨bj,0,none⟩ (.slice B0 (Jd dm (n:Int)).f0.length b0)).setCell ⟨bj,1,none⟩ (.slice B1 (Jd dm (n:Int)).f1.length b1)).setCell ⟨bj,2,none⟩ (.slice (some ⟨ga,0,none⟩) n bw))):=A_ (by refine G1 ?_ bn5.out;refine G1 ?_ bn5.out;refine G1 ?_ bn5.out;refine G1 ?_ bn5.out;refine G1 ?_ bn5.out;refine G1 ?_ bn5.out;exact HB.out)
 clear HL0 HL1 HL2 fm en HB d3 fq aq3 aq4 af0 hx0 ub hcut
 clear at0 at1 gd0 jw9 hcr_0 hcr_1 hcr_2 hcd_2 hfr_0 hfr_1 hfr_2 hg1 hg2
 generalize ((((((jp.setCell ⟨bj,0,none⟩ (.slice fd fo.length ey)).setCell ⟨bj,1,none⟩ (.slice bh gh.length bc)).setCell ⟨bj,2,none⟩ (.slice (some ⟨ga,0,none⟩) (n + 1) bw)).setCell ⟨bj,0,none⟩ (.slice B0 (Jd dm (n:Int)).f0.length b0)).setCell ⟨bj,1,none⟩ (.slice B1 (Jd dm (n:Int)).f1.length b1)).setCell ⟨bj,2,none⟩ (.slice (some ⟨ga,0,none⟩) n bw))=j4 at n0_ n1_ n2_ n3_ n4_ n5_ |-
 have hcq_0:j4.cell? ⟨bj,0,none⟩=some (.slice B0 (Jd dm (n:Int)).f0.length b0):=(Gz n3_.out 0).trans rfl
 have hcq_1:j4.cell? ⟨bj,1,none⟩=some (.slice B1 (Jd dm (n:Int)).f1.length b1):=(Gz n3_.out 1).trans rfl
 have hcq_2:j4.cell? ⟨bj,2,none⟩=some (.slice (some ⟨ga,0,none⟩) n bw):=(Gz n3_.out 2).trans rfl
 have hcr_0:j4.cell? ⟨cy,0,none⟩=some (.slice none 0 0):=(Gz n4_.out 0).trans rfl
 have hcr_1:j4.cell? ⟨cy,1,none⟩=some (.slice none 0 0):=(Gz n4_.out 1).trans rfl
 have hcr_2:j4.cell? ⟨cy,2,none⟩=some (.slice none 0 0):=(Gz n4_.out 2).trans rfl
 have hfr_0:=G8 n4_.out 0
 have hfr_1:=G8 n4_.out 1
 have hfr_2:=G8 n4_.out 2
 go_wp2
 refine bodyPost_ret (Jn rfl _ _ cy 28 #[.slice B0 (Jd dm (n:Int)).f0.length b0, .slice B1 (Jd dm (n:Int)).f1.length b1, .slice (some ⟨ga,0,none⟩) n bw] (0,0) _ rfl (ba_ n4_) Try.underlying28 rfl (g1_)) rfl ?_
 exact⟨_,_,_,rfl,Kd.R_mono (Kd.R_far (p:=⟨cy,2,none⟩) (Kd.R_far (p:=⟨cy,1,none⟩) (Kd.R_far (p:=⟨cy,0,none⟩) n0_.out (fun _ hk=>hk.2) (.slice B0 (Jd dm (n:Int)).f0.length b0)) (fun _ hk=>hk.2) (.slice B1 (Jd dm (n:Int)).f1.length b1)) (fun _ hk=>hk.2) (.slice (some ⟨ga,0,none⟩) n bw)) (fun _ _=>trivial),Kd.S_mono (Kd.S_far (p:=⟨cy,2,none⟩) (Kd.S_far (p:=⟨cy,1,none⟩) (Kd.S_far (p:=⟨cy,0,none⟩) n1_.out (fun _ hk=>hk.2) (.slice B0 (Jd dm (n:Int)).f0.length b0)) (fun _ hk=>hk.2) (.slice B1 (Jd dm (n:Int)).f1.length b1)) (fun _ hk=>hk.2) (.slice (some ⟨ga,0,none⟩) n bw)) (fun _ hk=>hk.1.1),Kd.Q_mono (Kd.Q_far (p:=⟨cy,2,none⟩) (Kd.Q_far (p:=⟨cy,1,none⟩) (Kd.Q_far (p:=⟨cy,0,none⟩) n2_.out (fun _ hk=>hk.2) (.slice B0 (Jd dm (n:Int)).f0.length b0)) (fun _ hk=>hk.2) (.slice B1 (Jd dm (n:Int)).f1.length b1)) (fun _ hk=>hk.2) (.slice (some ⟨ga,0,none⟩) n bw)) (fun _ hk=>hk.1.1),by refine G1 ?_ ca0.out;refine G1 ?_ ca0.out;refine G1 ?_ ca0.out;exact n5_.out⟩
def Gg.f (k:Nat) (ab:List Int) (aa:List (List Int)) (ai:List (S25)) (aq:Int) (ak:Int) (am:Int) (ap:Int):Option (List Int × (List (List Int)) × (List (S25)) × Bool):=if (aq == 4 && (ak == 0 && (am == 0 && (ap == 0))))=true/\0 < ai.length then((Fz.f k ab aa ai).bind fun t=>if t=true then((Fn.f k ab aa ai).bind fun b=>if 0 < b.2.2.length/\b.2.2.length < 2932031007402 then some ((Jd b.2.2 ((b.2.2.length - 1:Nat):Int)).f0,(Jd b.2.2 ((b.2.2.length - 1:Nat):Int)).f1,b.2.2.take (b.2.2.length - 1),true) else none) else some (([]:List Int),([]:List (List Int)),([]:List (S25)),false)) else Ge.f k ab aa ai aq ak am ap
theorem Gg.calls (k:Nat) (ae:Option Addr) (ac:Nat) (ab:List Int) (ag:Option Addr) (af:Nat) (aa:List (List Int)) (ci:Option Addr) (bv:Nat) (ai:List (S25)) (aq:Int) (ak:Int) (am:Int) (ap:Int) (r1:List Int) (r2:List (List Int)) (r3:List (S25)) (r4:Bool) (w:World) (ca:Kd.C (Kd.int .i64) w ae ab.length ab) (ce:ab.length<=ac) (cb:Kd.C (Kd.slice 3 (Kd.int .i64)) w ag aa.length aa) (cg:aa.length<=af) (k0:Kd.C k25 w ci ai.length ai) (k5:ai.length<=bv) (h:Gg.f k ab aa ai aq ak am ap=some (r1,r2,r3,r4)) :
  Calls Try.prog 54 #[.agg #[.slice ae ab.length ac, .slice ag aa.length af, .slice ci ai.length bv], .agg #[.int .i64 aq, .int .i64 ak, .int .i64 am, .int .i64 ap]] w fun e w'=>∃v0_ v1_ v2_:Value,e = .returned (.tuple #[.agg #[v0_,v1_,v2_], .bool r4])/\Kd.R (Kd.int .i64) 3 w' w.heap.size (fun _=>True) v0_ r1/\Kd.S (Kd.slice 3 (Kd.int .i64)) 22 w' w.heap.size (fun k_=>some k_≠(v0_:Value).ownBlock) v1_ r2/\Kd.Q k25 25 w' w.heap.size (fun k_=>some k_≠(v0_:Value).ownBlock/\some k_≠(v1_:Value).ownBlock) v2_ r3/\Below w.heap.size w w':=by
 unfold Gg.f at h
 by_cases hc:(aq == 4 && (ak == 0 && (am == 0 && (ap == 0))))=true/\0 < ai.length
 case neg=>
  rw[if_neg hc] at h
  exact Ge.calls k ae ac ab ag af aa ci bv ai aq ak am ap r1 r2 r3 r4 w ca ce cb cg k0 k5 h
 rw[if_pos hc] at h
 obtain⟨t,ht,h2⟩:=Option.bind_eq_some_iff.mp h
 have ha:aq=4/\ak=0/\am=0/\ap=0:=by simpa using hc.1
 obtain⟨rfl,rfl,rfl,rfl⟩:=ha
 by_cases htt:t=true
 ·subst htt
  rw[if_pos rfl] at h2
  obtain⟨⟨b0,b1,b2⟩,hb,h3⟩:=Option.bind_eq_some_iff.mp h2
  by_cases h4:0 < b2.length/\b2.length < 2932031007402
  ·rw[if_pos h4] at h3
   have h5:=Option.some.inj h3
   simp only[Prod.mk.injEq] at h5
   obtain⟨rfl,rfl,rfl,rfl⟩:=h5
   exact Gg.back k ae ac ab ag af aa ci bv ai w ca ce cb cg k0 k5 b0 b1 b2 (b2.length - 1) ht hb (by omega) (by omega) hc.2
  rw[if_neg h4] at h3;cases h3
 rw[if_neg htt] at h2
 refine Ge.calls k ae ac ab ag af aa ci bv ai 4 0 0 0 r1 r2 r3 r4 w ca ce cb cg k0 k5 ?_
 unfold Ge.f
 rw[ht,Option.bind_some,if_neg htt]
 exact h2
def Fo.l0:Nat->List (List Int)->Int->Int->List Int->List (List Int)->Option (List Int × (List (List Int)))
 | 0,_,_,_,_,_=>none
 | k + 1,wg,gx,pa,hg6,fl6=>if pa < gx then(if 0<=pa then(if pa < (wg.length:Int) then((some (([]:List Int):List Int)).bind fun ca5=>(if ca5.length + (Jc wg pa).length < 17592186044416 then(if fl6.length < 5864062014805 then(Fo.l0 k wg gx (wrap64 (pa + 1)) hg6 (fl6 ++ [(ca5 ++ (Jc wg pa))])) else(none)) else(none))) else(none)) else(none)) else(some (hg6,fl6))
def Fo.f (k:Nat) (ab:List Int) (aa:List (List Int)):Option (List Int × (List (List Int))):=(some (([]:List Int):List Int)).bind fun aw5=>(if aw5.length + ab.length < 17592186044416 then(Fo.l0 k aa (aa.length:Int) 0 (aw5 ++ ab) ([]:List (List Int))) else(none))
def Fo.T5:Bool × List (List Nat × List Nat):=(true,[([],[]),([0],[0]),([],[]),([],[]),([2,3],[2,3]),([4],[4]),([1,5,4],[1,5]),([0,1,2,3,4,5,6],[]),([7,6,6,0,1,2,3,4,5,6],[6,7])])
def Fo.B5:List Nat:=[0,1,0,0,12,28,63,127,255]
theorem Fo.tab5:rtab .any (opsOf Try.f111 5)=Fo.T5:=by kernel_rfl
theorem Fo.bits5:waitsOk Fo.T5.2 Fo.B5=true:=by kernel_rfl
theorem vb {p:Prop} (h:p:=by repeat(first|(with_reducible first|exact HB.out|apply G4|apply G3|apply G2|refine G1 ?_ jx3.out|refine G1 ?_ jx4.out|refine G1 ?_ jx5.out)|exact HB.out)):p:=h
set_option maxHeartbeats 8000000 in
set_option maxRecDepth 100000 in
theorem Fo.calls (k:Nat) (ae:Option Addr) (ac:Nat) (ab:List Int) (ag:Option Addr) (af:Nat) (aa:List (List Int)) (r1:List Int) (r2:List (List Int)) (w:World) (ca:Kd.C (Kd.int .i64) w ae ab.length ab) (ce:ab.length<=ac) (cb:Kd.C (Kd.slice 3 (Kd.int .i64)) w ag aa.length aa) (cg:aa.length<=af) (h:Fo.f k ab aa=some (r1,r2)) :
  Calls Try.prog 111 #[.agg #[.slice ae ab.length ac, .slice ag aa.length af]] w fun e w'=>∃v0_ v1_:Value,e = .returned (.agg #[v0_,v1_])/\Kd.R (Kd.int .i64) 3 w' w.heap.size (fun _=>True) v0_ r1/\Kd.S (Kd.slice 3 (Kd.int .i64)) 22 w' w.heap.size (fun k_=>some k_≠(v0_:Value).ownBlock) v1_ r2/\Below w.heap.size w w':=by
 have hu25:=Try.underlying25
 have bu:=A_ ca
 have cq:=A_ ce
 clear ca ce
 have bf:=A_ cb
 have cu:=A_ cg
 clear cb cg
 have HB:=A_ (Below.refl w.heap.size w)
 have H:=h
 unfold Fo.f at H
 clear h
 obtain⟨aw5,hyq⟩:∃y_:List Int,y_=(([]:List Int)):=⟨_,rfl⟩
 replace H:(if aw5.length + ab.length < 17592186044416 then(Fo.l0 k aa (aa.length:Int) 0 (aw5 ++ ab) ([]:List (List Int))) else(none))=some (r1,r2):=qh_
 have hg7:=A_ hyq
 clear hyq
 obtain⟨c2,H⟩:=pos_ H
 have es7:=A_ c2
 clear c2
 obtain⟨o2,hyq⟩:∃y_:List Int,y_=(aw5 ++ ab):=⟨_,rfl⟩
 replace H:(Fo.l0 k aa (aa.length:Int) 0 o2 ([]:List (List Int)))=some (r1,r2):=qh_
 have jx6:=A_ hyq
 clear hyq
 have H':=A_ H
 clear H
 go_enter Try.func111,Try.ntmps111
 go_wp2_with (first|((with_reducible refine gd_ 1 ?_);refine bx_ (N:=1) #[.slice ae ab.length ac, .slice ag aa.length af] 25 ?_;intro zw hg w3 hbox hb;have mj:=A_ (hbox);have mj3:=A_ ((g66_:w.heap.size<=zw));have jx3:=mj3;replace HB:=hs_ (vb) hb;clear hb hbox hg)|((with_reducible refine gd_ 2 ?_);refine bx_ (N:=2) #[.slice none 0 0, .slice none 0 0] 25 ?_;intro uq hg w4 hbox hb;have nf:=A_ (hbox);have mj4:=A_ ((g66_:w.heap.size<=uq));have jx4:=mj4;replace HB:=hs_ (vb) hb;have hg8:=nl_ mj hg;have hg9:=nr_ mj hg;replace mj:=bb_ mj hb;clear hb hbox hg)|((with_reducible refine gd_ 6 ?_);refine rle_ 6 [] ?_;intro jx7 w5 ho6 hb hg_ hnew_;clear hg_ hnew_;(first|rw[<- hg7.out] at ho6|(simp only[Int.reduceToNat] at ho6;rw[<- hg7.out] at ho6));have eb8:=A_ (Kd.R_lower ho6 (G0 (vb)));replace mj:=bb_ mj hb;replace nf:=bb_ nf hb;replace HB:=hs_ (vb) hb;clear hb ho6;have et0:=hg8.out;have et1:=hg9.out;obtain⟨sj,sk,sl,sm⟩:=blk2_ mj)|((with_reducible refine gate_builtin (b:=.append) (xs:=#[.tmp 6, .tmp 8]) rfl ?_);at_builtin;refine Kd.R_append_rows (Kd.int .i64) (w0:=w) w.heap.size rfl (.tmp 6) (.tmp 8) 22 3 (.int .i64 0) 8 rfl Try.underlying22 info3 rfl (by decide) (by omega) jx7 aw5 ab _ _ _ (fun _=>True) (fun _=>False) rfl rfl ?aO ?aR (fun _ _ h=>h) (fun _ h=>h.elim) ?aF ?aB ?aS ?aL ?_;(case aR=>exact uf1_ bu);(case aB=>exact(vb));(case aF=>exact(fun _ _=>trivial));(case aO=>exact(uf2_ eb8));(case aS=>exact(G0 (vb)));(case aL=>have:=es7.out;omega);intro mj5 w9 ho hb hg hat;rw[<- jx6.out] at ho;replace mj:=(bg_ mj hg (Kd.R_ne eb8.out mj.out (by decide)));replace nf:=(bg_ nf hg (Kd.R_ne eb8.out nf.out (by decide)));replace HB:=A_ (hb);have eb9:=A_ (ho);clear eb8;clear ho hb hg hat;obtain⟨ax,av,ao5⟩:=Kd.R_slice eb9.out;subst ao5)|((with_reducible refine gd_ 3 ?_);refine bx_ (N:=3) #[.slice none 0 0, .slice none 0 0] 25 ?_;intro wh hg w11 hbox hb;replace eb9:=rb_ eb9 hb;have ll:=A_ (hbox);have mj6:=A_ ((g66_:w.heap.size<=wh));have jx5:=mj6;replace HB:=hs_ (vb) hb;have cm2:=nl_ mj hg;have fl7:=nr_ mj hg;replace mj:=bb_ mj hb;have cm3:=nl_ nf hg;have fl8:=nr_ nf hg;replace nf:=bb_ nf hb;clear hb hbox hg;have bv1:=fl7.out;have bv2:=cm2.out;have cg3:=fl8.out;have cg4:=cm3.out;obtain⟨sf,sg,sh,si⟩:=blk2_ ll;obtain⟨am8,am9,an0,an1⟩:=blk2_ mj))
 go_loopg [14] k (fun kq v14 w'=>∃(xn:Int) (aj7:List (List Int)) (aq9:Value),v14 = .int .i64 xn/\Gy (Fo.l0 kq aa (aa.length:Int) xn o2 aj7=some (r1,r2))/\Gy (kq<=k)/\Gy (Kd.R (Kd.int .i64) 3 w' w.heap.size (fun _=>True) (.slice ax o2.length av) o2)/\Gy (Kd.S (Kd.slice 3 (Kd.int .i64)) 22 w' w.heap.size (fun k_=>some k_≠((.slice ax o2.length av):Value).ownBlock) aq9 aj7)/\Gy (hc_ w' zw #[(.slice ae ab.length ac),(.slice ag aa.length af)] 25)/\Gy (hc_ w' uq #[(.slice none 0 0),(.slice none 0 0)] 25)/\Gy (hc_ w' wh #[(.slice ax o2.length av),aq9] 25)/\Gy (Below w.heap.size w w'))
 case atStart=>exact⟨(0),(([]:List (List Int))),(.slice none 0 0),(g2_),H',⟨Nat.le_refl _⟩,⟨ra_ eb9⟩,⟨g24_⟩,⟨ba_ mj⟩,⟨ba_ nf⟩,⟨ba_ ll⟩,⟨vb⟩⟩
 clear H'
 obtain⟨xn,aj7,aq9,rfl,HA,HK1,zx,ur,mj,nf,ll,HB⟩:=hrel
 cases gk with
 | zero=>exact absurd HA.out (by simp[Fo.l0])
 | succ k1=>?_
 have H:=HA.out
 clear HA
 simp only[Fo.l0] at H
 by_cases gr:xn < (aa.length:Int)
 case neg=>
  rw[if_neg gr] at H
  have vm:=decide_eq_false gr
  clear gr
  simp only[Option.some.injEq,Prod.mk.injEq] at H
  obtain⟨rfl,rfl⟩:=H
  have br5:=fl7.out
  have br6:=cm2.out
  have ds4:=fl8.out
  have ds5:=cm3.out
  obtain⟨bs1,bs2,bs3,bs4⟩:=blk2_ ll
  have de7:=hg9.out
  have de8:=hg8.out
  obtain⟨is1,is2,is3,is4⟩:=blk2_ nf
  obtain⟨gl,f4,bw3⟩:=Kd.S_slice ur.out
  subst bw3
  go_wp2
  refine bodyPost_ret (results_cell_row rfl _ _ uq 25 #[.slice ax o2.length av, .slice gl aj7.length f4] (0,0) _ rfl (ba_ nf) Try.underlying25 rfl (g1_)) rfl ?_
  exact⟨_,_,g4_,ra_ zx,sa_ ur,vb⟩
 rw[if_pos gr] at H
 have vm:=decide_eq_true gr
 clear gr
 obtain⟨vg,H⟩:=pd_ H
 obtain⟨ao9,H⟩:=pd_ H
 obtain⟨ca5,hyq⟩:∃y_:List Int,y_=(([]:List Int)):=⟨_,rfl⟩
 replace H:(if ca5.length + (Jc aa xn).length < 17592186044416 then(if aj7.length < 5864062014805 then(Fo.l0 k1 aa (aa.length:Int) (wrap64 (xn + 1)) o2 (aj7 ++ [(ca5 ++ (Jc aa xn))])) else(none)) else(none))=some (r1,r2):=qh_
 have hh0:=A_ hyq
 clear hyq
 obtain⟨ei,H⟩:=pos_ H
 have fl9:=A_ ei
 clear ei
 obtain⟨dh4,hyq⟩:∃y_:List Int,y_=(ca5 ++ (Jc aa xn)):=⟨_,rfl⟩
 replace H:(if aj7.length < 5864062014805 then(Fo.l0 k1 aa (aa.length:Int) (wrap64 (xn + 1)) o2 (aj7 ++ [dh4])) else(none))=some (r1,r2):=qh_
 have jx8:=A_ hyq
 clear hyq
 obtain⟨jx,H⟩:=pos_ H
 have dw0:=A_ jx
 clear jx
 obtain⟨dh5,hyq⟩:∃y_:List (List Int),y_=(aj7 ++ [dh4]):=⟨_,rfl⟩
 replace H:(Fo.l0 k1 aa (aa.length:Int) (wrap64 (xn + 1)) o2 dh5)=some (r1,r2):=qh_
 have jx9:=A_ hyq
 clear hyq
 have H':=A_ H
 clear H
 obtain⟨⟨hh1,mj7,mj8,jy0,hh2,hh3,hh4⟩,fm0,fm1⟩:=rdp_ (at_L1 bf.out xn)
 cases jy0
 replace hh2:=cl_ HB hh2
 have jy1:=A_ hh4
 have mj9:=A_ hh3
 clear hh4 hh3
 try go_wp2
 replace zx:=rd_ zx
 replace ur:=sd_ ur
 replace mj:=bd_ mj
 replace nf:=bd_ nf
 replace ll:=bd_ ll
 replace HB:=A_ (G2 HB.out)
 refine start_ (n:=9) (S:=fun w'=>w'.cell? ⟨wh,0,none⟩=some (.slice ax o2.length av)/\w'.cell? ⟨wh,1,none⟩=some (aq9)) (ds:=[8]) (tl_ 9 0) (g1_) rfl (g1_) ⟨(Gz ll.out 0).trans rfl,(Gz ll.out 1).trans rfl⟩ (fun hHeld=>?_);refine Jm Fo.tab5 Fo.bits5 (fun HT_ HW_=>?_)
 generalize wr.drew=j5 at zx ur mj nf ll HB hHeld |-
 refine pw_ 0 18 (tl_ 9 1) ?_
 refine pw_ 3 21 (tl_ 9 9) ?_
 refine tk7_ 1 19 (tl_ 9 11) hHeld ?_
 refine one_ (i:=2) (N:=some 20) (tl_ 9 15) rfl rfl (Jo HT_.out (g1_)) (by decide) (fun K hK=>?_)
 refine rls_ 20 [] ?_
 intro jy2 ug qq hb hg_ hnew_
 clear hg_ hnew_
 (first|rw[<- hh0.out] at qq|(simp only[Int.reduceToNat] at qq;rw[<- hh0.out] at qq))
 replace ur:=A_ (Kd.S_elder' (uf3_ ur) (Kd.R_base qq) hb)
 have dh6:=A_ (Kd.R_lower (Kd.R_new' qq (Kd.R_lt (uf2_ zx))) (G0 (vb)))
 replace zx:=A_ (Kd.R_elder' (uf2_ zx) (Kd.R_base qq) hb)
 replace mj:=bb_ mj hb
 replace nf:=bb_ nf hb
 replace ll:=bb_ ll hb
 replace HB:=hs_ (vb) hb
 clear hb qq
 refine hK.out _ _ ⟨(Gz ll.out 0).trans rfl,(Gz ll.out 1).trans rfl⟩ (fun hHeld=>?_)
 clear hK K
 refine nm_ ?_
 refine one_ (i:=4) (N:=some 22) (tl_ 9 31) rfl rfl (Jo HT_.out (g1_)) (by decide) (fun K hK=>?_)
 refine Kd.R_append_rows_step (Kd.int .i64) (w0:=w) w.heap.size (by rfl) (.tmp 20) (.tmp 21) 22 3 (.int .i64 0) 8 rfl Try.underlying22 info3 rfl (by decide) (by omega) jy2 ca5 (Jc aa xn) _ _ _ (fun k_=>some k_≠(.slice ax o2.length av:Value).ownBlock) (fun _=>False) rfl rfl ?aO ?aR (fun _ _ h=>h) (fun _ h=>h.elim) ?aF ?aB ?aS ?aL ?_
 (case aR=>exact uf1_ jy1)
 (case aB=>exact(vb))
 (case aF=>exact(fun k_ hk=>Kd.fresh' (Kd.R_lt (uf2_ zx)) k_ hk))
 (case aO=>exact(by(with_reducible repeat(first|apply Kd.R_alloc|apply Kd.R_drewN|apply Kd.R_drew));exact Kd.R_mono dh6.out (fun _ hk=>hk.2)))
 (case aS=>exact(G0 (vb)))
 (case aL=>have:=fl9.out;omega)
 intro mk0 w24 ho hb hg hat
 rw[<- jx8.out] at ho
 replace zx:=A_ (Kd.R_after (ok:=(fun _=>True)) (uf2_ zx) hg hat)
 replace ur:=A_ (Kd.S_after (ok:=(fun k_=>some k_≠(.slice ax o2.length av:Value).ownBlock)) (uf3_ ur) hg hat)
 replace mj:=(bg_ mj hg (Kd.R_ne dh6.out mj.out (by decide)))
 replace nf:=(bg_ nf hg (Kd.R_ne dh6.out nf.out (by decide)))
 replace ll:=(bg_ ll hg (Kd.R_ne dh6.out ll.out (by decide)))
 replace HB:=A_ (hb)
 have ec0:=A_ (ho)
 clear dh6
 clear ho hb hg hat
 obtain⟨ti,tj,au0⟩:=Kd.R_slice ec0.out
 (first|subst au0|(injection au0 with f1_ f2_ f3_;have f4_:=f1_.symm;have f5_:=f3_.symm;clear f1_ f2_ f3_;subst f4_;subst f5_))
 refine hK.out _ _ ⟨(Gz ll.out 0).trans rfl,(Gz ll.out 1).trans rfl⟩ (fun hHeld=>?_)
 clear hK K
 refine nm_ ?_
 refine one_ (i:=5) (N:=some 23) (tl_ 9 63) rfl rfl (Jo HT_.out (g1_)) (by decide) (fun K hK=>?_)
 refine value_ (w1:=?_) (v:=?_) (by rfl) rfl ?_ ?_
 rotate_left 2
 ·go_simp
  constructor
  ·rfl
  rfl
 refine hK.out _ _ ⟨(Gz (G5 ll.out _) 0).trans rfl,(Gz (G5 ll.out _) 1).trans rfl⟩ (fun hHeld=>?_)
 clear hK K
 refine nm_ ?_
 refine one_ (i:=6) (N:=some 24) (tl_ 9 127) rfl rfl (Jo HT_.out (g1_)) (by decide) (fun K hK=>?_)
 refine Kd.S_append_step (Kd.slice 3 (Kd.int .i64)) (w0:=w) w.heap.size (by rfl) (.tmp 19) (.tmp 23) 23 22 (.slice none 0 0) 24 rfl Try.underlying23 info22 rfl (by decide) (by omega) aq9 aj7 dh4 [.slice ti dh4.length tj] (fun k_=>some k_≠(.slice ax o2.length av:Value).ownBlock) (fun k_=>some k_=(.slice ti dh4.length tj:Value).ownBlock) rfl rfl ?aP (fun k_ hk_=>((Kd.R_mono (ok':=fun k_=>((fun k_=>some k_≠(.slice ax o2.length av:Value).ownBlock)) k_/\some k_≠(aq9:Value).ownBlock) (Kd.R_apart' (ec0.out) (Kd.S_typed ur.out) (by decide)) (fun k_ hk=>⟨hk.1,hk.2⟩))).1 k_ hk_.symm) ?aF ?aO ?aB ?aS ?aL ?_
 (case aP=>exact Kd.M_row (Kd.R_mono (Kd.R_tight rfl (Kd.R_mono (ok':=fun k_=>((fun k_=>some k_≠(.slice ax o2.length av:Value).ownBlock)) k_/\some k_≠(aq9:Value).ownBlock) (Kd.R_apart' (ec0.out) (Kd.S_typed ur.out) (by decide)) (fun k_ hk=>⟨hk.1,hk.2⟩))) (fun _ h_=>h_)))
 (case aB=>exact(vb))
 (case aF=>exact(fun k_ hk=>Kd.fresh' (Kd.R_lt (uf2_ zx)) k_ hk))
 (case aO=>exact(by(with_reducible repeat(first|apply Kd.S_alloc|apply Kd.S_drewN|apply Kd.S_drew));exact Kd.S_mono ur.out (fun k_ hk=>⟨hk.1,fun e_=>hk.2 e_⟩)))
 (case aS=>exact(G0 (vb)))
 (case aL=>have:=dw0.out;omega)
 intro mk1 oa ho hb hg hat
 rw[<- jx9.out] at ho
 replace zx:=A_ (Kd.R_over' (uf2_ zx) (Kd.S_typed (uf3_ ur)) (by decide) hg)
 replace mj:=(bg_ mj hg (Kd.S_ne ur.out mj.out (by decide)))
 replace nf:=(bg_ nf hg (Kd.S_ne ur.out nf.out (by decide)))
 replace ll:=(bg_ ll hg (Kd.S_ne ur.out ll.out (by decide)))
 replace HB:=A_ (hb)
 have hh5:=A_ (ho)
 clear ur ec0
 clear ho hb hg hat
 obtain⟨ci1,bv6,bj9⟩:=Kd.S_slice hh5.out
 (first|subst bj9|(injection bj9 with f1_ f2_ f3_;have f4_:=f1_.symm;have f5_:=f3_.symm;clear f1_ f2_ f3_;subst f4_;subst f5_))
 refine hK.out _ _ ⟨(Gz ll.out 0).trans rfl,(Gz ll.out 1).trans rfl⟩ (fun hHeld=>?_)
 clear hK K
 refine nm_ ?_
 refine pw_ 7 25 (tl_ 9 255) ?_
 refine last_ (i:=8) (N:=none) (tl_ 9 511) rfl rfl (Jo HT_.out (g1_)) (by decide) (fun K hK=>?_)
 have mk2:oa.cell? ⟨wh,1,none⟩=some (aq9):=(Gz ll.out 1).trans rfl
 have mk3:=G8 ll.out 1
 have mk4:=cm2.out
 have mk5:=cm3.out
 have mk6:=fl7.out
 have mk7:=fl8.out
 refine skip_ (w1:=?_) (by rfl) rfl ?_ ?_
 rotate_left
 ·go_simp
  rfl
 refine hK.out _ _ ?_
 clear hK K
 refine done_ (done_of HT_.out (g1_)) ?_
 try go_wp2
 go_roundg k1
 case measure=>have:=HK1.out;omega
 case rel=>exact⟨(wrap64 (xn + 1)),(dh5),(.slice ci1 dh5.length bv6),(g2_),H',⟨g13_⟩,⟨ra_ zx⟩,⟨sa_ hh5⟩,⟨ba_ mj⟩,⟨ba_ nf⟩,⟨ba_ ll⟩,⟨vb⟩⟩
def Fq.l0:Nat->List (S25)->Int->Int->List Int->List (List Int)->List (S25)->Option (List Int × (List (List Int)) × (List (S25)))
 | 0,_,_,_,_,_,_=>none
 | k + 1,ls,wg,gx,hh6,hh7,fm2=>if gx < wg then(if 0<=gx then(if gx < (ls.length:Int) then((Fo.f k ((Jd ls gx).f0) ((Jd ls gx).f1)).bind fun bt394=>(if fm2.length < 2932031007402 then(Fq.l0 k ls wg (wrap64 (gx + 1)) hh6 hh7 (fm2 ++ [(⟨bt394.1,bt394.2⟩:S25)])) else(none))) else(none)) else(none)) else(some (hh6,hh7,fm2))
def Fq.f (k:Nat) (ab:List Int) (aa:List (List Int)) (ai:List (S25)):Option (List Int × (List (List Int)) × (List (S25))):=(Fo.f k ab aa).bind fun bt385=>(Fq.l0 k ai (ai.length:Int) 0 bt385.1 bt385.2 ([]:List (S25)))
def Fq.T5:Bool × List (List Nat × List Nat):=(true,[([],[]),([0],[0]),([],[]),([2],[2]),([3],[3]),([1,4,3],[1,4]),([0,1,2,3,4,5],[]),([6,5,5,0,1,2,3,4,5],[5,6])])
def Fq.B5:List Nat:=[0,1,0,4,12,31,63,127]
theorem Fq.tab5:rtab .any (opsOf Try.f104 5)=Fq.T5:=by kernel_rfl
theorem Fq.bits5:waitsOk Fq.T5.2 Fq.B5=true:=by kernel_rfl
theorem vc {p:Prop} (h:p:=by repeat(first|(with_reducible first|exact HB.out|apply G4|apply G3|apply G2|refine G1 ?_ jy3.out|refine G1 ?_ jy4.out|refine G1 ?_ jy5.out|refine G1 ?_ jy6.out)|exact HB.out)):p:=h
set_option maxHeartbeats 8000000 in
set_option maxRecDepth 100000 in
theorem Fq.calls (k:Nat) (ae:Option Addr) (ac:Nat) (ab:List Int) (ag:Option Addr) (af:Nat) (aa:List (List Int)) (ci:Option Addr) (bv:Nat) (ai:List (S25)) (r1:List Int) (r2:List (List Int)) (r3:List (S25)) (w:World) (ca:Kd.C (Kd.int .i64) w ae ab.length ab) (ce:ab.length<=ac) (cb:Kd.C (Kd.slice 3 (Kd.int .i64)) w ag aa.length aa) (cg:aa.length<=af) (k0:Kd.C k25 w ci ai.length ai) (k5:ai.length<=bv) (h:Fq.f k ab aa ai=some (r1,r2,r3)) :
  Calls Try.prog 104 #[.agg #[.slice ae ab.length ac, .slice ag aa.length af, .slice ci ai.length bv]] w fun e w'=>∃v0_ v1_ v2_:Value,e = .returned (.agg #[v0_,v1_,v2_])/\Kd.R (Kd.int .i64) 3 w' w.heap.size (fun _=>True) v0_ r1/\Kd.S (Kd.slice 3 (Kd.int .i64)) 22 w' w.heap.size (fun k_=>some k_≠(v0_:Value).ownBlock) v1_ r2/\Kd.R k25 25 w' w.heap.size (fun k_=>some k_≠(v0_:Value).ownBlock/\some k_≠(v1_:Value).ownBlock) v2_ r3/\Below w.heap.size w w':=by
 have hu28:=Try.underlying28
 have hu25:=Try.underlying25
 have bu:=A_ ca
 have cq:=A_ ce
 clear ca ce
 have bf:=A_ cb
 have cu:=A_ cg
 clear cb cg
 have l9:=A_ k0
 have rf:=A_ k5
 clear k0 k5
 have HB:=A_ (Below.refl w.heap.size w)
 have H:=h
 unfold Fq.f at H
 clear h
 replace H:=Option.bind_eq_some_iff.mp H
 obtain⟨⟨l3,nw⟩,th,H⟩:=H
 try dsimp only at H
 have A2:=A_ th
 clear th
 have H':=A_ H
 clear H
 go_enter Try.func104,Try.ntmps104
 go_wp2_with (first|((with_reducible refine gd_ 1 ?_);refine bx_ (N:=1) #[.slice ae ab.length ac, .slice ag aa.length af, .slice ci ai.length bv] 28 ?_;intro us hg w3 hbox hb;have l4:=A_ (hbox);have mk8:=A_ ((g41_:w.heap.size<=us));have jy3:=mk8;replace HB:=hs_ (vc) hb;clear hb hbox hg)|((with_reducible refine gd_ 2 ?_);refine bx_ (N:=2) #[.slice none 0 0, .slice none 0 0, .slice none 0 0] 28 ?_;intro om hg w4 hbox hb;have ml:=A_ (hbox);have mk9:=A_ ((g41_:w.heap.size<=om));have jy4:=mk9;replace HB:=hs_ (vc) hb;have hh8:=nl_ l4 hg;have hh9:=nr_ l4 hg;replace l4:=bb_ l4 hb;clear hb hbox hg;have eu4:=hh8.out;have eu5:=hh9.out;obtain⟨za,zb,eu6,ag8,zc,eu7⟩:=blk3_ l4)|((with_reducible refine gc_ 111 ?_);refine gl_ 8 Try.func111 #[.agg #[.slice ae ab.length ac, .slice ag aa.length af]] ?_;(refine(Fo.calls k _ _ ab _ _ aa l3 nw _ (uf1_ bu) cq.out (uf1_ bf) cu.out A2.out).mono ?_);rintro e w7 ⟨ml0,ml1,rfl,aj,ar,hb⟩;refine⟨_,rfl,?_⟩;have ec1:=A_ (Kd.R_lower aj (G0 (vc)));have ec2:=A_ (Kd.S_lower ar (G0 (vc)));replace l4:=bb_ l4 hb;replace ml:=bb_ ml hb;replace HB:=hs_ (vc) hb;obtain⟨ia,ib,eo8⟩:=Kd.S_slice ec2.out;subst eo8;obtain⟨ft,fs,eo9⟩:=Kd.R_slice ec1.out;subst eo9)|((with_reducible refine gd_ 3 ?_);refine bx_ (N:=3) #[.slice none 0 0, .slice none 0 0, .slice none 0 0] 28 ?_;intro nx hg w10 hbox hb;replace ec1:=rb_ ec1 hb;replace ec2:=sb_ ec2 hb;have jl:=A_ (hbox);have ml2:=A_ ((g41_:w.heap.size<=nx));have jy5:=ml2;replace HB:=hs_ (vc) hb;have ca6:=nl_ l4 hg;have fm3:=nr_ l4 hg;replace l4:=bb_ l4 hb;have ca7:=nl_ ml hg;have fm4:=nr_ ml hg;replace ml:=bb_ ml hb;clear hb hbox hg;have ah3:=fm3.out;have ah4:=ca6.out;have bv1:=fm4.out;have bv2:=ca7.out;obtain⟨tc,td,cz0,te,tf,cz1⟩:=blk3_ jl;obtain⟨sf,sg,ch5,sh,si,ch6⟩:=blk3_ l4))
 go_loopg [13] k (fun kq v13 w'=>∃(ba:Int) (aw6:List (S25)) (af1:Value),v13 = .int .i64 ba/\Gy (Fq.l0 kq ai (ai.length:Int) ba l3 nw aw6=some (r1,r2,r3))/\Gy (kq<=k)/\Gy (Kd.R (Kd.int .i64) 3 w' w.heap.size (fun _=>True) (.slice ft l3.length fs) l3)/\Gy (Kd.S (Kd.slice 3 (Kd.int .i64)) 22 w' w.heap.size (fun k_=>some k_≠((.slice ft l3.length fs):Value).ownBlock) (.slice ia nw.length ib) nw)/\Gy (Kd.R k25 25 w' w.heap.size (fun k_=>some k_≠((.slice ft l3.length fs):Value).ownBlock/\some k_≠((.slice ia nw.length ib):Value).ownBlock) af1 aw6)/\Gy (hc_ w' us #[(.slice ae ab.length ac),(.slice ag aa.length af),(.slice ci ai.length bv)] 28)/\Gy (hc_ w' om #[(.slice none 0 0),(.slice none 0 0),(.slice none 0 0)] 28)/\Gy (hc_ w' nx #[(.slice ft l3.length fs),(.slice ia nw.length ib),af1] 28)/\Gy (Below w.heap.size w w'))
 case atStart=>exact⟨(0),(([]:List (S25))),(.slice none 0 0),(g2_),H',⟨Nat.le_refl _⟩,⟨ra_ ec1⟩,⟨sa_ ec2⟩,⟨g18_⟩,⟨ba_ l4⟩,⟨ba_ ml⟩,⟨ba_ jl⟩,⟨vc⟩⟩
 clear H'
 obtain⟨ba,aw6,af1,rfl,HA,HK1,ut,uu,qe,l4,ml,jl,HB⟩:=hrel
 cases gk with
 | zero=>exact absurd HA.out (by simp[Fq.l0])
 | succ k1=>?_
 have H:=HA.out
 clear HA
 simp only[Fq.l0] at H
 by_cases dl:ba < (ai.length:Int)
 case neg=>
  rw[if_neg dl] at H
  have mb:=decide_eq_false dl
  clear dl
  simp only[Option.some.injEq,Prod.mk.injEq] at H
  obtain⟨rfl,rfl,rfl⟩:=H
  have bk0:=fm3.out
  have bk1:=ca6.out
  have dg5:=fm4.out
  have dg6:=ca7.out
  obtain⟨ba8,ba9,bn0,bb0,bb1,bn1⟩:=blk3_ jl
  have ea3:=hh9.out
  have ea4:=hh8.out
  obtain⟨ey2,ey3,mm7,ey4,ey5,mm8⟩:=blk3_ ml
  obtain⟨lv,j8,au1⟩:=Kd.R_slice qe.out
  subst au1
  go_wp2
  refine bodyPost_ret (results_cell_row rfl _ _ om 28 #[.slice ft l3.length fs, .slice ia nw.length ib, .slice lv aw6.length j8] (0,0) _ rfl (ba_ ml) Try.underlying28 rfl (g1_)) rfl ?_
  exact⟨_,_,_,g4_,ra_ ut,sa_ uu,ra_ qe,vc⟩
 rw[if_pos dl] at H
 have mb:=decide_eq_true dl
 clear dl
 obtain⟨vm,H⟩:=pd_ H
 obtain⟨vg,H⟩:=pd_ H
 replace H:=Option.bind_eq_some_iff.mp H
 obtain⟨⟨dh7,dh8⟩,dh9,H⟩:=H
 try dsimp only at H
 have A18:=A_ dh9
 clear dh9
 obtain⟨ei,H⟩:=pos_ H
 have fl9:=A_ ei
 clear ei
 obtain⟨cm4,hyq⟩:∃y_:List (S25),y_=(aw6 ++ [(⟨dh7,dh8⟩:S25)]):=⟨_,rfl⟩
 replace H:(Fq.l0 k1 ai (ai.length:Int) (wrap64 (ba + 1)) l3 nw cm4)=some (r1,r2,r3):=qh_
 have jy7:=A_ hyq
 clear hyq
 have H':=A_ H
 clear H
 obtain⟨⟨ec3,ts,tt,uv,uw,jy8,hi2,hi3,hi4,hi5,hi6,hi7⟩,fm5,fm6⟩:=rdp_ (at_T25 l9.out ba)
 cases jy8
 replace hi2:=cl_ HB hi2
 replace hi3:=cl_ HB hi3
 have jy9:=A_ hi5
 have jz0:=A_ hi4
 clear hi5 hi4
 have jz1:=A_ hi7
 have jz2:=A_ hi6
 clear hi7 hi6
 try go_wp2_with (first|((with_reducible refine gd_ 5 ?_);refine bx_ (N:=5) #[.slice none 0 0, .slice none 0 0] 25 ?_;intro i6 hg hf hbox hb;replace ut:=rb_ ut hb;replace uu:=sb_ uu hb;replace qe:=A_ (Kd.R_below (Kd.R_elderB (uf2_ qe) i6 (Nat.le_of_eq hg.symm)) hb);have o3:=A_ (hbox);have ml3:=A_ ((g41_:w.heap.size<=i6));have jy6:=ml3;replace HB:=hs_ (vc) hb;have fm7:=nl_ l4 hg;have jz3:=nr_ l4 hg;replace l4:=bb_ l4 hb;have fm8:=nl_ ml hg;have jz4:=nr_ ml hg;replace ml:=bb_ ml hb;have ec4:=nl_ jl hg;have hi8:=nr_ jl hg;replace jl:=bb_ jl hb;clear hb hbox hg;have gt1:=jz3.out;have gt2:=fm7.out;have ml4:=jz4.out;have ml5:=fm8.out;have gb8:=hi8.out;have gb9:=ec4.out;obtain⟨ct9,cu0,cu1,cu2⟩:=blk2_ o3))
 have n0_:Gy (Kd.R (Kd.int .i64) 3 ((hf.setCell ⟨i6,0,none⟩ (.slice ts ((Jd ai ba).f0).length tt)).setCell ⟨i6,1,none⟩ (.slice uv ((Jd ai ba).f1).length uw)) w.heap.size (fun _=>True) (.slice ft l3.length fs) l3):=⟨ra_ ut⟩
 have n1_:Gy (Kd.S (Kd.slice 3 (Kd.int .i64)) 22 ((hf.setCell ⟨i6,0,none⟩ (.slice ts ((Jd ai ba).f0).length tt)).setCell ⟨i6,1,none⟩ (.slice uv ((Jd ai ba).f1).length uw)) w.heap.size (fun k_=>some k_≠(.slice ft l3.length fs:Value).ownBlock) (.slice ia nw.length ib) nw):=⟨sa_ uu⟩
 have n2_:Gy (Kd.R k25 25 ((hf.setCell ⟨i6,0,none⟩ (.slice ts ((Jd ai ba).f0).length tt)).setCell ⟨i6,1,none⟩ (.slice uv ((Jd ai ba).f1).length uw)) w.heap.size (fun k_=>some k_≠(.slice ft l3.length fs:Value).ownBlock/\some k_≠(.slice ia nw.length ib:Value).ownBlock/\k_≠i6) af1 aw6):=⟨ra_ qe⟩
 have n3_:Gy (((hf.setCell ⟨i6,0,none⟩ (.slice ts ((Jd ai ba).f0).length tt)).setCell ⟨i6,1,none⟩ (.slice uv ((Jd ai ba).f1).length uw)).heap[us]? = some (.cells #[.slice ae ab.length ac, .slice ag aa.length af, .slice (some ec3) ai.length bv] 28 (0,0))):=⟨ba_ l4⟩
 have n4_:Gy (((hf.setCell ⟨i6,0,none⟩ (.slice ts ((Jd ai ba).f0).length tt)).setCell ⟨i6,1,none⟩ (.slice uv ((Jd ai ba).f1).length uw)).heap[om]? = some (.cells #[.slice none 0 0, .slice none 0 0, .slice none 0 0] 28 (0,0))):=⟨ba_ ml⟩
 have n5_:Gy (((hf.setCell ⟨i6,0,none⟩ (.slice ts ((Jd ai ba).f0).length tt)).setCell ⟨i6,1,none⟩ (.slice uv ((Jd ai ba).f1).length uw)).heap[nx]? = some (.cells #[.slice ft l3.length fs, .slice ia nw.length ib,af1] 28 (0,0))):=⟨ba_ jl⟩
 have n6_:Gy (((hf.setCell ⟨i6,0,none⟩ (.slice ts ((Jd ai ba).f0).length tt)).setCell ⟨i6,1,none⟩ (.slice uv ((Jd ai ba).f1).length uw)).heap[i6]? = some (.cells #[.slice ts ((Jd ai ba).f0).length tt, .slice uv ((Jd ai ba).f1).length uw] 25 (0,0))):=⟨ba_ o3⟩
 have n7_:Gy (Below w.heap.size w ((hf.setCell ⟨i6,0,none⟩ (.slice ts ((Jd ai ba).f0).length tt)).setCell ⟨i6,1,none⟩ (.slice uv ((Jd ai ba).f1).length uw))):=⟨vc⟩
 generalize ((hf.setCell ⟨i6,0,none⟩ (.slice ts ((Jd ai ba).f0).length tt)).setCell ⟨i6,1,none⟩ (.slice uv ((Jd ai ba).f1).length uw))=oa at n0_ n1_ n2_ n3_ n4_ n5_ n6_ n7_ |-
 have ut:=n0_
 have uu:=n1_
 have qe:=n2_
 have l4:=n3_
 have ml:=n4_
 have jl:=n5_
 have o3:=n6_
 have HB:=n7_
 clear n0_ n1_ n2_ n3_ n4_ n5_ n6_ n7_
 replace ut:=rd_ ut
 replace uu:=sd_ uu
 replace qe:=rd_ qe
 replace l4:=bd_ l4
 replace ml:=bd_ ml
 replace jl:=bd_ jl
 replace o3:=bd_ o3
 replace HB:=A_ (G2 HB.out)
 refine start_ (n:=8) (S:=fun w'=>w'.cell? ⟨nx,0,none⟩=some (.slice ft l3.length fs)/\w'.cell? ⟨nx,1,none⟩=some (.slice ia nw.length ib)/\w'.cell? ⟨nx,2,none⟩=some (af1)/\w'.cell? ⟨i6,0,none⟩=some (.slice ts ((Jd ai ba).f0).length tt)/\w'.cell? ⟨i6,1,none⟩=some (.slice uv ((Jd ai ba).f1).length uw)) (ds:=[7]) (tl_ 8 0) (g1_) rfl (g1_) ⟨(Gz jl.out 0).trans rfl,(Gz jl.out 1).trans rfl,(Gz jl.out 2).trans rfl,(Gz o3.out 0).trans rfl,(Gz o3.out 1).trans rfl⟩ (fun hHeld=>?_);refine Jm Fq.tab5 Fq.bits5 (fun HT_ HW_=>?_)
 generalize oa.drew=w26 at ut uu qe l4 ml jl o3 HB hHeld |-
 refine pw_ 0 17 (tl_ 8 1) ?_
 refine tk5_ 1 18 (tl_ 8 3) hHeld ?_
 refine tk5_ 2 19 (tl_ 8 7) hHeld ?_
 refine one_ (i:=3) (N:=some 20) (tl_ 8 15) rfl rfl (Jo HT_.out (g1_)) (by decide) (fun K hK=>?_)
 refine goes_ Try.func111 (g1_) rfl #[.agg #[.slice ts ((Jd ai ba).f0).length tt, .slice uv ((Jd ai ba).f1).length uw]] (by rfl) rfl rfl (g3_) ?_
 refine(Fo.calls k1 _ _ ((Jd ai ba).f0) _ _ ((Jd ai ba).f1) dh7 dh8 _ (uf1_ jy9) jz0.out (uf1_ jz1) jz2.out A18.out).mono ?_
 rintro e w27 ⟨ml6,ml7,rfl,aj,ar,hb⟩
 refine⟨_,rfl,?_⟩
 replace qe:=A_ (Kd.R_mono (Kd.R_told (Kd.R_told (Kd.R_old (uf2_ qe) hb) (Kd.R_base aj)) (Kd.S_base ar)) (fun _ h_=>h_.1))
 have fm9:=A_ (Kd.R_lower (Kd.R_new' aj (Kd.R_lt (uf2_ ut))) (G0 (vc)))
 have fn0:=A_ (Kd.S_lower (Kd.S_new' (Kd.S_new' ar (Kd.R_lt (uf2_ ut))) (Kd.S_lt (uf3_ uu))) (G0 (vc)))
 replace ut:=A_ (Kd.R_elder' (uf2_ ut) (Kd.R_base aj) hb)
 replace uu:=A_ (Kd.S_mono (Kd.S_told (Kd.S_told (Kd.S_old (uf3_ uu) hb) (Kd.R_base aj)) (Kd.S_base ar)) (fun _ h_=>h_.1))
 replace l4:=bb_ l4 hb
 replace ml:=bb_ ml hb
 replace jl:=bb_ jl hb
 replace o3:=bb_ o3 hb
 replace HB:=hs_ (vc) hb
 obtain⟨dw2,cj0,bc1⟩:=Kd.R_slice fm9.out
 (first|subst bc1|(injection bc1 with f1_ f2_ f3_;have f4_:=f1_.symm;have f5_:=f3_.symm;clear f1_ f2_ f3_;subst f4_;subst f5_))
 obtain⟨ka,kb,bo2⟩:=Kd.S_slice fn0.out
 (first|subst bo2|(injection bo2 with f1_ f2_ f3_;have f4_:=f1_.symm;have f5_:=f3_.symm;clear f1_ f2_ f3_;subst f4_;subst f5_))
 refine hK.out _ _ ⟨(Gz jl.out 0).trans rfl,(Gz jl.out 1).trans rfl,(Gz jl.out 2).trans rfl,(Gz o3.out 0).trans rfl,(Gz o3.out 1).trans rfl⟩ (fun hHeld=>?_)
 clear hK K
 refine nm_ ?_
 refine one_ (i:=4) (N:=some 21) (tl_ 8 31) rfl rfl (Jo HT_.out (g1_)) (by decide) (fun K hK=>?_)
 refine value_ (w1:=?_) (v:=?_) (by rfl) rfl ?_ ?_
 rotate_left 2
 ·go_simp
  constructor
  ·rfl
  rfl
 refine hK.out _ _ ⟨(Gz (G5 jl.out _) 0).trans rfl,(Gz (G5 jl.out _) 1).trans rfl,(Gz (G5 jl.out _) 2).trans rfl,(Gz (G5 o3.out _) 0).trans rfl,(Gz (G5 o3.out _) 1).trans rfl⟩ (fun hHeld=>?_)
 clear hK K
 refine nm_ ?_
 refine one_ (i:=5) (N:=some 22) (tl_ 8 63) rfl rfl (Jo HT_.out (g1_)) (by decide) (fun K hK=>?_)
 refine Kd.R_append_step k25 (w0:=w) w.heap.size (by rfl) (.tmp 18) (.tmp 21) 26 25 (.agg #[(.slice none 0 0),(.slice none 0 0)]) 48 rfl Try.underlying26 info25 rfl (by decide) (by omega) af1 aw6 (⟨dh7,dh8⟩:S25) [.slice dw2 dh7.length cj0, .slice ka dh8.length kb] (fun k_=>some k_≠(.slice ft l3.length fs:Value).ownBlock/\some k_≠(.slice ia nw.length ib:Value).ownBlock/\k_≠i6) (fun k_=>((fun k_=>some k_≠(.slice ft l3.length fs:Value).ownBlock/\some k_≠(.slice ia nw.length ib:Value).ownBlock/\k_≠i6)) k_/\some k_≠(af1:Value).ownBlock) rfl rfl ?aP (fun _ hk=>hk) ?aF ?aO ?aB ?aS ?aL ?_
 (case aP=>exact k25_mkM _ _ _ (⟨dh7,dh8⟩:S25) (Kd.R_mono (Kd.R_types (Kd.R_apart' (Kd.R_apart' (fm9.out) (Kd.S_typed uu.out) (by decide)) (Kd.R_typed qe.out) (by decide)) o3.out (by decide)) (fun k_ hk=>⟨⟨hk.1.1.1.2,⟨hk.1.1.2,hk.2⟩⟩,hk.1.2⟩)) (Kd.R_mono (Kd.R_types (Kd.R_apart' ((Kd.S_R fn0.out)) (Kd.R_typed qe.out) (by decide)) o3.out (by decide)) (fun k_ hk=>⟨⟨hk.1.1.1.2,⟨hk.1.1.2,hk.2⟩⟩,hk.1.2⟩)))
 (case aB=>exact(vc))
 (case aF=>exact(fun k_ hk=>⟨Kd.fresh' (Kd.R_lt (uf2_ ut)) k_ hk,Kd.fresh' (Kd.S_lt (uf3_ uu)) k_ hk,Kd.freshB (g:=i6) (o:=.cells #[.slice ts ((Jd ai ba).f0).length tt, .slice uv ((Jd ai ba).f1).length uw] 25 (0,0)) (uf0_ o3) k_ hk⟩))
 (case aO=>exact(by(with_reducible repeat(first|apply Kd.R_alloc|apply Kd.R_drewN|apply Kd.R_drew));exact Kd.R_mono qe.out (fun _ hk=>⟨hk.1.1.1,⟨hk.1.1.2.1,hk.1.1.2.2⟩⟩)))
 (case aS=>exact(G0 (vc)))
 (case aL=>have:=fl9.out;omega)
 intro ml8 w28 ho hb hg hat
 rw[<- jy7.out] at ho
 replace ut:=A_ (Kd.R_over' (uf2_ ut) (Kd.R_typed (uf2_ qe)) (by decide) hg)
 replace uu:=A_ (Kd.S_over' (uf3_ uu) (Kd.R_typed (uf2_ qe)) (by decide) hg)
 replace l4:=(bg_ l4 hg (Kd.R_ne qe.out l4.out (by decide)))
 replace ml:=(bg_ ml hg (Kd.R_ne qe.out ml.out (by decide)))
 replace jl:=(bg_ jl hg (Kd.R_ne qe.out jl.out (by decide)))
 replace o3:=(bg_ o3 hg (Kd.R_away qe.out (fun _ hk=>hk.1.1.2.2)))
 replace HB:=A_ (hb)
 have hi9:=A_ (ho)
 clear qe fm9 fn0
 clear ho hb hg hat
 obtain⟨zy,zz,ec5⟩:=Kd.R_slice hi9.out
 (first|subst ec5|(injection ec5 with f1_ f2_ f3_;have f4_:=f1_.symm;have f5_:=f3_.symm;clear f1_ f2_ f3_;subst f4_;subst f5_))
 refine hK.out _ _ ⟨(Gz jl.out 0).trans rfl,(Gz jl.out 1).trans rfl,(Gz jl.out 2).trans rfl,(Gz o3.out 0).trans rfl,(Gz o3.out 1).trans rfl⟩ (fun hHeld=>?_)
 clear hK K
 refine nm_ ?_
 refine pw_ 6 23 (tl_ 8 127) ?_
 refine last_ (i:=7) (N:=none) (tl_ 8 255) rfl rfl (Jo HT_.out (g1_)) (by decide) (fun K hK=>?_)
 have ml9:w28.cell? ⟨nx,2,none⟩=some (af1):=(Gz jl.out 2).trans rfl
 have mm0:=G8 jl.out 2
 have mm1:=ca6.out
 have mm2:=ca7.out
 have mm3:=hi8.out
 have mm4:=fm3.out
 have mm5:=fm4.out
 have mm6:=ec4.out
 refine skip_ (w1:=?_) (by rfl) rfl ?_ ?_
 rotate_left
 ·go_simp
  rfl
 refine hK.out _ _ ?_
 clear hK K
 refine done_ (done_of HT_.out (g1_)) ?_
 try go_wp2
 go_roundg k1
 case measure=>have:=HK1.out;omega
 case rel=>exact⟨(wrap64 (ba + 1)),(cm4),(.slice zy cm4.length zz),(g2_),H',⟨g13_⟩,⟨ra_ ut⟩,⟨sa_ uu⟩,⟨ra_ hi9⟩,⟨ba_ l4⟩,⟨ba_ ml⟩,⟨ba_ jl⟩,⟨vc⟩⟩
def Gl.f (k:Nat) (ab:List Int) (aa:List (List Int)) (a1:Int):Option (Bool):=(Fg.f k ab aa).bind fun di0=>(if di0=true then(if a1 ≥ 0 then(some (decide (a1 < (ab.length:Int)))) else(some false)) else(some false))
theorem ay3 {p:Prop} (h:p:=by repeat(first|(with_reducible first|exact HB.out|apply G4|apply G3|apply G2|refine G1 ?_ fn1.out)|exact HB.out)):p:=h
set_option maxHeartbeats 8000000 in
set_option maxRecDepth 100000 in
theorem Gl.calls (k:Nat) (ae:Option Addr) (ac:Nat) (ab:List Int) (ag:Option Addr) (af:Nat) (aa:List (List Int)) (a1:Int) (r:Bool) (w:World) (ca:Kd.C (Kd.int .i64) w ae ab.length ab) (ce:ab.length<=ac) (cb:Kd.C (Kd.slice 3 (Kd.int .i64)) w ag aa.length aa) (cg:aa.length<=af) (h:Gl.f k ab aa a1=some r) :
  Calls Try.prog 83 #[.agg #[.slice ae ab.length ac, .slice ag aa.length af], .int .i64 a1] w fun e w'=>e = .returned (.bool r)/\Below w.heap.size w w':=by
 have hu25:=Try.underlying25
 have bu:=A_ ca
 have cq:=A_ ce
 clear ca ce
 have bf:=A_ cb
 have cu:=A_ cg
 clear cb cg
 have HB:=A_ (Below.refl w.heap.size w)
 have H:=h
 unfold Gl.f at H
 clear h
 obtain⟨di0,A3,H⟩:=bind_ H
 by_cases c4:di0=true
 case neg=>
  replace c4:=Bool.eq_false_iff.mpr c4
  subst c4
  replace H:=ifn_ H
  obtain rfl:=Option.some.inj H
  go_enter Try.func83,Try.ntmps83
  go_wp2_with (first|((with_reducible refine gd_ 2 ?_);(try(refine gate_guard (by rfl) ?_;dsimp only));refine bx_ (N:=2) #[.slice ae ab.length ac, .slice ag aa.length af] 25 ?_;intro bo3 hg w13 hbox hb;have aj8:=A_ (hbox);have hj0:=A_ ((g67_:w.heap.size<=bo3));have fn1:=hj0;replace HB:=hs_ (ay3) hb;clear hb hbox hg;obtain⟨sf,sg,sh,si⟩:=blk2_ aj8)|((with_reducible refine gc_ 73 ?_);refine gl_ 6 Try.func73 #[.agg #[.slice ae ab.length ac, .slice ag aa.length af]] ?_;(refine(Fg.calls k _ _ ab _ _ aa false _ (uf1_ bu) cq.out (uf1_ bf) cu.out A3.out).mono ?_);rintro e w15 ⟨rfl,hb⟩;refine⟨_,rfl,?_⟩;replace aj8:=bb_ aj8 hb;replace HB:=hs_ (ay3) hb))
  go_ret
  exact⟨g4_,ay3⟩
 subst c4
 replace H:=ifp_ H
 by_cases c5:a1 ≥ 0
 ·rw[if_pos c5] at H
  have ij:=decide_eq_true c5
  clear c5
  obtain rfl:=Option.some.inj H
  go_enter Try.func83,Try.ntmps83
  go_wp2_with (first|((with_reducible refine gd_ 2 ?_);(try(refine gate_guard (by rfl) ?_;dsimp only));refine bx_ (N:=2) #[.slice ae ab.length ac, .slice ag aa.length af] 25 ?_;intro bo3 hg w6 hbox hb;have aj8:=A_ (hbox);have hj0:=A_ ((g67_:w.heap.size<=bo3));have fn1:=hj0;replace HB:=hs_ (ay3) hb;clear hb hbox hg;obtain⟨sx,sy,ta,tb⟩:=blk2_ aj8)|((with_reducible refine gc_ 73 ?_);refine gl_ 6 Try.func73 #[.agg #[.slice ae ab.length ac, .slice ag aa.length af]] ?_;(refine(Fg.calls k _ _ ab _ _ aa true _ (uf1_ bu) cq.out (uf1_ bf) cu.out A3.out).mono ?_);rintro e w8 ⟨rfl,hb⟩;refine⟨_,rfl,?_⟩;replace aj8:=bb_ aj8 hb;replace HB:=hs_ (ay3) hb;obtain⟨cf9,cg0,cg1,cg2⟩:=blk2_ aj8))
  go_ret
  exact⟨g4_,ay3⟩
 rw[if_neg c5] at H
 have ij:=decide_eq_false c5
 clear c5
 obtain rfl:=Option.some.inj H
 go_enter Try.func83,Try.ntmps83
 go_wp2_with (first|((with_reducible refine gd_ 2 ?_);(try(refine gate_guard (by rfl) ?_;dsimp only));refine bx_ (N:=2) #[.slice ae ab.length ac, .slice ag aa.length af] 25 ?_;intro bo3 hg w10 hbox hb;have aj8:=A_ (hbox);have hj0:=A_ ((g67_:w.heap.size<=bo3));have fn1:=hj0;replace HB:=hs_ (ay3) hb;clear hb hbox hg;obtain⟨yu,yv,yw,yx⟩:=blk2_ aj8)|((with_reducible refine gc_ 73 ?_);refine gl_ 6 Try.func73 #[.agg #[.slice ae ab.length ac, .slice ag aa.length af]] ?_;(refine(Fg.calls k _ _ ab _ _ aa true _ (uf1_ bu) cq.out (uf1_ bf) cu.out A3.out).mono ?_);rintro e ws ⟨rfl,hb⟩;refine⟨_,rfl,?_⟩;replace aj8:=bb_ aj8 hb;replace HB:=hs_ (ay3) hb))
 go_ret
 exact⟨g4_,ay3⟩
def Gw.f (k:Nat) (ab:List Int) (aa:List (List Int)) (a1:Int) (a2:Int):Option (List Int × (List (List Int))):=(Fo.f k ab aa).bind fun bt407=>(if 0<=a1 then(if a1 < (bt407.1.length:Int) then(some ((bt407.1.set (a1:Int).toNat a2),bt407.2)) else(none)) else(none))
theorem bh5 {p:Prop} (h:p:=by repeat(first|(with_reducible first|exact HB.out|apply G4|apply G3|apply G2|refine G1 ?_ jz5.out|refine G1 ?_ jz6.out|refine G1 ?_ jz7.out)|exact HB.out)):p:=h
set_option maxHeartbeats 8000000 in
set_option maxRecDepth 100000 in
theorem Gw.calls (k:Nat) (ae:Option Addr) (ac:Nat) (ab:List Int) (ag:Option Addr) (af:Nat) (aa:List (List Int)) (a1:Int) (a2:Int) (r1:List Int) (r2:List (List Int)) (w:World) (ca:Kd.C (Kd.int .i64) w ae ab.length ab) (ce:ab.length<=ac) (cb:Kd.C (Kd.slice 3 (Kd.int .i64)) w ag aa.length aa) (cg:aa.length<=af) (h:Gw.f k ab aa a1 a2=some (r1,r2)) :
  Calls Try.prog 84 #[.agg #[.slice ae ab.length ac, .slice ag aa.length af], .int .i64 a1, .int .i64 a2] w fun e w'=>∃v0_ v1_:Value,e = .returned (.agg #[v0_,v1_])/\Kd.R (Kd.int .i64) 3 w' w.heap.size (fun _=>True) v0_ r1/\Kd.S (Kd.slice 3 (Kd.int .i64)) 22 w' w.heap.size (fun k_=>some k_≠(v0_:Value).ownBlock) v1_ r2/\Below w.heap.size w w':=by
 have hu25:=Try.underlying25
 have bu:=A_ ca
 have cq:=A_ ce
 clear ca ce
 have bf:=A_ cb
 have cu:=A_ cg
 clear cb cg
 have HB:=A_ (Below.refl w.heap.size w)
 have H:=h
 unfold Gw.f at H
 clear h
 replace H:=Option.bind_eq_some_iff.mp H
 obtain⟨⟨sp,aj9⟩,oc,H⟩:=H
 try dsimp only at H
 have A4:=A_ oc
 clear oc
 obtain⟨ij,H⟩:=pd_ H
 obtain⟨nk,H⟩:=pd_ H
 obtain⟨hj1,hyq⟩:∃y_:List Int,y_=(sp.set (a1:Int).toNat a2):=⟨_,rfl⟩
 replace H:(some (hj1,aj9))=some (r1,r2):=qh_
 have jz8:=A_ hyq
 clear hyq
 simp only[Option.some.injEq,Prod.mk.injEq] at H
 obtain⟨rfl,rfl⟩:=H
 go_enter Try.func84,Try.ntmps84
 go_wp2_with (first|((with_reducible refine gd_ 3 ?_);refine bx_ (N:=3) #[.slice ae ab.length ac, .slice ag aa.length af] 25 ?_;intro ak0 hg w8 hbox hb;have wi:=A_ (hbox);have mm9:=A_ ((g68_:w.heap.size<=ak0));have jz5:=mm9;replace HB:=hs_ (bh5) hb;clear hb hbox hg)|((with_reducible refine gd_ 6 ?_);refine bx_ (N:=6) #[.slice none 0 0, .slice none 0 0] 25 ?_;intro xo hg w9 hbox hb;have xp:=A_ (hbox);have mn0:=A_ ((g68_:w.heap.size<=xo));have jz6:=mn0;replace HB:=hs_ (bh5) hb;have jz9:=nl_ wi hg;have ka0:=nr_ wi hg;replace wi:=bb_ wi hb;clear hb hbox hg;have bn8:=jz9.out;have bn9:=ka0.out;obtain⟨yu,yv,yw,yx⟩:=blk2_ wi)|((with_reducible refine gc_ 111 ?_);refine gl_ 9 Try.func111 #[.agg #[.slice ae ab.length ac, .slice ag aa.length af]] ?_;(refine(Fo.calls k _ _ ab _ _ aa sp aj9 _ (uf1_ bu) cq.out (uf1_ bf) cu.out A4.out).mono ?_);rintro e ws ⟨mn1,mn2,rfl,aj,ar,hb⟩;refine⟨_,rfl,?_⟩;have z8:=A_ (Kd.R_lower aj (G0 (bh5)));have bo4:=A_ (Kd.S_lower ar (G0 (bh5)));replace wi:=bb_ wi hb;replace xp:=bb_ xp hb;replace HB:=hs_ (bh5) hb)|((with_reducible refine gd_ 7 ?_);refine bx_ (N:=7) #[.slice none 0 0, .slice none 0 0] 25 ?_;intro z9 hg w13 hbox hb;replace z8:=rb_ z8 hb;replace bo4:=sb_ bo4 hb;have aw7:=A_ (hbox);have mn3:=A_ ((g68_:w.heap.size<=z9));have jz7:=mn3;replace HB:=hs_ (bh5) hb;have fn2:=nl_ wi hg;have ka1:=nr_ wi hg;replace wi:=bb_ wi hb;have fn3:=nl_ xp hg;have ka2:=nr_ xp hg;replace xp:=bb_ xp hb;clear hb hbox hg;obtain⟨es,dr,ag7⟩:=Kd.R_slice z8.out;subst ag7;have dt6:=ka1.out;have dt7:=fn2.out;have dz8:=ka2.out;have dz9:=fn3.out;obtain⟨ff3,ff4,ff5,ff6⟩:=blk2_ aw7;obtain⟨az,ay,az9⟩:=Kd.S_slice bo4.out;subst az9)|((with_reducible refine gate_store (t:=25) (p:=7) rfl ?_);refine store_event (t:=25) (p:=7) (v:=?vo_w19) (w1:=((w13.setCell ⟨z9,0,none⟩ (.slice es sp.length dr)).setCell ⟨z9,1,none⟩ (.slice az aj9.length ay))) ?hg ?ho ?hn ?hr ?_;(case ho=>rfl);(case hg=>rfl);(case hn=>rfl);(case hr=>first|(go_simp;done)|(go_simp;rfl));intro iq hw;replace z8:Gy (Kd.R (Kd.int .i64) 3 iq w.heap.size (fun _=>True) (.slice es sp.length dr) sp):=⟨(by rw[hw];exact(ra_ z8))⟩;replace bo4:Gy (Kd.S (Kd.slice 3 (Kd.int .i64)) 22 iq w.heap.size (fun k_=>some k_≠(.slice es sp.length dr:Value).ownBlock) (.slice az aj9.length ay) aj9):=⟨(by rw[hw];exact(sa_ bo4))⟩;replace wi:Gy (hc_ iq ak0 #[.slice ae ab.length ac, .slice ag aa.length af] 25):=⟨(by rw[hw];exact(ba_ wi))⟩;replace xp:Gy (hc_ iq xo #[.slice none 0 0, .slice none 0 0] 25):=⟨(by rw[hw];exact(ba_ xp))⟩;replace aw7:Gy (hc_ iq z9 #[.slice es sp.length dr, .slice az aj9.length ay] 25):=⟨(by rw[hw];exact(ba_ aw7))⟩;replace HB:Gy (Below w.heap.size w iq):=⟨(by rw[hw];exact(bh5))⟩;clear hw;obtain⟨cz3,cz4,cz5,cz6⟩:=blk2_ aw7;have p7:0<=(a1:Int):=od_;have q7:(a1:Int) < ((sp.length:Int):Int):=od_;obtain⟨go7,co7,eo7,gb7,gl7,cl7,HG7⟩:=Kd.R_form z8.out (by omega);(first|cases eo7|(injection eo7 with ea_ en_ ec_;(first|subst ea_|(injection ea_ with ea_;subst ea_));subst ec_;clear en_));have GB7:=A_ gb7;have GG7:=A_ HG7;clear gb7 gl7 HG7;obtain⟨mn4,hf7_0⟩:=Kd.R_celln 0 z8.out (a1:Int) p7 q7;replace p7:=eq_true p7;replace q7:=eq_true q7;obtain⟨hy21_,hz21_⟩:=Kd.R_celln 0 z8.out (a1:Int) (od_) (od_);have HP21:=Kd.R_putg z8.out (a1:Int) a2)|((with_reducible refine gate_store (t:=3) (p:=14) rfl ?_);refine store_event (t:=3) (p:=14) (v:=?vo_w22) (w1:=(iq.setCell ⟨go7,(a1:Int).toNat,none⟩ (.int .i64 a2))) ?hg ?ho ?hn ?hr ?_;(case ho=>rfl);(case hg=>rfl);(case hn=>rfl);(case hr=>first|(go_simp;done)|(go_simp;rfl));intro ug hw;have hg:iq.grownBy ug (some go7):=(by rw[hw];exact HP21.2);have hp_:Kd.R (Kd.int .i64) 3 ug w.heap.size (fun _=>True) (.slice (some ⟨go7,0,none⟩) sp.length dr) hj1:=(by rw[hw,jz8.out];exact HP21.1);clear HP21;replace wi:=(bg_ wi hg (Kd.R_ne z8.out wi.out (by decide)));replace xp:=(bg_ xp hg (Kd.R_ne z8.out xp.out (by decide)));replace bo4:=A_ (Kd.S_after (v:=(.slice (some ⟨go7,0,none⟩) sp.length dr)) (v1:=(.slice (some ⟨go7,0,none⟩) sp.length dr)) (ok:=(fun _=>True)) (by(with_reducible repeat(first|apply Kd.S_alloc|apply Kd.S_drewN|apply Kd.S_drew));exact Kd.S_mono bo4.out (fun _ hk=>⟨trivial,hk⟩)) hg (.inl rfl));replace aw7:=(bg_ aw7 hg (Kd.R_ne z8.out aw7.out (by decide)));replace z8:=A_ (hp_);replace HB:=A_ ((by rw[hw];exact G1 (HB.out) GB7.out:Below w.heap.size w ug));clear hg hw hp_;obtain⟨fn4,fn5,fn6,fn7⟩:=blk2_ aw7;obtain⟨ct9,cu0,cu1,cu2⟩:=blk2_ xp))
 refine bodyPost_ret (results_cell_row rfl _ _ xo 25 #[.slice (some ⟨go7,0,none⟩) sp.length dr, .slice az aj9.length ay] (0,0) _ rfl (ba_ xp) Try.underlying25 rfl (g1_)) rfl ?_
 exact⟨_,_,g4_,ra_ z8,sa_ bo4,bh5⟩
mutual
def Fw.l0:Nat->List (List Int)->Int->Int->List Int->List (List Int)->List Int->List (List Int)->Option (List Int × (List (List Int)))
 | 0,_,_,_,_,_,_,_=>none
 | k + 1,ls,wg,gx,ec6,ca8,di1,bo5=>if gx < wg then(if 0<=gx then(if gx < (ls.length:Int) then(Fw.l1 k gx ls wg gx (Jc ls gx) ((Jc ls gx).length:Int) 0 ec6 ca8 di1 bo5) else(none)) else(none)) else(some (di1,bo5))
def Fw.l1:Nat->Int->List (List Int)->Int->Int->List Int->Int->Int->List Int->List (List Int)->List Int->List (List Int)->Option (List Int × (List (List Int)))
 | 0,_,_,_,_,_,_,_,_,_,_,_=>none
 | k + 1,x4,ls,wg,gx,x18,x19,tg,ec6,ca8,di1,bo5=>if tg < x19 then(if 0<=tg then(if tg < (x18.length:Int) then(if 0<=x4 then(if x4 < (bo5.length:Int) then(if tg < (ca8.length:Int) then(if x4 < ((Jc ca8 tg).length:Int) then(if tg < ((Jc bo5 x4).length:Int) then(Fw.l1 k x4 ls wg gx x18 x19 (wrap64 (tg + 1)) ec6 ca8 di1 (bo5.set (x4:Int).toNat ((Jc bo5 x4).set (tg:Int).toNat (wrap64 ((rd x18 tg) - (mn (rd x18 tg) (rd (Jc ca8 tg) x4))))))) else(none)) else(none)) else(none)) else(none)) else(none)) else(none)) else(none)) else(Fw.l0 k ls wg (wrap64 (gx + 1)) ec6 ca8 di1 bo5)
end
def Fw.f (k:Nat) (ab:List Int) (aa:List (List Int)):Option (List Int × (List (List Int))):=(Fo.f k ab aa).bind fun bt417=>(Fw.l0 k aa (aa.length:Int) 0 ab aa bt417.1 bt417.2)
def Fw.T8:Bool × List (List Nat × List Nat):=(true,[([],[]),([0],[0]),([],[]),([1,2],[1,2]),([3],[3]),([],[]),([],[]),([],[]),([],[]),([8],[8]),([],[]),([9,10],[9,10]),([11],[11]),([],[]),([12,13],[12,13]),([14],[14]),([7,15],[7,15]),([6,16],[6,16]),([4,5,0,1,2,3,4,5,6,7,8,9,10,11,12,13,14,15,16,17],[4,5]),([18,17,0,1,2,3,4,5,6,7,8,9,10,11,12,13,14,15,16,17],[17,18])])
def Fw.B8:List Nat:=[0,1,0,7,15,0,0,0,0,256,0,1792,3840,0,16128,32512,65408,131008,262143,524287]
theorem Fw.tab8:rtab .any (opsOf Try.f92 8)=Fw.T8:=by kernel_rfl
theorem Fw.bits8:waitsOk Fw.T8.2 Fw.B8=true:=by kernel_rfl
theorem al9 {p:Prop} (h:p:=by repeat(first|(with_reducible first|exact HB.out|apply G4|apply G3|apply G2|refine G1 ?_ ka3.out|refine G1 ?_ ka4.out|refine G1 ?_ ka5.out|refine G1 ?_ GB27.out)|exact HB.out)):p:=h
set_option maxHeartbeats 8000000 in
set_option maxRecDepth 100000 in
theorem Fw.calls (k:Nat) (ae:Option Addr) (ac:Nat) (ab:List Int) (ag:Option Addr) (af:Nat) (aa:List (List Int)) (r1:List Int) (r2:List (List Int)) (w:World) (ca:Kd.C (Kd.int .i64) w ae ab.length ab) (ce:ab.length<=ac) (cb:Kd.C (Kd.slice 3 (Kd.int .i64)) w ag aa.length aa) (cg:aa.length<=af) (h:Fw.f k ab aa=some (r1,r2)) :
  Calls Try.prog 92 #[.agg #[.slice ae ab.length ac, .slice ag aa.length af]] w fun e w'=>∃v0_ v1_:Value,e = .returned (.agg #[v0_,v1_])/\Kd.R (Kd.int .i64) 3 w' w.heap.size (fun _=>True) v0_ r1/\Kd.S (Kd.slice 3 (Kd.int .i64)) 22 w' w.heap.size (fun k_=>some k_≠(v0_:Value).ownBlock) v1_ r2/\Below w.heap.size w w':=by
 have hu25:=Try.underlying25
 have bu:=A_ ca
 have cq:=A_ ce
 clear ca ce
 have bf:=A_ cb
 have cu:=A_ cg
 clear cb cg
 have HB:=A_ (Below.refl w.heap.size w)
 have H:=h
 unfold Fw.f at H
 clear h
 replace H:=Option.bind_eq_some_iff.mp H
 obtain⟨⟨cm5,di2⟩,th,H⟩:=H
 try dsimp only at H
 have A2:=A_ th
 clear th
 have H':=A_ H
 clear H
 go_enter Try.func92,Try.ntmps92
 go_wp2_with (first|((with_reducible refine gd_ 1 ?_);refine bx_ (N:=1) #[.slice ae ab.length ac, .slice ag aa.length af] 25 ?_;intro aa0 hg w3 hbox hb;have o4:=A_ (hbox);have mn5:=A_ ((g69_:w.heap.size<=aa0));have ka3:=mn5;replace HB:=hs_ (al9) hb;clear hb hbox hg)|((with_reducible refine gd_ 2 ?_);refine bx_ (N:=2) #[.slice none 0 0, .slice none 0 0] 25 ?_;intro xq hg w4 hbox hb;have rq:=A_ (hbox);have mn6:=A_ ((g69_:w.heap.size<=xq));have ka4:=mn6;replace HB:=hs_ (al9) hb;have hj4:=nl_ o4 hg;have hj5:=nr_ o4 hg;replace o4:=bb_ o4 hb;clear hb hbox hg;have eu4:=hj4.out;have eu5:=hj5.out;obtain⟨za,zb,ag8,zc⟩:=blk2_ o4)|((with_reducible refine gc_ 111 ?_);refine gl_ 9 Try.func111 #[.agg #[.slice ae ab.length ac, .slice ag aa.length af]] ?_;(refine(Fo.calls k _ _ ab _ _ aa cm5 di2 _ (uf1_ bu) cq.out (uf1_ bf) cu.out A2.out).mono ?_);rintro e w7 ⟨mn7,mn8,rfl,aj,ar,hb⟩;refine⟨_,rfl,?_⟩;have ec7:=A_ (Kd.R_lower aj (G0 (al9)));have ec8:=A_ (Kd.S_lower ar (G0 (al9)));replace o4:=bb_ o4 hb;replace rq:=bb_ rq hb;replace HB:=hs_ (al9) hb)|((with_reducible refine gd_ 3 ?_);refine bx_ (N:=3) #[.slice none 0 0, .slice none 0 0] 25 ?_;intro aa1 hg w8 hbox hb;replace ec7:=rb_ ec7 hb;replace ec8:=sb_ ec8 hb;have wj:=A_ (hbox);have mn9:=A_ ((g69_:w.heap.size<=aa1));have ka5:=mn9;replace HB:=hs_ (al9) hb;have ec9:=nl_ o4 hg;have hj6:=nr_ o4 hg;replace o4:=bb_ o4 hb;have ed0:=nl_ rq hg;have hj7:=nr_ rq hg;replace rq:=bb_ rq hb;clear hb hbox hg;obtain⟨ft,fs,eo9⟩:=Kd.R_slice ec7.out;subst eo9;have bn8:=hj6.out;have bn9:=ec9.out;have ah3:=hj7.out;have ah4:=ed0.out;obtain⟨xg,xh,zv,xi⟩:=blk2_ wj;obtain⟨bq,bb,ao8⟩:=Kd.S_slice ec8.out;subst ao8;obtain⟨sf,sg,sh,si⟩:=blk2_ o4))
 go_loopg [13] k (fun kq v13 w'=>∃(ba:Int) (bo6:List Int) (ca9:List (List Int)) (af2:Value) (be5:Value),v13 = .int .i64 ba/\Gy (Fw.l0 kq aa (aa.length:Int) ba ab aa bo6 ca9=some (r1,r2))/\Gy (kq<=k)/\Gy (Kd.R (Kd.int .i64) 3 w' w.heap.size (fun _=>True) af2 bo6)/\Gy (Kd.S (Kd.slice 3 (Kd.int .i64)) 22 w' w.heap.size (fun k_=>some k_≠(af2:Value).ownBlock) be5 ca9)/\Gy (hc_ w' aa0 #[(.slice ae ab.length ac),(.slice ag aa.length af)] 25)/\Gy (hc_ w' xq #[(.slice none 0 0),(.slice none 0 0)] 25)/\Gy (hc_ w' aa1 #[af2,be5] 25)/\Gy (Below w.heap.size w w'))
 case atStart=>exact⟨(0),(cm5),(di2),(.slice ft cm5.length fs),(.slice bq di2.length bb),(g2_),H',⟨Nat.le_refl _⟩,⟨ra_ ec7⟩,⟨sa_ ec8⟩,⟨ba_ o4⟩,⟨ba_ rq⟩,⟨ba_ wj⟩,⟨al9⟩⟩
 clear H'
 obtain⟨ba,bo6,ca9,af2,be5,rfl,HA,HK1,be6,xr,o4,rq,wj,HB⟩:=hrel
 cases gk with
 | zero=>exact absurd HA.out (by simp[Fw.l0])
 | succ k1=>?_
 have H:=HA.out
 clear HA
 simp only[Fw.l0] at H
 by_cases dl:ba < (aa.length:Int)
 case neg=>
  rw[if_neg dl] at H
  have mb:=decide_eq_false dl
  clear dl
  simp only[Option.some.injEq,Prod.mk.injEq] at H
  obtain⟨rfl,rfl⟩:=H
  have de7:=hj6.out
  have de8:=ec9.out
  have bk0:=hj7.out
  have bk1:=ed0.out
  obtain⟨gh4,gh5,gh6,gh7⟩:=blk2_ wj
  obtain⟨zq,wy,ci8⟩:=Kd.R_slice be6.out
  subst ci8
  have ea3:=hj5.out
  have ea4:=hj4.out
  obtain⟨ey2,ey3,ey4,ey5⟩:=blk2_ rq
  obtain⟨lv,j8,au1⟩:=Kd.S_slice xr.out
  subst au1
  go_wp2
  refine bodyPost_ret (results_cell_row rfl _ _ xq 25 #[.slice zq bo6.length wy, .slice lv ca9.length j8] (0,0) _ rfl (ba_ rq) Try.underlying25 rfl (g1_)) rfl ?_
  exact⟨_,_,g4_,ra_ be6,sa_ xr,al9⟩
 rw[if_pos dl] at H
 have mb:=decide_eq_true dl
 clear dl
 obtain⟨vm,H⟩:=pd_ H
 obtain⟨vg,H⟩:=pd_ H
 have H':=A_ H
 clear H
 obtain⟨⟨ed3,mo0,mo1,ka6,fn8,hj8,hj9⟩,ed1,ed2⟩:=rdp_ (at_L1 bf.out ba)
 cases ka6
 replace fn8:=cl_ HB fn8
 have ka7:=A_ hj9
 have mo2:=A_ hj8
 clear hj9 hj8
 go_wp2
 go_loopg [20] k1 (fun kq v20 w'=>∃(kd:Int) (bo7:List Int) (sr:List (List Int)) (af2:Value) (be5:Value),v20 = .int .i64 kd/\Gy (Fw.l1 kq ba aa (aa.length:Int) ba (Jc aa ba) ((Jc aa ba).length:Int) kd ab aa bo7 sr=some (r1,r2))/\Gy (kq<=k1)/\Gy (Kd.R (Kd.int .i64) 3 w' w.heap.size (fun _=>True) af2 bo7)/\Gy (Kd.S (Kd.slice 3 (Kd.int .i64)) 22 w' w.heap.size (fun k_=>some k_≠(af2:Value).ownBlock) be5 sr)/\Gy (hc_ w' aa0 #[(.slice ae ab.length ac),(.slice (some ed3) aa.length af)] 25)/\Gy (hc_ w' xq #[(.slice none 0 0),(.slice none 0 0)] 25)/\Gy (hc_ w' aa1 #[af2,be5] 25)/\Gy (Below w.heap.size w w'))
 case atStart=>exact⟨(0),(bo6),(ca9),(af2),(be5),(g2_),H',⟨Nat.le_refl _⟩,⟨uf2_ be6⟩,⟨uf3_ xr⟩,⟨uf0_ o4⟩,⟨uf0_ rq⟩,⟨uf0_ wj⟩,⟨al9⟩⟩
 clear H'
 obtain⟨kd,bo7,sr,af2,be5,rfl,HA,HK2,be6,xr,o4,rq,wj,HB⟩:=hrel
 cases gk with
 | zero=>exact absurd HA.out (by simp[Fw.l1])
 | succ k2=>?_
 have H:=HA.out
 clear HA
 simp only[Fw.l1] at H
 by_cases jf:kd < ((Jc aa ba).length:Int)
 case neg=>
  rw[if_neg jf] at H
  have ao9:=decide_eq_false jf
  clear jf
  have H':=A_ H
  clear H
  go_wp2
  go_roundg k2
  case measure=>have:=HK1.out;have:=HK2.out;omega
  case rel=>exact⟨(wrap64 (ba + 1)),(bo7),(sr),(af2),(be5),(g2_),H',⟨g16_⟩,⟨uf2_ be6⟩,⟨uf3_ xr⟩,⟨uf0_ o4⟩,⟨uf0_ rq⟩,⟨uf0_ wj⟩,⟨al9⟩⟩
 rw[if_pos jf] at H
 have ao9:=decide_eq_true jf
 clear jf
 obtain⟨qm,H⟩:=pd_ H
 obtain⟨bh8,H⟩:=pd_ H
 obtain⟨dx2,H⟩:=pd_ H
 obtain⟨ao0,H⟩:=pd_ H
 obtain⟨ba3,H⟩:=pd_ H
 obtain⟨vl,H⟩:=pd_ H
 obtain⟨ji25,hji25⟩:∃j_:Int,(mn (rd (Jc aa ba) kd) (rd (Jc aa kd) ba))=j_:=⟨_,rfl⟩
 first|rw[hji25] at H|simp only[hji25] at H
 have hji25_:(if (rd (Jc aa kd) ba) < (rd (Jc aa ba) kd) then(rd (Jc aa kd) ba) else(rd (Jc aa ba) kd))=ji25:=hji25
 obtain⟨ch1,H⟩:=pd_ H
 obtain⟨fn9,hyq⟩:∃y_:List Int,y_=((Jc sr ba).set (kd:Int).toNat (wrap64 ((rd (Jc aa ba) kd) - (ji25)))):=⟨_,rfl⟩
 replace H:(Fw.l1 k2 ba aa (aa.length:Int) ba (Jc aa ba) ((Jc aa ba).length:Int) (wrap64 (kd + 1)) ab aa bo7 (sr.set (ba:Int).toNat fn9))=some (r1,r2):=qh_
 have ka8:=A_ hyq
 clear hyq
 obtain⟨hk1,hyq⟩:∃y_:List (List Int),y_=(sr.set (ba:Int).toNat fn9):=⟨_,rfl⟩
 replace H:(Fw.l1 k2 ba aa (aa.length:Int) ba (Jc aa ba) ((Jc aa ba).length:Int) (wrap64 (kd + 1)) ab aa bo7 hk1)=some (r1,r2):=qh_
 have ka9:=A_ hyq
 clear hyq
 have H':=A_ H
 clear H
 obtain⟨⟨mo3,kb0,hk2⟩,fo0,fo1⟩:=rdp_ (Kd.at_int ka7.out kd)
 cases kb0
 replace hk2:=cl_ HB hk2
 try go_wp2
 replace be6:=rd_ be6
 replace xr:=sd_ xr
 replace o4:=bd_ o4
 replace rq:=bd_ rq
 replace wj:=bd_ wj
 replace HB:=A_ (G2 HB.out)
 obtain⟨dw2,cj0,bc1⟩:=Kd.S_slice xr.out
 (first|subst bc1|(injection bc1 with f1_ f2_ f3_;have f4_:=f1_.symm;have f5_:=f3_.symm;clear f1_ f2_ f3_;subst f4_;subst f5_))
 have ed4:0<=(ba:Int):=od_
 have ed5:ba < (sr.length:Int):=od_
 obtain⟨fo2,mo4,kb1,kb2,ed6,hk3,hk4⟩:=at_L1 (Kd.S_reads' xr.out).2.2 ba ed4 ed5
 cases kb2
 obtain⟨ce426,hce426,hMe426,hcc426⟩:=Kd.S_get xr.out [] ba ed4 (by first|exact ed5|exact od_|(have e_:=(Kd.S_reads' xr.out).1;omega))
 obtain⟨ve426_0,rfl,ge426_0⟩:=hMe426
 have hv426_0:=hcc426 0 _ rfl
 rw[Nat.add_zero,show((Kd.slice 3 (Kd.int .i64))).sz=1 from rfl,Nat.mul_one] at hv426_0
 replace hv426_0:=Option.some.inj (hv426_0.symm.trans ed6)
 rw[hv426_0] at ge426_0
 have cb0:=A_ (show Kd.R (Kd.int .i64) 3 _ _ _ _ (Jc sr ba) from ge426_0)
 clear hv426_0 ge426_0
 have HX426_0:=A_ ed6
 clear hcc426 hce426
 have kb3:=A_ hk4
 have mo5:=A_ hk3
 clear hk4 hk3
 replace ed4:=eq_true ed4
 replace ed5:=eq_true ed5
 obtain⟨⟨kb4,mo6,kb5,kb6,ed7,hk5,hk6⟩,fo3,fo4⟩:=rdp_ (at_L1 bf.out kd)
 have kb7:=ed7
 obtain rfl:ed3=kb4:=(by injection kb6)
 replace ed7:=cl_ HB ed7
 have hk7:=A_ hk6
 have mo7:=A_ hk5
 clear hk6 hk5
 obtain⟨⟨hk8,kb8,ed8⟩,fo5,fo6⟩:=rdp_ (Kd.at_int hk7.out ba)
 have kb9:=ed8
 cases kb8
 replace ed8:=cl_ HB ed8
 have p27:0<=(kd:Int):=od_
 have q27:(kd:Int) < (((Jc sr ba).length:Int):Int):=od_
 obtain⟨hl3,bv6,bj9,hl4,gl27,cl27,HG27⟩:=Kd.R_form cb0.out (by omega)
 (first|cases bj9|(injection bj9 with ea_ en_ ec_;(first|subst ea_|(injection ea_ with ea_;subst ea_));subst ec_;clear en_))
 have GB27:=A_ hl4
 have GG27:=A_ HG27
 clear hl4 gl27 HG27
 obtain⟨kc0,hf27_0⟩:=Kd.R_celln 0 cb0.out (kd:Int) p27 q27
 replace p27:=eq_true p27
 replace q27:=eq_true q27
 have hq30:(ba:Int) < (sr.length:Int):=(by have h_:(ba:Int) < ((sr.length:Int):Int):=od_;first|exact h_|(have e_:=(Kd.S_reads' xr.out).1;omega)|simpa only[List.length_set,List.length_set] using h_)
 obtain⟨oki30,ce30,hcl30,hM30,hcc30,hok30,hbk30⟩:=Kd.S_borrow xr.out [] (ba:Int) (od_) (by first|exact hq30|exact od_|(have e_:=(Kd.S_reads' xr.out).1;omega))
 obtain⟨ve30_0,rfl,ge30_0⟩:=hM30
 have hv30:=hcc30 0 _ rfl
 rw[Nat.add_zero,show((Kd.slice 3 (Kd.int .i64))).sz=1 from rfl,Nat.mul_one] at hv30
 replace hv30:=Option.some.inj (hv30.symm.trans HX426_0.out)
 subst hv30
 clear hcc30 hcl30
 replace ge30_0:=(show Kd.R (Kd.int .i64) 3 _ _ _ _ (Jc sr ba) from ge30_0)
 have HP30:=Kd.R_putg ge30_0 (kd:Int) (wrap64 ((rd (Jc aa ba) kd) - (ji25)))
 rw[<- ka8.out] at HP30
 have HS30:=hbk30 HP30.2 (fun k_ e_=>by injection e_ with e_;subst e_;exact ge30_0.1 _ rfl) (x':=fn9) (Kd.M_row HP30.1)
 rw[<- ka9.out] at HS30
 have HQ30:=A_ HS30
 clear HP30 HS30 hbk30 hok30
 refine start_ (n:=20) (S:=fun w'=>w'.cell? ⟨aa1,0,none⟩=some (af2)/\w'.cell? ⟨aa1,1,none⟩=some (.slice (some fo2) sr.length cj0)/\w'.cell? ⟨aa0,0,none⟩=some (.slice ae ab.length ac)/\w'.cell? ⟨aa0,1,none⟩=some (.slice (some ed3) aa.length af)/\w'.cell? (fo2.add (ba).toNat)=some (.slice (some ⟨hl3,0,none⟩) (Jc sr ba).length kb1)/\w'.cell? (ed3.add (kd).toNat)=some (.slice (some hk8) (Jc aa kd).length kb5)/\w'.cell? (hk8.add (ba).toNat)=some (.int .i64 (rd (Jc aa kd) ba))) (ds:=[19]) (tl_ 20 0) (g1_) rfl (g1_) ⟨(Gz wj.out 0).trans rfl,(Gz wj.out 1).trans rfl,(Gz o4.out 0).trans rfl,(Gz o4.out 1).trans rfl,ed6,((cl_ HB kb7).trans rfl),((cl_ HB kb9).trans rfl)⟩ (fun hHeld=>?_);refine Jm Fw.tab8 Fw.bits8 (fun HT_ HW_=>?_)
 generalize wr.drew=w28 at be6 xr o4 rq wj HB GG27 cb0 HQ30 kb3 hk7 HX426_0 hf27_0 kc0 ed6 ed7 ed8 hHeld |-
 refine pw_ 0 25 (tl_ 20 1) ?_
 refine pw_ 2 27 (tl_ 20 5) ?_
 refine pw_ 5 30 (tl_ 20 37) ?_
 refine pw_ 6 31 (tl_ 20 101) ?_
 refine pw_ 7 32 (tl_ 20 229) ?_
 refine pw_ 8 33 (tl_ 20 485) ?_
 refine pw_ 10 35 (tl_ 20 1509) ?_
 refine pw_ 13 38 (tl_ 20 9701) ?_
 refine tk4_ 1 26 (tl_ 20 9703) hHeld ?_
 refine pw_ 3 28 (tl_ 20 9711) ?_
 refine tk4_ 4 29 (tl_ 20 9727) hHeld ?_
 refine tk4_ 9 34 (tl_ 20 10239) hHeld ?_
 refine pw_ 11 36 (tl_ 20 12287) ?_
 refine tk4_ 12 37 (tl_ 20 16383) hHeld ?_
 refine pw_ 14 39 (tl_ 20 32767) ?_
 refine tk4_ 15 40 (tl_ 20 65535) hHeld ?_
 refine pw_ 16 41 (tl_ 20 131071) ?_
 refine pw_ 17 42 (tl_ 20 262143) ?_
 refine pw_ 18 43 (tl_ 20 524287) ?_
 refine last_ (i:=19) (N:=none) (tl_ 20 1048575) rfl rfl (Jo HT_.out (g1_)) (by decide) (fun K hK=>?_)
 refine skip_ (w1:=?_) (by rfl) rfl ?_ ?_
 rotate_left
 ·go_simp
  rfl
 refine hK.out _ _ ?_
 clear hK K
 refine done_ (done_of HT_.out (g1_)) ?_
 try go_wp2
 go_roundg k2
 case measure=>have:=HK1.out;have:=HK2.out;omega
 case rel=>exact⟨(wrap64 (kd + 1)),(bo7),(hk1),(af2),(.slice (some fo2) sr.length cj0),(g2_),H',⟨g16_⟩,⟨by(with_reducible repeat(first|apply Kd.R_alloc|apply Kd.R_drewN|apply Kd.R_drew));exact Kd.R_mono (Kd.R_far (p:=⟨hl3,(kd:Int).toNat,none⟩) (Kd.R_far1 be6.out rfl ((cb0.out.1 _ rfl).1)) (fun _ hk=>hk.2) (.int .i64 (wrap64 ((rd (Jc aa ba) kd) - (ji25))))) (fun _ hk=>trivial)⟩,⟨uf3_ HQ30⟩,⟨by(with_reducible repeat(first|refine G6 ?_ _|refine G7 ?_|refine G5 ?_ _));refine Jf ?_ (by have h_:=Kd.R_ne cb0.out o4.out (by decide);intro e_;exact h_ (g6_)) _;exact uf0_ o4⟩,⟨by(with_reducible repeat(first|refine G6 ?_ _|refine G7 ?_|refine G5 ?_ _));refine Jf ?_ (by have h_:=Kd.R_ne cb0.out rq.out (by decide);intro e_;exact h_ (g6_)) _;exact uf0_ rq⟩,⟨by(with_reducible repeat(first|refine G6 ?_ _|refine G7 ?_|refine G5 ?_ _));refine Jf ?_ (by have h_:=Kd.R_ne cb0.out wj.out (by decide);intro e_;exact h_ (g6_)) _;exact uf0_ wj⟩,⟨al9⟩⟩
def Gc.f (a0:Int):Option (Bool):=some (a0 != a0)
set_option maxHeartbeats 8000000 in
set_option maxRecDepth 100000 in
theorem Gc.calls (a0:Int) (r:Bool) (w:World) (h:Gc.f a0=some r) :
  Calls Try.prog 130 #[.int .i64 a0] w fun e w'=>e = .returned (.bool r)/\Drawn0 w w':=by
 have H:(some (a0 != a0))=some r:=h
 clear h
 obtain rfl:=Option.some.inj H
 go_enter Try.func130,Try.ntmps130
 go_wp2
 go_ret
 exact⟨g2_,g5_⟩
def Gm.f (a0:Int) (a1:Int):Option (Int):=(Gc.f a0).bind fun cy9=>((Gc.f a1).bind fun bk2=>(if cy9=true then(if bk2=true then(some 0) else(some (-1))) else(if bk2=true then(some 1) else(if a0 < a1 then(some (-1)) else(if a0 > a1 then(some 1) else(some 0))))))
set_option maxHeartbeats 8000000 in
set_option maxRecDepth 100000 in
theorem Gm.calls (a0:Int) (a1:Int) (r:Int) (w:World) (h:Gm.f a0 a1=some r) :
  Calls Try.prog 120 #[.int .i64 a0, .int .i64 a1] w fun e w'=>e = .returned (.int .i64 r)/\Drawn0 w w':=by
 have H:=h
 unfold Gm.f at H
 clear h
 obtain⟨cy9,A3,H⟩:=bind_ H
 obtain⟨bk2,A4,H⟩:=bind_ H
 by_cases c5:cy9=true
 ·subst c5
  replace H:=ifp_ H
  by_cases c6:bk2=true
  ·subst c6
   replace H:=ifp_ H
   obtain rfl:=Option.some.inj H
   go_enter Try.func120,Try.ntmps120
   go_wp2_with (first|((with_reducible refine gc_ 130 ?_);refine gl_ 8 Try.func130 #[.int .i64 a0] ?_;(with_reducible refine(Gc.calls a0 true _ A3.out).mono ?_);rintro e w' ⟨rfl,⟨nd,rfl⟩⟩;refine⟨_,rfl,?_⟩)|((with_reducible refine gc_ 130 ?_);refine gl_ 10 Try.func130 #[.int .i64 a1] ?_;(with_reducible refine(Gc.calls a1 true _ A4.out).mono ?_);rintro e w' ⟨rfl,⟨nd,rfl⟩⟩;refine⟨_,rfl,?_⟩))
   go_ret
   exact⟨g2_,g5_⟩
  replace c6:=Bool.eq_false_iff.mpr c6
  subst c6
  replace H:=ifn_ H
  obtain rfl:=Option.some.inj H
  go_enter Try.func120,Try.ntmps120
  go_wp2_with (first|((with_reducible refine gc_ 130 ?_);refine gl_ 8 Try.func130 #[.int .i64 a0] ?_;(with_reducible refine(Gc.calls a0 true _ A3.out).mono ?_);rintro e w' ⟨rfl,⟨nd,rfl⟩⟩;refine⟨_,rfl,?_⟩)|((with_reducible refine gc_ 130 ?_);refine gl_ 10 Try.func130 #[.int .i64 a1] ?_;(with_reducible refine(Gc.calls a1 false _ A4.out).mono ?_);rintro e w' ⟨rfl,⟨nd,rfl⟩⟩;refine⟨_,rfl,?_⟩))
  go_ret
  exact⟨g2_,g5_⟩
 replace c5:=Bool.eq_false_iff.mpr c5
 subst c5
 replace H:=ifn_ H
 by_cases c7:bk2=true
 ·subst c7
  replace H:=ifp_ H
  obtain rfl:=Option.some.inj H
  go_enter Try.func120,Try.ntmps120
  go_wp2_with (first|((with_reducible refine gc_ 130 ?_);refine gl_ 8 Try.func130 #[.int .i64 a0] ?_;(with_reducible refine(Gc.calls a0 false _ A3.out).mono ?_);rintro e w' ⟨rfl,⟨nd,rfl⟩⟩;refine⟨_,rfl,?_⟩)|((with_reducible refine gc_ 130 ?_);refine gl_ 10 Try.func130 #[.int .i64 a1] ?_;(with_reducible refine(Gc.calls a1 true _ A4.out).mono ?_);rintro e w' ⟨rfl,⟨nd,rfl⟩⟩;refine⟨_,rfl,?_⟩))
  go_ret
  exact⟨g2_,g5_⟩
 replace c7:=Bool.eq_false_iff.mpr c7
 subst c7
 replace H:=ifn_ H
 by_cases c8:a0 < a1
 ·rw[if_pos c8] at H
  have ad6:=decide_eq_true c8
  clear c8
  obtain rfl:=Option.some.inj H
  go_enter Try.func120,Try.ntmps120
  go_wp2_with (first|((with_reducible refine gc_ 130 ?_);refine gl_ 8 Try.func130 #[.int .i64 a0] ?_;(with_reducible refine(Gc.calls a0 false _ A3.out).mono ?_);rintro e w' ⟨rfl,⟨nd,rfl⟩⟩;refine⟨_,rfl,?_⟩)|((with_reducible refine gc_ 130 ?_);refine gl_ 10 Try.func130 #[.int .i64 a1] ?_;(with_reducible refine(Gc.calls a1 false _ A4.out).mono ?_);rintro e w' ⟨rfl,⟨nd,rfl⟩⟩;refine⟨_,rfl,?_⟩))
  go_ret
  exact⟨g2_,g5_⟩
 rw[if_neg c8] at H
 have ad6:=decide_eq_false c8
 clear c8
 by_cases c9:a0 > a1
 ·rw[if_pos c9] at H
  have ac3:=decide_eq_true c9
  clear c9
  obtain rfl:=Option.some.inj H
  go_enter Try.func120,Try.ntmps120
  go_wp2_with (first|((with_reducible refine gc_ 130 ?_);refine gl_ 8 Try.func130 #[.int .i64 a0] ?_;(with_reducible refine(Gc.calls a0 false _ A3.out).mono ?_);rintro e w' ⟨rfl,⟨nd,rfl⟩⟩;refine⟨_,rfl,?_⟩)|((with_reducible refine gc_ 130 ?_);refine gl_ 10 Try.func130 #[.int .i64 a1] ?_;(with_reducible refine(Gc.calls a1 false _ A4.out).mono ?_);rintro e w' ⟨rfl,⟨nd,rfl⟩⟩;refine⟨_,rfl,?_⟩))
  go_ret
  exact⟨g2_,g5_⟩
 rw[if_neg c9] at H
 have ac3:=decide_eq_false c9
 clear c9
 obtain rfl:=Option.some.inj H
 go_enter Try.func120,Try.ntmps120
 go_wp2_with (first|((with_reducible refine gc_ 130 ?_);refine gl_ 8 Try.func130 #[.int .i64 a0] ?_;(with_reducible refine(Gc.calls a0 false _ A3.out).mono ?_);rintro e w' ⟨rfl,⟨nd,rfl⟩⟩;refine⟨_,rfl,?_⟩)|((with_reducible refine gc_ 130 ?_);refine gl_ 10 Try.func130 #[.int .i64 a1] ?_;(with_reducible refine(Gc.calls a1 false _ A4.out).mono ?_);rintro e w' ⟨rfl,⟨nd,rfl⟩⟩;refine⟨_,rfl,?_⟩))
 go_ret
 exact⟨g2_,g5_⟩
def F0.l0:Nat->List Int->List Int->List Int->Int->Int->Option (Int)
 | 0,_,_,_,_,_=>none
 | k + 1,x0,x1,x9,wv,ls=>if ls < wv then(if 0<=ls then(if ls < (x9.length:Int) then(if ls ≥ (x1.length:Int) then(some 1) else(if ls < (x1.length:Int) then((Gm.f (rd x9 ls) (rd x1 ls)).bind fun aw4=>(if aw4=0 then(F0.l0 k x0 x1 x9 wv (wrap64 (ls + 1))) else(some aw4))) else(none))) else(none)) else(none)) else(if (x0.length:Int) < (x1.length:Int) then(some (-1)) else(some 0))
def F0.f (k:Nat) (l0:List Int) (l1:List Int):Option (Int):=F0.l0 k l0 l1 l0 (l0.length:Int) 0
set_option maxHeartbeats 8000000 in
set_option maxRecDepth 100000 in
theorem F0.calls (k:Nat) (A0:Option Addr) (c0:Nat) (l0:List Int) (A1:Option Addr) (c1:Nat) (l1:List Int) (r:Int) (w:World) (fc:Kd.C (Kd.int .i64) w A0 l0.length l0) (gc:l0.length<=c0) (j6:Kd.C (Kd.int .i64) w A1 l1.length l1) (kh:l1.length<=c1) (h:F0.f k l0 l1=some r) :
  Calls Try.prog 121 #[.slice A0 l0.length c0, .slice A1 l1.length c1] w fun e w'=>e = .returned (.int .i64 r)/\Drawn0 w w':=by
 have i3:=A_ fc
 have qn:=A_ gc
 clear fc gc
 have h7:=A_ j6
 have yz:=A_ kh
 clear j6 kh
 have H:=h
 unfold F0.f at H
 clear h
 have H':=A_ H
 clear H
 go_enter Try.func121,Try.ntmps121
 go_wp2
 go_loopg [11] k (fun kq v11 w'=>∃(gj:Int),v11 = .int .i64 gj/\Gy (F0.l0 kq l0 l1 l0 (l0.length:Int) gj=some r)/\Gy (kq<=k)/\Drawn0 w w')
 case atStart=>exact⟨(0),(g2_),H',⟨Nat.le_refl _⟩,g5_⟩
 clear H'
 obtain⟨gj,rfl,HA,HK1,⟨m1,rfl⟩⟩:=hrel
 cases gk with
 | zero=>exact absurd HA.out (by simp[F0.l0])
 | succ k1=>?_
 have H:=HA.out
 clear HA
 simp only[F0.l0] at H
 by_cases c3:gj < (l0.length:Int)
 case neg=>
  rw[if_neg c3] at H
  have jd:=decide_eq_false c3
  clear c3
  by_cases fb:(l0.length:Int) < (l1.length:Int)
  ·rw[if_pos fb] at H
   have o9:=decide_eq_true fb
   have bw7:decide (l0.length < l1.length)=true:=decide_eq_true (Int.ofNat_lt.mp fb)
   clear fb
   obtain rfl:=Option.some.inj H
   go_wp2
   go_ret
   exact⟨g2_,g5_⟩
  rw[if_neg fb] at H
  have o9:=decide_eq_false fb
  have bw7:decide (l0.length < l1.length)=false:=decide_eq_false (fun h=>fb (Int.ofNat_lt.mpr h))
  clear fb
  obtain rfl:=Option.some.inj H
  go_wp2
  go_ret
  exact⟨g2_,g5_⟩
 rw[if_pos c3] at H
 have jd:=decide_eq_true c3
 clear c3
 obtain⟨mv,H⟩:=pd_ H
 obtain⟨ij,H⟩:=pd_ H
 by_cases c6:gj ≥ (l1.length:Int)
 ·rw[if_pos c6] at H
  have nk:=decide_eq_true c6
  clear c6
  obtain rfl:=Option.some.inj H
  obtain⟨⟨hg4,dh3,hg5⟩,aq7,aq8⟩:=rdp_ (Kd.at_int i3.out gj)
  cases dh3
  go_wp2
  go_ret
  exact⟨g2_,g5_⟩
 rw[if_neg c6] at H
 have nk:=decide_eq_false c6
 clear c6
 obtain⟨ud,H⟩:=pd_ H
 obtain⟨aw4,A8,H⟩:=bind_ H
 by_cases c9:aw4=0
 ·rw[if_pos c9] at H
  have ac3:(aw4 == 0)=true:=beq_iff_eq.mpr c9
  have jx0:(aw4 != 0)=false:=bne_eq_false_iff_eq.mpr c9
  clear c9
  have H':=A_ H
  clear H
  obtain⟨⟨hg4,dh3,hg5⟩,aq7,aq8⟩:=rdp_ (Kd.at_int i3.out gj)
  cases dh3
  obtain⟨⟨jx1,fl5,jx2⟩,ca3,ca4⟩:=rdp_ (Kd.at_int h7.out gj)
  cases fl5
  go_wp2_with (first|((with_reducible refine gc_ 120 ?_);refine gl_ 26 Try.func120 #[.int .i64 (rd l0 gj), .int .i64 (rd l1 gj)] ?_;(with_reducible refine(Gm.calls (rd l0 gj) (rd l1 gj) aw4 _ A8.out).mono ?_);rintro e w' ⟨rfl,⟨nd,rfl⟩⟩;refine⟨_,rfl,?_⟩))
  go_roundg k1
  case measure=>have:=HK1.out;omega
  case rel=>exact⟨(wrap64 (gj + 1)),(g2_),H',⟨g13_⟩,g5_⟩
 rw[if_neg c9] at H
 have ac3:(aw4 == 0)=false:=beq_eq_false_iff_ne.mpr c9
 have jx0:(aw4 != 0)=true:=bne_iff_ne.mpr c9
 obtain rfl:=Option.some.inj H
 obtain⟨⟨hg4,dh3,hg5⟩,aq7,aq8⟩:=rdp_ (Kd.at_int i3.out gj)
 cases dh3
 obtain⟨⟨jx1,fl5,jx2⟩,ca3,ca4⟩:=rdp_ (Kd.at_int h7.out gj)
 cases fl5
 go_wp2_with (first|((with_reducible refine gc_ 120 ?_);refine gl_ 26 Try.func120 #[.int .i64 (rd l0 gj), .int .i64 (rd l1 gj)] ?_;(with_reducible refine(Gm.calls (rd l0 gj) (rd l1 gj) aw4 _ A8.out).mono ?_);rintro e w' ⟨rfl,⟨nd,rfl⟩⟩;refine⟨_,rfl,?_⟩))
 go_ret
 exact⟨g2_,g5_⟩
def F3.l0:Nat->Int->List Int->Int->Int->Option (Int)
 | 0,_,_,_,_=>none
 | k + 1,x3,x6,x7,x8=>if x8 < x7 then(if 0<=x8 then(if x8 < (x6.length:Int) then(if (rd x6 x8)=x3 then(F3.l0 k x3 x6 x7 (wrap64 (x8 + 1))) else(some (rd x6 x8))) else(none)) else(none)) else(some x3)
def F3.f (k:Nat) (l0:List Int):Option (Int):=F3.l0 k 0 l0 (l0.length:Int) 0
theorem F3.mq {p:Prop} (h:p:=by
 repeat' first
 | (with_reducible exact ih0 _ _ _ _)
 | (with_reducible exact LeO.refl _)
 | (with_reducible exact LeO.none _)
 | (with_reducible refine LeO.ite ?_ ?_)
 | (with_reducible refine LeO.bind ?_ (fun _=>?_))
 | exact ih0 _ _ _ _
 | exact LeO.none _
 | refine LeO.ite ?_ ?_
 | refine LeO.bind ?_ (fun _=>?_)):p:=h
theorem F3.mono_l:∀k,(∀y0 y1 y2 y3,LeO (F3.l0 k y0 y1 y2 y3) (F3.l0 (k + 1) y0 y1 y2 y3))
 | 0=>fun _ _ _ _ r h=>by simp[F3.l0] at h
 | k + 1=>by
  have ih0:=F3.mono_l k
  ·intro y0 y1 y2 y3
   unfold F3.l0
   exact F3.mq
theorem F3.mono:∀a0 k,LeO (F3.f k a0) (F3.f (k + 1) a0):=by
 intro a0 k
 have ih0:=F3.mono_l k
 unfold F3.f
 exact F3.mq
set_option maxHeartbeats 8000000 in
set_option maxRecDepth 100000 in
theorem F3.calls (k:Nat) (A0:Option Addr) (c0:Nat) (l0:List Int) (r:Int) (w:World) (fc:Kd.C (Kd.int .i64) w A0 l0.length l0) (gc:l0.length<=c0) (h:F3.f k l0=some r) :
  Calls Try.prog 119 #[.slice A0 l0.length c0] w fun e w'=>e = .returned (.int .i64 r)/\Drawn0 w w':=by
 have i3:=A_ fc
 have qn:=A_ gc
 clear fc gc
 have H:(F3.l0 k 0 l0 (l0.length:Int) 0)=some r:=h
 clear h
 have H':=A_ H
 clear H
 go_enter Try.func119,Try.ntmps119
 go_wp2
 go_loopg [8] k (fun kq v8 w'=>∃(gu:Int),v8 = .int .i64 gu/\Gy (F3.l0 kq 0 l0 (l0.length:Int) gu=some r)/\Gy (kq<=k)/\Drawn0 w w')
 case atStart=>exact⟨(0),(g2_),H',⟨Nat.le_refl _⟩,g5_⟩
 clear H'
 obtain⟨gu,rfl,HA,HK1,⟨m1,rfl⟩⟩:=hrel
 cases gk with
 | zero=>exact absurd HA.out (by simp[F3.l0])
 | succ k1=>?_
 have H:=HA.out
 clear HA
 simp only[F3.l0] at H
 by_cases c2:gu < (l0.length:Int)
 case neg=>
  rw[if_neg c2] at H
  have yt:=decide_eq_false c2
  clear c2
  obtain rfl:=Option.some.inj H
  go_wp2
  go_ret
  exact⟨g2_,g5_⟩
 rw[if_pos c2] at H
 have yt:=decide_eq_true c2
 clear c2
 obtain⟨jd,H⟩:=pd_ H
 obtain⟨mv,H⟩:=pd_ H
 by_cases c5:(rd l0 gu)=0
 ·rw[if_pos c5] at H
  have ij:((rd l0 gu) == 0)=true:=beq_iff_eq.mpr c5
  have bs5:((rd l0 gu) != 0)=false:=bne_eq_false_iff_eq.mpr c5
  clear c5
  have H':=A_ H
  clear H
  obtain⟨⟨kc1,fo7,kc2⟩,cb1,cb2⟩:=rdp_ (Kd.at_int i3.out gu)
  cases fo7
  go_wp2
  go_roundg k1
  case measure=>have:=HK1.out;omega
  case rel=>exact⟨(wrap64 (gu + 1)),(g2_),H',⟨g13_⟩,g5_⟩
 rw[if_neg c5] at H
 have ij:((rd l0 gu) == 0)=false:=beq_eq_false_iff_ne.mpr c5
 have bs5:((rd l0 gu) != 0)=true:=bne_iff_ne.mpr c5
 obtain rfl:=Option.some.inj H
 obtain⟨⟨kc1,fo7,kc2⟩,cb1,cb2⟩:=rdp_ (Kd.at_int i3.out gu)
 cases fo7
 go_wp2
 go_ret
 exact⟨g2_,g5_⟩
def F1.l0:Nat->List Int->Int->Int->Int->Option (Int)
 | 0,_,_,_,_=>none
 | k + 1,x0,x1,x7,x8=>if x8 < x7 then(if 0<=x8 then(if x8 < (x0.length:Int) then(if x1=(rd x0 x8) then(some x8) else(F1.l0 k x0 x1 x7 (wrap64 (x8 + 1)))) else(none)) else(none)) else(some (-1))
def F1.f (k:Nat) (l0:List Int) (a1:Int):Option (Int):=F1.l0 k l0 a1 (l0.length:Int) 0
set_option maxHeartbeats 8000000 in
set_option maxRecDepth 100000 in
theorem F1.calls (k:Nat) (A0:Option Addr) (c0:Nat) (l0:List Int) (a1:Int) (r:Int) (w:World) (fc:Kd.C (Kd.int .i64) w A0 l0.length l0) (gc:l0.length<=c0) (h:F1.f k l0 a1=some r) :
  Calls Try.prog 128 #[.slice A0 l0.length c0, .int .i64 a1] w fun e w'=>e = .returned (.int .i64 r)/\Drawn0 w w':=by
 have i3:=A_ fc
 have qn:=A_ gc
 clear fc gc
 have H:=h
 unfold F1.f at H
 clear h
 have H':=A_ H
 clear H
 go_enter Try.func128,Try.ntmps128
 go_wp2
 go_loopg [8] k (fun kq v8 w'=>∃(gu:Int),v8 = .int .i64 gu/\Gy (F1.l0 kq l0 a1 (l0.length:Int) gu=some r)/\Gy (kq<=k)/\Drawn0 w w')
 case atStart=>exact⟨(0),(g2_),H',⟨Nat.le_refl _⟩,g5_⟩
 clear H'
 obtain⟨gu,rfl,HA,HK1,⟨m1,rfl⟩⟩:=hrel
 cases gk with
 | zero=>exact absurd HA.out (by simp[F1.l0])
 | succ k1=>?_
 have H:=HA.out
 clear HA
 simp only[F1.l0] at H
 by_cases c3:gu < (l0.length:Int)
 case neg=>
  rw[if_neg c3] at H
  have jd:=decide_eq_false c3
  clear c3
  obtain rfl:=Option.some.inj H
  go_wp2
  go_ret
  exact⟨g2_,g5_⟩
 rw[if_pos c3] at H
 have jd:=decide_eq_true c3
 clear c3
 obtain⟨mv,H⟩:=pd_ H
 obtain⟨ij,H⟩:=pd_ H
 by_cases c6:a1=(rd l0 gu)
 ·rw[if_pos c6] at H
  have nk:(a1 == (rd l0 gu))=true:=beq_iff_eq.mpr c6
  have bs6:(a1 != (rd l0 gu))=false:=bne_eq_false_iff_eq.mpr c6
  clear c6
  obtain rfl:=Option.some.inj H
  obtain⟨⟨kx7,fu8,kx8⟩,cc9,cd0⟩:=rdp_ (Kd.at_int i3.out gu)
  cases fu8
  go_wp2
  go_ret
  exact⟨g2_,g5_⟩
 rw[if_neg c6] at H
 have nk:(a1 == (rd l0 gu))=false:=beq_eq_false_iff_ne.mpr c6
 have bs6:(a1 != (rd l0 gu))=true:=bne_iff_ne.mpr c6
 have H':=A_ H
 clear H
 obtain⟨⟨kx7,fu8,kx8⟩,cc9,cd0⟩:=rdp_ (Kd.at_int i3.out gu)
 cases fu8
 go_wp2
 go_roundg k1
 case measure=>have:=HK1.out;omega
 case rel=>exact⟨(wrap64 (gu + 1)),(g2_),H',⟨g13_⟩,g5_⟩
def Gh.f (k:Nat) (l0:List Int) (a1:Int):Option (Bool):=(F1.f k l0 a1).bind fun do2=>(some (decide (do2 ≥ 0)))
set_option maxHeartbeats 8000000 in
set_option maxRecDepth 100000 in
theorem Gh.calls (k:Nat) (A0:Option Addr) (c0:Nat) (l0:List Int) (a1:Int) (r:Bool) (w:World) (fc:Kd.C (Kd.int .i64) w A0 l0.length l0) (gc:l0.length<=c0) (h:Gh.f k l0 a1=some r) :
  Calls Try.prog 116 #[.slice A0 l0.length c0, .int .i64 a1] w fun e w'=>e = .returned (.bool r)/\Drawn0 w w':=by
 have i3:=A_ fc
 have qn:=A_ gc
 clear fc gc
 have H:=h
 unfold Gh.f at H
 clear h
 obtain⟨do2,A3,H⟩:=bind_ H
 obtain rfl:=Option.some.inj H
 go_enter Try.func116,Try.ntmps116
 go_wp2_with (first|((with_reducible refine gc_ 128 ?_);refine gl_ 7 Try.func128 #[.slice A0 l0.length c0, .int .i64 a1] ?_;(refine(F1.calls k _ _ l0 a1 do2 _ (cu_ i3.out) qn.out A3.out).mono ?_);rintro e w' ⟨rfl,⟨nd,rfl⟩⟩;refine⟨_,rfl,?_⟩))
 go_ret
 exact⟨g2_,g5_⟩
end Go.Proofs.Ytfooakkhkehpiaa.PU
